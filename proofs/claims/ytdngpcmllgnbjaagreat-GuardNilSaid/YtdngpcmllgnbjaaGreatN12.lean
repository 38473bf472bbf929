/- A part of the walks by abstract values: no statement of its own. -/
import Derived.Test.YtdngpcmllgnbjaaGreatN5
import Derived.Test.YtdngpcmllgnbjaaGreatN6
import Derived.Shelf.RegionOpenPlain
import Derived.WalkKit
import Derived.Lib.Walk
import Derived.Lib.SliceRun
import Derived.Lib.AppendZerosOnto
import Derived.KernelRfl
import Derived.RangeFuncFrom
import Derived.RangeFuncLeaves
import Derived.RangeFuncWrites
import Derived.Shelf.Abstract
import Derived.OwnWalkIn
import Derived.TacticsInMore
import Derived.LoopNIn
import Derived.LoopIn
set_option linter.unusedVariables false
set_option linter.unusedSimpArgs false
set_option linter.unusedVariables false
set_option linter.unusedSimpArgs false
namespace Go.Cg
open Go.Proofs Go.Shelf Go.RowKit Go.Lib
set_option maxHeartbeats 20000000
theorem zp4:∃ i,Tryz.prog.info? 44=some i∧i.zero=some (.agg #[.int .i64 0,.int .i64 0,.int .i64 0,.bool false])∧i.size=4∧i.bytes=32:=by
 obtain ⟨i,h1,h2,h3,h4,_⟩:=qF (t:=44) zh rfl
 exact ⟨i,h1,h4,h2,h3⟩
def zTy:Value:=.agg #[.int .i64 0,.int .i64 0,.int .i64 0,.bool false]
set_option maxRecDepth 100000 in
theorem znW (n:Nat) (hn0:0 < n) (hn:n≤1000) (w:World) :
  Calls Tryz.prog 342 #[.slice none 0 0,.int .i64 n] w fun e w'=>e=.returned (.slice (some ⟨w.heap.size,0,none⟩) 0 (grownCap w n 0 44)) ∧
   w'=w.drew.alloc (.cells (Builtin.zeroCells zTy.cells n++Builtin.zeroCells zTy.cells (grownCap w n 0 44 - n)) 44):=by
 obtain ⟨i0,hi0,hz0,hs0,hb0⟩:=zp4
 have u40:=run_underlying Tryz.underlying65
 have u3:=run_underlying Tryz.underlying3
 have h1:¬ ((n:Int) < 0):=by omega
 have h2:wrap64 ((0:Int) - 0)=0:=by unfold wrap64;omega
 have h3:wrap64 ((n:Int) - 0)=(n:Int):=by unfold wrap64;omega
 have h4:(n:Int) > 0:=by omega
 have z28:∀ w,(Go.sizeOf 44).run Tryz.prog w=.ok i0.size w:=fun w=>by simp [Go.sizeOf,typeInfo,hi0]
 have hold:(Builtin.firstCells i0.size 0 (.slice none 0 0)).run Tryz.prog w.drew=.ok #[] w.drew:=run_firstCells_none w.drew i0.size 0 0 0
 have hrz:∀ ty,(Builtin.append_ #[65,3] ty #[.slice none 0 0,.int .i64 (n:Int)]).run Tryz.prog w =
   .ok (.slice (some ⟨w.heap.size,0,none⟩) n (grownCap w n 0 44)) (w.drew.alloc (.cells (Builtin.zeroCells zTy.cells n++Builtin.zeroCells zTy.cells (grownCap w n 0 44 - n)) 44)):=fun ty=>by
  have h:=Lib.run_append_grow_zeros w 65 3 ty 44 i0 zTy .i64 .i64 Tryz.underlying65 Tryz.underlying3 hi0 hz0 none 0 0 [] hold n hn0 (by omega) (by omega) (by omega)
   (by rw [hb0];omega)
   (by rw [Nat.zero_add];exact growslice_fits hn0 (by rw [hb0];omega))
  rw [Nat.zero_add] at h
  simpa using h
 have hGn:n≤grownCap w n 0 44:=grownCap_ge w _ _ _
 obtain ⟨G,hG⟩:∃ G,G=grownCap w n 0 44:=⟨_,rfl⟩
 rw [←hG] at hrz hGn ⊢
 have hG63:G≤9223372036854775807:=by
  have:=grownCap_le_maxLen w n 0 44 (by unfold maxLen;omega)
  rw [←hG] at this
  unfold maxLen at this
  omega
 clear hold hG
 go_enter Tryz.func342,Tryz.ntmps342
 go_wp2_with (at_builtin;refine Lib.wpList_append_run _ rfl _ _ _ _ rfl _ _ rfl rfl _ _ (hrz _) ?_)
 all_goals (go_ret;exact ⟨rfl,rfl⟩)
theorem zmp (w:World):Calls Tryz.prog 342 #[.slice none 0 0,.int .i64 0] w fun e w'=>e=.returned (.slice none 0 0)∧w'=w:=by
 have u40:=run_underlying Tryz.underlying65
 have u3:=run_underlying Tryz.underlying3
 go_enter Tryz.func342,Tryz.ntmps342
 go_wp2
 go_ret
 exact ⟨rfl,rfl⟩
theorem zmU (m:Int) (h0:0≤m) (h1:m≤1000):ACallR Tryz.prog 342 [.base (.slice none 0 0),pi m] 44 4 []:=by
 refine ⟨⟨_,Tryz.func342,rfl,by kernel_rfl⟩,fun K w vs hl hv=>?_⟩
 obtain ⟨v0,vs0,rfl,r0,hv0⟩:=hv.cons_inv
 obtain ⟨v1,vs1,rfl,r1,hv1⟩:=hv0.cons_inv
 obtain rfl:=hv1.nil_inv
 cases r0
 cases r1
 obtain ⟨n,rfl⟩:=Int.eq_ofNat_of_zero_le h0
 by_cases hn:n=0
 ·subst hn
  refine (zmp w).mono ?_
  rintro e w' ⟨rfl,rfl⟩
  exact ⟨_,K,[],rfl,.refl hl,World.ownsRow_nil _ _ _ _,fun i e h=>by simp at h,by simp [Value.ownBlock]⟩
 ·refine (znW n (by omega) (by omega) w).mono ?_
  rintro e w' ⟨rfl,rfl⟩
  have hev:Evo K K w (w.drew.alloc (.cells (Builtin.zeroCells zTy.cells n++Builtin.zeroCells zTy.cells (grownCap w n 0 44 - n)) 44)) :=
   (Evo.refl hl).drew.trans ⟨(Below.refl _ _).alloc (Nat.le_refl _) _,fun _ _ h=>h,fun _ _ h=>.inl h,fun b o h=>by have:=hl b o h;simp;omega⟩
  have hG:=grownCap_ge w n 0 44
  refine ⟨_,K,[],rfl,hev,?_,fun i e h=>by simp at h,?_⟩
  ·refine ⟨rfl,.inr ⟨w.heap.size,grownCap w n 0 44,_,rfl,Nat.le_refl _,by simpa using heap_alloc_new w.drew _,by simp,grownCap_le_maxLen w n 0 44 (by unfold maxLen;omega),?_,rfl⟩⟩
   simp [size_zeroCells,zTy,Value.cells]
   omega
  ·intro b hb o
   simp [Value.ownBlock] at hb
   subst hb
   refine ⟨fun h=>?_,fun h=>by simp at h⟩
   have:=hl _ _ h
   omega
end Go.Cg
namespace Go.Cg
open Go.RowKit
def zdA (k j:Nat) (o:Oper):Oper:=if k≤j then { o with after:=o.after++((List.range j).map fun i=>(⟨i,.phase⟩:Edge)).toArray } else o
def zx (k:Nat):List Oper→Nat→List Oper
 | [],_=>[]
 | o::r,j=>zdA k j o::zx k r (j + 1)
theorem XV (k:Nat):∀ (ops:List Oper) (m j:Nat),(zx k ops m)[j]?=(ops[j]?).map (zdA k (m + j))
 | [],m,j=>by simp [zx]
 | o::ops,m,j=>by
  cases j with
  | zero=>simp [zx]
  | succ j=>simp [zx,XV k ops (m + 1) j,Nat.add_assoc,Nat.add_comm 1 j]
theorem Qy (k:Nat):∀ (ops:List Oper) (m:Nat),(zx k ops m).length=ops.length
 | [],_=>rfl
 | o::ops,m=>by simp [zx,Qy k ops (m + 1)]
theorem zff {k j:Nat} {o:Oper} {i:Nat}:zL (zdA k j o) i=(zL o i||(decide (k≤j)&&decide (i < j))):=by
 unfold zdA
 by_cases h:k≤j
 ·rw [if_pos h,Bool.eq_iff_iff]
  simp only [zL,Array.toList_append,List.any_append,Bool.or_eq_true,h,decide_true,Bool.true_and,decide_eq_true_eq]
  refine or_congr_right ?_
  simp only [List.any_eq_true,List.mem_map,List.mem_range,Bool.and_eq_true,beq_iff_eq]
  constructor
  ·rintro ⟨_,⟨m,hm,rfl⟩,_,h2⟩;simp only at h2;omega
  ·intro hi;exact ⟨_,⟨i,hi,rfl⟩,rfl,rfl⟩
 ·rw [if_neg h];simp [h]
def implied (ops:List Oper):Nat→Nat→Nat→Bool
 | 0,_,_=>false
 | n + 1,j,i=>match ops[j]? with
  | none=>false
  | some o=>zL o i||o.after.toList.any fun e=>Region.binds .any e&&implied ops n e.on i
def Xx (ops:List Oper) (k:Nat):Bool:=(List.range ops.length).all fun j=>Nat.blt j k||(List.range j).all fun i=>implied ops ops.length j i
def zm7 (ops:List Oper) (listed:Array Bool):Prop:=∀ j o,ops[j]?=some o→listed.getD j false=true→∀ i,zL o i=true→listed.getD i false=true
theorem XM {ops:List Oper} {listed:Array Bool} (hc:zm7 ops listed):∀ (n j i:Nat) (o:Oper),ops[j]?=some o→(∀ m,zL o m=true→listed.getD m false=true)→implied ops n j i=true→listed.getD i false=true
 | 0,_,_,_,_,_,h=>by simp [implied] at h
 | n + 1,j,i,o,ho,hall,h=>by
  simp only [implied,ho,Bool.or_eq_true] at h
  rcases h with h|h
  ·exact hall i h
  ·obtain ⟨e,he,hb⟩:=List.any_eq_true.1 h
   rw [Bool.and_eq_true] at hb
   have hm:listed.getD e.on false=true:=hall e.on (List.any_eq_true.2 ⟨e,he,by simp [hb.1]⟩)
   cases hoe:ops[e.on]? with
   | none =>
    cases n with
    | zero=>simp [implied] at hb
    | succ n=>simp [implied,hoe] at hb
   | some o2=>exact XM hc n e.on i o2 hoe (hc e.on o2 hoe hm) hb.2
section
variable {P:Program} {R:Exit→Act→World→Prop} {ops:List Oper} {k:Nat}
theorem zbL (hok:Xx ops k=true) {listed:Array Bool} (hc:zm7 ops listed) (j:Nat):j∈Region.ready .any (zx k ops 0).toArray listed↔j∈Region.ready .any ops.toArray listed:=by
 rw [zO,zO]
 constructor
 ·rintro ⟨o',ho',h1,h2⟩
  rw [XV] at ho'
  cases ho:ops[j]? with
  | none=>simp [ho] at ho'
  | some o =>
   simp [ho] at ho';subst ho'
   exact ⟨o,rfl,h1,fun i hi=>h2 i (by rw [zff,hi];rfl)⟩
 ·rintro ⟨o,ho,h1,h2⟩
  refine ⟨zdA k j o,by rw [XV,ho];simp,h1,fun i hi=>?_⟩
  rw [zff,Bool.or_eq_true,Bool.and_eq_true,decide_eq_true_eq,decide_eq_true_eq] at hi
  rcases hi with hi|⟨hk,hij⟩
  ·exact h2 i hi
  ·have hlt:=(List.getElem?_eq_some_iff.1 ho).1
   have:=List.all_eq_true.1 hok j (by simpa using hlt)
   rw [Bool.or_eq_true] at this
   rcases this with h|h
   ·have:=Nat.le_of_ble_eq_true h;omega
   ·exact XM hc _ j i o ho h2 (List.all_eq_true.1 h i (by simpa using hij))
theorem zhU (tmps:Array Value):yielded (zx k ops 0).toArray tmps=yielded ops.toArray tmps:=by
 funext j
 unfold yielded
 simp only [List.getElem?_toArray,XV,Nat.zero_add]
 cases ops[j]? with
 | none=>rfl
 | some o =>
  by_cases hkj:k≤j
  ·simp [zdA,hkj]
  ·simp [zdA,hkj]
theorem zmk {j:Nat} {K:Act→World→Prop} {a:Act} {w:World} (h:wpOp P (zx k ops 0).toArray R j K a w):wpOp P ops.toArray R j K a w:=by
 unfold wpOp at h ⊢
 rw [zhU] at h
 simp only [List.getElem?_toArray,XV,Nat.zero_add] at h ⊢
 cases ho:ops[j]? with
 | none=>simpa [ho] using h
 | some o =>
  simp only [ho,Option.map_some] at h ⊢
  unfold zdA at h
  split at h <;> exact h
theorem zgg {listed:Array Bool} (hs:listed.size=ops.length) (hc:zm7 ops listed) {j:Nat} (hj:j∈Region.ready .any ops.toArray listed):zm7 ops (listed.setIfInBounds j true):=by
 obtain ⟨o,ho,h1,h2⟩:=zO.1 hj
 have hlt:=(List.getElem?_eq_some_iff.1 ho).1
 have up:∀ i,listed.getD i false=true→(listed.setIfInBounds j true).getD i false=true:=by
  intro i hi
  by_cases e:i=j
  ·subst e;simp [Array.getD_eq_getD_getElem?,hs,hlt]
  ·rw [zF e];exact hi
 intro m om hom hlm i hi
 by_cases e:m=j
 ·subst e
  rw [ho] at hom;cases hom
  exact up i (h2 i hi)
 ·rw [zF e] at hlm
  exact up i (hc m om hom hlm i hi)
theorem VO (hok:Xx ops k=true):∀ (fuel:Nat) (listed:Array Bool) (a:Act) (w:World),listed.size=ops.length→zm7 ops listed→wpAny P .any (zx k ops 0).toArray R fuel listed a w→wpAny P .any ops.toArray R fuel listed a w
 | 0,listed,a,w,hs,hc,h=>by
  refine ⟨?_,h.2⟩
  rw [List.eq_nil_iff_forall_not_mem]
  intro j hj
  have:=(zbL hok hc j).2 hj
  rw [h.1] at this;cases this
 | fuel + 1,listed,a,w,hs,hc,h=>by
  refine ⟨fun hn=>h.1 ?_,fun j hj=>?_⟩
  ·rw [List.eq_nil_iff_forall_not_mem]
   intro j hj
   have:=(zbL hok hc j).1 hj
   rw [hn] at this;cases this
  ·have h1:=h.2 j ((zbL hok hc j).2 hj)
   exact zmk (wpOp_mono (fun a w hh=>VO hok fuel _ a w (by simp [hs]) (zgg hs hc hj) hh) h1)
end
section
variable {P:Program} {n:Nat} {g:Base} {H:HEnv} {env:Env} {ops:List Oper}
theorem zfV {QQ:QC} {id:Nat} (k:Nat) (hok:Xx ops k=true) (hm:P.follows .mixedOrders=true) (hB:ZV (zx k ops 0) ((zx k ops 0).take k)=true) (hT:Qp (zx k ops 0) k=true) (hk:k≤(zx k ops 0).length)
  (h:AD P n g H (zx k ops 0) (fun env'=>AO P n g (zx k ops 0).toArray ((zx k ops 0).drop k) env' H (fun env' H'=>QQ .normal env' H')) ((zx k ops 0).take k) env) (hnd:qm ops=true:=by kernel_rfl):AW P n g (.region id ops.toArray true) env H QQ:=by
 obtain ⟨s⟩:=zcK h
 refine ⟨fun a w hi rr dd=>?_⟩
 refine wpIn_mono (WH (R:=fun a' w'=>∃ env' H',Inv n g env' H' a' w'∧QQ .normal env' H') hnd hm ?_) (fun e a' w' h=>by obtain ⟨rfl,h⟩:=h;exact h)
 have hlen:=Qy k ops 0
 refine VO hok _ _ _ _ (by simp) ?_ ?_
 ·intro j o ho hl
  have hlt:=(List.getElem?_eq_some_iff.1 ho).1
  simp [Array.getD_eq_getD_getElem?,hlt] at hl
 obtain ⟨h1,h2,K,ρ,hf,he⟩:=hi
 have hev:Evo K K w { w with drawn:=w.drawn + 1 }:=(Evo.refl hf.lt).drew
 have hlk:((zx k ops 0).take k).length=k:=by simp;omega
 have hsz:ops.toArray.size=(zx k ops 0).length:=by simp [hlen]
 rw [hsz]
 generalize zx k ops 0=ops' at *
 refine zal (l:=ops'.take k) (by rw [hlk]) s hB (by rw [hlk];exact hT) (fun env' a' w' h hi'=>?_) _ _ _ _ (by simp) ⟨h1,h2,by simp,by rw [hlk];exact hk,?_,?_,K,ρ,hf.evo hev,?_,?_⟩
 ·rw [hlk]
  exact qG (fun e a' w' ⟨env',H',h1,h2,h3⟩=>⟨h2,env',H',h1,h3⟩) (h.go a' w' hi')
 ·intro j _ hj
  simp [Array.getD_eq_getD_getElem?,hj]
 ·intro i o ho hli
  have hlt:=(List.getElem?_eq_some_iff.1 ho).1
  have:i < ops'.length:=by simp at hlt;omega
  simp [Array.getD_eq_getD_getElem?,this] at hli
 ·intro i o ri t ho hli
  have hlt:=(List.getElem?_eq_some_iff.1 ho).1
  have:i < ops'.length:=by simp at hlt;omega
  simp [Array.getD_eq_getD_getElem?,this] at hli
 ·intro t av hav _
  obtain ⟨v,v1,v2⟩:=he t av hav
  exact ⟨v,v1,v2.later (hev.later hf.lt)⟩
theorem yP {QQ:QC} {id:Nat} (L k:Nat) (_:ops.length=L) (hok:Xx ops k=true) (hm:P.follows .mixedOrders=true) (hB:ZV (zx k ops 0) ((zx k ops 0).take k)=true) (hT:Qp (zx k ops 0) k=true) (hk:Nat.ble k (zx k ops 0).length=true)
  (h:AD P n g H (zx k ops 0) (fun env'=>AO P n g (zx k ops 0).toArray ((zx k ops 0).drop k) env' H (fun env' H'=>QQ .normal env' H')) ((zx k ops 0).take k) env) (hnd:qm ops=true:=by kernel_rfl):AW P n g (.region id ops.toArray true) env H QQ :=
 zfV k hok hm hB hT (Nat.le_of_ble_eq_true hk) h hnd
end
theorem zgu {a:Act} {d t:Nat} {v:Value} (h:d≠t):(a.put (some d) v).tmps[t]?=a.tmps[t]?:=by
 simp only [Act.put];rw [Array.getElem?_setIfInBounds_ne h]
theorem put_comm {a:Act} {c d:Nat} {u v:Value} (h:c≠d):(a.put (some c) u).put (some d) v=(a.put (some d) v).put (some c) u:=by
 simp only [Act.put];rw [Array.setIfInBounds_comm _ _ h]
theorem WL {listed:Array Bool} {j:Nat} (h:j < listed.size):listed.getD j true=listed.getD j false:=by
 rw [Array.getD_eq_getD_getElem?,Array.getD_eq_getD_getElem?,Array.getElem?_eq_getElem h];rfl
def Vo (ops:List Oper):Bool:=ops.zipIdx.all fun x=>x.1.after.toList.all fun e=>!Region.binds .any e||decide (e.on < x.2)
theorem zh2 {ops:List Oper} (h:Vo ops=true) {j:Nat} {o:Oper} (ho:ops[j]?=some o):∀ i,zL o i=true→i < j:=by
 intro i hi
 have h1:=List.all_eq_true.1 h (o,j) (Zx ho)
 unfold zL at hi
 obtain ⟨e,he,heq⟩:=List.any_eq_true.1 hi
 simp only [Bool.and_eq_true,beq_iff_eq] at heq
 have:=List.all_eq_true.1 h1 e he
 simp only [heq.1,Bool.not_true,Bool.false_or,decide_eq_true_eq] at this
 omega
theorem ready_nil {ops:List Oper} {listed:Array Bool} (he:Vo ops=true) (hs:listed.size=ops.length) (h0:Region.ready .any ops.toArray listed=[]):∀ j,j < ops.length→listed.getD j true=true:=by
 intro j
 induction j using Nat.strongRecOn with
 | _ j ih =>
  intro hj
  cases hun:listed.getD j true
  ·have ho:=List.getElem?_eq_getElem hj
   have:j∈Region.ready .any ops.toArray listed:=zO.2 ⟨_,ho,hun,fun i hi=>by
    have hij:=zh2 he ho i hi
    have:=ih i hij (by omega)
    rwa [WL (by omega)] at this⟩
   rw [h0] at this;cases this
  ·rfl
def zoo (P:Program) (o:Oper) (c:Nat):Prop:=∀ (a:Act) (v:Value) (w:World),(execOp (a.put (some c) v).eval o).run P w=(execOp a.eval o).run P w
def zhL (c:Nat):Operand→Bool
 | .tmp t=>!(t==c)
 | _=>true
theorem ze3 {a:Act} {c:Nat} {v:Value}:∀ {x:Operand},zhL c x=true→(a.put (some c) v).eval x=a.eval x
 | .tmp t,h=>by
  have:c≠t:=by rintro rfl;simp [zhL] at h
  simp only [Act.eval,Array.getD_eq_getD_getElem?,zgu this]
 | .const _,_=>rfl
 | .global _,_=>rfl
 | .func _,_=>rfl
theorem zcl {P:Program} {o:Oper} {c:Nat} {x y:Operand} {ts:Array TypeId} (hop:o.op=.call { callee:=.builtin .append,args:=#[x,y],argTypes:=ts }) (hx:zhL c x=true) (hy:zhL c y=true):zoo P o c:=fun a v w=>by
 simp [execOp,hop,resolve,invoke,builtin,ze3 hx,ze3 hy]
section
variable {P:Program} {n:Nat} {g:Base} {K:KK} {w:World} {ρ:Nat→Value} {H:HEnv} {env:Env} {a:Act} {ops l:List Oper} {Q:Env→Prop}
theorem zkb {R:Exit→Act→World→Prop} {k jc c r tA:Nat} {oA oc:Oper} (hl0:l=ops.take k) (hlk:l.length=k) (s:Script P n g H ops l env Q) (hB:ZV ops l=true) (hE:Vo ops=true) (hT:Qp ops (k + 1)=true)
  (hA:ops[k]?=some oA) (hgA:oA.guard=none) (hdA:oA.dst=some tA) (himp:∀ j,j < k→j≠jc→implied ops ops.length k j=true)
  (hjc:jc < k) (hoc:ops[jc]?=some oc) (hpc:oc.op=.move (.tmp r)) (hgc:oc.guard=none) (hdc:oc.dst=some c) (hec:∀ i,zL oc i=false) (hbl:zoo P oA c) (x1:c≠tA) (x2:tA≠r) (x3:c≠r)
  (hR:∀ e a w,R e a w→e=.normal) (hq:∀ env' a w,Q env'→Inv n g env' H a w→wpList P ops.toArray R (ops.drop k) a w):∀ (fuel:Nat) (listed:Array Bool) (a:Act) (w:World),(listed.toList.filter (! ·)).length=fuel→listed.size=ops.length→zm7 ops listed →
  ((listed.getD k true=false∧Mid P n g H ops l env Q s listed a w)∨((∀ i,i < ops.length→listed.getD i true=(decide (i < k + 1)&&!(i==jc)))∧∃ v,a.eval (.tmp r)=v∧wpList P ops.toArray R (ops.drop (k + 1)) (a.put (some c) v) w))→wpAny P .any ops.toArray R fuel listed a w:=by
 have hklt:=(List.getElem?_eq_some_iff.1 hA).1
 have hdrop:ops.drop k=oA::ops.drop (k + 1):=by
  rw [List.drop_eq_getElem_cons hklt,(List.getElem?_eq_some_iff.1 hA).2]
 have hget:∀ j,j < k→l[j]?=ops[j]?:=by
  intro j hj
  have:=congrArg (fun x=>x[j]?) hl0
  simp only [List.getElem?_take,if_pos hj] at this
  exact this
 have hocl:l[jc]?=some oc:=by rw [hget jc hjc];exact hoc
 have done:∀ (listed:Array Bool) (a:Act) (w:World),(∀ j,j < l.length→listed.getD j true=true)→Mid P n g H ops l env Q s listed a w→wpList P ops.toArray R (oA::ops.drop (k + 1)) a w:=by
  intro listed a w hall hm
  obtain ⟨K,ρ,hf,hl,he⟩:=hm.st
  rw [←hdrop]
  refine hq s.last a w s.fin ⟨hm.size,hm.defers,K,ρ,hf,fun t av hav=>?_⟩
  have hlast:(s.e++[s.last])[l.length]?=some s.last:=by rw [List.getElem?_append_right (by rw [s.lene];exact Nat.le_refl _),s.lene];simp
  rcases s.src l.length s.last hlast t av hav with ⟨i,o,ri,h1,h2,h3,h4,h5,_⟩|⟨h1,av0,h2,h3⟩
  ·obtain ⟨v,v1,v2⟩:=hl i o ri t h2 (hall i h1) h4 h3
   exact ⟨v,v1,h5 _ _ _ _ _ v2⟩
  ·obtain ⟨v,v1,v2⟩:=he t av0 h2 (fun i o ho _=>h1 i o (List.getElem?_eq_some_iff.1 ho).1 ho)
   exact ⟨v,v1,h3 _ _ _ _ _ v2⟩
 have runc:∀ (a:Act) (w:World),(execOp a.eval oc).run P w=.ok (.value (a.eval (.tmp r))) w:=fun a w=>by simp [execOp,hpc]
 have nilAt:∀ (listed:Array Bool) (a:Act) (w:World),listed.size=ops.length→Region.ready .any ops.toArray listed=[] →
   ((listed.getD k true=false∧Mid P n g H ops l env Q s listed a w)∨((∀ i,i < ops.length→listed.getD i true=(decide (i < k + 1)&&!(i==jc)))∧∃ v,a.eval (.tmp r)=v∧wpList P ops.toArray R (ops.drop (k + 1)) (a.put (some c) v) w))→False:=by
  intro listed a w hs h0 h
  have hall:=ready_nil hE hs h0
  rcases h with ⟨h,_⟩|⟨h,_⟩
  ·rw [hall k hklt] at h;cases h
  ·have:=h jc (by omega);rw [hall jc (by omega)] at this;simp at this
 intro fuel
 induction fuel with
 | zero =>
  intro listed a w hc hs hcl h
  have hall:∀ j,j < ops.length→listed.getD j true=true:=by
   intro j hj
   have hn:=List.filter_eq_nil_iff.1 (List.eq_nil_of_length_eq_zero hc)
   have hlt:j < listed.size:=by omega
   have:=hn listed[j] (by simp)
   simp only [Bool.not_eq_true',Bool.not_eq_false] at this
   rw [Array.getD_eq_getD_getElem?,Array.getElem?_eq_getElem hlt]
   simpa using this
  have hnil:Region.ready .any ops.toArray listed=[]:=by
   rw [List.eq_nil_iff_forall_not_mem]
   intro j hj
   obtain ⟨o,ho,hun,_⟩:=zO.1 hj
   rw [hall j (List.getElem?_eq_some_iff.1 ho).1] at hun;cases hun
  exact (nilAt listed a w hs hnil h).elim
 | succ fuel ih =>
  intro listed a w hc hs hcl h
  refine ⟨fun h0=>(nilAt listed a w hs h0 h).elim,fun j hj=>?_⟩
  obtain ⟨o,ho,hun,hready⟩:=zO.1 hj
  have hjlt:=(List.getElem?_eq_some_iff.1 ho).1
  have hcount:=ze2 (by omega) hun hc
  have hcl':=zgg hs hcl hj
  have hs':(listed.setIfInBounds j true).size=ops.length:=by simp [hs]
  have htail:∀ m o,ops[m]?=some o→k + 1≤m→∀ i,i < m→zL o i=true:=by
   intro m o ho hm i hi
   have hmem:(o,m)∈ops.zipIdx.drop (k + 1):=by
    rw [List.mem_drop_iff_getElem]
    have hlt:=(List.getElem?_eq_some_iff.1 ho).1
    refine ⟨m - (k + 1),by simp;omega,?_⟩
    simp only [List.getElem_zipIdx,Nat.zero_add]
    have:k + 1 + (m - (k + 1))=m:=by omega
    simp only [this]
    rw [(List.getElem?_eq_some_iff.1 ho).2]
   have h1:=List.all_eq_true.1 hT (o,m) hmem
   simp only [Bool.and_eq_true] at h1
   exact List.all_eq_true.1 h1.1 i (List.mem_range.2 hi)
  have hcnt:∀ listed:Array Bool,(listed.toList.filter (! ·)).length=fuel→listed.size=ops.length→(∀ i,i < ops.length→listed.getD i true=decide (i < k + 1))→k + 1 + fuel=ops.length:=by
   intro listed hc hsz hex
   have e1:listed.toList=List.replicate (k + 1) true++List.replicate (ops.length - (k + 1)) false:=by
    apply List.ext_getElem
    ·simp [hsz];omega
    ·intro i h1 h2
     have hi:i < ops.length:=by simpa [hsz] using h1
     have:=hex i hi
     rw [Array.getD_eq_getD_getElem?,Array.getElem?_eq_getElem (by rw [hsz];exact hi)] at this
     simp only [Option.getD_some] at this
     simp only [Array.getElem_toList,this,List.getElem_append,List.length_replicate,List.getElem_replicate]
     by_cases hil:i < k + 1
     ·rw [dif_pos hil,decide_eq_true hil]
     ·rw [dif_neg hil,decide_eq_false hil]
   rw [e1] at hc
   simp only [List.filter_append,List.filter_replicate,Bool.not_true,Bool.false_eq_true,if_false,Bool.not_false,if_true,List.nil_append,List.length_replicate] at hc
   omega
  rcases h with ⟨hk0,hm⟩|⟨hex,v,hv,hT2⟩
  ·obtain ⟨K,ρ,hf,hl,he⟩:=hm.st
   rcases Nat.lt_trichotomy j k with hjk|rfl|hjk
   ·have hol:l[j]?=some o:=by rw [hget j hjk];exact ho
    have hjl:j < l.length:=by omega
    have hrj:s.r[j]?=some (s.r[j]'(by rw [s.lenr];exact hjl)):=List.getElem?_eq_getElem _
    have hej:s.e[j]?=some (s.e[j]'(by rw [s.lene];exact hjl)):=List.getElem?_eq_getElem _
    generalize s.r[j]'(by rw [s.lenr];exact hjl)=rj at hrj
    generalize s.e[j]'(by rw [s.lene];exact hjl)=ej at hej
    obtain ⟨t,hd,ht,hor⟩:=s.ok j o rj ej hol hrj hej
    have hreads:=hm.reads hB hol hej hun hready hl he
    have hk0':(listed.setIfInBounds j true).getD k true=false:=by rw [zF (by omega)];exact hk0
    have hwanted:∀ b,guardE ops ej o=some b→Region.wanted o (yielded ops.toArray a.tmps)=b:=by
     intro b hgb
     unfold guardE qM at hgb
     cases hg:o.guard with
     | none=>simp [hg] at hgb;subst hgb;simp [Region.wanted,hg]
     | some x =>
      obtain ⟨jj,want⟩:=x
      simp only [hg] at hgb
      cases hjj:ops[jj]? with
      | none=>simp [hjj] at hgb
      | some o' =>
       simp only [hjj] at hgb
       cases hd':o'.dst with
       | none=>simp [hd'] at hgb
       | some t' =>
        simp only [hd'] at hgb
        split at hgb
        ·rename_i bb hbb
         simp only [Option.some.injEq] at hgb;subst hgb
         obtain ⟨v,v1,v2⟩:=hreads t' (by simp [readsOf,qM,hg,hjj,hd']) _ hbb
         cases v2 with
         | pv _ _ hp=>cases hp;simp only [Region.wanted,hg,yielded,List.getElem?_toArray,hjj,Option.bind_some,hd',v1];cases bb <;> cases want <;> rfl
        ·rename_i vs hbb
         simp only [Option.some.injEq] at hgb;subst hgb
         obtain ⟨v,v1,v2⟩:=hreads t' (by simp [readsOf,qM,hg,hjj,hd']) _ hbb
         cases v2 with
         | pv _ _ hp=>cases hp;simp only [Region.wanted,hg,yielded,List.getElem?_toArray,hjj,Option.bind_some,hd',v1];cases want <;> rfl
        ·cases hgb
    unfold wpOp
    simp only [List.getElem?_toArray,ho]
    have next:∀ (K':KK) (w':World) (v:Value),Evo K K' w w'→ARel K' w' ρ H rj v→wpAny P .any ops.toArray R fuel (listed.setIfInBounds j true) (a.put o.dst v) w' :=
     fun K' w' v hev hv=>ih _ _ _ hcount hs' hcl' (.inl ⟨hk0',hm.next hB hol hrj hd ht hun hready (fun _ _ _=>trivial) hf hl he hev hv⟩)
    rcases hor with ⟨hgt,hqs⟩|⟨hgf,rfl⟩
    ·rw [hwanted true hgt,if_pos rfl]
     refine .inl ?_
     unfold Oper.wp
     have hqr:=hqs.go K ρ a w hf (fun x hx av hxv=>by
      cases x with
      | tmp t' =>
       obtain ⟨v,v1,v2⟩:=hreads t' (by
        unfold readsOf
        exact List.mem_append_left _ (YI (Array.mem_toList_iff.2 hx))) av hxv
       simpa [Act.eval,Array.getD_eq_getD_getElem?,v1] using v2
      | const v =>
       simp only [Env.val] at hxv
       split at hxv
       ·rename_i h1;simp only [Option.some.injEq] at hxv;subst hxv;exact .pv _ _ (.base v h1)
       ·cases hxv
      | func f =>
       simp only [Env.val,Option.some.injEq] at hxv;subst hxv
       exact .pv _ _ (.fn (.func f) [] [] [] [] rfl rfl (by simp) (by simp))
      | global gg =>
       simp only [Env.val,Option.some.injEq] at hxv;subst hxv
       exact .pv _ _ (.base _ rfl))
     generalize (execOp a.eval o).run P w=res at hqr
     cases res with
     | halt x w'=>simp only [zc7] at hqr
     | ok nx w' =>
      cases nx <;> simp only [zc7] at hqr <;> simp only [Oper.upon]
      case value v =>
       obtain ⟨K',hev,hv⟩:=hqr
       exact next K' _ _ hev hv
      case enter f args =>
       obtain ⟨rfl,hc'⟩:=hqr
       refine hc'.mono fun e w'' ⟨v,K',he',hev,hv⟩=>?_
       subst he'
       exact next K' _ _ hev hv
    ·rw [hwanted false hgf,if_neg (by simp)]
     exact next K _ _ (.refl hf.lt) XD
   ·
    rw [hA] at ho;cases ho
    have hw1:Region.wanted oA (yielded ops.toArray a.tmps)=true:=by simp [Region.wanted,hgA]
    have hw2:∀ a:Act,Region.wanted oA (yielded ops.toArray a.tmps)=true:=fun a=>by simp [Region.wanted,hgA]
    have hpre:∀ m,m < j→m≠jc→listed.getD m true=true:=by
     intro m hm' hne
     rw [WL (by omega)]
     exact XM hcl _ j m oA hA hready (himp m hm' hne)
    unfold wpOp
    simp only [List.getElem?_toArray,hA]
    rw [if_pos hw1]
    cases hjcl:listed.getD jc true
    ·
     have hrjc:s.r[jc]?=some (s.r[jc]'(by rw [s.lenr];omega)):=List.getElem?_eq_getElem _
     have hejc:s.e[jc]?=some (s.e[jc]'(by rw [s.lene];omega)):=List.getElem?_eq_getElem _
     generalize s.r[jc]'(by rw [s.lenr];omega)=rc at hrjc
     generalize s.e[jc]'(by rw [s.lene];omega)=ec at hejc
     obtain ⟨t,hd,ht,hor⟩:=s.ok jc oc rc ec hocl hrjc hejc
     have hreadyc:∀ i,zL oc i=true→listed.getD i false=true:=fun i hi=>by rw [hec i] at hi;cases hi
     have hreads:=hm.reads hB hocl hejc hjcl hreadyc hl he
     obtain ⟨K',hev,hvr⟩:∃ K',Evo K K' w w∧ARel K' w ρ H rc (a.eval (.tmp r)):=by
      rcases hor with ⟨_,hqs⟩|⟨hgf,_⟩
      ·have hqr:=hqs.go K ρ a w hf (fun x hx av hxv=>by
        rw [hpc] at hx
        simp only [Op.operands,List.mem_toArray] at hx
        have hx':x=.tmp r:=by simpa using hx
        subst hx'
        obtain ⟨v,v1,v2⟩:=hreads r (by unfold readsOf;rw [hpc];exact List.mem_append_left _ (by simp [Op.operands,zby])) av hxv
        simpa [Act.eval,Array.getD_eq_getD_getElem?,v1] using v2)
       rw [runc] at hqr
       exact hqr
      ·simp [guardE,hgc] at hgf
     have hm2:=hm.next hB hocl hrjc hd ht hjcl hreadyc (fun _ _ _=>trivial) hf hl he hev hvr
     rw [hdc] at hm2
     have hwl:=done _ _ _ (fun m hm'=>by
      by_cases e:m=jc
      ·subst e;exact yu (by omega)
      ·rw [zF e];exact hpre m (by omega) e) hm2
     unfold wpList at hwl
     rw [if_pos (hw2 _)] at hwl
     rcases hwl with hwl|hwl
     ·refine .inl ?_
      have hex:∀ i,i < ops.length→(listed.setIfInBounds j true).getD i true=(decide (i < j + 1)&&!(i==jc)):=by
       intro i hi
       by_cases e:i=j
       ·subst e;rw [yu (by omega)];simp;omega
       ·rw [zF e]
        by_cases e2:i=jc
        ·subst e2;simp [hjcl]
        ·by_cases e3:i < j
         ·rw [hpre i e3 e2];simp [e2];omega
         ·rw [hm.notail i (by omega) hi];simp;omega
      have go:∀ (a2:Act) (u:Value) (w':World),a2.tmps=(a.put (some tA) u).tmps→wpList P ops.toArray R (ops.drop (j + 1)) (a2.put (some c) (a.eval (.tmp r))) w'→wpAny P .any ops.toArray R fuel (listed.setIfInBounds j true) a2 w':=fun a2 u w' h2 hh =>
       ih _ _ _ hcount hs' hcl' (.inr ⟨hex,_,by simp only [Act.eval,Array.getD_eq_getD_getElem?,h2,zgu x2],hh⟩)
      unfold Oper.wp at hwl ⊢
      rw [hbl] at hwl
      generalize (execOp a.eval oA).run P w=res at hwl
      cases res with
      | halt x w'=>cases x <;> simp only [Oper.upon] at hwl <;> exact nomatch hR _ _ _ hwl
      | ok nx w' =>
       cases nx <;> simp only [Oper.upon,hdA] at hwl ⊢
       case value v=>exact go _ v _ rfl (by rw [put_comm (Ne.symm x1)];exact hwl)
       case skip=>exact go _ undef _ rfl (by rw [put_comm (Ne.symm x1)];exact hwl)
       case defer d=>exact go _ undef _ rfl (by rw [put_comm (Ne.symm x1)];exact hwl)
       case enter f args=>exact Calls.mono hwl (fun e w'' he=>by
        cases e with
        | returned v=>exact go _ v _ rfl (by rw [put_comm (Ne.symm x1)];exact he)
        | panicked ch=>exact nomatch hR _ _ _ he
        | outgrown=>exact he)
       case row f args=>exact Rows.mono hwl (fun v _ he=>go _ v _ rfl (by rw [put_comm (Ne.symm x1)];exact he))
     ·exact nomatch hR _ _ _ hwl.2.choose_spec.choose_spec
    ·have hwl:=done _ _ _ (fun m hm'=>by
      by_cases e:m=jc
      ·subst e;exact hjcl
      ·exact hpre m (by omega) e) hm
     unfold wpList at hwl
     rw [if_pos hw1] at hwl
     refine hwl.imp (fun hwl=>?_) id
     have hex:∀ i,i < ops.length→(listed.setIfInBounds j true).getD i true=decide (i < j + 1):=by
      intro i hi
      by_cases e:i=j
      ·subst e;rw [yu (by omega)];simp
      ·rw [zF e]
       by_cases e3:i < j
       ·by_cases e2:i=jc
        ·subst e2;rw [hjcl];simp;omega
        ·rw [hpre i e3 e2];simp;omega
       ·rw [hm.notail i (by omega) hi];simp;omega
     exact Oper.wp_mono (fun a2 w2 hh=>Qr hT fuel (j + 1) _ a2 w2 (Nat.le_refl _) (hcnt _ hcount hs' hex) hs' hex hh) hwl
   ·have:=hready k (htail j o ho (by omega) k hjk)
    rw [←WL (by omega),hk0] at this;cases this
  ·
   have hjj:j=jc:=by
    rcases Nat.lt_or_ge j (k + 1) with h1|h1
    ·have:=hex j hjlt
     rw [hun] at this
     have h2:decide (j < k + 1)=true:=decide_eq_true h1
     rw [h2] at this
     simpa using this
    ·have:=hready jc (htail j o ho h1 jc (by omega))
     rw [←WL (by omega),hex jc (by omega)] at this;simp at this
   subst hjj
   rw [hoc] at ho;cases ho
   unfold wpOp
   simp only [List.getElem?_toArray,hoc]
   rw [if_pos (by simp [Region.wanted,hgc])]
   refine .inl ?_
   unfold Oper.wp
   rw [runc]
   simp only [Oper.upon,hdc]
   rw [hv]
   have hex2:∀ i,i < ops.length→(listed.setIfInBounds j true).getD i true=decide (i < k + 1):=by
    intro i hi
    by_cases e:i=j
    ·subst e;rw [yu (by omega)];simp;omega
    ·rw [zF e,hex i hi];simp [e]
   exact Qr hT fuel (k + 1) _ _ w (Nat.le_refl _) (hcnt _ hcount hs' hex2) hs' hex2 hT2
def zlT (ops:List Oper) (oc:Oper) (k jc c tA r:Nat):Bool :=
 ZV ops (ops.take k)&&Vo ops&&Qp ops (k + 1)&&((List.range k).all fun j=>j==jc||implied ops ops.length k j)&&Nat.blt jc k&&oc.after.isEmpty&&!(c==tA)&&!(tA==r)&&!(c==r)
theorem zcB {QQ:QC} {id:Nat} (k jc:Nat) {c tA r:Nat} {oA oc:Oper} (hok:Xx ops (k + 1)=true) (hm:P.follows .mixedOrders=true)
  (hA:(zx (k + 1) ops 0)[k]?=some oA) (hgA:oA.guard=none) (hdA:oA.dst=some tA) (hoc:(zx (k + 1) ops 0)[jc]?=some oc) (hpc:oc.op=.move (.tmp r)) (hgc:oc.guard=none) (hdc:oc.dst=some c) (hbl:zoo P oA c)
  (hchk:zlT (zx (k + 1) ops 0) oc k jc c tA r=true)
  (h:AD P n g H (zx (k + 1) ops 0) (fun env'=>AO P n g (zx (k + 1) ops 0).toArray ((zx (k + 1) ops 0).drop k) env' H (fun env' H'=>QQ .normal env' H')) ((zx (k + 1) ops 0).take k) env) (hnd:qm ops=true:=by kernel_rfl):AW P n g (.region id ops.toArray true) env H QQ:=by
 simp only [zlT,Bool.and_eq_true,Bool.not_eq_true',beq_eq_false_iff_ne] at hchk
 obtain ⟨⟨⟨⟨⟨⟨⟨⟨hB,hE⟩,hT⟩,himp⟩,hjc⟩,hec⟩,x1⟩,x2⟩,x3⟩:=hchk
 have hjc':=Nat.le_of_ble_eq_true hjc
 obtain ⟨s⟩:=zcK h
 refine ⟨fun a w hi rr dd=>?_⟩
 refine wpIn_mono (WH (R:=fun a' w'=>∃ env' H',Inv n g env' H' a' w'∧QQ .normal env' H') hnd hm ?_) (fun e a' w' h=>by obtain ⟨rfl,h⟩:=h;exact h)
 have hlen:=Qy (k + 1) ops 0
 refine VO hok _ _ _ _ (by simp) ?_ ?_
 ·intro j o ho hl
  have hlt:=(List.getElem?_eq_some_iff.1 ho).1
  simp [Array.getD_eq_getD_getElem?,hlt] at hl
 obtain ⟨h1,h2,K,ρ,hf,he⟩:=hi
 have hev:Evo K K w { w with drawn:=w.drawn + 1 }:=(Evo.refl hf.lt).drew
 have hsz:ops.toArray.size=(zx (k + 1) ops 0).length:=by simp [hlen]
 rw [hsz]
 generalize zx (k + 1) ops 0=ops' at *
 have hklt:=(List.getElem?_eq_some_iff.1 hA).1
 have hlk:(ops'.take k).length=k:=by simp;omega
 refine zkb (jc:=jc) (by simp [hlk]) hlk s hB hE hT hA hgA hdA (fun j hj hne=>?_) hjc' hoc hpc hgc hdc (fun i=>?_) hbl x1 x2 x3 (fun e a w hh=>hh.1) (fun env' a' w' h hi'=>qG (fun e a' w' ⟨env',H',h1,h2,h3⟩=>⟨h2,env',H',h1,h3⟩) (h.go a' w' hi')) _ _ _ _ (by simp) (by simp) ?_ (.inl ⟨?_,h1,h2,by simp,by rw [hlk];omega,?_,?_,K,ρ,hf.evo hev,?_,?_⟩)
 ·have:=List.all_eq_true.1 himp j (List.mem_range.2 hj)
  rw [Bool.or_eq_true,beq_iff_eq] at this
  exact this.resolve_left hne
 ·have:oc.after=#[]:=by simpa using hec
  simp [zL,this]
 ·intro j o ho hl
  have hlt:=(List.getElem?_eq_some_iff.1 ho).1
  simp [Array.getD_eq_getD_getElem?,hlt] at hl
 ·simp [Array.getD_eq_getD_getElem?,hklt]
 ·intro j _ hj
  simp [Array.getD_eq_getD_getElem?,hj]
 ·intro i o ho hli
  have hlt:=(List.getElem?_eq_some_iff.1 ho).1
  have:i < ops'.length:=by simp at hlt;omega
  simp [Array.getD_eq_getD_getElem?,this] at hli
 ·intro i o ri t ho hli
  have hlt:=(List.getElem?_eq_some_iff.1 ho).1
  have:i < ops'.length:=by simp at hlt;omega
  simp [Array.getD_eq_getD_getElem?,this] at hli
 ·intro t av hav _
  obtain ⟨v,v1,v2⟩:=he t av hav
  exact ⟨v,v1,v2.later (hev.later hf.lt)⟩
end
def Vg:HEnv→Bool
 | []=>true
 | (_,.obj _)::_=>false
 | _::e=>Vg e
theorem zgf:∀ {e:HEnv},Vg e=true→∀ i h,e.get i=some h→∀ X,h≠.obj X
 | [],_,i,h,hg,_=>by simp [HEnv.get_nil] at hg
 | (j,x)::e,hn,i,h,hg,X=>by
  have hn':Vg e=true∧∀ X,x≠.obj X:=by
   cases x <;> simp_all [Vg]
  rw [HEnv.get_cons] at hg
  split at hg
  ·simp only [Option.some.injEq] at hg;subst hg;exact hn'.2 X
  ·exact zgf hn'.1 i h hg X
section
variable {P:Program} {tb:Tab} {n:Nat} {g:Base} {K:KK} {w w':World} {ρ:Nat→Value} {H H':HEnv} {env:Env} {a:Act}
structure NC (B:Nat) (w w':World):Prop where
 row:∃ row,w.grownBy w' row∧∀ r,row=some r→B≤r∧∃ o:Obj,w.heap[r]?=some o∧o.isCells=false
theorem NC.cell {B:Nat} (h:NC B w w') {x:Addr} {v:Value} (hc:w.cell? x=some v):w'.cell? x=some v:=by
 obtain ⟨row,hg,hr⟩:=h.row
 exact cell_kept hc hg fun r e=>(hr r e).2
theorem PRel.keepc (h:∀ (x:Addr) (v:Value),w.cell? x=some v→w'.cell? x=some v) {p:PV} {v:Value} (hp:PRel K w p v):PRel K w' p v:=by
 have hrow:∀ {b o:Nat} {vs:List Value},Rows K w b o vs→Rows K w' b o vs:=fun hr k v hv=>⟨(hr k v hv).1,h _ _ (hr k v hv).2.1,(hr k v hv).2.2⟩
 induction hp with
 | base v h1=>exact .base v h1
 | agg cs vs hl h1 _ ih=>exact .agg cs vs hl h1 ih
 | nil sz full=>exact .nil sz full
 | emp sz full a=>exact .emp sz full a
 | slc sz es full b o cap vss h0 hc hf hm hm' hr _ ih=>exact .slc sz es full b o cap vss h0 hc hf hm hm' (fun i e he=>⟨(hr i e he).1,(hr i e he).2.1,hrow (hr i e he).2.2⟩) ih
 | ptr p off b o vs hl hr _ ih=>exact .ptr p off b o vs hl (hrow hr) ih
 | fn f first cap vf vc h1 h2 _ _ ih1 ih2=>exact .fn f first cap vf vc h1 h2 ih1 ih2
 | tup cs vs hl _ ih=>exact .tup cs vs hl ih
theorem PRels.keepc (h:∀ (x:Addr) (v:Value),w.cell? x=some v→w'.cell? x=some v) {ps:List PV} {vs:List Value} (hp:PRels K w ps vs):PRels K w' ps vs :=
 ⟨hp.1,fun k c v hc hv=>(hp.2 k c v hc hv).keepc h⟩
theorem PRel.nc {B:Nat} (h:NC B w w') {p:PV} {v:Value} (hp:PRel K w p v):PRel K w' p v:=hp.keepc fun _ _ hc=>h.cell hc
theorem PRels.nc {B:Nat} (h:NC B w w') {ps:List PV} {vs:List Value} (hp:PRels K w ps vs):PRels K w' ps vs:=hp.keepc fun _ _ hc=>h.cell hc
theorem ARel.nc {B:Nat} (h:NC B w w') {av:AV} {v:Value} (ha:ARel K w ρ H av v):ARel K w' ρ H av v:=by
 induction ha with
 | pv p v hp=>exact .pv p v (hp.nc h)
 | own i hv=>exact .own i hv
 | box i off b hi hb=>exact .box i off b hi hb
 | ad i off b m c hi hb=>exact .ad i off b m c hi hb
 | agg cs vs hl h1 _ ih=>exact .agg cs vs hl h1 ih
 | fn f first cap vf vc h1 h2 _ _ ih1 ih2=>exact .fn f first cap vf vc h1 h2 ih1 ih2
 | any v=>exact .any v
 | any1 v h1 h2=>exact .any1 v h1 h2
theorem NC.block {B:Nat} (h:NC B w w') {b:Nat} {arr:Array Value} {t:TypeId} {x:Nat × Nat} (hb:w.heap[b]?=some (.cells arr t x)):w'.heap[b]?=some (.cells arr t x):=by
 obtain ⟨row,hg,hr⟩:=h.row
 have hlt:=(Array.getElem?_eq_some_iff.1 hb).1
 rw [hg.block b hlt (fun e=>by
  obtain ⟨_,o,ho,hc⟩:=hr b e.symm
  rw [hb] at ho;cases ho;simp [Obj.isCells] at hc)]
 exact hb
theorem HOk.nc {B B0:Nat} (h:NC B0 w w') {e:HE} {r:Value} (hX:∀ X,e≠.obj X) (ho:HOk K w B ρ H e r):HOk K w' B ρ H e r:=by
 cases e with
 | cell v =>
  obtain ⟨b,t,arr,u,rfl,hB,hb,hu,ha,hn⟩:=ho
  exact ⟨b,t,arr,u,rfl,hB,h.block hb,hu.nc h,ha,hn⟩
 | row t sz es =>
  obtain ⟨xs,hown,h0,hc,hk⟩:=ho
  obtain ⟨row,hg,hr⟩:=h.row
  refine ⟨xs,hown.kept hg ?_,h0,fun i e he=>⟨(hc i e he).1,fun k c hkc=>?_⟩,hk⟩
  ·rcases hown.2 with ⟨e,_⟩|⟨b,cap,cur,e,_,hb,_⟩
   ·left;rw [e];rfl
   ·right;rw [e];intro e2
    obtain ⟨_,o,ho,hcc⟩:=hr b e2.symm
    rw [hb] at ho;cases ho;simp [Obj.isCells] at hcc
  ·obtain ⟨v,v1,v2,v3⟩:=(hc i e he).2 k c hkc
   exact ⟨v,v1,v2,v3.nc h⟩
 | mrow t sz es =>
  obtain ⟨xs,hown,h0,hc,hk⟩:=ho
  obtain ⟨row,hg,hr⟩:=h.row
  refine ⟨xs,hown.kept hg ?_,h0,fun i e he=>⟨(hc i e he).1,fun k c hkc=>?_⟩,hk⟩
  ·rcases hown.2 with ⟨e,_⟩|⟨b,cap,cur,e,_,hb,_⟩
   ·left;rw [e];rfl
   ·right;rw [e];intro e2
    obtain ⟨_,o,ho,hcc⟩:=hr b e2.symm
    rw [hb] at ho;cases ho;simp [Obj.isCells] at hcc
  ·obtain ⟨v,v1,v2,v3⟩:=(hc i e he).2 k c hkc
   exact ⟨v,v1,v2,v3.nc h⟩
 | dead=>trivial
 | pin v u=>exact ARel.nc h ho
 | obj X=>exact (hX X rfl).elim
structure Bare (g:Base):Prop where
 ds:g.ds=[]
 pr:∀ b,¬ g.pr b
 k0:∀ b o,g.K0 b o→b < g.w0.heap.size
theorem FS.nc (hf:FS g K ρ H w) (hpr:∀ b,¬ g.pr b) (hk0:∀ b o,g.K0 b o→b < g.w0.heap.size) (hw1:g.w1.heap.size=0) (hno:Vg H=true) (h:NC g.w0.heap.size w w'):FS g K ρ H w':=by
 obtain ⟨row,hg,hr⟩:=h.row
 have hpt:Prot g K w':=⟨fun b hb=>(hpr b hb).elim,fun b o h0=>by
  rw [←hf.pt.kept b o h0]
  refine World.cell?_of_block (hg.block b (hf.lt b o (hf.old b o h0)) fun e=>?_)
  have h1:=(hr b e.symm).1
  have h2:=hk0 b o h0
  omega⟩
 refine ⟨hf.below.grown hg hf.below.size (fun k e=>(hr k e).1),hf.old,hf.new,fun b o hk=>Nat.lt_of_lt_of_le (hf.lt b o hk) hg.size,⟨by rw [hw1];omega,fun k o hk=>by have:=(Array.getElem?_eq_some_iff.1 hk).1;omega⟩,hpt,hf.away,?_,hf.heap.apart⟩
 intro i e hi
 exact (hf.heap.ok i e hi).nc h (zgf hno i e hi)
structure AIter (P:Program) (f:FuncId) (cap:List PV) {α:Type} (encs:α→Array Value) (all:List α):Prop where
 stands:QZ P f
 stops:∀ (K:KK) (w:World) (vc:List Value) (n:Nat),PRels K w cap vc→SeqStopsK Fence.wide n P f vc.toArray encs (fun A B=>(∃ K,PRels K A cap vc)→∃ K,PRels K B cap vc) (fun xs=>xs=all) (fun _=>True) all.length w
def mark (D:Nat):Deferred:={ target:=.collected D,args:=#[] }
structure AW2 (P:Program) (n:Nat) (g:Base) (c:Code) (env:Env) (H:HEnv) (Q:QC):Prop where
 go:∀ a w,Inv n g env H a w→∀ d,2≤d→c.wpIn Fence.wide d P (fun e a' w'=>∃ (g2:Base) (D:Nat),g2.w0=g.w0∧g2.K0=g.K0∧g2.ds=[mark D]∧g.w0.heap.size≤D∧g2.w1.heap[D]?=some (.deferred (some [])) ∧
  ∃ env' H',Inv n g2 env' H' a' w'∧Q e env' H') a w
variable {x y c:Code} {QQ:QC} {ops:List Oper}
def zho (next:Env→HEnv→Prop):QC
 | .normal,env,H=>next env H
 | _,_,_=>False
theorem WW (h:AW P n g x env H (zho fun env' H'=>AW2 P n g y env' H' QQ)):AW2 P n g (.seq x y) env H QQ :=
 ⟨fun a w hi d hd=>wpIn_seq (wpIn_mono (h.go a w hi none d) fun e a' w' ⟨env',H',h1,h2⟩=>by
  cases e <;> first
   | exact h2.go a' w' h1 d hd
   | exact h2.elim)⟩
theorem zii (h:AW2 P n g x env H (zho fun env' H'=>∀ g2:Base,AW P n g2 y env' H' QQ)):AW2 P n g (.seq x y) env H QQ :=
 ⟨fun a w hi d hd=>wpIn_seq (wpIn_mono (h.go a w hi d hd) fun e a' w' ⟨g2,D,q1,q2,q3,q4,q5,env',H',h1,h2⟩=>by
  cases e <;> first
   | exact wpIn_mono ((h2 g2).go a' w' h1 none d) (fun e a2 w2 ⟨env2,H2,k1,k2⟩=>⟨g2,D,q1,q2,q3,q4,q5,env2,H2,k1,k2⟩)
   | exact h2.elim)⟩
theorem zgI {id:Nat} (h:AW2 P n g c env H (zho fun env' H'=>QQ .normal env' H')):AW2 P n g (.block id c) env H QQ :=
 ⟨fun a w hi d hd=>wpIn_block (wpIn_mono (h.go a w hi d hd) fun e a' w' ⟨g2,D,q1,q2,q3,q4,q5,env',H',h1,h2⟩=>by
  cases e <;> first
   | exact ⟨g2,D,q1,q2,q3,q4,q5,env',H',h1,h2⟩
   | exact h2.elim)⟩
theorem zcy (htb:zX P tb) {f:FuncId} {args:List PV} {r:PV} {fn:Func} (hf:P.funcs[f]?=some fn) (hb:fn.body=some c) (hn:(fn.name == "runtime.NumGoroutine")=false) (hnt:fn.ntmps=n) (hargs:args.length≤n)
  (rs:List ResultVar) (hrs:fn.results.toList=rs) (h:lensOk args→∀ g:Base,g.w1.heap.size=0→Bare g→AW2 P n g c (zdD 0 args) [] (fun e env H=>Vg H=true∧zl4 tb rs r e env H)):ACall P f args r:=by
 refine ⟨⟨fn,hf,by simp [hb],hn⟩,fun K w vs hl hv=>?_⟩
 refine callsIn_wide.1 (callsIn_of_wp_marks (F:=Fence.wide) (n:=2) hf hb trivial ?_)
 have hlen:vs.length=args.length:=hv.1
 refine wpIn_mono ((h hv.lensOk (Base.of w K (bare w) []) rfl ⟨rfl,fun _ h=>h,hl⟩).go _ w ⟨by simp [hnt];omega,rfl,K,fun _=>undef,⟨.refl _ _,fun _ _ h=>h,fun _ _ h=>.inl h,hl,QK _ _,.base,.none _ _,⟨by simp [HEnv.get_nil,HEnv.get_cons],by simp [HEnv.get_nil,HEnv.get_cons]⟩⟩,?_⟩ 2 (Nat.le_refl _)) ?_
 ·intro t av hg
  obtain ⟨_,p,hp,rfl⟩:=Vr args 0 t av hg
  have hlt:t < vs.length:=by rw [hlen];exact (List.getElem?_eq_some_iff.1 hp).1
  refine ⟨vs[t],?_,.pv _ _ (hv.2 t p _ hp (List.getElem?_eq_getElem hlt))⟩
  rw [Array.getElem?_append_left (by simpa using hlt)]
  simp [hlt]
 ·rintro e a' w' ⟨g2,D,q1,q2,q3,q4,q5,env1,H',hi,hno,he,env',hent,ps,hps,rfl⟩
  obtain ⟨_,h2,K',ρ',hf2,he0⟩:=hi
  have hD:w'.heap[D]?=some (.deferred (some [])):=hf2.others.same D _ q5 rfl
  have hf':FS (Base.of w K (bare w) []) K' ρ' H' w':=by
   have b1:=hf2.below;rw [q1] at b1
   have b2:=hf2.old;rw [q2] at b2
   have b3:=hf2.new;rw [q1,q2] at b3
   have b5:=hf2.heap;rw [q1] at b5
   exact ⟨b1,b2,b3,hf2.lt,QK _ _,⟨fun _ h=>h.elim,fun b o h0=>World.cell?_of_block (b1.block b (hl b o h0))⟩,.none _ _,b5⟩
  obtain ⟨w3,hw3⟩:∃ w3,w3=w'.putObj D (.deferred none):=⟨_,rfl⟩
  have hnc:NC w.heap.size w' w3:=⟨some D,by rw [hw3];exact grownBy_putObj' _ _ _,fun r e=>by cases e;exact ⟨q4,_,hD,rfl⟩⟩
  have hf3:=hf'.nc (fun _ h=>h) hl rfl hno hnc
  have he':EnvR K' w3 ρ' H' env' a'.tmps:=fun t av ht=>by
   obtain ⟨av0,q1,q2⟩:=hent t av ht
   obtain ⟨v,v1,v2⟩:=he0 t av0 q1
   exact ⟨v,v1,q2 _ _ _ _ _ (v2.nc hnc)⟩
  obtain ⟨us,hrun,hru⟩:=Qo htb hf3 he' hps
  have hev:Evo K K' w w3:=⟨hf3.below,hf3.old,hf3.new,hf3.lt⟩
  have hres:(results fn a'.tmps).run P w3=.ok (if hh:us.toArray.size=1 then us.toArray[0] else .tuple us.toArray) w3:=by
   unfold results
   rw [Array.mapM_eq_mapM_toList,hrs]
   simp only [Sem.run_bind,Sem.run_map]
   erw [hrun]
   rfl
  have hval:PRel K' w3 (zl ps) (if hh:us.toArray.size=1 then us.toArray[0] else .tuple us.toArray):=by
   split
   ·rename_i hh
    have hl1:=hru.1
    have hu:us.length=1:=by simpa using hh
    obtain ⟨u,rfl⟩:=List.length_eq_one_iff.1 hu
    obtain ⟨p,rfl⟩:=List.length_eq_one_iff.1 (show ps.length=1 by omega)
    exact hru.2 0 p u (by simp) (by simp)
   ·rename_i hh
    simp at hh
    have:zl ps=.tup ps:=by
     unfold zl
     split
     ·rename_i p;exact absurd (by have:=hru.1;simpa using this) hh
     ·rfl
    rw [this]
    exact .tup ps us hru.1 hru.2
  have hds:a'.defers=[mark D]:=h2.trans q3
  have hleave:LeavesInM Fence.wide 2 P fn a'.tmps (fun e w'=>∃ v K',e=.returned v∧Evo K K' w w'∧PRel K' w' (zl ps) v) a'.defers .returning w':=by
   rw [hds]
   refine ⟨by simp,.inl ⟨D,w3,rfl,by rw [hw3];exact run_takeDeferred hD,?_⟩⟩
   exact ⟨_,hres,_,K',rfl,hev,hval⟩
  rcases he with rfl|rfl
  ·exact hleave
  ·exact hleave
def zoq (ts:List Nat) (env:Env):Bool:=ts.all fun t=>(env.get t).isNone
theorem zgJ {α:Type} {tf p0 p1 tv:Nat} {id:Nat} {ty:TypeId} {po:String} {af:Array Edge} {body:Code} {fB:FuncId} {cap:List PV} {encs:α→Array Value} {all:List α} (v0 v1:α→Value) (hit:AIter P fB cap encs all)
  (env2:Env) (HH:List α→HEnv) (b:Nat) (hw1:g.w1.heap.size=0) (hbg:Bare g)
  (henc:∀ x,encs x=#[v0 x,v1 x]) (hv1:∀ x,Yc (v1 x)=true)
  (ht:env.get tf=some (.pv (.fn (.func fB) [] cap))) (hs:Sub env env2) (hft:env2.get tf=some (.pv (.fn (.func fB) [] cap))) (hnd:zj4 env2=true) (hfr:zoq [p0,p1,tv] env2=true) (hpp:p0 < n∧p1 < n∧tv < n∧p0≠p1)
  (hfit:YO H (HH []) env2) (hids:∀ pre,zdH b (HH pre)=true) (hno:∀ pre,Vg (HH pre)=true)
  (hend:(XP (HH all) env2&&hIn (HH all) (HH all))=true)
  (hbody:∀ (g2:Base) (us:Nat→Value) (pre:List α) (x:α),pre.length < all.length→AW P n g2 body ((tv,.pv (.base (v1 x)))::env2) (HH pre++yF us b env2) (zho fun env' H'=>YO H' (HH (pre++[x])++yF us b env2) []))
  (h:QQ .normal env2 (HH all)):AW2 P n g (.rangeFunc (.tmp tf) #[p0,p1] (.region id #[{ dst:=some tv,op:=.assign (.tmp p1),type:=ty,pos:=po,after:=af,guard:=none }] false) body) env H QQ:=by
 refine ⟨fun a w hinv d hd=>?_⟩
 have hinv2:=(hinv.sub hs).hsub hfit
 obtain ⟨h1,h2,K,ρ,hf,he⟩:=hinv2
 let us:Nat→Value:=fun t=>a.tmps.getD t undef
 have hus:∀ t av,(t,av)∈env2→ARel K w ρ (HH []) av (us t):=by
  intro t av hm
  obtain ⟨v,v1,v2⟩:=he t av (zbP hnd hm)
  have:us t=v:=by simp [us,Array.getD_eq_getD_getElem?,v1]
  rw [this];exact v2
 have hpins:∀ (pre:List α),Vg (HH pre++yF us b env2)=true:=by
  intro pre
  have h3:∀ (e:Env) (k:Nat),Vg (yF us k e)=true:=by
   intro e
   induction e with
   | nil=>intro k;rfl
   | cons x e ih=>intro k;exact ih (k + 1)
  have h4:∀ (A B:HEnv),Vg A=true→Vg B=true→Vg (A++B)=true:=by
   intro A
   induction A with
   | nil=>intro B _ hB;exact hB
   | cons x A ih =>
    intro B hA hB
    obtain ⟨j,x⟩:=x
    cases x <;> simp only [Vg,List.cons_append] at hA ⊢ <;> first|exact ih B hA hB|cases hA
  exact h4 _ _ (hno pre) (h3 _ _)
 have hfs0:FS g K ρ (HH []++yF us b env2) w:=by
  have hlat:Later K K w w:=.refl K w
  have hk:∀ j,(HEnv.get (HH []) j).isSome=true→(HEnv.get (HH []++yF us b env2) j).isSome=true∧ρ j=ρ j:=fun j hj=>⟨zH j hj,rfl⟩
  refine ⟨hf.below,hf.old,hf.new,hf.lt,hf.others,hf.pt,fun i h bb _ _ _=>hbg.pr bb,?_,?_⟩
  ·intro i e hi
   rw [get_append] at hi
   cases hh:HEnv.get (HH []) i with
   | some x=>rw [hh] at hi;simp only [Option.some.injEq] at hi;subst hi;exact (hf.heap.ok i _ hh).keeps (.refl hf.lt) hf.lt hk
   | none =>
    rw [hh] at hi
    obtain ⟨_,t,av,hm,rfl⟩:=XR hi
    exact (hus t av hm).keeps hlat hk
  ·intro i j x y bb hij hi hj lx ly bx bby
   have e1:∀ i x,HEnv.get (HH []++yF us b env2) i=some x→x.live=true→HEnv.get (HH []) i=some x:=by
    intro i x hi hl
    rw [get_append] at hi
    cases hh:HEnv.get (HH []) i with
    | some z=>rw [hh] at hi;exact hi
    | none =>
     rw [hh] at hi
     obtain ⟨_,t,av,hm,rfl⟩:=XR hi
     simp [HE.live] at hl
   exact hf.heap.apart i j x y bb hij (e1 i x hi lx) (e1 j y hj ly) lx ly bx bby
 have hread:∀ {K':KK} {ρ':Nat→Value} {pre:List α} {W:World} {g':Base},FS g' K' ρ' (HH pre++yF us b env2) W→∀ t av,env2.get t=some av→a.tmps[t]?=some (us t)∧ARel K' W ρ' (HH pre++yF us b env2) av (us t):=by
  intro K' ρ' pre W g' hf' t av hg
  obtain ⟨v,v1,v2⟩:=he t av hg
  have hu:us t=v:=by simp [us,Array.getD_eq_getD_getElem?,v1]
  obtain ⟨i,hbi,hgi⟩:=zeX (us:=us) (b:=b) (zeh hg)
  have hn:HEnv.get (HH pre) i=none:=by
   cases hh:HEnv.get (HH pre) i with
   | none=>rfl
   | some z=>have:=YK (hids pre) i z hh;omega
  have hget:HEnv.get (HH pre++yF us b env2) i=some (.pin av (us t)):=by rw [get_append,hn];exact hgi
  exact ⟨by rw [hu];exact v1,hf'.heap.ok i _ hget⟩
 have hfn:∃ vc,us tf=.func (.func fB) #[] vc.toArray∧PRels K w cap vc:=by
  have:=(hus tf _ (zeh hft))
  cases this with
  | pv _ _ hp =>
   generalize us tf=u at hp
   cases hp with
   | fn _ _ _ vf vc f1 f2 f3 f4 =>
    have:vf=[]:=List.eq_nil_of_length_eq_zero (by simpa using f1)
    subst this
    exact ⟨vc,rfl,f2,f4⟩
 obtain ⟨vc,hvc,hpc⟩:=hfn
 have hev:a.eval (.tmp tf)=.func (.func fB) #[] vc.toArray:=by rw [←hvc];rfl
 have hcapW:∀ {K':KK} {ρ':Nat→Value} {pre:List α} {W:World} {g':Base},FS g' K' ρ' (HH pre++yF us b env2) W→PRels K' W cap vc:=by
  intro K' ρ' pre W g' hf'
  have:=(hread hf' tf _ hft).2
  rw [hvc] at this
  cases this with
  | pv _ _ hp =>
   cases hp with
   | fn _ _ _ vf vc' f1 f2 f3 f4=>exact ⟨f2,f4⟩
 have hseq:=hit.stops K w vc (d - 1) hpc
 let a₁:α→Act:=fun x=>{ tmps:=((a.tmps.setIfInBounds p0 (v0 x)).setIfInBounds p1 (v1 x)).setIfInBounds tv (v1 x),defers:=[] }
 let I:List α→World→Prop:=fun pre W=>∃ K ρ,FS g K ρ (HH pre++yF us b env2) W
 refine wpIn_rangeFunc_ownF (α:=α) (F:=Fence.wide) (n:=d) (w0:=w) (N:=all.length) rfl (by omega) hev trivial (fun args w=>qj hit.stands args w) hseq
  (fun h1 h2 h=>h2 (h1 h)) (fun W l o o' hl hlo ho _=>fun ⟨K',hK'⟩=>⟨K',hK'.nc (B:=0) ⟨some l,grownBy_putObj' _ _ _,fun r e=>by cases e;exact ⟨Nat.zero_le _,o,hlo,ho⟩⟩⟩) (.refl _ _)
  (fun x=>by rw [henc];rfl) I (fun _ _ _=>False) ?_ (fun _ _ _ _ _ h=>h.elim) ⟨K,ρ,hfs0⟩ a₁ ?_ ?_ ?_ (fun _ _ _ _ _ _ h _=>h.elim)
 ·rintro pre W W' row ⟨K',ρ',hf'⟩ hg hr
  exact ⟨K',ρ',hf'.nc hbg.pr hbg.k0 hw1 (hpins pre) ⟨row,hg,fun r e=>⟨Nat.le_trans hf.below.size (hr r e).1,(hr r e).2⟩⟩⟩
 ·intro l x W KK hKK
  refine wpIn_region_list ?_
  have hK:KK (a₁ x) W:=hKK
  show wpListIn _ _ _ _ _ [_] _ _
  refine wpListIn_plain rfl fun K2 hK2=>?_
  refine ⟨fun _ _=>trivial,?_⟩
  rw [Oper.semAt_eq _ _ _ (fun c hc=>by cases hc)]
  have hrun:∀ ρ:Operand→Value,(execOp ρ { dst:=some tv,op:=.assign (.tmp p1),type:=ty,pos:=po,after:=af,guard:=none:Oper }).run P W=.ok (.value (ρ (.tmp p1))) W:=fun ρ=>by simp [execOp]
  rw [hrun]
  simp only [Oper.uponIn]
  refine hK2 _ _ ?_
  show Exit.then KK _ .normal _ W
  have e1:(({ tmps:=((#[p0,p1]:Array Tmp).zip (encs x)).foldl (fun t (p,v)=>t.setIfInBounds p v) a.tmps,defers:=[] }:Act).put (some tv) (({ tmps:=((#[p0,p1]:Array Tmp).zip (encs x)).foldl (fun t (p,v)=>t.setIfInBounds p v) a.tmps,defers:=[] }:Act).eval (.tmp p1)))=a₁ x:=by
   rw [henc x]
   have hsz:p1 < (a.tmps.setIfInBounds p0 (v0 x)).size:=by simp;omega
   have hz:((#[p0,p1]:Array Tmp).zip #[v0 x,v1 x]).foldl (fun t (p,v)=>t.setIfInBounds p v) a.tmps=(a.tmps.setIfInBounds p0 (v0 x)).setIfInBounds p1 (v1 x):=by
    have hz0:(#[p0,p1]:Array Tmp).zip #[v0 x,v1 x]=#[(p0,v0 x),(p1,v1 x)]:=Array.ext' (by rw [Array.toList_zip];rfl)
    rw [hz0];rfl
   rw [hz]
   simp only [Act.put,Act.eval,a₁]
   congr 2
   simp [Array.getD_eq_getD_getElem?]
   intro h;omega
  rw [e1]
  exact hK
 ·rintro l pre x W ⟨K',ρ',hf'⟩ hlen
  have hf2:FS ⟨g.w0,g.K0,W,[],g.wp,g.pr⟩ K' ρ' (HH pre++yF us b env2) W:=⟨hf'.below,hf'.old,hf'.new,hf'.lt,KeepsOthers.refl W,⟨hf'.pt.same,hf'.pt.kept⟩,hf'.away,hf'.heap⟩
  have hinvB:Inv n ⟨g.w0,g.K0,W,[],g.wp,g.pr⟩ ((tv,.pv (.base (v1 x)))::env2) (HH pre++yF us b env2) (a₁ x) W:=by
   refine ⟨by simp [a₁,h1],rfl,K',ρ',hf2,fun t av hg=>?_⟩
   rw [Env.get_cons] at hg
   split at hg
   ·rename_i e;subst e
    simp only [Option.some.injEq] at hg;subst hg
    refine ⟨v1 x,?_,.pv _ _ (.base _ (hv1 x))⟩
    show (((a.tmps.setIfInBounds p0 (v0 x)).setIfInBounds p1 (v1 x)).setIfInBounds tv (v1 x))[tv]?=some (v1 x)
    exact Array.getElem?_setIfInBounds_self_of_lt (by simp;omega)
   ·rename_i hne
    obtain ⟨q1,q2⟩:=hread hf' t av hg
    have hfresh:∀ p,p∈[p0,p1,tv]→p≠t:=by
     intro p hp e;subst e
     have:=List.all_eq_true.1 hfr p hp
     rw [hg] at this;cases this
    refine ⟨us t,?_,q2⟩
    show (((a.tmps.setIfInBounds p0 (v0 x)).setIfInBounds p1 (v1 x)).setIfInBounds tv (v1 x))[t]?=_
    rw [Array.getElem?_setIfInBounds_ne (hfresh tv (by simp)),Array.getElem?_setIfInBounds_ne (hfresh p1 (by simp)),Array.getElem?_setIfInBounds_ne (hfresh p0 (by simp))]
    exact q1
  refine wpIn_mono ((hbody ⟨g.w0,g.K0,W,[],g.wp,g.pr⟩ us pre x hlen).go (a₁ x) W hinvB (some l) (d - 1 - 1)) ?_
  rintro e a' W' ⟨env',H',hi',hq⟩
  cases e with
  | normal =>
   obtain ⟨_,_,K2,ρ2,hfe,_⟩:=(hi'.sub yj).hsub (H':=HH (pre++[x])++yF us b env2) hq
   refine ⟨hfe.others,fun _=>⟨K2,hcapW hfe⟩,K2,ρ2,⟨hfe.below,hfe.old,hfe.new,hfe.lt,⟨by rw [hw1];omega,fun k o hk=>by have:=(Array.getElem?_eq_some_iff.1 hk).1;omega⟩,⟨hfe.pt.same,hfe.pt.kept⟩,hfe.away,hfe.heap⟩⟩
  | _=>exact hq.elim
 ·rintro D xs W hD rfl ⟨K',ρ',hf'⟩ hWD
  have hend':=hend
  simp only [Bool.and_eq_true] at hend'
  have hfe:FS ⟨g.w0,g.K0,W,[mark D],g.wp,g.pr⟩ K' ρ' (HH xs++yF us b env2) W:=⟨hf'.below,hf'.old,hf'.new,hf'.lt,KeepsOthers.refl W,⟨hf'.pt.same,hf'.pt.kept⟩,hf'.away,hf'.heap⟩
  have hinvE:Inv n ⟨g.w0,g.K0,W,[mark D],g.wp,g.pr⟩ env2 (HH xs++yF us b env2) { a with defers:=mark D::a.defers } W:=by
   refine ⟨h1,?_,K',ρ',hfe,fun t av hg=>?_⟩
   ·show mark D::a.defers=[mark D]
    rw [h2,hbg.ds]
   ·obtain ⟨q1,q2⟩:=hread hf' t av hg
    exact ⟨us t,q1,q2⟩
  have hsub:HSub (HH xs++yF us b env2) (HH xs):=fun i h hi=>by rw [get_append,hi]
  exact ⟨⟨g.w0,g.K0,W,[mark D],g.wp,g.pr⟩,D,rfl,rfl,rfl,Nat.le_trans hf.below.size hD,hWD,env2,HH xs,hinvE.hsub ⟨hsub,hend⟩,h⟩
end
end Go.Cg
set_option linter.unusedVariables false
set_option linter.unusedSimpArgs false
namespace Go.Cg
open Go.Proofs Go.RowKit Go.Shelf
set_option maxHeartbeats 20000000
attribute [local go_sem] Oper.semAt_some
def Xh (l:List Int) (r:Nat):List (Int × Int):=(List.range (l.length - r)).map fun k=>(((l.length - 1 - k:Nat):Int),l.getD (l.length - 1 - k) 0)
theorem zkh (l:List Int):Xh l l.length=[]:=by simp [Xh]
theorem zbi (l:List Int) (r:Nat):(Xh l r).length=l.length - r:=by simp [Xh]
theorem zkG {l:List Int} {m:Nat} (h:m < l.length):Xh l m=Xh l (m + 1)++[((m:Int),l.getD m 0)]:=by
 rw [Xh,Xh,show l.length - m=(l.length - (m + 1)) + 1 by omega,List.range_succ,List.map_append,List.map_singleton]
 rw [show l.length - 1 - (l.length - (m + 1))=m by omega]
def zhR (W:World) (v:Value) (l:List Int):Prop :=
 ∃ (Bs o:Nat) (sv:Value),v=.pointer (some ⟨Bs,o,none⟩)∧W.cell? ⟨Bs,o,none⟩=some sv ∧
  ((l=[]∧∃ p,sv=.slice p 0 0)∨∃ b off cap,sv=.slice (some ⟨b,off,none⟩) l.length cap∧∀ j,j < l.length→W.cell? ⟨b,off + j,none⟩=some (.int .i64 (l.getD j 0)))
theorem zbJ {K:Cg.KK} {W:World} {l:List Int} {vc:List Value} (h:PRels K W [.ptr (ints l) 0] vc):∃ v,vc=[v]∧zhR W v l:=by
 obtain ⟨v,vs,rfl,r,h2⟩:=h.cons_inv
 obtain rfl:=h2.nil_inv
 refine ⟨v,rfl,?_⟩
 cases r with
 | ptr _ _ b o vs hl hr hc =>
  cases vs with
  | nil=>simp [PV.cells,ints] at hl
  | cons sv vs' =>
   have h0:=hr 0 sv rfl
   have hp:=hc 0 (ints l) sv rfl rfl
   refine ⟨b,o,sv,by simp,by simpa using h0.2.1,?_⟩
   generalize hls:ints l=p at hp
   cases hp with
   | nil sz full =>
    simp [ints] at hls
    exact .inl ⟨hls.2.1,none,rfl⟩
   | emp sz full a =>
    simp [ints] at hls
    exact .inl ⟨hls.2.1,some a,rfl⟩
   | slc sz es full b2 o2 cap vss q0 q1 q2 q3 q4 q5 q6 =>
    simp only [ints,PV.slc.injEq] at hls
    obtain ⟨rfl,rfl,_⟩:=hls
    refine .inr ⟨b2,o2,cap,by simp,fun j hj=>?_⟩
    have he:(l.map pi)[j]?=some (pi l[j]):=by simp [hj]
    obtain ⟨_,e2,e3⟩:=q5 j _ he
    have hlt:0 < (vss j).length:=by omega
    have hv:=q6 j _ 0 _ (vss j)[0] he rfl (List.getElem?_eq_getElem hlt)
    have hcell:=(e3 0 _ (List.getElem?_eq_getElem hlt)).2.1
    generalize (vss j)[0]=y at hv hcell
    cases hv
    rw [List.getD_eq_getElem?_getD,List.getElem?_eq_getElem hj,Option.getD_some]
    simpa using hcell
   | _=>simp [ints] at hls
set_option maxRecDepth 100000 in
theorem zoA (n:Nat) (rn:Nat) (v:Value) (l:List Int) (hreach:l.length≤1000) (J Jx:List (Int × Int)→World→Prop)
  (hY:∀ pre x W,J pre W→pre.length < l.length→YieldAt Fence.wide (n - 1) Tryz.prog rn #[.int .i64 x.1,.int .i64 x.2] W fun e W' =>
   (e=.returned (.bool true)∧J (pre++[x]) W'∧((∃ K,PRels K W [.ptr (ints l) 0] [v])→∃ K,PRels K W' [.ptr (ints l) 0] [v]))∨(e=.returned (.bool false)∧Jx (pre++[x]) W'))
  (W:World) (hvP:∃ K,PRels K W [.ptr (ints l) 0] [v]) (h0:J [] W) :
  CallsIn Fence.wide n Tryz.prog 362 #[.func (.yield rn) #[] #[],v] W fun e W'=>(∃ u,e=.returned u) ∧
   ((∃ ys,ys=Xh l 0∧J ys W')∨(∃ pre,Jx pre W')):=by
 obtain ⟨Bs,o,sv,rfl,hBs,hsv⟩:zhR W v l:=by
  obtain ⟨K,hp⟩:=hvP
  obtain ⟨v2,e,hv2⟩:=zbJ hp
  simp only [List.cons.injEq,and_true] at e;subst e;exact hv2
 obtain ⟨p,cap,hsve⟩:∃ p cap,sv=.slice p l.length cap:=by
  rcases hsv with ⟨rfl,p,rfl⟩|⟨b,off,cap,rfl,_⟩
  ·exact ⟨p,0,rfl⟩
  ·exact ⟨_,cap,rfl⟩
 subst hsve
 refine callsIn_of_wp Tryz.func362 rfl trivial ?_ rfl
 simp only [Tryz.ntmps362,List.size_toArray,List.length_cons,List.length_nil,Nat.reduceAdd,Nat.reduceSub,Array.replicate_succ,Array.replicate_zero,List.push_toArray,List.append_toArray,List.nil_append,List.cons_append]
 gi_wp2
 gi_loopw [3] (fun i wr=>∃ r:Nat,r≤l.length∧i=.int .i64 ((r:Int) - 1)∧J (Xh l r) wr∧∃ K,PRels K wr [.ptr (ints l) 0] [.pointer (some ⟨Bs,o,none⟩)])
  (fun i _=>(RowKit.intOf i + 1).toNat)
 case atStart=>exact ⟨l.length,Nat.le_refl _,by first|rfl|(simp;done)|(congr 1;exact wrap_in (by omega) (by omega)),by rw [zkh];exact h0,hvP⟩
 case round =>
  obtain ⟨r,hk,rfl,hJs,hnx⟩:=hrel
  clear hsv hBs
  obtain ⟨Bs',o',sv,e1,hBs,hsv⟩:zhR wr (.pointer (some ⟨Bs,o,none⟩)) l:=by
   obtain ⟨K,hp⟩:=hnx
   obtain ⟨v2,e,hv2⟩:=zbJ hp
   simp only [List.cons.injEq,and_true] at e;subst e;exact hv2
  simp only [Value.pointer.injEq,Option.some.injEq,Addr.mk.injEq,and_true] at e1
  obtain ⟨rfl,rfl⟩:=e1
  cases r with
  | zero =>
   gi_wp2
   go_end0
   exact ⟨⟨_,rfl⟩,.inl ⟨_,rfl,hJs⟩⟩
  | succ m =>
   have hm:m < l.length:=by omega
   rcases hsv with ⟨rfl,_⟩|⟨b,off,cap2,rfl,hcs⟩
   ·simp at hm
   ·have hcx:=hcs m hm
    obtain ⟨fn,tmps,assign,body,hy,hR⟩:=hY _ ((m:Int),l.getD m 0) wr hJs (by rw [zbi];omega)
    dsimp only at hy
    have hgd:l.getD m 0=l[m]:=by rw [List.getD_eq_getElem?_getD,List.getElem?_eq_getElem hm,Option.getD_some]
    rw [hgd] at hy hcx
    rw [show (((m + 1:Nat):Int) - 1)=((m:Nat):Int) by omega]
    gi_wp2
    refine ⟨fun hh=>by simp [Fence.wide] at hh,hR.mono ?_⟩
    rintro e W3 (⟨rfl,hJ3,hk3⟩|⟨rfl,hJx3⟩)
    ·gi_wp2
     go_roundw
     case rel=>exact ⟨m,by omega,by first|rfl|(simp;done)|(congr 1;exact wrap_in (by omega) (by omega)),by rw [zkG hm];exact hJ3,hk3 hnx⟩
     case measure=>simp [RowKit.intOf]
    ·gi_wp2
     refine bodyPost_ret (results_none rfl _ _ _) rfl ?_
     exact ⟨⟨_,rfl⟩,.inr ⟨_,hJx3⟩⟩
theorem zgr (l:List Int) (hreach:l.length≤1000):AIter Tryz.prog 362 [.ptr (ints l) 0] (fun x:Int × Int=>#[.int .i64 x.1,.int .i64 x.2]) (Xh l 0):=by
 refine ⟨⟨_,Tryz.func362,rfl,by kernel_rfl⟩,fun K w vc n hp=>?_⟩
 obtain ⟨v,rfl,_⟩:=zbJ hp
 intro rn J Jx W hW hJ hJx hY h0
 have hpW:PRels K W [.ptr (ints l) 0] [v]:=hp.keepc fun x u hx=>by
  obtain ⟨o,ho,_⟩:=cells_of_cell hx
  exact (hW.cell (p:=x) (Array.getElem?_eq_some_iff.1 ho).1).trans hx
 rw [show (Xh l 0).length=l.length by rw [zbi];omega] at hY
 refine (zoA n rn v l hreach J Jx hY W ⟨K,hpW⟩ h0).mono ?_
 rintro e W' ⟨h1,h2|⟨pre,h2⟩⟩
 ·exact ⟨h1,.inl h2⟩
 ·exact ⟨h1,.inr ⟨pre,trivial,h2⟩⟩
theorem zbq (l:List Int):ACall Tryz.prog 294 [ints l] (.fn (.func 362) [] [.ptr (ints l) 0]):=by
 refine zf zh Tryz.func294 rfl (by kernel_rfl) Tryz.ntmps294 (by simp) _ rfl (fun hw gB hgB=>?_)
 repeat' (first|refine sA ?_|refine sC (fun _=>?_) (fun _=>?_)|fail)
 exact retq rfl rfl
end Go.Cg
namespace Go.Cg
open Go.RowKit
section
variable {P:Program} {n:Nat} {g:Base} {K:KK} {w:World} {ρ:Nat→Value} {H:HEnv} {env:Env} {a:Act} {ops l:List Oper} {Q:Env→Prop}
end
end Go.Cg
