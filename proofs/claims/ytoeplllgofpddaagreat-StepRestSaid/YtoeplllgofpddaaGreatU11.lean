/- A part of the walks by abstract values: no statement of its own. -/
import Derived.Test.YtoeplllgofpddaaGreatU10
import Derived.KernelRfl
import Derived.Test.YtoeplllgofpddaaGreatU2
import Derived.Test.YtoeplllgofpddaaGreatU8
import Derived.Laws.OwnMore
set_option linter.unusedVariables false
set_option linter.unusedSimpArgs false
namespace Go.Cg
open Go.RowKit
def zfo (k j:Nat) (o:Oper):Oper:=if k≤j then { o with after:=o.after++((List.range j).map fun i=>(⟨i,.phase⟩:Edge)).toArray } else o
def zQ (k:Nat):List Oper→Nat→List Oper
 | [],_=>[]
 | o::r,j=>zfo k j o::zQ k r (j + 1)
theorem VX (k:Nat):∀ (ops:List Oper) (m j:Nat),(zQ k ops m)[j]?=(ops[j]?).map (zfo k (m + j))
 | [],m,j=>by simp [zQ]
 | o::ops,m,j=>by
  cases j with
  | zero=>simp [zQ]
  | succ j=>simp [zQ,VX k ops (m + 1) j,Nat.add_assoc,Nat.add_comm 1 j]
theorem QZ (k:Nat):∀ (ops:List Oper) (m:Nat),(zQ k ops m).length=ops.length
 | [],_=>rfl
 | o::ops,m=>by simp [zQ,QZ k ops (m + 1)]
theorem zhD {k j:Nat} {o:Oper} {i:Nat}:yD (zfo k j o) i=(yD o i||(decide (k≤j)&&decide (i < j))):=by
 unfold zfo
 by_cases h:k≤j
 ·rw [if_pos h,Bool.eq_iff_iff]
  simp only [yD,Array.toList_append,List.any_append,Bool.or_eq_true,h,decide_true,Bool.true_and,decide_eq_true_eq]
  refine or_congr_right ?_
  simp only [List.any_eq_true,List.mem_map,List.mem_range,Bool.and_eq_true,beq_iff_eq]
  constructor
  ·rintro ⟨_,⟨m,hm,rfl⟩,_,h2⟩;simp only at h2;omega
  ·intro hi;exact ⟨_,⟨i,hi,rfl⟩,rfl,rfl⟩
 ·rw [if_neg h];simp [h]
def implied (ops:List Oper):Nat→Nat→Nat→Bool
 | 0,_,_=>false
 | n + 1,j,i=>match ops[j]? with
  | none=>false
  | some o=>yD o i||o.after.toList.any fun e=>Region.binds .any e&&implied ops n e.on i
def WE (ops:List Oper) (k:Nat):Bool:=(List.range ops.length).all fun j=>Nat.blt j k||(List.range j).all fun i=>implied ops ops.length j i
def zoC (ops:List Oper) (listed:Array Bool):Prop:=∀ j o,ops[j]?=some o→listed.getD j false=true→∀ i,yD o i=true→listed.getD i false=true
theorem zan {ops:List Oper} {listed:Array Bool} (hc:zoC ops listed):∀ (n j i:Nat) (o:Oper),ops[j]?=some o→(∀ m,yD o m=true→listed.getD m false=true)→implied ops n j i=true→listed.getD i false=true
 | 0,_,_,_,_,_,h=>by simp [implied] at h
 | n + 1,j,i,o,ho,hall,h=>by
  simp only [implied,ho,Bool.or_eq_true] at h
  rcases h with h|h
  ·exact hall i h
  ·obtain ⟨e,he,hb⟩:=List.any_eq_true.1 h
   rw [Bool.and_eq_true] at hb
   have hm:listed.getD e.on false=true:=hall e.on (List.any_eq_true.2 ⟨e,he,by simp [hb.1]⟩)
   cases hoe:ops[e.on]? with
   | none =>
    cases n with
    | zero=>simp [implied] at hb
    | succ n=>simp [implied,hoe] at hb
   | some o2=>exact zan hc n e.on i o2 hoe (hc e.on o2 hoe hm) hb.2
section
variable {P:Program} {R:Exit→Act→World→Prop} {ops:List Oper} {k:Nat}
theorem zdJ (hok:WE ops k=true) {listed:Array Bool} (hc:zoC ops listed) (j:Nat):j∈Region.ready .any (zQ k ops 0).toArray listed↔j∈Region.ready .any ops.toArray listed:=by
 rw [yV,yV]
 constructor
 ·rintro ⟨o',ho',h1,h2⟩
  rw [VX] at ho'
  cases ho:ops[j]? with
  | none=>simp [ho] at ho'
  | some o =>
   simp [ho] at ho';subst ho'
   exact ⟨o,rfl,h1,fun i hi=>h2 i (by rw [zhD,hi];rfl)⟩
 ·rintro ⟨o,ho,h1,h2⟩
  refine ⟨zfo k j o,by rw [VX,ho];simp,h1,fun i hi=>?_⟩
  rw [zhD,Bool.or_eq_true,Bool.and_eq_true,decide_eq_true_eq,decide_eq_true_eq] at hi
  rcases hi with hi|⟨hk,hij⟩
  ·exact h2 i hi
  ·have hlt:=(List.getElem?_eq_some_iff.1 ho).1
   have:=List.all_eq_true.1 hok j (by simpa using hlt)
   rw [Bool.or_eq_true] at this
   rcases this with h|h
   ·have:=Nat.le_of_ble_eq_true h;omega
   ·exact zan hc _ j i o ho h2 (List.all_eq_true.1 h i (by simpa using hij))
theorem zkc (tmps:Array Value):yielded (zQ k ops 0).toArray tmps=yielded ops.toArray tmps:=by
 funext j
 unfold yielded
 simp only [List.getElem?_toArray,VX,Nat.zero_add]
 cases ops[j]? with
 | none=>rfl
 | some o =>
  by_cases hkj:k≤j
  ·simp [zfo,hkj]
  ·simp [zfo,hkj]
theorem zo4 {j:Nat} {K:Act→World→Prop} {a:Act} {w:World} (h:wpOp P (zQ k ops 0).toArray R j K a w):wpOp P ops.toArray R j K a w:=by
 unfold wpOp at h ⊢
 rw [zkc] at h
 simp only [List.getElem?_toArray,VX,Nat.zero_add] at h ⊢
 cases ho:ops[j]? with
 | none=>simpa [ho] using h
 | some o =>
  simp only [ho,Option.map_some] at h ⊢
  unfold zfo at h
  split at h <;> exact h
theorem zi4 {listed:Array Bool} (hs:listed.size=ops.length) (hc:zoC ops listed) {j:Nat} (hj:j∈Region.ready .any ops.toArray listed):zoC ops (listed.setIfInBounds j true):=by
 obtain ⟨o,ho,h1,h2⟩:=yV.1 hj
 have hlt:=(List.getElem?_eq_some_iff.1 ho).1
 have up:∀ i,listed.getD i false=true→(listed.setIfInBounds j true).getD i false=true:=by
  intro i hi
  by_cases e:i=j
  ·subst e;simp [Array.getD_eq_getD_getElem?,hs,hlt]
  ·rw [zU e];exact hi
 intro m om hom hlm i hi
 by_cases e:m=j
 ·subst e
  rw [ho] at hom;cases hom
  exact up i (h2 i hi)
 ·rw [zU e] at hlm
  exact up i (hc m om hom hlm i hi)
theorem zao (hok:WE ops k=true):∀ (fuel:Nat) (listed:Array Bool) (a:Act) (w:World),listed.size=ops.length→zoC ops listed→wpAny P .any (zQ k ops 0).toArray R fuel listed a w→wpAny P .any ops.toArray R fuel listed a w
 | 0,listed,a,w,hs,hc,h=>by
  refine ⟨?_,h.2⟩
  rw [List.eq_nil_iff_forall_not_mem]
  intro j hj
  have:=(zdJ hok hc j).2 hj
  rw [h.1] at this;cases this
 | fuel + 1,listed,a,w,hs,hc,h=>by
  refine ⟨fun hn=>h.1 ?_,fun j hj=>?_⟩
  ·rw [List.eq_nil_iff_forall_not_mem]
   intro j hj
   have:=(zdJ hok hc j).1 hj
   rw [hn] at this;cases this
  ·have h1:=h.2 j ((zdJ hok hc j).2 hj)
   exact zo4 (wpOp_mono (fun a w hh=>zao hok fuel _ a w (by simp [hs]) (zi4 hs hc hj) hh) h1)
end
section
variable {P:Program} {n:Nat} {g:Base} {H:HEnv} {env:Env} {ops:List Oper}
theorem zhW {QQ:QC} {id:Nat} (k:Nat) (hok:WE ops k=true) (hm:P.follows .mixedOrders=true) (hB:ZW (zQ k ops 0) ((zQ k ops 0).take k)=true) (hT:XK (zQ k ops 0) k=true) (hk:k≤(zQ k ops 0).length)
  (h:AD P n g H (zQ k ops 0) (fun env'=>AO P n g (zQ k ops 0).toArray ((zQ k ops 0).drop k) env' H (fun env' H'=>QQ .normal env' H')) ((zQ k ops 0).take k) env) (hnd:Zj ops=true:=by kernel_rfl):AW P n g (.region id ops.toArray true) env H QQ:=by
 obtain ⟨s⟩:=VO h
 refine ⟨fun a w hi rr dd=>?_⟩
 refine wpIn_mono (WU (R:=fun a' w'=>∃ env' H',Inv n g env' H' a' w'∧QQ .normal env' H') hnd hm ?_) (fun e a' w' h=>by obtain ⟨rfl,h⟩:=h;exact h)
 have hlen:=QZ k ops 0
 refine zao hok _ _ _ _ (by simp) ?_ ?_
 ·intro j o ho hl
  have hlt:=(List.getElem?_eq_some_iff.1 ho).1
  simp [Array.getD_eq_getD_getElem?,hlt] at hl
 obtain ⟨h1,h2,K,ρ,hf,he⟩:=hi
 have hev:Evo K K w { w with drawn:=w.drawn + 1 }:=(Evo.refl hf.lt).drew
 have hlk:((zQ k ops 0).take k).length=k:=by simp;omega
 have hsz:ops.toArray.size=(zQ k ops 0).length:=by simp [hlen]
 rw [hsz]
 generalize zQ k ops 0=ops' at *
 refine Vk (l:=ops'.take k) (by rw [hlk]) s hB (by rw [hlk];exact hT) (fun env' a' w' h hi'=>?_) _ _ _ _ (by simp) ⟨h1,h2,by simp,by rw [hlk];exact hk,?_,?_,K,ρ,hf.evo hev,?_,?_⟩
 ·rw [hlk]
  exact ZJ (fun e a' w' ⟨env',H',h1,h2,h3⟩=>⟨h2,env',H',h1,h3⟩) (h.go a' w' hi')
 ·intro j _ hj
  simp [Array.getD_eq_getD_getElem?,hj]
 ·intro i o ho hli
  have hlt:=(List.getElem?_eq_some_iff.1 ho).1
  have:i < ops'.length:=by simp at hlt;omega
  simp [Array.getD_eq_getD_getElem?,this] at hli
 ·intro i o ri t ho hli
  have hlt:=(List.getElem?_eq_some_iff.1 ho).1
  have:i < ops'.length:=by simp at hlt;omega
  simp [Array.getD_eq_getD_getElem?,this] at hli
 ·intro t av hav _
  obtain ⟨v,v1,v2⟩:=he t av hav
  exact ⟨v,v1,v2.later (hev.later hf.lt)⟩
theorem zX {QQ:QC} {id:Nat} (L k:Nat) (_:ops.length=L) (hok:WE ops k=true) (hm:P.follows .mixedOrders=true) (hB:ZW (zQ k ops 0) ((zQ k ops 0).take k)=true) (hT:XK (zQ k ops 0) k=true) (hk:Nat.ble k (zQ k ops 0).length=true)
  (h:AD P n g H (zQ k ops 0) (fun env'=>AO P n g (zQ k ops 0).toArray ((zQ k ops 0).drop k) env' H (fun env' H'=>QQ .normal env' H')) ((zQ k ops 0).take k) env) (hnd:Zj ops=true:=by kernel_rfl):AW P n g (.region id ops.toArray true) env H QQ :=
 zhW k hok hm hB hT (Nat.le_of_ble_eq_true hk) h hnd
end
theorem zpe {a:Act} {d t:Nat} {v:Value} (h:d≠t):(a.put (some d) v).tmps[t]?=a.tmps[t]?:=by
 simp only [Act.put];rw [Array.getElem?_setIfInBounds_ne h]
theorem zaN {listed:Array Bool} {j:Nat} (h:j < listed.size):listed.getD j true=listed.getD j false:=by
 rw [Array.getD_eq_getD_getElem?,Array.getD_eq_getD_getElem?,Array.getElem?_eq_getElem h];rfl
def zcS (ops:List Oper):Bool:=ops.zipIdx.all fun x=>x.1.after.toList.all fun e=>!Region.binds .any e||decide (e.on < x.2)
theorem zj0 {ops:List Oper} (h:zcS ops=true) {j:Nat} {o:Oper} (ho:ops[j]?=some o):∀ i,yD o i=true→i < j:=by
 intro i hi
 have h1:=List.all_eq_true.1 h (o,j) (Qr ho)
 unfold yD at hi
 obtain ⟨e,he,heq⟩:=List.any_eq_true.1 hi
 simp only [Bool.and_eq_true,beq_iff_eq] at heq
 have:=List.all_eq_true.1 h1 e he
 simp only [heq.1,Bool.not_true,Bool.false_or,decide_eq_true_eq] at this
 omega
theorem ready_nil {ops:List Oper} {listed:Array Bool} (he:zcS ops=true) (hs:listed.size=ops.length) (h0:Region.ready .any ops.toArray listed=[]):∀ j,j < ops.length→listed.getD j true=true:=by
 intro j
 induction j using Nat.strongRecOn with
 | _ j ih =>
  intro hj
  cases hun:listed.getD j true
  ·have ho:=List.getElem?_eq_getElem hj
   have:j∈Region.ready .any ops.toArray listed:=yV.2 ⟨_,ho,hun,fun i hi=>by
    have hij:=zj0 he ho i hi
    have:=ih i hij (by omega)
    rwa [zaN (by omega)] at this⟩
   rw [h0] at this;cases this
  ·rfl
def zri (P:Program) (o:Oper) (c:Nat):Prop:=∀ (a:Act) (v:Value) (w:World),(execOp (a.put (some c) v).eval o).run P w=(execOp a.eval o).run P w
def zjf (c:Nat):Operand→Bool
 | .tmp t=>!(t==c)
 | _=>true
theorem zgF {a:Act} {c:Nat} {v:Value}:∀ {x:Operand},zjf c x=true→(a.put (some c) v).eval x=a.eval x
 | .tmp t,h=>by
  have:c≠t:=by rintro rfl;simp [zjf] at h
  simp only [Act.eval,Array.getD_eq_getD_getElem?,zpe this]
 | .const _,_=>rfl
 | .global _,_=>rfl
 | .func _,_=>rfl
section
variable {P:Program} {n:Nat} {g:Base} {K:KK} {w:World} {ρ:Nat→Value} {H:HEnv} {env:Env} {a:Act} {ops l:List Oper} {Q:Env→Prop}
end
section
variable {P:Program} {tb:Tab} {n:Nat} {g:Base} {K K':KK} {w w':World} {ρ ρ':Nat→Value} {H H':HEnv} {env:Env} {a:Act} {ops:List Oper} {o:Oper} {rest:List Oper} {Q:Env→HEnv→Prop} {f:FuncId} {args:List AV} {r:AV}
theorem zfb {ars:List AV} {vs:List Value} (Hc Hc' R:HEnv) {lone:Bool} (ps:List Nat) (hw1:lone=true→g.w1.heap.size=0) (hsub:HSub H (Hc++R))
  (hchk:Vt Hc Hc' R ps ars [] r=true) (hc:∀ us,ACallM P f ars (Hc++ZT us ps) r (Hc'++ZT us ps) lone) (hf:FS g K ρ H w) (hall0:YZ K w ρ H ars vs) :
  Calls P f vs.toArray w fun e w'=>∃ v K' ρ2,e=.returned v∧FS g K' ρ2 (Hc'++R) w'∧ARel K' w' ρ2 (Hc'++R) r v∧Later K K' w w'∧(∀ j,(HEnv.get (R++Vo ps) j).isSome=true→(HEnv.get (Hc'++R) j).isSome=true∧ρ2 j=ρ j):=by
 simp only [Vt,Bool.and_eq_true] at hchk
 obtain ⟨⟨⟨⟨⟨⟨⟨⟨⟨⟨d1,d2⟩,d3⟩,d4⟩,i1⟩,i2⟩,i3⟩,i4⟩,i5⟩,i6⟩,i7⟩:=hchk
 have i7':∀ i∈ps,(Hc.get i).isSome=true∧(Hc'.get i).isSome=true:=fun i hi=>by simpa using List.all_eq_true.1 i7 i hi
 have hlatR:Later K K w w:=.refl K w
 have gC:∀ i x,Hc.get i=some x→H.get i=some x:=fun i x hx=>hsub i x (by rw [get_append,hx])
 have gR:∀ i x,R.get i=some x→H.get i=some x:=fun i x hx=>hsub i x (by
  rw [get_append]
  cases hh:Hc.get i with
  | none=>exact hx
  | some y=>rw [QI d1 i y hh] at hx;cases hx)
 have nC:∀ i x,R.get i=some x→Hc.get i=none:=fun i x hx=>by
  cases hh:Hc.get i with
  | none=>rfl
  | some y=>rw [QI d1 i y hh] at hx;cases hx
 have nC':∀ i x,R.get i=some x→Hc'.get i=none:=fun i x hx=>by
  cases hh:Hc'.get i with
  | none=>rfl
  | some y=>rw [QI d2 i y hh] at hx;cases hx
 have hpinC:∀ {A:HEnv} {us:Nat→Value} {i:Nat} {x:HE},HEnv.get (A++ZT us ps) i=some x→x.live=true→A.get i=some x:=by
  intro A us i x hx hl
  rw [get_append] at hx
  cases hh:A.get i with
  | some z=>rw [hh] at hx;exact hx
  | none =>
   rw [hh] at hx
   obtain ⟨_,_,rfl⟩:=zau hx
   simp [HE.live] at hl
 obtain ⟨g',hg'⟩:∃ g':Base,g'=⟨g.w0,K,g.w1,g.ds,w,fun b=>g.pr b∨∃ i x,R.get i=some x∧x.live=true∧zY (ρ i)=some b⟩:=⟨_,rfl⟩
 have hfs:FS g' K ρ (Hc++ZT ρ ps) w:=by
  subst hg'
  refine ⟨hf.below,fun _ _ h=>h,fun _ _ h=>.inl h,hf.lt,hf.others,⟨?_,fun _ _ _=>rfl⟩,?_,?_,?_⟩
  ·rintro b (hb|⟨i,x,hi,hl,hb⟩)
   ·exact ⟨(hf.pt.same b hb).1,rfl,fun _=>Iff.rfl⟩
   ·exact ⟨((hf.heap.ok i x (gR i x hi)).block_lt hl hb).2,rfl,fun _=>Iff.rfl⟩
  ·intro i x b hi hl hb
   have hC:=hpinC hi hl
   rintro (hp|⟨j,y,hj,hly,hbj⟩)
   ·exact hf.away i x b (gC i x hC) hl hb hp
   ·have hne:i≠j:=by rintro rfl;rw [nC i y hj] at hC;cases hC
    exact hf.heap.apart i j x y b hne (gC i x hC) (gR j y hj) hl hly hb hbj
  ·intro i x hi
   rw [get_append] at hi
   cases hh:Hc.get i with
   | some y =>
    rw [hh] at hi;simp only [Option.some.injEq] at hi;subst hi
    have hok:=hf.heap.ok i y (gC i y hh)
    have hk:∀ j,(HEnv.get Hc j).isSome=true→(HEnv.get (Hc++ZT ρ ps) j).isSome=true∧ρ j=ρ j:=fun j hj=>⟨yZ j hj,rfl⟩
    cases y with
    | cell v=>obtain ⟨b,t,arr,u,q1,q2,q3,q4,q5,q6⟩:=hok;exact ⟨b,t,arr,u,q1,q2,q3,(q4.refs (QE i2 i v hh)).keeps hlatR hk,q5,q6⟩
    | pin v u=>exact (ARel.refs hok (YJ i2 i v u hh)).keeps hlatR hk
    | row t sz es=>exact hok
    | mrow t sz es=>exact hok
    | dead=>exact hok
    | obj X=>exact hok
   | none =>
    rw [hh] at hi
    obtain ⟨q1,q2,rfl⟩:=zau hi
    exact .own _ (yZ _ (i7' _ q2).1)
  ·intro i j x y b hij hi hj lx ly bx bj
   exact hf.heap.apart i j x y b hij (gC i x (hpinC hi lx)) (gC j y (hpinC hj ly)) lx ly bx bj
 have hall:YZ K w ρ (Hc++ZT ρ ps) ars vs :=
  ⟨hall0.1,fun k c v hc hv=>((hall0.2 k c v hc hv).refs (Yf i1 k c hc)).keeps hlatR fun j hj=>⟨yZ j hj,rfl⟩⟩
 refine ((hc ρ).calls g' K ρ w _ (by subst hg';exact hw1) hfs hall).mono fun e w' ⟨v,K',ρ',e1,hf',hv⟩=>?_
 subst e1
 have hlat:Later K K' w w':=by subst hg';exact ⟨hf'.old,hf'.pt.kept⟩
 have hprot:∀ b,(g.pr b∨∃ i x,R.get i=some x∧x.live=true∧zY (ρ i)=some b)→b < w'.heap.size∧w'.heap[b]?=w.heap[b]?∧∀ o,K' b o↔K b o:=by subst hg';exact hf'.pt.same
 have haway:∀ i x b,Hc'.get i=some x→x.live=true→zY (ρ' i)=some b→¬ (g.pr b∨∃ i x,R.get i=some x∧x.live=true∧zY (ρ i)=some b):=by
  subst hg';exact fun i x b hi=>hf'.away i x b (by rw [get_append,hi])
 obtain ⟨ρ2,hρ2⟩:∃ ρ2:Nat→Value,∀ j,ρ2 j=if (Hc'.get j).isSome then ρ' j else ρ j:=⟨_,fun _=>rfl⟩
 have r1:∀ j,(Hc'.get j).isSome=true→ρ2 j=ρ' j:=fun j hj=>by rw [hρ2,if_pos hj]
 have r2:∀ j,Hc'.get j=none→ρ2 j=ρ j:=fun j hj=>by rw [hρ2,hj];rfl
 have hkC:∀ j,(HEnv.get Hc' j).isSome=true→(HEnv.get (Hc'++R) j).isSome=true∧ρ2 j=ρ' j:=fun j hj=>⟨yZ j hj,r1 j hj⟩
 have hps:∀ i∈ps,ρ' i=ρ i:=fun i hi=>by
  have hnone:Hc'.get (1000 + i)=none:=by
   cases hh:Hc'.get (1000 + i) with
   | none=>rfl
   | some x=>have:=VG d4 _ x hh;omega
  have:=hf'.heap.ok (1000 + i) _ (by rw [get_append,hnone];exact zeq hi)
  have this:ARel K' w' ρ' (Hc'++ZT ρ ps) (.own i) (ρ i):=this
  generalize hu:ρ i=u at this
  cases this with
  | own _ _=>rfl
 have hkR:∀ j,(HEnv.get (R++Vo ps) j).isSome=true→(HEnv.get (Hc'++R) j).isSome=true∧ρ2 j=ρ j:=fun j hj=>by
  rw [get_append] at hj
  cases hh:R.get j with
  | some x =>
   have hn:=nC' j x hh
   exact ⟨by rw [get_append,hn,hh];rfl,r2 j hn⟩
  | none =>
   rw [hh] at hj
   have hm:=zfe hj
   have hs':=(i7' j hm).2
   exact ⟨yZ j hs',by rw [r1 j hs',hps j hm]⟩
 have hfs2:FS g K' ρ2 (Hc'++R) w':=by
  have b1:Below g.w0.heap.size g.w0 w':=by subst hg';exact hf'.below
  have b3:∀ b o,K' b o→K b o∨g.w0.heap.size≤b:=by subst hg';exact hf'.new
  have b5:KeepsOthers g.w1 w':=by subst hg';exact hf'.others
  have bB:HRel K' w' g.w0.heap.size ρ' (Hc'++ZT ρ ps):=by subst hg';exact hf'.heap
  refine ⟨b1,fun b o h=>hlat.sub b o (hf.old b o h),fun b o hk=>(b3 b o hk).elim (hf.new b o) .inr,hf'.lt,b5,⟨fun b hb=>?_,fun b o h0=>(hlat.cell b o (hf.old b o h0)).trans (hf.pt.kept b o h0)⟩,fun i x b hi hl hb=>?_,fun i x hi=>?_,fun i j x y b hij hi hj lx ly bx bj=>?_⟩
  ·obtain ⟨p1,p2,p3⟩:=hprot b (.inl hb)
   obtain ⟨q1,q2,q3⟩:=hf.pt.same b hb
   exact ⟨p1,p2.trans q2,fun o=>(p3 o).trans (q3 o)⟩
  ·rw [get_append] at hi
   cases hh:Hc'.get i with
   | some y =>
    rw [hh] at hi;simp only [Option.some.injEq] at hi;subst hi
    rw [r1 i (by rw [hh];rfl)] at hb
    exact fun hp=>haway i y b hh hl hb (.inl hp)
   | none =>
    rw [hh] at hi
    rw [r2 i hh] at hb
    exact hf.away i x b (gR i x hi) hl hb
  ·rw [get_append] at hi
   cases hh:Hc'.get i with
   | some y =>
    rw [hh] at hi;simp only [Option.some.injEq] at hi;subst hi
    rw [r1 i (by rw [hh];rfl)]
    have hok:=bB.ok i y (by rw [get_append,hh])
    have hl':=Later.refl K' w'
    cases y with
    | cell v=>obtain ⟨b,t,arr,u,q1,q2,q3,q4,q5,q6⟩:=hok;exact ⟨b,t,arr,u,q1,q2,q3,(q4.refs (QE i3 i v hh)).keeps hl' hkC,q5,q6⟩
    | pin v u=>exact (ARel.refs hok (YJ i3 i v u hh)).keeps hl' hkC
    | row t sz es=>exact hok
    | mrow t sz es=>exact hok
    | dead=>exact hok
    | obj X=>exact hok
   | none =>
    rw [hh] at hi
    rw [r2 i hh]
    have hok:=hf.heap.ok i x (gR i x hi)
    have hsame:x.live=true→∀ b,zY (ρ i)=some b→w'.heap[b]?=w.heap[b]?∧∀ o,K' b o↔K b o:=fun hl b hb=>(hprot b (.inr ⟨i,x,hi,hl,hb⟩)).2
    cases x with
    | cell v =>
     obtain ⟨b,t,arr,u,q1,q2,q3,q4,q5,q6⟩:=hok
     obtain ⟨s1,s2⟩:=hsame rfl b (by rw [q1];rfl)
     exact ⟨b,t,arr,u,q1,q2,by rw [s1];exact q3,(q4.refs (QE i5 i v hi)).keeps hlat hkR,q5,fun o hk=>q6 o ((s2 o).1 hk)⟩
    | pin v u=>exact (ARel.refs hok (YJ i5 i v u hi)).keeps hlat hkR
    | row t sz es =>
     obtain ⟨xs,q1,q2,q3,q4⟩:=hok
     refine ⟨xs,Qj q1 fun b hb=>(hsame rfl b hb).1,q2,fun k e he=>?_,fun b hb o=>?_⟩
     ·obtain ⟨c1,c2⟩:=q3 k e he
      exact ⟨c1,fun k c hc=>let ⟨v,h4,h5,h6⟩:=c2 k c hc;⟨v,h4,h5,h6.later hlat⟩⟩
     ·rw [(hsame rfl b ((Xr q1 b).2 hb)).2 o];exact q4 b hb o
    | mrow t sz es =>
     obtain ⟨xs,q1,q2,q3,q4⟩:=hok
     refine ⟨xs,Qj q1 fun b hb=>(hsame rfl b hb).1,q2,fun k e he=>?_,fun b hb o hk=>?_⟩
     ·obtain ⟨c1,c2⟩:=q3 k e he
      exact ⟨c1,fun k c hc=>let ⟨v,h4,h5,h6⟩:=c2 k c hc;⟨v,h4,h5,h6.later hlat⟩⟩
     ·exact q4 b hb o (((hsame rfl b ((Xr q1 b).2 hb)).2 o).1 hk)
    | dead=>trivial
    | obj X =>
     obtain ⟨b,ob,q1,q2,q3,q4,q5⟩:=hok
     obtain ⟨s1,s2⟩:=hsame rfl b (by rw [q1];rfl)
     exact ⟨b,ob,q1,q2,by rw [s1];exact q3,q4,fun o hk=>q5 o ((s2 o).1 hk)⟩
  ·rw [get_append] at hi hj
   cases hhi:Hc'.get i with
   | some x' =>
    rw [hhi] at hi;simp only [Option.some.injEq] at hi;subst hi
    rw [r1 i (by rw [hhi];rfl)] at bx
    cases hhj:Hc'.get j with
    | some y' =>
     rw [hhj] at hj;simp only [Option.some.injEq] at hj;subst hj
     rw [r1 j (by rw [hhj];rfl)] at bj
     exact bB.apart i j x' y' b hij (by rw [get_append,hhi]) (by rw [get_append,hhj]) lx ly bx bj
    | none =>
     rw [hhj] at hj;rw [r2 j hhj] at bj
     exact haway i x' b hhi lx bx (.inr ⟨j,y,hj,ly,bj⟩)
   | none =>
    rw [hhi] at hi;rw [r2 i hhi] at bx
    cases hhj:Hc'.get j with
    | some y' =>
     rw [hhj] at hj;simp only [Option.some.injEq] at hj;subst hj
     rw [r1 j (by rw [hhj];rfl)] at bj
     exact haway j y' b hhj ly bj (.inr ⟨i,x,hi,lx,bx⟩)
    | none =>
     rw [hhj] at hj;rw [r2 j hhj] at bj
     exact hf.heap.apart i j x y b hij (gR i x hi) (gR j y hj) lx ly bx bj
 exact ⟨v,K',ρ2,rfl,hfs2,(hv.refs i4).keeps (Later.refl K' w') hkC,hlat,hkR⟩
def zbq (X:HEnv):Env→Env
 | []=>[]
 | (t,v)::e=>(t,if Yn X v then v else .any)::zbq X e
theorem zca (X:HEnv):∀ (e:Env) (t:Nat),(zbq X e).get t=(e.get t).map fun v=>if Yn X v then v else .any
 | [],t=>rfl
 | (t',v)::e,t=>by
  rw [zbq,Env.get_cons,Env.get_cons]
  split
  ·rfl
  ·exact zca X e t
theorem zry {xs:Array Operand} {ts:Array TypeId} {d:Tmp} {ars:List AV} (Hc Hc' R:HEnv) {lone:Bool} (ps:List Nat) (hw1:lone=true→g.w1.heap.size=0) (hg:guardE ops env o=some true)
  (hop:o.op=.call { callee:=.value (.func f),args:=xs,argTypes:=ts }) (hargs:avs env xs.toList=some ars) (hsub:HSub H (Hc++R)) (hd:o.dst=some d) (hdt:Nat.blt d n=true)
  (hchk:Vt Hc Hc' R ps ars [] r=true) (hc:∀ us,ACallM P f ars (Hc++ZT us ps) r (Hc'++ZT us ps) lone)
  (h:AO P n g ops.toArray rest ((d,r)::zbq (R++Vo ps) env) (Hc'++R) Q):AO P n g ops.toArray (o::rest) env H Q:=by
 refine ⟨fun a w hinv=>?_⟩
 have hw:=qE hinv hg
 obtain ⟨h1,h2,K,ρ,hf,he⟩:=hinv
 refine wpList_step fun KK hKK=>?_
 rw [if_pos hw]
 have hrun:(execOp a.eval o).run P w=.ok (.enter f (xs.toList.map a.eval).toArray) w:=by
  have e:(xs.toList.map a.eval).toArray=xs.map a.eval:=by rw [←Array.toList_map,Array.toArray_toList]
  rw [e]
  simp [execOp,hop,resolve,Act.eval,Deferred.ofValue,invoke,ZU (hc ρ).stands]
 unfold Oper.wp
 rw [hrun]
 simp only [Oper.upon]
 refine (zfb Hc Hc' R ps hw1 hsub hchk hc hf (zcV (a:=a) he hargs)).mono fun e w' ⟨v,K',ρ2,e1,hf',hv,hlat,hps⟩=>?_
 subst e1
 refine hKK _ _ (h.go _ _ ⟨Zg h1,put_defers h2,K',ρ2,hf',?_⟩)
 rw [hd]
 refine Yp h1 hdt (fun t av ht=>?_) hv
 rw [zca] at ht
 cases hE:env.get t with
 | none=>simp [hE] at ht
 | some v0 =>
  obtain ⟨u,u1,u2⟩:=he t v0 hE
  simp only [hE,Option.map_some,Option.some.injEq] at ht
  subst ht
  refine ⟨u,u1,?_⟩
  split
  ·rename_i hr;exact (u2.refs hr).keeps hlat hps
  ·exact .any u
def zfY (i:Nat):HEnv→HEnv
 | []=>[]
 | x::H=>if Nat.beq x.1 i then zfY i H else x::zfY i H
theorem ze6 (i:Nat):∀ (H:HEnv) (j:Nat),j≠i→(zfY i H).get j=H.get j
 | [],j,_=>rfl
 | (m,x)::H,j,hj=>by
  rw [zfY]
  split
  ·rename_i e
   have e':=Nat.eq_of_beq_eq_true e
   simp only at e'
   subst e'
   rw [ze6 m H j hj,HEnv.get_cons,if_neg (fun h=>hj h.symm)]
  ·rw [HEnv.get_cons,HEnv.get_cons,ze6 i H j hj]
theorem zo {xs:Array Operand} {ts:Array TypeId} {d:Tmp} {ars:List AV} (i:Nat) {x x':HE} {lone:Bool} (hw1:lone=true→g.w1.heap.size=0) (hg:guardE ops env o=some true)
  (hop:o.op=.call { callee:=.value (.func f),args:=xs,argTypes:=ts }) (hc:∀ us,ACallM P f ars ([(i,x)]++ZT us [i]) r ([(i,x')]++ZT us [i]) lone) (hargs:avs env xs.toList=some ars) (h0:H.get i=some x) (hd:o.dst=some d) (hdt:Nat.blt d n=true)
  (hchk:Vt [(i,x)] [(i,x')] (zfY i H) [i] ars [] r=true)
  (h:AO P n g ops.toArray rest ((d,r)::zbq (zfY i H++Vo [i]) env) ((i,x')::zfY i H) Q):AO P n g ops.toArray (o::rest) env H Q :=
 zry [(i,x)] [(i,x')] (zfY i H) [i] hw1 hg hop hargs (fun j y hj=>by
  rw [get_append,HEnv.get_cons,HEnv.get_nil] at hj
  by_cases e:i=j
  ·subst e;rw [if_pos rfl] at hj;simp only [Option.some.injEq] at hj;subst hj;exact h0
  ·rw [if_neg e] at hj;rw [←ze6 i H j (fun h=>e h.symm)];exact hj) hd hdt hchk hc h
theorem zq {QQ:QC} {id:Nat} (id' k:Nat) {l1 l2:List Oper} (_:id=id') (h1:ops.take k=l1) (h2:ops.drop k=l2) (h:AO P n g ops.toArray l1 env H (fun env' H'=>AOX P n g ops.toArray l2 env' H' QQ)) (hnd:Zj ops=true:=by kernel_rfl) :
  AW P n g (.region id ops.toArray false) env H QQ:=zns (zsD k h1 h2 h) hnd
theorem zoK {t:TypeId} {x:Operand} {k k0:IntKind} {m:Int} (hop:o.op=.makeInterface t x) (hu:P.underlying t=some (.int k0)) (hx:env.pv H x=some (.base (.int k m))):QStep P g H o env (.pv (.base (.iface t (.int k m)))):=by
 refine ⟨fun K ρ a w hf hv=>?_⟩
 have hxr:=qo hf (hv x (by rw [hop];simp [Op.operands])) hx
 generalize hxv:a.eval x=xv at hxr
 cases hxr
 have hrun:(execOp a.eval o).run P w=.ok (.value (.iface t (.int k m))) w:=by
  simp [execOp,hop,hxv,Instr.makeInterface,run_underlying hu]
 rw [hrun]
 exact Yh hf (.pv _ _ (.base _ rfl))
structure EStep (P:Program) (g:Base) (H0 H1 Ht:HEnv) (o:Oper) (e:Env) (r:AV) (pan:Option Value):Prop where
 go:∀ (K:KK) (ρ:Nat→Value) (a:Act) (w:World),FS g K ρ H0 w→(∀ x∈o.op.operands,∀ av,e.val x=some av→ARel K w ρ Ht av (a.eval x)) →
  ∃ f vs,(execOp a.eval o).run P w=.ok (.enter f vs) w∧Calls P f vs w fun ex w' =>
   match pan with
   | none=>∃ v K' ρ',ex=.returned v∧FS g K' ρ' H1 w'∧Later K K' w w'∧(∀ j,(Ht.get j).isSome=true→ρ' j=ρ j)∧ARel K' w' ρ' Ht r v
   | some v=>ex=.panicked [{ v:=v,recovered:=false }]∧∃ K' ρ',FS g K' ρ' [] w'
def YQ (A B:HEnv):Bool:=A.all fun x=>(B.get x.1).isSome
theorem Qw {A B:HEnv} (h:YQ A B=true):∀ j,(A.get j).isSome=true→(B.get j).isSome=true:=by
 induction A with
 | nil=>intro j hj;simp [HEnv.get_nil] at hj
 | cons y A ih =>
  intro j hj
  obtain ⟨i,z⟩:=y
  simp only [YQ,List.all_cons,Bool.and_eq_true] at h
  rw [HEnv.get_cons] at hj
  split at hj
  ·rename_i e;subst e;exact h.1
  ·exact ih h.2 j hj
theorem zeB {e:Env} {Ht:HEnv} {a:Act}:∀ {xs:List Operand} {ars:List AV},(∀ x∈xs,∀ av,e.val x=some av→ARel K w ρ Ht av (a.eval x))→avs e xs=some ars→YZ K w ρ Ht ars (xs.map a.eval)
 | [],ars,_,h=>by simp only [avs,Option.some.injEq] at h;subst h;exact ⟨rfl,fun k c v hc=>by simp at hc⟩
 | x::xs,ars,hv,h=>by
  simp only [avs] at h
  split at h
  ·rename_i v vs h1 h2
   simp only [Option.some.injEq] at h;subst h
   obtain ⟨q1,q2⟩:=zeB (xs:=xs) (fun y hy=>hv y (by simp [hy])) h2
   refine ⟨by simp [q1],fun k c u hc hu=>?_⟩
   cases k with
   | zero=>simp at hc hu;subst hc hu;exact hv x (by simp) v h1
   | succ k=>simp at hc hu;exact q2 k c u hc (by simpa using hu)
  ·cases h
theorem zlu {xs:Array Operand} {ts:Array TypeId} {ars:List AV} {Ht:HEnv} {e:Env} (Hc Hc' R:HEnv) {lone:Bool} (ps:List Nat) (hw1:lone=true→g.w1.heap.size=0)
  (hop:o.op=.call { callee:=.value (.func f),args:=xs,argTypes:=ts }) (hargs:avs e xs.toList=some ars) (hsub:HSub H (Hc++R)) (hk:YQ Ht H=true) (hk2:YQ Ht (R++Vo ps)=true)
  (hr:Yn Ht r=true) (hchk:Vt Hc Hc' R ps ars [] r=true) (hc:∀ us,ACallM P f ars (Hc++ZT us ps) r (Hc'++ZT us ps) lone):EStep P g H (Hc'++R) Ht o e r none:=by
 refine ⟨fun K ρ a w hf hv=>?_⟩
 have hrun:(execOp a.eval o).run P w=.ok (.enter f (xs.toList.map a.eval).toArray) w:=by
  have e:(xs.toList.map a.eval).toArray=xs.map a.eval:=by rw [←Array.toList_map,Array.toArray_toList]
  rw [e]
  simp [execOp,hop,resolve,Act.eval,Deferred.ofValue,invoke,ZU (hc ρ).stands]
 refine ⟨f,_,hrun,?_⟩
 have hpa:YZ K w ρ Ht ars (xs.toList.map a.eval):=zeB (fun x hx=>hv x (by rw [hop];simp [Op.operands,Call.operands];exact .inr (by simpa using hx))) hargs
 have hall:YZ K w ρ H ars (xs.toList.map a.eval):=⟨hpa.1,fun k c v hc hv=>(hpa.2 k c v hc hv).keeps (.refl K w) fun j hj=>⟨Qw hk j hj,rfl⟩⟩
 refine (zfb Hc Hc' R ps hw1 hsub hchk hc hf hall).mono fun ex w' ⟨v,K',ρ2,e1,hf',hv,hlat,hps⟩=>?_
 exact ⟨v,K',ρ2,e1,hf',hlat,fun j hj=>(hps j (Qw hk2 j hj)).2,hv.refs hr⟩
theorem zpJ {xs:Array Operand} {ts:Array TypeId} {ars:List AV} {Ht H1:HEnv} {e:Env} {v:Value} (Hc:HEnv) {lone:Bool} (hw1:lone=true→g.w1.heap.size=0)
  (hop:o.op=.call { callee:=.value (.func f),args:=xs,argTypes:=ts }) (hargs:avs e xs.toList=some ars) (hfit:Wn H Hc []) (hin:Ql Hc ars=true) (hc:ACallPan P f ars Hc v lone):EStep P g H H1 Ht o e r (some v):=by
 refine ⟨fun K ρ a w hf hv=>?_⟩
 have hrun:(execOp a.eval o).run P w=.ok (.enter f (xs.toList.map a.eval).toArray) w:=by
  have e:(xs.toList.map a.eval).toArray=xs.map a.eval:=by rw [←Array.toList_map,Array.toArray_toList]
  rw [e]
  simp [execOp,hop,resolve,Act.eval,Deferred.ofValue,invoke,ZU hc.stands]
 refine ⟨f,_,hrun,?_⟩
 have hpa:YZ K w ρ Ht ars (xs.toList.map a.eval):=zeB (fun x hx=>hv x (by rw [hop];simp [Op.operands,Call.operands];exact .inr (by simpa using hx))) hargs
 have hall:YZ K w ρ Hc ars (xs.toList.map a.eval):=⟨hpa.1,fun k c v hc hv=>(hpa.2 k c v hc hv).refs (Yf hin k c hc)⟩
 exact hc.calls g K ρ w _ hw1 (hf.narrow hfit) hall
theorem zgp {i:Nat} {v v':AV} {R:HEnv} (hf:FS g K ρ ((i,.cell v)::R) w) (ht:Tells v v'):FS g K ρ ((i,.cell v')::R) w:=by
 have hsome:∀ j,(HEnv.get ((i,HE.cell v)::R) j).isSome=(HEnv.get ((i,HE.cell v')::R) j).isSome:=fun j=>by rw [HEnv.get_cons,HEnv.get_cons];split <;> rfl
 have hk:∀ j,(HEnv.get ((i,HE.cell v)::R) j).isSome=true→(HEnv.get ((i,HE.cell v')::R) j).isSome=true∧ρ j=ρ j:=fun j hj=>⟨by rw [←hsome];exact hj,rfl⟩
 have hold:∀ j x,HEnv.get ((i,HE.cell v')::R) j=some x→(j=i∧x=.cell v')∨(j≠i∧HEnv.get ((i,HE.cell v)::R) j=some x):=fun j x hx=>by
  rw [HEnv.get_cons] at hx
  split at hx
  ·rename_i e;subst e;simp only [Option.some.injEq] at hx;exact .inl ⟨rfl,hx.symm⟩
  ·rename_i e;exact .inr ⟨fun h=>e h.symm,by rw [HEnv.get_cons,if_neg e];exact hx⟩
 have h0:HEnv.get ((i,HE.cell v)::R) i=some (.cell v):=by rw [HEnv.get_cons,if_pos rfl]
 refine ⟨hf.below,hf.old,hf.new,hf.lt,hf.others,hf.pt,fun j x b hj hl hb=>?_,fun j x hj=>?_,fun j j' x x' b hjj hj hj' hl hl' hb hb'=>?_⟩
 ·rcases hold j x hj with ⟨rfl,rfl⟩|⟨_,hj⟩
  ·exact hf.away j _ b h0 rfl hb
  ·exact hf.away j x b hj hl hb
 ·rcases hold j x hj with ⟨rfl,rfl⟩|⟨_,hj⟩
  ·obtain ⟨b,t,arr,u,q1,q2,q3,q4,q5,q6⟩:=hf.heap.ok j _ h0
   exact ⟨b,t,arr,u,q1,q2,q3,ht _ _ _ _ _ (q4.keeps (.refl K w) hk),q5,q6⟩
  ·exact (hf.heap.ok j x hj).keeps (.refl hf.lt) hf.lt hk
 ·have key:∀ j x,HEnv.get ((i,HE.cell v')::R) j=some x→x.live=true→∃ y,HEnv.get ((i,HE.cell v)::R) j=some y∧y.live=true:=fun j x hj hl=>by
   rcases hold j x hj with ⟨rfl,rfl⟩|⟨_,hj⟩
   ·exact ⟨_,h0,rfl⟩
   ·exact ⟨x,hj,hl⟩
  obtain ⟨y,y1,y2⟩:=key j x hj hl
  obtain ⟨y',y3,y4⟩:=key j' x' hj' hl'
  exact hf.heap.apart j j' y y' b hjj y1 y3 y2 y4 hb hb'
end
section
variable {P:Program} {n:Nat} {g:Base} {K:KK} {w:World} {ρ:Nat→Value} {H H0 H1:HEnv} {env:Env} {a:Act} {ops l:List Oper} {Q:Env→Prop}
theorem zlT {l:List Oper} {r:List AV} {e:List Env} {last env:Env} {o:Oper} {ro:AV} {t:Nat} (hd:o.dst=some t)
  (src:∀ (j:Nat) (ej:Env),(e++[last])[j]?=some ej→∀ (t':Nat) (av:AV),ej.get t'=some av→(∃ i o ri,i < j∧l[i]?=some o∧o.dst=some t'∧r[i]?=some ri∧Tells ri av∧(∀ i' o',i < i'→i' < j→l[i']?=some o'→o'.dst≠some t')) ∨
   ((∀ i o,i < j→l[i]?=some o→o.dst≠some t')∧∃ av0,Env.get ((t,ro)::env) t'=some av0∧Tells av0 av)) :
  ∀ (j:Nat) (ej:Env),(env::e++[last])[j]?=some ej→∀ (t':Nat) (av:AV),ej.get t'=some av→(∃ i o' ri,i < j∧(o::l)[i]?=some o'∧o'.dst=some t'∧(ro::r)[i]?=some ri∧Tells ri av∧(∀ i' o',i < i'→i' < j→(o::l)[i']?=some o'→o'.dst≠some t')) ∨
   ((∀ i o',i < j→(o::l)[i]?=some o'→o'.dst≠some t')∧∃ av0,env.get t'=some av0∧Tells av0 av):=by
 intro j ej hj t' av hav
 cases j with
 | zero=>simp at hj;subst hj;exact .inr ⟨by simp,av,hav,.refl _⟩
 | succ j =>
  have hj':(e++[last])[j]?=some ej:=by simpa using hj
  rcases src j ej hj' t' av hav with ⟨i,o',ri,h1,h2,h3,h4,h5,h6⟩|⟨h1,av0,h2,h3⟩
  ·refine .inl ⟨i + 1,o',ri,by omega,by simpa using h2,h3,by simpa using h4,h5,fun i' o'' hi hi' ho=>?_⟩
   cases i' with
   | zero=>omega
   | succ i'=>exact h6 i' o'' (by omega) (by omega) (by simpa using ho)
  ·simp only [Env.get_nil,Env.get_cons] at h2
   split at h2
   ·rename_i e;subst e
    simp only [Option.some.injEq] at h2;subst h2
    refine .inl ⟨0,o,ro,by omega,rfl,hd,rfl,h3,fun i' o'' hi hi' ho=>?_⟩
    cases i' with
    | zero=>omega
    | succ i'=>exact h1 i' o'' (by omega) (by simpa using ho)
   ·rename_i hne
    refine .inr ⟨fun i o' hi ho=>?_,av0,h2,h3⟩
    cases i with
    | zero=>simp at ho;subst ho;rw [hd];simpa using hne
    | succ i=>exact h1 i o' (by omega) (by simpa using ho)
theorem zfn {r:Option Nat} {d:Nat} {id:Nat} {w:World} {QQ:QC} (hd:Zj ops=true) (hm:P.follows .mixedOrders=true) (h:wpAny P .any ops.toArray (fun e a w=>∃ env' H',Inv n g env' H' a w∧(e=.normal∨∃ ch,e=.panic ch)∧QQ e env' H') ops.toArray.size (Array.replicate ops.toArray.size false) a { w with drawn:=w.drawn + 1 }) :
  (Code.region id ops.toArray true).wpIn (zdf r) d P (fun e a w=>∃ env' H',Inv n g env' H' a w∧QQ e env' H') a w :=
 wpIn_mono (wpIn_region_any hm (zbd zlo (by simpa using hd) _ _ _ _ h)) (fun e a' w' ⟨env',H',h1,_,h3⟩=>⟨env',H',h1,h3⟩)
theorem Zo {QQ:QC} {id:Nat} (L k:Nat) (_:ops.length=L) (hok:WE ops k=true) (hm:P.follows .mixedOrders=true) (hB:ZW (zQ k ops 0) ((zQ k ops 0).take k)=true) (hT:XK (zQ k ops 0) k=true) (hk:Nat.ble k (zQ k ops 0).length=true)
  (h:AD P n g H (zQ k ops 0) (fun env'=>AOX P n g (zQ k ops 0).toArray ((zQ k ops 0).drop k) env' H QQ) ((zQ k ops 0).take k) env) (hnd:Zj ops=true:=by kernel_rfl):AW P n g (.region id ops.toArray true) env H QQ:=by
 obtain ⟨s⟩:=VO h
 refine ⟨fun a w hi rr dd=>?_⟩
 refine zfn hnd hm ?_
 have hlen:=QZ k ops 0
 refine zao hok _ _ _ _ (by simp) ?_ ?_
 ·intro j o ho hl
  have hlt:=(List.getElem?_eq_some_iff.1 ho).1
  simp [Array.getD_eq_getD_getElem?,hlt] at hl
 obtain ⟨h1,h2,K,ρ,hf,he⟩:=hi
 have hev:Evo K K w { w with drawn:=w.drawn + 1 }:=(Evo.refl hf.lt).drew
 have hkl:=Nat.le_of_ble_eq_true hk
 have hlk:((zQ k ops 0).take k).length=k:=by simp;omega
 have hsz:ops.toArray.size=(zQ k ops 0).length:=by simp [hlen]
 rw [hsz]
 generalize zQ k ops 0=ops' at *
 refine Vk (l:=ops'.take k) (by rw [hlk]) s hB (by rw [hlk];exact hT) (fun env' a' w' h hi'=>?_) _ _ _ _ (by simp) ⟨h1,h2,by simp,by rw [hlk];exact hkl,?_,?_,K,ρ,hf.evo hev,?_,?_⟩
 ·rw [hlk]
  exact h.go a' w' hi'
 ·intro j _ hj
  simp [Array.getD_eq_getD_getElem?,hj]
 ·intro i o ho hli
  have hlt:=(List.getElem?_eq_some_iff.1 ho).1
  have:i < ops'.length:=by simp at hlt;omega
  simp [Array.getD_eq_getD_getElem?,this] at hli
 ·intro i o ri t ho hli
  have hlt:=(List.getElem?_eq_some_iff.1 ho).1
  have:i < ops'.length:=by simp at hlt;omega
  simp [Array.getD_eq_getD_getElem?,this] at hli
 ·intro t av hav _
  obtain ⟨v,v1,v2⟩:=he t av hav
  exact ⟨v,v1,v2.later (hev.later hf.lt)⟩
end
section
variable {P:Program} {n:Nat} {g:Base} {H:HEnv} {env:Env} {c:Code} {QQ:QC} {K:KK} {w:World} {ρ:Nat→Value}
def aggOf:AV→Option (List AV)
 | .agg cs=>some cs
 | .pv (.agg ps)=>some (ps.map .pv)
 | _=>none
theorem ARel.aggOf {v:AV} {cs:List AV} {u:Value} (h:ARel K w ρ H v u) (hc:Cg.aggOf v=some cs):ARel K w ρ H (.agg cs) u:=by
 cases h with
 | pv p v hp =>
  cases hp <;> simp [Cg.aggOf] at hc
  rename_i ps vs h1 h2 h3
  subst hc
  refine .agg _ vs (by simpa using h1) h2 fun k c v hc hv=>?_
  simp only [List.getElem?_map,Option.map_eq_some_iff] at hc
  obtain ⟨p,hp,rfl⟩:=hc
  exact .pv _ _ (h3 k p v hp hv)
 | agg ds vs h1 h2 h3=>simp only [Cg.aggOf,Option.some.injEq] at hc;subst hc;exact .agg _ vs h1 h2 h3
 | _=>simp [Cg.aggOf] at hc
end
def zmX (p:PV) (j n:Nat) (q:PV):Option PV :=
 if q.cells.length=n∧j + n≤p.cells.length then
  (if j=0∧p.cells.length=n then some q else match p with|.agg cs=>some (.agg (cs.take j++q.cells++cs.drop (j + n)))|_=>none)
 else none
theorem zke {p q r:PV} {j n:Nat} (h:zmX p j n q=some r):q.cells.length=n∧j + n≤p.cells.length∧r.cells=p.cells.take j++q.cells++p.cells.drop (j + n):=by
 unfold zmX at h
 split at h
 ·rename_i hh
  refine ⟨hh.1,hh.2,?_⟩
  split at h
  ·rename_i h2
   simp only [Option.some.injEq] at h;subst h
   obtain ⟨rfl,h3⟩:=h2
   rw [List.take_zero,List.nil_append,Nat.zero_add,List.drop_eq_nil_of_le (by omega),List.append_nil]
  ·split at h
   ·simp only [Option.some.injEq] at h;subst h;rfl
   ·cases h
 ·cases h
theorem zaj {α:Type} {xs ys:List α} {off t:Nat} (h:off + ys.length≤xs.length) :
  (xs.take off++ys++xs.drop (off + ys.length))[t]?=if t < off then xs[t]? else if t < off + ys.length then ys[t - off]? else xs[t]?:=by
 have e1:(xs.take off).length=off:=by rw [List.length_take];omega
 rw [List.append_assoc,List.getElem?_append,e1]
 split
 ·rw [List.getElem?_take,if_pos (by assumption)]
 ·rename_i h1
  rw [List.getElem?_append]
  split
  ·rw [if_pos (by omega)]
  ·rw [if_neg (by omega),List.getElem?_drop];congr 1;omega
theorem zl2 {α:Type} {xs ys:List α} {off m:Nat} (h:off + ys.length≤m) (hm:m≤xs.length) :
  (xs.take off++ys++xs.drop (off + ys.length)).take m=(xs.take m).take off++ys++(xs.take m).drop (off + ys.length):=by
 apply List.ext_getElem?
 intro t
 rw [List.getElem?_take,zaj (by omega),zaj (by rw [List.length_take];omega)]
 simp only [List.getElem?_take]
 split
 ·rfl
 ·rw [if_neg (by omega),if_neg (by omega)]
section
variable {P:Program} {tb:Tab} {n:Nat} {g:Base} {H:HEnv} {env:Env} {ops:List Oper} {o:Oper} {rest:List Oper} {Q:Env→HEnv→Prop} {QQ:QC} {c:Code}
theorem zsf (htb:qp P tb) {ty e d:Nat} {x:Operand} {i sz:Nat} {es:List PV} (hg:guardE ops env o=some true) (hop:o.op=.call { callee:=.builtin .len,args:=#[x],argTypes:=#[ty] }) (hx:env.val x=some (.own i)) (hi:H.get i=some (.mrow e sz es))
  (hk:tb.k ty=.sl e) (hd:o.dst=some d) (ht:Nat.blt d n=true) (h:AO P n g ops.toArray rest ((d,.pv (.base (.int .i64 (es.length:Nat))))::env) H Q):AO P n g ops.toArray (o::rest) env H Q:=by
 refine ⟨fun a w hinv=>?_⟩
 have hw:=qE hinv hg
 obtain ⟨h1,h2,K,ρ,hf,he⟩:=hinv
 refine wpList_step fun KK hKK=>?_
 rw [if_pos hw]
 have hxr:=qQ he hx
 generalize hxv:a.eval x=xv at hxr
 obtain ⟨xs,hown,h0,hcr,hnK⟩:=hf.heap.ok i _ hi
 cases hxr with
 | own _ hi' =>
  have hv:∃ ad' cap,ρ i=.slice ad' es.length cap:=by
   rcases hown.2 with ⟨hr,hz⟩|⟨b,cap,cur,hr,_⟩
   ·exact ⟨none,0,by rw [hr,hz]⟩
   ·exact ⟨_,_,hr⟩
  obtain ⟨ad',cap,hr⟩:=hv
  have hrun:(execOp a.eval o).run P w=.ok (.value (.int .i64 (es.length:Nat))) w:=by
   simp [execOp,hop,resolve,invoke,builtin,Builtin.len_,hxv,hr,run_underlying (Zl htb hk),goInt]
  unfold Oper.wp
  rw [hrun]
  simp only [Oper.upon]
  refine hKK _ _ (h.go _ _ ⟨Zg h1,put_defers h2,K,ρ,hf,?_⟩)
  rw [hd]
  exact Yp h1 ht he (.pv _ _ (.base _ rfl))
theorem Wq (htb:qp P tb) {ty:Nat} {x y:Operand} {i k j sz off e:Nat} {es:List PV} {p q p':PV} (hg:guardE ops env o=some true) (hop:o.op=.store ty x y) (hx:env.val x=some (.ad i off)) (hi:H.get i=some (.mrow e sz es)) (hoff:off=k * sz + j)
  (hp:es[k]?=some p) (hy:env.pv H y=some q) (hnt:q.notTup=true) (hs:zmX p j (tb.size ty) q=some p') (hk:tb.known ty=true) (hd:o.dst=none)
  (h:AO P n g ops.toArray rest env ((i,.mrow e sz (es.set k p'))::H) Q):AO P n g ops.toArray (o::rest) env H Q:=by
 refine ⟨fun a w hinv=>?_⟩
 have hw:=qE hinv hg
 obtain ⟨h1,h2,K,ρ,hf,he⟩:=hinv
 refine wpList_step fun KK hKK=>?_
 rw [if_pos hw]
 have hxr:=qQ he hx
 have hyr:=qo (a:=a) hf (x:=y) (fun av hh=>qQ he hh) hy
 generalize hxv:a.eval x=xv at hxr
 generalize hyv:a.eval y=yv at hyr
 obtain ⟨xs,hown,h0,hcr,hnK⟩:=hf.heap.ok i _ hi
 have hkl:k < es.length:=(List.getElem?_eq_some_iff.1 hp).1
 obtain ⟨s1,s2,s3⟩:=zke hs
 have hyc:=QF hyr
 have hy1:=cells_one hyr hnt
 obtain ⟨hpl,_⟩:=hcr k p hp
 have hle:k * sz + sz≤es.length * sz:=by rw [←Nat.succ_mul];exact Nat.mul_le_mul_right _ hkl
 have hyl:yv.cells.toList.length=tb.size ty:=by rw [hyc.1,s1]
 cases hxr with
 | ad _ _ b m c hi' hρ =>
  rcases hown.2 with ⟨hr,_⟩|⟨g',cap,cur,hr,hB,hheap,hec,hcap,hsize,htake⟩
  ·rw [hρ] at hr;simp at hr
  ·rw [hρ] at hr
   simp only [Value.slice.injEq,Option.some.injEq,Addr.mk.injEq,and_true] at hr
   obtain ⟨rfl,rfl,rfl⟩:=hr
   have hcs:es.length * sz≤cur.size:=by rw [hsize];exact Nat.mul_le_mul_right _ hec
   have hko:tb.k ty≠.oth:=by intro e;simp [Tab.known,e] at hk
   have hsz:=run_sizeOf htb hko w
   have hst:=run_storeCells_at P b off e yv.cells.toList 0 cur w hheap (by rw [hyl];omega) hy1
   obtain ⟨arr,harr⟩:∃ arr,arr=(cur.toList.take off++yv.cells.toList++cur.toList.drop (off + yv.cells.toList.length)).toArray:=⟨_,rfl⟩
   have hrun:(execOp a.eval o).run P w=.ok .skip (w.setRow b arr):=by
    simp only [Nat.add_zero] at hst
    rw [←harr] at hst
    have hyl':yv.cells.size=tb.size ty:=by simpa using hyl
    simp [execOp,hop,hxv,hyv,Instr.storeAt,Instr.sureAddr,storeVar,hsz,hyl',hst]
   unfold Oper.wp
   rw [hrun]
   simp only [Oper.upon]
   have hgrow:w.grownBy (w.setRow b arr) (some b):=⟨rfl,rfl,rfl,by simp,fun k _ hk=>setRow_other w b k _ (fun e=>hk (by simp [e]))⟩
   have hnKb:∀ o,¬ K b o:=hnK b (by rw [hρ];rfl)
   have hlat:Later K K w (w.setRow b arr):=⟨fun _ _ h=>h,fun b' o hk=>by
    have:b'≠b:=by rintro rfl;exact hnKb o hk
    exact cell_setRow_other w b _ ⟨b',o,none⟩ this⟩
   have hkeep:∀ j,(H.get j).isSome=true→(HEnv.get ((i,.mrow e sz (es.set k p'))::H) j).isSome=true∧ρ j=ρ j:=by
    intro j hj
    refine ⟨?_,rfl⟩
    rw [HEnv.get_cons]
    split
    ·rfl
    ·exact hj
   have hd':a.put o.dst undef=a:=by rw [hd];rfl
   rw [hd']
   refine hKK _ _ (h.go _ _ ⟨h1,h2,K,ρ,⟨hf.below.grown hgrow hf.below.size (fun k hk=>by simp at hk;omega),hf.old,hf.new,fun b o hk=>by have:=hf.lt b o hk;simpa using this,hf.others.trans (zds hheap hgrow),hf.pt.grown hf.old hgrow hlat (fun b2 hb2=>by cases hb2;exact hf.away i _ b hi rfl (by rw [hρ];rfl)) (fun _ _ h=>.inl h),hf.away.set hi rfl,?_,?_⟩,he.keeps hlat hkeep⟩)
   ·intro j' e' hj
    rw [HEnv.get_cons] at hj
    split at hj
    ·rename_i e1;subst e1
     simp only [Option.some.injEq] at hj;subst hj
     have hxl:xs.length=es.length * sz:=hown.1
     have hoffl:off + yv.cells.toList.length≤es.length * sz:=by rw [hyl];omega
     refine ⟨xs.take off++yv.cells.toList++xs.drop (off + yv.cells.toList.length),⟨?_,.inr ⟨b,c,arr,by rw [hρ,List.length_set],hB,setRow_heap w b cur _ e _ hheap,by rw [List.length_set];exact hec,hcap,?_,?_⟩⟩,h0,?_,fun b' hb'=>hnK b' hb'⟩
     ·rw [List.length_set,List.length_append,List.length_append,List.length_take,List.length_drop];omega
     ·rw [←hsize,harr,List.size_toArray,List.length_append,List.length_append,List.length_take,List.length_drop,Array.length_toList];omega
     ·rw [List.length_set,harr,←htake]
      exact zl2 hoffl (by simpa using hcs)
     ·intro i1 e1 he1
      have hi1:i1 < es.length:=by have:=(List.getElem?_eq_some_iff.1 he1).1;simpa using this
      by_cases hik:i1=k
      ·subst hik
       rw [List.getElem?_set_self hkl] at he1
       simp only [Option.some.injEq] at he1;subst he1
       have hpl':p'.cells.length=sz:=by rw [s3,List.length_append,List.length_append,List.length_take,List.length_drop];omega
       refine ⟨hpl',fun t c' hc'=>?_⟩
       have htl:t < sz:=by rw [←hpl'];exact (List.getElem?_eq_some_iff.1 hc').1
       rw [s3,←s1,zaj (by omega)] at hc'
       rw [zaj (by omega)]
       split at hc'
       ·obtain ⟨v,v1,v2,v3⟩:=(hcr i1 p hp).2 t c' hc'
        exact ⟨v,by rw [if_pos (by omega)];exact v1,v2,v3.later hlat⟩
       ·split at hc'
        ·rename_i t1 t2
         have hlt2:t - j < yv.cells.toList.length:=by omega
         refine ⟨yv.cells.toList[t - j],?_,hy1 _ (List.getElem_mem hlt2),(hyc.2 (t - j) c' _ hc' (List.getElem?_eq_getElem hlt2)).later hlat⟩
         rw [if_neg (by omega),if_pos (by omega),show i1 * sz + t - off=t - j by omega]
         exact List.getElem?_eq_getElem hlt2
        ·obtain ⟨v,v1,v2,v3⟩:=(hcr i1 p hp).2 t c' hc'
         exact ⟨v,by rw [if_neg (by omega),if_neg (by omega)];exact v1,v2,v3.later hlat⟩
      ·rw [List.getElem?_set_ne (Ne.symm hik)] at he1
       obtain ⟨g1,g2⟩:=hcr i1 e1 he1
       refine ⟨g1,fun t c' hc'=>?_⟩
       obtain ⟨v,v1,v2,v3⟩:=g2 t c' hc'
       have htl:t < sz:=by rw [←g1];exact (List.getElem?_eq_some_iff.1 hc').1
       refine ⟨v,?_,v2,v3.later hlat⟩
       rw [zaj (by omega)]
       rcases Nat.lt_or_gt_of_ne hik with hlt|hgt
       ·have:i1 * sz + sz≤k * sz:=by rw [←Nat.succ_mul];exact Nat.mul_le_mul_right _ hlt
        rw [if_pos (by omega)];exact v1
       ·have:k * sz + sz≤i1 * sz:=by rw [←Nat.succ_mul];exact Nat.mul_le_mul_right _ hgt
        rw [if_neg (by omega),if_neg (by omega)];exact v1
    ·rename_i hne
     by_cases hlive:e'.live=true
     ·have:=(hf.heap.ok j' e' hj).grown (f:=id) hgrow hlat (fun b o h=>.inl h) (fun av v h=>h.keeps hlat hkeep) hlive (fun b' hb' e'=>by
       simp at e';subst e'
       exact hf.heap.apart i j' _ _ b hne hi hj rfl hlive (by rw [hρ];rfl) hb')
      cases e' <;> exact this
     ·cases e' <;> simp [HE.live] at hlive
      ·trivial
      ·exact ARel.keeps hlat hkeep (hf.heap.ok j' _ hj)
   ·intro j' k' e1 e2 bb hjk hj hk' hlj hlk hbj hbk
    have f1:∀ (j:Nat) (hh:HE),HEnv.get ((i,.mrow e sz (es.set k p'))::H) j=some hh→hh.live=true→∃ h0,H.get j=some h0∧h0.live=true:=by
     intro j hh hj hl
     rw [HEnv.get_cons] at hj
     split at hj
     ·rename_i e';subst e';exact ⟨_,hi,rfl⟩
     ·exact ⟨hh,hj,hl⟩
    obtain ⟨a1,a2,a3⟩:=f1 j' e1 hj hlj
    obtain ⟨b1,b2,b3⟩:=f1 k' e2 hk' hlk
    exact hf.heap.apart j' k' a1 b1 bb hjk a2 b2 a3 b3 hbj hbk
theorem zkM {i e sz:Nat} {es:List PV} {a:Act} {w:World} (hi:H.get i=some (.mrow e sz es)) (hinv:Inv n g env H a w):Inv n g env ((i,.row e sz es)::H) a w:=by
 obtain ⟨h1,h2,K,ρ,hf,he⟩:=hinv
 obtain ⟨xs,hown,h0,hcr,hnK⟩:=hf.heap.ok i _ hi
 obtain ⟨K',hK'⟩:∃ K':KK,∀ b o,K' b o↔(K b o∨((ρ i).ownBlock=some b∧o < es.length * sz)):=⟨fun b o=>K b o∨((ρ i).ownBlock=some b∧o < es.length * sz),fun _ _=>Iff.rfl⟩
 have hlat:Later K K' w w:=⟨fun b o h=>(hK' b o).2 (.inl h),fun _ _ _=>rfl⟩
 have hk:∀ j,(H.get j).isSome=true→(HEnv.get ((i,.row e sz es)::H) j).isSome=true∧ρ j=ρ j:=fun j hj=>by
  refine ⟨?_,rfl⟩
  rw [HEnv.get_cons]
  split
  ·rfl
  ·exact hj
 have hbo:∀ {v:Value} {nn:Nat} {zs:List Value} {ww:World} {BB t s:Nat},ww.ownsRow BB t s v nn zs→∀ b,zY v=some b↔v.ownBlock=some b:=by
  intro v nn zs ww BB t s h b
  rcases h.2 with ⟨rfl,_⟩|⟨_,_,_,rfl,_⟩ <;> simp [zY,Value.ownBlock]
 have hne:∀ {j:Nat} {h:HE} {b':Nat},i≠j→H.get j=some h→h.live=true→zY (ρ j)=some b'→(ρ i).ownBlock≠some b':=fun {j h b'} hij hg hl hb e =>
  hf.heap.apart i j _ h b' hij hi hg rfl hl ((hbo hown b').2 e) hb
 refine ⟨h1,h2,K',ρ,⟨hf.below,fun b o h=>(hK' b o).2 (.inl (hf.old b o h)),fun b' o h=>?_,fun b' o h=>?_,hf.others,hf.pt.grown hf.old (row:=(ρ i).ownBlock) ⟨rfl,rfl,rfl,Nat.le_refl _,fun _ _ _=>rfl⟩ hlat (fun b hb=>hf.away i _ b hi rfl ((hbo hown b).2 hb)) (fun b o h=>(hK' b o).1 h |>.elim .inl (fun h=>.inr (.inl h.1))),hf.away.set hi rfl,?_,?_⟩,he.keeps hlat hk⟩
 ·rcases (hK' b' o).1 h with h|⟨h,_⟩
  ·exact hf.new b' o h
  ·exact .inr (hown.lt b' h).1
 ·rcases (hK' b' o).1 h with h|⟨h,_⟩
  ·exact hf.lt b' o h
  ·exact (hown.lt b' h).2
 ·intro j h hg
  rw [HEnv.get_cons] at hg
  split at hg
  ·rename_i e1;subst e1
   simp only [Option.some.injEq] at hg;subst hg
   refine ⟨xs,hown,h0,fun k e he=>?_,fun b' hb o=>?_⟩
   ·obtain ⟨c1,c2⟩:=hcr k e he
    exact ⟨c1,fun k c hc=>let ⟨v,h4,h5,h6⟩:=c2 k c hc;⟨v,h4,h5,h6.later hlat⟩⟩
   ·rw [hK']
    exact ⟨fun h=>(h.resolve_left (hnK b' hb o)).2,fun h=>.inr ⟨hb,h⟩⟩
  ·rename_i hij
   have ho:=hf.heap.ok j h hg
   by_cases hlive:h.live=true
   ·have:=ho.grown (f:=id) (w':=w) (K':=K') (ρ':=ρ) (H':=(i,.row e sz es)::H) (row:=(ρ i).ownBlock) ⟨rfl,rfl,rfl,Nat.le_refl _,fun _ _ _=>rfl⟩ hlat (fun b o h=>(hK' b o).1 h |>.elim .inl (fun h=>.inr (.inl h.1))) (fun av v h=>h.keeps hlat hk) hlive (fun b' hb'=>hne hij hg hlive hb')
    cases h <;> exact this
   ·cases h <;> simp [HE.live] at hlive
    ·trivial
    ·exact ARel.keeps hlat hk ho
 ·intro j k h h' b' hjk hg hg' hl hl'
  have f1:∀ (j:Nat) (hh:HE),HEnv.get ((i,.row e sz es)::H) j=some hh→hh.live=true→∃ h0,H.get j=some h0∧h0.live=true:=by
   intro j hh hj hl
   rw [HEnv.get_cons] at hj
   split at hj
   ·rename_i e';subst e';exact ⟨_,hi,rfl⟩
   ·exact ⟨hh,hj,hl⟩
  obtain ⟨a1,a2,a3⟩:=f1 j h hg hl
  obtain ⟨b1,b2,b3⟩:=f1 k h' hg' hl'
  exact hf.heap.apart j k a1 b1 b' hjk a2 b2 a3 b3
theorem zbo (i:Nat) {e sz:Nat} {es:List PV} (hi:H.get i=some (.mrow e sz es)) (k:AW P n g c env ((i,.row e sz es)::H) QQ):AW P n g c env H QQ:=⟨fun a w hinv=>k.go a w (zkM hi hinv)⟩
theorem XA {H':HEnv} {i:Nat} {t sz:Nat} {es es':List PV} (h:H.get i=some (.mrow t sz es)) (e:es=es') (hs:HSub H H'):HSub H ((i,.mrow t sz es')::H'):=zT (by rw [h,e]) hs
theorem zfr {t:Nat} (i:Nat) (e:TypeId) (sz:Nat) (hsz:0 < sz) (ht:env.get t=some (.pv (.base (.slice none 0 0)))) (hi:H.get i=none) (h:AW P n g c ((t,.own i)::env) ((i,.mrow e sz [])::H) QQ):AW P n g c env H QQ:=by
 refine ⟨fun a w hinv=>h.go a w ?_⟩
 obtain ⟨h1,h2,K,ρ,hf,he⟩:=hinv
 have hev:Evo K K w w:=.refl hf.lt
 refine ⟨h1,h2,K,fun j=>if j=i then .slice none 0 0 else ρ j,hf.fresh hev hi ⟨[],World.ownsRow_nil w _ e sz,hsz,fun i e h=>by simp at h,by simp [Value.ownBlock]⟩ (by simp [zY]),?_⟩
 have he':=he.keeps (hev.later hf.lt) (H':=(i,.mrow e sz [])::H) (qO hi _ (.slice none 0 0))
 intro t' av hg
 rw [Env.get_cons] at hg
 split at hg
 ·rename_i e';subst e'
  simp only [Option.some.injEq] at hg;subst hg
  obtain ⟨v,hv,hr⟩:=he _ _ ht
  cases hr with
  | pv _ _ hp =>
   cases hp
   refine ⟨_,hv,?_⟩
   have:=ARel.own (K:=K) (w:=w) (ρ:=fun j=>if j=i then .slice none 0 0 else ρ j) (H:=(i,HE.mrow e sz [])::H) i (by simp [HEnv.get_cons])
   simpa using this
 ·exact he' _ _ hg
end
section
variable {P:Program} {tb:Tab} {n:Nat} {g:Base} {H:HEnv} {env:Env} {ops:List Oper} {o:Oper} {rest:List Oper} {Q:Env→HEnv→Prop} {QQ:QC} {c:Code} {K:KK} {w:World} {ρ:Nat→Value} {a:Act}
theorem Wy (htb:qp P tb) {ty e:Nat} {x y:Operand} {i:Nat} {sz:Nat} {es xs:List PV} {full:Bool} {t:Nat} (hg:guardE ops env o=some true)
  (hop:o.op=.call { callee:=.builtin .append,args:=#[x,y],argTypes:=#[ty,ty] }) (hk:tb.k ty=.sl e) (hx:env.val x=some (.own i)) (hi:H.get i=some (.mrow e sz es)) (hy:env.pv H y=some (.slc sz xs full))
  (hzz:(match tb.get e with|some ti=>(match ti.zero with|some z=>ti.size==sz&&z.cells.size==sz|none=>false)|none=>false)=true)
  (hbound:(es.length + xs.length) * (match tb.get e with|some ti=>ti.bytes|none=>0)≤140737488355328) (hb2:es.length + xs.length≤140737488355328) (hd:o.dst=some t) (ht:Nat.blt t n=true)
  (h:AO P n g ops.toArray rest ((t,.own i)::zes i env) ((i,.mrow e sz (es++xs))::XO i H) Q):AO P n g ops.toArray (o::rest) env H Q:=by
 refine ⟨fun a w hinv=>?_⟩
 have hw:=qE hinv hg
 obtain ⟨h1,h2,K,ρ,hf,he⟩:=hinv
 refine wpList_step fun Kc hKc=>?_
 rw [if_pos hw]
 cases hti:tb.get e with
 | none=>simp [hti] at hzz
 | some ti =>
  cases hz:ti.zero with
  | none=>simp [hti,hz] at hzz
  | some z =>
   simp only [hti,hz,Bool.and_eq_true,beq_iff_eq] at hzz hbound
   obtain ⟨tin,q1,q2,q3,q4,_⟩:=ZH htb hti
   have hxr:=qQ he hx
   have hyr:=qo (a:=a) hf (x:=y) (fun av hh=>qQ he hh) hy
   obtain ⟨us,hown,hsz,hcr,hKK'⟩:=hf.heap.ok i _ hi
   generalize hxv:a.eval x=xv at hxr
   cases hxr with
   | own _ hi' =>
    obtain ⟨news,n1,n2,n3,n4,n5⟩:=Xx hyr
    obtain ⟨v',w',r1,r2,r3⟩:=run_append_own' (P:=P) w g.w0.heap.size ty o.type e tin z sz ti.bytes (Zl htb hk) q1 (by rw [q4];exact hz) (by omega) q3 hzz.2 (ρ i) es.length us hown (a.eval y) xs.length news n1
     (n2.imp (fun h=>⟨h.1,by simpa using h.2⟩) (fun ⟨ad,c,hh,hh2,_⟩=>⟨ad,c,hh,hh2⟩)) n3 (by unfold maxLen;omega) hbound hf.below.size
    have hrun:(execOp a.eval o).run P w=.ok (.value v') w':=by
     simp [execOp,hop,resolve,invoke,builtin,hxv,r1]
    unfold Oper.wp
    rw [hrun]
    simp only [Oper.upon]
    obtain ⟨row,hgrow,hrow⟩:∃ row,w.grownBy w' row∧((row=(ρ i).ownBlock∧v'.ownBlock=(ρ i).ownBlock)∨(row=none∧∀ b,v'.ownBlock=some b→w.heap.size≤b)):=by
     rcases r3 with ⟨h1,h2⟩|⟨h1,h2⟩
     ·exact ⟨_,h1,.inl ⟨rfl,h2⟩⟩
     ·exact ⟨_,h1,.inr ⟨rfl,h2⟩⟩
    let K1:KK:=K
    have hcellsame:∀ b o,K b o→w'.cell? ⟨b,o,none⟩=w.cell? ⟨b,o,none⟩:=by
     intro b o hbo
     by_cases hbb:row=some b
     ·rcases hrow with ⟨e1,e2⟩|⟨e1,_⟩
      ·rw [hbb] at e1
       exact absurd hbo (hKK' b e1.symm o)
      ·rw [hbb] at e1;cases e1
     ·exact World.cell?_of_block (hgrow.block b (hf.lt b o hbo) (Ne.symm hbb))
    have hlat:Later K K1 w w':=⟨fun b o h=>h,hcellsame⟩
    have hvlt:=r2.lt
    have hrowB:∀ k,row=some k→g.w0.heap.size≤k:=by
     intro k hk
     rcases hrow with ⟨e1,_⟩|⟨e1,_⟩
     ·rw [hk] at e1;exact (hown.lt k e1.symm).1
     ·rw [hk] at e1;cases e1
    have hnp:∀ b,ρ i=.pointer (some ⟨b,0,none⟩)→False:=by
     intro b hb
     rcases hown.2 with ⟨e1,_⟩|⟨_,_,_,e1,_⟩ <;> rw [e1] at hb <;> cases hb
    have hkill_isSome:∀ j,((XO i H).get j).isSome=(H.get j).isSome:=by intro j;rw [YN];cases H.get j <;> rfl
    have hkeep:∀ j,j≠i→(H.get j).isSome=true→(HEnv.get ((i,.mrow e sz (es++xs))::XO i H) j).isSome=true∧(fun j=>if j=i then v' else ρ j) j=ρ j:=by
     intro j hne hj
     refine ⟨?_,by simp [hne]⟩
     simp only [HEnv.get_nil,HEnv.get_cons];rw [if_neg (Ne.symm hne),hkill_isSome];exact hj
    have htr:∀ av v,ARel K w ρ H av v→ARel K1 w' (fun j=>if j=i then v' else ρ j) ((i,.mrow e sz (es++xs))::XO i H) (kill i av) v:=fun av v h=>h.kill hlat i hkeep hnp (row_one hf i (by simp [isVal,hi]))
    have hbo:∀ {v:Value} {nn:Nat} {zs:List Value} {ww:World} {BB:Nat},ww.ownsRow BB e sz v nn zs→∀ b,zY v=some b↔v.ownBlock=some b:=by
     intro v nn zs ww BB h b
     rcases h.2 with ⟨rfl,_⟩|⟨_,_,_,rfl,_⟩ <;> simp [zY,Value.ownBlock]
    have hK1:∀ b o,K1 b o→K b o∨row=some b∨w.heap.size≤b:=by
     exact fun b o h=>.inl h
    have hnl:(es++xs).length=es.length + xs.length:=List.length_append
    have hcellsrow:∀ (j:Nat) (o:Obj),row=some j→w.heap[j]?=some o→o.isCells=true:=by
     intro j o hj ho
     rcases hrow with ⟨e1,_⟩|⟨e1,_⟩
     ·rw [hj] at e1
      rcases hown.2 with ⟨h,_⟩|⟨b2,cap,cur,h,_,hh,_⟩
      ·rw [h] at e1;simp [Value.ownBlock] at e1
      ·rw [h] at e1
       simp only [Value.ownBlock,Option.some.injEq] at e1
       subst e1
       rw [hh] at ho;cases ho;rfl
     ·rw [hj] at e1;cases e1
    refine hKc _ _ (h.go _ _ ⟨Zg h1,put_defers h2,K1,fun j=>if j=i then v' else ρ j,⟨hf.below.grown hgrow hf.below.size hrowB,fun b o h=>hf.old b o h,fun b o h=>hf.new b o h,fun b o h=>Nat.lt_of_lt_of_le (hf.lt b o h) hgrow.size,hf.others.trans (KeepsOthers.of_grownBy hgrow hcellsrow),hf.pt.grown hf.old hgrow hlat (fun b hb=>?_) hK1,?_,?_,?_⟩,?_⟩)
    ·rcases hrow with ⟨e1,_⟩|⟨e1,_⟩
     ·rw [hb] at e1;exact hf.away i _ b hi rfl ((hbo hown b).2 e1.symm)
     ·rw [hb] at e1;cases e1
    ·intro j hh b hj hl hb
     rw [HEnv.get_cons] at hj
     split at hj
     ·rename_i e';subst e'
      simp only [if_true] at hb
      have hv:=(hbo r2 b).1 hb
      rcases hrow with ⟨_,e2⟩|⟨_,e2⟩
      ·exact hf.away i _ b hi rfl ((hbo hown b).2 (by rw [←e2];exact hv))
      ·exact hf.pt.lt (e2 b hv)
     ·rename_i hne
      simp only [Ne.symm hne,if_false] at hb
      rw [YN] at hj
      cases hH:H.get j with
      | none=>simp [hH] at hj
      | some e0 =>
       simp only [hH,Option.map_some,Option.some.injEq] at hj
       subst hj
       exact hf.away j e0 b hH (by cases e0 <;> first|rfl|exact hl) hb
    ·intro j hh hj
     simp only [HEnv.get_nil,HEnv.get_cons] at hj
     split at hj
     ·rename_i e';subst e'
      simp only [Option.some.injEq] at hj;subst hj
      simp only [if_true]
      refine ⟨us++news,by rw [hnl];exact r2,hsz,?_,?_⟩
      ·have:=hcr.append hown.1 n4
       intro k c hc
       obtain ⟨t1,t2⟩:=this k c hc
       exact ⟨t1,fun k' c' hc'=>let ⟨v,t3,t4,t5⟩:=t2 k' c' hc';⟨v,t3,t4,t5.later hlat⟩⟩
      ·intro b hb o h
       rcases hrow with ⟨e1,e2⟩|⟨_,e2⟩
       ·exact hKK' b (by rw [←e2];exact hb) o h
       ·have:=e2 b hb
        have:=hf.lt b o h;omega
     ·rename_i hne
      rw [YN] at hj
      cases hH:H.get j with
      | none=>simp [hH] at hj
      | some e0 =>
       simp only [hH,Option.map_some,Option.some.injEq] at hj
       subst hj
       simp only [Ne.symm hne,if_false]
       by_cases hlive:e0.live=true
       ·have:=(hf.heap.ok j e0 hH).grown (f:=kill i) hgrow hlat hK1 htr hlive (fun b hb hb'=>by
         rcases hrow with ⟨e1,_⟩|⟨e1,_⟩
         ·rw [hb'] at e1
          exact hf.heap.apart i j _ e0 b hne hi hH rfl hlive ((hbo hown b).2 e1.symm) hb
         ·rw [hb'] at e1;cases e1)
        cases e0 <;> exact this
       ·cases e0 <;> simp [HE.live] at hlive
        ·trivial
        ·exact htr _ _ (hf.heap.ok j _ hH)
    ·have e1:∀ (j:Nat) (hh:HE),j≠i→HEnv.get ((i,.mrow e sz (es++xs))::XO i H) j=some hh→hh.live=true→∃ h0,H.get j=some h0∧h0.live=true:=by
      intro j hh hne hj hl
      simp only [HEnv.get_nil,HEnv.get_cons] at hj
      rw [if_neg (Ne.symm hne),YN] at hj
      cases hH:H.get j with
      | none=>simp [hH] at hj
      | some e0 =>
       simp only [hH,Option.map_some,Option.some.injEq] at hj
       subst hj
       refine ⟨e0,rfl,?_⟩
       cases e0 <;> first|rfl|exact hl
     have e2:∀ (k:Nat) (hh:HE) (bb:Nat),k≠i→H.get k=some hh→hh.live=true→v'.ownBlock=some bb→zY (ρ k)=some bb→False:=by
      intro k hh bb hne hk hl hv hb
      rcases hrow with ⟨_,e2⟩|⟨_,e2⟩
      ·exact hf.heap.apart i k _ hh bb (Ne.symm hne) hi hk rfl hl ((hbo hown bb).2 (by rw [←e2];exact hv)) hb
      ·have:=e2 bb hv
       have:=((hf.heap.ok k hh hk).block_lt hl hb).2
       omega
     intro j k hh hh' bb hjk hj hk' hlj hlk hbj hbk
     by_cases hji:j=i
     ·subst hji
      have hki:k≠j:=Ne.symm hjk
      obtain ⟨h0,a1,a2⟩:=e1 k hh' hki hk' hlk
      simp only [if_true] at hbj
      simp only [hki,if_false] at hbk
      exact e2 k h0 bb hki a1 a2 ((hbo r2 bb).1 hbj) hbk
     ·obtain ⟨h0,a1,a2⟩:=e1 j hh hji hj hlj
      simp only [hji,if_false] at hbj
      by_cases hki:k=i
      ·subst hki
       simp only [if_true] at hbk
       exact e2 j h0 bb hji a1 a2 ((hbo r2 bb).1 hbk) hbj
      ·obtain ⟨h0',b1,b2⟩:=e1 k hh' hki hk' hlk
       simp only [hki,if_false] at hbk
       exact hf.heap.apart j k h0 h0' bb hjk a1 b1 a2 b2 hbj hbk
    ·rw [hd]
     refine Yp h1 ht ?_ ?_
     ·intro t' av hg'
      rw [zcv] at hg'
      cases hE:env.get t' with
      | none=>simp [hE] at hg'
      | some av0 =>
       simp only [hE,Option.map_some,Option.some.injEq] at hg'
       subst hg'
       obtain ⟨v,v1,v2⟩:=he t' av0 hE
       exact ⟨v,v1,htr _ _ v2⟩
     ·have:=ARel.own (K:=K1) (w:=w') (ρ:=fun j=>if j=i then v' else ρ j) (H:=(i,HE.mrow e sz (es++xs))::XO i H) i (by simp [HEnv.get_nil,HEnv.get_cons])
      simpa using this
def lpv (env:Env) (H:HEnv) (x:Operand):Option PV:=match env.val x with
 | some (.own i)=>match H.get i with|some (.mrow _ sz es)=>some (.slc sz es false)|_=>env.pv H x
 | _=>env.pv H x
def zp8 (env:Env) (H:HEnv):List Operand→Option (List PV)
 | []=>some []
 | x::xs=>match lpv env H x,zp8 env H xs with|some p,some ps=>some (p::ps)|_,_=>none
def zkw (K:KK) (ρ:Nat→Value) (H:HEnv):KK:=fun b o=>K b o∨∃ i t sz es,H.get i=some (.mrow t sz es)∧(ρ i).ownBlock=some b∧o < es.length * sz
theorem zgI:Later K (zkw K ρ H) w w:=⟨fun _ _ h=>.inl h,fun _ _ _=>rfl⟩
theorem zsN (hf:FS g K ρ H w) {x:Operand} (hv:∀ av,env.val x=some av→ARel K w ρ H av (a.eval x)) {p:PV} (h:lpv env H x=some p):PRel (zkw K ρ H) w p (a.eval x):=by
 have old:env.pv H x=some p→PRel (zkw K ρ H) w p (a.eval x):=fun h=>(qo hf hv h).later zgI
 unfold lpv at h
 split at h
 ·rename_i i hx
  split at h
  ·rename_i t sz es hi
   simp only [Option.some.injEq] at h;subst h
   have hxr:=hv _ hx
   generalize a.eval x=xv at hxr
   cases hxr with
   | own _ _ =>
    obtain ⟨xs,hown,h0,hcr,hnK⟩:=hf.heap.ok i _ hi
    rcases hown.2 with ⟨hr,hz⟩|⟨b,cap,cur,hr,hB,hheap,hle,hcap,hsize,htake⟩
    ·rw [hr]
     have:es=[]:=List.eq_nil_of_length_eq_zero hz
     subst this;exact .nil sz false
    ·by_cases hes:es=[]
     ·subst hes
      have hown':=hown
      rw [hr] at hown' ⊢
      exact .slc sz [] false b 0 cap (fun _=>[]) h0 (Nat.zero_le _) (by simp) (by simp [maxLen]) hcap (fun i e he=>by simp at he) (fun i e k c v he=>by simp at he)
     ·have hown':=hown
      rw [hr] at hown' ⊢
      have hxl:xs.length=es.length * sz:=hown.1
      refine .slc sz es false b 0 cap (fun i=>(xs.drop (i * sz)).take sz) h0 hle (by simp) (by omega) hcap (fun k e he=>?_) (fun k e m c v he hc hvv=>?_)
      ·obtain ⟨c1,c2⟩:=hcr k e he
       have hk:k < es.length:=(List.getElem?_eq_some_iff.1 he).1
       have hle2:k * sz + sz≤es.length * sz:=by rw [←Nat.succ_mul];exact Nat.mul_le_mul_right _ hk
       refine ⟨c1,by rw [List.length_take,List.length_drop];omega,fun m v hm=>?_⟩
       rw [List.getElem?_take] at hm
       split at hm
       ·rename_i hms
        rw [List.getElem?_drop] at hm
        obtain ⟨u,u1,u2,_⟩:=c2 m e.cells[m] (List.getElem?_eq_getElem (by omega))
        rw [u1,Option.some.injEq] at hm;subst hm
        exact ⟨.inr ⟨i,t,sz,es,hi,by rw [hr];rfl,by omega⟩,by rw [Nat.zero_add,hown'.cellAt _ (by omega)];exact u1,u2⟩
       ·cases hm
      ·obtain ⟨c1,c2⟩:=hcr k e he
       obtain ⟨u,u1,u2,u3⟩:=c2 m c hc
       rw [List.getElem?_take] at hvv
       split at hvv
       ·rw [List.getElem?_drop,u1,Option.some.injEq] at hvv
        subst hvv;exact u3.later zgI
       ·cases hvv
  ·exact old h
 ·exact old h
theorem zlr (hf:FS g K ρ H w):∀ {xs:List Operand} {ps:List PV},(∀ x∈xs,∀ av,env.val x=some av→ARel K w ρ H av (a.eval x))→zp8 env H xs=some ps→PRels (zkw K ρ H) w ps (xs.map a.eval)
 | [],ps,_,h=>by simp [zp8] at h;subst h;exact .nil
 | x::xs,ps,hv,h=>by
  simp only [zp8] at h
  split at h
  ·rename_i v vs e1 e2
   simp only [Option.some.injEq] at h;subst h
   exact .cons (zsN hf (hv x (by simp)) e1) (zlr hf (fun y hy=>hv y (by simp [hy])) e2)
  ·cases h
theorem zqW {xs:Array Operand} {ts:Array TypeId} {f:FuncId} {args:List PV} {r:Value} {t:Nat} (hg:guardE ops env o=some true) (hop:o.op=.call { callee:=.value (.func f),args:=xs,argTypes:=ts }) (hargs:zp8 env H xs.toList=some args)
  (hc:ACall P f args (.base r)) (hd:o.dst=some t) (ht:Nat.blt t n=true)
  (h:AO P n g ops.toArray rest ((t,.pv (.base r))::env) H Q):AO P n g ops.toArray (o::rest) env H Q:=by
 refine ⟨fun a w hinv=>?_⟩
 have hw:=qE hinv hg
 obtain ⟨h1,h2,K,ρ,hf,he⟩:=hinv
 refine wpList_step fun KK hKK=>?_
 rw [if_pos hw]
 have hp:=zlr hf (a:=a) (xs:=xs.toList) (fun x hx av hxx=>qQ he hxx) hargs
 have hrun:(execOp a.eval o).run P w=.ok (.enter f (xs.toList.map a.eval).toArray) w:=by
  have e:(xs.toList.map a.eval).toArray=xs.map a.eval:=by rw [←Array.toList_map,Array.toArray_toList]
  rw [e]
  simp [execOp,hop,resolve,Act.eval,Deferred.ofValue,invoke,ZU hc.stands]
 unfold Oper.wp
 rw [hrun]
 simp only [Oper.upon]
 have hlt:∀ b o,zkw K ρ H b o→b < w.heap.size:=by
  rintro b o (h|⟨i,t,sz,es,hi,hb,_⟩)
  ·exact hf.lt b o h
  ·obtain ⟨us,hown,_⟩:=hf.heap.ok i _ hi
   exact (hown.lt b hb).2
 refine (hc.calls _ w _ hlt hp).mono ?_
 rintro ex w'' ⟨v,K',rfl,hev,hr⟩
 cases hr with
 | base _ hb =>
  have hev2:Evo K K w w'':=⟨hev.below,fun _ _ h=>h,fun _ _ h=>.inl h,fun b o h=>Nat.lt_of_lt_of_le (hf.lt b o h) hev.below.size⟩
  refine hKK _ _ (h.go _ _ ⟨Zg h1,put_defers h2,K,ρ,hf.evo hev2,?_⟩)
  rw [hd]
  exact Yp h1 ht (he.keeps (hev2.later hf.lt) (fun j hj=>⟨hj,rfl⟩)) (.pv _ _ (.base _ hb))
end
section
variable {P:Program} {tb:Tab} {g:Base} {H:HEnv} {env:Env} {o:Oper}
theorem Qg (htb:qp P tb) {t e:Nat} {x y:Operand} {i k sz:Nat} {es:List PV} {kk:IntKind} {m:Int} (hop:o.op=.indexAddr t x y) (hx:env.val x=some (.own i)) (hi:H.get i=some (.mrow e sz es))
  (hk:tb.k t=.sl e) (hke:tb.known e=true) (hsz:tb.size e=sz) (hy:env.pv H y=some (.base (.int kk m))) (hm:m=(k:Nat)) (hlt:k < es.length):QStep P g H o env (.ad i (k * sz)):=by
 refine ⟨fun K ρ a w hf hv=>?_⟩
 have hxr:=hv x (by rw [hop];simp [Op.operands]) _ hx
 have hyr:=qo hf (hv y (by rw [hop];simp [Op.operands])) hy
 generalize hxv:a.eval x=xv at hxr
 generalize hyv:a.eval y=yv at hyr
 obtain ⟨xs,hown,h0,hcr,hnK⟩:=hf.heap.ok i _ hi
 subst hm
 cases hyr
 cases hxr with
 | own _ hi' =>
  rcases hown.2 with ⟨hr,hz⟩|⟨b,cap,cur,hr,hB,hheap,hle,hcap,hsize,htake⟩
  ·omega
  ·have hko:tb.k e≠.oth:=by intro h;simp [Tab.known,h] at hke
   have hs:=run_sizeOf htb hko w
   have hrun:(execOp a.eval o).run P w=.ok (.value (.pointer (some ⟨b,k * sz,none⟩))) w:=by
    simp [execOp,hop,hxv,hyv,hr,Instr.indexAt,asIntOf,run_underlying (Zl htb hk),hs,hsz,Addr.add_lit]
    intro hh;omega
   rw [hrun]
   exact Yh hf (.ad i (k * sz) b es.length cap hi' hr)
theorem Qm (htb:qp P tb) {ty:Nat} {x:Operand} {i k j sz off e:Nat} {es:List PV} {p q:PV} (hop:o.op=.load ty x) (hx:env.val x=some (.ad i off)) (hi:H.get i=some (.mrow e sz es)) (hoff:off=k * sz + j)
  (hp:es[k]?=some p) (hq:zb6 tb ty p.cells j=some q):QStep P g H o env (.pv q):=by
 refine ⟨fun K ρ a w hf hv=>?_⟩
 have hxr:=hv x (by rw [hop];simp [Op.operands]) _ hx
 generalize hxv:a.eval x=xv at hxr
 obtain ⟨xs,hown,h0,hcr,hnK⟩:=hf.heap.ok i _ hi
 have hkl:k < es.length:=(List.getElem?_eq_some_iff.1 hp).1
 cases hxr with
 | ad _ _ b m c hi' hρ =>
  have hown':=hown
  rw [hρ] at hown'
  have hm:m=es.length:=by
   rcases hown'.2 with ⟨hr,_⟩|⟨_,_,_,hr,_⟩
   ·simp at hr
   ·simp at hr;exact hr.2.1
  subst hm
  obtain ⟨hl,hc⟩:=hcr k p hp
  have hle:k * sz + sz≤es.length * sz:=by rw [←Nat.succ_mul];exact Nat.mul_le_mul_right _ hkl
  have hlen:xs.length=es.length * sz:=hown.1
  have hcell:∀ (t:Nat) (v:Value),((xs.drop (k * sz)).take sz)[t]?=some v→w.cell? ⟨b,k * sz + t,none⟩=some v:=by
   intro t v hv
   rw [List.getElem?_take] at hv
   split at hv
   ·rw [List.getElem?_drop] at hv
    rw [hown'.cellAt _ (by omega)];exact hv
   ·cases hv
  have hrels:PRels K w p.cells ((xs.drop (k * sz)).take sz):=by
   refine ⟨by rw [List.length_take,List.length_drop];omega,fun t c v hc' hv=>?_⟩
   rw [List.getElem?_take] at hv
   split at hv
   ·rw [List.getElem?_drop] at hv
    obtain ⟨u,hu,_,hr⟩:=hc t c hc'
    rw [hu,Option.some.injEq] at hv;subst hv;exact hr
   ·cases hv
  have hone:∀ v∈(xs.drop (k * sz)).take sz,v.oneCell'=true:=by
   intro v hv
   obtain ⟨t,hlt,rfl⟩:=List.getElem_of_mem hv
   have hlt':t < sz:=by rw [List.length_take] at hlt;omega
   have ht':t < p.cells.length:=by omega
   obtain ⟨u,hu,h1u,_⟩:=hc t p.cells[t] (List.getElem?_eq_getElem ht')
   rw [List.getElem_take,List.getElem_drop]
   have:=(List.getElem?_eq_some_iff.1 hu).2
   rw [this];exact h1u
  obtain ⟨v,hv,hvr⟩:=QL htb (b:=b) (o:=k * sz) hcell hrels hone hq
  have hrun:(execOp a.eval o).run P w=.ok (.value v) w:=by
   subst hoff
   simp [execOp,hop,hxv,Instr.loadAt,Instr.sureAddr,hv]
  rw [hrun]
  exact Yh hf (.pv _ _ hvr)
end
end Go.Cg
