/- A part of the walks by abstract values: no statement of its own. -/
import Derived.Test.YtdbgicaoddibdaaGreatT4
import Derived.KernelRfl
import Derived.Test.YtdbgicaoddibdaaGreatT9
import Derived.Test.YtdbgicaoddibdaaGreatT6
import Derived.Test.YtdbgicaoddibdaaGreatT12
import Derived.Test.YtdbgicaoddibdaaGreatT3
set_option linter.unusedVariables false
set_option linter.unusedSimpArgs false
namespace Go.Cg
open Go.RowKit
def zey (k j:Nat) (o:Oper):Oper:=if k≤j then { o with after:=o.after++((List.range j).map fun i=>(⟨i,.phase⟩:Edge)).toArray } else o
def zS (k:Nat):List Oper→Nat→List Oper
 | [],_=>[]
 | o::r,j=>zey k j o::zS k r (j + 1)
theorem WS (k:Nat):∀ (ops:List Oper) (m j:Nat),(zS k ops m)[j]?=(ops[j]?).map (zey k (m + j))
 | [],m,j=>by simp [zS]
 | o::ops,m,j=>by
  cases j with
  | zero=>simp [zS]
  | succ j=>simp [zS,WS k ops (m + 1) j,Nat.add_assoc,Nat.add_comm 1 j]
theorem WZ (k:Nat):∀ (ops:List Oper) (m:Nat),(zS k ops m).length=ops.length
 | [],_=>rfl
 | o::ops,m=>by simp [zS,WZ k ops (m + 1)]
theorem zih {k j:Nat} {o:Oper} {i:Nat}:qj (zey k j o) i=(qj o i||(decide (k≤j)&&decide (i < j))):=by
 unfold zey;by_cases h:k≤j
 ·rw [if_pos h,Bool.eq_iff_iff];simp only [qj,Array.toList_append,List.any_append,Bool.or_eq_true,h,decide_true,Bool.true_and,decide_eq_true_eq];refine or_congr_right ?_;simp only [List.any_eq_true,List.mem_map,List.mem_range,Bool.and_eq_true,beq_iff_eq];constructor
  ·rintro ⟨_,⟨m,hm,rfl⟩,_,h2⟩;simp only at h2;omega
  ·intro hi;exact ⟨_,⟨i,hi,rfl⟩,rfl,rfl⟩
 ·rw [if_neg h];simp [h]
def implied (ops:List Oper):Nat→Nat→Nat→Bool
 | 0,_,_=>false
 | n + 1,j,i=>match ops[j]? with
  | none=>false
  | some o=>qj o i||o.after.toList.any fun e=>Region.binds .any e&&implied ops n e.on i
def Xd (ops:List Oper) (k:Nat):Bool:=(List.range ops.length).all fun j=>Nat.blt j k||(List.range j).all fun i=>implied ops ops.length j i
def ztm (ops:List Oper) (listed:Array Bool):Prop:=∀ j o,ops[j]?=some o→listed.getD j false=true→∀ i,qj o i=true→listed.getD i false=true
theorem zcs {ops:List Oper} {listed:Array Bool} (hc:ztm ops listed):∀ (n j i:Nat) (o:Oper),ops[j]?=some o→(∀ m,qj o m=true→listed.getD m false=true)→implied ops n j i=true→listed.getD i false=true
 | 0,_,_,_,_,_,h=>by simp [implied] at h
 | n + 1,j,i,o,ho,hall,h=>by
  simp only [implied,ho,Bool.or_eq_true] at h;rcases h with h|h
  ·exact hall i h
  ·obtain ⟨e,he,hb⟩:=List.any_eq_true.1 h;rw [Bool.and_eq_true] at hb;have hm:listed.getD e.on false=true:=hall e.on (List.any_eq_true.2 ⟨e,he,by simp [hb.1]⟩);cases hoe:ops[e.on]? with
   | none =>
    cases n with
    | zero=>simp [implied] at hb
    | succ n=>simp [implied,hoe] at hb
   | some o2=>exact zcs hc n e.on i o2 hoe (hc e.on o2 hoe hm) hb.2
section
variable {P:Program} {R:Exit→Act→World→Prop} {ops:List Oper} {k:Nat}
theorem zdY (hok:Xd ops k=true) {listed:Array Bool} (hc:ztm ops listed) (j:Nat):j∈Region.ready .any (zS k ops 0).toArray listed↔j∈Region.ready .any ops.toArray listed:=by
 rw [qN,qN];constructor
 ·rintro ⟨o',ho',h1,h2⟩;rw [WS] at ho';cases ho:ops[j]? with
  | none=>simp [ho] at ho'
  | some o =>
   simp [ho] at ho';subst ho';exact ⟨o,rfl,h1,fun i hi=>h2 i (by rw [zih,hi];rfl)⟩
 ·rintro ⟨o,ho,h1,h2⟩;refine ⟨zey k j o,by rw [WS,ho];simp,h1,fun i hi=>?_⟩;rw [zih,Bool.or_eq_true,Bool.and_eq_true,decide_eq_true_eq,decide_eq_true_eq] at hi;rcases hi with hi|⟨hk,hij⟩
  ·exact h2 i hi
  ·have hlt:=(List.getElem?_eq_some_iff.1 ho).1;have:=List.all_eq_true.1 hok j zwy83;rw [Bool.or_eq_true] at this;rcases this with h|h
   ·have:=Nat.le_of_ble_eq_true h;omega
   ·exact zcs hc _ j i o ho h2 (List.all_eq_true.1 h i (by simpa using hij))
theorem zlT (tmps:Array Value):yielded (zS k ops 0).toArray tmps=yielded ops.toArray tmps:=by
 funext j;unfold yielded;simp only [List.getElem?_toArray,WS,Nat.zero_add];cases ops[j]? with
 | none=>rfl
 | some o =>
  by_cases hkj:k≤j
  ·simp [zey,hkj]
  ·simp [zey,hkj]
theorem zrN {j:Nat} {K:Act→World→Prop} {a:Act} {w:World} (h:wpOp P (zS k ops 0).toArray R j K a w):wpOp P ops.toArray R j K a w:=by
 unfold wpOp at h ⊢;rw [zlT] at h;simp only [List.getElem?_toArray,WS,Nat.zero_add] at h ⊢;cases ho:ops[j]? with
 | none=>simpa [ho] using h
 | some o =>
  simp only [ho,Option.map_some] at h ⊢;unfold zey at h;split at h <;> exact h
theorem zsJ {listed:Array Bool} (hs:listed.size=ops.length) (hc:ztm ops listed) {j:Nat} (hj:j∈Region.ready .any ops.toArray listed):ztm ops (listed.setIfInBounds j true):=by
 obtain ⟨o,ho,h1,h2⟩:=qN.1 hj;have hlt:=(List.getElem?_eq_some_iff.1 ho).1;have up:∀ i,listed.getD i false=true→(listed.setIfInBounds j true).getD i false=true:=by
  intro i hi;by_cases e:i=j
  ·subst e;simp [Array.getD_eq_getD_getElem?,hs,hlt]
  ·rw [qy e];exact hi
 intro m om hom hlm i hi;by_cases e:m=j
 ·subst e;rw [ho] at hom;cases hom;exact up i (h2 i hi)
 ·rw [qy e] at hlm;exact up i (hc m om hom hlm i hi)
theorem zjk (hok:Xd ops k=true):∀ (fuel:Nat) (listed:Array Bool) (a:Act) (w:World),listed.size=ops.length→ztm ops listed→wpAny P .any (zS k ops 0).toArray R fuel listed a w→wpAny P .any ops.toArray R fuel listed a w
 | 0,listed,a,w,hs,hc,h=>by
  refine ⟨?_,h.2⟩;rw [List.eq_nil_iff_forall_not_mem];intro j hj;have:=(zdY hok hc j).2 hj;rw [h.1] at this;cases this
 | fuel + 1,listed,a,w,hs,hc,h=>by
  refine ⟨fun hn=>h.1 ?_,fun j hj=>?_⟩
  ·rw [List.eq_nil_iff_forall_not_mem];intro j hj;have:=(zdY hok hc j).1 hj;rw [hn] at this;cases this
  ·have h1:=h.2 j ((zdY hok hc j).2 hj);exact zrN (wpOp_mono (fun a w hh=>zjk hok fuel _ a w (by simp [hs]) (zsJ hs hc hj) hh) h1)
end
section
variable {P:Program} {n:Nat} {g:Base} {H:HEnv} {env:Env} {ops:List Oper}
theorem zlH {R:Exit→Act→World→Prop} {k:Nat} (hok:Xd ops k=true) (a:Act) (w:World) (h:wpAny P .any (zS k ops 0).toArray R ops.length (Array.replicate ops.length false) a w):wpAny P .any ops.toArray R ops.length (Array.replicate ops.length false) a w :=
 zjk hok _ _ _ _ zwy63 (fun j o ho hl=>by
  have hlt:=(List.getElem?_eq_some_iff.1 ho).1;simp [Array.getD_eq_getD_getElem?,hlt] at hl) h
theorem zft {QQ:QC} (L k:Nat) (_:ops.length=L) (hok:Xd ops k=true) (hB:Qh (zS k ops 0) ((zS k ops 0).take k)=true) (hT:Xk (zS k ops 0) k=true) (hk:Nat.ble k (zS k ops 0).length=true)
  (h:AD P n g H (zS k ops 0) (fun env'=>AO P n g (zS k ops 0).toArray ((zS k ops 0).drop k) env' H (fun env' H'=>QQ .normal env' H')) ((zS k ops 0).take k) env):DR P n g ops env H QQ :=
 zuE k (WZ k ops 0) (fun _=>zlH hok) hB hT (Nat.le_of_ble_eq_true hk) (QZ (fun _ h=>zwj h) h)
theorem zV {QQ:QC} {id:Nat} (L k:Nat) (hL:ops.length=L) (hok:Xd ops k=true) (hm:P.follows .mixedOrders=true) (hB:Qh (zS k ops 0) ((zS k ops 0).take k)=true) (hT:Xk (zS k ops 0) k=true) (hk:Nat.ble k (zS k ops 0).length=true)
  (h:AD P n g H (zS k ops 0) (fun env'=>AO P n g (zS k ops 0).toArray ((zS k ops 0).drop k) env' H (fun env' H'=>QQ .normal env' H')) ((zS k ops 0).take k) env) (hnd:qU ops=true:=by kernel_rfl):AW P n g (.region id ops.toArray true) env H QQ :=
 ze7 hm (zft L k hL hok hB hT hk h) hnd
end
theorem zwT {listed:Array Bool} {j fuel:Nat} (hlt:j < listed.size) (hun:listed.getD j true=false) (hc:(listed.toList.filter (! ·)).length=fuel + 1):((listed.setIfInBounds j true).toList.filter (! ·)).length=fuel:=by
 have hlt':j < listed.toList.length:=by simpa using hlt
 have hjf:listed.toList[j]=false:=by
  rw [Array.getD_eq_getD_getElem?,Array.getElem?_eq_getElem hlt] at hun;simpa using hun
 have e1:listed.toList=listed.toList.take j++false::listed.toList.drop (j + 1):=by
  rw [←hjf,List.getElem_cons_drop,List.take_append_drop]
 rw [Array.toList_setIfInBounds,List.set_eq_take_append_cons_drop,if_pos hlt'];rw [e1] at hc;simp only [List.filter_append,List.length_append,List.filter_cons,Bool.not_false,if_true,List.length_cons,Bool.not_true,Bool.false_eq_true,if_false] at hc ⊢;omega
end Go.Cg

namespace Go.Cg
open Go.RowKit
structure ACallPan (P:Program) (f:FuncId) (args:List AV) (H:HEnv) (v:Value) (lone:Bool:=false):Prop where
 stands:Vy P f
 calls:∀ (g:Base) (K:KK) (ρ:Nat→Value) (w:World) (vs:List Value),(lone=true→g.w1.heap.size=0)→FS g K ρ H w→Yx K w ρ H args vs →
  Calls P f vs.toArray w fun e w'=>e=.panicked [{ v:=v,recovered:=false }]∧∃ K' ρ',FS g K' ρ' [] w'
theorem zh {P:Prop}:false=true→P:=fun h=>nomatch h
inductive Out where
 | ret (r:AV) (H':HEnv)
 | pan (v:Value)
def Qe (P:Program) (f:FuncId) (args:List AV) (H:HEnv) (o:Out) (lone:Bool:=false):Prop :=
 match o with
 | .ret r H'=>ACallM P f args H r H' lone
 | .pan v=>ACallPan P f args H v lone
def zla (tb:Tab) (rs:List ResultVar):Out→QC
 | .ret r H'=>zho tb rs r H'
 | .pan v=>fun ex _ _=>ex=.panic [{ v:=v,recovered:=false }]
structure AOX (P:Program) (n:Nat) (g:Base) (ops:Array Oper) (l:List Oper) (env:Env) (H:HEnv) (Q:QC):Prop where
 go:∀ a w,Inv n g env H a w→wpList P ops (fun e a' w'=>∃ env' H',Inv n g env' H' a' w'∧(e=.normal∨∃ ch,e=.panic ch)∧Q e env' H') l a w
section
variable {P:Program} {tb:Tab} {n:Nat} {g:Base} {K K':KK} {w w':World} {ρ ρ':Nat→Value} {H H':HEnv} {env:Env} {a:Act} {ops:List Oper} {o:Oper} {rest:List Oper} {Q:Env→HEnv→Prop} {f:FuncId} {args:List AV} {r:AV} {QQ:QC}
theorem WM {R:Exit→Act→World→Prop} {arr:Array Oper} {l2:List Oper}:∀ {l1:List Oper} {a:Act} {w:World},wpList P arr (fun e a' w'=>e=.normal∧wpList P arr R l2 a' w') l1 a w→wpList P arr R (l1++l2) a w
 | [],a,w,h=>h.2
 | o::l1,a,w,h=>by
  rw [List.cons_append];unfold wpList at h ⊢;split
  ·rename_i hw;rw [if_pos hw] at h;rcases h with h|⟨h1,a',w',h2,_⟩
   ·refine .inl ?_;unfold Oper.wp at h ⊢;generalize (execOp a.eval o).run P w=r at *;cases r with
    | ok nx w' =>
     cases nx <;> simp only [Oper.upon] at h ⊢ <;>
      first
       | exact WM h
       | exact Calls.mono h (fun e w'' he=>by
         cases e with
         | returned v=>exact WM he
         | panicked ch=>cases he.1
         | outgrown=>obtain ⟨_,_,he,_⟩:=he;cases he)
       | exact Rows.mono h (fun _ _ he=>WM he)
    | halt x w'=>cases x <;> simp only [Oper.upon] at h ⊢ <;> first|exact h.elim|(obtain ⟨he,_⟩:=h;cases he)
   ·cases h2
  ·rename_i hw;rw [if_neg hw] at h;exact WM h
theorem zvz {l1 l2:List Oper} (h:AO P n g ops.toArray l1 env H (fun env' H'=>AOX P n g ops.toArray l2 env' H' QQ)):AOX P n g ops.toArray (l1++l2) env H QQ :=
 ⟨fun a w hi=>WM (ZL (fun e a' w' ⟨env',H',h1,h2,h3⟩=>⟨h2,h3.go a' w' h1⟩) (h.go a w hi))⟩
theorem zu8 (k:Nat) {l l1 l2:List Oper} (h1:l.take k=l1) (h2:l.drop k=l2) (h:AO P n g ops.toArray l1 env H (fun env' H'=>AOX P n g ops.toArray l2 env' H' QQ)):AOX P n g ops.toArray l env H QQ:=by
 have:=zvz h
 rwa [←h1,←h2,List.take_append_drop] at this
theorem zv5 (h:QQ .normal env H):AOX P n g ops.toArray [] env H QQ:=⟨fun a w hi=>⟨env,H,hi,.inl rfl,h⟩⟩
theorem QL {l:List Oper} (h:AO P n g ops.toArray l env H (fun env' H'=>QQ .normal env' H')):AOX P n g ops.toArray l env H QQ :=
 ⟨fun a w hi=>ZL (fun _ _ _ ⟨env',H',h1,h2,h3⟩=>⟨env',H',h1,.inl h2,by rw [h2];exact h3⟩) (h.go a w hi)⟩
theorem zoy {id:Nat} (h:AOX P n g ops.toArray ops env H QQ) (hnd:qU ops=true:=by kernel_rfl):AW P n g (.region id ops.toArray false) env H QQ :=
 ⟨fun a w hi r d=>wpIn_mono (wpIn_region_lit (zau (r:=r) (n:=d) ziB hnd (h.go a w hi))) (fun e a' w' ⟨env',H',h1,_,h3⟩=>⟨env',H',h1,h3⟩)⟩
theorem zD {xs:Array Operand} {ts:Array TypeId} {ars:List AV} {v:Value} (Hc:HEnv) {lone:Bool} (hw1:lone=true→g.w1.heap.size=0) (hg:guardE ops env o=some true)
  (hop:o.op=.call { callee:=.value (.func f),args:=xs,argTypes:=ts }) (hargs:avs env xs.toList=some ars) (hfit:Yj H Hc (WJ 0 ars)) (hc:ACallPan P f ars Hc v lone)
  (h:QQ (.panic [{ v:=v,recovered:=false }]) [] []):AOX P n g ops.toArray (o::rest) env H QQ:=by
 refine ⟨fun a w hinv=>?_⟩;have hw:=yT hinv hg;obtain ⟨h1,h2,K,ρ,hf,he⟩:=hinv;refine wpList_step fun KK hKK=>?_
 rw [if_pos hw];have hpa:=VP (a:=a) he hargs;have hall:Yx K w ρ Hc ars (xs.toList.map a.eval) :=
  ⟨hpa.1,fun k c v hc hv=>(hpa.2 k c v hc hv).refs (by
   have hin:=hfit.2;simp only [Bool.and_eq_true] at hin;have key:∀ (l:List AV) (b k:Nat) (c:AV),l[k]?=some c→QD Hc (WJ b l)=true→Zx Hc c=true:=by
    intro l;induction l with
    | nil=>intro b k c hc;simp at hc
    | cons x l ih =>
     intro b k c hc hb;simp only [WJ,QD,Bool.and_eq_true] at hb;cases k with
     | zero=>simp at hc;subst hc;exact hb.1
     | succ k=>simp at hc;exact ih _ k c hc hb.2
   exact key ars 0 k c hc hin.1)⟩
 have hrun:(execOp a.eval o).run P w=.ok (.enter f (xs.toList.map a.eval).toArray) w:=by
  have e:(xs.toList.map a.eval).toArray=xs.map a.eval:=by rw [←Array.toList_map,Array.toArray_toList]
  rw [e];simp [execOp,hop,resolve,Act.eval,Deferred.ofValue,invoke,Ze hc.stands]
 unfold Oper.wp;rw [hrun];simp only [Oper.upon];refine (hc.calls g K ρ w _ hw1 (hf.narrow hfit) hall).mono fun e w' ⟨e1,K',ρ',hf'⟩=>?_
 subst e1;exact ⟨[],[],⟨h1,h2,K',ρ',hf',fun t av ht=>by simp [Env.get_nil] at ht⟩,.inr ⟨_,rfl⟩,h⟩
theorem zka {x:Operand} {v:Value} {t:TypeId} (hg:guardE ops env o=some true) (hop:o.op=.panic x) (hx:env.pv H x=some (.base (.iface t v))) (h:QQ (.panic [{ v:=.iface t v,recovered:=false }]) env H):AOX P n g ops.toArray (o::rest) env H QQ:=by
 refine ⟨fun a w hinv=>?_⟩;have hw:=yT hinv hg;have hinv':=hinv;obtain ⟨h1,h2,K,ρ,hf,he⟩:=hinv;refine wpList_step fun KK hKK=>?_
 rw [if_pos hw];have hxr:=qc (a:=a) hf (x:=x) (fun av hh=>qA he hh) hx;unfold Oper.wp;generalize hxv:a.eval x=xv at hxr;cases hxr;have hrun:(execOp a.eval o).run P w=.halt (.panic (.iface t v)) w:=by
  simp [execOp,hop,hxv,Instr.panic]
 rw [hrun];exact ⟨env,H,hinv',.inr ⟨_,rfl⟩,h⟩
end
section
variable {P:Program} {tb:Tab} {n:Nat} {H H':HEnv} {f:FuncId} {args:List AV}
theorem zaD {fn:Func} {c:Code} {v:Value} (hf:P.funcs[f]?=some fn) (hb:fn.body=some c) (hn:(fn.name == "runtime.NumGoroutine")=false) (hnt:fn.ntmps=n) (hargs:args.length≤n)
  {lone:Bool} (h:∀ g:Base,(lone=true→g.w1.heap.size=0)→AW P n g c (WJ 0 args) H (fun ex _ _=>ex=.panic [{ v:=v,recovered:=false }])):ACallPan P f args H v lone:=by
 refine ⟨⟨fn,hf,by simp [hb],hn⟩,fun g0 K ρ w vs hw1 hfs0 hv=>?_⟩;obtain ⟨g,hg0⟩:∃ g:Base,g=⟨g0.w0,g0.K0,g0.w1,[],g0.wp,g0.pr⟩:=⟨_,rfl⟩
 have hfs:FS g K ρ H w:=by subst hg0;exact ⟨hfs0.below,hfs0.old,hfs0.new,hfs0.lt,hfs0.others,⟨hfs0.pt.same,hfs0.pt.kept⟩,hfs0.away,hfs0.heap⟩
 refine calls_of_wp hf hb ?_;have hlen:vs.length=args.length:=hv.1;refine wp_mono (wpIn_wide.1 ((h g (by subst hg0;exact hw1)).go _ w ⟨by simp [hnt];omega,by subst hg0;rfl,K,ρ,hfs,?_⟩ none 0)) ?_
 ·intro t av hg;obtain ⟨_,hp⟩:=zaH args 0 t av hg;have hlt:t < vs.length:=by rw [hlen];exact (List.getElem?_eq_some_iff.1 hp).1
  refine ⟨vs[t],?_,hv.2 t av _ hp (List.getElem?_eq_getElem hlt)⟩;rw [Array.getElem?_append_left zwy83];simp [hlt]
 ·rintro e a' w' ⟨env1,H1,hi,rfl⟩;obtain ⟨_,h2,K',ρ',hf',_⟩:=hi;have hf2:FS g K' ρ' [] w':=hf'.narrow (e:=[]) ⟨zA,rfl⟩;refine ⟨by rw [h2];subst hg0;rfl,rfl,K',ρ',?_⟩;subst hg0;exact ⟨hf2.below,hf2.old,hf2.new,hf2.lt,hf2.others,⟨hf2.pt.same,hf2.pt.kept⟩,hf2.away,hf2.heap⟩
theorem zI (htb:yR P tb) {fn:Func} {c:Code} {o:Out} (hf:P.funcs[f]?=some fn) (hb:fn.body=some c) (hn:(fn.name == "runtime.NumGoroutine")=false) (hnt:fn.ntmps=n) (hargs:args.length≤n) (rs:List ResultVar) (hrs:fn.results.toList=rs)
  {lone:Bool} (h:∀ g:Base,(lone=true→g.w1.heap.size=0)→AW P n g c (WJ 0 args) H (zla tb rs o)):Qe P f args H o lone:=by
 cases o with
 | ret r H'=>exact yB htb hf hb hn hnt hargs rs hrs h
 | pan v=>exact zaD hf hb hn hnt hargs h
end
section
variable {P:Program} {tb:Tab} {n:Nat} {g:Base} {K K':KK} {w w':World} {ρ ρ':Nat→Value} {H H':HEnv} {env:Env} {a:Act} {ops:List Oper} {o:Oper} {rest:List Oper} {Q:Env→HEnv→Prop} {f:FuncId} {args:List AV} {r:AV}
def Vb (X:HEnv):Env→Env
 | []=>[]
 | (t,v)::e=>(t,if Zx X v then v else .any)::Vb X e
theorem Vt (X:HEnv):∀ (e:Env) (t:Nat),(Vb X e).get t=(e.get t).map fun v=>if Zx X v then v else .any
 | [],t=>rfl
 | (t',v)::e,t=>by
  rw [Vb,Env.get_cons,Env.get_cons];split
  ·rfl
  ·exact Vt X e t
theorem XV {xs:Array Operand} {ts:Array TypeId} {d:Tmp} {ars:List AV} (Hc Hc' R:HEnv) {lone:Bool} (ps:List Nat) (hw1:lone=true→g.w1.heap.size=0) (hg:guardE ops env o=some true)
  (hop:o.op=.call { callee:=.value (.func f),args:=xs,argTypes:=ts }) (hargs:avs env xs.toList=some ars) (hsub:HSub H (Hc++R)) (hd:o.dst=some d) (hdt:Nat.blt d n=true)
  (hchk:YB Hc Hc' R ps ars [] r=true) (hc:∀ us,ACallM P f ars (Hc++qE us ps) r (Hc'++qE us ps) lone)
  (h:AO P n g ops.toArray rest ((d,r)::Vb (R++Wx ps) env) (Hc'++R) Q):AO P n g ops.toArray (o::rest) env H Q:=by
 refine ⟨fun a w hinv=>?_⟩;have hw:=yT hinv hg;obtain ⟨h1,h2,K,ρ,hf,he⟩:=hinv;refine wpList_step fun KK hKK=>?_
 rw [if_pos hw];have hrun:(execOp a.eval o).run P w=.ok (.enter f (xs.toList.map a.eval).toArray) w:=by
  have e:(xs.toList.map a.eval).toArray=xs.map a.eval:=by rw [←Array.toList_map,Array.toArray_toList]
  rw [e];simp [execOp,hop,resolve,Act.eval,Deferred.ofValue,invoke,Ze (hc ρ).stands]
 unfold Oper.wp;rw [hrun];simp only [Oper.upon];refine (zbC Hc Hc' R ps hw1 hsub hchk hc hf (VP (a:=a) he hargs)).mono fun e w' ⟨v,K',ρ2,e1,hf',hv,hlat,hps⟩=>?_
 subst e1;refine hKK _ _ (h.go _ _ ⟨qW h1,put_defers h2,K',ρ2,hf',?_⟩);rw [hd];refine Zo h1 hdt (fun t av ht=>?_) hv;rw [Vt] at ht;cases hE:env.get t with
 | none=>simp [hE] at ht
 | some v0 =>
  obtain ⟨u,u1,u2⟩:=he t v0 hE;simp only [hE,Option.map_some,Option.some.injEq] at ht;subst ht;refine ⟨u,u1,?_⟩;split
  ·rename_i hr;exact (u2.refs hr).keeps hlat hps
  ·exact .any u
def zgA (i:Nat):HEnv→HEnv
 | []=>[]
 | x::H=>if Nat.beq x.1 i then zgA i H else x::zgA i H
theorem zfR (i:Nat):∀ (H:HEnv) (j:Nat),j≠i→(zgA i H).get j=H.get j
 | [],j,_=>rfl
 | (m,x)::H,j,hj=>by
  rw [zgA];split
  ·rename_i e;have e':=Nat.eq_of_beq_eq_true e;simp only at e';subst e';rw [zfR m H j hj,HEnv.get_cons,if_neg (fun h=>hj h.symm)]
  ·rw [HEnv.get_cons,HEnv.get_cons,zfR i H j hj]
theorem zu {xs:Array Operand} {ts:Array TypeId} {d:Tmp} {ars:List AV} (i:Nat) {x x':HE} {lone:Bool} (hw1:lone=true→g.w1.heap.size=0) (hg:guardE ops env o=some true)
  (hop:o.op=.call { callee:=.value (.func f),args:=xs,argTypes:=ts }) (hc:∀ us,ACallM P f ars ([(i,x)]++qE us [i]) r ([(i,x')]++qE us [i]) lone) (hargs:avs env xs.toList=some ars) (h0:H.get i=some x) (hd:o.dst=some d) (hdt:Nat.blt d n=true)
  (hchk:YB [(i,x)] [(i,x')] (zgA i H) [i] ars [] r=true)
  (h:AO P n g ops.toArray rest ((d,r)::Vb (zgA i H++Wx [i]) env) ((i,x')::zgA i H) Q):AO P n g ops.toArray (o::rest) env H Q :=
 XV [(i,x)] [(i,x')] (zgA i H) [i] hw1 hg hop hargs (fun j y hj=>by
  rw [get_append,HEnv.get_cons,HEnv.get_nil] at hj;by_cases e:i=j
  ·subst e;rw [if_pos rfl] at hj;simp only [Option.some.injEq] at hj;subst hj;exact h0
  ·rw [if_neg e] at hj;rw [←zfR i H j (fun h=>e h.symm)];exact hj) hd hdt hchk hc h
theorem aA {xs:Array Operand} {ts:Array TypeId} {d:Tmp} {ars:List AV} (i:Nat) {x x':HE} {lone:Bool} (hc:∀ us,ACallM P f ars ([(i,x)]++qE us [i]) r ([(i,x')]++qE us [i]) lone) (h:AO P n g ops.toArray rest ((d,r)::Vb (zgA i H++Wx [i]) env) ((i,x')::zgA i H) Q) (hw1:lone=true→g.w1.heap.size=0:=by exact zh) (hg:guardE ops env o=some true:=by exact rfl) (hop:o.op=.call { callee:=.value (.func f),args:=xs,argTypes:=ts }:=by exact rfl) (hargs:avs env xs.toList=some ars:=by exact rfl) (h0:H.get i=some x:=by exact rfl) (hd:o.dst=some d:=by exact rfl) (hdt:Nat.blt d n=true:=by exact rfl) (hchk:YB [(i,x)] [(i,x')] (zgA i H) [i] ars [] r=true:=by exact rfl):AO P n g ops.toArray (o::rest) env H Q:=zu i hw1 hg hop hc hargs h0 hd hdt hchk h
theorem zl {QQ:QC} {id:Nat} (id' k:Nat) {l1 l2:List Oper} (_:id=id') (h1:ops.take k=l1) (h2:ops.drop k=l2) (h:AO P n g ops.toArray l1 env H (fun env' H'=>AOX P n g ops.toArray l2 env' H' QQ)) (hnd:qU ops=true:=by kernel_rfl) :
  AW P n g (.region id ops.toArray false) env H QQ:=zoy (zu8 k h1 h2 h) hnd
theorem zky {t:TypeId} {x:Operand} {k k0:IntKind} {m:Int} (hop:o.op=.makeInterface t x) (hu:P.underlying t=some (.int k0)) (hx:env.pv H x=some (.base (.int k m))):QStep P g H o env (.pv (.base (.iface t (.int k m)))):=by
 refine ⟨fun K ρ a w hf hv=>?_⟩;have hxr:=qc hf (hv x zwy69) hx;generalize hxv:a.eval x=xv at hxr;cases hxr;have hrun:(execOp a.eval o).run P w=.ok (.value (.iface t (.int k m))) w:=by
  simp [execOp,hop,hxv,Instr.makeInterface,run_underlying hu]
 rw [hrun];exact ZP hf (.pv _ _ (.base _ rfl))
structure EStep (P:Program) (g:Base) (H0 H1 Ht:HEnv) (o:Oper) (e:Env) (r:AV) (pan:Option Value):Prop where
 go:∀ (K:KK) (ρ:Nat→Value) (a:Act) (w:World),FS g K ρ H0 w→(∀ x∈o.op.operands,∀ av,e.val x=some av→ARel K w ρ Ht av (a.eval x)) →
  ∃ f vs,(execOp a.eval o).run P w=.ok (.enter f vs) w∧Calls P f vs w fun ex w' =>
   match pan with
   | none=>∃ v K' ρ',ex=.returned v∧FS g K' ρ' H1 w'∧Later K K' w w'∧(∀ j,(Ht.get j).isSome=true→ρ' j=ρ j)∧ARel K' w' ρ' Ht r v
   | some v=>ex=.panicked [{ v:=v,recovered:=false }]∧∃ K' ρ',FS g K' ρ' [] w'
theorem ze4 {e:Env} {Ht:HEnv} {a:Act}:∀ {xs:List Operand} {ars:List AV},(∀ x∈xs,∀ av,e.val x=some av→ARel K w ρ Ht av (a.eval x))→avs e xs=some ars→Yx K w ρ Ht ars (xs.map a.eval)
 | [],ars,_,h=>by simp only [avs,Option.some.injEq] at h;subst h;exact ⟨rfl,fun k c v hc=>by simp at hc⟩
 | x::xs,ars,hv,h=>by
  simp only [avs] at h;split at h
  ·rename_i v vs h1 h2;simp only [Option.some.injEq] at h;subst h;obtain ⟨q1,q2⟩:=ze4 (xs:=xs) (fun y hy=>hv y zwy113) h2;refine ⟨by simp [q1],fun k c u hc hu=>?_⟩;cases k with
   | zero=>simp at hc hu;subst hc hu;exact hv x zwy63 v h1
   | succ k=>simp at hc hu;exact q2 k c u hc (by simpa using hu)
  ·cases h
theorem zmd {xs:Array Operand} {ts:Array TypeId} {ars:List AV} {Ht:HEnv} {e:Env} (Hc Hc' R:HEnv) {lone:Bool} (ps:List Nat) (hw1:lone=true→g.w1.heap.size=0)
  (hop:o.op=.call { callee:=.value (.func f),args:=xs,argTypes:=ts }) (hargs:avs e xs.toList=some ars) (hsub:HSub H (Hc++R)) (hk:qg Ht H=true) (hk2:qg Ht (R++Wx ps)=true)
  (hr:Zx Ht r=true) (hchk:YB Hc Hc' R ps ars [] r=true) (hc:∀ us,ACallM P f ars (Hc++qE us ps) r (Hc'++qE us ps) lone):EStep P g H (Hc'++R) Ht o e r none:=by
 refine ⟨fun K ρ a w hf hv=>?_⟩;have hrun:(execOp a.eval o).run P w=.ok (.enter f (xs.toList.map a.eval).toArray) w:=by
  have e:(xs.toList.map a.eval).toArray=xs.map a.eval:=by rw [←Array.toList_map,Array.toArray_toList]
  rw [e];simp [execOp,hop,resolve,Act.eval,Deferred.ofValue,invoke,Ze (hc ρ).stands]
 refine ⟨f,_,hrun,?_⟩;have hpa:Yx K w ρ Ht ars (xs.toList.map a.eval):=ze4 (fun x hx=>hv x zwy72) hargs;have hall:Yx K w ρ H ars (xs.toList.map a.eval):=⟨hpa.1,fun k c v hc hv=>(hpa.2 k c v hc hv).keeps (.refl K w) fun j hj=>⟨Ym hk j hj,rfl⟩⟩
 refine (zbC Hc Hc' R ps hw1 hsub hchk hc hf hall).mono fun ex w' ⟨v,K',ρ2,e1,hf',hv,hlat,hps⟩=>?_
 exact ⟨v,K',ρ2,e1,hf',hlat,fun j hj=>(hps j (Ym hk2 j hj)).2,hv.refs hr⟩
theorem zrK {xs:Array Operand} {ts:Array TypeId} {ars:List AV} {Ht H1:HEnv} {e:Env} {v:Value} (Hc:HEnv) {lone:Bool} (hw1:lone=true→g.w1.heap.size=0)
  (hop:o.op=.call { callee:=.value (.func f),args:=xs,argTypes:=ts }) (hargs:avs e xs.toList=some ars) (hfit:Yj H Hc []) (hin:YT Hc ars=true) (hc:ACallPan P f ars Hc v lone):EStep P g H H1 Ht o e r (some v):=by
 refine ⟨fun K ρ a w hf hv=>?_⟩;have hrun:(execOp a.eval o).run P w=.ok (.enter f (xs.toList.map a.eval).toArray) w:=by
  have e:(xs.toList.map a.eval).toArray=xs.map a.eval:=by rw [←Array.toList_map,Array.toArray_toList]
  rw [e];simp [execOp,hop,resolve,Act.eval,Deferred.ofValue,invoke,Ze hc.stands]
 refine ⟨f,_,hrun,?_⟩;have hpa:Yx K w ρ Ht ars (xs.toList.map a.eval):=ze4 (fun x hx=>hv x zwy72) hargs;have hall:Yx K w ρ Hc ars (xs.toList.map a.eval):=⟨hpa.1,fun k c v hc hv=>(hpa.2 k c v hc hv).refs (Qw hin k c hc)⟩
 exact hc.calls g K ρ w _ hw1 (hf.narrow hfit) hall
theorem zhD {i:Nat} {v v':AV} {R:HEnv} (hf:FS g K ρ ((i,.cell v)::R) w) (ht:Tells v v'):FS g K ρ ((i,.cell v')::R) w:=by
 have hsome:∀ j,(HEnv.get ((i,HE.cell v)::R) j).isSome=(HEnv.get ((i,HE.cell v')::R) j).isSome:=fun j=>by rw [HEnv.get_cons,HEnv.get_cons];split <;> rfl
 have hk:∀ j,(HEnv.get ((i,HE.cell v)::R) j).isSome=true→(HEnv.get ((i,HE.cell v')::R) j).isSome=true∧ρ j=ρ j:=fun j hj=>⟨by rw [←hsome];exact hj,rfl⟩
 have hold:∀ j x,HEnv.get ((i,HE.cell v')::R) j=some x→(j=i∧x=.cell v')∨(j≠i∧HEnv.get ((i,HE.cell v)::R) j=some x):=fun j x hx=>by
  rw [HEnv.get_cons] at hx;split at hx
  ·rename_i e;subst e;simp only [Option.some.injEq] at hx;exact .inl ⟨rfl,hx.symm⟩
  ·rename_i e;exact .inr ⟨fun h=>e h.symm,by rw [HEnv.get_cons,if_neg e];exact hx⟩
 have h0:HEnv.get ((i,HE.cell v)::R) i=some (.cell v):=by rw [HEnv.get_cons,if_pos rfl]
 refine ⟨hf.below,hf.old,hf.new,hf.lt,hf.others,hf.pt,fun j x b hj hl hb=>?_,fun j x hj=>?_,fun j j' x x' b hjj hj hj' hl hl' hb hb'=>?_⟩
 ·rcases hold j x hj with ⟨rfl,rfl⟩|⟨_,hj⟩
  ·exact hf.away j _ b h0 rfl hb
  ·exact hf.away j x b hj hl hb
 ·rcases hold j x hj with ⟨rfl,rfl⟩|⟨_,hj⟩
  ·obtain ⟨b,t,arr,u,q1,q2,q3,q4,q5,q6⟩:=hf.heap.ok j _ h0;exact ⟨b,t,arr,u,q1,q2,q3,ht _ _ _ _ _ (q4.keeps (.refl K w) hk),q5,q6⟩
  ·exact (hf.heap.ok j x hj).keeps (.refl hf.lt) hf.lt hk
 ·have key:∀ j x,HEnv.get ((i,HE.cell v')::R) j=some x→x.live=true→∃ y,HEnv.get ((i,HE.cell v)::R) j=some y∧y.live=true:=fun j x hj hl=>by
   rcases hold j x hj with ⟨rfl,rfl⟩|⟨_,hj⟩
   ·exact ⟨_,h0,rfl⟩
   ·exact ⟨x,hj,hl⟩
  obtain ⟨y,y1,y2⟩:=key j x hj hl;obtain ⟨y',y3,y4⟩:=key j' x' hj' hl';exact hf.heap.apart j j' y y' b hjj y1 y3 y2 y4 hb hb'
end
section
variable {P:Program} {n:Nat} {g:Base} {K:KK} {w:World} {ρ:Nat→Value} {H H0 H1:HEnv} {env:Env} {a:Act} {ops l:List Oper} {Q:Env→Prop}
theorem yV {QQ:QC} {id:Nat} (L k:Nat) (_:ops.length=L) (hok:Xd ops k=true) (hm:P.follows .mixedOrders=true) (hB:Qh (zS k ops 0) ((zS k ops 0).take k)=true) (hT:Xk (zS k ops 0) k=true) (hk:Nat.ble k (zS k ops 0).length=true)
  (h:AD P n g H (zS k ops 0) (fun env'=>AOX P n g (zS k ops 0).toArray ((zS k ops 0).drop k) env' H QQ) ((zS k ops 0).take k) env) (hnd:qU ops=true:=by kernel_rfl):AW P n g (.region id ops.toArray true) env H QQ :=
 ze7 hm (zuE k (WZ k ops 0) (fun _=>zlH hok) hB hT (Nat.le_of_ble_eq_true hk) (QZ (fun _ h=>h.go) h)) hnd
end
end Go.Cg

namespace Go.Cg
theorem qH {P:Program} {n:Nat} {g:Base} {H:HEnv} {env:Env} {ops:List Oper} {QQ:QC} {id:Nat} (id' L k:Nat) (_:id=id') (hL:ops.length=L) (hok:Xd ops k=true) (hm:P.follows .mixedOrders=true) (hB:Qh (zS k ops 0) ((zS k ops 0).take k)=true) (hT:Xk (zS k ops 0) k=true) (hk:Nat.ble k (zS k ops 0).length=true)
  (h:AD P n g H (zS k ops 0) (fun env'=>AOX P n g (zS k ops 0).toArray ((zS k ops 0).drop k) env' H QQ) ((zS k ops 0).take k) env) (hnd:qU ops=true:=by kernel_rfl):AW P n g (.region id ops.toArray true) env H QQ:=yV L k hL hok hm hB hT hk h hnd
end Go.Cg
namespace Go.Cg
open Go.RowKit
section
variable {P:Program} {tb:Tab} {n:Nat} {g:Base} {K:KK} {w w':World} {ρ:Nat→Value} {H H':HEnv} {env:Env} {ops rest:List Oper} {o:Oper} {f:FuncId} {Q:Env→HEnv→Prop}
theorem zjc {T:TypeId} {u r:Value} {name:String} {args:Array Value} (h:∀ k,(method (k + 1) T u name).run P w=.ok (f,r) w):(callMethod (.iface T u) name args).run P w=(callFunc f (#[r]++args)).run P w:=by
 have h2:(method (P.types.size + 100) T u name).run P w=.ok (f,r) w:=h (P.types.size + 99);have hp:program.run P w=.ok P w:=rfl;unfold callMethod;simp only [Sem.run_bind,hp,Result.andThen];rw [show P.types.size + Made.depth=P.types.size + 100 from rfl,h2]
theorem zuw {ts:Array TypeId} {t:TypeId} {a:Addr} {x y:ByteArray}:(Builtin.ssaWrapNilChk_ ts t #[.pointer (some a),.string x,.string y]).run P w=.ok (.pointer (some a)) w:=rfl
theorem zmk {T E:TypeId} {ti:TypeInfo} {m:Method} {name:String} {u:Value} (hT:(typeInfo T).run P w=.ok ti w) (hm:ti.methods.find? (·.name==name)=some m) (hp:m.path=#[]) (hf:m.func=some (f,true)) (hu:(underlying T).run P w=.ok (.pointer E) w) (k:Nat) :
  (method (k + 1) T u name).run P w=.ok (f,u) w:=by
 unfold method;simp [hT,hm,hp,hf,hu,follow,receiverAt,Place.get]
theorem znz {T E:TypeId} {ti:TypeInfo} {m:Method} {name:String} {a:Addr} {v:Value} (hT:(typeInfo T).run P w=.ok ti w) (hm:ti.methods.find? (·.name==name)=some m) (hp:m.path=#[]) (hf:m.func=some (f,false)) (hu:(underlying T).run P w=.ok (.pointer E) w) (hl:(loadVar E a).run P w=.ok v w) (k:Nat) :
  (method (k + 1) T (.pointer (some a)) name).run P w=.ok (f,v) w:=by
 unfold method;simp [hT,hm,hp,hf,hu,follow,receiverAt,Place.get,zuw,asAddr,hl,strVal]
structure Recv (P:Program) (g:Base) (H:HEnv) (T:TypeId) (u:Value) (name:String) (f:FuncId) (r:AV):Prop where
 go:∀ (K:KK) (ρ:Nat→Value) (w:World),FS g K ρ H w→∃ v,(∀ k,(method (k + 1) T u name).run P w=.ok (f,v) w)∧ARel K w ρ H r v
theorem zwc {T E:TypeId} {ti:TypeInfo} {m:Method} {name:String} {u:Value} {i j:Nat} (hT:∀ w,(typeInfo T).run P w=.ok ti w) (hu:∀ w,(underlying T).run P w=.ok (.pointer E) w) (hm:ti.methods.find? (·.name==name)=some m) (hp:m.path=#[]) (hf:m.func=some (f,true)) (hi:H.get i=some (.pin (.box j 0) u)) :
  Recv P g H T u name f (.box j 0):=⟨fun K ρ w hfs=>⟨u,zmk (hT w) hm hp hf (hu w),hfs.heap.ok i _ hi⟩⟩
theorem zta (htb:yR P tb) {T E:TypeId} {ti:TypeInfo} {m:Method} {name:String} {u:Value} {i j:Nat} {c r:AV} (hT:∀ w,(typeInfo T).run P w=.ok ti w) (hu:∀ w,(underlying T).run P w=.ok (.pointer E) w) (hm:ti.methods.find? (·.name==name)=some m) (hp:m.path=#[]) (hf:m.func=some (f,false)) (hi:H.get i=some (.pin (.box j 0) u)) (hc:H.get j=some (.cell c)) (hr:Qk tb H E c 0=some r) :
  Recv P g H T u name f r:=by
 refine ⟨fun K ρ w hfs=>?_⟩;have hb:ARel K w ρ H (.box j 0) u:=hfs.heap.ok i _ hi;obtain ⟨v,h1,h2⟩:=VB htb hfs hb hc hr;obtain ⟨ad,rfl⟩:∃ ad,u=.pointer (some ad):=by cases hb;exact ⟨_,rfl⟩
 have hl:(loadVar E ad).run P w=.ok v w:=by simpa [Instr.loadAt,Instr.sureAddr,asAddr] using h1
 exact ⟨v,znz (hT w) hm hp hf (hu w) hl,h2⟩
theorem zb7 {r:AV} {x:Operand} {xs:Array Operand} {ts:Array TypeId} {name:String} {T:TypeId} {u:Value} {d:Tmp} {rv:AV} {ars:List AV} (Hc Hc' R:HEnv) {lone:Bool} (ps:List Nat) (hw1:lone=true→g.w1.heap.size=0) (hg:guardE ops env o=some true)
  (hop:o.op=.call { callee:=.invoke x name,args:=xs,argTypes:=ts }) (hx:env.val x=some (.pv (.base (.iface T u)))) (hrv:Recv P g H T u name f rv) (hargs:avs env xs.toList=some ars) (hsub:HSub H (Hc++R)) (hd:o.dst=some d) (hdt:Nat.blt d n=true)
  (hchk:YB Hc Hc' R ps (rv::ars) [] r=true) (hc:∀ us,ACallM P f (rv::ars) (Hc++qE us ps) r (Hc'++qE us ps) lone)
  (h:AO P n g ops.toArray rest ((d,r)::Vb (R++Wx ps) env) (Hc'++R) Q):AO P n g ops.toArray (o::rest) env H Q:=by
 refine ⟨fun a w hinv=>?_⟩;have hw:=yT hinv hg;obtain ⟨h1,h2,K,ρ,hf,he⟩:=hinv;refine wpList_step fun KK hKK=>?_
 rw [if_pos hw];obtain ⟨v,hm,hv⟩:=hrv.go K ρ w hf;have hxe:a.eval x=.iface T u:=by
  have:=qA he hx;generalize a.eval x=z at this;cases this with|pv _ _ hp=>cases hp;rfl
 have hrun:(execOp a.eval o).run P w=.ok (.enter f (v::xs.toList.map a.eval).toArray) w:=by
  have e : #[v]++xs.map a.eval=(v::xs.toList.map a.eval).toArray:=by simp
  have e3:(#[Value.iface T u]++xs.map a.eval).extract 1 (#[Value.iface T u]++xs.map a.eval).size=xs.map a.eval:=by
   generalize xs.map a.eval=z;obtain ⟨l⟩:=z;simp [List.extract]
  have e4:(execOp a.eval o).run P w=(callMethod (.iface T u) name (xs.map a.eval)).run P w:=by
   simp only [execOp,hop,resolve,Sem.run_bind,Sem.run_pure,Result.andThen_ok,invoke,hxe];rw [e3];have e2:(#[Value.iface T u]++xs.map a.eval)[0]?=some (.iface T u):=by
    generalize xs.map a.eval=z;obtain ⟨l⟩:=z;simp
   rw [e2]
  rw [e4,zjc hm,Ze (hc ρ).stands,e]
 unfold Oper.wp;rw [hrun];simp only [Oper.upon];have hall:Yx K w ρ H (rv::ars) (v::xs.toList.map a.eval):=by
  have h3:=VP (a:=a) he hargs;refine ⟨by simp [h3.1],fun k c y hk hy=>?_⟩;cases k with
  | zero=>simp at hk hy;subst hk hy;exact hv
  | succ k=>simp at hk hy;exact h3.2 k c y hk (by simpa using hy)
 refine (zbC Hc Hc' R ps hw1 hsub hchk hc hf hall).mono fun e w' ⟨v,K',ρ2,e1,hf',hv,hlat,hps⟩=>?_
 subst e1;refine hKK _ _ (h.go _ _ ⟨qW h1,put_defers h2,K',ρ2,hf',?_⟩);rw [hd];refine Zo h1 hdt (fun t av ht=>?_) hv;rw [Vt] at ht;cases hE:env.get t with
 | none=>simp [hE] at ht
 | some v0 =>
  obtain ⟨u,u1,u2⟩:=he t v0 hE;simp only [hE,Option.map_some,Option.some.injEq] at ht;subst ht;refine ⟨u,u1,?_⟩;split
  ·rename_i hr;exact (u2.refs hr).keeps hlat hps
  ·exact .any u
theorem zhg {t:TypeId} {d:TypeDesc} {v:Value} (hu:P.underlying t=some d) (hd:match d with|.interface _=>False|_=>True):(Instr.makeInterface t v).run P w=.ok (.iface t v) w:=by
 unfold Instr.makeInterface;simp only [Sem.run_bind,run_underlying hu,Result.andThen_ok];cases d <;> first|rfl|exact hd.elim
theorem zlq {t:TypeId} {x:Operand} {d:TypeDesc} {u:Value} (hop:o.op=.makeInterface t x) (hu:P.underlying t=some d) (hd:match d with|.interface _=>False|_=>True) (hx:env.pv H x=some (.base u)):QStep P g H o env (.pv (.base (.iface t u))):=by
 refine ⟨fun K ρ a w hf hv=>?_⟩;have hxr:=qc hf (hv x zwy69) hx;generalize hxv:a.eval x=xv at hxr;cases hxr;have hrun:(execOp a.eval o).run P w=.ok (.value (.iface t u)) w:=by
  simp [execOp,hop,hxv,zhg hu hd]
 rw [hrun];exact ZP hf (.pv _ _ (.base _ rfl))
theorem zmt:∀ {cs:List Value} {vs:List Value},vs.length=cs.length→(∀ (k:Nat) (c:PV) (v:Value),(cs.map PV.base)[k]?=some c→vs[k]?=some v→PRel K w c v)→vs=cs
 | [],[],_,_=>rfl
 | c::cs,v::vs,hl,h=>by
  have h0:=h 0 (.base c) v rfl rfl;cases h0;rw [zmt zwy79 fun k c v hc hv=>h (k + 1) c v hc hv]
theorem zjs {t:TypeId} {x:Operand} {d:TypeDesc} {vs:List Value} (hop:o.op=.makeInterface t x) (hu:P.underlying t=some d) (hd:match d with|.interface _=>False|_=>True) (hx:env.pv H x=some (.agg (vs.map PV.base))):QStep P g H o env (.pv (.base (.iface t (.agg vs.toArray)))):=by
 refine ⟨fun K ρ a w hf hv=>?_⟩;have hxr:=qc hf (hv x zwy69) hx;generalize hxv:a.eval x=xv at hxr;cases hxr with
 | agg _ us hl ho hh =>
  obtain rfl:=zmt zwy79 hh;have hrun:(execOp a.eval o).run P w=.ok (.value (.iface t (.agg us.toArray))) w:=by
   simp [execOp,hop,hxv,zhg hu hd]
  rw [hrun];exact ZP hf (.pv _ _ (.base _ rfl))
theorem zim {t xt:TypeId} {x:Operand} {d:TypeDesc} {v:Value} {p:PV} (hop:o.op=.typeAssert x xt t true) (hu:P.underlying t=some d) (hd:match d with|.interface _=>False|_=>True) (hx:env.pv H x=some (.base (.iface t v))) (hp:∀ K w,PRel K w p v):QStep P g H o env (.pv (.tup [p,.base (.bool true)])):=by
 refine ⟨fun K ρ a w hf hv=>?_⟩;have hxr:=qc hf (hv x zwy69) hx;generalize hxv:a.eval x=xv at hxr;cases hxr;have h1:(Instr.typeAssert (.iface t v) xt t true).run P w=.ok (.tuple #[v,.bool true]) w:=by
  unfold Instr.typeAssert;simp only [Sem.run_bind,run_underlying hu,Result.andThen_ok];cases d <;> first|(simp;done)|exact hd.elim
 have hrun:(execOp a.eval o).run P w=.ok (.value (.tuple #[v,.bool true])) w:=by
  simp [execOp,hop,hxv,h1]
 rw [hrun];refine ZP hf (.pv _ _ (.tup _ [v,.bool true] rfl fun j c v' hc hv'=>?_))
 match j with
 | 0=>simp only [List.getElem?_cons_zero,Option.some.injEq] at hc hv';subst hc hv';exact hp K w
 | 1=>simp only [List.getElem?_cons_succ,List.getElem?_cons_zero,Option.some.injEq] at hc hv';subst hc hv';exact .base _ rfl
 | j + 2=>simp at hc
end
section
variable {P:Program} {n:Nat} {g:Base} {K:KK} {w:World} {ρ:Nat→Value} {H:HEnv} {Hp:Nat→HEnv} {ET:List (List Nat)} {env:Env} {a:Act} {ops l:List Oper} {Q:Env→Prop} {E:List Nat}
theorem zdr {QQ:QC} (L k:Nat) (E:List Nat) (ET:List (List Nat)) (Hs Nm:Nat→HEnv) (Ht:HEnv) (pan:Option Value) (_:ops.length=L) (hok:Xd ops k=true) (hB:Qh (zS k ops 0) ((zS k ops 0).take k)=true) (hT:Xk (zS k ops 0) k=true) (hk:Nat.ble k (zS k ops 0).length=true)
  (hch:Zz ((zS k ops 0).take k) E=true) (hET:zfd ((zS k ops 0).take k) E ET=true) (hkp:∀ p,p < ET.length→qg (Hs p) Ht=true∧qg Ht (Hs p)=true) (hne:E.isEmpty=false)
  (hw:∀ p,p≤E.length→∀ K ρ w,FS g K ρ (Hs p) w→FS g K ρ Ht w) (hN0:Nm 0=Ht) (hmono:∀ q p,q≤p→p≤E.length→qg (Nm q) (Nm p)=true) (hkeys:∀ q,q≤E.length→qg (Nm q) (Hs E.length)=true) (hH:Yj H (Hs 0) env) (hke:QD Ht env=true)
  (hp:∀ v,pan=some v→QQ (.panic [{ v:=v,recovered:=false }]) [] [])
  (h:WO P n g Ht Hs ET (zS k ops 0) (fun env'=>pan=none→AOX P n g (zS k ops 0).toArray ((zS k ops 0).drop k) env' (Hs E.length) QQ) (fun p oc ec rc=>EStepN P g (Hs p) (Hs (p + 1)) (Nm p) (Nm (p + 1)) oc ec rc (if p + 1=E.length then pan else none)∧(Zx Ht rc=true∨((zS k ops 0).take k).zipIdx.all (fun x=>E.contains x.2||match oc.dst with|some tc=>!(readsOf (zS k ops 0) x.1).contains tc|none=>true)=true)) E ((zS k ops 0).take k) env):DR P n g ops env H QQ :=
 zqd k E ET Hs Nm Ht pan (WZ k ops 0) (fun _=>zlH hok) hB hT (Nat.le_of_ble_eq_true hk) hch hET hkp (.inl hne) hw hN0 hmono hkeys (fun a w hi=>by
  obtain ⟨h1,h2,K,ρ,hf,he⟩:=hi.hsub hH;exact ⟨⟨h1,h2,K,ρ,hf,fun t av h=>by simp [Env.get_nil] at h⟩,K,ρ,hf,fun t av hav=>by
   obtain ⟨v,v1,v2⟩:=he t av hav;exact ⟨v,v1,v2.refs (zbo hke t av hav)⟩⟩) hp (by
  obtain ⟨s,hs⟩:=h;exact ⟨⟨s.r,s.e,s.last,s.lenr,s.lene,s.ok,s.src,fun hp=>(s.fin hp).go⟩,hs⟩)
theorem Zr {QQ:QC} {id:Nat} (L k:Nat) (E:List Nat) (ET:List (List Nat)) (Hs Nm:Nat→HEnv) (Ht:HEnv) (pan:Option Value) (hL:ops.length=L) (hok:Xd ops k=true) (hm:P.follows .mixedOrders=true) (hB:Qh (zS k ops 0) ((zS k ops 0).take k)=true) (hT:Xk (zS k ops 0) k=true) (hk:Nat.ble k (zS k ops 0).length=true)
  (hch:Zz ((zS k ops 0).take k) E=true) (hET:zfd ((zS k ops 0).take k) E ET=true) (hkp:∀ p,p < ET.length→qg (Hs p) Ht=true∧qg Ht (Hs p)=true) (hne:E.isEmpty=false)
  (hw:∀ p,p≤E.length→∀ K ρ w,FS g K ρ (Hs p) w→FS g K ρ Ht w) (hN0:Nm 0=Ht) (hmono:∀ q p,q≤p→p≤E.length→qg (Nm q) (Nm p)=true) (hkeys:∀ q,q≤E.length→qg (Nm q) (Hs E.length)=true) (hH:Yj H (Hs 0) env) (hke:QD Ht env=true)
  (hp:∀ v,pan=some v→QQ (.panic [{ v:=v,recovered:=false }]) [] [])
  (h:WO P n g Ht Hs ET (zS k ops 0) (fun env'=>pan=none→AOX P n g (zS k ops 0).toArray ((zS k ops 0).drop k) env' (Hs E.length) QQ) (fun p oc ec rc=>EStepN P g (Hs p) (Hs (p + 1)) (Nm p) (Nm (p + 1)) oc ec rc (if p + 1=E.length then pan else none)∧(Zx Ht rc=true∨((zS k ops 0).take k).zipIdx.all (fun x=>E.contains x.2||match oc.dst with|some tc=>!(readsOf (zS k ops 0) x.1).contains tc|none=>true)=true)) E ((zS k ops 0).take k) env)
  (hnd:qU ops=true:=by kernel_rfl):AW P n g (.region id ops.toArray true) env H QQ :=
 ze7 hm (zdr L k E ET Hs Nm Ht pan hL hok hB hT hk hch hET hkp hne hw hN0 hmono hkeys hH hke hp h) hnd
theorem zfu {QQ:QC} {id:Nat} (L k:Nat) (E:List Nat) (Hs Nm:Nat→HEnv) (Ht:HEnv) (pan:Option Value) (hL:ops.length=L) (hok:Xd ops k=true) (hm:P.follows .mixedOrders=true) (hB:Qh (zS k ops 0) ((zS k ops 0).take k)=true) (hT:Xk (zS k ops 0) k=true) (hk:Nat.ble k (zS k ops 0).length=true)
  (hch:Zz ((zS k ops 0).take k) E=true) (hne:E.isEmpty=false)
  (hw:∀ p,p≤E.length→∀ K ρ w,FS g K ρ (Hs p) w→FS g K ρ Ht w) (hN0:Nm 0=Ht) (hmono:∀ q p,q≤p→p≤E.length→qg (Nm q) (Nm p)=true) (hkeys:∀ q,q≤E.length→qg (Nm q) (Hs E.length)=true) (hH:Yj H (Hs 0) env) (hke:QD Ht env=true)
  (hp:∀ v,pan=some v→QQ (.panic [{ v:=v,recovered:=false }]) [] [])
  (h:WO P n g Ht Hs [] (zS k ops 0) (fun env'=>pan=none→AOX P n g (zS k ops 0).toArray ((zS k ops 0).drop k) env' (Hs E.length) QQ) (fun p oc ec rc=>EStepN P g (Hs p) (Hs (p + 1)) (Nm p) (Nm (p + 1)) oc ec rc (if p + 1=E.length then pan else none)∧(Zx Ht rc=true∨((zS k ops 0).take k).zipIdx.all (fun x=>E.contains x.2||match oc.dst with|some tc=>!(readsOf (zS k ops 0) x.1).contains tc|none=>true)=true)) E ((zS k ops 0).take k) env)
  (hnd:qU ops=true:=by kernel_rfl):AW P n g (.region id ops.toArray true) env H QQ :=
 Zr L k E [] Hs Nm Ht pan hL hok hm hB hT hk hch rfl (fun p hp=>by simp at hp) hne hw hN0 hmono hkeys hH hke hp h hnd
theorem zmj {QQ:QC} {id:Nat} (L k jc:Nat) (H0 H1 Ht:HEnv) {oc:Oper} {tc:Nat} (rc:AV) (pan:Option Value) (hL:ops.length=L) (hok:Xd ops k=true) (hm:P.follows .mixedOrders=true) (hB:Qh (zS k ops 0) ((zS k ops 0).take k)=true) (hT:Xk (zS k ops 0) k=true) (hk:Nat.ble k (zS k ops 0).length=true)
  (hsp:(zS k ops 0).take k=(zS k ops 0).take jc++oc::((zS k ops 0).take k).drop (jc + 1)) (hjl:Nat.ble jc (zS k ops 0).length=true) (hd:oc.dst=some tc) (htc:Nat.blt tc n=true)
  (w0:∀ K ρ w,FS g K ρ H0 w→FS g K ρ Ht w) (w1:∀ K ρ w,FS g K ρ H1 w→FS g K ρ Ht w) (hkeys:qg Ht H1=true) (hH:Yj H H0 env) (hke:QD Ht env=true) (hr:Zx Ht rc=true)
  (hp:∀ v,pan=some v→QQ (.panic [{ v:=v,recovered:=false }]) [] [])
  (h:AD P n g Ht (zS k ops 0) (fun env1=>(guardE (zS k ops 0) env1 oc=some true∧EStep P g H0 H1 Ht oc env1 rc pan)∧AD P n g Ht (zS k ops 0) (fun env'=>pan=none→AOX P n g (zS k ops 0).toArray ((zS k ops 0).drop k) env' H1 QQ) (((zS k ops 0).take k).drop (jc + 1)) ((tc,rc)::env1)) ((zS k ops 0).take jc) env)
  (hnd:qU ops=true:=by kernel_rfl):AW P n g (.region id ops.toArray true) env H QQ:=by
 have hjk:jc < k:=by
  have h1:=congrArg List.length hsp;have h2:=Nat.le_of_ble_eq_true hjl;have h3:=Nat.le_of_ble_eq_true hk;simp only [List.length_append,List.length_take,List.length_cons,List.length_drop] at h1;omega
 have htt:((zS k ops 0).take k).take jc=(zS k ops 0).take jc:=by rw [List.take_take,Nat.min_eq_left zwy62]
 have hll:((zS k ops 0).take k).length=k:=by have:=Nat.le_of_ble_eq_true hk;simp;omega
 have hgj:((zS k ops 0).take k)[jc]?=some oc:=by
  rw [hsp,List.getElem?_append_right zwy64];have:=Nat.le_of_ble_eq_true hjl;simp [Nat.min_eq_left this]
 refine zfu L k [jc] (fun p=>match p with|0=>H0|_ + 1=>H1) (fun _=>Ht) Ht pan hL hok hm hB hT hk (by rw [Zz,hgj];rfl) rfl
  (fun p _=>by cases p <;> assumption) rfl (fun _ _ _ _=>qR Ht []) (fun _ _=>hkeys) hH hke hp ?_ hnd
 refine Yp jc [] rc (by rw [htt];exact hsp) (Nat.ble_eq_true_of_le zwy62) rfl hd htc ?_;rw [htt];exact QZ (fun _ ⟨⟨x1,x2⟩,x3⟩=>⟨⟨x1,⟨fun K ρ a w hf hv=>.inl (x2.go K ρ a w hf hv)⟩,.inl hr⟩,ZV x3⟩) h
theorem ze2 {r:AV} {f:FuncId} {o:Oper} {xs:Array Operand} {ts:Array TypeId} {ars:List AV} {N N1:HEnv} {e:Env} (Hc Hc' R:HEnv) {lone:Bool} (ps:List Nat) (hw1:lone=true→g.w1.heap.size=0)
  (hop:o.op=.call { callee:=.value (.func f),args:=xs,argTypes:=ts }) (hargs:avs e xs.toList=some ars) (hsub:HSub H (Hc++R)) (hk:qg N H=true) (hk2:qg N (R++Wx ps)=true)
  (hr:Zx N1 r=true) (hchk:YB Hc Hc' R ps ars [] r=true) (hc:∀ us,ACallM P f ars (Hc++qE us ps) r (Hc'++qE us ps) lone):EStepN P g H (Hc'++R) N N1 o e r none:=by
 refine ⟨fun K ρ a w hf hv=>?_⟩;have hrun:(execOp a.eval o).run P w=.ok (.enter f (xs.toList.map a.eval).toArray) w:=by
  have e:(xs.toList.map a.eval).toArray=xs.map a.eval:=by rw [←Array.toList_map,Array.toArray_toList]
  rw [e];simp [execOp,hop,resolve,Act.eval,Deferred.ofValue,invoke,Ze (hc ρ).stands]
 refine .inl ⟨f,_,hrun,?_⟩;have hpa:Yx K w ρ N ars (xs.toList.map a.eval):=ze4 (fun x hx=>hv x zwy72) hargs;have hall:Yx K w ρ H ars (xs.toList.map a.eval):=⟨hpa.1,fun k c v hc hv=>(hpa.2 k c v hc hv).keeps (.refl K w) fun j hj=>⟨Ym hk j hj,rfl⟩⟩
 refine (zbC Hc Hc' R ps hw1 hsub hchk hc hf hall).mono fun ex w' ⟨v,K',ρ2,e1,hf',hv,hlat,hps⟩=>?_
 exact ⟨v,K',ρ2,e1,hf',hlat,fun j hj=>(hps j (Ym hk2 j hj)).2,hv.refs hr⟩
theorem zmp {N N1:HEnv} {f:FuncId} {args:List PV} {r:PV} {o:Oper} {e:Env} {xs:Array Operand} {ts:Array TypeId} (hop:o.op=.call { callee:=.value (.func f),args:=xs,argTypes:=ts }) (hargs:pvs e N xs.toList=some args) (hw:∀ K ρ w,FS g K ρ H w→FS g K ρ N w)
  (hc:ACall P f args r):EStepN P g H H N N1 o e (.pv r) none:=by
 refine ⟨fun K ρ a w hf hv=>?_⟩;have hp:=zc7 (hw K ρ w hf) (a:=a) (xs:=xs.toList) (fun x hx=>hv x zwy72) hargs;have hrun:(execOp a.eval o).run P w=.ok (.enter f (xs.toList.map a.eval).toArray) w:=by
  have e:(xs.toList.map a.eval).toArray=xs.map a.eval:=by rw [←Array.toList_map,Array.toArray_toList]
  rw [e];simp [execOp,hop,resolve,Act.eval,Deferred.ofValue,invoke,Ze hc.stands]
 refine .inl ⟨f,_,hrun,(hc.calls K w _ hf.lt hp).mono fun ex w' ⟨v,K',h1,h2,h3⟩=>?_⟩;exact ⟨v,K',ρ,h1,hf.evo h2,h2.later hf.lt,fun _ _=>rfl,.pv _ _ h3⟩
theorem zrS {i:Nat} {t sz:Nat} (hi:H.get i=some (.row t sz [])) (h:Inv n g env H a w):Inv n g env ((i,.mrow t sz [])::H) a w:=by
 obtain ⟨g1,g2,K,ρ,hf,he⟩:=h;have hk:∀ j,(H.get j).isSome=true→(HEnv.get ((i,HE.mrow t sz [])::H) j).isSome=true∧ρ j=ρ j:=fun j hj=>⟨by
  rw [HEnv.get_cons];split <;> first|rfl|exact hj,rfl⟩
 have hold:∀ j x,HEnv.get ((i,HE.mrow t sz [])::H) j=some x→x.live=true→∃ y,H.get j=some y∧y.live=true:=fun j x hj hl=>by
  rw [HEnv.get_cons] at hj;split at hj
  ·rename_i e;subst e;exact ⟨_,hi,rfl⟩
  ·exact ⟨x,hj,hl⟩
 refine ⟨g1,g2,K,ρ,⟨hf.below,hf.old,hf.new,hf.lt,hf.others,hf.pt,fun j x b hj hl hb=>?_,fun j x hj=>?_,fun j j' x x' b hjj hj hj' hl hl' hb hb'=>?_⟩,he.keeps (.refl K w) hk⟩
 ·obtain ⟨y,y1,y2⟩:=hold j x hj hl;exact hf.away j y b y1 y2 hb
 ·rw [HEnv.get_cons] at hj;split at hj
  ·rename_i e;subst e;simp only [Option.some.injEq] at hj;subst hj;obtain ⟨xs,q1,q2,q3,q4⟩:=hf.heap.ok i _ hi;exact ⟨xs,q1,q2,q3,fun b hb o hk=>by have:=(q4 b hb o).1 hk;simp at this⟩
  ·exact (hf.heap.ok j x hj).keeps (.refl hf.lt) hf.lt hk
 ·obtain ⟨y,y1,y2⟩:=hold j x hj hl;obtain ⟨y',y3,y4⟩:=hold j' x' hj' hl';exact hf.heap.apart j j' y y' b hjj y1 y3 y2 y4 hb hb'
theorem znC {Q:Env→HEnv→Prop} {l:List Oper} (i:Nat) {t sz:Nat} (hi:H.get i=some (.row t sz [])) (k:AO P n g ops.toArray l env ((i,.mrow t sz [])::H) Q):AO P n g ops.toArray l env H Q:=⟨fun a w hinv=>k.go a w (zrS hi hinv)⟩
theorem zg8 {QQ:QC} {t:Nat} (i:Nat) (e:TypeId) (sz:Nat) (hsz:0 < sz) (ht:env.get t=some (.pv (.base (.slice none 0 0)))) (hi:H.get i=none) (h:QQ .ret ((t,.own i)::env) ((i,.mrow e sz [])::H)):AW P n g .ret env H QQ:=zha i e sz hsz ht hi (zh5 h)
end
section
variable {P:Program} {tb:Tab} {g:Base} {K:KK} {w:World} {ρ:Nat→Value} {H:HEnv} {env:Env} {a:Act} {o:Oper}
theorem zpS (m:Bool) (htb:yR P tb) {ty e:Nat} {x y:Operand} {i j:Nat} {sz:Nat} {es xs:List PV} {full:Bool}
  (hop:o.op=.call { callee:=.builtin .append,args:=#[x,y],argTypes:=#[ty,ty] }) (hk:tb.k ty=.sl e) (hx:env.val x=some (.own i)) (hi:H.get i=some (rowB m e sz es)) (hj:H.get j=none) (hy:env.pv H y=some (.slc sz xs full))
  (hzz:(match tb.get e with|some ti=>(match ti.zero with|some z=>ti.size==sz&&z.cells.size==sz|none=>false)|none=>false)=true)
  (hbound:(es.length + xs.length) * (match tb.get e with|some ti=>ti.bytes|none=>0)≤140737488355328) (hb2:es.length + xs.length≤140737488355328)
  (hf:FS g K ρ H w) (hv:∀ z∈o.op.operands,∀ av,env.val z=some av→ARel K w ρ H av (a.eval z)) :
  ∃ v' w' K',(execOp a.eval o).run P w=.ok (.value v') w'∧Later K K' w w'∧FS g K' (fun k=>if k=j then v' else ρ k) ((j,rowB m e sz (es++xs))::(i,.dead)::H) w' :=
 zgS (f:=id) htb j m hop hk hx hi hy hzz hbound hb2 hf hv (fun k _ hh hk=>by
  rw [HEnv.get_cons] at hk;split at hk
  ·exact .inl (Option.some.inj hk).symm
  ·rename_i hne;exact .inr ⟨Ne.symm hne,hh,hk,by cases hh <;> rfl⟩) (fun hl av v h=>h.keeps hl fun k hk=>by
  have hne:k≠j:=by rintro rfl;simp [hj] at hk
  refine ⟨?_,by simp [hne]⟩;rw [HEnv.get_cons,if_neg (Ne.symm hne),HEnv.get_cons];split <;> first|rfl|exact hk)
theorem qB (htb:yR P tb) {ty:Nat} {x y:Operand} {i k j sz off e:Nat} {N N1:HEnv} {es:List PV} {p q p':PV} (hop:o.op=.store ty x y) (hx:env.val x=some (.ad i off)) (hi:H.get i=some (.mrow e sz es)) (hoff:off=k * sz + j)
  (hp:es[k]?=some p) (hy:env.val y=some (.pv q)) (hnt:q.notTup=true) (hs:ziZ p j (tb.size ty) q=some p') (hk:tb.known ty=true):EStepN P g H ((i,.mrow e sz (es.set k p'))::H) N N1 o env (.pv (.tup [])) none:=by
 refine ⟨fun K ρ a w hf hv=>.inr ⟨rfl,?_⟩⟩;obtain ⟨w',hrun,hf',hlat⟩:=zhV (a:=a) htb hop hi hoff hp hnt hs hk hf (hv x zwy69 _ hx) (by
  have:=hv y zwy69 _ hy;cases this with|pv _ _ h=>exact h)
 exact ⟨undef,w',K,ρ,.inr ⟨hrun,rfl⟩,hf',hlat,fun _ _=>rfl,zbG⟩
end
def zbi (q:List Nat) (x:Nat) (b:Bool) (o:Oper):Oper:={ o with after:=(o.after.toList.map (fun e=>(⟨q.getD e.on e.on,e.ground⟩:Edge))++(if b then [(⟨q.getD x x,.phase⟩:Edge)] else [])).toArray }
def XD (p q:List Nat) (x y:Nat) (ops:List Oper):List Oper:=p.filterMap fun k=>(ops[k]?).map fun o=>zbi q x (Nat.beq k y) o
def zbb (p q:List Nat) (x y:Nat) (ops:List Oper):Bool :=
 Nat.beq p.length ops.length&&Nat.beq q.length ops.length&&(List.range ops.length).all (fun k=>Nat.beq (q.getD (p.getD k 0) 0) k&&Nat.beq (p.getD (q.getD k 0) 0) k&&Nat.blt (p.getD k 0) ops.length&&Nat.blt (q.getD k 0) ops.length)
 && ops.all (fun o=>o.guard.isNone&&o.after.toList.all fun e=>Nat.blt e.on ops.length)&&Nat.blt x ops.length&&Nat.blt y ops.length
def Lin (ops:Array Oper):Nat→Array Bool→List Nat→Prop
 | 0,_,L=>L=[]
 | _ + 1,listed,[]=>Region.ready .any ops listed=[]
 | f + 1,listed,j::L=>j∈Region.ready .any ops listed∧Lin ops f (listed.setIfInBounds j true) L
theorem zw7 (ops:Array Oper):∀ (fuel t:Nat) (listed:Array Bool),Lin ops fuel listed (Region.linearise.go .any ops fuel t listed []):=by
 intro fuel;induction fuel with
 | zero=>intro t listed;simp [Region.linearise.go,Lin]
 | succ fuel ih =>
  intro t listed;simp only [Region.linearise.go];change Lin ops (fuel + 1) listed (match (Region.ready .any ops listed)[t % (Region.ready .any ops listed).length]? with
   | some i=>Region.linearise.go .any ops fuel (t / (Region.ready .any ops listed).length) (listed.setIfInBounds i true) [i]
   | none=>[].reverse)
  cases hi:(Region.ready .any ops listed)[t % (Region.ready .any ops listed).length]? with
  | none =>
   have hnil:Region.ready .any ops listed=[]:=by
    cases hr:Region.ready .any ops listed with
    | nil=>rfl
    | cons x xs =>
     rw [hr] at hi;have hlt:t % (x::xs).length < (x::xs).length:=Nat.mod_lt _ zwy63;simp at hi;simp at hlt;omega
   exact hnil
  | some i =>
   simp only [];rw [linearise_go_acc,List.reverse_singleton,List.singleton_append];exact ⟨List.mem_of_getElem? hi,ih _ _⟩
def Ahead (x y:Nat) (L:List Nat):Prop:=∀ A B,L=A++y::B→x∈A
theorem zmT {x y:Nat} (hne:x≠y):∀ L:List Nat,Ahead x y L∨Ahead y x L
 | []=>.inl fun A B h=>by cases A <;> simp at h
 | z::L=>by
  by_cases hx:z=x
  ·refine .inl fun A B h=>?_
   cases A with
   | nil=>simp at h;exact absurd (hx.symm.trans h.1) hne
   | cons a A=>simp at h;rw [←h.1,hx];simp
  ·by_cases hy:z=y
   ·refine .inr fun A B h=>?_
    cases A with
    | nil=>simp at h;exact absurd (h.1.symm.trans hy) hne
    | cons a A=>simp at h;rw [←h.1,hy];simp
   ·rcases zmT hne L with h|h
    ·refine .inl fun A B e=>?_
     cases A with
     | nil=>simp at e;exact absurd e.1 hy
     | cons a A=>simp at e;exact List.mem_cons_of_mem _ (h A B e.2)
    ·refine .inr fun A B e=>?_
     cases A with
     | nil=>simp at e;exact absurd e.1 hx
     | cons a A=>simp at e;exact List.mem_cons_of_mem _ (h A B e.2)
section
variable {F:Fence} {n:Nat} {P:Program} {Q:Exit→Act→World→Prop} {ops:List Oper} {p q:List Nat} {x y:Nat}
theorem zeX {l:Array Bool} {k:Nat} (h:k < l.size):l.getD k false=l.getD k true:=by
 rw [Array.getD_eq_getD_getElem?,Array.getD_eq_getD_getElem?,Array.getElem?_eq_getElem h];rfl
theorem zaQ (hok:zbb p q x y ops=true):(XD p q x y ops).length=ops.length∧∀ k,k < ops.length→(XD p q x y ops)[k]?=(ops[p.getD k 0]?).map (zbi q x (Nat.beq (p.getD k 0) y)):=by
 simp only [zbb,Bool.and_eq_true,List.all_eq_true,List.mem_range] at hok;obtain ⟨⟨⟨⟨⟨h1,h2⟩,h3⟩,h4⟩,h5⟩,h6⟩:=hok;have h1:=Nat.eq_of_beq_eq_true h1;have hs:∀ k∈p,k < ops.length:=fun k hk=>by
  obtain ⟨i,hi⟩:=List.getElem?_of_mem hk;have hlt:=(List.getElem?_eq_some_iff.1 hi).1;have:=(h3 i zwy62).1.2;rw [List.getD_eq_getElem?_getD,hi] at this;exact Nat.le_of_ble_eq_true this
 have key:∀ l:List Nat,(∀ k∈l,k < ops.length)→(l.filterMap fun k=>(ops[k]?).map fun o=>zbi q x (Nat.beq k y) o).length=l.length ∧
   ∀ i,i < l.length→(l.filterMap fun k=>(ops[k]?).map fun o=>zbi q x (Nat.beq k y) o)[i]?=(ops[l.getD i 0]?).map (zbi q x (Nat.beq (l.getD i 0) y)):=by
  intro l;induction l with
  | nil=>intro _;exact ⟨rfl,fun i hi=>by simp at hi⟩
  | cons k l ih =>
   intro hl;obtain ⟨i1,i2⟩:=ih fun z hz=>hl z (List.mem_cons_of_mem _ hz)
   have hk:=hl k zwy63;rw [List.filterMap_cons,List.getElem?_eq_getElem hk];simp only [Option.map_some];refine ⟨by simp [i1],fun i hi=>?_⟩;cases i with
   | zero=>simp [List.getElem?_eq_getElem hk]
   | succ i=>simpa using i2 i zwy115
 obtain ⟨k1,k2⟩:=key p hs;exact ⟨by rw [XD,k1,h1],fun k hk=>k2 k zwy62⟩
theorem zg2 {b:Bool} {o:Oper} {i:Nat}:qj (zbi q x b o) i=(o.after.toList.any (fun e=>Region.binds .any e&&q.getD e.on e.on==i)||(b&&q.getD x x==i)):=by
 unfold qj zbi;cases b <;> simp [List.any_map,Function.comp_def,Region.binds]
theorem zoH (hok:zbb p q x y ops=true) {listed l':Array Bool} (hs:listed.size=ops.length) (hs':l'.size=ops.length) (hr:∀ k,k < ops.length→l'.getD k true=listed.getD (p.getD k 0) true) :
  (∀ j,j∈Region.ready .any ops.toArray listed→(j=y→listed.getD x true=true)→q.getD j 0∈Region.ready .any (XD p q x y ops).toArray l')∧(∀ k,k∈Region.ready .any (XD p q x y ops).toArray l'→p.getD k 0∈Region.ready .any ops.toArray listed):=by
 have hP:=zaQ hok;simp only [zbb,Bool.and_eq_true,List.all_eq_true,List.mem_range] at hok;obtain ⟨⟨⟨⟨⟨h1,h2⟩,h3⟩,h4⟩,h5⟩,h6⟩:=hok;have h1:=Nat.eq_of_beq_eq_true h1;have h2:=Nat.eq_of_beq_eq_true h2;have h5:x < ops.length:=Nat.le_of_ble_eq_true h5;have pq:∀ k,k < ops.length→p.getD (q.getD k 0) 0=k:=fun k hk=>Nat.eq_of_beq_eq_true (h3 k hk).1.1.2
 have plt:∀ k,k < ops.length→p.getD k 0 < ops.length:=fun k hk=>Nat.le_of_ble_eq_true (h3 k hk).1.2
 have qlt:∀ k,k < ops.length→q.getD k 0 < ops.length:=fun k hk=>Nat.le_of_ble_eq_true (h3 k hk).2
 have qd:∀ k,k < ops.length→q.getD k k=q.getD k 0:=fun k hk=>by
  rw [List.getD_eq_getElem?_getD,List.getD_eq_getElem?_getD,List.getElem?_eq_getElem zwy62];rfl
 have edge:∀ o∈ops,∀ e∈o.after.toList,e.on < ops.length:=fun o ho e he=>Nat.le_of_ble_eq_true ((h4 o ho).2 e he)
 constructor
 ·intro j hj hy;obtain ⟨o,ho,hun,hall⟩:=qN.1 hj;have hjl:=(List.getElem?_eq_some_iff.1 ho).1;refine qN.2 ⟨zbi q x (Nat.beq j y) o,?_,?_,fun i hi=>?_⟩
  ·rw [hP.2 _ (qlt j hjl),pq j hjl,ho];rfl
  ·rw [hr _ (qlt j hjl),pq j hjl];exact hun
  ·rw [zg2,Bool.or_eq_true] at hi;rcases hi with hi|hi
   ·obtain ⟨e,he,hb⟩:=List.any_eq_true.1 hi;rw [Bool.and_eq_true,beq_iff_eq] at hb;have hlt:=edge o (List.mem_of_getElem? ho) e he;have:=hall e.on (List.any_eq_true.2 ⟨e,he,by simp [hb.1]⟩);rw [←hb.2,qd _ hlt,zeX (by rw [hs'];exact qlt _ hlt),hr _ (qlt _ hlt),pq _ hlt,←zeX zwy62];exact this
   ·rw [Bool.and_eq_true,beq_iff_eq] at hi;rw [←hi.2,qd _ h5,zeX (by rw [hs'];exact qlt _ h5),hr _ (qlt _ h5),pq _ h5];exact hy (Nat.eq_of_beq_eq_true hi.1)
 ·intro k hk;obtain ⟨o',ho',hun,hall⟩:=qN.1 hk;have hkl:k < ops.length:=by rw [←hP.1];exact (List.getElem?_eq_some_iff.1 ho').1
  rw [hP.2 k hkl] at ho';cases ho:ops[p.getD k 0]? with
  | none =>
   have h1:=plt k hkl;rw [List.getElem?_eq_none_iff] at ho;omega
  | some o =>
   simp only [ho,Option.map_some,Option.some.injEq] at ho';subst ho';refine qN.2 ⟨o,ho,by rw [←hr k hkl];exact hun,fun i hi=>?_⟩;obtain ⟨e,he,hb⟩:=List.any_eq_true.1 hi;rw [Bool.and_eq_true,beq_iff_eq] at hb;have hlt:=edge o (List.mem_of_getElem? ho) e he;have:=hall (q.getD e.on 0) (by rw [zg2,Bool.or_eq_true];exact .inl (List.any_eq_true.2 ⟨e,he,by rw [Bool.and_eq_true,beq_iff_eq];exact ⟨hb.1,qd _ hlt⟩⟩));rw [zeX (by rw [hs'];exact qlt _ hlt),hr _ (qlt _ hlt),pq _ hlt] at this;rw [←hb.2,zeX zwy62];exact this
theorem znj (hok:zbb p q x y ops=true):∀ (fuel:Nat) (listed l':Array Bool) (L:List Nat),listed.size=ops.length→l'.size=ops.length→(∀ k,k < ops.length→l'.getD k true=listed.getD (p.getD k 0) true) →
  Lin ops.toArray fuel listed L→(listed.getD x true=true∨Ahead x y L)→Lin (XD p q x y ops).toArray fuel l' (L.map fun k=>q.getD k 0)∧∀ a w,wpOpsIn F n P (XD p q x y ops).toArray Q (L.map fun k=>q.getD k 0) a w→wpOpsIn F n P ops.toArray Q L a w:=by
 have hP:=zaQ hok;have hR:=fun {listed l':Array Bool}=>zoH (listed:=listed) (l':=l') hok
 simp only [zbb,Bool.and_eq_true,List.all_eq_true,List.mem_range] at hok;obtain ⟨⟨⟨⟨⟨h1,h2⟩,h3⟩,h4⟩,h5⟩,h6⟩:=hok;have h5:x < ops.length:=Nat.le_of_ble_eq_true h5;have pq:∀ k,k < ops.length→p.getD (q.getD k 0) 0=k:=fun k hk=>Nat.eq_of_beq_eq_true (h3 k hk).1.1.2
 have qp:∀ k,k < ops.length→q.getD (p.getD k 0) 0=k:=fun k hk=>Nat.eq_of_beq_eq_true (h3 k hk).1.1.1
 have qlt:∀ k,k < ops.length→q.getD k 0 < ops.length:=fun k hk=>Nat.le_of_ble_eq_true (h3 k hk).2
 intro fuel;induction fuel with
 | zero =>
  intro listed l' L _ _ _ hL _;have hL:L=[]:=hL;subst hL;exact ⟨rfl,fun a w h=>h⟩
 | succ fuel ih =>
  intro listed l' L hs hs' hr hL hA;cases L with
  | nil =>
   have hL:Region.ready .any ops.toArray listed=[]:=hL;refine ⟨?_,fun a w h=>h⟩;show Region.ready .any (XD p q x y ops).toArray l'=[]
   rw [List.eq_nil_iff_forall_not_mem];intro k hk;have:=(hR hs hs' hr).2 k hk;rw [hL] at this;cases this
  | cons j L =>
   obtain ⟨hj,hL⟩:=hL;obtain ⟨o,ho,hun,hall⟩:=qN.1 hj;have hjl:=(List.getElem?_eq_some_iff.1 ho).1;have hj':=(hR hs hs' hr).1 j hj (fun e=>by
    rcases hA with hA|hA
    ·exact hA
    ·have:=hA [] L (by rw [e];rfl);simp at this)
   have hgn:o.guard=none:=by have:=(h4 o (List.mem_of_getElem? ho)).1;simpa using this
   obtain ⟨k1,k2⟩:=ih (listed.setIfInBounds j true) (l'.setIfInBounds (q.getD j 0) true) L (by simp [hs]) (by simp [hs']) (fun k hk=>by
    by_cases e:k=q.getD j 0
    ·subst e;rw [ZH (by rw [hs'];exact qlt j hjl),pq j hjl,ZH zwy62]
    ·rw [qy e,qy (fun e2=>e (by rw [←e2,qp k hk])),hr k hk]) hL (by
    rcases hA with hA|hA
    ·left;by_cases e:x=j
     ·subst e;exact ZH zwy62
     ·rw [qy e];exact hA
    ·by_cases e:x=j
     ·subst e;exact .inl (ZH zwy62)
     ·right;intro A B hAB;have:=hA (j::A) B (by rw [hAB];rfl);rcases List.mem_cons.1 this with h|h
      ·exact absurd h e
      ·exact h)
   refine ⟨⟨hj',k1⟩,fun a w h=>?_⟩;rw [List.map_cons,wpOpsIn_cons] at h;rw [wpOpsIn_cons];unfold wpOpIn at h ⊢;have ho':(XD p q x y ops).toArray[q.getD j 0]?=some (zbi q x (Nat.beq j y) o):=by
    rw [List.getElem?_toArray,hP.2 _ (qlt j hjl),pq j hjl,ho];rfl
   rw [ho'] at h;rw [List.getElem?_toArray,ho];simp only at h ⊢;have w1:Region.wanted o (yielded ops.toArray a.tmps)=true:=by simp [Region.wanted,hgn]
   have w2:Region.wanted (zbi q x (Nat.beq j y) o) (yielded (XD p q x y ops).toArray a.tmps)=true:=by
    show Region.wanted { o with after:=_ } _=true
    simp [Region.wanted,hgn]
   rw [if_pos w1];rw [if_pos w2] at h;exact Oper.wpIn_mono k2 h
theorem zqv:∀ (fuel:Nat) (listed:Array Bool) (L:List Nat) (a:Act) (w:World),Lin ops.toArray fuel listed L→wpAnyIn F n P .any ops.toArray Q fuel listed a w→wpOpsIn F n P ops.toArray Q L a w
 | 0,_,L,a,w,hL,h=>by
  have hL:L=[]:=hL;subst hL;exact h.2
 | fuel + 1,listed,[],a,w,hL,h=>h.1 hL
 | fuel + 1,listed,j::L,a,w,hL,h=>by
  rw [wpOpsIn_cons];exact wpOpIn_mono (fun a w hh=>zqv fuel _ L a w hL.2 hh) (h.2 j hL.1)
end
section
variable {P:Program} {n:Nat} {g:Base} {K:KK} {w:World} {ρ:Nat→Value} {H:HEnv} {env:Env} {a:Act} {ops:List Oper} {tb:Tab} {o:Oper}
structure DL (P:Program) (n:Nat) (g:Base) (ops:List Oper) (env:Env) (H:HEnv) (QQ:QC):Prop where
 go:∀ a w,Inv n g env H a w→∀ (r:Option Nat) (d:Nat) (L:List Nat),Lin ops.toArray ops.length (Array.replicate ops.length false) L→wpOpsIn (zaz r) d P ops.toArray (fun e a w=>∃ env' H',Inv n g env' H' a w∧(e=.normal∨∃ ch,e=.panic ch)∧QQ e env' H') L a { w with drawn:=w.drawn + 1 }
theorem zfs {QQ:QC} (hnd:qU ops=true) (h:DR P n g ops env H QQ):DL P n g ops env H QQ :=
 ⟨fun a w hi r d L hL=>zqv _ _ _ _ _ hL (zam ziB (by simpa using hnd) _ _ _ _ (by have:=h.go a w hi;simpa using this))⟩
theorem zeA {QQ:QC} {id:Nat} (hm:P.follows .mixedOrders=true) (h:DL P n g ops env H QQ):AW P n g (.region id ops.toArray true) env H QQ:=by
 refine ⟨fun a w hi r d=>?_⟩
 suffices hh:(Code.region id ops.toArray true).wpIn (zaz r) d P (fun e a w=>∃ env' H',Inv n g env' H' a w∧(e=.normal∨∃ ch,e=.panic ch)∧QQ e env' H') a w from wpIn_mono hh (fun e a' w' ⟨env',H',h1,_,h3⟩=>⟨env',H',h1,h3⟩)
 refine wpIn_region_draw fun t=>?_
 simp only [Region.schedule,hm,Bool.true_or,if_true];have hl:=zw7 ops.toArray ops.length t (Array.replicate ops.length false);have e0:ops.toArray.size=ops.length:=by simp
 show wpOpsIn _ _ P ops.toArray _ (Region.linearise.go .any ops.toArray ops.toArray.size t (Array.replicate ops.toArray.size false) []) a _
 rw [e0];exact h.go a w hi r d _ hl
theorem zbu {QQ:QC} (x y:Nat) (p q p2 q2:List Nat) (hne:Nat.beq x y=false) (ok1:zbb p q x y ops=true) (ok2:zbb p2 q2 y x ops=true) (h1:DL P n g (XD p q x y ops) env H QQ) (h2:DL P n g (XD p2 q2 y x ops) env H QQ):DL P n g ops env H QQ:=by
 refine ⟨fun a w hi r d L hL=>?_⟩;have key:∀ {p q:List Nat} {x y:Nat},zbb p q x y ops=true→∀ k,k < ops.length→(Array.replicate ops.length false).getD k true=(Array.replicate ops.length false).getD (p.getD k 0) true:=by
  intro p q x y hok k hk;simp only [zbb,Bool.and_eq_true,List.all_eq_true,List.mem_range] at hok;have:p.getD k 0 < ops.length:=Nat.le_of_ble_eq_true (hok.1.1.1.2 k hk).1.2;have r:∀ i,i < ops.length→(Array.replicate ops.length false).getD i true=false:=fun i hi=>by
   rw [Array.getD_eq_getD_getElem?,Array.getElem?_replicate,if_pos hi];rfl
  rw [r k hk,r _ this]
 rcases zmT (Nat.ne_of_beq_eq_false hne) L with hA|hA
 ·obtain ⟨k1,k2⟩:=znj (F:=zaz r) (n:=d) (P:=P) (Q:=fun e a w=>∃ env' H',Inv n g env' H' a w∧(e=.normal∨∃ ch,e=.panic ch)∧QQ e env' H') ok1 _ _ _ L zwy63 zwy63 (key ok1) hL (.inr hA);exact k2 _ _ (h1.go a w hi r d _ (by rw [(zaQ ok1).1];exact k1))
 ·obtain ⟨k1,k2⟩:=znj (F:=zaz r) (n:=d) (P:=P) (Q:=fun e a w=>∃ env' H',Inv n g env' H' a w∧(e=.normal∨∃ ch,e=.panic ch)∧QQ e env' H') ok2 _ _ _ L zwy63 zwy63 (key ok2) hL (.inr hA);exact k2 _ _ (h2.go a w hi r d _ (by rw [(zaQ ok2).1];exact k1))
theorem XK (htb:yR P tb) {ty e m:Nat} {x y:Operand} {sz:Nat} {z:PV} {mi:Int} {N:HEnv} (i:Nat) (hop:o.op=.makeSlice ty x y) (hk:tb.k ty=.sl e) (hx:env.pv H x=some (.base (.int .i64 mi))) (hy:env.pv H y=some (.base (.int .i64 mi))) (hmi:mi=((m:Nat):Int))
  (hz:(match tb.zero e with|some v=>zd4 v|none=>none)=some z) (hzz:(match tb.get e with|some ti=>(match ti.zero with|some zv=>ti.size==sz&&zv.cells.size==sz&&Nat.blt 0 sz|none=>false)|none=>false)=true)
  (hb:(match tb.get e with|some ti=>ti.bytes|none=>0) * m≤281474976710656) (hm:m≤maxLen) (hi:H.get i=none) (hk1:qg N H=true) (hi1:HEnv.get N i=none) :
  EStepN P g H ((i,.mrow e sz (List.replicate m z))::H) N ((i,.mrow e sz (List.replicate m z))::N) o env (.own i) none:=by
 refine ⟨fun K ρ a w hf hv=>.inr ⟨rfl,?_⟩⟩;obtain ⟨v,w',hrun,hev,hf'⟩:=zmy (a:=a) htb i hop hk hx hy hmi hz hzz hb hm hi hf fun z hz av ha=>(hv z hz av ha).keeps (.refl K w) fun j hj=>⟨Ym hk1 j hj,rfl⟩
 refine ⟨v,w',K,_,.inl hrun,hf',hev.later hf.lt,fun j hj=>?_,?_⟩
 ·have hne:j≠i:=by rintro rfl;rw [hi1] at hj;cases hj
  simp [hne]
 ·have:=ARel.own (K:=K) (w:=w') (ρ:=fun j=>if j=i then v else ρ j) (H:=(i,HE.mrow e sz (List.replicate m z))::N) i zwy94;simpa using this
end
end Go.Cg
