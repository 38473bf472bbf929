/- A part of the walks by abstract values: no statement of its own. -/
import Derived.Test.YtoeplllgofpddaaGreatU4
import Derived.Test.YtoeplllgofpddaaGreatU5
set_option linter.unusedVariables false
set_option linter.unusedSimpArgs false
namespace Go.Cg
open Go.RowKit
def ql (ja js t' m:Nat) (o:Oper) (j:Nat):Oper :=
 match Nat.beq j ja with
 | true=>{ o with op:=.move (.tmp m) }
 | false=>match Nat.beq j js with
  | true=>{ o with op:=.move (.tmp m),dst:=some t' }
  | false=>o
def Zq (ja js t' m:Nat):List Oper→Nat→List Oper
 | [],_=>[]
 | o::os,j=>ql ja js t' m o j::Zq ja js t' m os (j + 1)
theorem zcf (ja js t' m:Nat):∀ (ops:List Oper) (k j:Nat),(Zq ja js t' m ops k)[j]?=(ops[j]?).map fun o=>ql ja js t' m o (k + j)
 | [],k,j=>by simp [Zq]
 | o::os,k,j=>by
  cases j with
  | zero=>simp [Zq]
  | succ j=>simp only [Zq,List.getElem?_cons_succ];rw [zcf ja js t' m os (k + 1) j];congr;funext o;congr 1;omega
theorem XI (ja js t' m:Nat):∀ (ops:List Oper) (k:Nat),(Zq ja js t' m ops k).length=ops.length
 | [],k=>rfl
 | o::os,k=>by simp [Zq,XI ja js t' m os (k + 1)]
theorem zhw {ja js t' m:Nat} {o:Oper} {j:Nat}:(ql ja js t' m o j).after=o.after:=by
 unfold ql
 split
 ·rfl
 ·split <;> rfl
theorem zcE {ja js t' m:Nat} {o:Oper} {j:Nat}:(ql ja js t' m o j).guard=o.guard:=by
 unfold ql
 split
 ·rfl
 ·split <;> rfl
theorem zim {ja js t' m:Nat} {o:Oper} {j:Nat} (h1:j≠ja) (h2:j≠js):ql ja js t' m o j=o:=by
 unfold ql
 have e1:Nat.beq j ja=false:=by cases h:Nat.beq j ja;rfl;exact absurd (Nat.eq_of_beq_eq_true h) h1
 have e2:Nat.beq j js=false:=by cases h:Nat.beq j js;rfl;exact absurd (Nat.eq_of_beq_eq_true h) h2
 rw [e1,e2]
theorem zbs {ja js t' m:Nat} {o:Oper} {j:Nat} (h2:j≠js):(ql ja js t' m o j).dst=o.dst:=by
 unfold ql
 have e2:Nat.beq j js=false:=by cases h:Nat.beq j js;rfl;exact absurd (Nat.eq_of_beq_eq_true h) h2
 rw [e2]
 split <;> rfl
section
variable {P:Program} {tb:Tab} {n:Nat} {g:Base} {K K':KK} {w w':World} {ρ:Nat→Value} {H:HEnv} {env:Env} {a:Act} {ops rest:List Oper} {Q:Env→Prop}
theorem yh {t m:Nat} {ty:TypeId} {po:String} {af:Array Edge} (hm:env.get m=none) (ht:Nat.blt t n=true) (h:AD P n g H ops Q rest ((t,.any)::env)):AD P n g H ops Q (⟨some t,.move (.tmp m),ty,po,af,none⟩::rest) env:=by
 refine .step _ _ _ .any t rfl ⟨fun K ρ a w hf hv=>?_⟩ rfl ht h
 simp only [execOp,Act.eval]
 exact ⟨K,.refl hf.lt,.any _⟩
structure Blk (g:Base) (K:KK) (ρ:Nat→Value) (H:HEnv) (w:World) (b:Nat) (ty:TypeId) (arr:Array Value):Prop where
 base:g.w0.heap.size≤b
 heap:w.heap[b]?=some (.cells arr ty (0,0))
 noK:∀ o,¬ K b o
 apart:∀ (j:Nat) (h:HE),H.get j=some h→h.live=true→zY (ρ j)=some b→False
 far:¬ g.pr b
theorem Blk.evo {b:Nat} {ty:TypeId} {arr:Array Value} (h:Blk g K ρ H w b ty arr) (hev:Evo K K' w w'):Blk g K' ρ H w' b ty arr:=by
 have hlt:b < w.heap.size:=(Array.getElem?_eq_some_iff.1 h.heap).1
 exact ⟨h.base,by rw [hev.below.block b hlt];exact h.heap,fun o ho=>(hev.new b o ho).elim (h.noK o) (fun h2=>by omega),h.apart,h.far⟩
theorem Blk.own {b i:Nat} {ty:TypeId} {arr:Array Value} (h:Blk g K ρ H w b ty arr) (hf:FS g K ρ H w) (hi:H.get i=none) {v:AV} {u:Value} (hu:ARel K w ρ H v u) (hc:u.cells=arr) :
  FS g K (fun j=>if j=i then .pointer (some ⟨b,0,none⟩) else ρ j) ((i,.cell v)::H) w:=by
 have hk:=qO (ρ:=ρ) hi (.cell v) (.pointer (some ⟨b,0,none⟩))
 have hlat:=Later.refl K w
 refine ⟨hf.below,hf.old,hf.new,hf.lt,hf.others,hf.pt,hf.away.fresh (fun b2 hb2=>by cases hb2;exact h.far),?_,?_⟩
 ·intro j e hj
  simp only [HEnv.get_nil,HEnv.get_cons] at hj
  split at hj
  ·rename_i e';subst e';simp only [Option.some.injEq] at hj;subst hj
   exact ⟨b,ty,arr,u,by simp,h.base,h.heap,hu.keeps hlat hk,hc,h.noK⟩
  ·rename_i hne
   have:=(hf.heap.ok j e hj).keeps (.refl hf.lt) hf.lt hk
   simpa [Ne.symm hne] using this
 ·intro j k h1 h2 bb hjk hj hk' hlj hlk hbj hbk
  simp only [HEnv.get_nil,HEnv.get_cons] at hj hk'
  split at hj
  ·rename_i e';subst e'
   split at hk'
   ·rename_i e'';exact hjk (by omega)
   ·rename_i hne
    simp only [if_true] at hbj
    simp only [zY,Option.some.injEq] at hbj
    subst hbj
    simp only [Ne.symm hne,if_false] at hbk
    exact h.apart k h2 hk' hlk hbk
  ·rename_i hne
   simp only [Ne.symm hne,if_false] at hbj
   split at hk'
   ·rename_i e'';subst e''
    simp only [if_true] at hbk
    simp only [zY,Option.some.injEq] at hbk
    subst hbk
    exact h.apart j h1 hj hlj hbj
   ·rename_i hne'
    simp only [Ne.symm hne',if_false] at hbk
    exact hf.heap.apart j k h1 h2 bb hjk hj hk' hlj hlk hbj hbk
theorem Blk.set {b:Nat} {ty:TypeId} {arr arr':Array Value} (h:Blk g K ρ H w b ty arr) (hf:FS g K ρ H w) :
  FS g K ρ H (w.setRow b arr')∧Blk g K ρ H (w.setRow b arr') b ty arr'∧Later K K w (w.setRow b arr'):=by
 have hgrow:w.grownBy (w.setRow b arr') (some b):=⟨rfl,rfl,rfl,by simp,fun k _ hk=>setRow_other w b k _ (fun e=>hk (by simp [e]))⟩
 have hlat:Later K K w (w.setRow b arr'):=⟨fun _ _ h=>h,fun b' o hk=>by
  have:b'≠b:=by rintro rfl;exact h.noK o hk
  exact cell_setRow_other w b _ ⟨b',o,none⟩ this⟩
 refine ⟨⟨hf.below.grown hgrow hf.below.size (fun k hk=>by simp at hk;have:=h.base;omega),hf.old,hf.new,fun b o hk=>by have:=hf.lt b o hk;simpa using this,hf.others.trans (zds h.heap hgrow),hf.pt.grown hf.old hgrow hlat (fun b2 hb2=>by cases hb2;exact h.far) (fun _ _ h=>.inl h),hf.away,?_,hf.heap.apart⟩,⟨h.base,setRow_heap w b arr _ ty _ h.heap,h.noK,h.apart,h.far⟩,hlat⟩
 intro j e hj
 by_cases hlive:e.live=true
 ·have:=(hf.heap.ok j e hj).grown (f:=id) hgrow hlat (fun b o h=>.inl h) (fun av v h=>h.keeps hlat (fun j hj=>⟨hj,rfl⟩)) hlive (fun b' hb' e'=>by
   simp at e';subst e'
   exact h.apart j e hj hlive hb')
  cases e <;> exact this
 ·cases e <;> simp [HE.live] at hlive
  ·trivial
  ·exact ARel.keeps hlat (fun j hj=>⟨hj,rfl⟩) (hf.heap.ok j _ hj)
structure MidX (P:Program) (n:Nat) (g:Base) (H:HEnv) (ops:List Oper) (env:Env) (Q:Env→Prop) (s:Script P n g H ops ops env Q) (listed:Array Bool) (a:Act) (w:World) (K:KK) (ρ:Nat→Value):Prop where
 size:a.tmps.size=n
 defers:a.defers=g.ds
 lsize:listed.size=ops.length
 closed:∀ (i:Nat) (o:Oper),ops[i]?=some o→listed.getD i true=true→∀ j,yD o j=true→listed.getD j false=true
 fs:FS g K ρ H w
 hl:∀ (i:Nat) (o:Oper) (ri:AV) (t:Nat),ops[i]?=some o→listed.getD i true=true→s.r[i]?=some ri→o.dst=some t→∃ v,a.tmps[t]?=some v∧ARel K w ρ H ri v
 he:∀ (t:Nat) (av:AV),env.get t=some av→(∀ (i:Nat) (o:Oper),ops[i]?=some o→listed.getD i true=true→o.dst≠some t)→∃ v,a.tmps[t]?=some v∧ARel K w ρ H av v
theorem MidX.mid {s:Script P n g H ops ops env Q} {listed:Array Bool} (h:MidX P n g H ops env Q s listed a w K ρ):Mid P n g H ops ops env Q s listed a w :=
 ⟨h.size,h.defers,h.lsize,Nat.le_refl _,fun j h1 h2=>by omega,h.closed,K,ρ,h.fs,h.hl,h.he⟩
theorem zfK {s:Script P n g H ops ops env Q} {listed:Array Bool} (hm:MidX P n g H ops env Q s listed a w K ρ) {j:Nat} {o:Oper} (ho:ops[j]?=some o) (hready:∀ i,yD o i=true→listed.getD i false=true) :
  ∀ (i:Nat) (o:Oper),ops[i]?=some o→(listed.setIfInBounds j true).getD i true=true→∀ k,yD o k=true→(listed.setIfInBounds j true).getD k false=true:=by
 have hjlt:j < listed.size:=by rw [hm.lsize];exact (List.getElem?_eq_some_iff.1 ho).1
 intro i o' ho' hli k hk
 by_cases hij:i=j
 ·subst hij
  rw [ho] at ho';cases ho'
  have:=hready k hk
  by_cases hkj:k=i
  ·subst hkj;exact qh hjlt
  ·rw [zU hkj];exact this
 ·rw [zU hij] at hli
  have:=hm.closed i o' ho' hli k hk
  by_cases hkj:k=j
  ·subst hkj;exact qh hjlt
  ·rw [zU hkj];exact this
theorem MidX.next {s:Script P n g H ops ops env Q} {listed:Array Bool} (hB:ZW ops ops=true) (hm:MidX P n g H ops env Q s listed a w K ρ) {j:Nat} {o:Oper} {rj:AV} {t:Nat} (ho:ops[j]?=some o) (hr:s.r[j]?=some rj) (hd:o.dst=some t) (ht:t < n)
  (hun:listed.getD j true=false) (hready:∀ i,yD o i=true→listed.getD i false=true) {K':KK} {w':World} {v:Value}
  (hfs:FS g K' ρ H w') (hlat:Later K K' w w') (hv:ARel K' w' ρ H rj v):MidX P n g H ops env Q s (listed.setIfInBounds j true) (a.put (some t) v) w' K' ρ:=by
 have hjlt:j < listed.size:=by rw [hm.lsize];exact (List.getElem?_eq_some_iff.1 ho).1
 obtain ⟨_,_,hdst,_⟩:=Yj hB ho
 refine ⟨Zg hm.size,put_defers hm.defers,by simp [hm.lsize],zfK hm ho hready,hfs,?_,?_⟩
 ·intro i o' ri t' ho' hli hri hd'
  by_cases hij:i=j
  ·subst hij
   rw [ho] at ho';cases ho'
   rw [hr] at hri;cases hri
   rw [hd] at hd';cases hd'
   exact ⟨v,by simp only [Act.put];rw [Array.getElem?_setIfInBounds_self_of_lt (by rw [hm.size];exact ht)],hv⟩
  ·rw [zU hij] at hli
   obtain ⟨u,h1,h2⟩:=hm.hl i o' ri t' ho' hli hri hd'
   have hne:t≠t':=by
    rintro rfl
    exact hdst i o' ho' hij (by rw [hd',hd])
   exact ⟨u,by simp only [Act.put];rw [Array.getElem?_setIfInBounds_ne hne];exact h1,h2.later hlat⟩
 ·intro t' av hav hno
  have hne:t≠t':=by
   rintro rfl
   exact hno j o ho (qh hjlt) hd
  obtain ⟨u,h1,h2⟩:=hm.he t' av hav (fun i o' ho' hli hd'=>by
   by_cases hij:i=j
   ·subst hij;rw [hun] at hli;cases hli
   ·exact hno i o' ho' (by rw [zU hij];exact hli) hd')
  exact ⟨u,by simp only [Act.put];rw [Array.getElem?_setIfInBounds_ne hne];exact h1,h2.later hlat⟩
theorem MidX.nop {s:Script P n g H ops ops env Q} {listed:Array Bool} (hm:MidX P n g H ops env Q s listed a w K ρ) {j:Nat} {o:Oper} {rj:AV} {t:Nat} {w':World} (ho:ops[j]?=some o) (hr:s.r[j]?=some rj) (hany:∀ u,ARel K w' ρ H rj u) (hd:o.dst=some t) (ht:t < n)
  (hun:listed.getD j true=false) (hready:∀ i,yD o i=true→listed.getD i false=true)
  (hfs:FS g K ρ H w') (hlat:Later K K w w'):MidX P n g H ops env Q s (listed.setIfInBounds j true) a w' K ρ:=by
 have hjlt:j < listed.size:=by rw [hm.lsize];exact (List.getElem?_eq_some_iff.1 ho).1
 refine ⟨hm.size,hm.defers,by simp [hm.lsize],zfK hm ho hready,hfs,?_,?_⟩
 ·intro i o' ri t' ho' hli hri hd'
  by_cases hij:i=j
  ·subst hij
   rw [ho] at ho';cases ho'
   rw [hr] at hri;cases hri
   rw [hd] at hd';cases hd'
   exact ⟨a.tmps[t]'(by rw [hm.size];exact ht),Array.getElem?_eq_getElem _,hany _⟩
  ·rw [zU hij] at hli
   obtain ⟨u,h1,h2⟩:=hm.hl i o' ri t' ho' hli hri hd'
   exact ⟨u,h1,h2.later hlat⟩
 ·intro t' av hav hno
  obtain ⟨u,h1,h2⟩:=hm.he t' av hav (fun i o' ho' hli hd'=>by
   by_cases hij:i=j
   ·subst hij;rw [hun] at hli;cases hli
   ·exact hno i o' ho' (by rw [zU hij];exact hli) hd')
  exact ⟨u,h1,h2.later hlat⟩
theorem MidX.done {s:Script P n g H ops ops env Q} {listed:Array Bool} (hm:MidX P n g H ops env Q s listed a w K ρ) (hall:∀ j,j < ops.length→listed.getD j true=true):EnvR K w ρ H s.last a.tmps:=by
 intro t av hav
 have hlast:(s.e++[s.last])[ops.length]?=some s.last:=by rw [List.getElem?_append_right (by rw [s.lene];exact Nat.le_refl _),s.lene];simp
 rcases s.src ops.length s.last hlast t av hav with ⟨i,o,ri,h1,h2,h3,h4,h5,_⟩|⟨h1,av0,h2,h3⟩
 ·obtain ⟨v,v1,v2⟩:=hm.hl i o ri t h2 (hall i h1) h4 h3
  exact ⟨v,v1,h5 _ _ _ _ _ v2⟩
 ·obtain ⟨v,v1,v2⟩:=hm.he t av0 h2 (fun i o ho _=>h1 i o (List.getElem?_eq_some_iff.1 ho).1 ho)
  exact ⟨v,v1,h3 _ _ _ _ _ v2⟩
theorem MidX.early {s:Script P n g H ops ops env Q} {listed:Array Bool} (hB:ZW ops ops=true) (hm:MidX P n g H ops env Q s listed a w K ρ) {jx tx:Nat} {ox:Oper} {v:AV} (hox:ops[jx]?=some ox) (hdx:ox.dst=some tx) (hlx:listed.getD jx true=true) (hv:s.last.get tx=some v) :
  ∃ u,a.tmps[tx]?=some u∧ARel K w ρ H v u:=by
 have hlast:(s.e++[s.last])[ops.length]?=some s.last:=by rw [List.getElem?_append_right (by rw [s.lene];exact Nat.le_refl _),s.lene];simp
 rcases s.src ops.length s.last hlast tx v hv with ⟨i,o,ri,h1,h2,h3,h4,h5,_⟩|⟨h1,av0,h2,h3⟩
 ·have hij:i=jx:=Classical.byContradiction fun hne=>(Yj hB hox).2.2.1 i o h2 hne (by rw [h3,hdx])
  subst hij
  obtain ⟨u,u1,u2⟩:=hm.hl i o ri tx h2 hlx h4 h3
  exact ⟨u,u1,h5 _ _ _ _ _ u2⟩
 ·exact absurd hdx (h1 jx ox (List.getElem?_eq_some_iff.1 hox).1 hox)
theorem zqE (hev:Evo K K' w w):Later K' K w w:=by
 refine ⟨fun b o h=>(hev.new b o h).elim id (fun h2=>?_),fun _ _ _=>rfl⟩
 have:=hev.lt b o h
 omega
theorem zbN (a:Act) {s:Script P n g H ops ops env Q} {j:Nat} {o:Oper} {rj:AV} (ho:ops[j]?=some o) (hr:s.r[j]?=some rj) (hop:o.op=.move (.tmp n)) (hg:o.guard=none) (henv:env.get n=none) (hf:FS g K ρ H w) (u:Value):ARel K w ρ H rj u:=by
 have hj:=(List.getElem?_eq_some_iff.1 ho).1
 have hej:s.e[j]?=some (s.e[j]'(by rw [s.lene];exact hj)):=List.getElem?_eq_getElem _
 generalize s.e[j]'(by rw [s.lene];exact hj)=ej at hej
 have hno:ej.get n=none:=by
  cases hc:ej.get n with
  | none=>rfl
  | some av =>
   exfalso
   rcases s.src j ej (by rw [List.getElem?_append_left (List.getElem?_eq_some_iff.1 hej).1];exact hej) n av hc with ⟨i,o',ri,h1,h2,h3,h4,_⟩|⟨_,av0,h2,_⟩
   ·have hi:=(List.getElem?_eq_some_iff.1 h2).1
    obtain ⟨t,e1,e2,_⟩:=s.ok i o' ri _ h2 h4 (List.getElem?_eq_getElem (by rw [s.lene];exact hi))
    rw [h3] at e1;have e3:=Option.some.inj e1;subst e3;exact Nat.lt_irrefl _ e2
   ·rw [henv] at h2;cases h2
 obtain ⟨t,hd,ht,hor⟩:=s.ok j o rj ej ho hr hej
 have hgt:guardE ops ej o=some true:=by simp [guardE,Zf,hg]
 rcases hor with ⟨_,hq⟩|⟨hgf,_⟩
 ·have:=hq.go K ρ { a with tmps:=Array.replicate (n + 1) u } w hf (fun x hx av hav=>by
   rw [hop] at hx
   simp [Op.operands] at hx
   subst hx
   simp [Env.val,hno] at hav)
  rw [show (execOp (Act.eval { a with tmps:=Array.replicate (n + 1) u }) o).run P w=.ok (.value u) w by
   simp [execOp,hop,Act.eval,Array.getD_eq_getD_getElem?]] at this
  obtain ⟨K',hev,hr'⟩:=this
  exact hr'.later (zqE hev)
 ·rw [hgt] at hgf;cases hgf
end
section
variable {P:Program} {tb:Tab} {n:Nat} {g:Base} {H:HEnv} {env:Env} {ops ops':List Oper} {Q:Env→Prop}
theorem zdi {o o':Oper} (h:o.after=o'.after) (j:Nat):yD o j=yD o' j:=by unfold yD;rw [h]
theorem zdx {listed:Array Bool} {j fuel:Nat} (hlt:j < listed.size) (hun:listed.getD j true=false) (hc:(listed.toList.filter (! ·)).length=fuel + 1):((listed.setIfInBounds j true).toList.filter (! ·)).length=fuel:=by
 have hlt':j < listed.toList.length:=by simpa using hlt
 have hjf:listed.toList[j]=false:=by
  rw [Array.getD_eq_getD_getElem?,Array.getElem?_eq_getElem hlt] at hun
  simpa using hun
 have e1:listed.toList=listed.toList.take j++false::listed.toList.drop (j + 1):=by
  rw [←hjf,List.getElem_cons_drop,List.take_append_drop]
 rw [Array.toList_setIfInBounds,List.set_eq_take_append_cons_drop,if_pos hlt']
 rw [e1] at hc
 simp only [List.filter_append,List.length_append,List.filter_cons,Bool.not_false,if_true,List.length_cons,Bool.not_true,Bool.false_eq_true,if_false] at hc ⊢
 omega
def BI (g:Base) (H:HEnv) (ja js ta:Nat) (ty:TypeId) (zc:Array Value) (r:AV) (listed:Array Bool) (a:Act) (w:World) (K:KK) (ρ:Nat→Value):Prop :=
 listed.getD ja true=true→∃ b,a.tmps[ta]?=some (.pointer (some ⟨b,0,none⟩)) ∧
  ((listed.getD js true=false∧Blk g K ρ H w b ty zc)∨(listed.getD js true=true∧∃ ru,ARel K w ρ H r ru∧Blk g K ρ H w b ty ru.cells))
theorem zpS {ja js t' ta tx jx:Nat} {oa os ox:Oper} {ty:TypeId} {z:Value} {za v r:AV} {R:Exit→Act→World→Prop} (htb:qp P tb) (hsh:ops'=Zq ja js t' n ops 0) (hB:ZW ops' ops'=true) (s:Script P n g H ops' ops' env Q)
  (hoa:ops[ja]?=some oa) (hopa:oa.op=.alloc ty) (hda:oa.dst=some ta) (hta:ta < n) (hga:oa.guard=none)
  (hos:ops[js]?=some os) (hops:os.op=.store ty (.tmp ta) (.tmp tx)) (hds:os.dst=none) (hgs:os.guard=none) (ht':t' < n)
  (hne:ja≠js) (hea:yD os ja=true) (hex:yD os jx=true) (hox:ops'[jx]?=some ox) (hdx:ox.dst=some tx)
  (hng:∀ (j:Nat) (o:Oper) (jj:Nat) (want:Bool),ops[j]?=some o→o.guard=some (jj,want)→jj≠js)
  (hz:tb.zero ty=some z) (hza:zcw z=some za) (hk:tb.known ty=true) (henv:env.get n=none)
  (hv:s.last.get tx=some v) (hr:zcM tb H ty za 0 v=some r) (hn:ze3 H za=true)
  (hR:∀ a w K ρ b ru,a.tmps.size=n→a.defers=g.ds→FS g K ρ H w→EnvR K w ρ H s.last a.tmps→a.tmps[ta]?=some (.pointer (some ⟨b,0,none⟩))→ARel K w ρ H r ru→Blk g K ρ H w b ty ru.cells→R .normal a w) :
  ∀ (fuel:Nat) (listed:Array Bool) (a:Act) (w:World) (K:KK) (ρ:Nat→Value),(listed.toList.filter (! ·)).length=fuel→MidX P n g H ops' env Q s listed a w K ρ→BI g H ja js ta ty z.cells r listed a w K ρ →
  wpAny P .any ops.toArray R fuel listed a w:=by
 have hlen:ops'.length=ops.length:=by rw [hsh,XI]
 have hget:∀ j,ops'[j]?=(ops[j]?).map fun o=>ql ja js t' n o j:=by
  intro j;rw [hsh,zcf];simp
 have hzi:∃ i,P.info? ty=some i∧i.zero=some z:=by
  unfold Tab.zero at hz
  split at hz
  ·rename_i ti hti
   obtain ⟨i,e1,_,_,e4,_⟩:=ZH htb hti
   exact ⟨i,e1,by rw [e4];exact hz⟩
  ·cases hz
 obtain ⟨ti,hti,htz⟩:=hzi
 have hzr:∀ (K:KK) (w:World) (ρ:Nat→Value),ARel K w ρ H za z:=by
  intro K w ρ
  unfold zcw at hza
  split at hza
  ·rename_i cs
   split at hza
   ·rename_i ps hps
    simp only [Option.some.injEq] at hza;subst hza
    have hr:=Xo (K:=K) (w:=w) hps
    have:=PRel.agg ps cs.toList hr.1 (Xv hps) hr.2
    exact .pv _ _ (by simpa using this)
   ·cases hza
  ·split at hza
   ·rename_i ho
    simp only [Option.some.injEq] at hza;subst hza
    exact .pv _ _ (.base _ ho)
   ·cases hza
 have hedges:∀ j o,ops[j]?=some o→∀ i,yD (ql ja js t' n o j) i=yD o i:=fun j o _ i=>zdi zhw i
 have hjsl:js < ops.length:=(List.getElem?_eq_some_iff.1 hos).1
 have hjal:ja < ops.length:=(List.getElem?_eq_some_iff.1 hoa).1
 have fin:∀ (listed:Array Bool) (a:Act) (w:World) (K:KK) (ρ:Nat→Value),(∀ j,j < ops.length→listed.getD j true=true)→MidX P n g H ops' env Q s listed a w K ρ→BI g H ja js ta ty z.cells r listed a w K ρ→R .normal a w:=by
  intro listed a w K ρ hall hm hb
  obtain ⟨b,b1,b2⟩:=hb (hall ja hjal)
  rcases b2 with ⟨b2,_⟩|⟨_,ru,b3,b4⟩
  ·rw [hall js hjsl] at b2;cases b2
  ·exact hR a w K ρ b ru hm.size hm.defers hm.fs (hm.done (fun j hj=>hall j (by omega))) b1 b3 b4
 intro fuel
 induction fuel with
 | zero =>
  intro listed a w K ρ hc hm hb
  have hall:∀ j,j < ops.length→listed.getD j true=true:=by
   intro j hj
   have hn:=List.filter_eq_nil_iff.1 (List.eq_nil_of_length_eq_zero hc)
   have hlt:j < listed.size:=by rw [hm.lsize,hlen];exact hj
   have:=hn listed[j] (by simp)
   simp only [Bool.not_eq_true',Bool.not_eq_false] at this
   rw [Array.getD_eq_getD_getElem?,Array.getElem?_eq_getElem hlt]
   simpa using this
  refine ⟨?_,fin listed a w K ρ hall hm hb⟩
  rw [List.eq_nil_iff_forall_not_mem]
  intro j hj
  obtain ⟨o,ho,hun,_⟩:=yV.1 hj
  rw [hall j (List.getElem?_eq_some_iff.1 ho).1] at hun;cases hun
 | succ fuel ih =>
  intro listed a w K ρ hc hm hb
  refine ⟨fun h0=>?_,fun j hj=>?_⟩
  ·
   refine fin listed a w K ρ (fun j hj=>?_) hm hb
   induction j using Nat.strongRecOn with
   | _ j ihj =>
    cases hun:listed.getD j true
    ·exfalso
     have ho:=List.getElem?_eq_getElem hj
     have:j∈Region.ready .any ops.toArray listed:=yV.2 ⟨_,ho,hun,fun i hi=>by
      have ho':ops'[j]?=some (ql ja js t' n ops[j] j):=by rw [hget,ho];rfl
      have hij:=(Yj hB ho').2.1 i (by rw [hedges j _ ho];exact hi)
      have hi2:=ihj i hij (by omega)
      have hlt:i < listed.size:=by rw [hm.lsize,hlen];omega
      rw [Array.getD_eq_getD_getElem?,Array.getElem?_eq_getElem hlt] at hi2 ⊢
      exact hi2⟩
     rw [h0] at this;cases this
    ·rfl
  obtain ⟨o,ho,hun,hready⟩:=yV.1 hj
  have hjlt:=(List.getElem?_eq_some_iff.1 ho).1
  have hjl:j < listed.size:=by rw [hm.lsize,hlen];exact hjlt
  have ho':ops'[j]?=some (ql ja js t' n o j):=by rw [hget,ho];rfl
  have hready':∀ i,yD (ql ja js t' n o j) i=true→listed.getD i false=true:=fun i hi=>hready i (by rw [←hedges j o ho];exact hi)
  have hcount:=zdx hjl hun hc
  have hft:∀ i,listed.getD i false=true→listed.getD i true=true:=by
   intro i hi
   rw [Array.getD_eq_getD_getElem?] at hi ⊢
   cases h:listed[i]? with
   | none=>rfl
   | some b=>rw [h] at hi;exact hi
  have hrj:s.r[j]?=some (s.r[j]'(by rw [s.lenr,hlen];exact hjlt)):=List.getElem?_eq_getElem _
  generalize s.r[j]'(by rw [s.lenr,hlen];exact hjlt)=rj at hrj
  unfold wpOp
  simp only [List.getElem?_toArray,ho]
  have hBI_set:∀ (j':Nat),j'=j→j≠js→∀ (a':Act) (w':World) (K':KK),(∀ b,a.tmps[ta]?=some (.pointer (some ⟨b,0,none⟩))→a'.tmps[ta]?=some (.pointer (some ⟨b,0,none⟩)))→Evo K K' w w'→j≠ja→BI g H ja js ta ty z.cells r (listed.setIfInBounds j true) a' w' K' ρ:=by
   intro _ _ hjs a' w' K' hta' hev hja hl
   rw [zU (Ne.symm hja)] at hl
   obtain ⟨b,b1,b2⟩:=hb hl
   refine ⟨b,hta' b b1,?_⟩
   rw [zU (Ne.symm hjs)]
   rcases b2 with ⟨e1,e2⟩|⟨e1,ru,e2,e3⟩
   ·exact .inl ⟨e1,e2.evo hev⟩
   ·exact .inr ⟨e1,ru,e2.later (hev.later hm.fs.lt),e3.evo hev⟩
  by_cases hja:j=ja
  ·
   subst hja
   rw [hoa] at ho;cases ho
   have hw:Region.wanted oa (yielded ops.toArray a.tmps)=true:=by simp [Region.wanted,hga]
   rw [if_pos hw]
   refine .inl ?_
   have hrun:(execOp a.eval oa).run P w=.ok (.value (.pointer (some ⟨w.heap.size,0,none⟩))) (w.alloc (.cells z.cells ty)):=by
    simp [execOp,hopa,Instr.alloc,zeroValue,typeInfo,hti,htz,newVar,newRow]
   unfold Oper.wp
   rw [hrun]
   simp only [Oper.upon]
   have hev:Evo K K w (w.alloc (.cells z.cells ty)):=⟨(Below.refl _ _).alloc (Nat.le_refl _) _,fun _ _ h=>h,fun _ _ h=>.inl h,fun b o h=>by have:=hm.fs.lt b o h;simp;omega⟩
   have hfs:=hm.fs.evo hev
   have hbeq:Nat.beq j j=true:=Nat.beq_refl j
   have hop:(ql j js t' n oa j).op=.move (.tmp n):=by unfold ql;rw [hbeq]
   have hds':(ql j js t' n oa j).dst=some ta:=by rw [zbs hne];exact hda
   have hgs':(ql j js t' n oa j).guard=none:=by rw [zcE];exact hga
   rw [hda]
   refine ih _ _ _ K ρ hcount (hm.next hB ho' hrj hds' hta hun hready' hfs (hev.later hm.fs.lt) (zbN a ho' hrj hop hgs' henv hfs _)) ?_
   intro _
   refine ⟨w.heap.size,by simp only [Act.put];rw [Array.getElem?_setIfInBounds_self_of_lt (by rw [hm.size];exact hta)],.inl ⟨?_,hm.fs.below.size,heap_alloc_new w _,fun o ho=>by have:=hm.fs.lt _ o ho;omega,fun k h hk hl hbk=>?_,hm.fs.pt.lt (Nat.le_refl _)⟩⟩
   ·rw [zU (Ne.symm hne)]
    cases hjs:listed.getD js true
    ·rfl
    ·have hos':ops'[js]?=some (ql j js t' n os js):=by rw [hget,hos];rfl
     have:=hft _ (hm.closed js _ hos' hjs j (by rw [hedges js os hos];exact hea))
     rw [hun] at this;cases this
   ·have:=((hm.fs.heap.ok k h hk).block_lt hl hbk).2
    omega
  by_cases hjs:j=js
  ·
   subst hjs
   rw [hos] at ho;cases ho
   have hw:Region.wanted os (yielded ops.toArray a.tmps)=true:=by simp [Region.wanted,hgs]
   rw [if_pos hw]
   refine .inl ?_
   have hlja:=hft _ (hready ja hea)
   obtain ⟨b,b1,b2⟩:=hb hlja
   have hblk:Blk g K ρ H w b ty z.cells:=by
    rcases b2 with ⟨_,h⟩|⟨h,_⟩
    ·exact h
    ·rw [hun] at h;cases h
   obtain ⟨u,u1,u2⟩:=hm.early hB hox hdx (hft _ (hready jx hex)) hv
   obtain ⟨s1,s2,s3,ru,hru,hcells⟩:=zdF hr (hzr K w ρ) u2 (row_one hm.fs) (zeP hm.fs (hzr K w ρ) hn)
   have hko:tb.k ty≠.oth:=by intro e;simp [Tab.known,e] at hk
   have hs:=run_sizeOf htb hko w
   have hst:=run_storeCells_at P b 0 ty u.cells.toList 0 z.cells w hblk.heap (by simp;omega) s2
   have ha1:a.eval (.tmp ta)=.pointer (some ⟨b,0,none⟩):=by simp [Act.eval,Array.getD_eq_getD_getElem?,b1]
   have ha2:a.eval (.tmp tx)=u:=by simp [Act.eval,Array.getD_eq_getD_getElem?,u1]
   have hrun:(execOp a.eval os).run P w=.ok .skip (w.setRow b ru.cells):=by
    simp only [Nat.add_zero,Array.length_toList,s1] at hst
    rw [←hcells,Array.toArray_toList] at hst
    simp [execOp,hops,ha1,ha2,Instr.storeAt,Instr.sureAddr,storeVar,hs,s1,hst]
   unfold Oper.wp
   rw [hrun]
   simp only [Oper.upon]
   obtain ⟨f1,f2,f3⟩:=hblk.set (arr':=ru.cells) hm.fs
   have hbeq:Nat.beq j j=true:=Nat.beq_refl j
   have hbne:Nat.beq j ja=false:=by cases h:Nat.beq j ja;rfl;exact absurd (Nat.eq_of_beq_eq_true h) hja
   have hop:(ql ja j t' n os j).op=.move (.tmp n):=by unfold ql;rw [hbne,hbeq]
   have hds':(ql ja j t' n os j).dst=some t':=by unfold ql;rw [hbne,hbeq]
   have hgs':(ql ja j t' n os j).guard=none:=by rw [zcE];exact hgs
   have hd':a.put os.dst undef=a:=by rw [hds];rfl
   rw [hd']
   refine ih _ _ _ K ρ hcount (hm.nop ho' hrj (fun u=>zbN a ho' hrj hop hgs' henv f1 u) hds' ht' hun hready' f1 f3) ?_
   intro _
   exact ⟨b,b1,.inr ⟨qh hjl,ru,hru.later f3,f2⟩⟩
  ·
   have hpure:ql ja js t' n o j=o:=zim hja hjs
   rw [hpure] at ho' hready'
   have hej:s.e[j]?=some (s.e[j]'(by rw [s.lene,hlen];exact hjlt)):=List.getElem?_eq_getElem _
   generalize s.e[j]'(by rw [s.lene,hlen];exact hjlt)=ej at hej
   obtain ⟨t,hd,ht,hor⟩:=s.ok j o rj ej ho' hrj hej
   have hreads:=hm.mid.reads hB ho' hej hun hready' hm.hl hm.he
   have htta:t≠ta:=by
    rintro rfl
    have hoa':ops'[ja]?=some (ql ja js t' n oa ja):=by rw [hget,hoa];rfl
    have hda':(ql ja js t' n oa ja).dst=some t:=by rw [zbs hne];exact hda
    exact (Yj hB hoa').2.2.1 j o ho' hja (by rw [hd,hda'])
   have hkeep:∀ v b,a.tmps[ta]?=some (.pointer (some ⟨b,0,none⟩))→(a.put (some t) v).tmps[ta]?=some (.pointer (some ⟨b,0,none⟩)):=by
    intro v b h
    simp only [Act.put];rw [Array.getElem?_setIfInBounds_ne htta];exact h
   have hwanted:∀ b,guardE ops' ej o=some b→Region.wanted o (yielded ops.toArray a.tmps)=b:=by
    intro b hgb
    unfold guardE Zf at hgb
    cases hg:o.guard with
    | none=>simp [hg] at hgb;subst hgb;simp [Region.wanted,hg]
    | some x =>
     obtain ⟨jj,want⟩:=x
     have hjj':=hng j o jj want ho hg
     simp only [hg] at hgb
     cases hjj:ops[jj]? with
     | none=>rw [hget,hjj] at hgb;simp at hgb
     | some o' =>
      have hS:ops'[jj]?=some (ql ja js t' n o' jj):=by rw [hget,hjj];rfl
      have hSd:(ql ja js t' n o' jj).dst=o'.dst:=zbs hjj'
      simp only [hS] at hgb
      cases hd':o'.dst with
      | none=>rw [hSd,hd'] at hgb;simp at hgb
      | some t2 =>
       rw [hSd,hd'] at hgb
       simp only at hgb
       have hmem:t2∈readsOf ops' o:=by simp [readsOf,Zf,hg,hS,hSd,hd']
       split at hgb
       ·rename_i bb hbb
        simp only [Option.some.injEq] at hgb;subst hgb
        obtain ⟨v,v1,v2⟩:=hreads t2 hmem _ hbb
        cases v2 with
        | pv _ _ hp=>cases hp;simp only [Region.wanted,hg,yielded,List.getElem?_toArray,hjj,Option.bind_some,hd',v1];cases bb <;> cases want <;> rfl
       ·rename_i vs hbb
        simp only [Option.some.injEq] at hgb;subst hgb
        obtain ⟨v,v1,v2⟩:=hreads t2 hmem _ hbb
        cases v2 with
        | pv _ _ hp=>cases hp;simp only [Region.wanted,hg,yielded,List.getElem?_toArray,hjj,Option.bind_some,hd',v1];cases want <;> rfl
       ·cases hgb
   rcases hor with ⟨hgt,hqs⟩|⟨hgf,rfl⟩
   ·rw [hwanted true hgt,if_pos rfl]
    refine .inl ?_
    unfold Oper.wp
    have hqr:=hqs.go K ρ a w hm.fs (fun x hx av hxv=>by
     cases x with
     | tmp t' =>
      obtain ⟨v,v1,v2⟩:=hreads t' (by
       unfold readsOf
       exact List.mem_append_left _ (YR (Array.mem_toList_iff.2 hx))) av hxv
      simpa [Act.eval,Array.getD_eq_getD_getElem?,v1] using v2
     | const v =>
      simp only [Env.val] at hxv
      split at hxv
      ·rename_i h1;simp only [Option.some.injEq] at hxv;subst hxv;exact .pv _ _ (.base v h1)
      ·cases hxv
     | func f =>
      simp only [Env.val,Option.some.injEq] at hxv;subst hxv
      exact .pv _ _ (.fn (.func f) [] [] [] [] rfl rfl (by simp) (by simp))
     | global gg =>
      simp only [Env.val,Option.some.injEq] at hxv;subst hxv
      exact .pv _ _ (.base _ rfl))
    generalize (execOp a.eval o).run P w=res at hqr
    cases res with
    | halt x w'=>simp only [zdu] at hqr
    | ok nx w' =>
     cases nx <;> simp only [zdu] at hqr <;> simp only [Oper.upon]
     case value v =>
      obtain ⟨K',hev,hv'⟩:=hqr
      rw [hd]
      exact ih _ _ _ K' ρ hcount (hm.next hB ho' hrj hd ht hun hready' (hm.fs.evo hev) (hev.later hm.fs.lt) hv') (hBI_set j rfl hjs _ _ _ (hkeep v) hev hja)
     case enter f args =>
      obtain ⟨rfl,hc'⟩:=hqr
      refine hc'.mono fun e w'' ⟨v,K',he',hev,hv'⟩=>?_
      subst he'
      rw [hd]
      exact ih _ _ _ K' ρ hcount (hm.next hB ho' hrj hd ht hun hready' (hm.fs.evo hev) (hev.later hm.fs.lt) hv') (hBI_set j rfl hjs _ _ _ (hkeep v) hev hja)
   ·rw [hwanted false hgf,if_neg (by simp)]
    rw [hd]
    exact ih _ _ _ K ρ hcount (hm.next hB ho' hrj hd ht hun hready' hm.fs (Later.refl _ _) VQ) (hBI_set j rfl hjs _ _ _ (hkeep undef) (.refl hm.fs.lt) hja)
def zo5 (js:Nat) (ops:List Oper):Bool:=ops.all fun o=>match o.guard with|some (jj,_)=>!Nat.beq jj js|none=>true
theorem zO {QQ:QC} {id:Nat} (i ja js t':Nat) {ta tx:Nat} (jx:Nat) {oa os ox:Oper} {ty:TypeId} {z:Value} {za:AV} (htb:qp P tb) (hm:P.follows .mixedOrders=true) (hB:ZW (Zq ja js t' n ops 0) (Zq ja js t' n ops 0)=true)
  (hoa:ops[ja]?=some oa) (hopa:oa.op=.alloc ty) (hda:oa.dst=some ta) (hta:Nat.blt ta n=true) (hga:oa.guard=none)
  (hos:ops[js]?=some os) (hops:os.op=.store ty (.tmp ta) (.tmp tx)) (hds:os.dst=none) (hgs:os.guard=none) (ht':Nat.blt t' n=true)
  (hne:Nat.beq ja js=false) (hea:yD os ja=true) (hex:yD os jx=true) (hox:(Zq ja js t' n ops 0)[jx]?=some ox) (hdx:ox.dst=some tx)
  (hng:zo5 js ops=true) (hz:tb.zero ty=some z) (hza:zcw z=some za) (hk:tb.known ty=true) (henv:env.get n=none) (hn:ze3 H za=true) (hi:H.get i=none)
  (h:AD P n g H (Zq ja js t' n ops 0) (fun env'=>∃ v r,env'.get tx=some v∧zcM tb H ty za 0 v=some r∧QQ .normal ((ta,.box i 0)::env') ((i,.cell r)::H)) (Zq ja js t' n ops 0) env) (hnd:Zj ops=true:=by kernel_rfl):AW P n g (.region id ops.toArray true) env H QQ:=by
 obtain ⟨s⟩:=VO h
 obtain ⟨v,r,hv,hr,hQ⟩:=s.fin
 have hlen:(Zq ja js t' n ops 0).length=ops.length:=XI ..
 refine ⟨fun a w hinv rr dd=>?_⟩
 refine wpIn_mono (WU (R:=fun a' w'=>∃ env' H',Inv n g env' H' a' w'∧QQ .normal env' H') hnd hm ?_) (fun e a' w' h=>by obtain ⟨rfl,h⟩:=h;exact h)
 obtain ⟨h1,h2,K,ρ,hf,he⟩:=hinv
 have hev:Evo K K w { w with drawn:=w.drawn + 1 }:=(Evo.refl hf.lt).drew
 refine zpS (za:=za) (v:=v) (r:=r) (ja:=ja) (js:=js) (t':=t') (jx:=jx) htb rfl hB s hoa hopa hda (Nat.le_of_ble_eq_true hta) hga hos hops hds hgs (Nat.le_of_ble_eq_true ht') (Nat.ne_of_beq_eq_false hne) hea hex hox hdx ?_ hz hza hk henv hv hr hn ?_ _ _ a _ K ρ ?_ ⟨h1,h2,by simp [hlen],?_,hf.evo hev,?_,?_⟩ ?_
 ·intro j o jj want ho hg
  have:=List.all_eq_true.1 hng o (List.mem_of_getElem? ho)
  simp only [hg,Bool.not_eq_true'] at this
  exact Nat.ne_of_beq_eq_false this
 ·intro a' w' K' ρ' b ru q1 q2 q3 q4 q5 q6 q7
  have hown:=q7.own q3 hi q6 rfl
  refine ⟨rfl,_,_,⟨q1,q2,K',fun j=>if j=i then .pointer (some ⟨b,0,none⟩) else ρ' j,hown,?_⟩,hQ⟩
  have he':=q4.keeps (Later.refl K' w') (qO (ρ:=ρ') hi (.cell r) (.pointer (some ⟨b,0,none⟩)))
  intro t av hg
  simp only [Env.get_cons] at hg
  split at hg
  ·rename_i e;subst e
   simp only [Option.some.injEq] at hg;subst hg
   exact ⟨_,q5,.box i 0 b (by simp [HEnv.get_cons]) (by simp)⟩
  ·exact he' t av hg
 ·simp
 ·intro i o ho hli
  have hlt:=(List.getElem?_eq_some_iff.1 ho).1
  have:i < ops.length:=by omega
  simp [Array.getD_eq_getD_getElem?,this] at hli
 ·intro i o ri t ho hli
  have hlt:=(List.getElem?_eq_some_iff.1 ho).1
  have:i < ops.length:=by omega
  simp [Array.getD_eq_getD_getElem?,this] at hli
 ·intro t av hav _
  obtain ⟨v,v1,v2⟩:=he t av hav
  exact ⟨v,v1,v2.later (hev.later hf.lt)⟩
 ·intro hl
  have hjal:ja < ops.length:=(List.getElem?_eq_some_iff.1 hoa).1
  simp [Array.getD_eq_getD_getElem?,hjal] at hl
end
end Go.Cg
namespace Go.Cg
open Go.Proofs
set_option maxHeartbeats 20000000
def fieldsOf (g:Img) (t:Int):List Int:=(nums g.fields.length).filter fun i=>there g t&&(g.fields.getD i.toNat default).owner==t
def methodsOf (g:Img) (t:Int):List Int:=(nums g.methods.length).filter fun i=>there g t&&(g.methods.getD i.toNat default).owner==t
theorem zd5 {n k:Nat} (h:k < (nums n).length):(nums n)[k]=(k:Int):=by simp [nums]
theorem zbS (g:Img) (t:Int) (hg:g.fields.length≤1000):ACall Tryz.prog 261 [zH g,pi t] (ints (fieldsOf g t)):=by
 refine zh zf Tryz.func261 rfl (by kernel_rfl) Tryz.ntmps261 (by simp) _ rfl (fun hw gB hgB=>?_)
 repeat' (first|refine sA ?_|refine sC (fun _=>?_) (fun _=>?_)|fail)
 refine qY (t:=5) 0 3 1 (by decide) rfl rfl ?_
 refine zJ (fun x:Nat × List Int=>[(1,.pv (pi t)),(2,.pv (.ptr (zH g) 0)),(5,.own 0),(6,.pv (pi x.1))]) (fun x=>[(0,.row 3 1 (x.2.map pi))])
  (fun x=>x.1≤g.fields.length∧x.2.length≤x.1∧x.2++((nums g.fields.length).drop x.1).filter (fun i=>there g t&&(g.fields.getD i.toNat default).owner==t)=fieldsOf g t) (fun x=>g.fields.length - x.1) (0,[]) ⟨by simp,by simp,rfl⟩ (tS) ⟨zT rfl zK,rfl⟩ ?_
 rintro ⟨k,out⟩ ⟨hk,hol,hr⟩
 simp only at hk hol hr
 by_cases hlt:k < g.fields.length
 ·have he:=yu (f:=ZK) hlt
  rw [drop_cons (by simpa [nums] using hlt),List.filter_cons,zd5,Int.toNat_natCast,zL hlt] at hr
  have c1:=YF g t
  cases hth:there g t
  ·rw [hth] at c1
   repeat' (first|(refine shC ?_;first|refine qC c1 ?_)|refine sK ?_|refine sC (fun _=>?_) (fun _=>?_)|fail)
   exact ⟨(k + 1,out),⟨by simp;omega,by simp;omega,by simpa [hth] using hr⟩,tD,tS,⟨qG rfl rfl zK,rfl⟩⟩
  ·rw [hth] at c1
   repeat' (first|(refine shC ?_;first|refine qC c1 ?_)|(refine shX ?_;first|refine qX he ?_)|(refine yH ?_;first|refine yU zf rfl rfl rfl rfl rfl rfl rfl (by show _ * 8≤_;simp;omega) (by simp;omega) rfl rfl ?_)|refine sK ?_|refine sC (fun _=>?_) (fun _=>?_)|fail)
   ·rename_i hx
    rw [hth,hx] at hr
    exact ⟨(k + 1,out++[(k:Int)]),⟨by simp;omega,by simp;omega,by simpa [hth] using hr⟩,tD,tS,⟨qG rfl (by simp) zK,rfl⟩⟩
   ·rename_i hx
    rw [hth,hx] at hr
    exact ⟨(k + 1,out),⟨by simp;omega,by simp;omega,by simpa [hth] using hr⟩,tD,tS,⟨qG rfl rfl zK,rfl⟩⟩
 ·rw [drop_end (by simp [nums];omega)] at hr
  repeat' (first|refine sK ?_|refine sC (fun _=>?_) (fun _=>?_)|fail)
  exact retq rfl (by rw [←hr];simp [zk,ints])
theorem Qh (g:Img) (t:Int) (hg:g.methods.length≤1000):ACall Tryz.prog 108 [zH g,pi t] (ints (methodsOf g t)):=by
 refine zh zf Tryz.func108 rfl (by kernel_rfl) Tryz.ntmps108 (by simp) _ rfl (fun hw gB hgB=>?_)
 repeat' (first|refine sA ?_|refine sC (fun _=>?_) (fun _=>?_)|fail)
 refine qY (t:=5) 0 3 1 (by decide) rfl rfl ?_
 refine zJ (fun x:Nat × List Int=>[(1,.pv (pi t)),(2,.pv (.ptr (zH g) 0)),(5,.own 0),(6,.pv (pi x.1))]) (fun x=>[(0,.row 3 1 (x.2.map pi))])
  (fun x=>x.1≤g.methods.length∧x.2.length≤x.1∧x.2++((nums g.methods.length).drop x.1).filter (fun i=>there g t&&(g.methods.getD i.toNat default).owner==t)=methodsOf g t) (fun x=>g.methods.length - x.1) (0,[]) ⟨by simp,by simp,rfl⟩ (tS) ⟨zT rfl zK,rfl⟩ ?_
 rintro ⟨k,out⟩ ⟨hk,hol,hr⟩
 simp only at hk hol hr
 by_cases hlt:k < g.methods.length
 ·have he:=yu (f:=yL) hlt
  rw [drop_cons (by simpa [nums] using hlt),List.filter_cons,zd5,Int.toNat_natCast,zL hlt] at hr
  have c1:=YF g t
  cases hth:there g t
  ·rw [hth] at c1
   repeat' (first|(refine shC ?_;first|refine qC c1 ?_)|refine sK ?_|refine sC (fun _=>?_) (fun _=>?_)|fail)
   exact ⟨(k + 1,out),⟨by simp;omega,by simp;omega,by simpa [hth] using hr⟩,tD,tS,⟨qG rfl rfl zK,rfl⟩⟩
  ·rw [hth] at c1
   repeat' (first|(refine shC ?_;first|refine qC c1 ?_)|(refine shX ?_;first|refine qX he ?_)|(refine yH ?_;first|refine yU zf rfl rfl rfl rfl rfl rfl rfl (by show _ * 8≤_;simp;omega) (by simp;omega) rfl rfl ?_)|refine sK ?_|refine sC (fun _=>?_) (fun _=>?_)|fail)
   ·rename_i hx
    rw [hth,hx] at hr
    exact ⟨(k + 1,out++[(k:Int)]),⟨by simp;omega,by simp;omega,by simpa [hth] using hr⟩,tD,tS,⟨qG rfl (by simp) zK,rfl⟩⟩
   ·rename_i hx
    rw [hth,hx] at hr
    exact ⟨(k + 1,out),⟨by simp;omega,by simp;omega,by simpa [hth] using hr⟩,tD,tS,⟨qG rfl rfl zK,rfl⟩⟩
 ·rw [drop_end (by simp [nums];omega)] at hr
  repeat' (first|refine sK ?_|refine sC (fun _=>?_) (fun _=>?_)|fail)
  exact retq rfl (by rw [←hr];simp [zk,ints])
def zaE (a b:Me):Bool:=decide (a.ret=b.ret)&&(a.flags.tmod 2==b.flags.tmod 2)&&decide (a.params=b.params)
theorem zeu (a b:Me):ACall Tryz.prog 215 [yL a,yL b] (pb (zaE a b)):=by
 refine zh zf Tryz.func215 rfl (by kernel_rfl) Tryz.ntmps215 (by simp) _ rfl (fun hw gB hgB=>?_)
 have hty:=QA a.ret b.ret
 repeat' (first|(refine shC ?_;first|refine qC (zah _ _) ?_)|refine sA ?_|refine sC (fun _=>?_) (fun _=>?_)|fail)
 all_goals refine retq rfl ?_
 all_goals (simp only [zk,zaE,←hty];clear hty;simp_all)
def zck (g:Img) (i:Int):Bool :=
 let f:=g.fields.getD i.toNat default
 !f.static&&f.ty.kind==6&&f.ty.dims==0&&zN g f.ty.index==1
def partsOf (g:Img) (t:Int):List Int:=((fieldsOf g t).filter (zck g)).map fun i=>(g.fields.getD i.toNat default).ty.index
theorem Zp {g:Img} {t i:Int} (h:i∈fieldsOf g t):0≤i∧i.toNat < g.fields.length:=by
 simp only [fieldsOf,nums,List.mem_filter,List.mem_map,List.mem_range] at h
 obtain ⟨⟨k,hk,rfl⟩,_⟩:=h
 exact ⟨by omega,by simpa using hk⟩
theorem qc {g:Img} {t i:Int} (h:i∈methodsOf g t):0≤i∧i.toNat < g.methods.length:=by
 simp only [methodsOf,nums,List.mem_filter,List.mem_map,List.mem_range] at h
 obtain ⟨⟨k,hk,rfl⟩,_⟩:=h
 exact ⟨by omega,by simpa using hk⟩
theorem zb3 {n:Nat} {p:Int→Bool}:((nums n).filter p).length≤n:=Nat.le_trans (List.length_filter_le _ _) (by simp [nums])
theorem YU (g:Img) (t:Int):(fieldsOf g t).length≤g.fields.length:=zb3
theorem Zn (g:Img) (t:Int):(methodsOf g t).length≤g.methods.length:=zb3
theorem qW {α:Type} {f:α→PV} {l:List α} {i:Int} (h:i.toNat < l.length):(l.map f)[i.toNat]?=some (f l[i.toNat]):=by simp [h]
theorem zfZ (g:Img) (t:Int) (hg:g.fields.length≤1000):ACall Tryz.prog 262 [zH g,pi t] (ints (partsOf g t)):=by
 refine zh zf Tryz.func262 rfl (by kernel_rfl) Tryz.ntmps262 (by simp) _ rfl (fun hw gB hgB=>?_)
 have hfl:=YU g t
 repeat' (first|(refine shC ?_;first|refine qC (zbS g t hg) ?_)|refine sA ?_|refine sC (fun _=>?_) (fun _=>?_)|fail)
 refine qY (t:=5) 0 3 1 (by decide) rfl rfl ?_
 refine zJ (fun x:Nat × List Int=>[(2,.pv (.ptr (zH g) 0)),(5,.own 0),(6,.pv (ints (fieldsOf g t))),(7,.pv (pi x.1))]) (fun x=>[(0,.row 3 1 (x.2.map pi))])
  (fun x=>x.1≤(fieldsOf g t).length∧x.2.length≤x.1∧x.2++(((fieldsOf g t).drop x.1).filter (zck g)).map (fun i=>(g.fields.getD i.toNat default).ty.index)=partsOf g t) (fun x=>(fieldsOf g t).length - x.1) (0,[]) ⟨by simp,by simp,rfl⟩ (tS) ⟨zT rfl zK,rfl⟩ ?_
 rintro ⟨k,out⟩ ⟨hk,hol,hr⟩
 simp only at hk hol hr
 by_cases hlt:k < (fieldsOf g t).length
 ·have he:=qB hlt
  obtain ⟨h0,hi⟩:=Zp (List.getElem_mem hlt)
  have hef:=qW (f:=ZK) hi
  rw [drop_cons hlt,List.filter_cons,zck] at hr
  simp only [zL hi] at hr
  repeat' (first|refine zO 1 8 9 0 7 zf (by kernel_rfl) (by kernel_rfl) rfl rfl rfl rfl rfl rfl rfl rfl rfl rfl rfl rfl rfl rfl rfl rfl rfl rfl rfl rfl rfl rfl ?_|refine yh rfl rfl ?_|refine ⟨_,_,rfl,rfl,?_⟩|(refine shC ?_;first|refine qC (qZ _ _) ?_)|(refine shX ?_;first|refine qX he ?_|refine zB rfl (zl zf rfl rfl rfl rfl rfl rfl h0 hef) rfl rfl ?_|refine AD.step _ _ _ _ _ rfl (zl zf rfl rfl rfl rfl rfl rfl h0 hef) rfl rfl ?_)|(refine yH ?_;first|refine yU zf rfl rfl rfl rfl rfl rfl rfl (by show _ * 8≤_;simp;omega) (by simp;omega) rfl rfl ?_)|refine sK ?_|refine sC (fun _=>?_) (fun _=>?_)|fail)
  ·rw [if_pos (by simp_all)] at hr
   exact ⟨(k + 1,out++[g.fields[(fieldsOf g t)[k].toNat].ty.index]),⟨by simp;omega,by simp;omega,by rw [List.map_cons,zL hi] at hr;simpa using hr⟩,tD,tS,⟨qG rfl (by simp) zK,rfl⟩⟩
  all_goals
   rw [if_neg (by simp_all)] at hr
   exact ⟨(k + 1,out),⟨by simp;omega,by simp;omega,by simpa using hr⟩,tD,tS,⟨qG rfl rfl zK,rfl⟩⟩
 ·rw [drop_end (by omega)] at hr
  repeat' (first|refine sK ?_|refine sC (fun _=>?_) (fun _=>?_)|fail)
  exact retq rfl (by rw [←hr];simp [zk,ints])
end Go.Cg
namespace Go.Cg
theorem Xn {α:Type} {P:Program} {tb:Tab} {g:Base} {H:HEnv} {env:Env} {o:Oper} {f:α→PV} {xs:List α} {t e:TypeId} {x:Operand} {lo hi:Option Operand} {sz:Nat} {full:Bool} (l h:Nat) (htb:qp P tb) (hop:o.op=.slice t x lo hi none) (hk:tb.k t=.sl e) (hke:tb.known e=true) (hsz:tb.size e=sz) (hx:env.pv H x=some (.slc sz (xs.map f) full))
  (hlo:zaY env H 0 lo=some (l:Int)) (hhi:zaY env H (xs.map f).length hi=some (h:Int)) (h1:l≤h) (h2:h≤xs.length):QStep P g H o env (.pv (.slc sz (((xs.take h).drop l).map f) false)):=by
 have:=zsy (g:=g) htb hop hk hke hsz hx hlo hhi (by omega) (by omega) (by simp;omega)
 simpa [List.map_take,List.map_drop] using this
theorem zde {P:Program} {tb:Tab} {g:Base} {H:HEnv} {env:Env} {o:Oper} {x:Int} (htb:qp P tb) (h:opE tb H env o=some (.pv (.base (.int .i64 (IntKind.i64.wrap x))))) (h1 : -9223372036854775808≤x) (h2:x≤9223372036854775807):QStep P g H o env (.pv (.base (.int .i64 x))):=by
 rw [wrap_in h1 h2] at h
 exact zc1 htb h
end Go.Cg
namespace Go.Cg
open Go.Proofs
set_option maxHeartbeats 20000000
def qP (td:TD):Bool :=
 if XV td.flags==2 then td.ext == -1&&yM td.flags 4&&!yM td.flags 1&&!yM td.flags 8&&!yM td.flags 16
 else if XV td.flags==1 then td.ext == -1&&yM td.flags 8&&!yM td.flags 4&&!yM td.flags 16
 else if XV td.flags==3 then td.ext == -1&&yM td.flags 8&&!yM td.flags 4&&((td.faces.length:Int)==0)
 else true
theorem zj9 (g:Img) (t:Int) (td:TD) (htd:typeAt g t=some td):ACall Tryz.prog 228 [zH g,pi t] (pb (qP td)):=by
 refine zh zf Tryz.func228 rfl (by kernel_rfl) Tryz.ntmps228 (by simp) _ rfl (fun hw gB hgB=>?_)
 obtain ⟨h0,he⟩:=qA htd
 have c1:=qZ g t
 rw [show zN g t=XV td.flags by rw [zN,htd]] at c1
 repeat' (first|(refine shC ?_;first|refine qC c1 ?_|refine qC (ziT _) ?_|refine qC (ziq _) ?_|refine qC (zoy _) ?_|refine qC (ze4 _) ?_|refine qC (zg1 _) ?_)|(refine shX ?_;first|refine zB rfl (zl zf rfl rfl rfl rfl rfl rfl h0 he) rfl rfl ?_|refine AD.step _ _ _ _ _ rfl (zl zf rfl rfl rfl rfl rfl rfl h0 he) rfl rfl ?_)|refine sA ?_|refine sC (fun _=>?_) (fun _=>?_)|fail)
 all_goals first|(refine retq rfl ?_;first|(simp only [zk,qP,BL,List.length_map] at *;simp only [*,BL,List.length_map];done)|(simp_all [zk,qP];done)|(simp_all [zk,qP];omega)|(simp_all [zk,qP];intros;omega))|(refine ZN rfl ?_;first|(simp only [zk,qP,BL,List.length_map] at *;simp only [*,BL,List.length_map];done)|(simp_all [zk,qP];done)|(simp_all [zk,qP];omega)|(simp_all [zk,qP];intros;omega))|skip
theorem zfs {g:Img}:∀ (n:Nat) (t:Int) (out:List Int),∃ r,zba g n t out=out++r
 | 0,t,out=>⟨[],by simp [zba]⟩
 | n + 1,t,out=>by
  rw [zba]
  cases ht:typeAt g t with
  | none=>exact ⟨[],by simp⟩
  | some td =>
   by_cases hm:t∈out
   ·exact ⟨[],by simp [hm]⟩
   ·obtain ⟨r,hr⟩:=zfs n td.ext (out++[t])
    exact ⟨t::r,by simp only [hm,if_false];rw [hr];simp⟩
theorem zec {g:Img} {t:Int} {td:TD} (h:typeAt g t=some td):∃ r,up g t=t::r:=by
 obtain ⟨r,hr⟩:=zfs (g:=g) g.types.length td.ext [t]
 exact ⟨r,by rw [up,zba,h];simpa using hr⟩
def Vg (g:Img) (t:Int):Int:=match typeAt g ((up g t).getLastD 0) with|some td=>td.ext|none => -1
def XB (g:Img) (t:Int):Int:=match typeAt g t with|some td=>td.flags|none=>0
def XU (g:Img) (t:Int) (td:TD):Bool:=!decide (0≤td.ext)||(zN g td.ext==0&&!yM (XB g td.ext) 8&&decide (Vg g t < 0))
def zbZ (g:Img) (l:List Int) (i:Nat):Bool:=zN g (l.getD i 0)==2&&!decide (l.getD i 0∈l.take i)
def QT (g:Img) (t:Int) (td:TD):Bool :=
 XU g t td&&(List.range td.faces.length).all (zbZ g td.faces)&&(zN g t != 2||!decide (t∈Zz g t))
theorem zms (g:Img) (t:Int) (td:TD) (htd:typeAt g t=some td) (hx:td.ext < g.types.length) (hg:g.types.length≤1000) (hfc:∀ td∈g.types,td.faces.length≤1000):ACall Tryz.prog 229 [zH g,pi t] (pb (QT g t td)):=by
 refine zh zf Tryz.func229 rfl (by kernel_rfl) Tryz.ntmps229 (by simp) _ rfl (fun hw gB hgB=>?_)
 obtain ⟨h0,he⟩:=qA htd
 have hfl:td.faces.length≤1000:=hfc td (by have:=htd;rw [typeAt,if_pos h0] at this;exact List.mem_of_getElem? this)
 have hui:=XY g t
 have hul:=Zu _ _ hui.1 hui.2
 obtain ⟨ur,hur⟩:=zec htd
 have hpos:0 < (up g t).length:=by rw [hur];simp
 refine Qo [(1,.pv (pi t)),(2,.pv (.ptr (zH g) 0))] [] ?_ ?_
 ·repeat' (first|refine sA ?_|refine sC (fun _=>?_) (fun _=>?_)|fail)
  all_goals (refine ⟨?_,tH⟩;repeat (first|exact yS|refine yG rfl ?_|(refine zed rfl ?_ ?_;· (first|(simp_all [XU];done)|(simp_all [XU];omega)))|(refine Zc rfl ?_ ?_;· (rw [wrap_in (by omega) (by omega)] <;> omega))))
 refine Qo [(1,.pv (pi t)),(2,.pv (.ptr (zH g) 0)),(5,.pv (pi td.ext))] [] ?_ ?_
 ·repeat' (first|(refine shX ?_;first|refine zB rfl (zl zf rfl rfl rfl rfl rfl rfl h0 he) rfl rfl ?_|refine AD.step _ _ _ _ _ rfl (zl zf rfl rfl rfl rfl rfl rfl h0 he) rfl rfl ?_)|refine sA ?_|refine sC (fun _=>?_) (fun _=>?_)|fail)
  all_goals (refine ⟨?_,tH⟩;repeat (first|exact yS|refine yG rfl ?_|(refine zed rfl ?_ ?_;· (first|(simp_all [XU];done)|(simp_all [XU];omega)))|(refine Zc rfl ?_ ?_;· (rw [wrap_in (by omega) (by omega)] <;> omega))))
 have hlast:(up g t)[(up g t).length - 1]?=some ((up g t).getLastD 0):=by
  rw [hur];simp [List.getLastD_eq_getLast?,List.getLast?_eq_getElem?]
 have hlt:(up g t).length - 1 < (up g t).length:=by omega
 obtain ⟨tl,htl⟩:=ZX (g:=g) (t:=(up g t).getLastD 0) (hui.2 _ (List.mem_of_getElem? hlast))
 obtain ⟨hl0,hel⟩:=qA htl
 have hw1:IntKind.i64.wrap (((up g t).map pi).length - 1:Int)=(((up g t).length - 1:Nat):Int):=by rw [List.length_map,wrap_in (by omega) (by omega)];omega
 have heU:((up g t).map pi)[(IntKind.i64.wrap (((up g t).map pi).length - 1:Int)).toNat]?=some (pi ((up g t).getLastD 0)):=by rw [hw1];simp [hlast]
 have htop:Vg g t=tl.ext:=by rw [Vg,htl]
 cases hxo:XU g t td
 ·have hpos:0≤td.ext:=by
   rw [XU] at hxo
   simp only [Bool.or_eq_false_iff,Bool.not_eq_false',decide_eq_true_eq] at hxo
   exact hxo.1
  obtain ⟨te,hte⟩:=ZX ⟨hpos,hx⟩
  obtain ⟨he0,hee⟩:=qA hte
  have hfa:XB g td.ext=te.flags:=by rw [XB,hte]
  rw [XU,hfa,htop] at hxo
  have hres:QT g t td=false:=by rw [QT,XU,hfa,htop,hxo];rfl
  simp only [decide_eq_true hpos,Bool.not_true,Bool.false_or] at hxo
  by_cases hk:zN g td.ext=0
  ·have c1:=qZ g td.ext
   rw [hk] at c1
   have c2:=ze4 te.flags
   cases hb:yM te.flags 8
   ·rw [hb] at c2
    have htx:¬ tl.ext < 0:=by simpa [hk,hb] using hxo
    repeat' (first|(refine shC ?_;first|refine qC c1 ?_|refine qC c2 ?_|refine qC (Xz g t hg) ?_)|(refine shX ?_;first|refine zB rfl (zl zf rfl rfl rfl rfl rfl rfl he0 hee) rfl rfl ?_|refine AD.step _ _ _ _ _ rfl (zl zf rfl rfl rfl rfl rfl rfl he0 hee) rfl rfl ?_|refine zB rfl (zl zf rfl rfl rfl rfl rfl rfl (by rw [hw1];omega) heU) rfl rfl ?_|refine AD.step _ _ _ _ _ rfl (zl zf rfl rfl rfl rfl rfl rfl (by rw [hw1];omega) heU) rfl rfl ?_|refine zB rfl (zl zf rfl rfl rfl rfl rfl rfl hl0 hel) rfl rfl ?_|refine AD.step _ _ _ _ _ rfl (zl zf rfl rfl rfl rfl rfl rfl hl0 hel) rfl rfl ?_)|refine sK ?_|refine sC (fun _=>?_) (fun _=>?_)|fail)
    all_goals exact retq rfl (by simp [zk,hres])
   ·rw [hb] at c2
    repeat' (first|(refine shC ?_;first|refine qC c1 ?_|refine qC c2 ?_)|(refine shX ?_;first|refine zB rfl (zl zf rfl rfl rfl rfl rfl rfl he0 hee) rfl rfl ?_|refine AD.step _ _ _ _ _ rfl (zl zf rfl rfl rfl rfl rfl rfl he0 hee) rfl rfl ?_)|refine sK ?_|refine sC (fun _=>?_) (fun _=>?_)|fail)
    all_goals exact retq rfl (by simp [zk,hres])
  ·have hkb:(zN g td.ext != 0)=true:=by simp [hk]
   repeat' (first|(refine shC ?_;first|refine qC (qZ _ _) ?_)|refine sK ?_|refine sC (fun _=>?_) (fun _=>?_)|fail)
   all_goals exact retq rfl (by simp [zk,hres])
 ·refine Qo [(1,.pv (pi t)),(2,.pv (.ptr (zH g) 0))] [] ?_ ?_
  ·by_cases hpos:0≤td.ext
   ·obtain ⟨te,hte⟩:=ZX ⟨hpos,hx⟩
    obtain ⟨he0,hee⟩:=qA hte
    have hfa:XB g td.ext=te.flags:=by rw [XB,hte]
    rw [XU,hfa,htop] at hxo
    simp only [decide_eq_true hpos,Bool.not_true,Bool.false_or,Bool.and_eq_true,beq_iff_eq,Bool.not_eq_true',decide_eq_true_eq] at hxo
    have c1:=qZ g td.ext
    rw [hxo.1.1] at c1
    have c2:=ze4 te.flags
    rw [hxo.1.2] at c2
    have htx:=hxo.2
    repeat' (first|(refine shC ?_;first|refine qC c1 ?_|refine qC c2 ?_|refine qC (Xz g t hg) ?_)|(refine shX ?_;first|refine zB rfl (zl zf rfl rfl rfl rfl rfl rfl he0 hee) rfl rfl ?_|refine AD.step _ _ _ _ _ rfl (zl zf rfl rfl rfl rfl rfl rfl he0 hee) rfl rfl ?_|refine zB rfl (zl zf rfl rfl rfl rfl rfl rfl (by rw [hw1];omega) heU) rfl rfl ?_|refine AD.step _ _ _ _ _ rfl (zl zf rfl rfl rfl rfl rfl rfl (by rw [hw1];omega) heU) rfl rfl ?_|refine zB rfl (zl zf rfl rfl rfl rfl rfl rfl hl0 hel) rfl rfl ?_|refine AD.step _ _ _ _ _ rfl (zl zf rfl rfl rfl rfl rfl rfl hl0 hel) rfl rfl ?_)|refine sK ?_|refine sC (fun _=>?_) (fun _=>?_)|fail)
    all_goals (refine ⟨?_,tH⟩;repeat (first|exact yS|refine yG rfl ?_|(refine zed rfl ?_ ?_;· (first|(simp_all [XU];done)|(simp_all [XU];omega)))|(refine Zc rfl ?_ ?_;· (rw [wrap_in (by omega) (by omega)] <;> omega))))
   ·repeat' (first|refine sK ?_|refine sC (fun _=>?_) (fun _=>?_)|fail)
    all_goals (refine ⟨?_,tH⟩;repeat (first|exact yS|refine yG rfl ?_|(refine zed rfl ?_ ?_;· (first|(simp_all [XU];done)|(simp_all [XU];omega)))|(refine Zc rfl ?_ ?_;· (rw [wrap_in (by omega) (by omega)] <;> omega))))
  repeat' (first|(refine shX ?_;first|refine zB rfl (zl zf rfl rfl rfl rfl rfl rfl h0 he) rfl rfl ?_|refine AD.step _ _ _ _ _ rfl (zl zf rfl rfl rfl rfl rfl rfl h0 he) rfl rfl ?_)|refine sA ?_|refine sC (fun _=>?_) (fun _=>?_)|fail)
  refine zJ (fun k:Nat=>[(1,.pv (pi t)),(2,.pv (.ptr (zH g) 0)),(7,.pv (ints td.faces)),(8,.pv (pi k))]) (fun _=>[]) (fun k=>k≤td.faces.length∧QT g t td=(((List.range td.faces.length).drop k).all (zbZ g td.faces)&&(zN g t != 2||!decide (t∈Zz g t)))) (fun k=>td.faces.length - k) 0 ⟨by simp,by simp [QT,hxo]⟩ (tS) tH ?_
  rintro k ⟨hk,hr⟩
  by_cases hlt:k < td.faces.length
  ·have hef:=qB hlt
   rw [qF hlt,zbZ,zL hlt] at hr
   repeat' (first|refine AD.step _ _ _ _ _ rfl (Xn (xs:=td.faces) (f:=pi) 0 k zf rfl rfl rfl rfl rfl rfl rfl (by omega) (by omega)) rfl rfl ?_|(refine shC ?_;first|refine qC (qZ _ _) ?_|refine qC (Qu (td.faces.take k) _) ?_)|(refine shX ?_;first|refine qX hef ?_)|refine sK ?_|refine sC (fun _=>?_) (fun _=>?_)|fail)
   all_goals first|(refine retq rfl ?_;first|(simp only [zk,BL,List.length_map] at *;simp only [*,BL,List.length_map];done)|(simp_all [zk];done)|(simp_all [zk];omega)|(simp_all [zk];intros;omega))|(refine ⟨k + 1,⟨by omega,?_⟩,tD,tS,tH⟩;first|(simp only [BL,List.length_map] at *;simp only [*,BL,List.length_map];done)|(simp_all [];done)|(simp_all [];omega)|(simp_all [];intros;omega))|(trace "LEND";trace_state)
  ·rw [drop_end (by simp;omega)] at hr
   repeat' (first|(refine shC ?_;first|refine qC (qZ _ _) ?_|refine qC (zaF g t hg hfc) ?_|refine qC (Qu _ _) ?_)|refine sK ?_|refine sC (fun _=>?_) (fun _=>?_)|fail)
   all_goals first|(refine retq rfl ?_;first|(simp only [zk,BL,List.length_map] at *;simp only [*,BL,List.length_map];done)|(simp_all [zk];done)|(simp_all [zk];omega)|(simp_all [zk];intros;omega))|(refine ZN rfl ?_;first|(simp only [zk,BL,List.length_map] at *;simp only [*,BL,List.length_map];done)|(simp_all [zk];done)|(simp_all [zk];omega)|(simp_all [zk];intros;omega))|skip
def VL (g:Img) (t:Int) (td:TD) (i:Nat):Bool:=!((i:Int) != t&&(g.types.getD i default).name.toList==td.name.toList)
def fName (g:Img) (i:Int):ByteArray:=(g.fields.getD i.toNat default).name
def VW (g:Img) (l:List Int) (i k:Nat):Bool:=!((fName g (l.getD i 0)).toList==(fName g (l.getD k 0)).toList)
def YT (g:Img) (l:List Int) (i k:Nat):Bool :=
 !((g.methods.getD (l.getD i 0).toNat default).name.toList==(g.methods.getD (l.getD k 0).toNat default).name.toList&&zaE (g.methods.getD (l.getD i 0).toNat default) (g.methods.getD (l.getD k 0).toNat default))
def zaZ (g:Img) (t:Int) (td:TD):Bool :=
 (List.range g.types.length).all (VL g t td)
 && (List.range (fieldsOf g t).length).all (fun i=>(List.range i).all (VW g (fieldsOf g t) i))
 && (List.range (methodsOf g t).length).all (fun i=>(List.range i).all (YT g (methodsOf g t) i))
set_option maxHeartbeats 1000000 in
theorem zmO (g:Img) (t:Int) (td:TD) (htd:typeAt g t=some td) (hg:g.types.length≤1000) (hgf:g.fields.length≤1000) (hgm:g.methods.length≤1000):ACall Tryz.prog 230 [zH g,pi t] (pb (zaZ g t td)):=by
 refine zh zf Tryz.func230 rfl (by kernel_rfl) Tryz.ntmps230 (by simp) _ rfl (fun hw gB hgB=>?_)
 obtain ⟨h0,heT⟩:=qA htd
 have hfl:=YU g t
 have hml:=Zn g t
 repeat' (first|refine sA ?_|refine sC (fun _=>?_) (fun _=>?_)|fail)
 refine zJ (fun k:Nat=>[(1,.pv (pi t)),(2,.pv (.ptr (zH g) 0)),(5,.pv (pi k))]) (fun _=>[]) (fun k=>k≤g.types.length∧zaZ g t td=(((List.range g.types.length).drop k).all (VL g t td)&&(List.range (fieldsOf g t).length).all (fun i=>(List.range i).all (VW g (fieldsOf g t) i))&&(List.range (methodsOf g t).length).all (fun i=>(List.range i).all (YT g (methodsOf g t) i)))) (fun k=>g.types.length - k) 0 ⟨by simp,rfl⟩ (tS) tH ?_
 rintro k ⟨hk,hr⟩
 by_cases hlt:k < g.types.length
 ·have he:=yu (f:=ZA) hlt
  rw [qF hlt,VL,zL hlt] at hr
  repeat' (first|(refine shX ?_;first|refine qX he ?_|refine zB rfl (zl zf rfl rfl rfl rfl rfl rfl h0 heT) rfl rfl ?_|refine AD.step _ _ _ _ _ rfl (zl zf rfl rfl rfl rfl rfl rfl h0 heT) rfl rfl ?_)|refine sK ?_|refine sC (fun _=>?_) (fun _=>?_)|fail)
  all_goals first|(refine retq rfl ?_;first|(simp only [zk,BL,List.length_map] at *;simp only [*,BL,List.length_map];done)|(simp_all [zk];done)|(simp_all [zk];omega)|(simp_all [zk];intros;omega))|(refine ⟨k + 1,⟨by omega,?_⟩,tD,tS,tH⟩;first|(simp only [BL,List.length_map] at *;simp only [*,BL,List.length_map];done)|(simp_all [];done)|(simp_all [];omega)|(simp_all [];intros;omega))|(trace "LEND";trace_state)
 ·rw [drop_end (by simp;omega)] at hr
  repeat' (first|(refine shC ?_;first|refine qC (zbS g t hgf) ?_)|refine sK ?_|refine sC (fun _=>?_) (fun _=>?_)|fail)
  refine zJ (fun k:Nat=>[(1,.pv (pi t)),(2,.pv (.ptr (zH g) 0)),(6,.pv (ints (fieldsOf g t))),(7,.pv (pi k))]) (fun _=>[]) (fun k=>k≤(fieldsOf g t).length∧zaZ g t td=(((List.range (fieldsOf g t).length).drop k).all (fun i=>(List.range i).all (VW g (fieldsOf g t) i))&&(List.range (methodsOf g t).length).all (fun i=>(List.range i).all (YT g (methodsOf g t) i)))) (fun k=>(fieldsOf g t).length - k) 0 ⟨by simp,by simp_all⟩ (tS) tH ?_
  clear hk hr hlt
  rintro k ⟨hk,hr⟩
  by_cases hlt:k < (fieldsOf g t).length
  ·have he:=qB hlt
   obtain ⟨hi0,hi⟩:=Zp (List.getElem_mem hlt)
   have hef:=qW (f:=ZK) hi
   rw [qF hlt] at hr
   repeat' (first|refine sK ?_|refine sC (fun _=>?_) (fun _=>?_)|fail)
   refine zJ (fun m:Nat=>[(1,.pv (pi t)),(2,.pv (.ptr (zH g) 0)),(6,.pv (ints (fieldsOf g t))),(7,.pv (pi k)),(8,.pv (pi m))]) (fun _=>[]) (fun m=>m≤k∧zaZ g t td=(((List.range k).drop m).all (VW g (fieldsOf g t) k)&&((List.range (fieldsOf g t).length).drop (k + 1)).all (fun i=>(List.range i).all (VW g (fieldsOf g t) i))&&(List.range (methodsOf g t).length).all (fun i=>(List.range i).all (YT g (methodsOf g t) i)))) (fun m=>k - m) 0 ⟨by simp,by rw [hr];rfl⟩ (tS) tH ?_
   clear hr
   rintro m ⟨hm,hr⟩
   by_cases hltm:m < k
   ·have hlm:m < (fieldsOf g t).length:=by omega
    have hem:=qB hlm
    obtain ⟨hj0,hj⟩:=Zp (List.getElem_mem hlm)
    have hefm:=qW (f:=ZK) hj
    rw [qF hltm,VW,fName,fName,zL hlt,zL hlm,zL hi,zL hj] at hr
    repeat' (first|(refine shX ?_;first|refine qX he ?_|refine zB rfl (zl zf rfl rfl rfl rfl rfl rfl hi0 hef) rfl rfl ?_|refine AD.step _ _ _ _ _ rfl (zl zf rfl rfl rfl rfl rfl rfl hi0 hef) rfl rfl ?_|refine qX hem ?_|refine zB rfl (zl zf rfl rfl rfl rfl rfl rfl hj0 hefm) rfl rfl ?_|refine AD.step _ _ _ _ _ rfl (zl zf rfl rfl rfl rfl rfl rfl hj0 hefm) rfl rfl ?_)|refine sK ?_|refine sC (fun _=>?_) (fun _=>?_)|fail)
    all_goals first|(refine retq rfl ?_;first|(simp only [zk,BL,List.length_map] at *;simp only [*,BL,List.length_map];done)|(simp_all [zk];done)|(simp_all [zk];omega)|(simp_all [zk];intros;omega))|(refine ⟨m + 1,⟨by omega,?_⟩,tD,tS,tH⟩;first|(simp only [BL,List.length_map] at *;simp only [*,BL,List.length_map];done)|(simp_all [];done)|(simp_all [];omega)|(simp_all [];intros;omega))|(trace "LEND";trace_state)
   ·rw [drop_end (by simp;omega)] at hr
    repeat' (first|refine sK ?_|refine sC (fun _=>?_) (fun _=>?_)|fail)
    all_goals first|(refine retq rfl ?_;first|(simp only [zk,BL,List.length_map] at *;simp only [*,BL,List.length_map];done)|(simp_all [zk];done)|(simp_all [zk];omega)|(simp_all [zk];intros;omega))|(refine ⟨k + 1,⟨by omega,?_⟩,tD,tS,tH⟩;first|(simp only [BL,List.length_map] at *;simp only [*,BL,List.length_map];done)|(simp_all [];done)|(simp_all [];omega)|(simp_all [];intros;omega))|(trace "LEND";trace_state)
  ·rw [drop_end (by simp;omega)] at hr
   repeat' (first|(refine shC ?_;first|refine qC (Qh g t hgm) ?_)|refine sK ?_|refine sC (fun _=>?_) (fun _=>?_)|fail)
   refine zJ (fun k:Nat=>[(1,.pv (pi t)),(2,.pv (.ptr (zH g) 0)),(9,.pv (ints (methodsOf g t))),(10,.pv (pi k))]) (fun _=>[]) (fun k=>k≤(methodsOf g t).length∧zaZ g t td=(((List.range (methodsOf g t).length).drop k).all (fun i=>(List.range i).all (YT g (methodsOf g t) i)))) (fun k=>(methodsOf g t).length - k) 0 ⟨by simp,by simp_all⟩ (tS) tH ?_
   clear hk hr hlt
   rintro k ⟨hk,hr⟩
   by_cases hlt:k < (methodsOf g t).length
   ·have he:=qB hlt
    obtain ⟨hi0,hi⟩:=qc (List.getElem_mem hlt)
    have hef:=qW (f:=yL) hi
    rw [qF hlt] at hr
    repeat' (first|refine sK ?_|refine sC (fun _=>?_) (fun _=>?_)|fail)
    refine zJ (fun m:Nat=>[(1,.pv (pi t)),(2,.pv (.ptr (zH g) 0)),(9,.pv (ints (methodsOf g t))),(10,.pv (pi k)),(11,.pv (pi m))]) (fun _=>[]) (fun m=>m≤k∧zaZ g t td=(((List.range k).drop m).all (YT g (methodsOf g t) k)&&((List.range (methodsOf g t).length).drop (k + 1)).all (fun i=>(List.range i).all (YT g (methodsOf g t) i)))) (fun m=>k - m) 0 ⟨by simp,by rw [hr];rfl⟩ (tS) tH ?_
    clear hr
    rintro m ⟨hm,hr⟩
    by_cases hltm:m < k
    ·have hlm:m < (methodsOf g t).length:=by omega
     have hem:=qB hlm
     obtain ⟨hj0,hj⟩:=qc (List.getElem_mem hlm)
     have hefm:=qW (f:=yL) hj
     rw [qF hltm,YT,zL hlt,zL hlm,zL hi,zL hj] at hr
     repeat' (first|(refine shC ?_;first|refine qC (zeu _ _) ?_)|(refine shX ?_;first|refine qX he ?_|refine zB rfl (zl zf rfl rfl rfl rfl rfl rfl hi0 hef) rfl rfl ?_|refine AD.step _ _ _ _ _ rfl (zl zf rfl rfl rfl rfl rfl rfl hi0 hef) rfl rfl ?_|refine qX hem ?_|refine zB rfl (zl zf rfl rfl rfl rfl rfl rfl hj0 hefm) rfl rfl ?_|refine AD.step _ _ _ _ _ rfl (zl zf rfl rfl rfl rfl rfl rfl hj0 hefm) rfl rfl ?_)|refine sK ?_|refine sC (fun _=>?_) (fun _=>?_)|fail)
     all_goals first|(refine retq rfl ?_;first|(simp only [zk,BL,List.length_map] at *;simp only [*,BL,List.length_map];done)|(simp_all [zk];done)|(simp_all [zk];omega)|(simp_all [zk];intros;omega))|(refine ⟨m + 1,⟨by omega,?_⟩,tD,tS,tH⟩;first|(simp only [BL,List.length_map] at *;simp only [*,BL,List.length_map];done)|(simp_all [];done)|(simp_all [];omega)|(simp_all [];intros;omega))|(trace "LEND";trace_state)
    ·rw [drop_end (by simp;omega)] at hr
     repeat' (first|refine sK ?_|refine sC (fun _=>?_) (fun _=>?_)|fail)
     all_goals first|(refine retq rfl ?_;first|(simp only [zk,BL,List.length_map] at *;simp only [*,BL,List.length_map];done)|(simp_all [zk];done)|(simp_all [zk];omega)|(simp_all [zk];intros;omega))|(refine ⟨k + 1,⟨by omega,?_⟩,tD,tS,tH⟩;first|(simp only [BL,List.length_map] at *;simp only [*,BL,List.length_map];done)|(simp_all [];done)|(simp_all [];omega)|(simp_all [];intros;omega))|(trace "LEND";trace_state)
   ·rw [drop_end (by simp;omega)] at hr
    repeat' (first|refine sK ?_|refine sC (fun _=>?_) (fun _=>?_)|fail)
    all_goals first|(refine retq rfl ?_;first|(simp only [zk,BL,List.length_map] at *;simp only [*,BL,List.length_map];done)|(simp_all [zk];done)|(simp_all [zk];omega)|(simp_all [zk];intros;omega))|(refine ZN rfl ?_;first|(simp only [zk,BL,List.length_map] at *;simp only [*,BL,List.length_map];done)|(simp_all [zk];done)|(simp_all [zk];omega)|(simp_all [zk];intros;omega))|skip
set_option maxHeartbeats 20000000
def zeS (g:Img) (k:Int) (i:Int):Bool:=!(k==3||(k==2&&!(g.fields.getD i.toNat default).static))
def Yi (met:List Int) (x:Int):List Int:=if x∈met then met else met++[x]
def zgO (g:Img) (met:List Int) (u:Int):List Int:=(partsOf g u).foldl Yi met
def zbX (g:Img):Nat→Nat→List Int→List Int
 | 0,_,met=>met
 | n + 1,i,met=>match met[i]? with|some u=>zbX g n (i + 1) (zgO g met u)|none=>met
def zmh (g:Img) (t:Int):List Int:=zbX g (g.fields.length + g.types.length + 1) 0 (partsOf g t)
def zbv (g:Img) (t:Int):Bool:=(fieldsOf g t).all (zeS g (zN g t))&&(zN g t != 1||!decide (t∈zmh g t))
def PInv (g:Img) (t:Int) (met:List Int):Prop:=∃ a,met=partsOf g t++a∧a.Nodup∧∀ y∈a,0≤y∧y < g.types.length
theorem zaK (g:Img) (t:Int):(partsOf g t).length≤g.fields.length:=by
 rw [partsOf,List.length_map]
 exact Nat.le_trans (List.length_filter_le _ _) (YU g t)
theorem PInv.len {g:Img} {t:Int} {met:List Int} (h:PInv g t met):met.length≤g.fields.length + g.types.length:=by
 obtain ⟨a,rfl,h1,h2⟩:=h
 have:=Zu _ _ h1 h2
 have:=zaK g t
 simp;omega
theorem Qk {g:Img} {t x:Int} (h:x∈partsOf g t):0≤x∧x < g.types.length:=by
 simp only [partsOf,List.mem_map,List.mem_filter,zck,Bool.and_eq_true,beq_iff_eq] at h
 obtain ⟨i,⟨_,_,hk⟩,rfl⟩:=h
 rw [zN] at hk
 cases ht:typeAt g (g.fields.getD i.toNat default).ty.index with
 | none=>rw [ht] at hk;simp at hk
 | some td=>exact Wh ht
theorem PInv.add {g:Img} {t:Int} {met:List Int} {x:Int} (h:PInv g t met) (hx:0≤x∧x < g.types.length):PInv g t (Yi met x):=by
 unfold Yi
 split
 ·exact h
 ·rename_i hn
  obtain ⟨a,rfl,h1,h2⟩:=h
  refine ⟨a++[x],by simp,?_,?_⟩
  ·rw [List.nodup_append];simp [h1];intro b hb e;subst e;exact hn (by simp [hb])
  ·intro y hy
   simp only [List.mem_append,List.mem_singleton] at hy
   rcases hy with hy|rfl
   ·exact h2 y hy
   ·exact hx
theorem zrL {met:List Int} {f:Int} {i:Nat} (h:i < met.length):i < (Yi met f).length:=by
 unfold Yi;split
 ·exact h
 ·simp;omega
theorem zny (g:Img) (t:Int) (hg:g.types.length≤1000) (hgf:g.fields.length≤1000):ACall Tryz.prog 231 [zH g,pi t] (pb (zbv g t)):=by
 refine zh zf Tryz.func231 rfl (by kernel_rfl) Tryz.ntmps231 (by simp) _ rfl (fun hw gB hgB=>?_)
 have hfl:=YU g t
 have hpl:=zaK g t
 repeat' (first|(refine shC ?_;first|refine qC (qZ _ _) ?_|refine qC (zbS g t hgf) ?_)|refine sA ?_|refine sC (fun _=>?_) (fun _=>?_)|fail)
 refine zJ (fun k:Nat=>[(1,.pv (pi t)),(2,.pv (.ptr (zH g) 0)),(5,.pv (pi (zN g t))),(6,.pv (ints (fieldsOf g t))),(7,.pv (pi k))]) (fun _=>[]) (fun k=>k≤(fieldsOf g t).length∧zbv g t=(((fieldsOf g t).drop k).all (zeS g (zN g t))&&(zN g t != 1||!decide (t∈zmh g t)))) (fun k=>(fieldsOf g t).length - k) 0 ⟨by simp,rfl⟩ (tS) tH ?_
 rintro k ⟨hk,hr⟩
 by_cases hlt:k < (fieldsOf g t).length
 ·have he:=qB hlt
  obtain ⟨hi0,hi⟩:=Zp (List.getElem_mem hlt)
  have hef:=qW (f:=ZK) hi
  rw [Yl hlt,zeS,zL hi] at hr
  repeat' (first|(refine shX ?_;first|refine qX he ?_|refine zB rfl (zl zf rfl rfl rfl rfl rfl rfl hi0 hef) rfl rfl ?_|refine AD.step _ _ _ _ _ rfl (zl zf rfl rfl rfl rfl rfl rfl hi0 hef) rfl rfl ?_)|refine sK ?_|refine sC (fun _=>?_) (fun _=>?_)|fail)
  all_goals first|(refine retq rfl ?_;first|(simp only [zk,BL,List.length_map] at *;simp only [*,BL,List.length_map];done)|(simp_all [zk];done)|(simp_all [zk];omega)|(simp_all [zk];intros;omega))|(refine ⟨k + 1,⟨by omega,?_⟩,tD,tS,tH⟩;first|(simp only [BL,List.length_map] at *;simp only [*,BL,List.length_map];done)|(simp_all [];done)|(simp_all [];omega)|(simp_all [];intros;omega))|(trace "LEND";trace_state)
 ·rw [drop_end (by omega)] at hr
  by_cases hk1:zN g t=1
  ·have hkb:(zN g t != 1)=false:=by simp [hk1]
   rw [hkb] at hr
   simp only [List.all_nil,Bool.true_and,Bool.false_or] at hr
   repeat' (first|refine qY (t:=8) 0 3 1 (by decide) rfl rfl ?_|(refine shC ?_;first|refine qC (zfZ g t hgf) ?_)|(refine yH ?_;first|refine yU zf rfl rfl rfl rfl rfl rfl rfl (by show _ * 8≤_;simp;omega) (by simp;omega) rfl rfl ?_)|refine sK ?_|refine sC (fun _=>?_) (fun _=>?_)|fail)
   refine zJ (fun x:Nat × List Int=>[(1,.pv (pi t)),(2,.pv (.ptr (zH g) 0)),(8,.own 0),(9,.pv (pi x.1))]) (fun x=>[(0,.row 3 1 (x.2.map pi))])
    (fun x=>x.1≤x.2.length∧PInv g t x.2∧zbX g (g.fields.length + g.types.length + 1 - x.1) x.1 x.2=zmh g t) (fun x=>g.fields.length + g.types.length + 1 - x.1) (0,partsOf g t) ⟨by simp,⟨[],by simp⟩,rfl⟩ (tS) ⟨qG rfl (by simp) zK,rfl⟩ ?_
   have hr0:=hr
   clear hr hlt hk
   rintro ⟨i,met⟩ ⟨hi,hmi,hr⟩
   simp only at hi hmi hr
   have hml:=hmi.len
   rw [show g.fields.length + g.types.length + 1 - i=(g.fields.length + g.types.length - i) + 1 by omega,zbX] at hr
   by_cases hlt:i < met.length
   ·have heU:=qB hlt
    rw [List.getElem?_eq_getElem hlt] at hr
    simp only at hr
    have hpl2:=zaK g met[i]
    repeat' (first|(refine shC ?_;first|refine qC (zfZ g met[i] hgf) ?_)|(refine shX ?_;first|refine qX heU ?_)|refine sK ?_|refine sC (fun _=>?_) (fun _=>?_)|fail)
    refine zJ (fun x:Nat × List Int=>[(1,.pv (pi t)),(2,.pv (.ptr (zH g) 0)),(8,.own 0),(9,.pv (pi i)),(10,.pv (ints (partsOf g met[i]))),(11,.pv (pi x.1))]) (fun x=>[(0,.row 3 1 (x.2.map pi))])
     (fun x=>x.1≤(partsOf g met[i]).length∧PInv g t x.2∧((partsOf g met[i]).drop x.1).foldl Yi x.2=zgO g met met[i]∧i < x.2.length) (fun x=>(partsOf g met[i]).length - x.1) (0,met) ⟨by simp,hmi,rfl,hlt⟩ (tS) ⟨zT rfl zK,rfl⟩ ?_
    rintro ⟨k,met'⟩ ⟨hk,hmi',hr',hli'⟩
    simp only at hk hmi' hr' hli'
    by_cases hltk:k < (partsOf g met[i]).length
    ·have heF:=qB hltk
     rw [Xl hltk] at hr'
     have hml:=hmi'.len
     repeat' (first|(refine shC ?_;first|refine qC (Qu _ _) ?_)|(refine shX ?_;first|refine qX heF ?_)|(refine yH ?_;first|refine yU zf rfl rfl rfl rfl rfl rfl rfl (by show _ * 8≤_;simp;omega) (by simp;omega) rfl rfl ?_)|refine sK ?_|refine sC (fun _=>?_) (fun _=>?_)|fail)
     all_goals refine ⟨(k + 1,Yi met' (partsOf g met[i])[k]),⟨hltk,hmi'.add (Qk (List.getElem_mem hltk)),hr',zrL hli'⟩,tD,tS,⟨qG rfl ?_ zK,rfl⟩⟩
     all_goals simp_all [Yi]
    ·rw [drop_end (by omega)] at hr'
     repeat' (first|refine sK ?_|refine sC (fun _=>?_) (fun _=>?_)|fail)
     refine ⟨(i + 1,met'),⟨hli',hmi',?_⟩,tD,tS,⟨qG rfl rfl zK,rfl⟩⟩
     simp only
     rw [show g.fields.length + g.types.length + 1 - (i + 1)=g.fields.length + g.types.length - i by omega,←hr,←hr'];rfl
   ·rw [List.getElem?_eq_none (by omega)] at hr
    obtain rfl:met=zmh g t:=hr
    repeat' (first|(refine shC ?_;first|refine qC (Qu _ _) ?_)|refine sK ?_|refine sC (fun _=>?_) (fun _=>?_)|fail)
    exact retq rfl (by rw [hr0];rfl)
  ·have hkb:(zN g t != 1)=true:=by simp [hk1]
   rw [hkb] at hr
   repeat' (first|refine sK ?_|refine sC (fun _=>?_) (fun _=>?_)|fail)
   all_goals first|(refine retq rfl ?_;first|(simp only [zk,BL,List.length_map] at *;simp only [*,BL,List.length_map];done)|(simp_all [zk];done)|(simp_all [zk];omega)|(simp_all [zk];intros;omega))|(refine ZN rfl ?_;first|(simp only [zk,BL,List.length_map] at *;simp only [*,BL,List.length_map];done)|(simp_all [zk];done)|(simp_all [zk];omega)|(simp_all [zk];intros;omega))|skip
def Zk (g:Img) (t:Nat):Int :=
 let td:=g.types.getD t default
 if !qP td||!QT g t td then 7 else if !zaZ g t td then 18 else if !zbv g t then 20 else 0
def Xm (g:Img):Int × Int :=
 if !yg g then (0,17) else match (List.range g.types.length).find? (fun t=>Zk g t != 0) with
  | some t=>(((t:Nat):Int),Zk g t)
  | none=>(0,0)
def Yq (g:Img):Bool:=(Xm g).2==0
theorem zW {g:Img} (h:yg g=true):g.types.length≤32∧g.fields.length≤64∧g.methods.length≤64∧∀ td∈g.types,qR td g.types.length=true:=by
 simp only [yg,Bool.and_eq_true,decide_eq_true_eq,List.all_eq_true] at h
 obtain ⟨⟨⟨⟨⟨⟨⟨h1,h2⟩,h3⟩,_⟩,_⟩,h4⟩,_⟩,_⟩:=h
 exact ⟨by omega,by omega,by omega,h4⟩
theorem Ye {td:TD} {n:Int} (h:qR td n=true):0≤td.flags∧td.flags≤31 ∧ -1≤td.ext∧td.ext < n∧td.faces.length≤4∧∀ f∈td.faces,0≤f∧f < n:=by
 simp only [qR,Bool.and_eq_true,decide_eq_true_eq,List.all_eq_true,QV] at h
 obtain ⟨⟨⟨⟨⟨⟨_,h1⟩,h2⟩,h3⟩,h4⟩,h5⟩,h6⟩:=h
 exact ⟨h1,h2,h3,h4,by omega,h6⟩
theorem zhb {g:Img} {k:Nat} (hf:yg g=true) (hk:k < g.types.length) (hno:∀ j,j < k→Zk g j=0) (h:Zk g k≠0):Xm g=(((k:Nat):Int),Zk g k):=by
 have:(List.range g.types.length).find? (fun t=>Zk g t != 0)=some k:=by
  rw [List.find?_range_eq_some]
  exact ⟨by simpa using h,by simpa using hk,fun j hj=>by simp [hno j hj]⟩
 simp [Xm,hf,this]
theorem zlU {g:Img} (hf:yg g=true) (hno:∀ j,j < g.types.length→Zk g j=0):Xm g=(0,0):=by
 have:(List.range g.types.length).find? (fun t=>Zk g t != 0)=none:=by
  rw [List.find?_eq_none]
  intro j hj
  simp [hno j (List.mem_range.1 hj)]
 simp [Xm,hf,this]
theorem zbC {g:Img} {k:Nat} (hlt:k < g.types.length):Zk g k=if !qP g.types[k]||!QT g k g.types[k] then 7 else if !zaZ g k g.types[k] then 18 else if !zbv g k then 20 else 0:=by
 rw [Zk,zL hlt]
theorem zbm {g:Img} {k:Nat} (hlt:k < g.types.length):typeAt g (k:Int)=some g.types[k]:=by
 rw [typeAt,if_pos (by omega)];simp [List.getElem?_eq_getElem hlt]
theorem zmE (g:Img):ACall Tryz.prog 213 [zH g] (.tup [pi (Xm g).1,pi (Xm g).2]):=by
 refine zh zf Tryz.func213 rfl (by kernel_rfl) Tryz.ntmps213 (by simp) _ rfl (fun hw gB hgB=>?_)
 have c0:=zmc g
 cases hf:yg g
 ·rw [hf] at c0
  repeat' (first|(refine shC ?_;first|refine qC c0 ?_)|refine sK ?_|refine sC (fun _=>?_) (fun _=>?_)|fail)
  exact retq rfl (by simp [zk,Xm,hf])
 ·rw [hf] at c0
  obtain ⟨b1,b2,b3,b4⟩:=zW hf
  have hg:g.types.length≤1000:=by omega
  have hgf:g.fields.length≤1000:=by omega
  have hgm:g.methods.length≤1000:=by omega
  have hfc:∀ td∈g.types,td.faces.length≤1000:=fun td h=>by have:=(Ye (b4 td h)).2.2.2.2.1;omega
  repeat' (first|(refine shC ?_;first|refine qC c0 ?_)|refine sK ?_|refine sC (fun _=>?_) (fun _=>?_)|fail)
  refine zJ (fun k:Nat=>[(1,.pv (.ptr (zH g) 0)),(4,.pv (pi k))]) (fun _=>[]) (fun k=>k≤g.types.length∧∀ j,j < k→Zk g j=0) (fun k=>g.types.length - k) 0 ⟨by omega,fun j h=>by omega⟩ (tS) tH ?_
  rintro k ⟨hk,hno⟩
  by_cases hlt:k < g.types.length
  ·have htd:=zbm hlt
   have hx:=(Ye (b4 _ (List.getElem_mem hlt))).2.2.2.1
   have hat:=zbC hlt
   have hfin:=fun h=>zhb hf hlt hno h
   have hnx:Zk g k=0→∀ j,j < k + 1→Zk g j=0:=fun h j hj=>by
    by_cases e:j=k
    ·subst e;exact h
    ·exact hno j (by omega)
   clear hno
   repeat' (first|(refine shC ?_;first|refine qC (zj9 g k _ htd) ?_|refine qC (zms g k _ htd hx hg hfc) ?_|refine qC (zmO g k _ htd hg hgf hgm) ?_|refine qC (zny g k hg hgf) ?_)|refine sK ?_|refine sC (fun _=>?_) (fun _=>?_)|fail)
   ·rename_i h1
    simp only [h1,BL,if_true,Bool.false_eq_true,if_false] at hat
    exact retq rfl (by rw [hfin (by rw [hat];decide),hat];rfl)
   ·rename_i h1 h2
    simp only [h1,h2,BL,if_true,Bool.false_eq_true,if_false] at hat
    exact retq rfl (by rw [hfin (by rw [hat];decide),hat];rfl)
   ·rename_i h1 h2 h3
    simp only [h1,h2,h3,BL,if_true,Bool.false_eq_true,if_false] at hat
    exact retq rfl (by rw [hfin (by rw [hat];decide),hat];rfl)
   ·rename_i h1 h2 h3 h4
    simp only [h1,h2,h3,h4,BL,if_true,Bool.false_eq_true,if_false] at hat
    exact retq rfl (by rw [hfin (by rw [hat];decide),hat];rfl)
   ·rename_i h1 h2 h3 h4
    simp only [h1,h2,h3,h4,BL,if_true,Bool.false_eq_true,if_false] at hat
    exact ⟨k + 1,⟨hlt,hnx hat⟩,tD,tS,tH⟩
  ·repeat' (first|refine sK ?_|refine sC (fun _=>?_) (fun _=>?_)|fail)
   obtain rfl:k=g.types.length:=by omega
   exact retq rfl (by simp [zk,zlU hf hno])
theorem zpK (g:Img):ACall Tryz.prog 186 [zH g] (pb (Yq g)):=by
 refine zh zf Tryz.func186 rfl (by kernel_rfl) Tryz.ntmps186 (by simp) _ rfl (fun hw gB hgB=>?_)
 repeat' (first|(refine shC ?_;first|refine qC (zmE g) ?_)|refine sA ?_|refine sC (fun _=>?_) (fun _=>?_)|fail)
 all_goals (first|refine retq rfl ?_|refine ZN rfl ?_)
 all_goals (first|(simp_all [zk,Yq];done)|(simp_all [zk,Yq];omega))
end Go.Cg
