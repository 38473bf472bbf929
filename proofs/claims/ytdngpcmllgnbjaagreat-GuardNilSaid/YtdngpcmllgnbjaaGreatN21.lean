/- A part of the walks by abstract values: no statement of its own. -/
import Derived.Test.YtdngpcmllgnbjaaGreatN19
set_option linter.unusedVariables false
set_option linter.unusedSimpArgs false
namespace Go.Cg
inductive Rch (step:Int→List Int) (l:List Int):Int→Prop where
 | base (x:Int):x∈l→Rch step l x
 | step (x y:Int):Rch step l x→y∈step x→Rch step l y
theorem zoC {met:List Int} {x y:Int}:y∈Zp met x↔y∈met∨y=x:=by
 unfold Zp
 split
 ·rename_i h
  constructor
  ·exact .inl
  ·rintro (h1|rfl)
   ·exact h1
   ·exact h
 ·simp
theorem YV {y:Int}:∀ {l met:List Int},y∈l.foldl Zp met↔y∈met∨y∈l
 | [],met=>by simp
 | x::l,met=>by
  rw [List.foldl_cons,YV (l:=l),zoC]
  simp only [List.mem_cons]
  constructor
  ·rintro ((h|h)|h)
   ·exact .inl h
   ·exact .inr (.inl h)
   ·exact .inr (.inr h)
  ·rintro (h|h|h)
   ·exact .inl (.inl h)
   ·exact .inl (.inr h)
   ·exact .inr h
theorem zeK:∀ (l met:List Int),∃ r,l.foldl Zp met=met++r
 | [],met=>⟨[],by simp⟩
 | x::l,met=>by
  obtain ⟨r,hr⟩:=zeK l (Zp met x)
  rw [List.foldl_cons,hr]
  unfold Zp
  split
  ·exact ⟨r,rfl⟩
  ·exact ⟨x::r,by simp⟩
theorem zcE {N:Nat} {step:Int→List Int} (hs:∀ x:Int,0≤x→x < N→∀ y∈step x,0≤y∧y < N):∀ (n i:Nat) (met:List Int),NInv N met→i≤met.length→N + 1≤n + i →
  (∀ j (h:j < i) (h2:j < met.length),∀ y∈step met[j],y∈met) →
  (∀ x∈met,x∈YD step n i met)∧(∀ u∈YD step n i met,∀ y∈step u,y∈YD step n i met)∧(∀ x∈YD step n i met,Rch step met x)∧NInv N (YD step n i met)
 | 0,i,met,hm,hi,hn,hc=>by
  have:=hm.len;omega
 | n + 1,i,met,hm,hi,hn,hc=>by
  rw [YD]
  by_cases hlt:i < met.length
  ·rw [List.getElem?_eq_getElem hlt]
   simp only
   obtain ⟨h0,h1⟩:=hm.2 _ (List.getElem_mem hlt)
   have hst:=hs _ h0 h1
   have hm2:=NInv.fold _ hm hst
   obtain ⟨r,hr⟩:=zeK (step met[i]) met
   have hl:met.length≤((step met[i]).foldl Zp met).length:=by rw [hr];simp
   obtain ⟨q1,q2,q3,q4⟩:=zcE hs n (i + 1) ((step met[i]).foldl Zp met) hm2 (by omega) (by omega) (by
    intro j hj hj2 y hy
    rw [YV]
    have hjm:j < met.length:=by omega
    have e:((step met[i]).foldl Zp met)[j]=met[j]:=by simp only [hr];rw [List.getElem_append_left hjm]
    rw [e] at hy
    by_cases hji:j=i
    ·subst hji;exact .inr hy
    ·exact .inl (hc j (by omega) hjm y hy))
   refine ⟨fun x hx=>q1 x (YV.2 (.inl hx)),q2,fun x hx=>?_,q4⟩
   have:=q3 x hx
   clear q1 q2 q3 q4 hx
   induction this with
   | base x hx =>
    rcases YV.1 hx with h|h
    ·exact .base x h
    ·exact .step _ x (.base _ (List.getElem_mem hlt)) h
   | step x y _ hy ih=>exact .step x y ih hy
  ·rw [List.getElem?_eq_none (by omega)]
   simp only
   refine ⟨fun x hx=>hx,fun u hu y hy=>?_,fun x hx=>.base x hx,hm⟩
   obtain ⟨j,hj,rfl⟩:=List.getElem_of_mem hu
   exact hc j (by omega) hj y hy
theorem zaM {N:Nat} {step:Int→List Int} {l:List Int} (hs:∀ x:Int,0≤x→x < N→∀ y∈step x,0≤y∧y < N) (hl:∀ x∈l,0≤x∧x < N):(∀ x,x∈YF N step l↔Rch step l x)∧NInv N (YF N step l):=by
 have hm:NInv N (l.foldl Zp []):=NInv.fold l ⟨by simp,by simp⟩ hl
 obtain ⟨q1,q2,q3,q4⟩:=zcE hs (N + 1) 0 (l.foldl Zp []) hm (by omega) (by omega) (fun j h=>by omega)
 refine ⟨fun x=>⟨fun hx=>?_,fun hx=>?_⟩,q4⟩
 ·have:=q3 x hx
  clear hx
  induction this with
  | base x hx=>exact .base x (by simpa using YV.1 hx)
  | step x y _ hy ih=>exact .step x y ih hy
 ·induction hx with
  | base x hx=>exact q1 x (YV.2 (.inr hx))
  | step x y _ hy ih=>exact q2 x ih y hy
def RF (g:Img) (t f:Int):Prop:=Rch (zT g) ((up g t).flatMap (zT g)) f
theorem zpp {g:Img} (hF:Fm g) (t:Int):∀ x∈(up g t).flatMap (zT g),0≤x∧x < g.types.length:=by
 intro x hx
 obtain ⟨u,_,h⟩:=List.mem_flatMap.1 hx
 exact (hF.at u).2 x h
theorem zeu {g:Img} (hF:Fm g) (t:Int):(∀ x,x∈YF g.types.length (zT g) ((up g t).flatMap (zT g))↔Rch (zT g) ((up g t).flatMap (zT g)) x)∧NInv g.types.length (YF g.types.length (zT g) ((up g t).flatMap (zT g))):=zaM (N:=g.types.length) (step:=zT g) (l:=(up g t).flatMap (zT g)) (fun x _ _=>(hF.at x).2) (zpp hF t)
theorem zeC {g:Img} (hF:Fm g) {t f:Int}:f∈ZA g t↔RF g t f:=by
 rw [ZA,zdg];exact (zeu hF t).1 f
theorem zpd {g:Img} {met:List Int} {f:Int} (h:there g f=true):zkB g met f=Zp met f:=by
 unfold zkB Zp
 by_cases hm:f∈met
 ·simp [hm]
 ·simp [hm,h]
theorem zi4 {g:Img}:∀ (l met:List Int),(∀ f∈l,there g f=true)→l.foldl (zkB g) met=l.foldl Zp met
 | [],met,_=>rfl
 | f::l,met,h=>by
  rw [List.foldl_cons,List.foldl_cons,zpd (h f (by simp))]
  exact zi4 l _ fun x hx=>h x (by simp [hx])
theorem zeF {g:Img} (hF:Fm g) (met:List Int) (u:Int):zcz g met u=(zT g u).foldl Zp met :=
 zi4 _ _ fun f hf=>QE ((hF.at u).2 f hf)
theorem zjo {g:Img} (hF:Fm g):∀ (us met:List Int),us.foldl (zcz g) met=(us.flatMap (zT g)).foldl Zp met
 | [],met=>rfl
 | u::us,met=>by rw [List.foldl_cons,zeF hF,List.flatMap_cons,List.foldl_append];exact zjo hF us _
theorem zjQ {g:Img} (hF:Fm g):∀ (n i:Nat) (met:List Int),zlH g n i met=YD (zT g) n i met
 | 0,_,_=>rfl
 | n + 1,i,met=>by
  rw [zlH,YD]
  cases met[i]? with
  | none=>rfl
  | some u=>simp only;rw [zeF hF];exact zjQ hF n _ _
theorem zoU {g:Img} (hF:Fm g) (t:Int):zpM g t=YF g.types.length (zT g) ((up g t).flatMap (zT g)):=by
 rw [zpM,zjQ hF,zqr,zjo hF];rfl
theorem zfl {n:Nat} {x:Int}:x∈nums n↔0≤x∧x < n:=by
 simp only [nums,List.mem_map,List.mem_range]
 constructor
 ·rintro ⟨k,hk,rfl⟩;omega
 ·intro h;exact ⟨x.toNat,by omega,by omega⟩
theorem zeJ {g:Img} (hF:Fm g) {t f:Int}:f∈VP g t↔RF g t f:=by
 rw [VP,List.mem_filter,zoU hF,zfl]
 simp only [decide_eq_true_eq]
 rw [(zeu hF t).1 f]
 exact ⟨fun h=>h.2,fun h=>⟨(zeu hF t).2.2 f (((zeu hF t).1 f).2 h),h⟩⟩
structure Wl (g:Img):Prop where
 fm:Fm g
 ext:∀ t td,typeAt g t=some td → -1≤td.ext∧td.ext < g.types.length
 flags:∀ t td,typeAt g t=some td→0≤td.flags∧td.flags≤31
 flag:∀ t td,typeAt g t=some td→Zi td=true
 hang:∀ t td,typeAt g t=some td→XL g t td=true
theorem zea {g:Img} (h:ZE g=true):Wl g:=by
 have hf:=Zl h
 have hb:=(zG hf).2.2.2
 have hck:∀ j,j < g.types.length→qE g j=0:=by
  intro j hj
  refine Classical.byContradiction fun hne=>?_
  have hex:∃ k,k < g.types.length∧qE g k≠0∧∀ i,i < k→qE g i=0:=by
   induction j using Nat.strongRecOn with
   | _ j ih =>
    by_cases hmin:∀ i,i < j→qE g i=0
    ·exact ⟨j,hj,hne,hmin⟩
    ·rcases Classical.not_forall.1 hmin with ⟨i,hi⟩
     have hij:i < j:=Classical.byContradiction fun h=>hi (fun h'=>(h h').elim)
     exact ih i hij (by omega) (fun e=>hi fun _=>e)
  obtain ⟨k,hk,hk1,hk2⟩:=hex
  have:=zjR hf hk hk2 hk1
  rw [ZE,this] at h
  simp at h;exact hk1 h
 have htd:∀ t td,typeAt g t=some td→∃ k:Nat,t=k∧∃ h:k < g.types.length,g.types[k]=td:=by
  intro t td ht
  have hlt:=YJ ht
  refine ⟨t.toNat,by omega,by omega,?_⟩
  have:=zbv (g:=g) (k:=t.toNat) (by omega)
  rw [Int.toNat_of_nonneg hlt.1,ht] at this
  exact (Option.some.inj this).symm
 have hcases:∀ t td,typeAt g t=some td→Zi td=true∧XL g t td=true:=by
  intro t td ht
  obtain ⟨k,rfl,hk,rfl⟩:=htd t td ht
  have:=hck k hk
  rw [zbD hk] at this
  cases h1:Zi g.types[k] <;> cases h2:XL g k g.types[k] <;> simp [h1,h2] at this ⊢
 refine ⟨zfP hf,?_,?_,fun t td ht=>(hcases t td ht).1,fun t td ht=>(hcases t td ht).2⟩
 ·intro t td ht
  obtain ⟨_,_,h3,h4,_⟩:=Yz (hb td (XH ht));exact ⟨h3,h4⟩
 ·intro t td ht
  obtain ⟨h1,h2,_⟩:=Yz (hb td (XH ht));exact ⟨h1,h2⟩
def za5 (g:Img):Int→List Int→Prop
 | _,[]=>True
 | t,x::l=>x=t∧∃ td,typeAt g t=some td∧za5 g td.ext l
theorem zfD {g:Img}:∀ (n:Nat) (t:Int) (out:List Int),∃ l,Vj g n t out=out++l∧za5 g t l
 | 0,t,out=>⟨[],by simp [Vj],trivial⟩
 | n + 1,t,out=>by
  rw [Vj]
  cases ht:typeAt g t with
  | none=>exact ⟨[],by simp,trivial⟩
  | some td =>
   by_cases hm:t∈out
   ·exact ⟨[],by simp [hm],trivial⟩
   ·obtain ⟨l,h1,h2⟩:=zfD n td.ext (out++[t])
    exact ⟨t::l,by simp only [hm,if_false];rw [h1];simp,rfl,td,ht,h2⟩
theorem zih (g:Img) (t:Int):za5 g t (up g t):=by
 obtain ⟨l,h1,h2⟩:=zfD (g:=g) (g.types.length + 1) t []
 rw [up,h1];exact h2
def ch (g:Img):Nat→Int→List Int
 | 0,_=>[]
 | n + 1,t=>match typeAt g t with|some td=>t::ch g n td.ext|none=>[]
def zj0 (g:Img) (t:Int):Int:=match typeAt g t with|some td=>td.ext|none => -1
theorem zc2 {g:Img}:∀ (l:List Int) (t:Int),za5 g t l→l≠[]→typeAt g (zj0 g (l.getLastD 0))=none→∀ m,l.length≤m→ch g m t=l
 | [],t,_,hne,_,_,_=>(hne rfl).elim
 | x::l,t,hc,_,he,m,hm=>by
  obtain ⟨rfl,td,htd,hc'⟩:=hc
  obtain ⟨m,rfl⟩:∃ m',m=m' + 1:=⟨m - 1,by simp at hm;omega⟩
  rw [ch,htd]
  simp only
  cases l with
  | nil =>
   simp only [List.getLastD_cons,List.getLastD_nil,zj0,htd] at he
   cases m with
   | zero=>rfl
   | succ m=>rw [ch,he]
  | cons y l =>
   rw [zc2 (y::l) td.ext hc' (by simp) (by simpa [List.getLastD_cons] using he) m (by simp at hm ⊢;omega)]
theorem up_nil {g:Img} {t:Int} (h:typeAt g t=none):up g t=[]:=by rw [up,Vj,h]
theorem Wl.top {g:Img} (hW:Wl g) {t:Int} {td:TD} (ht:typeAt g t=some td):typeAt g (zj0 g ((up g t).getLastD 0))=none:=by
 obtain ⟨r,hr⟩:=zee ht
 have hh:=hW.hang t td ht
 simp only [XL,Bool.and_eq_true,zjC,Bool.or_eq_true,Bool.not_eq_true',decide_eq_false_iff_not,beq_iff_eq,decide_eq_true_eq] at hh
 obtain ⟨⟨h1,_⟩,_⟩:=hh
 have hneg:∀ x:Int,x < 0→typeAt g x=none:=by
  intro x hx;rw [typeAt,if_neg (by omega)]
 by_cases hx:0≤td.ext
 ·rcases h1 with h1|h1
  ·exact (h1 hx).elim
  ·have h3:WV g t < 0:=h1.2
   have:WV g t=zj0 g ((up g t).getLastD 0):=rfl
   rw [←this]
   exact hneg _ h3
 ·have hu:up g t=[t]:=by
   rw [up,Vj,ht]
   simp only [List.not_mem_nil,if_false,List.nil_append]
   cases g.types.length with
   | zero=>rfl
   | succ n=>rw [Vj,hneg _ (by omega)]
  rw [hu]
  simp only [List.getLastD_cons,List.getLastD_nil,zj0,ht]
  exact hneg _ (by omega)
theorem Wl.up_eq {g:Img} (hW:Wl g) (t:Int):up g t=ch g (g.types.length + 1) t:=by
 cases ht:typeAt g t with
 | none=>rw [up_nil ht,ch,ht]
 | some td =>
  obtain ⟨r,hr⟩:=zee ht
  have hui:=zaS g t
  have hul:=qU _ _ hui.1 hui.2
  exact (zc2 _ t (zih g t) (by rw [hr];simp) (hW.top ht) _ (by omega)).symm
theorem Wl.up_cons {g:Img} (hW:Wl g) {t:Int} {td:TD} (ht:typeAt g t=some td):up g t=t::up g td.ext:=by
 obtain ⟨r,hr⟩:=zee ht
 have hui:=zaS g t
 have hul:=qU _ _ hui.1 hui.2
 have h1:=zc2 _ t (zih g t) (by rw [hr];simp) (hW.top ht) (g.types.length + 2) (by omega)
 rw [←h1,ch,ht,hW.up_eq]
theorem Wl.up_len {g:Img} (hW:Wl g):∀ (n:Nat) (a b:Int),(up g a).length≤n→b∈up g a→(∀ x∈up g b,x∈up g a)∧(b=a∨(up g b).length < (up g a).length)
 | 0,a,b,hn,hb=>by
  have:up g a=[]:=List.eq_nil_of_length_eq_zero (by omega)
  rw [this] at hb;simp at hb
 | n + 1,a,b,hn,hb=>by
  cases ha:typeAt g a with
  | none=>rw [up_nil ha] at hb;simp at hb
  | some td =>
   have e:=hW.up_cons ha
   rw [e] at hb hn ⊢
   rcases List.mem_cons.1 hb with rfl|hb
   ·rw [e];exact ⟨fun x hx=>hx,.inl rfl⟩
   ·obtain ⟨h1,h2⟩:=hW.up_len n td.ext b (by simp at hn;omega) hb
    refine ⟨fun x hx=>List.mem_cons_of_mem _ (h1 x hx),.inr ?_⟩
    rcases h2 with rfl|h2
    ·simp
    ·simp;omega
theorem Wl.up_trans {g:Img} (hW:Wl g) {a b c:Int} (h1:b∈up g a) (h2:c∈up g b):c∈up g a:=(hW.up_len _ a b (Nat.le_refl _) h1).1 c h2
theorem Wl.face_kind {g:Img} (hW:Wl g) {u f:Int} (h:f∈zT g u):zB g f=2:=by
 unfold zT at h
 cases hu:typeAt g u with
 | none=>rw [hu] at h;simp at h
 | some td =>
  rw [hu] at h
  simp only at h
  have hh:=hW.hang u td hu
  simp only [XL,Bool.and_eq_true,List.all_eq_true,List.mem_range,zcC,beq_iff_eq] at hh
  obtain ⟨⟨_,h2⟩,_⟩:=hh
  obtain ⟨j,hj,rfl⟩:=List.getElem_of_mem h
  have:=(h2 j hj).1
  rwa [zV hj] at this
theorem Wl.rf_kind {g:Img} (hW:Wl g) {t f:Int} (h:RF g t f):zB g f=2:=by
 cases h with
 | base _ hx=>obtain ⟨u,_,h⟩:=List.mem_flatMap.1 hx;exact hW.face_kind h
 | step x _ _ hy=>exact hW.face_kind hy
theorem zbM {g:Img} {t k:Int} (h:zB g t=k) (hk:0≤k):∃ td,typeAt g t=some td∧Xf td.flags=k:=by
 unfold zB at h
 cases ht:typeAt g t with
 | none=>rw [ht] at h;simp at h;omega
 | some td=>rw [ht] at h;exact ⟨td,rfl,h⟩
theorem Wl.face_up {g:Img} (hW:Wl g) {t:Int} (h:zB g t=2):up g t=[t]:=by
 obtain ⟨td,ht,hk⟩:=zbM h (by omega)
 have hfl:=hW.flag t td ht
 have hext:td.ext = -1:=by
  simp [Zi,hk] at hfl
  exact hfl.1.1.1.1
 rw [hW.up_cons ht,hext,up_nil (by rw [typeAt,if_neg (by omega)])]
theorem RF.up {g:Img} (hW:Wl g) {a b f:Int} (h:b∈up g a) (hf:RF g b f):RF g a f:=by
 induction hf with
 | base x hx =>
  obtain ⟨u,hu,hxu⟩:=List.mem_flatMap.1 hx
  exact .base x (List.mem_flatMap.2 ⟨u,hW.up_trans h hu,hxu⟩)
 | step x y _ hy ih=>exact .step x y ih hy
theorem RF.trans {g:Img} (hW:Wl g) {a b f:Int} (h:RF g a b) (hf:RF g b f):RF g a f:=by
 have hu:=hW.face_up (hW.rf_kind h)
 induction hf with
 | base x hx =>
  obtain ⟨u,hu',hxu⟩:=List.mem_flatMap.1 hx
  rw [hu] at hu'
  simp at hu'
  subst hu'
  exact .step _ x h hxu
 | step x y _ hy ih=>exact .step x y ih hy
def Bl (g:Img) (a b:Int):Prop:=b∈up g a∨RF g a b
theorem Wl.trans {g:Img} (hW:Wl g) {a b c:Int} (h1:Bl g a b) (h2:Bl g b c):Bl g a c:=by
 rcases h1 with h1|h1 <;> rcases h2 with h2|h2
 ·exact .inl (hW.up_trans h1 h2)
 ·exact .inr (h2.up hW h1)
 ·rw [hW.face_up (hW.rf_kind h1)] at h2
  simp at h2;subst h2;exact .inr h1
 ·exact .inr (RF.trans hW h1 h2)
theorem Wl.refl {g:Img} (hW:Wl g) {a:Int} {td:TD} (h:typeAt g a=some td):Bl g a a:=by
 rw [Bl,hW.up_cons h];simp
end Go.Cg
namespace Go.Cg
open Go.Proofs
theorem Wl.extk {g:Img} (hW:Wl g) {t:Int} {td:TD} (h:typeAt g t=some td):td.ext = -1∨zB g td.ext=0:=by
 have hh:=hW.hang t td h
 simp only [XL,Bool.and_eq_true,zjC,Bool.or_eq_true,Bool.not_eq_true',decide_eq_false_iff_not,beq_iff_eq,decide_eq_true_eq] at hh
 obtain ⟨⟨h1,_⟩,_⟩:=hh
 have:=hW.ext t td h
 rcases h1 with h1|h1
 ·exact .inl (by omega)
 ·exact .inr h1.1.1
end Go.Cg
