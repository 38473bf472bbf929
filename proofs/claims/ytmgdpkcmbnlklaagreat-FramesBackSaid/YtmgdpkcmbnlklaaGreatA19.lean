/- A part of the walks by abstract values: no statement of its own. -/
import Derived.Test.YtmgdpkcmbnlklaaGreatA17
set_option linter.unusedVariables false
set_option linter.unusedSimpArgs false
namespace Go.Cg
inductive Rch (step:Int→List Int) (l:List Int):Int→Prop where
 | base (x:Int):x∈l→Rch step l x
 | step (x y:Int):Rch step l x→y∈step x→Rch step l y
theorem zlq {met:List Int} {x y:Int}:y∈qU met x↔y∈met∨y=x:=by
 unfold qU
 split
 ·rename_i h
  constructor
  ·exact .inl
  ·rintro (h1|rfl)
   ·exact h1
   ·exact h
 ·simp
theorem Yr {y:Int}:∀ {l met:List Int},y∈l.foldl qU met↔y∈met∨y∈l
 | [],met=>by simp
 | x::l,met=>by
  rw [List.foldl_cons,Yr (l:=l),zlq]
  simp only [List.mem_cons]
  constructor
  ·rintro ((h|h)|h)
   ·exact .inl h
   ·exact .inr (.inl h)
   ·exact .inr (.inr h)
  ·rintro (h|h|h)
   ·exact .inl (.inl h)
   ·exact .inl (.inr h)
   ·exact .inr h
theorem zei:∀ (l met:List Int),∃ r,l.foldl qU met=met++r
 | [],met=>⟨[],by simp⟩
 | x::l,met=>by
  obtain ⟨r,hr⟩:=zei l (qU met x)
  rw [List.foldl_cons,hr]
  unfold qU
  split
  ·exact ⟨r,rfl⟩
  ·exact ⟨x::r,by simp⟩
theorem zbx {N:Nat} {step:Int→List Int} (hs:∀ x:Int,0≤x→x < N→∀ y∈step x,0≤y∧y < N):∀ (n i:Nat) (met:List Int),NInv N met→i≤met.length→N + 1≤n + i →
  (∀ j (h:j < i) (h2:j < met.length),∀ y∈step met[j],y∈met) →
  (∀ x∈met,x∈Yb step n i met)∧(∀ u∈Yb step n i met,∀ y∈step u,y∈Yb step n i met)∧(∀ x∈Yb step n i met,Rch step met x)∧NInv N (Yb step n i met)
 | 0,i,met,hm,hi,hn,hc=>by
  have:=hm.len;omega
 | n + 1,i,met,hm,hi,hn,hc=>by
  rw [Yb]
  by_cases hlt:i < met.length
  ·rw [List.getElem?_eq_getElem hlt]
   simp only
   obtain ⟨h0,h1⟩:=hm.2 _ (List.getElem_mem hlt)
   have hst:=hs _ h0 h1
   have hm2:=NInv.fold _ hm hst
   obtain ⟨r,hr⟩:=zei (step met[i]) met
   have hl:met.length≤((step met[i]).foldl qU met).length:=by rw [hr];simp
   obtain ⟨q1,q2,q3,q4⟩:=zbx hs n (i + 1) ((step met[i]).foldl qU met) hm2 (by omega) (by omega) (by
    intro j hj hj2 y hy
    rw [Yr]
    have hjm:j < met.length:=by omega
    have e:((step met[i]).foldl qU met)[j]=met[j]:=by simp only [hr];rw [List.getElem_append_left hjm]
    rw [e] at hy
    by_cases hji:j=i
    ·subst hji;exact .inr hy
    ·exact .inl (hc j (by omega) hjm y hy))
   refine ⟨fun x hx=>q1 x (Yr.2 (.inl hx)),q2,fun x hx=>?_,q4⟩
   have:=q3 x hx
   clear q1 q2 q3 q4 hx
   induction this with
   | base x hx =>
    rcases Yr.1 hx with h|h
    ·exact .base x h
    ·exact .step _ x (.base _ (List.getElem_mem hlt)) h
   | step x y _ hy ih=>exact .step x y ih hy
  ·rw [List.getElem?_eq_none (by omega)]
   simp only
   refine ⟨fun x hx=>hx,fun u hu y hy=>?_,fun x hx=>.base x hx,hm⟩
   obtain ⟨j,hj,rfl⟩:=List.getElem_of_mem hu
   exact hc j (by omega) hj y hy
theorem Vl {N:Nat} {step:Int→List Int} {l:List Int} (hs:∀ x:Int,0≤x→x < N→∀ y∈step x,0≤y∧y < N) (hl:∀ x∈l,0≤x∧x < N):(∀ x,x∈Ym N step l↔Rch step l x)∧NInv N (Ym N step l):=by
 have hm:NInv N (l.foldl qU []):=NInv.fold l ⟨by simp,by simp⟩ hl
 obtain ⟨q1,q2,q3,q4⟩:=zbx hs (N + 1) 0 (l.foldl qU []) hm (by omega) (by omega) (fun j h=>by omega)
 refine ⟨fun x=>⟨fun hx=>?_,fun hx=>?_⟩,q4⟩
 ·have:=q3 x hx
  clear hx
  induction this with
  | base x hx=>exact .base x (by simpa using Yr.1 hx)
  | step x y _ hy ih=>exact .step x y ih hy
 ·induction hx with
  | base x hx=>exact q1 x (Yr.2 (.inr hx))
  | step x y _ hy ih=>exact q2 x ih y hy
def RF (g:Img) (t f:Int):Prop:=Rch (zX g) ((up g t).flatMap (zX g)) f
theorem zlE {g:Img} (hF:Fm g) (t:Int):∀ x∈(up g t).flatMap (zX g),0≤x∧x < g.types.length:=by
 intro x hx
 obtain ⟨u,_,h⟩:=List.mem_flatMap.1 hx
 exact (hF.at u).2 x h
theorem ziD {g:Img} (hF:Fm g) (t:Int):(∀ x,x∈Ym g.types.length (zX g) ((up g t).flatMap (zX g))↔Rch (zX g) ((up g t).flatMap (zX g)) x)∧NInv g.types.length (Ym g.types.length (zX g) ((up g t).flatMap (zX g))):=Vl (N:=g.types.length) (step:=zX g) (l:=(up g t).flatMap (zX g)) (fun x _ _=>(hF.at x).2) (zlE hF t)
theorem zly {g:Img} {met:List Int} {f:Int} (h:there g f=true):zik g met f=qU met f:=by
 unfold zik qU
 by_cases hm:f∈met
 ·simp [hm]
 ·simp [hm,h]
theorem zgv {g:Img}:∀ (l met:List Int),(∀ f∈l,there g f=true)→l.foldl (zik g) met=l.foldl qU met
 | [],met,_=>rfl
 | f::l,met,h=>by
  rw [List.foldl_cons,List.foldl_cons,zly (h f (by simp))]
  exact zgv l _ fun x hx=>h x (by simp [hx])
theorem zeq {g:Img} (hF:Fm g) (met:List Int) (u:Int):zbs g met u=(zX g u).foldl qU met :=
 zgv _ _ fun f hf=>WW ((hF.at u).2 f hf)
theorem zhA {g:Img} (hF:Fm g):∀ (us met:List Int),us.foldl (zbs g) met=(us.flatMap (zX g)).foldl qU met
 | [],met=>rfl
 | u::us,met=>by rw [List.foldl_cons,zeq hF,List.flatMap_cons,List.foldl_append];exact zhA hF us _
theorem zhC {g:Img} (hF:Fm g):∀ (n i:Nat) (met:List Int),zje g n i met=Yb (zX g) n i met
 | 0,_,_=>rfl
 | n + 1,i,met=>by
  rw [zje,Yb]
  cases met[i]? with
  | none=>rfl
  | some u=>simp only;rw [zeq hF];exact zhC hF n _ _
theorem zlQ {g:Img} (hF:Fm g) (t:Int):zmv g t=Ym g.types.length (zX g) ((up g t).flatMap (zX g)):=by
 rw [zmv,zhC hF,zm8,zhA hF];rfl
theorem zdz {n:Nat} {x:Int}:x∈nums n↔0≤x∧x < n:=by
 simp only [nums,List.mem_map,List.mem_range]
 constructor
 ·rintro ⟨k,hk,rfl⟩;omega
 ·intro h;exact ⟨x.toNat,by omega,by omega⟩
theorem ziw {g:Img} (hF:Fm g) {t f:Int}:f∈zey g t↔RF g t f:=by
 rw [zey,List.mem_filter,zlQ hF,zdz]
 simp only [decide_eq_true_eq]
 rw [(ziD hF t).1 f]
 exact ⟨fun h=>h.2,fun h=>⟨(ziD hF t).2.2 f (((ziD hF t).1 f).2 h),h⟩⟩
structure Wl (g:Img):Prop where
 fm:Fm g
 ext:∀ t td,typeAt g t=some td → -1≤td.ext∧td.ext < g.types.length
 flags:∀ t td,typeAt g t=some td→0≤td.flags∧td.flags≤31
 flag:∀ t td,typeAt g t=some td→ZG td=true
 hang:∀ t td,typeAt g t=some td→VB g t td=true
def VR (g:Img):Int→List Int→Prop
 | _,[]=>True
 | t,x::l=>x=t∧∃ td,typeAt g t=some td∧VR g td.ext l
theorem zdU {g:Img}:∀ (n:Nat) (t:Int) (out:List Int),∃ l,XV g n t out=out++l∧VR g t l
 | 0,t,out=>⟨[],by simp [XV],trivial⟩
 | n + 1,t,out=>by
  rw [XV]
  cases ht:typeAt g t with
  | none=>exact ⟨[],by simp,trivial⟩
  | some td =>
   by_cases hm:t∈out
   ·exact ⟨[],by simp [hm],trivial⟩
   ·obtain ⟨l,h1,h2⟩:=zdU n td.ext (out++[t])
    exact ⟨t::l,by simp only [hm,if_false];rw [h1];simp,rfl,td,ht,h2⟩
theorem zg9 (g:Img) (t:Int):VR g t (up g t):=by
 obtain ⟨l,h1,h2⟩:=zdU (g:=g) (g.types.length + 1) t []
 rw [up,h1];exact h2
def ch (g:Img):Nat→Int→List Int
 | 0,_=>[]
 | n + 1,t=>match typeAt g t with|some td=>t::ch g n td.ext|none=>[]
def zgD (g:Img) (t:Int):Int:=match typeAt g t with|some td=>td.ext|none => -1
theorem zbV {g:Img}:∀ (l:List Int) (t:Int),VR g t l→l≠[]→typeAt g (zgD g (l.getLastD 0))=none→∀ m,l.length≤m→ch g m t=l
 | [],t,_,hne,_,_,_=>(hne rfl).elim
 | x::l,t,hc,_,he,m,hm=>by
  obtain ⟨rfl,td,htd,hc'⟩:=hc
  obtain ⟨m,rfl⟩:∃ m',m=m' + 1:=⟨m - 1,by simp at hm;omega⟩
  rw [ch,htd]
  simp only
  cases l with
  | nil =>
   simp only [List.getLastD_cons,List.getLastD_nil,zgD,htd] at he
   cases m with
   | zero=>rfl
   | succ m=>rw [ch,he]
  | cons y l =>
   rw [zbV (y::l) td.ext hc' (by simp) (by simpa [List.getLastD_cons] using he) m (by simp at hm ⊢;omega)]
theorem up_nil {g:Img} {t:Int} (h:typeAt g t=none):up g t=[]:=by rw [up,XV,h]
theorem Wl.top {g:Img} (hW:Wl g) {t:Int} {td:TD} (ht:typeAt g t=some td):typeAt g (zgD g ((up g t).getLastD 0))=none:=by
 obtain ⟨r,hr⟩:=zc7 ht
 have hh:=hW.hang t td ht
 simp only [VB,Bool.and_eq_true,zjs,Bool.or_eq_true,Bool.not_eq_true',decide_eq_false_iff_not,beq_iff_eq,decide_eq_true_eq] at hh
 obtain ⟨⟨h1,_⟩,_⟩:=hh
 have hneg:∀ x:Int,x < 0→typeAt g x=none:=by
  intro x hx;rw [typeAt,if_neg (by omega)]
 by_cases hx:0≤td.ext
 ·rcases h1 with h1|h1
  ·exact (h1 hx).elim
  ·have h3:Xt g t < 0:=h1.2
   have:Xt g t=zgD g ((up g t).getLastD 0):=rfl
   rw [←this]
   exact hneg _ h3
 ·have hu:up g t=[t]:=by
   rw [up,XV,ht]
   simp only [List.not_mem_nil,if_false,List.nil_append]
   cases g.types.length with
   | zero=>rfl
   | succ n=>rw [XV,hneg _ (by omega)]
  rw [hu]
  simp only [List.getLastD_cons,List.getLastD_nil,zgD,ht]
  exact hneg _ (by omega)
theorem Wl.up_eq {g:Img} (hW:Wl g) (t:Int):up g t=ch g (g.types.length + 1) t:=by
 cases ht:typeAt g t with
 | none=>rw [up_nil ht,ch,ht]
 | some td =>
  obtain ⟨r,hr⟩:=zc7 ht
  have hui:=zf1 g t
  have hul:=ZA _ _ hui.1 hui.2
  exact (zbV _ t (zg9 g t) (by rw [hr];simp) (hW.top ht) _ (by omega)).symm
theorem Wl.up_cons {g:Img} (hW:Wl g) {t:Int} {td:TD} (ht:typeAt g t=some td):up g t=t::up g td.ext:=by
 obtain ⟨r,hr⟩:=zc7 ht
 have hui:=zf1 g t
 have hul:=ZA _ _ hui.1 hui.2
 have h1:=zbV _ t (zg9 g t) (by rw [hr];simp) (hW.top ht) (g.types.length + 2) (by omega)
 rw [←h1,ch,ht,hW.up_eq]
theorem Wl.up_len {g:Img} (hW:Wl g):∀ (n:Nat) (a b:Int),(up g a).length≤n→b∈up g a→(∀ x∈up g b,x∈up g a)∧(b=a∨(up g b).length < (up g a).length)
 | 0,a,b,hn,hb=>by
  have:up g a=[]:=List.eq_nil_of_length_eq_zero (by omega)
  rw [this] at hb;simp at hb
 | n + 1,a,b,hn,hb=>by
  cases ha:typeAt g a with
  | none=>rw [up_nil ha] at hb;simp at hb
  | some td =>
   have e:=hW.up_cons ha
   rw [e] at hb hn ⊢
   rcases List.mem_cons.1 hb with rfl|hb
   ·rw [e];exact ⟨fun x hx=>hx,.inl rfl⟩
   ·obtain ⟨h1,h2⟩:=hW.up_len n td.ext b (by simp at hn;omega) hb
    refine ⟨fun x hx=>List.mem_cons_of_mem _ (h1 x hx),.inr ?_⟩
    rcases h2 with rfl|h2
    ·simp
    ·simp;omega
theorem Wl.up_trans {g:Img} (hW:Wl g) {a b c:Int} (h1:b∈up g a) (h2:c∈up g b):c∈up g a:=(hW.up_len _ a b (Nat.le_refl _) h1).1 c h2
theorem Wl.face_kind {g:Img} (hW:Wl g) {u f:Int} (h:f∈zX g u):zY g f=2:=by
 unfold zX at h
 cases hu:typeAt g u with
 | none=>rw [hu] at h;simp at h
 | some td =>
  rw [hu] at h
  simp only at h
  have hh:=hW.hang u td hu
  simp only [VB,Bool.and_eq_true,List.all_eq_true,List.mem_range,zbg,beq_iff_eq] at hh
  obtain ⟨⟨_,h2⟩,_⟩:=hh
  obtain ⟨j,hj,rfl⟩:=List.getElem_of_mem h
  have:=(h2 j hj).1
  rwa [zZ hj] at this
theorem Wl.rf_kind {g:Img} (hW:Wl g) {t f:Int} (h:RF g t f):zY g f=2:=by
 cases h with
 | base _ hx=>obtain ⟨u,_,h⟩:=List.mem_flatMap.1 hx;exact hW.face_kind h
 | step x _ _ hy=>exact hW.face_kind hy
theorem zaq {g:Img} {t k:Int} (h:zY g t=k) (hk:0≤k):∃ td,typeAt g t=some td∧zco td.flags=k:=by
 unfold zY at h
 cases ht:typeAt g t with
 | none=>rw [ht] at h;simp at h;omega
 | some td=>rw [ht] at h;exact ⟨td,rfl,h⟩
theorem Wl.face_up {g:Img} (hW:Wl g) {t:Int} (h:zY g t=2):up g t=[t]:=by
 obtain ⟨td,ht,hk⟩:=zaq h (by omega)
 have hfl:=hW.flag t td ht
 have hext:td.ext = -1:=by
  simp [ZG,hk] at hfl
  exact hfl.1.1.1.1
 rw [hW.up_cons ht,hext,up_nil (by rw [typeAt,if_neg (by omega)])]
theorem RF.up {g:Img} (hW:Wl g) {a b f:Int} (h:b∈up g a) (hf:RF g b f):RF g a f:=by
 induction hf with
 | base x hx =>
  obtain ⟨u,hu,hxu⟩:=List.mem_flatMap.1 hx
  exact .base x (List.mem_flatMap.2 ⟨u,hW.up_trans h hu,hxu⟩)
 | step x y _ hy ih=>exact .step x y ih hy
theorem RF.trans {g:Img} (hW:Wl g) {a b f:Int} (h:RF g a b) (hf:RF g b f):RF g a f:=by
 have hu:=hW.face_up (hW.rf_kind h)
 induction hf with
 | base x hx =>
  obtain ⟨u,hu',hxu⟩:=List.mem_flatMap.1 hx
  rw [hu] at hu'
  simp at hu'
  subst hu'
  exact .step _ x h hxu
 | step x y _ hy ih=>exact .step x y ih hy
def Bl (g:Img) (a b:Int):Prop:=b∈up g a∨RF g a b
theorem Wl.trans {g:Img} (hW:Wl g) {a b c:Int} (h1:Bl g a b) (h2:Bl g b c):Bl g a c:=by
 rcases h1 with h1|h1 <;> rcases h2 with h2|h2
 ·exact .inl (hW.up_trans h1 h2)
 ·exact .inr (h2.up hW h1)
 ·rw [hW.face_up (hW.rf_kind h1)] at h2
  simp at h2;subst h2;exact .inr h1
 ·exact .inr (RF.trans hW h1 h2)
theorem Wl.refl {g:Img} (hW:Wl g) {a:Int} {td:TD} (h:typeAt g a=some td):Bl g a a:=by
 rw [Bl,hW.up_cons h];simp
end Go.Cg
namespace Go.Cg
open Go.Proofs
end Go.Cg
