/- A part of the walks by abstract values: no statement of its own. -/
import Derived.Test.YtdlokcmodgccnaaGreatU19
import Derived.Test.YtdlokcmodgccnaaGreatU9
import Derived.Test.YtdlokcmodgccnaaGreatChecked
set_option linter.unusedVariables false
set_option linter.unusedSimpArgs false
namespace Go.Cg
inductive Rch (step:Int→List Int) (l:List Int):Int→Prop where
 | base (x:Int):x∈l→Rch step l x
 | step (x y:Int):Rch step l x→y∈step x→Rch step l y
theorem zrj {met:List Int} {x y:Int}:y∈Yv met x↔y∈met∨y=x:=by
 unfold Yv
 split
 ·rename_i h
  constructor
  ·exact .inl
  ·rintro (h1|rfl)
   ·exact h1
   ·exact h
 ·simp
theorem Xx {y:Int}:∀ {l met:List Int},y∈l.foldl Yv met↔y∈met∨y∈l
 | [],met=>by simp
 | x::l,met=>by
  rw [List.foldl_cons,Xx (l:=l),zrj]
  simp only [List.mem_cons]
  constructor
  ·rintro ((h|h)|h)
   ·exact .inl h
   ·exact .inr (.inl h)
   ·exact .inr (.inr h)
  ·rintro (h|h|h)
   ·exact .inl (.inl h)
   ·exact .inl (.inr h)
   ·exact .inr h
theorem zg5:∀ (l met:List Int),∃ r,l.foldl Yv met=met++r
 | [],met=>⟨[],by simp⟩
 | x::l,met=>by
  obtain ⟨r,hr⟩:=zg5 l (Yv met x)
  rw [List.foldl_cons,hr]
  unfold Yv
  split
  ·exact ⟨r,rfl⟩
  ·exact ⟨x::r,by simp⟩
theorem zdp {N:Nat} {step:Int→List Int} (hs:∀ x:Int,0≤x→x < N→∀ y∈step x,0≤y∧y < N):∀ (n i:Nat) (met:List Int),NInv N met→i≤met.length→N + 1≤n + i →
  (∀ j (h:j < i) (h2:j < met.length),∀ y∈step met[j],y∈met) →
  (∀ x∈met,x∈QO step n i met)∧(∀ u∈QO step n i met,∀ y∈step u,y∈QO step n i met)∧(∀ x∈QO step n i met,Rch step met x)∧NInv N (QO step n i met)
 | 0,i,met,hm,hi,hn,hc=>by
  have:=hm.len;omega
 | n + 1,i,met,hm,hi,hn,hc=>by
  rw [QO]
  by_cases hlt:i < met.length
  ·rw [List.getElem?_eq_getElem hlt]
   simp only
   obtain ⟨h0,h1⟩:=hm.2 _ (List.getElem_mem hlt)
   have hst:=hs _ h0 h1
   have hm2:=NInv.fold _ hm hst
   obtain ⟨r,hr⟩:=zg5 (step met[i]) met
   have hl:met.length≤((step met[i]).foldl Yv met).length:=by rw [hr];simp
   obtain ⟨q1,q2,q3,q4⟩:=zdp hs n (i + 1) ((step met[i]).foldl Yv met) hm2 (by omega) (by omega) (by
    intro j hj hj2 y hy
    rw [Xx]
    have hjm:j < met.length:=by omega
    have e:((step met[i]).foldl Yv met)[j]=met[j]:=by simp only [hr];rw [List.getElem_append_left hjm]
    rw [e] at hy
    by_cases hji:j=i
    ·subst hji;exact .inr hy
    ·exact .inl (hc j (by omega) hjm y hy))
   refine ⟨fun x hx=>q1 x (Xx.2 (.inl hx)),q2,fun x hx=>?_,q4⟩
   have:=q3 x hx
   clear q1 q2 q3 q4 hx
   induction this with
   | base x hx =>
    rcases Xx.1 hx with h|h
    ·exact .base x h
    ·exact .step _ x (.base _ (List.getElem_mem hlt)) h
   | step x y _ hy ih=>exact .step x y ih hy
  ·rw [List.getElem?_eq_none (by omega)]
   simp only
   refine ⟨fun x hx=>hx,fun u hu y hy=>?_,fun x hx=>.base x hx,hm⟩
   obtain ⟨j,hj,rfl⟩:=List.getElem_of_mem hu
   exact hc j (by omega) hj y hy
theorem zb5 {N:Nat} {step:Int→List Int} {l:List Int} (hs:∀ x:Int,0≤x→x < N→∀ y∈step x,0≤y∧y < N) (hl:∀ x∈l,0≤x∧x < N):(∀ x,x∈QZ N step l↔Rch step l x)∧NInv N (QZ N step l):=by
 have hm:NInv N (l.foldl Yv []):=NInv.fold l ⟨by simp,by simp⟩ hl
 obtain ⟨q1,q2,q3,q4⟩:=zdp hs (N + 1) 0 (l.foldl Yv []) hm (by omega) (by omega) (fun j h=>by omega)
 refine ⟨fun x=>⟨fun hx=>?_,fun hx=>?_⟩,q4⟩
 ·have:=q3 x hx
  clear hx
  induction this with
  | base x hx=>exact .base x (by simpa using Xx.1 hx)
  | step x y _ hy ih=>exact .step x y ih hy
 ·induction hx with
  | base x hx=>exact q1 x (Xx.2 (.inr hx))
  | step x y _ hy ih=>exact q2 x ih y hy
def RF (g:Img) (t f:Int):Prop:=Rch (yT g) ((up g t).flatMap (yT g)) f
theorem zrA {g:Img} (hF:Fm g) (t:Int):∀ x∈(up g t).flatMap (yT g),0≤x∧x < g.types.length:=by
 intro x hx
 obtain ⟨u,_,h⟩:=List.mem_flatMap.1 hx
 exact (hF.at u).2 x h
theorem zgK {g:Img} (hF:Fm g) (t:Int):(∀ x,x∈QZ g.types.length (yT g) ((up g t).flatMap (yT g))↔Rch (yT g) ((up g t).flatMap (yT g)) x)∧NInv g.types.length (QZ g.types.length (yT g) ((up g t).flatMap (yT g))):=zb5 (N:=g.types.length) (step:=yT g) (l:=(up g t).flatMap (yT g)) (fun x _ _=>(hF.at x).2) (zrA hF t)
theorem zhi {g:Img} (hF:Fm g) {t f:Int}:f∈Yt g t↔RF g t f:=by
 rw [Yt,zeo];exact (zgK hF t).1 f
theorem zrW {g:Img} {met:List Int} {f:Int} (h:there g f=true):zmg g met f=Yv met f:=by
 unfold zmg Yv
 by_cases hm:f∈met
 ·simp [hm]
 ·simp [hm,h]
theorem zls {g:Img}:∀ (l met:List Int),(∀ f∈l,there g f=true)→l.foldl (zmg g) met=l.foldl Yv met
 | [],met,_=>rfl
 | f::l,met,h=>by
  rw [List.foldl_cons,List.foldl_cons,zrW (h f (by simp))]
  exact zls l _ fun x hx=>h x (by simp [hx])
theorem zgZ {g:Img} (hF:Fm g) (met:List Int) (u:Int):zd8 g met u=(yT g u).foldl Yv met :=
 zls _ _ fun f hf=>Wh ((hF.at u).2 f hf)
theorem zlb {g:Img} (hF:Fm g):∀ (us met:List Int),us.foldl (zd8 g) met=(us.flatMap (yT g)).foldl Yv met
 | [],met=>rfl
 | u::us,met=>by rw [List.foldl_cons,zgZ hF,List.flatMap_cons,List.foldl_append];exact zlb hF us _
theorem zlR {g:Img} (hF:Fm g):∀ (n i:Nat) (met:List Int),znQ g n i met=QO (yT g) n i met
 | 0,_,_=>rfl
 | n + 1,i,met=>by
  rw [znQ,QO]
  cases met[i]? with
  | none=>rfl
  | some u=>simp only;rw [zgZ hF];exact zlR hF n _ _
theorem zsl {g:Img} (hF:Fm g) (t:Int):zs7 g t=QZ g.types.length (yT g) ((up g t).flatMap (yT g)):=by
 rw [zs7,zlR hF,ztC,zlb hF];rfl
theorem zhE {n:Nat} {x:Int}:x∈nums n↔0≤x∧x < n:=by
 simp only [nums,List.mem_map,List.mem_range]
 constructor
 ·rintro ⟨k,hk,rfl⟩;omega
 ·intro h;exact ⟨x.toNat,by omega,by omega⟩
theorem zhw {g:Img} (hF:Fm g) {t f:Int}:f∈za6 g t↔RF g t f:=by
 rw [za6,List.mem_filter,zsl hF,zhE]
 simp only [decide_eq_true_eq]
 rw [(zgK hF t).1 f]
 exact ⟨fun h=>h.2,fun h=>⟨(zgK hF t).2.2 f (((zgK hF t).1 f).2 h),h⟩⟩
structure Wl (g:Img):Prop where
 fm:Fm g
 ext:∀ t td,typeAt g t=some td → -1≤td.ext∧td.ext < g.types.length
 flags:∀ t td,typeAt g t=some td→0≤td.flags∧td.flags≤31
 flag:∀ t td,typeAt g t=some td→Yn td=true
 hang:∀ t td,typeAt g t=some td→VJ g t td=true
theorem zf4 {g:Img} (h:YZ g=true):Wl g:=by
 have hf:=YL h
 have hb:=(yH hf).2.2.2
 have hck:∀ j,j < g.types.length→Zr g j=0:=by
  intro j hj
  refine Classical.byContradiction fun hne=>?_
  have hex:∃ k,k < g.types.length∧Zr g k≠0∧∀ i,i < k→Zr g i=0:=by
   induction j using Nat.strongRecOn with
   | _ j ih =>
    by_cases hmin:∀ i,i < j→Zr g i=0
    ·exact ⟨j,hj,hne,hmin⟩
    ·rcases Classical.not_forall.1 hmin with ⟨i,hi⟩
     have hij:i < j:=Classical.byContradiction fun h=>hi (fun h'=>(h h').elim)
     exact ih i hij (by omega) (fun e=>hi fun _=>e)
  obtain ⟨k,hk,hk1,hk2⟩:=hex
  have:=zlz hf hk hk2 hk1
  rw [YZ,this] at h
  simp at h;exact hk1 h
 have htd:∀ t td,typeAt g t=some td→∃ k:Nat,t=k∧∃ h:k < g.types.length,g.types[k]=td:=by
  intro t td ht
  have hlt:=XI ht
  refine ⟨t.toNat,by omega,by omega,?_⟩
  have:=zde (g:=g) (k:=t.toNat) (by omega)
  rw [Int.toNat_of_nonneg hlt.1,ht] at this
  exact (Option.some.inj this).symm
 have hcases:∀ t td,typeAt g t=some td→Yn td=true∧VJ g t td=true:=by
  intro t td ht
  obtain ⟨k,rfl,hk,rfl⟩:=htd t td ht
  have:=hck k hk
  rw [zc5 hk] at this
  cases h1:Yn g.types[k] <;> cases h2:VJ g k g.types[k] <;> simp [h1,h2] at this ⊢
 refine ⟨zbO hf,?_,?_,fun t td ht=>(hcases t td ht).1,fun t td ht=>(hcases t td ht).2⟩
 ·intro t td ht
  obtain ⟨_,_,h3,h4,_⟩:=QJ (hb td (VU ht));exact ⟨h3,h4⟩
 ·intro t td ht
  obtain ⟨h1,h2,_⟩:=QJ (hb td (VU ht));exact ⟨h1,h2⟩
def zcB (g:Img):Int→List Int→Prop
 | _,[]=>True
 | t,x::l=>x=t∧∃ td,typeAt g t=some td∧zcB g td.ext l
theorem zgH {g:Img}:∀ (n:Nat) (t:Int) (out:List Int),∃ l,zaU g n t out=out++l∧zcB g t l
 | 0,t,out=>⟨[],by simp [zaU],trivial⟩
 | n + 1,t,out=>by
  rw [zaU]
  cases ht:typeAt g t with
  | none=>exact ⟨[],by simp,trivial⟩
  | some td =>
   by_cases hm:t∈out
   ·exact ⟨[],by simp [hm],trivial⟩
   ·obtain ⟨l,h1,h2⟩:=zgH n td.ext (out++[t])
    exact ⟨t::l,by simp only [hm,if_false];rw [h1];simp,rfl,td,ht,h2⟩
theorem zk7 (g:Img) (t:Int):zcB g t (up g t):=by
 obtain ⟨l,h1,h2⟩:=zgH (g:=g) (g.types.length + 1) t []
 rw [up,h1];exact h2
def ch (g:Img):Nat→Int→List Int
 | 0,_=>[]
 | n + 1,t=>match typeAt g t with|some td=>t::ch g n td.ext|none=>[]
def zkC (g:Img) (t:Int):Int:=match typeAt g t with|some td=>td.ext|none => -1
theorem zeM {g:Img}:∀ (l:List Int) (t:Int),zcB g t l→l≠[]→typeAt g (zkC g (l.getLastD 0))=none→∀ m,l.length≤m→ch g m t=l
 | [],t,_,hne,_,_,_=>(hne rfl).elim
 | x::l,t,hc,_,he,m,hm=>by
  obtain ⟨rfl,td,htd,hc'⟩:=hc
  obtain ⟨m,rfl⟩:∃ m',m=m' + 1:=⟨m - 1,by simp at hm;omega⟩
  rw [ch,htd]
  simp only
  cases l with
  | nil =>
   simp only [List.getLastD_cons,List.getLastD_nil,zkC,htd] at he
   cases m with
   | zero=>rfl
   | succ m=>rw [ch,he]
  | cons y l =>
   rw [zeM (y::l) td.ext hc' (by simp) (by simpa [List.getLastD_cons] using he) m (by simp at hm ⊢;omega)]
theorem up_nil {g:Img} {t:Int} (h:typeAt g t=none):up g t=[]:=by rw [up,zaU,h]
theorem Wl.top {g:Img} (hW:Wl g) {t:Int} {td:TD} (ht:typeAt g t=some td):typeAt g (zkC g ((up g t).getLastD 0))=none:=by
 obtain ⟨r,hr⟩:=zf8 ht
 have hh:=hW.hang t td ht
 simp only [VJ,Bool.and_eq_true,zlv,Bool.or_eq_true,Bool.not_eq_true',decide_eq_false_iff_not,beq_iff_eq,decide_eq_true_eq] at hh
 obtain ⟨⟨h1,_⟩,_⟩:=hh
 have hneg:∀ x:Int,x < 0→typeAt g x=none:=by
  intro x hx;rw [typeAt,if_neg (by omega)]
 by_cases hx:0≤td.ext
 ·rcases h1 with h1|h1
  ·exact (h1 hx).elim
  ·have h3:zaE g t < 0:=h1.2
   have:zaE g t=zkC g ((up g t).getLastD 0):=rfl
   rw [←this]
   exact hneg _ h3
 ·have hu:up g t=[t]:=by
   rw [up,zaU,ht]
   simp only [List.not_mem_nil,if_false,List.nil_append]
   cases g.types.length with
   | zero=>rfl
   | succ n=>rw [zaU,hneg _ (by omega)]
  rw [hu]
  simp only [List.getLastD_cons,List.getLastD_nil,zkC,ht]
  exact hneg _ (by omega)
theorem Wl.up_eq {g:Img} (hW:Wl g) (t:Int):up g t=ch g (g.types.length + 1) t:=by
 cases ht:typeAt g t with
 | none=>rw [up_nil ht,ch,ht]
 | some td =>
  obtain ⟨r,hr⟩:=zf8 ht
  have hui:=zb9 g t
  have hul:=Ya _ _ hui.1 hui.2
  exact (zeM _ t (zk7 g t) (by rw [hr];simp) (hW.top ht) _ (by omega)).symm
theorem Wl.up_cons {g:Img} (hW:Wl g) {t:Int} {td:TD} (ht:typeAt g t=some td):up g t=t::up g td.ext:=by
 obtain ⟨r,hr⟩:=zf8 ht
 have hui:=zb9 g t
 have hul:=Ya _ _ hui.1 hui.2
 have h1:=zeM _ t (zk7 g t) (by rw [hr];simp) (hW.top ht) (g.types.length + 2) (by omega)
 rw [←h1,ch,ht,hW.up_eq]
theorem Wl.up_len {g:Img} (hW:Wl g):∀ (n:Nat) (a b:Int),(up g a).length≤n→b∈up g a→(∀ x∈up g b,x∈up g a)∧(b=a∨(up g b).length < (up g a).length)
 | 0,a,b,hn,hb=>by
  have:up g a=[]:=List.eq_nil_of_length_eq_zero (by omega)
  rw [this] at hb;simp at hb
 | n + 1,a,b,hn,hb=>by
  cases ha:typeAt g a with
  | none=>rw [up_nil ha] at hb;simp at hb
  | some td =>
   have e:=hW.up_cons ha
   rw [e] at hb hn ⊢
   rcases List.mem_cons.1 hb with rfl|hb
   ·rw [e];exact ⟨fun x hx=>hx,.inl rfl⟩
   ·obtain ⟨h1,h2⟩:=hW.up_len n td.ext b (by simp at hn;omega) hb
    refine ⟨fun x hx=>List.mem_cons_of_mem _ (h1 x hx),.inr ?_⟩
    rcases h2 with rfl|h2
    ·simp
    ·simp;omega
theorem Wl.up_trans {g:Img} (hW:Wl g) {a b c:Int} (h1:b∈up g a) (h2:c∈up g b):c∈up g a:=(hW.up_len _ a b (Nat.le_refl _) h1).1 c h2
theorem Wl.face_kind {g:Img} (hW:Wl g) {u f:Int} (h:f∈yT g u):yt g f=2:=by
 unfold yT at h
 cases hu:typeAt g u with
 | none=>rw [hu] at h;simp at h
 | some td =>
  rw [hu] at h
  simp only at h
  have hh:=hW.hang u td hu
  simp only [VJ,Bool.and_eq_true,List.all_eq_true,List.mem_range,zd1,beq_iff_eq] at hh
  obtain ⟨⟨_,h2⟩,_⟩:=hh
  obtain ⟨j,hj,rfl⟩:=List.getElem_of_mem h
  have:=(h2 j hj).1
  rwa [zQ hj] at this
theorem Wl.rf_kind {g:Img} (hW:Wl g) {t f:Int} (h:RF g t f):yt g f=2:=by
 cases h with
 | base _ hx=>obtain ⟨u,_,h⟩:=List.mem_flatMap.1 hx;exact hW.face_kind h
 | step x _ _ hy=>exact hW.face_kind hy
theorem zgP {g:Img} {t k:Int} (h:yt g t=k) (hk:0≤k):∃ td,typeAt g t=some td∧WU td.flags=k:=by
 unfold yt at h
 cases ht:typeAt g t with
 | none=>rw [ht] at h;simp at h;omega
 | some td=>rw [ht] at h;exact ⟨td,rfl,h⟩
theorem Wl.face_up {g:Img} (hW:Wl g) {t:Int} (h:yt g t=2):up g t=[t]:=by
 obtain ⟨td,ht,hk⟩:=zgP h (by omega)
 have hfl:=hW.flag t td ht
 have hext:td.ext = -1:=by
  simp [Yn,hk] at hfl
  exact hfl.1.1.1.1
 rw [hW.up_cons ht,hext,up_nil (by rw [typeAt,if_neg (by omega)])]
theorem RF.up {g:Img} (hW:Wl g) {a b f:Int} (h:b∈up g a) (hf:RF g b f):RF g a f:=by
 induction hf with
 | base x hx =>
  obtain ⟨u,hu,hxu⟩:=List.mem_flatMap.1 hx
  exact .base x (List.mem_flatMap.2 ⟨u,hW.up_trans h hu,hxu⟩)
 | step x y _ hy ih=>exact .step x y ih hy
theorem RF.trans {g:Img} (hW:Wl g) {a b f:Int} (h:RF g a b) (hf:RF g b f):RF g a f:=by
 have hu:=hW.face_up (hW.rf_kind h)
 induction hf with
 | base x hx =>
  obtain ⟨u,hu',hxu⟩:=List.mem_flatMap.1 hx
  rw [hu] at hu'
  simp at hu'
  subst hu'
  exact .step _ x h hxu
 | step x y _ hy ih=>exact .step x y ih hy
def Bl (g:Img) (a b:Int):Prop:=b∈up g a∨RF g a b
theorem Wl.trans {g:Img} (hW:Wl g) {a b c:Int} (h1:Bl g a b) (h2:Bl g b c):Bl g a c:=by
 rcases h1 with h1|h1 <;> rcases h2 with h2|h2
 ·exact .inl (hW.up_trans h1 h2)
 ·exact .inr (h2.up hW h1)
 ·rw [hW.face_up (hW.rf_kind h1)] at h2
  simp at h2;subst h2;exact .inr h1
 ·exact .inr (RF.trans hW h1 h2)
theorem Wl.refl {g:Img} (hW:Wl g) {a:Int} {td:TD} (h:typeAt g a=some td):Bl g a a:=by
 rw [Bl,hW.up_cons h];simp
end Go.Cg
namespace Go.Cg
open Go.Proofs
def zcW (at_:Int) (x:Pt):Bool:=decide (x.f≤at_)&&decide (at_ < x.t)
def zbB (at_:Int) (l:List Cl):Nat→List Pt
 | 0=>[]
 | k + 1=>zbB at_ l k++(yG k (l.getD k default)).filter (zcW at_)
def zcG (at_:Int) (l:List Cl):List Pt:=zbB at_ l l.length
def zmW (a b:Pt):Int:=if (a.t - a.f) - (b.t - b.f)=0 then a.c - b.c else (a.t - a.f) - (b.t - b.f)
def zbC (x:Pt):List Pt→List Pt→List Pt
 | [],s=>x::s
 | y::r,s=>if zmW x y < 0 then zbC x r (y::s) else (y::r).reverse++x::s
def zjg (l:List Pt) (x:Pt):List Pt:=zbC x l.reverse []
def Xq (l:List Pt):List Pt:=l.foldl zjg []
def ziy (a b:Pt):Bool:=a.f==b.f&&(a.t==b.t&&true)
def Xz (p:Pt):List Pt→List Pt
 | []=>[]
 | y::l=>if ziy y p then Xz y l else y::Xz y l
def ZH:List Pt→List Pt
 | []=>[]
 | x::l=>x::Xz x l
def qK (l:List Cl) (at_:Int):List Pt:=ZH (Xq (zcG at_ l))
theorem zeG (x:Pt):∀ (r s:List Pt),(zbC x r s).length=r.length + s.length + 1
 | [],s=>by simp [zbC]
 | y::r,s=>by
  rw [zbC]
  split
  ·rw [zeG x r (y::s)];simp;omega
  ·simp;omega
theorem zkJ (l:List Pt) (x:Pt):(zjg l x).length=l.length + 1:=by rw [zjg,zeG];simp
theorem zel (l:List Pt):(Xq l).length=l.length:=by
 have:∀ (l a:List Pt),(l.foldl zjg a).length=a.length + l.length:=by
  intro l
  induction l with
  | nil=>intro a;simp
  | cons x l ih=>intro a;rw [List.foldl_cons,ih,zkJ];simp;omega
 rw [Xq,this];simp
theorem zgf (k:Int) (c:Cl):(yG k c).length≤3:=by unfold yG;split <;> simp
theorem zcy (at_:Int) (l:List Cl):∀ k,(zbB at_ l k).length≤3 * k
 | 0=>by simp [zbB]
 | k + 1=>by
  rw [zbB,List.length_append]
  have h1:=zcy at_ l k
  have h2:=List.length_filter_le (zcW at_) (yG k (l.getD k default))
  have h3:=zgf k (l.getD k default)
  omega
theorem znj (p:Pt) (l:List Pt):(Xz p l).length≤l.length:=by
 induction l generalizing p with
 | nil=>simp [Xz]
 | cons y l ih =>
  rw [Xz]
  split
  ·have:=ih y;simp;omega
  ·have:=ih y;simp;omega
theorem zoe (l:List Pt):(ZH l).length≤l.length:=by
 cases l with
 | nil=>simp [ZH]
 | cons x l=>have:=znj x l;simp [ZH];omega
theorem zm0 (l:List Cl) (at_:Int):(qK l at_).length≤3 * l.length:=by
 have h1:=zoe (Xq (zcG at_ l))
 rw [zel] at h1
 exact Nat.le_trans h1 (zcy at_ l l.length)
theorem zil (x:Pt):∀ (r s:List Pt) (y:Pt),y∈zbC x r s↔y=x∨y∈r∨y∈s
 | [],s,y=>by simp [zbC]
 | z::r,s,y=>by
  rw [zbC]
  split
  ·rw [zil x r (z::s) y];grind
  ·grind
theorem ziw (l:List Pt) (y:Pt):y∈Xq l↔y∈l:=by
 have:∀ (l a:List Pt),y∈l.foldl zjg a↔y∈a∨y∈l:=by
  intro l
  induction l with
  | nil=>intro a;simp
  | cons x l ih =>
   intro a
   rw [List.foldl_cons,ih,zjg,zil]
   grind
 rw [Xq,this];simp
theorem zni {p y:Pt} {l:List Pt} (h:y∈Xz p l):y∈l:=by
 induction l generalizing p with
 | nil=>simp [Xz] at h
 | cons z l ih =>
  rw [Xz] at h
  split at h
  ·exact List.mem_cons_of_mem _ (ih h)
  ·rcases List.mem_cons.1 h with h|h
   ·simp [h]
   ·exact List.mem_cons_of_mem _ (ih h)
theorem zpa {y:Pt} {l:List Pt} (h:y∈ZH l):y∈l:=by
 cases l with
 | nil=>simp [ZH] at h
 | cons x l =>
  rcases List.mem_cons.1 h with h|h
  ·simp [h]
  ·exact List.mem_cons_of_mem _ (zni h)
theorem zeI {at_:Int} {l:List Cl} {y:Pt}:∀ {k:Nat},y∈zbB at_ l k→∃ j,j < k∧y∈yG j (l.getD j default)∧zcW at_ y=true
 | 0,h=>by simp [zbB] at h
 | k + 1,h=>by
  rw [zbB,List.mem_append,List.mem_filter] at h
  rcases h with h|h
  ·obtain ⟨j,h1,h2⟩:=zeI h;exact ⟨j,by omega,h2⟩
  ·exact ⟨k,by omega,h⟩
theorem zgz {l:List Cl} {at_:Int} {y:Pt} (h:y∈qK l at_):∃ j,j < l.length∧y∈yG j (l.getD j default)∧zcW at_ y=true :=
 zeI ((ziw _ _).1 (zpa h))
theorem zqq {k:Int} {c:Cl} {y:Pt} (h:y∈yG k c):y.c=k:=by
 unfold yG at h
 split at h <;> simp at h
 ·rcases h with rfl|rfl|rfl <;> rfl
 ·rcases h with rfl|rfl <;> rfl
end Go.Cg
namespace Go.Cg
end Go.Cg
namespace Go.Cg
open Go.Proofs
theorem zmQ {k:Int} {c:Cl} {x:Pt} (h:x∈yG k c):x.c=k∧(x.p=1∨x.p=2∨(x.p=3∧c.kind=2))∧bounds c x.p=(x.f,x.t):=by
 unfold yG at h
 by_cases hk:c.kind=2
 ·simp [hk] at h
  rcases h with rfl|rfl|rfl <;> simp [bounds,hk]
 ·simp [hk] at h
  rcases h with rfl|rfl <;> simp [bounds]
theorem zsF {n:Int} {c:Cl} (h:XL n c=0):meet c 1 c 2=false∧meet c 1 c 3=false∧meet c 2 c 3=false:=by
 unfold XL at h
 split at h
 ·simp at h
 ·split at h
  ·simp at h
  ·split at h
   ·simp at h
   ·rename_i h1
    simp only [Bool.or_eq_true,not_or,Bool.not_eq_true] at h1
    exact ⟨h1.1.1,h1.1.2,h1.2⟩
theorem zeT {n:Int} {l:List Cl} (h:(YM n l).2=0):(∀ i,i < l.length→XL n (l.getD i default)=0)∧∀ j i,i < l.length→j < i→zdm (l.getD j default) (l.getD i default)=true:=by
 have h6:¬ 6 < l.length:=fun h6=>by simp [YM,h6] at h
 have hall:∀ i,i < l.length→Xj n l i=0:=by
  intro i hi
  rw [YM,if_neg h6] at h
  split at h
  ·rename_i j hj
   have:=List.find?_some hj
   simp only [bne_iff_ne,ne_eq] at this
   exact absurd h this
  ·rename_i hn
   have:=List.find?_eq_none.1 hn i (List.mem_range.2 hi)
   simpa using this
 refine ⟨fun i hi=>zey (hall i hi),fun j i hi hj=>?_⟩
 have:=hall i hi
 rw [Xj,zey this] at this
 simp only [bne_self_eq_false,Bool.false_eq_true,if_false] at this
 split at this
 ·simp at this
 ·rename_i hb
  simp only [Vf,Bool.not_eq_true,List.any_eq_false,List.mem_range,Bool.not_eq_true'] at hb
  have:=hb j hj
  simpa using this
theorem zj7 {n:Int} {l:List Cl} (hc:(YM n l).2=0) {j:Nat} (hj:j < l.length) {y:Pt} (hy:y∈yG j (l.getD j default)):y.t≤n∧0≤y.f:=by
 have ha:=(zeT hc).1 j hj
 have hok:=zbL ha
 generalize l.getD j default=c at *
 have h1:c.tt≤n∧c.ht≤n:=by
  unfold XL at ha
  split at ha
  ·simp at ha
  ·rename_i h1
   simp only [zeg,zex,Bool.or_eq_true,decide_eq_true_eq,Bool.not_eq_true',Bool.and_eq_false_iff,decide_eq_false_iff_not,not_or,Decidable.not_not] at h1
   omega
 obtain ⟨_,p1,b1⟩:=zmQ hy
 have e:=hok.t;have e2:=hok.h;have e3:=hok.h0;have e4:=hok.t0
 rcases p1 with p1|p1|⟨p1,hk⟩ <;> rw [p1] at b1 <;> simp [bounds] at b1
 ·omega
 ·omega
 ·have:=hok.f hk
  rw [hk] at b1;simp at b1;omega
end Go.Cg
namespace Go.Cg
open Go.RowKit Go.Proofs
def zko (n:Int):Prop:=(Lit.int .i64 n).wf=true
theorem ztQ {H:Type} {enc:TypeId × Value→H} {w:World}:Rd enc Tryz.prog w 3 1 (fun ps=>∃ n,zko n∧ps=[.base (.int .i64 n)]):=Xy
theorem ztx {n:Int} (h:zko n) : -9223372036854775808≤n∧n≤9223372036854775807:=by
 simp [zko,Lit.wf,IntKind.has,IntKind.min,IntKind.max,IntKind.bits,IntKind.signed] at h;omega
theorem zpk {g:Img} (h:zny g):∀ m∈g.methods,∀ x∈m.code,zdX x:=fun m hm x hx=>by
 have:=((h.2.2.1 m hm).2.2.2.2.2.2.1 x hx).2.1
 simp [Lit.wf,IntKind.has,IntKind.min,IntKind.max,IntKind.bits,IntKind.signed] at this
 exact ⟨by omega,by omega⟩
end Go.Cg
namespace Go.Cg
open Go Go.Proofs
theorem zrR:laidOutB Tryz.checked.prog=true:=by kernel_rfl
theorem zr7:mapsRowed Tryz.checked.prog=true:=by kernel_rfl
theorem zqg:Tryz.checked.prog.stopsHeard=true:=by kernel_rfl
theorem zpP:Tryz.checked.prog.mayEnter=true:=by kernel_rfl
theorem zq0:Tryz.checked.prog.liftsFinal=false:=by kernel_rfl
theorem zse:Tryz.checked.prog.make=some .cut:=by kernel_rfl
end Go.Cg
