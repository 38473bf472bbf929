/- A part of the walks by abstract values: no statement of its own. -/
import Derived.Test.YtemhfmmhkimhmaaGreatV20
import Derived.Test.YtemhfmmhkimhmaaGreatV16
import Derived.Test.YtemhfmmhkimhmaaGreatV17
import Derived.Test.YtemhfmmhkimhmaaGreatV18
import Derived.Test.YtemhfmmhkimhmaaGreatV12
set_option linter.unusedVariables false
set_option linter.unusedSimpArgs false
namespace Go.Cg
inductive Rch (step:Int->List Int) (l:List Int):Int->Prop where
 | base (x:Int):x∈l->Rch step l x
 | step (x y:Int):Rch step l x->y∈step x->Rch step l y
theorem zsB {met:List Int} {x y:Int}:y∈YC met x↔y∈met\/y=x:=by
 unfold YC;split
 ·rename_i h;constructor
  ·exact .inl
  ·rintro (h1|rfl)
   ·exact h1
   ·exact h
 ·simp
theorem WV {y:Int}:∀ {l met:List Int},y∈l.foldl YC met↔y∈met\/y∈l
 | [],met=>by simp
 | x::l,met=>by
  rw [List.foldl_cons,WV (l:=l),zsB];simp only [List.mem_cons];constructor
  ·rintro ((h|h)|h)
   ·exact .inl h
   ·exact .inr (.inl h)
   ·exact .inr (.inr h)
  ·rintro (h|h|h)
   ·exact .inl (.inl h)
   ·exact .inl (.inr h)
   ·exact .inr h
theorem zix:∀ (l met:List Int),∃ r,l.foldl YC met=met++r
 | [],met=>⟨[],by simp⟩
 | x::l,met=>by
  obtain ⟨r,hr⟩:=zix l (YC met x);rw [List.foldl_cons,hr];unfold YC;split
  ·exact ⟨r,rfl⟩
  ·exact ⟨x::r,by simp⟩
theorem zfa {N:Nat} {step:Int->List Int} (hs:∀ x:Int,0<=x->x < N->∀ y∈step x,0<=y/\y < N):∀ (n i:Nat) (met:List Int),NInv N met->i<=met.length->N + 1<=n + i ->
  (∀ j (h:j < i) (h2:j < met.length),∀ y∈step met[j],y∈met) ->
  (∀ x∈met,x∈Wj step n i met)/\(∀ u∈Wj step n i met,∀ y∈step u,y∈Wj step n i met)/\(∀ x∈Wj step n i met,Rch step met x)/\NInv N (Wj step n i met)
 | 0,i,met,hm,hi,hn,hc=>by
  have:=hm.len;omega
 | n + 1,i,met,hm,hi,hn,hc=>by
  rw [Wj];by_cases hlt:i < met.length
  ·rw [List.getElem?_eq_getElem hlt];simp only;obtain ⟨h0,h1⟩:=hm.2 _ (List.getElem_mem hlt);have hst:=hs _ h0 h1;have hm2:=NInv.fold _ hm hst;obtain ⟨r,hr⟩:=zix (step met[i]) met;have hl:met.length<=((step met[i]).foldl YC met).length:=by rw [hr];simp
   obtain ⟨q1,q2,q3,q4⟩:=zfa hs n (i + 1) ((step met[i]).foldl YC met) hm2 zwy62 zwy62 (by
    intro j hj hj2 y hy;rw [WV];have hjm:j < met.length:=by omega
    have e:((step met[i]).foldl YC met)[j]=met[j]:=by simp only [hr];rw [List.getElem_append_left hjm]
    rw [e] at hy;by_cases hji:j=i
    ·subst hji;exact .inr hy
    ·exact .inl (hc j zwy62 hjm y hy))
   refine ⟨fun x hx=>q1 x (WV.2 (.inl hx)),q2,fun x hx=>?_,q4⟩;have:=q3 x hx;clear q1 q2 q3 q4 hx;induction this with
   | base x hx =>
    rcases WV.1 hx with h|h
    ·exact .base x h
    ·exact .step _ x (.base _ (List.getElem_mem hlt)) h
   | step x y _ hy ih=>exact .step x y ih hy
  ·rw [List.getElem?_eq_none zwy62];simp only;refine ⟨fun x hx=>hx,fun u hu y hy=>?_,fun x hx=>.base x hx,hm⟩;obtain ⟨j,hj,rfl⟩:=List.getElem_of_mem hu;exact hc j zwy62 hj y hy
theorem zdp {N:Nat} {step:Int->List Int} {l:List Int} (hs:∀ x:Int,0<=x->x < N->∀ y∈step x,0<=y/\y < N) (hl:∀ x∈l,0<=x/\x < N):(∀ x,x∈Wn N step l↔Rch step l x)/\NInv N (Wn N step l):=by
 have hm:NInv N (l.foldl YC []):=NInv.fold l ⟨by simp,by simp⟩ hl;obtain ⟨q1,q2,q3,q4⟩:=zfa hs (N + 1) 0 (l.foldl YC []) hm zwy62 zwy62 (fun j h=>by omega);refine ⟨fun x=>⟨fun hx=>?_,fun hx=>?_⟩,q4⟩
 ·have:=q3 x hx;clear hx;induction this with
  | base x hx=>exact .base x (by simpa using WV.1 hx)
  | step x y _ hy ih=>exact .step x y ih hy
 ·induction hx with
  | base x hx=>exact q1 x (WV.2 (.inr hx))
  | step x y _ hy ih=>exact q2 x ih y hy
def RF (g:Img) (t f:Int):Prop:=Rch (yP g) ((up g t).flatMap (yP g)) f
theorem zuQ {g:Img} (hF:Fm g) (t:Int):∀ x∈(up g t).flatMap (yP g),0<=x/\x < g.types.length:=by
 intro x hx;obtain ⟨u,_,h⟩:=List.mem_flatMap.1 hx;exact (hF.at u).2 x h
theorem ziL {g:Img} (hF:Fm g) (t:Int):(∀ x,x∈Wn g.types.length (yP g) ((up g t).flatMap (yP g))↔Rch (yP g) ((up g t).flatMap (yP g)) x)/\NInv g.types.length (Wn g.types.length (yP g) ((up g t).flatMap (yP g))):=zdp (N:=g.types.length) (step:=yP g) (l:=(up g t).flatMap (yP g)) (fun x _ _=>(hF.at x).2) (zuQ hF t)
theorem zif {g:Img} (hF:Fm g) {t f:Int}:f∈Ym g t↔RF g t f:=by
 rw [Ym,zgo];exact (ziL hF t).1 f
theorem zui {g:Img} {met:List Int} {f:Int} (h:there g f=true):zaH g met f=YC met f:=by
 unfold zaH YC;by_cases hm:f∈met
 ·simp [hm]
 ·simp [hm,h]
theorem zmj {g:Img}:∀ (l met:List Int),(∀ f∈l,there g f=true)->l.foldl (zaH g) met=l.foldl YC met
 | [],met,_=>rfl
 | f::l,met,h=>by
  rw [List.foldl_cons,List.foldl_cons,zui (h f zwy63)];exact zmj l _ fun x hx=>h x (by simp [hx])
theorem zit {g:Img} (hF:Fm g) (met:List Int) (u:Int):Xx g met u=(yP g u).foldl YC met :=
 zmj _ _ fun f hf=>zac ((hF.at u).2 f hf)
theorem zmR {g:Img} (hF:Fm g):∀ (us met:List Int),us.foldl (Xx g) met=(us.flatMap (yP g)).foldl YC met
 | [],met=>rfl
 | u::us,met=>by rw [List.foldl_cons,zit hF,List.flatMap_cons,List.foldl_append];exact zmR hF us _
theorem zl2 {g:Img} (hF:Fm g):∀ (n i:Nat) (met:List Int),zeb g n i met=Wj (yP g) n i met
 | 0,_,_=>rfl
 | n + 1,i,met=>by
  rw [zeb,Wj];cases met[i]? with
  | none=>rfl
  | some u=>simp only;rw [zit hF];exact zl2 hF n _ _
theorem zuN {g:Img} (hF:Fm g) (t:Int):zju g t=Wn g.types.length (yP g) ((up g t).flatMap (yP g)):=by
 rw [zju,zl2 hF,zmx,zmR hF];rfl
theorem ziP {n:Nat} {x:Int}:x∈nums n↔0<=x/\x < n:=by
 simp only [nums,List.mem_map,List.mem_range];constructor
 ·rintro ⟨k,hk,rfl⟩;omega
 ·intro h;exact ⟨x.toNat,by omega,by omega⟩
theorem zek {g:Img} (hF:Fm g) {t f:Int}:f∈Zo g t↔RF g t f:=by
 rw [Zo,List.mem_filter,zuN hF,ziP];simp only [decide_eq_true_eq];rw [(ziL hF t).1 f];exact ⟨fun h=>h.2,fun h=>⟨(ziL hF t).2.2 f (((ziL hF t).1 f).2 h),h⟩⟩
structure Wl (g:Img):Prop where
 fm:Fm g
 ext:∀ t td,typeAt g t=some td -> -1<=td.ext/\td.ext < g.types.length
 flags:∀ t td,typeAt g t=some td->0<=td.flags/\td.flags<=31
 flag:∀ t td,typeAt g t=some td->Zg td=true
 hang:∀ t td,typeAt g t=some td->QE g t td=true
theorem zbB {g:Img} (h:Yz g=true):Wl g:=by
 have hf:=Yx h;have hb:=(yg hf).2.2.2;have hck:∀ j,j < g.types.length->Zi g j=0:=by
  intro j hj;refine Classical.byContradiction fun hne=>?_
  have hex:∃ k,k < g.types.length/\Zi g k≠0/\∀ i,i < k->Zi g i=0:=by
   induction j using Nat.strongRecOn with
   | _ j ih =>
    by_cases hmin:∀ i,i < j->Zi g i=0
    ·exact ⟨j,hj,hne,hmin⟩
    ·rcases Classical.not_forall.1 hmin with ⟨i,hi⟩
     have hij:i < j:=Classical.byContradiction fun h=>hi (fun h'=>(h h').elim)
     exact ih i hij zwy62 (fun e=>hi fun _=>e)
  obtain ⟨k,hk,hk1,hk2⟩:=hex;have:=zh1 hf hk hk2 hk1;rw [Yz,this] at h;simp at h;exact hk1 h
 have htd:∀ t td,typeAt g t=some td->∃ k:Nat,t=k/\∃ h:k < g.types.length,g.types[k]=td:=by
  intro t td ht;have hlt:=Vp ht;refine ⟨t.toNat,by omega,by omega,?_⟩;have:=zcy (g:=g) (k:=t.toNat) zwy62;rw [Int.toNat_of_nonneg hlt.1,ht] at this;exact (Option.some.inj this).symm
 have hcases:∀ t td,typeAt g t=some td->Zg td=true/\QE g t td=true:=by
  intro t td ht;obtain ⟨k,rfl,hk,rfl⟩:=htd t td ht;have:=hck k hk;rw [zcC hk] at this;cases h1:Zg g.types[k] <;> cases h2:QE g k g.types[k] <;> simp [h1,h2] at this ⊢
 refine ⟨zc5 hf,?_,?_,fun t td ht=>(hcases t td ht).1,fun t td ht=>(hcases t td ht).2⟩
 ·intro t td ht;obtain ⟨_,_,h3,h4,_⟩:=Yw (hb td (za6 ht));exact ⟨h3,h4⟩
 ·intro t td ht;obtain ⟨h1,h2,_⟩:=Yw (hb td (za6 ht));exact ⟨h1,h2⟩
def zdV (g:Img):Int->List Int->Prop
 | _,[]=>True
 | t,x::l=>x=t/\∃ td,typeAt g t=some td/\zdV g td.ext l
theorem zi5 {g:Img}:∀ (n:Nat) (t:Int) (out:List Int),∃ l,zaI g n t out=out++l/\zdV g t l
 | 0,t,out=>⟨[],by simp [zaI],trivial⟩
 | n + 1,t,out=>by
  rw [zaI];cases ht:typeAt g t with
  | none=>exact ⟨[],by simp,trivial⟩
  | some td =>
   by_cases hm:t∈out
   ·exact ⟨[],by simp [hm],trivial⟩
   ·obtain ⟨l,h1,h2⟩:=zi5 n td.ext (out++[t]);exact ⟨t::l,by simp only [hm,if_false];rw [h1];simp,rfl,td,ht,h2⟩
theorem zmu (g:Img) (t:Int):zdV g t (up g t):=by
 obtain ⟨l,h1,h2⟩:=zi5 (g:=g) (g.types.length + 1) t [];rw [up,h1];exact h2
def ch (g:Img):Nat->Int->List Int
 | 0,_=>[]
 | n + 1,t=>match typeAt g t with|some td=>t::ch g n td.ext|none=>[]
def znF (g:Img) (t:Int):Int:=match typeAt g t with|some td=>td.ext|none => -1
theorem zf0 {g:Img}:∀ (l:List Int) (t:Int),zdV g t l->l≠[]->typeAt g (znF g (l.getLastD 0))=none->∀ m,l.length<=m->ch g m t=l
 | [],t,_,hne,_,_,_=>(hne rfl).elim
 | x::l,t,hc,_,he,m,hm=>by
  obtain ⟨rfl,td,htd,hc'⟩:=hc;obtain ⟨m,rfl⟩:∃ m',m=m' + 1:=⟨m - 1,by simp at hm;omega⟩
  rw [ch,htd];simp only;cases l with
  | nil =>
   simp only [List.getLastD_cons,List.getLastD_nil,znF,htd] at he;cases m with
   | zero=>rfl
   | succ m=>rw [ch,he]
  | cons y l =>
   rw [zf0 (y::l) td.ext hc' zwy63 (by simpa [List.getLastD_cons] using he) m (by simp at hm ⊢;omega)]
theorem up_nil {g:Img} {t:Int} (h:typeAt g t=none):up g t=[]:=by rw [up,zaI,h]
theorem Wl.top {g:Img} (hW:Wl g) {t:Int} {td:TD} (ht:typeAt g t=some td):typeAt g (znF g ((up g t).getLastD 0))=none:=by
 obtain ⟨r,hr⟩:=ze4 ht;have hh:=hW.hang t td ht;simp only [QE,Bool.and_eq_true,WH,Bool.or_eq_true,Bool.not_eq_true',decide_eq_false_iff_not,beq_iff_eq,decide_eq_true_eq] at hh;obtain ⟨⟨h1,_⟩,_⟩:=hh;have hneg:∀ x:Int,x < 0->typeAt g x=none:=by
  intro x hx;rw [typeAt,if_neg zwy62]
 by_cases hx:0<=td.ext
 ·rcases h1 with h1|h1
  ·exact (h1 hx).elim
  ·have h3:Vk g t < 0:=h1.2;have:Vk g t=znF g ((up g t).getLastD 0):=rfl;rw [<-this];exact hneg _ h3
 ·have hu:up g t=[t]:=by
   rw [up,zaI,ht];simp only [List.not_mem_nil,if_false,List.nil_append];cases g.types.length with
   | zero=>rfl
   | succ n=>rw [zaI,hneg _ zwy62]
  rw [hu];simp only [List.getLastD_cons,List.getLastD_nil,znF,ht];exact hneg _ zwy62
theorem Wl.up_eq {g:Img} (hW:Wl g) (t:Int):up g t=ch g (g.types.length + 1) t:=by
 cases ht:typeAt g t with
 | none=>rw [up_nil ht,ch,ht]
 | some td =>
  obtain ⟨r,hr⟩:=ze4 ht;have hui:=WO g t;have hul:=ZC _ _ hui.1 hui.2;exact (zf0 _ t (zmu g t) (by rw [hr];simp) (hW.top ht) _ zwy62).symm
theorem Wl.up_cons {g:Img} (hW:Wl g) {t:Int} {td:TD} (ht:typeAt g t=some td):up g t=t::up g td.ext:=by
 obtain ⟨r,hr⟩:=ze4 ht;have hui:=WO g t;have hul:=ZC _ _ hui.1 hui.2;have h1:=zf0 _ t (zmu g t) (by rw [hr];simp) (hW.top ht) (g.types.length + 2) zwy62;rw [<-h1,ch,ht,hW.up_eq]
theorem Wl.up_len {g:Img} (hW:Wl g):∀ (n:Nat) (a b:Int),(up g a).length<=n->b∈up g a->(∀ x∈up g b,x∈up g a)/\(b=a\/(up g b).length < (up g a).length)
 | 0,a,b,hn,hb=>by
  have:up g a=[]:=List.eq_nil_of_length_eq_zero zwy62;rw [this] at hb;simp at hb
 | n + 1,a,b,hn,hb=>by
  cases ha:typeAt g a with
  | none=>rw [up_nil ha] at hb;simp at hb
  | some td =>
   have e:=hW.up_cons ha;rw [e] at hb hn ⊢;rcases List.mem_cons.1 hb with rfl|hb
   ·rw [e];exact ⟨fun x hx=>hx,.inl rfl⟩
   ·obtain ⟨h1,h2⟩:=hW.up_len n td.ext b (by simp at hn;omega) hb;refine ⟨fun x hx=>List.mem_cons_of_mem _ (h1 x hx),.inr ?_⟩;rcases h2 with rfl|h2
    ·simp
    ·simp;omega
theorem Wl.up_trans {g:Img} (hW:Wl g) {a b c:Int} (h1:b∈up g a) (h2:c∈up g b):c∈up g a:=(hW.up_len _ a b (Nat.le_refl _) h1).1 c h2
theorem Wl.face_kind {g:Img} (hW:Wl g) {u f:Int} (h:f∈yP g u):zV g f=2:=by
 unfold yP at h;cases hu:typeAt g u with
 | none=>rw [hu] at h;simp at h
 | some td =>
  rw [hu] at h;simp only at h;have hh:=hW.hang u td hu;simp only [QE,Bool.and_eq_true,List.all_eq_true,List.mem_range,VB,beq_iff_eq] at hh;obtain ⟨⟨_,h2⟩,_⟩:=hh;obtain ⟨j,hj,rfl⟩:=List.getElem_of_mem h;have:=(h2 j hj).1
  rwa [zQ hj] at this
theorem Wl.rf_kind {g:Img} (hW:Wl g) {t f:Int} (h:RF g t f):zV g f=2:=by
 cases h with
 | base _ hx=>obtain ⟨u,_,h⟩:=List.mem_flatMap.1 hx;exact hW.face_kind h
 | step x _ _ hy=>exact hW.face_kind hy
theorem zjf {g:Img} {t k:Int} (h:zV g t=k) (hk:0<=k):∃ td,typeAt g t=some td/\WX td.flags=k:=by
 unfold zV at h;cases ht:typeAt g t with
 | none=>rw [ht] at h;simp at h;omega
 | some td=>rw [ht] at h;exact ⟨td,rfl,h⟩
theorem Wl.face_up {g:Img} (hW:Wl g) {t:Int} (h:zV g t=2):up g t=[t]:=by
 obtain ⟨td,ht,hk⟩:=zjf h zwy62;have hfl:=hW.flag t td ht;have hext:td.ext = -1:=by
  simp [Zg,hk] at hfl;exact hfl.1.1.1.1
 rw [hW.up_cons ht,hext,up_nil (by rw [typeAt,if_neg (by omega)])]
theorem RF.up {g:Img} (hW:Wl g) {a b f:Int} (h:b∈up g a) (hf:RF g b f):RF g a f:=by
 induction hf with
 | base x hx =>
  obtain ⟨u,hu,hxu⟩:=List.mem_flatMap.1 hx;exact .base x (List.mem_flatMap.2 ⟨u,hW.up_trans h hu,hxu⟩)
 | step x y _ hy ih=>exact .step x y ih hy
theorem RF.trans {g:Img} (hW:Wl g) {a b f:Int} (h:RF g a b) (hf:RF g b f):RF g a f:=by
 have hu:=hW.face_up (hW.rf_kind h);induction hf with
 | base x hx =>
  obtain ⟨u,hu',hxu⟩:=List.mem_flatMap.1 hx;rw [hu] at hu';simp at hu';subst hu';exact .step _ x h hxu
 | step x y _ hy ih=>exact .step x y ih hy
def Bl (g:Img) (a b:Int):Prop:=b∈up g a\/RF g a b
theorem Wl.trans {g:Img} (hW:Wl g) {a b c:Int} (h1:Bl g a b) (h2:Bl g b c):Bl g a c:=by
 rcases h1 with h1|h1 <;> rcases h2 with h2|h2
 ·exact .inl (hW.up_trans h1 h2)
 ·exact .inr (h2.up hW h1)
 ·rw [hW.face_up (hW.rf_kind h1)] at h2;simp at h2;subst h2;exact .inr h1
 ·exact .inr (RF.trans hW h1 h2)
theorem Wl.refl {g:Img} (hW:Wl g) {a:Int} {td:TD} (h:typeAt g a=some td):Bl g a a:=by
 rw [Bl,hW.up_cons h];simp
end Go.Cg
namespace Go.Cg
open Go.Proofs
def zeK (at_:Int) (x:Pt):Bool:=decide (x.f<=at_)&&decide (at_ < x.t)
def zc3 (at_:Int) (l:List Cl):Nat->List Pt
 | 0=>[]
 | k + 1=>zc3 at_ l k++(yL k (l.getD k default)).filter (zeK at_)
def zd1 (at_:Int) (l:List Cl):List Pt:=zc3 at_ l l.length
def zoJ (a b:Pt):Int:=if (a.t - a.f) - (b.t - b.f)=0 then a.c - b.c else (a.t - a.f) - (b.t - b.f)
def zc2 (x:Pt):List Pt->List Pt->List Pt
 | [],s=>x::s
 | y::r,s=>if zoJ x y < 0 then zc2 x r (y::s) else (y::r).reverse++x::s
def zli (l:List Pt) (x:Pt):List Pt:=zc2 x l.reverse []
def WQ (l:List Pt):List Pt:=l.foldl zli []
def zjM (a b:Pt):Bool:=a.f==b.f&&(a.t==b.t&&true)
def WL (p:Pt):List Pt->List Pt
 | []=>[]
 | y::l=>if zjM y p then WL y l else y::WL y l
def Yg:List Pt->List Pt
 | []=>[]
 | x::l=>x::WL x l
def qW (l:List Cl) (at_:Int):List Pt:=Yg (WQ (zd1 at_ l))
theorem zgn (x:Pt):∀ (r s:List Pt),(zc2 x r s).length=r.length + s.length + 1
 | [],s=>by simp [zc2]
 | y::r,s=>by
  rw [zc2];split
  ·rw [zgn x r (y::s)];simp;omega
  ·simp;omega
theorem zna (l:List Pt) (x:Pt):(zli l x).length=l.length + 1:=by rw [zli,zgn];simp
theorem zge (l:List Pt):(WQ l).length=l.length:=by
 have:∀ (l a:List Pt),(l.foldl zli a).length=a.length + l.length:=by
  intro l;induction l with
  | nil=>intro a;simp
  | cons x l ih=>intro a;rw [List.foldl_cons,ih,zna];simp;omega
 rw [WQ,this];simp
theorem zih (k:Int) (c:Cl):(yL k c).length<=3:=by unfold yL;split <;> simp
theorem zdR (at_:Int) (l:List Cl):∀ k,(zc3 at_ l k).length<=3 * k
 | 0=>by simp [zc3]
 | k + 1=>by
  rw [zc3,List.length_append];have h1:=zdR at_ l k;have h2:=List.length_filter_le (zeK at_) (yL k (l.getD k default));have h3:=zih k (l.getD k default);omega
theorem zpk (p:Pt) (l:List Pt):(WL p l).length<=l.length:=by
 induction l generalizing p with
 | nil=>simp [WL]
 | cons y l ih =>
  rw [WL];split
  ·have:=ih y;simp;omega
  ·have:=ih y;simp;omega
theorem zri (l:List Pt):(Yg l).length<=l.length:=by
 cases l with
 | nil=>simp [Yg]
 | cons x l=>have:=zpk x l;simp [Yg];omega
theorem zol (l:List Cl) (at_:Int):(qW l at_).length<=3 * l.length:=by
 have h1:=zri (WQ (zd1 at_ l));rw [zge] at h1;exact Nat.le_trans h1 (zdR at_ l l.length)
theorem zjZ (x:Pt):∀ (r s:List Pt) (y:Pt),y∈zc2 x r s↔y=x\/y∈r\/y∈s
 | [],s,y=>by simp [zc2]
 | z::r,s,y=>by
  rw [zc2];split
  ·rw [zjZ x r (z::s) y];grind
  ·grind
theorem zkk (l:List Pt) (y:Pt):y∈WQ l↔y∈l:=by
 have:∀ (l a:List Pt),y∈l.foldl zli a↔y∈a\/y∈l:=by
  intro l;induction l with
  | nil=>intro a;simp
  | cons x l ih =>
   intro a;rw [List.foldl_cons,ih,zli,zjZ]
   grind
 rw [WQ,this];simp
theorem zpD {p y:Pt} {l:List Pt} (h:y∈WL p l):y∈l:=by
 induction l generalizing p with
 | nil=>simp [WL] at h
 | cons z l ih =>
  rw [WL] at h;split at h
  ·exact List.mem_cons_of_mem _ (ih h)
  ·rcases List.mem_cons.1 h with h|h
   ·simp [h]
   ·exact List.mem_cons_of_mem _ (ih h)
theorem zrO {y:Pt} {l:List Pt} (h:y∈Yg l):y∈l:=by
 cases l with
 | nil=>simp [Yg] at h
 | cons x l =>
  rcases List.mem_cons.1 h with h|h
  ·simp [h]
  ·exact List.mem_cons_of_mem _ (zpD h)
theorem zgz {at_:Int} {l:List Cl} {y:Pt}:∀ {k:Nat},y∈zc3 at_ l k->∃ j,j < k/\y∈yL j (l.getD j default)/\zeK at_ y=true
 | 0,h=>by simp [zc3] at h
 | k + 1,h=>by
  rw [zc3,List.mem_append,List.mem_filter] at h;rcases h with h|h
  ·obtain ⟨j,h1,h2⟩:=zgz h;exact ⟨j,by omega,h2⟩
  ·exact ⟨k,by omega,h⟩
theorem zhX {l:List Cl} {at_:Int} {y:Pt} (h:y∈qW l at_):∃ j,j < l.length/\y∈yL j (l.getD j default)/\zeK at_ y=true :=
 zgz ((zkk _ _).1 (zrO h))
theorem ztV {k:Int} {c:Cl} {y:Pt} (h:y∈yL k c):y.c=k:=by
 unfold yL at h;split at h <;> simp at h
 ·rcases h with rfl|rfl|rfl <;> rfl
 ·rcases h with rfl|rfl <;> rfl
set_option maxHeartbeats 20000000
structure SmP (x:Pt):Prop where
 f:0<=x.f/\x.f<=1000000
 t:0<=x.t/\x.t<=1000000
 c:0<=x.c/\x.c<=1000000
theorem zmA (a b:Pt) (ha:SmP a) (hb:SmP b):ACall Tryz.prog 164 [yT a,yT b] (pi (zoJ a b)):=by
 have ha1:=ha.f;have ha2:=ha.t;have ha3:=ha.c;have hb1:=hb.f;have hb2:=hb.t;have hb3:=hb.c;have e1:IntKind.i64.wrap (a.t - a.f)=a.t - a.f:=wrap_in zwy62 zwy62;have e2:IntKind.i64.wrap (b.t - b.f)=b.t - b.f:=wrap_in zwy62 zwy62;have e3:IntKind.i64.wrap ((a.t - a.f) - (b.t - b.f))=(a.t - a.f) - (b.t - b.f):=wrap_in zwy62 zwy62;have e4:IntKind.i64.wrap (a.c - b.c)=a.c - b.c:=wrap_in zwy62 zwy62;by_cases h:(a.t - a.f) - (b.t - b.f)=0
 ·have hc:(!(IntKind.i64.wrap (IntKind.i64.wrap (a.t - a.f) - IntKind.i64.wrap (b.t - b.f))==0))=false:=by rw [e1,e2,e3,h];rfl
  refine zh zf Tryz.func164 rfl zws Tryz.ntmps164 zwy63 _ rfl (fun hw gB hgB=>?_)
  repeat' (first|refine sA ?_|refine sC (fun _=>?_) (fun _=>?_)|fail)
  all_goals (refine ak ?_;simp [zn,zoJ,h,e4])
 ·have hc:(!(IntKind.i64.wrap (IntKind.i64.wrap (a.t - a.f) - IntKind.i64.wrap (b.t - b.f))==0))=true:=by rw [e1,e2,e3];simpa using h
  refine zh zf Tryz.func164 rfl zws Tryz.ntmps164 zwy63 _ rfl (fun hw gB hgB=>?_)
  repeat' (first|refine sA ?_|refine sC (fun _=>?_) (fun _=>?_)|fail)
  all_goals (refine ak ?_;simp [zn,zoJ,h,e1,e2,e3])
abbrev zck (us:Nat->Value) (l:List Pt):HEnv:=[(0,.mrow 160 4 (l.map yT)),(1000,.pin (.own 0) (us 0))]
def zuv (us:Nat->Value) (A:List PV) (k:Nat) (p q:PV):Nat->HEnv
 | 0=>[(0,.mrow 160 4 A),(1000,.pin (.own 0) (us 0))]
 | 1=>(0,.mrow 160 4 (A.set (k + 1) p))::[(0,.mrow 160 4 A),(1000,.pin (.own 0) (us 0))]
 | _=>(0,.mrow 160 4 ((A.set (k + 1) p).set k q))::(0,.mrow 160 4 (A.set (k + 1) p))::[(0,.mrow 160 4 A),(1000,.pin (.own 0) (us 0))]
abbrev zto (us:Nat->Value):HEnv:=[(0,.dead),(1000,.pin (.own 0) (us 0))]
theorem zqK (us:Nat->Value) (A:List PV) (k:Nat) (x y:PV):∀ p,p < 3->qM (zuv us A k x y p) (zto us)=true/\qM (zto us) (zuv us A k x y p)=true:=by
 intro p h;have hp:p=0\/p=1\/p=2:=by omega
 rcases hp with rfl|rfl|rfl <;> exact ⟨rfl,rfl⟩
theorem zrr (us:Nat->Value) (A:List PV) (k:Nat) (x y:PV) {gB:Base}:∀ p,p<=2->∀ K ρ w,FS gB K ρ (zuv us A k x y p) w->FS gB K ρ (zto us) w:=by
 intro p h K ρ w hf;have hp:p=0\/p=1\/p=2:=by omega
 rcases hp with rfl|rfl|rfl <;> exact (hf.kill 0).narrow (e:=[]) tH
theorem zsW (a b:Pt) (r t:List Pt):(((r.reverse++a::b::t).map yT).set (r.length + 1) (yT a)).set r.length (yT b)=(r.reverse++b::a::t).map yT:=by
 apply List.ext_getElem?;intro i;simp only [List.getElem?_set,List.length_set,List.length_map,List.length_append,List.length_reverse,List.length_cons,List.map_append,List.map_cons,List.getElem?_append,List.length_map];by_cases h1:r.length=i
 ·subst h1;simp
 ·by_cases h2:r.length + 1=i
  ·subst h2;simp
  ·simp only [h1,h2,if_false];by_cases h3:i < r.length
   ·simp [h3]
   ·simp only [h3,if_false];obtain ⟨m,rfl⟩:∃ m,i=r.length + (m + 2):=⟨i - r.length - 2,by omega⟩
    simp
theorem zwk17 {G:Prop} (h:G:=by repeat' (first|(have:=b0;refine XG 18 18 [15,17] [[37,38,42,43,44,45,46,47,48,49,50,51],[52]] (zuv us A k (yT y) (yT x)) (fun _=>zto us) (zto us) none rfl zws zws zws zws zws zws zws (fun p hp=>zqK us A k _ _ p (by simp at hp;omega)) rfl (fun p hp=>zrr us A k _ _ p hp) rfl (fun _ _ _ _=>rfl) (fun _ _=>rfl) tH rfl (fun v hv=>by cases hv) ?_)|(have:=b0;refine zcv 0 2 [13,15] rfl rfl zws ?_)|(have:=b0;refine zaY 3 [10,12] rfl rfl ?_)|(have:=b0;refine zcv 0 10 [0,2] rfl rfl zws ?_)|(have:=b0;refine Xn [1] (.pv (.tup [])) rfl rfl rfl ?_)|(have:=b0;refine zcv 1 1 [0] rfl rfl zws ?_)|(have:=b0;refine Xn [] (.pv (.tup [])) rfl rfl rfl ?_)|(have:=b0;refine Xf ?_)|(have:=b0;refine ⟨⟨rfl,Yu (k:=k + 1) (j:=0) zf rfl rfl rfl rfl g1 rfl rfl rfl rfl,.inl rfl⟩,?_⟩)|(have:=b0;refine ⟨⟨rfl,Yu (k:=k) (j:=0) zf rfl rfl rfl rfl g0' rfl rfl rfl rfl,.inl rfl⟩,?_⟩)|(have:=b0;intro _)|(have:=b0;refine Vy ?_)|(have:=b1;refine zy rfl (au (k:=k) (j:=0) g0) rfl rfl ?_)|(have:=b1;refine zq rfl (au (k:=k) (j:=0) g0) rfl rfl ?_)|(have:=b1;refine zy rfl (au (k:=k + 1) (j:=0) g1) rfl rfl ?_)|(have:=b1;refine zq rfl (au (k:=k + 1) (j:=0) g1) rfl rfl ?_)|(refine shC ?_;first|(have:=b1;refine qV (cb) ?_))|(refine shX ?_;first|(have:=b1;refine zy rfl (zM (k:=k) zf rfl rfl rfl rfl rfl rfl rfl hix h0) rfl rfl ?_)|(have:=b1;refine zq rfl (zM (k:=k) zf rfl rfl rfl rfl rfl rfl rfl hix h0) rfl rfl ?_)|(have:=b1;refine zy rfl (aA (k:=k + 1) h1) rfl rfl ?_)|(have:=b1;refine zq rfl (aA (k:=k + 1) h1) rfl rfl ?_)|(have:=b0;refine zy rfl (zM (k:=k) zf rfl rfl rfl rfl rfl rfl rfl hix h0') rfl rfl ?_)|(have:=b0;refine zq rfl (zM (k:=k) zf rfl rfl rfl rfl rfl rfl rfl hix h0') rfl rfl ?_))|refine sK ?_|refine sC (fun _=>?_) (fun _=>?_)|(have:=b2;exact ⟨i + 1,by omega,tD,tS,⟨Zq rfl (by rw [hnext,<-hgo];simp [zc2]) zwy67,rfl⟩⟩)|(have:=b0;exact ⟨(r,y::t),⟨hgo',fun z hz=>hr z (List.mem_cons_of_mem _ hz)⟩,Nat.lt_succ_self r.length,by repeat (first|exact yN|refine yB rfl ?_|(refine qZ rfl ?_ ?_;· (show IntKind.i64.wrap _=((r.length:Nat):Int);rw [hix,hk]))),⟨Zq rfl (by rw [sw,hD];simp) zwy67,rfl⟩⟩)|(have:=b3;exact ⟨i + 1,by omega,tD,tS,⟨Zq rfl (by rw [hnext,<-hgo',hA,hD];simp) zwy67,rfl⟩⟩)|(have:=b4;exact ⟨.inl rfl,.inl ⟨[],rfl,rfl,⟨Zq rfl (by rw [List.take_of_length_le (by omega),List.drop_eq_nil_of_le (by omega),List.append_nil]) zwy67,rfl⟩⟩⟩)|fail)):G:=h
theorem zlq (l:List Pt) (hl:l.length<=1000) (hs:∀ x∈l,SmP x) (us:Nat->Value) :
  ACallM Tryz.prog 244 [.own 0,.pv (pi 0),.pv (pi l.length),.pv (.fn (.func 164) [] [])] (zck us l) (.pv (.tup [])) (zck us (WQ l)):=by
 refine Zk zf Tryz.func244 rfl zws Tryz.ntmps244 zwy63 _ rfl (fun gB hw1=>?_)
 repeat' (first|refine sA ?_|refine sC (fun _=>?_) (fun _=>?_)|fail)
 refine zL (fun i:Nat=>[(0,.own 0),(1,.pv (pi 0)),(2,.pv (pi l.length)),(3,.pv (.fn (.func 164) [] [])),(8,.pv (pi i))])
  (fun i=>zck us (WQ (l.take i)++l.drop i)) (fun i=>1<=i/\i<=l.length + 1) (fun i=>l.length + 1 - i) 1 zwy62 (tS) ⟨Zq rfl (by cases l <;> rfl) zwy67,rfl⟩ ?_
 rintro i ⟨hi1,hi2⟩;by_cases hlt:i < l.length
 ·obtain ⟨x,hx⟩:∃ x,x=l[i]:=⟨_,rfl⟩
  obtain ⟨s,hsd⟩:∃ s,s=WQ (l.take i):=⟨_,rfl⟩
  have hxs:SmP x:=by rw [hx];exact hs _ (List.getElem_mem hlt)
  have hss:∀ y∈s,SmP y:=fun y hy=>by rw [hsd,zkk] at hy;exact hs y (List.mem_of_mem_take hy)
  have hsl:s.length=i:=by rw [hsd,zge];simp;omega
  have hnext:WQ (l.take (i + 1))=zli s x:=by
   rw [List.take_succ_eq_append_getElem hlt,WQ,List.foldl_append,hsd,hx];rfl
  have hdrop:l.drop i=x::l.drop (i + 1):=by rw [hx];exact List.drop_eq_getElem_cons hlt
  rw [<-hsd,hdrop]
  repeat' (first|refine sK ?_|refine sC (fun _=>?_) (fun _=>?_)|fail)
  refine zL (fun st:List Pt × List Pt=>[(0,.own 0),(1,.pv (pi 0)),(2,.pv (pi l.length)),(3,.pv (.fn (.func 164) [] [])),(8,.pv (pi i)),(9,.pv (pi st.1.length))])
   (fun st=>zck us (st.1.reverse++x::(st.2++l.drop (i + 1)))) (fun st=>zc2 x st.1 st.2=zli s x/\∀ y∈st.1,SmP y) (fun st=>st.1.length) (s.reverse,[]) ⟨rfl,fun y hy=>hss y (by simpa using hy)⟩
   (by repeat (first|exact yN|refine yB rfl ?_|(refine qZ rfl ?_ ?_;· (show (i:Int)=((s.reverse.length:Nat):Int);simp [hsl])))) ⟨Zq rfl zwy63 zwy67,rfl⟩ ?_
  rintro ⟨r,t⟩ ⟨hgo,hr⟩;cases r with
  | nil =>
   have b2:=();exact zwk17
  | cons y r =>
   obtain ⟨D,hD⟩:∃ D,D=t++l.drop (i + 1):=⟨_,rfl⟩
   have hgo':zc2 x (y::r) t=zli s x:=hgo;rw [zc2] at hgo';have hsy:SmP y:=hr y zwy63;have hrl:r.length < 1000:=by
    have h1:=congrArg List.length hgo';rw [zna,hsl] at h1;split at h1
    ·rw [zgn] at h1;simp at h1;omega
    ·simp at h1;omega
   have cb:=zmA x y hxs hsy;have e0:(y::r).reverse++x::(t++l.drop (i + 1))=r.reverse++y::x::D:=by rw [hD];simp
   have g0:((r.reverse++y::x::D).map yT)[r.length]?=some (yT y):=by simp
   have g1:((r.reverse++y::x::D).map yT)[r.length + 1]?=some (yT x):=by
    rw [List.getElem?_map,List.getElem?_append_right zwy63];simp
   have h0:r.length < ((r.reverse++y::x::D).map yT).length:=by simp
   have h1:r.length + 1 < ((r.reverse++y::x::D).map yT).length:=by simp
   have sw:=zsW y x r D;show AW _ _ _ _ [(0,.own 0),(1,.pv (pi 0)),(2,.pv (pi l.length)),(3,.pv (.fn (.func 164) [] [])),(8,.pv (pi i)),(9,.pv (pi (r.length + 1:Nat)))] (zck us ((y::r).reverse++x::(t++l.drop (i + 1)))) _
   rw [e0];obtain ⟨k,hk⟩:∃ k,k=r.length:=⟨_,rfl⟩
   obtain ⟨A,hA⟩:∃ A,A=(r.reverse++y::x::D).map yT:=⟨_,rfl⟩
   rw [<-hk] at g0 g1 h0 h1 sw hrl ⊢;show AW _ _ _ _ _ [(0,.mrow 160 4 ((r.reverse++y::x::D).map yT)),(1000,.pin (.own 0) (us 0))] _
   rw [<-hA] at g0 g1 h0 h1 sw ⊢;have hp:decide ((0:Int) < ((k + 1:Nat):Int))=true:=decide_eq_true zwy62;have hix:IntKind.i64.wrap (((k + 1:Nat):Int) - 1)=(k:Nat):=by rw [wrap_in zwy62 zwy62];omega
   by_cases hb:zoJ x y < 0
   ·have hbd:decide (zoJ x y < 0)=true:=decide_eq_true hb;rw [if_pos hb] at hgo';have h0':k < (A.set (k + 1) (yT y)).length:=by rw [List.length_set];exact h0
    have g0':(A.set (k + 1) (yT y))[k]?=some (yT y):=by rw [List.getElem?_set_ne zwy62];exact g0
    have b0:=();have b1:=();exact zwk17
   ·have hbd:decide (zoJ x y < 0)=false:=decide_eq_false hb;rw [if_neg hb] at hgo';have b1:=();have b3:=();exact zwk17
 ·have b4:=();exact zwk17
set_option maxHeartbeats 20000000
abbrev mrP (l:List Pt):HEnv:=[(0,.mrow 160 4 (l.map yT))]
theorem znE (l:List Pt) (hl:l.length < 20) (hs:∀ x∈l,SmP x) (us:Nat->Value) :
  ACallM Tryz.prog 213 [.own 0,.pv (pi l.length),.pv (.fn (.func 164) [] [])] (zck us l) (.pv (.tup [])) (zck us (WQ l)):=by
 refine Zk zf Tryz.func213 rfl zws Tryz.ntmps213 zwy63 _ rfl (fun gB hw1=>?_);have hc:∀ us,ACallM _ _ _ _ _ _ _:=fun us=>zlq l zwy62 hs us
 have hd:decide ((20:Int)<=((l.length:Nat):Int))=false:=decide_eq_false zwy62;have hd2:decide ((20:Int) < ((l.length:Nat):Int))=false:=decide_eq_false zwy62
 repeat' (first|refine sA ?_|refine sC (fun _=>?_) (fun _=>?_)|fail)
 refine zL (fun _:Unit=>[(0,.own 0),(1,.pv (pi l.length)),(2,.pv (.fn (.func 164) [] [])),(6,.pv (pi 20)),(7,.pv (pi 0)),(8,.pv (pi 20))]) (fun _=>zck us l) (fun _=>True) (fun _=>0) () trivial (tS) tH ?_;rintro _ _
 repeat' (first|(refine zu ?_;first|(refine yH (mrP l) (mrP (WQ l)) [(1000,.pin (.own 0) (us 0))] [(1,.pv (pi l.length)),(6,.pv (pi 20))] [0] zi rfl rfl rfl ?_ tS rfl rfl rfl hc ?_;· (repeat (first|exact zB|refine aB ?_))))|refine sA ?_|refine sC (fun _=>?_) (fun _=>?_)|fail)
 refine zL (fun _:Unit=>[(1,.pv (pi l.length)),(6,.pv (pi 20))]) (fun _=>zck us (WQ l)) (fun _=>True) (fun _=>0) () trivial (tS) tH ?_;rintro _ _
 repeat' (first|refine sA ?_|refine sC (fun _=>?_) (fun _=>?_)|fail)
 exact ⟨.inl rfl,.inl ⟨[],rfl,rfl,tH⟩⟩
theorem zpm (l:List Pt) (hl:l.length < 20) (hs:∀ x∈l,SmP x) (us:Nat->Value) :
  ACallM Tryz.prog 163 [.own 0,.pv (.fn (.func 164) [] [])] (zck us l) (.pv (.tup [])) (zck us (WQ l)):=by
 refine Zk zf Tryz.func163 rfl zws Tryz.ntmps163 zwy63 _ rfl (fun gB hw1=>?_);have hc:∀ us,ACallM _ _ _ _ _ _ _:=fun us=>znE l hl hs us
 rw [<-List.length_map (f:=yT)] at hc
 repeat' (first|(refine yw ?_;first|refine zcR zf rfl rfl rfl rfl rfl rfl rfl ?_)|(refine zu ?_;first|(refine yH (mrP l) (mrP (WQ l)) [(1000,.pin (.own 0) (us 0))] [] [0] zi rfl rfl rfl ?_ tS rfl rfl rfl hc ?_;· (repeat (first|exact zB|refine aB ?_))))|refine sA ?_|refine sC (fun _=>?_) (fun _=>?_)|fail)
 exact ⟨.inl rfl,.inl ⟨[],rfl,rfl,tH⟩⟩
end Go.Cg
namespace Go.Cg
end Go.Cg
namespace Go.Cg
open Go.Proofs
theorem zoN {k:Int} {c:Cl} {x:Pt} (h:x∈yL k c):x.c=k/\(x.p=1\/x.p=2\/(x.p=3/\c.kind=2))/\bounds c x.p=(x.f,x.t):=by
 unfold yL at h;by_cases hk:c.kind=2
 ·simp [hk] at h;rcases h with rfl|rfl|rfl <;> simp [bounds,hk]
 ·simp [hk] at h;rcases h with rfl|rfl <;> simp [bounds]
theorem zvN {n:Int} {c:Cl} (h:QY n c=0):meet c 1 c 2=false/\meet c 1 c 3=false/\meet c 2 c 3=false:=by
 unfold QY at h;split at h
 ·simp at h
 ·split at h
  ·simp at h
  ·split at h
   ·simp at h
   ·rename_i h1;simp only [Bool.or_eq_true,not_or,Bool.not_eq_true] at h1;exact ⟨h1.1.1,h1.1.2,h1.2⟩
theorem zfR {n:Int} {l:List Cl} (h:(YM n l).2=0):(∀ i,i < l.length->QY n (l.getD i default)=0)/\∀ j i,i < l.length->j < i->Wq (l.getD j default) (l.getD i default)=true:=by
 have h6:¬ 6 < l.length:=fun h6=>by simp [YM,h6] at h
 have hall:∀ i,i < l.length->Qv n l i=0:=by
  intro i hi;rw [YM,if_neg h6] at h;split at h
  ·rename_i j hj;have:=List.find?_some hj;simp only [bne_iff_ne,ne_eq] at this;exact absurd h this
  ·rename_i hn;have:=List.find?_eq_none.1 hn i (List.mem_range.2 hi);simpa using this
 refine ⟨fun i hi=>zgh (hall i hi),fun j i hi hj=>?_⟩;have:=hall i hi;rw [Qv,zgh this] at this;simp only [bne_self_eq_false,Bool.false_eq_true,if_false] at this;split at this
 ·simp at this
 ·rename_i hb;simp only [Xy,Bool.not_eq_true,List.any_eq_false,List.mem_range,Bool.not_eq_true'] at hb;have:=hb j hj;simpa using this
theorem zmX {n:Int} {l:List Cl} (hc:(YM n l).2=0) {j:Nat} (hj:j < l.length) {y:Pt} (hy:y∈yL j (l.getD j default)):y.t<=n/\0<=y.f:=by
 have ha:=(zfR hc).1 j hj;have hok:=zc7 ha;generalize l.getD j default=c at *;have h1:c.tt<=n/\c.ht<=n:=by
  unfold QY at ha;split at ha
  ·simp at ha
  ·rename_i h1;simp only [zaf,zcJ,Bool.or_eq_true,decide_eq_true_eq,Bool.not_eq_true',Bool.and_eq_false_iff,decide_eq_false_iff_not,not_or,Decidable.not_not] at h1;omega
 obtain ⟨_,p1,b1⟩:=zoN hy;have e:=hok.t;have e2:=hok.h;have e3:=hok.h0;have e4:=hok.t0;rcases p1 with p1|p1|⟨p1,hk⟩ <;> rw [p1] at b1 <;> simp [bounds] at b1
 ·omega
 ·omega
 ·have:=hok.f hk;rw [hk] at b1;simp at b1;omega
end Go.Cg
