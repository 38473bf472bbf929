/- A part of the walks by abstract values: no statement of its own. -/
import Derived.Test.YtemhfmmhkimhmaaGreatI23
import Derived.Test.YtemhfmmhkimhmaaGreatI16
import Derived.Test.YtemhfmmhkimhmaaGreatI17
import Derived.Test.YtemhfmmhkimhmaaGreatI18
import Derived.Test.YtemhfmmhkimhmaaGreatI12
set_option linter.unusedVariables false
set_option linter.unusedSimpArgs false
namespace Go.Cg
inductive Rch (step:Int->List Int) (l:List Int):Int->Prop where
 | base (x:Int):x∈l->Rch step l x
 | step (x y:Int):Rch step l x->y∈step x->Rch step l y
theorem zsQ {met:List Int} {x y:Int}:y∈YE met x↔y∈met\/y=x:=by
 unfold YE;split
 ·rename_i h;constructor
  ·exact .inl
  ·rintro (h1|rfl)
   ·exact h1
   ·exact h
 ·simp
theorem WW {y:Int}:∀ {l met:List Int},y∈l.foldl YE met↔y∈met\/y∈l
 | [],met=>by simp
 | x::l,met=>by
  rw [List.foldl_cons,WW (l:=l),zsQ];simp only [List.mem_cons];constructor
  ·rintro ((h|h)|h)
   ·exact .inl h
   ·exact .inr (.inl h)
   ·exact .inr (.inr h)
  ·rintro (h|h|h)
   ·exact .inl (.inl h)
   ·exact .inl (.inr h)
   ·exact .inr h
theorem zje:∀ (l met:List Int),∃ r,l.foldl YE met=met++r
 | [],met=>⟨[],by simp⟩
 | x::l,met=>by
  obtain ⟨r,hr⟩:=zje l (YE met x);rw [List.foldl_cons,hr];unfold YE;split
  ·exact ⟨r,rfl⟩
  ·exact ⟨x::r,by simp⟩
theorem zfu {N:Nat} {step:Int->List Int} (hs:∀ x:Int,0<=x->x < N->∀ y∈step x,0<=y/\y < N):∀ (n i:Nat) (met:List Int),NInv N met->i<=met.length->N + 1<=n + i ->
  (∀ j (h:j < i) (h2:j < met.length),∀ y∈step met[j],y∈met) ->
  (∀ x∈met,x∈XU step n i met)/\(∀ u∈XU step n i met,∀ y∈step u,y∈XU step n i met)/\(∀ x∈XU step n i met,Rch step met x)/\NInv N (XU step n i met)
 | 0,i,met,hm,hi,hn,hc=>by
  have:=hm.len;omega
 | n + 1,i,met,hm,hi,hn,hc=>by
  rw [XU];by_cases hlt:i < met.length
  ·rw [List.getElem?_eq_getElem hlt];simp only;obtain ⟨h0,h1⟩:=hm.2 _ (List.getElem_mem hlt);have hst:=hs _ h0 h1;have hm2:=NInv.fold _ hm hst;obtain ⟨r,hr⟩:=zje (step met[i]) met;have hl:met.length<=((step met[i]).foldl YE met).length:=by rw [hr];simp
   obtain ⟨q1,q2,q3,q4⟩:=zfu hs n (i + 1) ((step met[i]).foldl YE met) hm2 zwy62 zwy62 (by
    intro j hj hj2 y hy;rw [WW];have hjm:j < met.length:=by omega
    have e:((step met[i]).foldl YE met)[j]=met[j]:=by simp only [hr];rw [List.getElem_append_left hjm]
    rw [e] at hy;by_cases hji:j=i
    ·subst hji;exact .inr hy
    ·exact .inl (hc j zwy62 hjm y hy))
   refine ⟨fun x hx=>q1 x (WW.2 (.inl hx)),q2,fun x hx=>?_,q4⟩;have:=q3 x hx;clear q1 q2 q3 q4 hx;induction this with
   | base x hx =>
    rcases WW.1 hx with h|h
    ·exact .base x h
    ·exact .step _ x (.base _ (List.getElem_mem hlt)) h
   | step x y _ hy ih=>exact .step x y ih hy
  ·rw [List.getElem?_eq_none zwy62];simp only;refine ⟨fun x hx=>hx,fun u hu y hy=>?_,fun x hx=>.base x hx,hm⟩;obtain ⟨j,hj,rfl⟩:=List.getElem_of_mem hu;exact hc j zwy62 hj y hy
theorem zc8 {N:Nat} {step:Int->List Int} {l:List Int} (hs:∀ x:Int,0<=x->x < N->∀ y∈step x,0<=y/\y < N) (hl:∀ x∈l,0<=x/\x < N):(∀ x,x∈Wn N step l↔Rch step l x)/\NInv N (Wn N step l):=by
 have hm:NInv N (l.foldl YE []):=NInv.fold l ⟨by simp,by simp⟩ hl;obtain ⟨q1,q2,q3,q4⟩:=zfu hs (N + 1) 0 (l.foldl YE []) hm zwy62 zwy62 (fun j h=>by omega);refine ⟨fun x=>⟨fun hx=>?_,fun hx=>?_⟩,q4⟩
 ·have:=q3 x hx;clear hx;induction this with
  | base x hx=>exact .base x (by simpa using WW.1 hx)
  | step x y _ hy ih=>exact .step x y ih hy
 ·induction hx with
  | base x hx=>exact q1 x (WW.2 (.inr hx))
  | step x y _ hy ih=>exact q2 x ih y hy
def RF (g:Img) (t f:Int):Prop:=Rch (yP g) ((up g t).flatMap (yP g)) f
theorem zvf {g:Img} (hF:Fm g) (t:Int):∀ x∈(up g t).flatMap (yP g),0<=x/\x < g.types.length:=by
 intro x hx;obtain ⟨u,_,h⟩:=List.mem_flatMap.1 hx;exact (hF.at u).2 x h
theorem ziz {g:Img} (hF:Fm g) (t:Int):(∀ x,x∈Wn g.types.length (yP g) ((up g t).flatMap (yP g))↔Rch (yP g) ((up g t).flatMap (yP g)) x)/\NInv g.types.length (Wn g.types.length (yP g) ((up g t).flatMap (yP g))):=zc8 (N:=g.types.length) (step:=yP g) (l:=(up g t).flatMap (yP g)) (fun x _ _=>(hF.at x).2) (zvf hF t)
theorem ziN {g:Img} (hF:Fm g) {t f:Int}:f∈Yw g t↔RF g t f:=by
 rw [Yw,zgF];exact (ziz hF t).1 f
theorem zvj {g:Img} {met:List Int} {f:Int} (h:there g f=true):zav g met f=YE met f:=by
 unfold zav YE;by_cases hm:f∈met
 ·simp [hm]
 ·simp [hm,h]
theorem zoe {g:Img}:∀ (l met:List Int),(∀ f∈l,there g f=true)->l.foldl (zav g) met=l.foldl YE met
 | [],met,_=>rfl
 | f::l,met,h=>by
  rw [List.foldl_cons,List.foldl_cons,zvj (h f zwy63)];exact zoe l _ fun x hx=>h x (by simp [hx])
theorem ziU {g:Img} (hF:Fm g) (met:List Int) (u:Int):XF g met u=(yP g u).foldl YE met :=
 zoe _ _ fun f hf=>VZ ((hF.at u).2 f hf)
theorem zob {g:Img} (hF:Fm g):∀ (us met:List Int),us.foldl (XF g) met=(us.flatMap (yP g)).foldl YE met
 | [],met=>rfl
 | u::us,met=>by rw [List.foldl_cons,ziU hF,List.flatMap_cons,List.foldl_append];exact zob hF us _
theorem znc {g:Img} (hF:Fm g):∀ (n i:Nat) (met:List Int),zed g n i met=XU (yP g) n i met
 | 0,_,_=>rfl
 | n + 1,i,met=>by
  rw [zed,XU];cases met[i]? with
  | none=>rfl
  | some u=>simp only;rw [ziU hF];exact znc hF n _ _
theorem zvu {g:Img} (hF:Fm g) (t:Int):zjy g t=Wn g.types.length (yP g) ((up g t).flatMap (yP g)):=by
 rw [zjy,znc hF,znA,zob hF];rfl
theorem zjf {n:Nat} {x:Int}:x∈nums n↔0<=x/\x < n:=by
 simp only [nums,List.mem_map,List.mem_range];constructor
 ·rintro ⟨k,hk,rfl⟩;omega
 ·intro h;exact ⟨x.toNat,by omega,by omega⟩
theorem zes {g:Img} (hF:Fm g) {t f:Int}:f∈Zr g t↔RF g t f:=by
 rw [Zr,List.mem_filter,zvu hF,zjf];simp only [decide_eq_true_eq];rw [(ziz hF t).1 f];exact ⟨fun h=>h.2,fun h=>⟨(ziz hF t).2.2 f (((ziz hF t).1 f).2 h),h⟩⟩
structure Wl (g:Img):Prop where
 fm:Fm g
 ext:∀ t td,typeAt g t=some td -> -1<=td.ext/\td.ext < g.types.length
 flags:∀ t td,typeAt g t=some td->0<=td.flags/\td.flags<=31
 flag:∀ t td,typeAt g t=some td->Zj td=true
 hang:∀ t td,typeAt g t=some td->QI g t td=true
theorem zbm {g:Img} (h:Yz g=true):Wl g:=by
 have hf:=YA h;have hb:=(yg hf).2.2.2;have hck:∀ j,j < g.types.length->Zn g j=0:=by
  intro j hj;refine Classical.byContradiction fun hne=>?_
  have hex:∃ k,k < g.types.length/\Zn g k≠0/\∀ i,i < k->Zn g i=0:=by
   induction j using Nat.strongRecOn with
   | _ j ih =>
    by_cases hmin:∀ i,i < j->Zn g i=0
    ·exact ⟨j,hj,hne,hmin⟩
    ·rcases Classical.not_forall.1 hmin with ⟨i,hi⟩
     have hij:i < j:=Classical.byContradiction fun h=>hi (fun h'=>(h h').elim)
     exact ih i hij zwy62 (fun e=>hi fun _=>e)
  obtain ⟨k,hk,hk1,hk2⟩:=hex;have:=zh3 hf hk hk2 hk1;rw [Yz,this] at h;simp at h;exact hk1 h
 have htd:∀ t td,typeAt g t=some td->∃ k:Nat,t=k/\∃ h:k < g.types.length,g.types[k]=td:=by
  intro t td ht;have hlt:=Ve ht;refine ⟨t.toNat,by omega,by omega,?_⟩;have:=zcO (g:=g) (k:=t.toNat) zwy62;rw [Int.toNat_of_nonneg hlt.1,ht] at this;exact (Option.some.inj this).symm
 have hcases:∀ t td,typeAt g t=some td->Zj td=true/\QI g t td=true:=by
  intro t td ht;obtain ⟨k,rfl,hk,rfl⟩:=htd t td ht;have:=hck k hk;rw [zcS hk] at this;cases h1:Zj g.types[k] <;> cases h2:QI g k g.types[k] <;> simp [h1,h2] at this ⊢
 refine ⟨zcV hf,?_,?_,fun t td ht=>(hcases t td ht).1,fun t td ht=>(hcases t td ht).2⟩
 ·intro t td ht;obtain ⟨_,_,h3,h4,_⟩:=YB (hb td (zbb ht));exact ⟨h3,h4⟩
 ·intro t td ht;obtain ⟨h1,h2,_⟩:=YB (hb td (zbb ht));exact ⟨h1,h2⟩
def zdZ (g:Img):Int->List Int->Prop
 | _,[]=>True
 | t,x::l=>x=t/\∃ td,typeAt g t=some td/\zdZ g td.ext l
theorem zhZ {g:Img}:∀ (n:Nat) (t:Int) (out:List Int),∃ l,zar g n t out=out++l/\zdZ g t l
 | 0,t,out=>⟨[],by simp [zar],trivial⟩
 | n + 1,t,out=>by
  rw [zar];cases ht:typeAt g t with
  | none=>exact ⟨[],by simp,trivial⟩
  | some td =>
   by_cases hm:t∈out
   ·exact ⟨[],by simp [hm],trivial⟩
   ·obtain ⟨l,h1,h2⟩:=zhZ n td.ext (out++[t]);exact ⟨t::l,by simp only [hm,if_false];rw [h1];simp,rfl,td,ht,h2⟩
theorem zoa (g:Img) (t:Int):zdZ g t (up g t):=by
 obtain ⟨l,h1,h2⟩:=zhZ (g:=g) (g.types.length + 1) t [];rw [up,h1];exact h2
def ch (g:Img):Nat->Int->List Int
 | 0,_=>[]
 | n + 1,t=>match typeAt g t with|some td=>t::ch g n td.ext|none=>[]
def znY (g:Img) (t:Int):Int:=match typeAt g t with|some td=>td.ext|none => -1
theorem zgB {g:Img}:∀ (l:List Int) (t:Int),zdZ g t l->l≠[]->typeAt g (znY g (l.getLastD 0))=none->∀ m,l.length<=m->ch g m t=l
 | [],t,_,hne,_,_,_=>(hne rfl).elim
 | x::l,t,hc,_,he,m,hm=>by
  obtain ⟨rfl,td,htd,hc'⟩:=hc;obtain ⟨m,rfl⟩:∃ m',m=m' + 1:=⟨m - 1,by simp at hm;omega⟩
  rw [ch,htd];simp only;cases l with
  | nil =>
   simp only [List.getLastD_cons,List.getLastD_nil,znY,htd] at he;cases m with
   | zero=>rfl
   | succ m=>rw [ch,he]
  | cons y l =>
   rw [zgB (y::l) td.ext hc' zwy63 (by simpa [List.getLastD_cons] using he) m (by simp at hm ⊢;omega)]
theorem up_nil {g:Img} {t:Int} (h:typeAt g t=none):up g t=[]:=by rw [up,zar,h]
theorem Wl.top {g:Img} (hW:Wl g) {t:Int} {td:TD} (ht:typeAt g t=some td):typeAt g (znY g ((up g t).getLastD 0))=none:=by
 obtain ⟨r,hr⟩:=zfb ht;have hh:=hW.hang t td ht;simp only [QI,Bool.and_eq_true,WH,Bool.or_eq_true,Bool.not_eq_true',decide_eq_false_iff_not,beq_iff_eq,decide_eq_true_eq] at hh;obtain ⟨⟨h1,_⟩,_⟩:=hh;have hneg:∀ x:Int,x < 0->typeAt g x=none:=by
  intro x hx;rw [typeAt,if_neg zwy62]
 by_cases hx:0<=td.ext
 ·rcases h1 with h1|h1
  ·exact (h1 hx).elim
  ·have h3:Vt g t < 0:=h1.2;have:Vt g t=znY g ((up g t).getLastD 0):=rfl;rw [<-this];exact hneg _ h3
 ·have hu:up g t=[t]:=by
   rw [up,zar,ht];simp only [List.not_mem_nil,if_false,List.nil_append];cases g.types.length with
   | zero=>rfl
   | succ n=>rw [zar,hneg _ zwy62]
  rw [hu];simp only [List.getLastD_cons,List.getLastD_nil,znY,ht];exact hneg _ zwy62
theorem Wl.up_eq {g:Img} (hW:Wl g) (t:Int):up g t=ch g (g.types.length + 1) t:=by
 cases ht:typeAt g t with
 | none=>rw [up_nil ht,ch,ht]
 | some td =>
  obtain ⟨r,hr⟩:=zfb ht;have hui:=WS g t;have hul:=ZF _ _ hui.1 hui.2;exact (zgB _ t (zoa g t) (by rw [hr];simp) (hW.top ht) _ zwy62).symm
theorem Wl.up_cons {g:Img} (hW:Wl g) {t:Int} {td:TD} (ht:typeAt g t=some td):up g t=t::up g td.ext:=by
 obtain ⟨r,hr⟩:=zfb ht;have hui:=WS g t;have hul:=ZF _ _ hui.1 hui.2;have h1:=zgB _ t (zoa g t) (by rw [hr];simp) (hW.top ht) (g.types.length + 2) zwy62;rw [<-h1,ch,ht,hW.up_eq]
theorem Wl.up_len {g:Img} (hW:Wl g):∀ (n:Nat) (a b:Int),(up g a).length<=n->b∈up g a->(∀ x∈up g b,x∈up g a)/\(b=a\/(up g b).length < (up g a).length)
 | 0,a,b,hn,hb=>by
  have:up g a=[]:=List.eq_nil_of_length_eq_zero zwy62;rw [this] at hb;simp at hb
 | n + 1,a,b,hn,hb=>by
  cases ha:typeAt g a with
  | none=>rw [up_nil ha] at hb;simp at hb
  | some td =>
   have e:=hW.up_cons ha;rw [e] at hb hn ⊢;rcases List.mem_cons.1 hb with rfl|hb
   ·rw [e];exact ⟨fun x hx=>hx,.inl rfl⟩
   ·obtain ⟨h1,h2⟩:=hW.up_len n td.ext b (by simp at hn;omega) hb;refine ⟨fun x hx=>List.mem_cons_of_mem _ (h1 x hx),.inr ?_⟩;rcases h2 with rfl|h2
    ·simp
    ·simp;omega
theorem Wl.up_trans {g:Img} (hW:Wl g) {a b c:Int} (h1:b∈up g a) (h2:c∈up g b):c∈up g a:=(hW.up_len _ a b (Nat.le_refl _) h1).1 c h2
theorem Wl.face_kind {g:Img} (hW:Wl g) {u f:Int} (h:f∈yP g u):zW g f=2:=by
 unfold yP at h;cases hu:typeAt g u with
 | none=>rw [hu] at h;simp at h
 | some td =>
  rw [hu] at h;simp only at h;have hh:=hW.hang u td hu;simp only [QI,Bool.and_eq_true,List.all_eq_true,List.mem_range,Vz,beq_iff_eq] at hh;obtain ⟨⟨_,h2⟩,_⟩:=hh;obtain ⟨j,hj,rfl⟩:=List.getElem_of_mem h;have:=(h2 j hj).1
  rwa [zQ hj] at this
theorem Wl.rf_kind {g:Img} (hW:Wl g) {t f:Int} (h:RF g t f):zW g f=2:=by
 cases h with
 | base _ hx=>obtain ⟨u,_,h⟩:=List.mem_flatMap.1 hx;exact hW.face_kind h
 | step x _ _ hy=>exact hW.face_kind hy
theorem ziy {g:Img} {t k:Int} (h:zW g t=k) (hk:0<=k):∃ td,typeAt g t=some td/\WZ td.flags=k:=by
 unfold zW at h;cases ht:typeAt g t with
 | none=>rw [ht] at h;simp at h;omega
 | some td=>rw [ht] at h;exact ⟨td,rfl,h⟩
theorem Wl.face_up {g:Img} (hW:Wl g) {t:Int} (h:zW g t=2):up g t=[t]:=by
 obtain ⟨td,ht,hk⟩:=ziy h zwy62;have hfl:=hW.flag t td ht;have hext:td.ext = -1:=by
  simp [Zj,hk] at hfl;exact hfl.1.1.1.1
 rw [hW.up_cons ht,hext,up_nil (by rw [typeAt,if_neg (by omega)])]
theorem RF.up {g:Img} (hW:Wl g) {a b f:Int} (h:b∈up g a) (hf:RF g b f):RF g a f:=by
 induction hf with
 | base x hx =>
  obtain ⟨u,hu,hxu⟩:=List.mem_flatMap.1 hx;exact .base x (List.mem_flatMap.2 ⟨u,hW.up_trans h hu,hxu⟩)
 | step x y _ hy ih=>exact .step x y ih hy
theorem RF.trans {g:Img} (hW:Wl g) {a b f:Int} (h:RF g a b) (hf:RF g b f):RF g a f:=by
 have hu:=hW.face_up (hW.rf_kind h);induction hf with
 | base x hx =>
  obtain ⟨u,hu',hxu⟩:=List.mem_flatMap.1 hx;rw [hu] at hu';simp at hu';subst hu';exact .step _ x h hxu
 | step x y _ hy ih=>exact .step x y ih hy
def Bl (g:Img) (a b:Int):Prop:=b∈up g a\/RF g a b
theorem Wl.trans {g:Img} (hW:Wl g) {a b c:Int} (h1:Bl g a b) (h2:Bl g b c):Bl g a c:=by
 rcases h1 with h1|h1 <;> rcases h2 with h2|h2
 ·exact .inl (hW.up_trans h1 h2)
 ·exact .inr (h2.up hW h1)
 ·rw [hW.face_up (hW.rf_kind h1)] at h2;simp at h2;subst h2;exact .inr h1
 ·exact .inr (RF.trans hW h1 h2)
theorem Wl.refl {g:Img} (hW:Wl g) {a:Int} {td:TD} (h:typeAt g a=some td):Bl g a a:=by
 rw [Bl,hW.up_cons h];simp
end Go.Cg
namespace Go.Cg
open Go.Proofs
def zd7 (at_:Int) (x:Pt):Bool:=decide (x.f<=at_)&&decide (at_ < x.t)
def zcW (at_:Int) (l:List Cl):Nat->List Pt
 | 0=>[]
 | k + 1=>zcW at_ l k++(yK k (l.getD k default)).filter (zd7 at_)
def zea (at_:Int) (l:List Cl):List Pt:=zcW at_ l l.length
def zpw (a b:Pt):Int:=if (a.t - a.f) - (b.t - b.f)=0 then a.c - b.c else (a.t - a.f) - (b.t - b.f)
def zc6 (x:Pt):List Pt->List Pt->List Pt
 | [],s=>x::s
 | y::r,s=>if zpw x y < 0 then zc6 x r (y::s) else (y::r).reverse++x::s
def zlF (l:List Pt) (x:Pt):List Pt:=zc6 x l.reverse []
def WX (l:List Pt):List Pt:=l.foldl zlF []
def zky (a b:Pt):Bool:=a.f==b.f&&(a.t==b.t&&true)
def WO (p:Pt):List Pt->List Pt
 | []=>[]
 | y::l=>if zky y p then WO y l else y::WO y l
def Yj:List Pt->List Pt
 | []=>[]
 | x::l=>x::WO x l
def qL (l:List Cl) (at_:Int):List Pt:=Yj (WX (zea at_ l))
theorem zgj (x:Pt):∀ (r s:List Pt),(zc6 x r s).length=r.length + s.length + 1
 | [],s=>by simp [zc6]
 | y::r,s=>by
  rw [zc6];split
  ·rw [zgj x r (y::s)];simp;omega
  ·simp;omega
theorem zmx (l:List Pt) (x:Pt):(zlF l x).length=l.length + 1:=by rw [zlF,zgj];simp
theorem zgk (l:List Pt):(WX l).length=l.length:=by
 have:∀ (l a:List Pt),(l.foldl zlF a).length=a.length + l.length:=by
  intro l;induction l with
  | nil=>intro a;simp
  | cons x l ih=>intro a;rw [List.foldl_cons,ih,zmx];simp;omega
 rw [WX,this];simp
theorem zir (k:Int) (c:Cl):(yK k c).length<=3:=by unfold yK;split <;> simp
theorem zdS (at_:Int) (l:List Cl):∀ k,(zcW at_ l k).length<=3 * k
 | 0=>by simp [zcW]
 | k + 1=>by
  rw [zcW,List.length_append];have h1:=zdS at_ l k;have h2:=List.length_filter_le (zd7 at_) (yK k (l.getD k default));have h3:=zir k (l.getD k default);omega
theorem zoN (p:Pt) (l:List Pt):(WO p l).length<=l.length:=by
 induction l generalizing p with
 | nil=>simp [WO]
 | cons y l ih =>
  rw [WO];split
  ·have:=ih y;simp;omega
  ·have:=ih y;simp;omega
theorem zrN (l:List Pt):(Yj l).length<=l.length:=by
 cases l with
 | nil=>simp [Yj]
 | cons x l=>have:=zoN x l;simp [Yj];omega
theorem zo8 (l:List Cl) (at_:Int):(qL l at_).length<=3 * l.length:=by
 have h1:=zrN (WX (zea at_ l));rw [zgk] at h1;exact Nat.le_trans h1 (zdS at_ l l.length)
theorem zj2 (x:Pt):∀ (r s:List Pt) (y:Pt),y∈zc6 x r s↔y=x\/y∈r\/y∈s
 | [],s,y=>by simp [zc6]
 | z::r,s,y=>by
  rw [zc6];split
  ·rw [zj2 x r (z::s) y];grind
  ·grind
theorem zkx (l:List Pt) (y:Pt):y∈WX l↔y∈l:=by
 have:∀ (l a:List Pt),y∈l.foldl zlF a↔y∈a\/y∈l:=by
  intro l;induction l with
  | nil=>intro a;simp
  | cons x l ih =>
   intro a;rw [List.foldl_cons,ih,zlF,zj2]
   grind
 rw [WX,this];simp
theorem zoK {p y:Pt} {l:List Pt} (h:y∈WO p l):y∈l:=by
 induction l generalizing p with
 | nil=>simp [WO] at h
 | cons z l ih =>
  rw [WO] at h;split at h
  ·exact List.mem_cons_of_mem _ (ih h)
  ·rcases List.mem_cons.1 h with h|h
   ·simp [h]
   ·exact List.mem_cons_of_mem _ (ih h)
theorem zrT {y:Pt} {l:List Pt} (h:y∈Yj l):y∈l:=by
 cases l with
 | nil=>simp [Yj] at h
 | cons x l =>
  rcases List.mem_cons.1 h with h|h
  ·simp [h]
  ·exact List.mem_cons_of_mem _ (zoK h)
theorem zgf {at_:Int} {l:List Cl} {y:Pt}:∀ {k:Nat},y∈zcW at_ l k->∃ j,j < k/\y∈yK j (l.getD j default)/\zd7 at_ y=true
 | 0,h=>by simp [zcW] at h
 | k + 1,h=>by
  rw [zcW,List.mem_append,List.mem_filter] at h;rcases h with h|h
  ·obtain ⟨j,h1,h2⟩:=zgf h;exact ⟨j,by omega,h2⟩
  ·exact ⟨k,by omega,h⟩
theorem zeE {l:List Cl} {at_:Int} {y:Pt} (h:y∈qL l at_):∃ j,j < l.length/\y∈yK j (l.getD j default)/\zd7 at_ y=true :=
 zgf ((zkx _ _).1 (zrT h))
theorem zu0 {k:Int} {c:Cl} {y:Pt} (h:y∈yK k c):y.c=k:=by
 unfold yK at h;split at h <;> simp at h
 ·rcases h with rfl|rfl|rfl <;> rfl
 ·rcases h with rfl|rfl <;> rfl
set_option maxHeartbeats 20000000
structure SmP (x:Pt):Prop where
 f:0<=x.f/\x.f<=1000000
 t:0<=x.t/\x.t<=1000000
 c:0<=x.c/\x.c<=1000000
theorem znP (a b:Pt) (ha:SmP a) (hb:SmP b):ACall Tryz.prog 164 [yT a,yT b] (pi (zpw a b)):=by
 have ha1:=ha.f;have ha2:=ha.t;have ha3:=ha.c;have hb1:=hb.f;have hb2:=hb.t;have hb3:=hb.c;have e1:IntKind.i64.wrap (a.t - a.f)=a.t - a.f:=wrap_in zwy62 zwy62;have e2:IntKind.i64.wrap (b.t - b.f)=b.t - b.f:=wrap_in zwy62 zwy62;have e3:IntKind.i64.wrap ((a.t - a.f) - (b.t - b.f))=(a.t - a.f) - (b.t - b.f):=wrap_in zwy62 zwy62;have e4:IntKind.i64.wrap (a.c - b.c)=a.c - b.c:=wrap_in zwy62 zwy62;by_cases h:(a.t - a.f) - (b.t - b.f)=0
 ·have hc:(!(IntKind.i64.wrap (IntKind.i64.wrap (a.t - a.f) - IntKind.i64.wrap (b.t - b.f))==0))=false:=by rw [e1,e2,e3,h];rfl
  refine zh zf Tryz.func164 rfl zws Tryz.ntmps164 zwy63 _ rfl (fun hw gB hgB=>?_)
  repeat' (first|refine sA ?_|refine sC (fun _=>?_) (fun _=>?_)|fail)
  all_goals (refine ak ?_;simp [zn,zpw,h,e4])
 ·have hc:(!(IntKind.i64.wrap (IntKind.i64.wrap (a.t - a.f) - IntKind.i64.wrap (b.t - b.f))==0))=true:=by rw [e1,e2,e3];simpa using h
  refine zh zf Tryz.func164 rfl zws Tryz.ntmps164 zwy63 _ rfl (fun hw gB hgB=>?_)
  repeat' (first|refine sA ?_|refine sC (fun _=>?_) (fun _=>?_)|fail)
  all_goals (refine ak ?_;simp [zn,zpw,h,e1,e2,e3])
abbrev zcj (us:Nat->Value) (l:List Pt):HEnv:=[(0,.mrow 160 4 (l.map yT)),(1000,.pin (.own 0) (us 0))]
def zu5 (us:Nat->Value) (A:List PV) (k:Nat) (p q:PV):Nat->HEnv
 | 0=>[(0,.mrow 160 4 A),(1000,.pin (.own 0) (us 0))]
 | 1=>(0,.mrow 160 4 (A.set (k + 1) p))::[(0,.mrow 160 4 A),(1000,.pin (.own 0) (us 0))]
 | _=>(0,.mrow 160 4 ((A.set (k + 1) p).set k q))::(0,.mrow 160 4 (A.set (k + 1) p))::[(0,.mrow 160 4 A),(1000,.pin (.own 0) (us 0))]
abbrev zue (us:Nat->Value):HEnv:=[(0,.dead),(1000,.pin (.own 0) (us 0))]
theorem zry (us:Nat->Value) (A:List PV) (k:Nat) (x y:PV):∀ p,p < 3->qB (zu5 us A k x y p) (zue us)=true/\qB (zue us) (zu5 us A k x y p)=true:=by
 intro p h;have hp:p=0\/p=1\/p=2:=by omega
 rcases hp with rfl|rfl|rfl <;> exact ⟨rfl,rfl⟩
theorem zqY (us:Nat->Value) (A:List PV) (k:Nat) (x y:PV) {gB:Base}:∀ p,p<=2->∀ K ρ w,FS gB K ρ (zu5 us A k x y p) w->FS gB K ρ (zue us) w:=by
 intro p h K ρ w hf;have hp:p=0\/p=1\/p=2:=by omega
 rcases hp with rfl|rfl|rfl <;> exact (hf.kill 0).narrow (e:=[]) tH
theorem ztB (a b:Pt) (r t:List Pt):(((r.reverse++a::b::t).map yT).set (r.length + 1) (yT a)).set r.length (yT b)=(r.reverse++b::a::t).map yT:=by
 apply List.ext_getElem?;intro i;simp only [List.getElem?_set,List.length_set,List.length_map,List.length_append,List.length_reverse,List.length_cons,List.map_append,List.map_cons,List.getElem?_append,List.length_map];by_cases h1:r.length=i
 ·subst h1;simp
 ·by_cases h2:r.length + 1=i
  ·subst h2;simp
  ·simp only [h1,h2,if_false];by_cases h3:i < r.length
   ·simp [h3]
   ·simp only [h3,if_false];obtain ⟨m,rfl⟩:∃ m,i=r.length + (m + 2):=⟨i - r.length - 2,by omega⟩
    simp
theorem zwk17 {G:Prop} (h:G:=by repeat' (first|(have:=b0;refine Xw 18 18 [15,17] [[37,38,42,43,44,45,46,47,48,49,50,51],[52]] (zu5 us A k (yT y) (yT x)) (fun _=>zue us) (zue us) none rfl zws zws zws zws zws zws zws (fun p hp=>zry us A k _ _ p (by simp at hp;omega)) rfl (fun p hp=>zqY us A k _ _ p hp) rfl (fun _ _ _ _=>rfl) (fun _ _=>rfl) tH rfl (fun v hv=>by cases hv) ?_)|(have:=b0;refine zcs 0 2 [13,15] rfl rfl zws ?_)|(have:=b0;refine zaW 3 [10,12] rfl rfl ?_)|(have:=b0;refine zcs 0 10 [0,2] rfl rfl zws ?_)|(have:=b0;refine Xk [1] (.pv (.tup [])) rfl rfl rfl ?_)|(have:=b0;refine zcs 1 1 [0] rfl rfl zws ?_)|(have:=b0;refine Xk [] (.pv (.tup [])) rfl rfl rfl ?_)|(have:=b0;refine Qu ?_)|(have:=b0;refine ⟨⟨rfl,YC (k:=k + 1) (j:=0) zf rfl rfl rfl rfl g1 rfl rfl rfl rfl,.inl rfl⟩,?_⟩)|(have:=b0;refine ⟨⟨rfl,YC (k:=k) (j:=0) zf rfl rfl rfl rfl g0' rfl rfl rfl rfl,.inl rfl⟩,?_⟩)|(have:=b0;intro _)|(have:=b0;refine WR ?_)|(have:=b1;refine zy rfl (au (k:=k) (j:=0) g0) rfl rfl ?_)|(have:=b1;refine zq rfl (au (k:=k) (j:=0) g0) rfl rfl ?_)|(have:=b1;refine zy rfl (au (k:=k + 1) (j:=0) g1) rfl rfl ?_)|(have:=b1;refine zq rfl (au (k:=k + 1) (j:=0) g1) rfl rfl ?_)|(refine shC ?_;first|(have:=b1;refine qV (cb) ?_))|(refine shX ?_;first|(have:=b1;refine zy rfl (zO (k:=k) zf rfl rfl rfl rfl rfl rfl rfl hix h0) rfl rfl ?_)|(have:=b1;refine zq rfl (zO (k:=k) zf rfl rfl rfl rfl rfl rfl rfl hix h0) rfl rfl ?_)|(have:=b1;refine zy rfl (aA (k:=k + 1) h1) rfl rfl ?_)|(have:=b1;refine zq rfl (aA (k:=k + 1) h1) rfl rfl ?_)|(have:=b0;refine zy rfl (zO (k:=k) zf rfl rfl rfl rfl rfl rfl rfl hix h0') rfl rfl ?_)|(have:=b0;refine zq rfl (zO (k:=k) zf rfl rfl rfl rfl rfl rfl rfl hix h0') rfl rfl ?_))|refine sK ?_|refine sC (fun _=>?_) (fun _=>?_)|(have:=b2;exact ⟨i + 1,by omega,tD,tS,⟨Zi rfl (by rw [hnext,<-hgo];simp [zc6]) zwy67,rfl⟩⟩)|(have:=b0;exact ⟨(r,y::t),⟨hgo',fun z hz=>hr z (List.mem_cons_of_mem _ hz)⟩,Nat.lt_succ_self r.length,by repeat (first|exact yO|refine yA rfl ?_|(refine qW rfl ?_ ?_;· (show IntKind.i64.wrap _=((r.length:Nat):Int);rw [hix,hk]))),⟨Zi rfl (by rw [sw,hD];simp) zwy67,rfl⟩⟩)|(have:=b3;exact ⟨i + 1,by omega,tD,tS,⟨Zi rfl (by rw [hnext,<-hgo',hA,hD];simp) zwy67,rfl⟩⟩)|(have:=b4;exact ⟨.inl rfl,.inl ⟨[],rfl,rfl,⟨Zi rfl (by rw [List.take_of_length_le (by omega),List.drop_eq_nil_of_le (by omega),List.append_nil]) zwy67,rfl⟩⟩⟩)|fail)):G:=h
theorem zls (l:List Pt) (hl:l.length<=1000) (hs:∀ x∈l,SmP x) (us:Nat->Value) :
  ACallM Tryz.prog 244 [.own 0,.pv (pi 0),.pv (pi l.length),.pv (.fn (.func 164) [] [])] (zcj us l) (.pv (.tup [])) (zcj us (WX l)):=by
 refine Zl zf Tryz.func244 rfl zws Tryz.ntmps244 zwy63 _ rfl (fun gB hw1=>?_)
 repeat' (first|refine sA ?_|refine sC (fun _=>?_) (fun _=>?_)|fail)
 refine zL (fun i:Nat=>[(0,.own 0),(1,.pv (pi 0)),(2,.pv (pi l.length)),(3,.pv (.fn (.func 164) [] [])),(8,.pv (pi i))])
  (fun i=>zcj us (WX (l.take i)++l.drop i)) (fun i=>1<=i/\i<=l.length + 1) (fun i=>l.length + 1 - i) 1 zwy62 (tS) ⟨Zi rfl (by cases l <;> rfl) zwy67,rfl⟩ ?_
 rintro i ⟨hi1,hi2⟩;by_cases hlt:i < l.length
 ·obtain ⟨x,hx⟩:∃ x,x=l[i]:=⟨_,rfl⟩
  obtain ⟨s,hsd⟩:∃ s,s=WX (l.take i):=⟨_,rfl⟩
  have hxs:SmP x:=by rw [hx];exact hs _ (List.getElem_mem hlt)
  have hss:∀ y∈s,SmP y:=fun y hy=>by rw [hsd,zkx] at hy;exact hs y (List.mem_of_mem_take hy)
  have hsl:s.length=i:=by rw [hsd,zgk];simp;omega
  have hnext:WX (l.take (i + 1))=zlF s x:=by
   rw [List.take_succ_eq_append_getElem hlt,WX,List.foldl_append,hsd,hx];rfl
  have hdrop:l.drop i=x::l.drop (i + 1):=by rw [hx];exact List.drop_eq_getElem_cons hlt
  rw [<-hsd,hdrop]
  repeat' (first|refine sK ?_|refine sC (fun _=>?_) (fun _=>?_)|fail)
  refine zL (fun st:List Pt × List Pt=>[(0,.own 0),(1,.pv (pi 0)),(2,.pv (pi l.length)),(3,.pv (.fn (.func 164) [] [])),(8,.pv (pi i)),(9,.pv (pi st.1.length))])
   (fun st=>zcj us (st.1.reverse++x::(st.2++l.drop (i + 1)))) (fun st=>zc6 x st.1 st.2=zlF s x/\∀ y∈st.1,SmP y) (fun st=>st.1.length) (s.reverse,[]) ⟨rfl,fun y hy=>hss y (by simpa using hy)⟩
   (by repeat (first|exact yO|refine yA rfl ?_|(refine qW rfl ?_ ?_;· (show (i:Int)=((s.reverse.length:Nat):Int);simp [hsl])))) ⟨Zi rfl zwy63 zwy67,rfl⟩ ?_
  rintro ⟨r,t⟩ ⟨hgo,hr⟩;cases r with
  | nil =>
   have b2:=();exact zwk17
  | cons y r =>
   obtain ⟨D,hD⟩:∃ D,D=t++l.drop (i + 1):=⟨_,rfl⟩
   have hgo':zc6 x (y::r) t=zlF s x:=hgo;rw [zc6] at hgo';have hsy:SmP y:=hr y zwy63;have hrl:r.length < 1000:=by
    have h1:=congrArg List.length hgo';rw [zmx,hsl] at h1;split at h1
    ·rw [zgj] at h1;simp at h1;omega
    ·simp at h1;omega
   have cb:=znP x y hxs hsy;have e0:(y::r).reverse++x::(t++l.drop (i + 1))=r.reverse++y::x::D:=by rw [hD];simp
   have g0:((r.reverse++y::x::D).map yT)[r.length]?=some (yT y):=by simp
   have g1:((r.reverse++y::x::D).map yT)[r.length + 1]?=some (yT x):=by
    rw [List.getElem?_map,List.getElem?_append_right zwy63];simp
   have h0:r.length < ((r.reverse++y::x::D).map yT).length:=by simp
   have h1:r.length + 1 < ((r.reverse++y::x::D).map yT).length:=by simp
   have sw:=ztB y x r D;show AW _ _ _ _ [(0,.own 0),(1,.pv (pi 0)),(2,.pv (pi l.length)),(3,.pv (.fn (.func 164) [] [])),(8,.pv (pi i)),(9,.pv (pi (r.length + 1:Nat)))] (zcj us ((y::r).reverse++x::(t++l.drop (i + 1)))) _
   rw [e0];obtain ⟨k,hk⟩:∃ k,k=r.length:=⟨_,rfl⟩
   obtain ⟨A,hA⟩:∃ A,A=(r.reverse++y::x::D).map yT:=⟨_,rfl⟩
   rw [<-hk] at g0 g1 h0 h1 sw hrl ⊢;show AW _ _ _ _ _ [(0,.mrow 160 4 ((r.reverse++y::x::D).map yT)),(1000,.pin (.own 0) (us 0))] _
   rw [<-hA] at g0 g1 h0 h1 sw ⊢;have hp:decide ((0:Int) < ((k + 1:Nat):Int))=true:=decide_eq_true zwy62;have hix:IntKind.i64.wrap (((k + 1:Nat):Int) - 1)=(k:Nat):=by rw [wrap_in zwy62 zwy62];omega
   by_cases hb:zpw x y < 0
   ·have hbd:decide (zpw x y < 0)=true:=decide_eq_true hb;rw [if_pos hb] at hgo';have h0':k < (A.set (k + 1) (yT y)).length:=by rw [List.length_set];exact h0
    have g0':(A.set (k + 1) (yT y))[k]?=some (yT y):=by rw [List.getElem?_set_ne zwy62];exact g0
    have b0:=();have b1:=();exact zwk17
   ·have hbd:decide (zpw x y < 0)=false:=decide_eq_false hb;rw [if_neg hb] at hgo';have b1:=();have b3:=();exact zwk17
 ·have b4:=();exact zwk17
set_option maxHeartbeats 20000000
abbrev mrP (l:List Pt):HEnv:=[(0,.mrow 160 4 (l.map yT))]
theorem znw (l:List Pt) (hl:l.length < 20) (hs:∀ x∈l,SmP x) (us:Nat->Value) :
  ACallM Tryz.prog 213 [.own 0,.pv (pi l.length),.pv (.fn (.func 164) [] [])] (zcj us l) (.pv (.tup [])) (zcj us (WX l)):=by
 refine Zl zf Tryz.func213 rfl zws Tryz.ntmps213 zwy63 _ rfl (fun gB hw1=>?_);have hc:∀ us,ACallM _ _ _ _ _ _ _:=fun us=>zls l zwy62 hs us
 have hd:decide ((20:Int)<=((l.length:Nat):Int))=false:=decide_eq_false zwy62;have hd2:decide ((20:Int) < ((l.length:Nat):Int))=false:=decide_eq_false zwy62
 repeat' (first|refine sA ?_|refine sC (fun _=>?_) (fun _=>?_)|fail)
 refine zL (fun _:Unit=>[(0,.own 0),(1,.pv (pi l.length)),(2,.pv (.fn (.func 164) [] [])),(6,.pv (pi 20)),(7,.pv (pi 0)),(8,.pv (pi 20))]) (fun _=>zcj us l) (fun _=>True) (fun _=>0) () trivial (tS) tH ?_;rintro _ _
 repeat' (first|(refine zu ?_;first|(refine yH (mrP l) (mrP (WX l)) [(1000,.pin (.own 0) (us 0))] [(1,.pv (pi l.length)),(6,.pv (pi 20))] [0] zi rfl rfl rfl ?_ tS rfl rfl rfl hc ?_;· (repeat (first|exact zC|refine aB ?_))))|refine sA ?_|refine sC (fun _=>?_) (fun _=>?_)|fail)
 refine zL (fun _:Unit=>[(1,.pv (pi l.length)),(6,.pv (pi 20))]) (fun _=>zcj us (WX l)) (fun _=>True) (fun _=>0) () trivial (tS) tH ?_;rintro _ _
 repeat' (first|refine sA ?_|refine sC (fun _=>?_) (fun _=>?_)|fail)
 exact ⟨.inl rfl,.inl ⟨[],rfl,rfl,tH⟩⟩
theorem zp3 (l:List Pt) (hl:l.length < 20) (hs:∀ x∈l,SmP x) (us:Nat->Value) :
  ACallM Tryz.prog 163 [.own 0,.pv (.fn (.func 164) [] [])] (zcj us l) (.pv (.tup [])) (zcj us (WX l)):=by
 refine Zl zf Tryz.func163 rfl zws Tryz.ntmps163 zwy63 _ rfl (fun gB hw1=>?_);have hc:∀ us,ACallM _ _ _ _ _ _ _:=fun us=>znw l hl hs us
 rw [<-List.length_map (f:=yT)] at hc
 repeat' (first|(refine yj ?_;first|refine zct zf rfl rfl rfl rfl rfl rfl rfl ?_)|(refine zu ?_;first|(refine yH (mrP l) (mrP (WX l)) [(1000,.pin (.own 0) (us 0))] [] [0] zi rfl rfl rfl ?_ tS rfl rfl rfl hc ?_;· (repeat (first|exact zC|refine aB ?_))))|refine sA ?_|refine sC (fun _=>?_) (fun _=>?_)|fail)
 exact ⟨.inl rfl,.inl ⟨[],rfl,rfl,tH⟩⟩
set_option maxHeartbeats 20000000
section
variable {P:Program} {n:Nat} {g:Base} {H:HEnv} {env:Env} {QQ:QC}
theorem zmQ (i:Nat) {a:Act} {w:World} (h:Inv n g env H a w):Inv n g env ((i,.dead)::H) a w:=by
 obtain ⟨g1,g2,K,ρ,hf,he⟩:=h;exact ⟨g1,g2,K,ρ,hf.kill i,he.keeps (.refl K w) fun j hj=>⟨by rw [HEnv.get_cons];split <;> first|rfl|exact hj,rfl⟩⟩
theorem zsv {t i e sz:Nat} {es:List PV} {a:Act} {w:World} (ht:env.get t=some (.own i)) (hi:H.get i=some (.row e sz es)) (h:Inv n g env H a w):Inv n g ((t,.pv (.slc sz es false))::env) H a w:=by
 obtain ⟨g1,g2,K,ρ,hf,he⟩:=h;refine ⟨g1,g2,K,ρ,hf,fun t' av hg=>?_⟩;rw [Env.get_cons] at hg;split at hg
 ·rename_i e1;subst e1;simp only [Option.some.injEq] at hg;subst hg;obtain ⟨v,h1,h2⟩:=he _ _ ht;exact ⟨v,h1,.pv _ _ (zdK hf hi h2)⟩
 ·exact he _ _ hg
theorem zeD {t i e sz:Nat} {es:List PV} (ht:env.get t=some (.own i)) (hi:H.get i=some (.mrow e sz es)) (k:QQ .ret ((t,.pv (.slc sz es false))::env) ((i,.dead)::(i,.row e sz es)::H)):AW P n g .ret env H QQ :=
 ⟨fun a w hinv=>(zh4 k).go a w (zmQ i (zsv ht (by rw [HEnv.get_cons,if_pos rfl]) (zdx hi hinv)))⟩
theorem zpD {t i j e sz h:Nat} {u:Value} {es:List PV} (ht:env.get t=some (.pv (.base (cut sz u 0 h)))) (hi:H.get i=some (.mrow e sz es)) (hj:H.get j=some (.pin (.own i) u)) (hij:(i==j)=false) (hh:h<=es.length) (h0:0 < es.length) (k:QQ .ret ((t,.pv (.slc sz (es.take h) false))::env) ((i,.dead)::(i,.row e sz es)::H)):AW P n g .ret env H QQ :=
 ⟨fun a w hinv=>(zh4 k).go a w (zmQ i (zr1 (i:=i) (j:=j) ht (by rw [HEnv.get_cons,if_pos rfl]) (by rw [HEnv.get_cons,if_neg (by simpa using hij)];exact hj) hh h0 (zdx hi hinv)))⟩
end
theorem zmf (p:Pt) (l:List Pt) (y:Pt):WO p (l++[y])=WO p l++(if zky y (l.getLastD p) then [] else [y]):=by
 induction l generalizing p with
 | nil=>simp [WO]
 | cons z l ih =>
  rw [List.cons_append,WO,WO,ih z];have:(z::l).getLastD p=l.getLastD z:=by cases l <;> rfl
  rw [this];split <;> simp
theorem zin {l:List Pt} {m:Nat} (h1:1<=m) (h:m < l.length):Yj (l.take (m + 1))=Yj (l.take m)++(if zky l[m] (l[m - 1]'zwy62) then [] else [l[m]]):=by
 rw [List.take_succ_eq_append_getElem h];cases l with
 | nil=>simp at h
 | cons x l =>
  obtain ⟨m,rfl⟩:∃ k,m=k + 1:=⟨m - 1,by omega⟩
  simp only [List.take_succ_cons,List.cons_append,Yj,zmf,List.getElem_cons_succ,Nat.add_sub_cancel];have:(l.take m).getLastD x=(x::l)[m]:=by
   have hm:m<=l.length:=by simp at h;omega
   cases m with
   | zero=>simp
   | succ m=>simp [List.getLastD_eq_getLast?,List.getLast?_take,show m < l.length by omega]
  rw [this]
theorem zgK (a b:Pt):ACall Tryz.prog 166 [yT a,yT b] (pb (zky a b)):=by
 refine zh zf Tryz.func166 rfl zws Tryz.ntmps166 zwy63 _ rfl (fun hw gB hgB=>?_)
 repeat' (first|refine sA ?_|refine sC (fun _=>?_) (fun _=>?_)|fail)
 all_goals exact retq rfl rfl
abbrev zPt:PV:=.agg [pi 0,pi 0,pi 0,pi 0]
theorem zwk23 {G:Prop} (h:G:=by repeat' (first|(have:=b0;refine zeD (t:=4) (i:=0) rfl rfl ?_)|(have:=b1;refine zy rfl (au (k:=i) (j:=0) g0) rfl rfl ?_)|(have:=b1;refine zq rfl (au (k:=i) (j:=0) g0) rfl rfl ?_)|(have:=b1;refine zy rfl (au (k:=i - 1) (j:=0) g1) rfl rfl ?_)|(have:=b1;refine zq rfl (au (k:=i - 1) (j:=0) g1) rfl rfl ?_)|(refine shC ?_;first|(have:=b1;refine qV (cb) ?_))|(refine shX ?_;first|(have:=b1;refine zy rfl (zO (k:=i - 1) zf rfl rfl rfl rfl rfl rfl rfl hix h1) rfl rfl ?_)|(have:=b1;refine zq rfl (zO (k:=i - 1) zf rfl rfl rfl rfl rfl rfl rfl hix h1) rfl rfl ?_)|(have:=b1;refine zy rfl (aA (k:=i) h0) rfl rfl ?_)|(have:=b1;refine zq rfl (aA (k:=i) h0) rfl rfl ?_))|(have:=b2;refine yj ?_;first|refine zct zf rfl rfl rfl rfl rfl rfl rfl ?_)|(have:=b0;refine sA ?_)|(have:=b3;refine zy rfl (zji (j:=20) zf rfl rfl rfl rfl rfl hB0) rfl rfl ?_)|(have:=b3;refine zgb zf 0 21 rfl rfl rfl rfl rfl rfl rfl rfl rfl zwy62 zwy62 zwy62 zwy62 rfl rfl rfl (fun u2=>?_))|(have:=b3;refine zgb zf 0 22 rfl rfl rfl rfl rfl rfl rfl rfl rfl zwy62 zwy62 zwy76 zwy76 rfl rfl rfl (fun u3=>?_))|(have:=b3;refine zpD (t:=4) (i:=0) (j:=22) rfl rfl rfl rfl zwy76 zwy76 ?_)|(have:=b3;refine yj ?_;first|refine zpU (j:=21) zf rfl rfl rfl rfl rfl rfl (Nat.le_of_lt hcB) (Nat.le_refl _) hB0 rfl rfl rfl rfl ?_)|(have:=b4;refine sK ?_)|refine sC (fun _=>?_) (fun _=>?_)|(have:=b0;exact ⟨.inr rfl,.inl ⟨_,rfl,by rw [hcp];rfl,tH⟩⟩)|(have:=b1;exact ⟨i + 1,⟨by omega,by omega,by rw [hst,hci,List.take_succ_eq_append_getElem hlt];rfl⟩,tD,tS,tH⟩)|(have:=b3;exact ⟨.inr rfl,.inl ⟨_,rfl,by rw [pts,<-hfin];rfl,tH⟩⟩)|fail)):G:=h
theorem zlc (l:List Pt) (hl:l.length < 20) (us:Nat->Value) :
  ACallM Tryz.prog 165 [.own 0,.pv (.fn (.func 166) [] [])] (zcj us l) (.pv (pts (Yj l))) ([(0,.dead)]++Zc us [0]):=by
 refine Zl zf Tryz.func165 rfl zws Tryz.ntmps165 zwy63 _ rfl (fun gB hw1=>?_);by_cases h2:l.length < 2
 ·have hd:decide ((((l.map yT).length:Nat):Int) < 2)=true:=decide_eq_true zwy64;have hcp:Yj l=l:=by
   cases l with
   | nil=>rfl
   | cons x l=>cases l with
    | nil=>rfl
    | cons y l=>simp at h2;omega
  have b0:=();have b2:=();exact zwk23
 ·have hd:decide ((((l.map yT).length:Nat):Int) < 2)=false:=decide_eq_false zwy64
  repeat' (first|refine zeD (t:=4) (i:=0) rfl rfl ?_|(refine yj ?_;first|refine zct zf rfl rfl rfl rfl rfl rfl rfl ?_)|refine sA ?_|refine sC (fun _=>?_) (fun _=>?_)|fail)
  refine zL (fun i:Nat=>[(0,.own 0),(1,.pv (.fn (.func 166) [] [])),(5,.pv (pi i))]) (fun _=>zcj us l) (fun i=>1<=i/\i<=l.length/\Yj (l.take i)=l.take i) (fun i=>l.length - i) 1 ⟨by omega,by omega,by cases l <;> rfl⟩ (tS) tH ?_;rintro i ⟨hi1,hi2,hci⟩;by_cases hlt:i < l.length
  ·have hd':decide (((i:Nat):Int) < (((l.map yT).length:Nat):Int))=true:=decide_eq_true zwy64;have hln:(l.map yT).length=l.length:=by simp
   have g0:(l.map yT)[i]?=some (yT l[i]):=by simp [hlt]
   have g1:(l.map yT)[i - 1]?=some (yT (l[i - 1]'zwy62)):=by simp [show i - 1 < l.length by omega]
   have h0:i < (l.map yT).length:=by simp [hlt]
   have h1:i - 1 < (l.map yT).length:=by simp;omega
   have hix:IntKind.i64.wrap (((i:Nat):Int) - 1)=((i - 1:Nat):Int):=by rw [wrap_in zwy62 zwy62];omega
   have hst:=zin hi1 hlt;have cb:=zgK l[i] (l[i - 1]'zwy62);cases hsame:zky l[i] (l[i - 1]'zwy62)
   ·rw [hsame] at cb hst;have b1:=();have b2:=();have b4:=();exact zwk23
   ·rw [hsame] at cb hst
    repeat' (first|refine zy rfl (au (k:=i) (j:=0) g0) rfl rfl ?_|refine zq rfl (au (k:=i) (j:=0) g0) rfl rfl ?_|refine zy rfl (au (k:=i - 1) (j:=0) g1) rfl rfl ?_|refine zq rfl (au (k:=i - 1) (j:=0) g1) rfl rfl ?_|refine zgb zf 0 20 rfl rfl rfl rfl rfl rfl rfl rfl rfl zwy62 (by simp only [List.length_map];omega) zwy62 (by simp only [List.length_map];omega) rfl rfl rfl (fun uu=>?_)|(refine shC ?_;first|refine qV (cb) ?_)|(refine shX ?_;first|refine zy rfl (zO (k:=i - 1) zf rfl rfl rfl rfl rfl rfl rfl hix h1) rfl rfl ?_|refine zq rfl (zO (k:=i - 1) zf rfl rfl rfl rfl rfl rfl rfl hix h1) rfl rfl ?_|refine zy rfl (aA (k:=i) h0) rfl rfl ?_|refine zq rfl (aA (k:=i) h0) rfl rfl ?_)|(refine yj ?_;first|refine zct zf rfl rfl rfl rfl rfl rfl rfl ?_)|refine sK ?_|refine sC (fun _=>?_) (fun _=>?_)|fail)
    refine zL (fun st:Nat × List Pt=>[(0,.own 0),(1,.pv (.fn (.func 166) [] [])),(5,.pv (pi (Yj (l.take (i + st.1))).length)),(6,.pv (.base (cut 4 uu i (l.map yT).length))),(7,.pv (pi st.1))])
     (fun st=>[(0,.mrow 160 4 ((Yj (l.take (i + st.1))++(st.2++l.drop (i + st.1 - 1))).map yT)),(20,.pin (.own 0) uu),(1000,.pin (.own 0) (us 0))])
     (fun st=>1<=st.1/\i + st.1<=l.length/\(Yj (l.take (i + st.1))).length + st.2.length=i + st.1 - 1) (fun st=>l.length - st.1) (1,[])
     ⟨Nat.le_refl _,hlt,by show (Yj (l.take (i + 1))).length + 0=i + 1 - 1;rw [hst,hci];simp;omega⟩
     (by repeat (first|exact yO|refine yA rfl ?_|(refine qW rfl ?_ ?_;· (show ((i:Nat):Int)=(((Yj (l.take (i + 1))).length:Nat):Int);rw [hst,hci];simp;omega))))
     ⟨Zi rfl (by show _=(Yj (l.take (i + 1))++([]++l.drop (i + 1 - 1))).map yT;rw [hst,hci];simp) zwy67,rfl⟩ ?_
    rintro ⟨k,mid⟩ ⟨hk0,hkn,hkl⟩;change 1<=k at hk0;change i + k<=l.length at hkn;change (Yj (l.take (i + k))).length + mid.length=i + k - 1 at hkl;obtain ⟨c,hc⟩:∃ c,c=Yj (l.take (i + k)):=⟨_,rfl⟩
    show AW _ _ _ _ [(0,.own 0),(1,.pv (.fn (.func 166) [] [])),(5,.pv (pi (Yj (l.take (i + k))).length)),(6,.pv (.base (cut 4 uu i (l.map yT).length))),(7,.pv (pi k))] [(0,.mrow 160 4 ((Yj (l.take (i + k))++(mid++l.drop (i + k - 1))).map yT)),(20,.pin (.own 0) uu),(1000,.pin (.own 0) (us 0))] _
    have hcs:=fun h=>zin (l:=l) (m:=i + k) zwy62 h
    rw [<-hc] at hkl hcs ⊢;obtain ⟨B,hB⟩:∃ B,B=(c++(mid++l.drop (i + k - 1))).map yT:=⟨_,rfl⟩
    rw [<-hB];have hBl:B.length=l.length:=by rw [hB];simp;omega
    have hB0:0 < B.length:=by omega
    have hh:(l.map yT).length<=B.length:=by rw [hBl];simp
    by_cases hkt:i + k < l.length
    ·have hd2:decide (((k:Nat):Int) < (((l.map yT).length - i:Nat):Int))=true:=decide_eq_true zwy64;have hdr:l.drop (i + k - 1)=(l[i + k - 1]'zwy62)::l.drop (i + k):=by rw [List.drop_eq_getElem_cons zwy62];congr 2;omega
     have hdr2:l.drop (i + k)=l[i + k]::l.drop (i + k + 1):=List.drop_eq_getElem_cons hkt;have cb:=zgK l[i + k] (l[i + k - 1]'zwy62);obtain ⟨y,hy⟩:∃ y,y=l[i + k - 1]'zwy62:=⟨_,rfl⟩
     obtain ⟨x,hx⟩:∃ x,x=l[i + k]:=⟨_,rfl⟩
     have hcs':=hcs hkt;rw [<-hx,<-hy] at cb hcs';rw [<-hy] at hdr;rw [<-hx] at hdr2;have hB':B=(c++mid).map yT++yT y::yT x::(l.drop (i + k + 1)).map yT:=by rw [hB,hdr,hdr2];simp
     have hcl:((c++mid).map yT).length=i + (k - 1):=by simp;omega
     have gy:B[i + (k - 1)]?=some (yT y):=by rw [hB',List.getElem?_append_right zwy62,hcl];simp
     have gx:B[i + k]?=some (yT x):=by rw [hB',List.getElem?_append_right zwy62,hcl,show i + k - (i + (k - 1))=1 by omega];rfl
     have hk1:i + k < (l.map yT).length:=by simp;omega
     have hk2:i + (k - 1) < (l.map yT).length:=by simp;omega
     have hkx:IntKind.i64.wrap (((k:Nat):Int) - 1)=((k - 1:Nat):Int):=by rw [wrap_in zwy62 zwy62];omega
     cases hs2:zky x y
     ·rw [hs2] at cb hcs';obtain ⟨z,tl,hz⟩:∃ z tl,mid++[y]=z::tl:=by
       cases mid with
       | nil=>exact ⟨y,[],rfl⟩
       | cons z mid=>exact ⟨z,mid++[y],rfl⟩
      have hB2:B=c.map yT++yT z::(tl++l.drop (i + k)).map yT:=by
       have:c++(mid++y::l.drop (i + k))=c++z::(tl++l.drop (i + k)):=by
        rw [show mid++y::l.drop (i + k)=(mid++[y])++l.drop (i + k) by simp,hz];simp
       rw [hB,hdr,this];simp
      have gz:B[c.length]?=some (yT z):=by rw [hB2,List.getElem?_append_right zwy63];simp
      have hcB:c.length < B.length:=by omega
      repeat' (first|refine zy rfl (zji (j:=20) zf rfl rfl rfl rfl rfl hB0) rfl rfl ?_|refine zy rfl (Xl (j:=20) zf (k) rfl rfl rfl rfl rfl rfl rfl rfl rfl hk1 hh) rfl rfl ?_|refine zq rfl (Xl (j:=20) zf (k) rfl rfl rfl rfl rfl rfl rfl rfl rfl hk1 hh) rfl rfl ?_|refine zy rfl (Xl (j:=20) zf (k - 1) rfl rfl rfl rfl rfl rfl rfl rfl hkx hk2 hh) rfl rfl ?_|refine zq rfl (Xl (j:=20) zf (k - 1) rfl rfl rfl rfl rfl rfl rfl rfl hkx hk2 hh) rfl rfl ?_|refine zy rfl (au (k:=i + k) (j:=0) gx) rfl rfl ?_|refine zq rfl (au (k:=i + k) (j:=0) gx) rfl rfl ?_|refine zy rfl (au (k:=i + (k - 1)) (j:=0) gy) rfl rfl ?_|refine zq rfl (au (k:=i + (k - 1)) (j:=0) gy) rfl rfl ?_|(refine shC ?_;first|refine qV (cb) ?_)|(refine shX ?_;first|refine zy rfl (aA (k:=c.length) hcB) rfl rfl ?_|refine zq rfl (aA (k:=c.length) hcB) rfl rfl ?_)|(refine Yb ?_;first|refine XB (k:=c.length) (j:=0) zf rfl rfl rfl rfl rfl gz rfl rfl rfl rfl rfl ?_)|refine sK ?_|refine sC (fun _=>?_) (fun _=>?_)|fail)
      have ht:tl.length=mid.length:=by have:=congrArg List.length hz;simp at this;omega
      have hcc:Yj (l.take (i + (k + 1)))=c++[x]:=hcs';have hnew:B.set c.length (yT x)=(Yj (l.take (i + (k + 1)))++(tl++l.drop (i + (k + 1) - 1))).map yT:=by
       rw [hcc,hB2,List.set_append_right _ _ zwy63];simp
      have e5:IntKind.i64.wrap (((c.length:Nat):Int) + 1)=(((Yj (l.take (i + (k + 1)))).length:Nat):Int):=by rw [wrap_in zwy62 zwy62,hcc];simp
      have e7:IntKind.i64.wrap (((k:Nat):Int) + 1)=((k + 1:Nat):Int):=by rw [wrap_in zwy62 zwy62];omega
      exact ⟨(k + 1,tl),⟨by show 1<=k + 1;omega,by show i + (k + 1)<=l.length;omega,by show (Yj (l.take (i + (k + 1)))).length + tl.length=i + (k + 1) - 1;rw [hcc,ht];simp;omega⟩,by show l.length - (k + 1) < l.length - k;omega,by repeat (first|exact yO|refine yA rfl ?_|(refine qW rfl ?_ ?_;· first|exact e5|exact e7)),⟨Zi rfl hnew zwy67,rfl⟩⟩
     ·rw [hs2] at cb hcs'
      repeat' (first|refine zy rfl (zji (j:=20) zf rfl rfl rfl rfl rfl hB0) rfl rfl ?_|refine zy rfl (Xl (j:=20) zf (k) rfl rfl rfl rfl rfl rfl rfl rfl rfl hk1 hh) rfl rfl ?_|refine zq rfl (Xl (j:=20) zf (k) rfl rfl rfl rfl rfl rfl rfl rfl rfl hk1 hh) rfl rfl ?_|refine zy rfl (Xl (j:=20) zf (k - 1) rfl rfl rfl rfl rfl rfl rfl rfl hkx hk2 hh) rfl rfl ?_|refine zq rfl (Xl (j:=20) zf (k - 1) rfl rfl rfl rfl rfl rfl rfl rfl hkx hk2 hh) rfl rfl ?_|refine zy rfl (au (k:=i + k) (j:=0) gx) rfl rfl ?_|refine zq rfl (au (k:=i + k) (j:=0) gx) rfl rfl ?_|refine zy rfl (au (k:=i + (k - 1)) (j:=0) gy) rfl rfl ?_|refine zq rfl (au (k:=i + (k - 1)) (j:=0) gy) rfl rfl ?_|(refine shC ?_;first|refine qV (cb) ?_)|refine sK ?_|refine sC (fun _=>?_) (fun _=>?_)|fail)
      have hcc:Yj (l.take (i + (k + 1)))=c:=by rw [show i + (k + 1)=i + k + 1 by omega,hcs'];simp
      have hnew:B=(Yj (l.take (i + (k + 1)))++((mid++[y])++l.drop (i + (k + 1) - 1))).map yT:=by
       rw [hcc,hB,hdr];simp
      have e5:((c.length:Nat):Int)=(((Yj (l.take (i + (k + 1)))).length:Nat):Int):=by rw [hcc]
      have e7:IntKind.i64.wrap (((k:Nat):Int) + 1)=((k + 1:Nat):Int):=by rw [wrap_in zwy62 zwy62];omega
      exact ⟨(k + 1,mid++[y]),⟨by show 1<=k + 1;omega,by show i + (k + 1)<=l.length;omega,by show (Yj (l.take (i + (k + 1)))).length + (mid++[y]).length=i + (k + 1) - 1;rw [hcc];simp;omega⟩,by show l.length - (k + 1) < l.length - k;omega,by repeat (first|exact yO|refine yA rfl ?_|(refine qW rfl ?_ ?_;· first|exact e5|exact e7)),⟨Zi rfl hnew zwy67,rfl⟩⟩
    ·have hd2:decide (((k:Nat):Int) < (((l.map yT).length - i:Nat):Int))=false:=decide_eq_false zwy64;have hcB:c.length < B.length:=by omega
     have hcl:c=Yj l:=by rw [hc,List.take_of_length_le zwy62]
     have hfin:(B.take c.length++List.replicate (B.length - c.length) zPt++B.drop (c.length + (B.length - c.length))).take c.length=(Yj l).map yT:=by
      rw [List.append_assoc,List.take_append_of_le_length zwy64,List.take_take,Nat.min_self,hB,<-hcl];simp
     have b3:=();have b4:=();exact zwk23
  ·have hd':decide (((i:Nat):Int) < (((l.map yT).length:Nat):Int))=false:=decide_eq_false zwy64;have hcp:Yj l=l:=by rw [List.take_of_length_le zwy62] at hci;exact hci
   have b0:=();have b2:=();exact zwk23
set_option maxHeartbeats 20000000
theorem zl1 (x:Pt) (at_:Int):ACall Tryz.prog 162 [.agg [pi x.f,pi x.t],pi at_] (pb (zd7 at_ x)):=by
 refine zh zf Tryz.func162 rfl zws Tryz.ntmps162 zwy63 _ rfl (fun hw gB hgB=>?_)
 repeat' (first|refine sA ?_|refine sC (fun _=>?_) (fun _=>?_)|fail)
 all_goals (refine ak ?_;simp_all [zn,zd7];try omega)
theorem zwk24 {G:Prop} (h:G:=by repeat' (first|(refine shC ?_;first|(have:=b0;refine qC ch ?_))|(refine shX ?_;first|(have:=b0;refine qX hej ?_))|(have:=b0;refine yj ?_;first|refine YF zf rfl rfl rfl rfl rfl rfl rfl zwy106 zwy64 rfl rfl ?_)|(have:=b1;refine zu ?_;first|(refine yH (mrP (zea at_ l)) (mrP (WX (zea at_ l))) [] [(5,.own 0)] [0] zi rfl rfl rfl ?_ tS rfl rfl rfl hso ?_;· (repeat (first|exact zC|refine aB ?_)))|(refine yH (mrP (WX (zea at_ l))) ([(0,.dead)]) [] [] [0] zi rfl rfl rfl ?_ tS rfl rfl rfl hco ?_;· (repeat (first|exact zC|refine aB ?_))))|refine sK ?_|refine sC (fun _=>?_) (fun _=>?_)|(have:=b0;exact ⟨j + 1,hlj,tD,tS,⟨Zi rfl (by rw [hst];simp) zC,rfl⟩⟩)|(have:=b2;exact ⟨k + 1,hlt,tD,tS,⟨Zi rfl (by rw [hnext,List.take_of_length_le (by omega)]) zC,rfl⟩⟩)|exact retq rfl rfl|fail)):G:=h
theorem zbe (l:List Cl) (at_:Int) (hl:l.length<=6) (hs:∀ x∈zea at_ l,SmP x):ACall Tryz.prog 122 [cls l,pi at_] (pts (qL l at_)):=by
 have hlen:(zea at_ l).length < 20:=by have:=zdS at_ l l.length;rw [zea];omega
 have hso:∀ us,ACallM _ _ _ _ _ _ _:=fun us=>zp3 (zea at_ l) hlen hs us
 have hco:∀ us,ACallM _ _ _ _ _ _ _:=fun us=>zlc (WX (zea at_ l)) (by rw [zgk];exact hlen) us
 refine zh zf Tryz.func122 rfl zws Tryz.ntmps122 zwy63 _ rfl (fun hw gB hgB=>?_)
 repeat' (first|refine zde (t:=5) 0 160 4 zwy69 rfl rfl ?_|refine sA ?_|refine sC (fun _=>?_) (fun _=>?_)|fail)
 refine zL (fun k:Nat=>[(1,.pv (pi at_)),(5,.own 0),(10,.pv (cls l)),(11,.pv (pi l.length)),(12,.pv (pi k))]) (fun k=>mrP (zcW at_ l k)) (fun k=>k<=l.length) (fun k=>l.length - k) 0 zwy62 (tS) ⟨Zi rfl rfl zC,rfl⟩ ?_;rintro k hk;by_cases hlt:k < l.length
 ·have he:(l.map qR)[k]?=some (qR (l.getD k default)):=zbn hlt;have cp:=zbG k (l.getD k default);have hal:=zdS at_ l k;have hpl:=zir k (l.getD k default);have hnext:zcW at_ l (k + 1)=zcW at_ l k++(yK k (l.getD k default)).filter (zd7 at_):=rfl;obtain ⟨p,hp⟩:∃ p,p=yK k (l.getD k default):=⟨_,rfl⟩
  rw [<-hp] at cp hpl hnext
  repeat' (first|(refine shC ?_;first|refine qC cp ?_)|(refine shX ?_;first|refine qX he ?_)|refine sK ?_|refine sC (fun _=>?_) (fun _=>?_)|fail)
  refine zL (fun j:Nat=>[(1,.pv (pi at_)),(5,.own 0),(10,.pv (cls l)),(11,.pv (pi l.length)),(12,.pv (pi k)),(19,.pv (pts p)),(20,.pv (pi p.length)),(21,.pv (pi j))]) (fun j=>mrP (zcW at_ l k++(p.take j).filter (zd7 at_))) (fun j=>j<=p.length) (fun j=>p.length - j) 0 zwy62 (tS) ⟨Zi rfl zwy63 zC,rfl⟩ ?_;rintro j hj;by_cases hlj:j < p.length
  ·have hej:=zS (f:=yT) hlj;obtain ⟨x,hx⟩:∃ x,x=p[j]:=⟨_,rfl⟩
   have hst:(p.take (j + 1)).filter (zd7 at_)=(p.take j).filter (zd7 at_)++if zd7 at_ x then [x] else []:=by
    rw [List.take_succ_eq_append_getElem hlj,List.filter_append,<-hx];cases h:zd7 at_ x <;> simp [List.filter,h]
   rw [<-hx] at hej;have ch:=zl1 x at_;have hfl:=List.length_filter_le (zd7 at_) (p.take j);have htl:(p.take j).length<=3:=by simp;omega
   cases hh:zd7 at_ x
   ·rw [hh] at ch hst;have b0:=();exact zwk24
   ·rw [hh] at ch hst;have b0:=();exact zwk24
  ·have b2:=();exact zwk24
 ·have hk2:k=l.length:=by omega
  subst hk2;have b1:=();exact zwk24
end Go.Cg
namespace Go.Cg
end Go.Cg
namespace Go.Cg
open Go.Proofs
theorem zoX {k:Int} {c:Cl} {x:Pt} (h:x∈yK k c):x.c=k/\(x.p=1\/x.p=2\/(x.p=3/\c.kind=2))/\bounds c x.p=(x.f,x.t):=by
 unfold yK at h;by_cases hk:c.kind=2
 ·simp [hk] at h;rcases h with rfl|rfl|rfl <;> simp [bounds,hk]
 ·simp [hk] at h;rcases h with rfl|rfl <;> simp [bounds]
theorem zwt {n:Int} {c:Cl} (h:Qg n c=0):meet c 1 c 2=false/\meet c 1 c 3=false/\meet c 2 c 3=false:=by
 unfold Qg at h;split at h
 ·simp at h
 ·split at h
  ·simp at h
  ·split at h
   ·simp at h
   ·rename_i h1;simp only [Bool.or_eq_true,not_or,Bool.not_eq_true] at h1;exact ⟨h1.1.1,h1.1.2,h1.2⟩
theorem zdV {n:Int} {l:List Cl} (h:(Zu n l).2=0):(∀ i,i < l.length->Qg n (l.getD i default)=0)/\∀ j i,i < l.length->j < i->Wu (l.getD j default) (l.getD i default)=true:=by
 have h6:¬ 6 < l.length:=fun h6=>by simp [Zu,h6] at h
 have hall:∀ i,i < l.length->Qj n l i=0:=by
  intro i hi;rw [Zu,if_neg h6] at h;split at h
  ·rename_i j hj;have:=List.find?_some hj;simp only [bne_iff_ne,ne_eq] at this;exact absurd h this
  ·rename_i hn;have:=List.find?_eq_none.1 hn i (List.mem_range.2 hi);simpa using this
 refine ⟨fun i hi=>zf5 (hall i hi),fun j i hi hj=>?_⟩;have:=hall i hi;rw [Qj,zf5 this] at this;simp only [bne_self_eq_false,Bool.false_eq_true,if_false] at this;split at this
 ·simp at this
 ·rename_i hb;simp only [QB,Bool.not_eq_true,List.any_eq_false,List.mem_range,Bool.not_eq_true'] at hb;have:=hb j hj;simpa using this
theorem zjj {n:Int} {l:List Cl} (hc:(Zu n l).2=0) {j:Nat} (hj:j < l.length) {y:Pt} (hy:y∈yK j (l.getD j default)):y.t<=n/\0<=y.f:=by
 have ha:=(zdV hc).1 j hj;have hok:=zc7 ha;generalize l.getD j default=c at *;have h1:c.tt<=n/\c.ht<=n:=by
  unfold Qg at ha;split at ha
  ·simp at ha
  ·rename_i h1;simp only [WJ,zbi,Bool.or_eq_true,decide_eq_true_eq,Bool.not_eq_true',Bool.and_eq_false_iff,decide_eq_false_iff_not,not_or,Decidable.not_not] at h1;omega
 obtain ⟨_,p1,b1⟩:=zoX hy;have e:=hok.t;have e2:=hok.h;have e3:=hok.h0;have e4:=hok.t0;rcases p1 with p1|p1|⟨p1,hk⟩ <;> rw [p1] at b1 <;> simp [bounds] at b1
 ·omega
 ·omega
 ·have:=hok.f hk;rw [hk] at b1;simp at b1;omega
end Go.Cg
