/- A part of the walks by abstract values: no statement of its own. -/
import Derived.Test.YtdbgicaoddibdaaGreatT15
import Derived.Test.YtdbgicaoddibdaaGreatT21
set_option linter.unusedVariables false
set_option linter.unusedSimpArgs false
namespace Go.Cg
section
variable {P:Program} {n:Nat} {g:Base} {H:HEnv} {env:Env} {c:Code} {QQ:QC} {ops:List Oper}
theorem zkO (env2:Env) (H2:HEnv) (hs:Sub env env2) (hH:Yj H H2 env2) (k:AW P n g c env2 H2 QQ):AW P n g c env H QQ :=
 ⟨fun a w hi=>k.go a w ((hi.sub hs).hsub hH)⟩
end
end Go.Cg

namespace Go.Cg
inductive Rch (step:Int→List Int) (l:List Int):Int→Prop where
 | base (x:Int):x∈l→Rch step l x
 | step (x y:Int):Rch step l x→y∈step x→Rch step l y
theorem ztT {met:List Int} {x y:Int}:y∈YI met x↔y∈met∨y=x:=by
 unfold YI;split
 ·rename_i h;constructor
  ·exact .inl
  ·rintro (h1|rfl)
   ·exact h1
   ·exact h
 ·simp
theorem Ws {y:Int}:∀ {l met:List Int},y∈l.foldl YI met↔y∈met∨y∈l
 | [],met=>by simp
 | x::l,met=>by
  rw [List.foldl_cons,Ws (l:=l),ztT];simp only [List.mem_cons];constructor
  ·rintro ((h|h)|h)
   ·exact .inl h
   ·exact .inr (.inl h)
   ·exact .inr (.inr h)
  ·rintro (h|h|h)
   ·exact .inl (.inl h)
   ·exact .inl (.inr h)
   ·exact .inr h
theorem zjd:∀ (l met:List Int),∃ r,l.foldl YI met=met++r
 | [],met=>⟨[],by simp⟩
 | x::l,met=>by
  obtain ⟨r,hr⟩:=zjd l (YI met x);rw [List.foldl_cons,hr];unfold YI;split
  ·exact ⟨r,rfl⟩
  ·exact ⟨x::r,by simp⟩
theorem zeI {N:Nat} {step:Int→List Int} (hs:∀ x:Int,0≤x→x < N→∀ y∈step x,0≤y∧y < N):∀ (n i:Nat) (met:List Int),NInv N met→i≤met.length→N + 1≤n + i →
  (∀ j (h:j < i) (h2:j < met.length),∀ y∈step met[j],y∈met) →
  (∀ x∈met,x∈XB step n i met)∧(∀ u∈XB step n i met,∀ y∈step u,y∈XB step n i met)∧(∀ x∈XB step n i met,Rch step met x)∧NInv N (XB step n i met)
 | 0,i,met,hm,hi,hn,hc=>by
  have:=hm.len;omega
 | n + 1,i,met,hm,hi,hn,hc=>by
  rw [XB];by_cases hlt:i < met.length
  ·rw [List.getElem?_eq_getElem hlt];simp only;obtain ⟨h0,h1⟩:=hm.2 _ (List.getElem_mem hlt);have hst:=hs _ h0 h1;have hm2:=NInv.fold _ hm hst;obtain ⟨r,hr⟩:=zjd (step met[i]) met;have hl:met.length≤((step met[i]).foldl YI met).length:=by rw [hr];simp
   obtain ⟨q1,q2,q3,q4⟩:=zeI hs n (i + 1) ((step met[i]).foldl YI met) hm2 zwy62 zwy62 (by
    intro j hj hj2 y hy;rw [Ws];have hjm:j < met.length:=by omega
    have e:((step met[i]).foldl YI met)[j]=met[j]:=by simp only [hr];rw [List.getElem_append_left hjm]
    rw [e] at hy;by_cases hji:j=i
    ·subst hji;exact .inr hy
    ·exact .inl (hc j zwy62 hjm y hy))
   refine ⟨fun x hx=>q1 x (Ws.2 (.inl hx)),q2,fun x hx=>?_,q4⟩;have:=q3 x hx;clear q1 q2 q3 q4 hx;induction this with
   | base x hx =>
    rcases Ws.1 hx with h|h
    ·exact .base x h
    ·exact .step _ x (.base _ (List.getElem_mem hlt)) h
   | step x y _ hy ih=>exact .step x y ih hy
  ·rw [List.getElem?_eq_none zwy62];simp only;refine ⟨fun x hx=>hx,fun u hu y hy=>?_,fun x hx=>.base x hx,hm⟩;obtain ⟨j,hj,rfl⟩:=List.getElem_of_mem hu;exact hc j zwy62 hj y hy
theorem zcF {N:Nat} {step:Int→List Int} {l:List Int} (hs:∀ x:Int,0≤x→x < N→∀ y∈step x,0≤y∧y < N) (hl:∀ x∈l,0≤x∧x < N):(∀ x,x∈XJ N step l↔Rch step l x)∧NInv N (XJ N step l):=by
 have hm:NInv N (l.foldl YI []):=NInv.fold l ⟨by simp,by simp⟩ hl;obtain ⟨q1,q2,q3,q4⟩:=zeI hs (N + 1) 0 (l.foldl YI []) hm zwy62 zwy62 (fun j h=>by omega);refine ⟨fun x=>⟨fun hx=>?_,fun hx=>?_⟩,q4⟩
 ·have:=q3 x hx;clear hx;induction this with
  | base x hx=>exact .base x (by simpa using Ws.1 hx)
  | step x y _ hy ih=>exact .step x y ih hy
 ·induction hx with
  | base x hx=>exact q1 x (Ws.2 (.inr hx))
  | step x y _ hy ih=>exact q2 x ih y hy
def RF (g:Img) (t f:Int):Prop:=Rch (yS g) ((up g t).flatMap (yS g)) f
theorem zvt {g:Img} (hF:Fm g) (t:Int):∀ x∈(up g t).flatMap (yS g),0≤x∧x < g.types.length:=by
 intro x hx;obtain ⟨u,_,h⟩:=List.mem_flatMap.1 hx;exact (hF.at u).2 x h
theorem ziR {g:Img} (hF:Fm g) (t:Int):(∀ x,x∈XJ g.types.length (yS g) ((up g t).flatMap (yS g))↔Rch (yS g) ((up g t).flatMap (yS g)) x)∧NInv g.types.length (XJ g.types.length (yS g) ((up g t).flatMap (yS g))):=zcF (N:=g.types.length) (step:=yS g) (l:=(up g t).flatMap (yS g)) (fun x _ _=>(hF.at x).2) (zvt hF t)
theorem zek {g:Img} (hF:Fm g) {t f:Int}:f∈YJ g t↔RF g t f:=by
 rw [YJ,zfV];exact (ziR hF t).1 f
theorem zvU {g:Img} {met:List Int} {f:Int} (h:there g f=true):zox g met f=YI met f:=by
 unfold zox YI;by_cases hm:f∈met
 ·simp [hm]
 ·simp [hm,h]
theorem zoc {g:Img}:∀ (l met:List Int),(∀ f∈l,there g f=true)→l.foldl (zox g) met=l.foldl YI met
 | [],met,_=>rfl
 | f::l,met,h=>by
  rw [List.foldl_cons,List.foldl_cons,zvU (h f zwy63)];exact zoc l _ fun x hx=>h x (by simp [hx])
theorem zit {g:Img} (hF:Fm g) (met:List Int) (u:Int):zeC g met u=(yS g u).foldl YI met :=
 zoc _ _ fun f hf=>Vl ((hF.at u).2 f hf)
theorem znp {g:Img} (hF:Fm g):∀ (us met:List Int),us.foldl (zeC g) met=(us.flatMap (yS g)).foldl YI met
 | [],met=>rfl
 | u::us,met=>by rw [List.foldl_cons,zit hF,List.flatMap_cons,List.foldl_append];exact znp hF us _
theorem znm {g:Img} (hF:Fm g):∀ (n i:Nat) (met:List Int),zqw g n i met=XB (yS g) n i met
 | 0,_,_=>rfl
 | n + 1,i,met=>by
  rw [zqw,XB];cases met[i]? with
  | none=>rfl
  | some u=>simp only;rw [zit hF];exact znm hF n _ _
theorem zvG {g:Img} (hF:Fm g) (t:Int):zwM g t=XJ g.types.length (yS g) ((up g t).flatMap (yS g)):=by
 rw [zwM,znm hF,zxo,znp hF];rfl
theorem zi9 {n:Nat} {x:Int}:x∈nums n↔0≤x∧x < n:=by
 simp only [nums,List.mem_map,List.mem_range];constructor
 ·rintro ⟨k,hk,rfl⟩;omega
 ·intro h;exact ⟨x.toNat,by omega,by omega⟩
theorem zik {g:Img} (hF:Fm g) {t f:Int}:f∈zbU g t↔RF g t f:=by
 rw [zbU,List.mem_filter,zvG hF,zi9];simp only [decide_eq_true_eq];rw [(ziR hF t).1 f];exact ⟨fun h=>h.2,fun h=>⟨(ziR hF t).2.2 f (((ziR hF t).1 f).2 h),h⟩⟩
structure Wl (g:Img):Prop where
 fm:Fm g
 ext:∀ t td,typeAt g t=some td → -1≤td.ext∧td.ext < g.types.length
 flags:∀ t td,typeAt g t=some td→0≤td.flags∧td.flags≤31
 flag:∀ t td,typeAt g t=some td→YC td=true
 hang:∀ t td,typeAt g t=some td→zar g t td=true
theorem zfg {g:Img} (h:Qu g=true):Wl g:=by
 have hf:=YV h;have hb:=(yG hf).2.2.2;have hck:∀ j,j < g.types.length→ZG g j=0:=by
  intro j hj;refine Classical.byContradiction fun hne=>?_
  have hex:∃ k,k < g.types.length∧ZG g k≠0∧∀ i,i < k→ZG g i=0:=by
   induction j using Nat.strongRecOn with
   | _ j ih =>
    by_cases hmin:∀ i,i < j→ZG g i=0
    ·exact ⟨j,hj,hne,hmin⟩
    ·rcases Classical.not_forall.1 hmin with ⟨i,hi⟩
     have hij:i < j:=Classical.byContradiction fun h=>hi (fun h'=>(h h').elim)
     exact ih i hij zwy62 (fun e=>hi fun _=>e)
  obtain ⟨k,hk,hk1,hk2⟩:=hex;have:=zoj hf hk hk2 hk1;rw [Qu,this] at h;simp at h;exact hk1 h
 have htd:∀ t td,typeAt g t=some td→∃ k:Nat,t=k∧∃ h:k < g.types.length,g.types[k]=td:=by
  intro t td ht;have hlt:=Wy ht;refine ⟨t.toNat,by omega,by omega,?_⟩;have:=zeg (g:=g) (k:=t.toNat) zwy62;rw [Int.toNat_of_nonneg hlt.1,ht] at this;exact (Option.some.inj this).symm
 have hcases:∀ t td,typeAt g t=some td→YC td=true∧zar g t td=true:=by
  intro t td ht;obtain ⟨k,rfl,hk,rfl⟩:=htd t td ht;have:=hck k hk;rw [zdV hk] at this;cases h1:YC g.types[k] <;> cases h2:zar g k g.types[k] <;> simp [h1,h2] at this ⊢
 refine ⟨VH hf,?_,?_,fun t td ht=>(hcases t td ht).1,fun t td ht=>(hcases t td ht).2⟩
 ·intro t td ht;obtain ⟨_,_,h3,h4,_⟩:=Xt (hb td (zaJ ht));exact ⟨h3,h4⟩
 ·intro t td ht;obtain ⟨h1,h2,_⟩:=Xt (hb td (zaJ ht));exact ⟨h1,h2⟩
def zdh (g:Img):Int→List Int→Prop
 | _,[]=>True
 | t,x::l=>x=t∧∃ td,typeAt g t=some td∧zdh g td.ext l
theorem zh6 {g:Img}:∀ (n:Nat) (t:Int) (out:List Int),∃ l,zbw g n t out=out++l∧zdh g t l
 | 0,t,out=>⟨[],by simp [zbw],trivial⟩
 | n + 1,t,out=>by
  rw [zbw];cases ht:typeAt g t with
  | none=>exact ⟨[],by simp,trivial⟩
  | some td =>
   by_cases hm:t∈out
   ·exact ⟨[],by simp [hm],trivial⟩
   ·obtain ⟨l,h1,h2⟩:=zh6 n td.ext (out++[t]);exact ⟨t::l,by simp only [hm,if_false];rw [h1];simp,rfl,td,ht,h2⟩
theorem zmB (g:Img) (t:Int):zdh g t (up g t):=by
 obtain ⟨l,h1,h2⟩:=zh6 (g:=g) (g.types.length + 1) t [];rw [up,h1];exact h2
def ch (g:Img):Nat→Int→List Int
 | 0,_=>[]
 | n + 1,t=>match typeAt g t with|some td=>t::ch g n td.ext|none=>[]
def znX (g:Img) (t:Int):Int:=match typeAt g t with|some td=>td.ext|none => -1
theorem zgp {g:Img}:∀ (l:List Int) (t:Int),zdh g t l→l≠[]→typeAt g (znX g (l.getLastD 0))=none→∀ m,l.length≤m→ch g m t=l
 | [],t,_,hne,_,_,_=>(hne rfl).elim
 | x::l,t,hc,_,he,m,hm=>by
  obtain ⟨rfl,td,htd,hc'⟩:=hc;obtain ⟨m,rfl⟩:∃ m',m=m' + 1:=⟨m - 1,by simp at hm;omega⟩
  rw [ch,htd];simp only;cases l with
  | nil =>
   simp only [List.getLastD_cons,List.getLastD_nil,znX,htd] at he;cases m with
   | zero=>rfl
   | succ m=>rw [ch,he]
  | cons y l =>
   rw [zgp (y::l) td.ext hc' zwy63 (by simpa [List.getLastD_cons] using he) m (by simp at hm ⊢;omega)]
theorem up_nil {g:Img} {t:Int} (h:typeAt g t=none):up g t=[]:=by rw [up,zbw,h]
theorem Wl.top {g:Img} (hW:Wl g) {t:Int} {td:TD} (ht:typeAt g t=some td):typeAt g (znX g ((up g t).getLastD 0))=none:=by
 obtain ⟨r,hr⟩:=zhK ht;have hh:=hW.hang t td ht;simp only [zar,Bool.and_eq_true,zmr,Bool.or_eq_true,Bool.not_eq_true',decide_eq_false_iff_not,beq_iff_eq,decide_eq_true_eq] at hh;obtain ⟨⟨h1,_⟩,_⟩:=hh;have hneg:∀ x:Int,x < 0→typeAt g x=none:=by
  intro x hx;rw [typeAt,if_neg zwy62]
 by_cases hx:0≤td.ext
 ·rcases h1 with h1|h1
  ·exact (h1 hx).elim
  ·have h3:zbm g t < 0:=h1.2;have:zbm g t=znX g ((up g t).getLastD 0):=rfl;rw [←this];exact hneg _ h3
 ·have hu:up g t=[t]:=by
   rw [up,zbw,ht];simp only [List.not_mem_nil,if_false,List.nil_append];cases g.types.length with
   | zero=>rfl
   | succ n=>rw [zbw,hneg _ zwy62]
  rw [hu];simp only [List.getLastD_cons,List.getLastD_nil,znX,ht];exact hneg _ zwy62
theorem Wl.up_eq {g:Img} (hW:Wl g) (t:Int):up g t=ch g (g.types.length + 1) t:=by
 cases ht:typeAt g t with
 | none=>rw [up_nil ht,ch,ht]
 | some td =>
  obtain ⟨r,hr⟩:=zhK ht;have hui:=zcr g t;have hul:=Yl _ _ hui.1 hui.2;exact (zgp _ t (zmB g t) (by rw [hr];simp) (hW.top ht) _ zwy62).symm
theorem Wl.up_cons {g:Img} (hW:Wl g) {t:Int} {td:TD} (ht:typeAt g t=some td):up g t=t::up g td.ext:=by
 obtain ⟨r,hr⟩:=zhK ht;have hui:=zcr g t;have hul:=Yl _ _ hui.1 hui.2;have h1:=zgp _ t (zmB g t) (by rw [hr];simp) (hW.top ht) (g.types.length + 2) zwy62;rw [←h1,ch,ht,hW.up_eq]
theorem Wl.up_len {g:Img} (hW:Wl g):∀ (n:Nat) (a b:Int),(up g a).length≤n→b∈up g a→(∀ x∈up g b,x∈up g a)∧(b=a∨(up g b).length < (up g a).length)
 | 0,a,b,hn,hb=>by
  have:up g a=[]:=List.eq_nil_of_length_eq_zero zwy62;rw [this] at hb;simp at hb
 | n + 1,a,b,hn,hb=>by
  cases ha:typeAt g a with
  | none=>rw [up_nil ha] at hb;simp at hb
  | some td =>
   have e:=hW.up_cons ha;rw [e] at hb hn ⊢;rcases List.mem_cons.1 hb with rfl|hb
   ·rw [e];exact ⟨fun x hx=>hx,.inl rfl⟩
   ·obtain ⟨h1,h2⟩:=hW.up_len n td.ext b (by simp at hn;omega) hb;refine ⟨fun x hx=>List.mem_cons_of_mem _ (h1 x hx),.inr ?_⟩;rcases h2 with rfl|h2
    ·simp
    ·simp;omega
theorem Wl.up_trans {g:Img} (hW:Wl g) {a b c:Int} (h1:b∈up g a) (h2:c∈up g b):c∈up g a:=(hW.up_len _ a b (Nat.le_refl _) h1).1 c h2
theorem Wl.face_kind {g:Img} (hW:Wl g) {u f:Int} (h:f∈yS g u):yt g f=2:=by
 unfold yS at h;cases hu:typeAt g u with
 | none=>rw [hu] at h;simp at h
 | some td =>
  rw [hu] at h;simp only at h;have hh:=hW.hang u td hu;simp only [zar,Bool.and_eq_true,List.all_eq_true,List.mem_range,ze1,beq_iff_eq] at hh;obtain ⟨⟨_,h2⟩,_⟩:=hh;obtain ⟨j,hj,rfl⟩:=List.getElem_of_mem h;have:=(h2 j hj).1
  rwa [zT hj] at this
theorem Wl.rf_kind {g:Img} (hW:Wl g) {t f:Int} (h:RF g t f):yt g f=2:=by
 cases h with
 | base _ hx=>obtain ⟨u,_,h⟩:=List.mem_flatMap.1 hx;exact hW.face_kind h
 | step x _ _ hy=>exact hW.face_kind hy
theorem zij {g:Img} {t k:Int} (h:yt g t=k) (hk:0≤k):∃ td,typeAt g t=some td∧VG td.flags=k:=by
 unfold yt at h;cases ht:typeAt g t with
 | none=>rw [ht] at h;simp at h;omega
 | some td=>rw [ht] at h;exact ⟨td,rfl,h⟩
theorem Wl.face_up {g:Img} (hW:Wl g) {t:Int} (h:yt g t=2):up g t=[t]:=by
 obtain ⟨td,ht,hk⟩:=zij h zwy62;have hfl:=hW.flag t td ht;have hext:td.ext = -1:=by
  simp [YC,hk] at hfl;exact hfl.1.1.1.1
 rw [hW.up_cons ht,hext,up_nil (by rw [typeAt,if_neg (by omega)])]
theorem RF.up {g:Img} (hW:Wl g) {a b f:Int} (h:b∈up g a) (hf:RF g b f):RF g a f:=by
 induction hf with
 | base x hx =>
  obtain ⟨u,hu,hxu⟩:=List.mem_flatMap.1 hx;exact .base x (List.mem_flatMap.2 ⟨u,hW.up_trans h hu,hxu⟩)
 | step x y _ hy ih=>exact .step x y ih hy
theorem RF.trans {g:Img} (hW:Wl g) {a b f:Int} (h:RF g a b) (hf:RF g b f):RF g a f:=by
 have hu:=hW.face_up (hW.rf_kind h);induction hf with
 | base x hx =>
  obtain ⟨u,hu',hxu⟩:=List.mem_flatMap.1 hx;rw [hu] at hu';simp at hu';subst hu';exact .step _ x h hxu
 | step x y _ hy ih=>exact .step x y ih hy
def Bl (g:Img) (a b:Int):Prop:=b∈up g a∨RF g a b
theorem zi2 {g:Img} (hF:Fm g) {a b:Int}:XG g a b=true↔Bl g a b:=by
 simp only [XG,Bool.or_eq_true,decide_eq_true_eq,zek hF,Bl]
theorem Wl.trans {g:Img} (hW:Wl g) {a b c:Int} (h1:Bl g a b) (h2:Bl g b c):Bl g a c:=by
 rcases h1 with h1|h1 <;> rcases h2 with h2|h2
 ·exact .inl (hW.up_trans h1 h2)
 ·exact .inr (h2.up hW h1)
 ·rw [hW.face_up (hW.rf_kind h1)] at h2;simp at h2;subst h2;exact .inr h1
 ·exact .inr (RF.trans hW h1 h2)
theorem Wl.refl {g:Img} (hW:Wl g) {a:Int} {td:TD} (h:typeAt g a=some td):Bl g a a:=by
 rw [Bl,hW.up_cons h];simp
end Go.Cg
namespace Go.Cg
open Go.Proofs
set_option maxHeartbeats 20000000
theorem Xw (td:TD) (b:Int):ACall Tryz.prog 202 [pi b,.ptr (ZB td) 0] (pb (qL td.flags b)):=by
 refine zi zf Tryz.func202 rfl zws Tryz.ntmps202 zwy63 _ rfl (fun hw gB hgB=>?_)
 repeat' (first|refine sA ?_|refine sC (fun _=>?_) (fun _=>?_)|fail)
 exact retq rfl rfl
def YD (td:TD):Bool :=
 if zgP td.flags==2 then qL td.flags 4&&!qL td.flags 1&&!qL td.flags 8&&!qL td.flags 16&&td.ext == -1
 else if zgP td.flags==1 then qL td.flags 8&&!qL td.flags 4&&!qL td.flags 16&&td.ext == -1
 else if zgP td.flags==3 then qL td.flags 8&&!qL td.flags 4&&td.ext == -1&&((td.faces.length:Int)==0)
 else true
theorem zjS (td:TD):ACall Tryz.prog 185 [ZB td] (pb (YD td)):=by
 refine zi zf Tryz.func185 rfl zws Tryz.ntmps185 zwy63 _ rfl (fun hw gB hgB=>?_)
 repeat' (first|(refine shC ?_;first|refine qC (zgf td) ?_|refine qV (Xw td 1) ?_|refine qV (Xw td 4) ?_|refine qV (Xw td 8) ?_|refine qV (Xw td 16) ?_)|refine sA ?_|refine sC (fun _=>?_) (fun _=>?_)|fail)
 all_goals first|(refine ay ?_;first|(simp only [zC,YD,BL,List.length_map] at *;simp only [*,BL,List.length_map];done)|(simp_all [zC,YD];done)|(simp_all [zC,YD];omega)|(simp_all [zC,YD];intros;omega))|(refine zbf rfl ?_;first|(simp only [zC,YD,BL,List.length_map] at *;simp only [*,BL,List.length_map];done)|(simp_all [zC,YD];done)|(simp_all [zC,YD];omega)|(simp_all [zC,YD];intros;omega))|skip
def zjJ (g:Img) (t:Int) (td:TD):Bool:=td.ext == -1||(Yh g td.ext==0&&!qL (zb3 g td.ext) 8&&zbm g t == -1)
theorem zjO (g:Img) (t:Int) (td:TD) (htd:typeAt g t=some td) (hg:g.types.length≤1000):ACall Tryz.prog 186 [zO g,pi t] (pb (zjJ g t td)):=by
 refine zi zf Tryz.func186 rfl zws Tryz.ntmps186 zwy63 _ rfl (fun hw gB hgB=>?_);obtain ⟨h0,he⟩:=Qc htd;have hui:=zcr g t;have hul:=Yl _ _ hui.1 hui.2;obtain ⟨ur,hur⟩:=zhK htd;have hpos:0 < (up g t).length:=by rw [hur];simp
 have hlast:(up g t)[(up g t).length - 1]?=some ((up g t).getLastD 0):=by
  rw [hur];simp [List.getLastD_eq_getLast?,List.getLast?_eq_getElem?]
 have hlt:(up g t).length - 1 < (up g t).length:=by omega
 obtain ⟨tl,htl⟩:=VY (g:=g) (t:=(up g t).getLastD 0) (hui.2 _ (List.mem_of_getElem? hlast));obtain ⟨hl0,hel⟩:=Qc htl;have hw1:IntKind.i64.wrap (((up g t).map pi).length - 1:Int)=(((up g t).length - 1:Nat):Int):=by rw [List.length_map,wrap_in zwy62 zwy62];omega
 have heU:((up g t).map pi)[(IntKind.i64.wrap (((up g t).map pi).length - 1:Int)).toNat]?=some (pi ((up g t).getLastD 0)):=by rw [hw1];simp [hlast]
 have htop:zbm g t=tl.ext:=by rw [zbm,htl]
 by_cases h1:td.ext = -1
 ·have h1b:(td.ext == -1)=true:=by simp [h1]
  repeat' (first|(refine shX ?_;first|refine zy rfl (ah h0 he) rfl rfl ?_|refine zq rfl (ah h0 he) rfl rfl ?_)|refine sK ?_|refine sC (fun _=>?_) (fun _=>?_)|fail)
  exact retq rfl (by simp [zC,zjJ,h1])
 ·have h1b:(td.ext == -1)=false:=by simp [h1]
  have c1:=Qb g td.ext;by_cases hk:Yh g td.ext=0
  ·rw [hk] at c1;obtain ⟨te,hte⟩:∃ te,typeAt g td.ext=some te:=by
    rw [Yh] at hk;cases h:typeAt g td.ext with
    | none=>rw [h] at hk;simp at hk
    | some te=>exact ⟨te,rfl⟩
   obtain ⟨he0,hee⟩:=Qc hte;have hfa:zb3 g td.ext=te.flags:=by rw [zb3,hte]
   have hres:zjJ g t td=(!qL te.flags 8&&tl.ext == -1):=by rw [zjJ,h1b,hk,hfa,htop];rfl
   repeat' (first|(refine shC ?_;first|refine qC c1 ?_|refine qC (Yw g t hg) ?_)|(refine shX ?_;first|refine zy rfl (ah h0 he) rfl rfl ?_|refine zq rfl (ah h0 he) rfl rfl ?_|refine zy rfl (ah he0 hee) rfl rfl ?_|refine zq rfl (ah he0 hee) rfl rfl ?_|refine zy rfl (zo zf rfl rfl rfl rfl rfl rfl (by rw [hw1];omega) heU) rfl rfl ?_|refine zq rfl (zo zf rfl rfl rfl rfl rfl rfl (by rw [hw1];omega) heU) rfl rfl ?_|refine zy rfl (ah hl0 hel) rfl rfl ?_|refine zq rfl (ah hl0 hel) rfl rfl ?_)|refine sA ?_|refine sC (fun _=>?_) (fun _=>?_)|fail)
   all_goals (refine ay ?_;rw [hres];simp_all [zC,qL])
  ·have hkb:(Yh g td.ext==0)=false:=by simp [hk]
   repeat' (first|(refine shC ?_;first|refine qC c1 ?_|refine qC (Yw g t hg) ?_)|(refine shX ?_;first|refine zy rfl (ah h0 he) rfl rfl ?_|refine zq rfl (ah h0 he) rfl rfl ?_)|refine sK ?_|refine sC (fun _=>?_) (fun _=>?_)|fail)
   all_goals (refine ay ?_;simp [zC,zjJ,h1b,hkb])
def zxE (n:UInt8) (e:Int):TD:=⟨⟨#[n]⟩,0,e,[]⟩
abbrev wTD (n:UInt8) (e:Int):PV:=.agg [.base (.string ⟨#[n]⟩),pi 0,pi e,.base (.slice none 0 0)]
theorem zr7 (n:UInt8) (e:Int):PTL (wTD n e).cells (ZB (zxE n e)).cells :=
 ql (.refl _) (ql (.refl _) (ql (.refl _) (ql (Qz 1 false) XR)))
theorem Wl.extk {g:Img} (hW:Wl g) {t:Int} {td:TD} (h:typeAt g t=some td):td.ext = -1∨yt g td.ext=0:=by
 have hh:=hW.hang t td h;simp only [zar,Bool.and_eq_true,zmr,Bool.or_eq_true,Bool.not_eq_true',decide_eq_false_iff_not,beq_iff_eq,decide_eq_true_eq] at hh;obtain ⟨⟨h1,_⟩,_⟩:=hh;have:=hW.ext t td h;rcases h1 with h1|h1
 ·exact .inl zwy62
 ·exact .inr h1.1.1
end Go.Cg
