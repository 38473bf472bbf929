/- A part of the walks by abstract values: no statement of its own. -/
import Derived.Test.YtdlokcmodgccnaaGreatU20
import Derived.Test.YtdlokcmodgccnaaGreatU24
set_option linter.unusedVariables false
set_option linter.unusedSimpArgs false
namespace Go.Cg
open Go.Proofs
theorem PInv.fold {g:Img} {t:Int}:∀ (l:List Int) {met:List Int},PInv g t met→(∀ x∈l,0≤x∧x < g.types.length)→PInv g t (l.foldl Yv met)
 | [],_,h,_=>h
 | f::l,_,h,hl=>PInv.fold l (h.add (hl f (by simp))) fun x hx=>hl x (by simp [hx])
theorem zfh {g:Img} {t:Int}:∀ (n i:Nat) (met:List Int),PInv g t met→i≤met.length→g.fields.length + g.types.length + 1≤n + i →
  (∀ j (h:j < i) (h2:j < met.length),∀ y∈partsOf g met[j],y∈met) →
  (∀ x∈met,x∈zdi g n i met)∧(∀ u∈zdi g n i met,∀ y∈partsOf g u,y∈zdi g n i met)∧(∀ x∈zdi g n i met,Rch (partsOf g) met x)
 | 0,i,met,hm,hi,hn,hc=>by
  have:=hm.len;omega
 | n + 1,i,met,hm,hi,hn,hc=>by
  rw [zdi]
  by_cases hlt:i < met.length
  ·rw [List.getElem?_eq_getElem hlt]
   simp only [zka]
   have hm2:=PInv.fold (partsOf g met[i]) hm (fun x hx=>QA hx)
   obtain ⟨r,hr⟩:=zg5 (partsOf g met[i]) met
   have hl:met.length≤((partsOf g met[i]).foldl Yv met).length:=by rw [hr];simp
   obtain ⟨q1,q2,q3⟩:=zfh n (i + 1) ((partsOf g met[i]).foldl Yv met) hm2 (by omega) (by omega) (by
    intro j hj hj2 y hy
    rw [Xx]
    have hjm:j < met.length:=by omega
    have e:((partsOf g met[i]).foldl Yv met)[j]=met[j]:=by simp only [hr];rw [List.getElem_append_left hjm]
    rw [e] at hy
    by_cases hji:j=i
    ·subst hji;exact .inr hy
    ·exact .inl (hc j (by omega) hjm y hy))
   refine ⟨fun x hx=>q1 x (Xx.2 (.inl hx)),q2,fun x hx=>?_⟩
   have:=q3 x hx
   clear q1 q2 q3 hx
   induction this with
   | base x hx =>
    rcases Xx.1 hx with h|h
    ·exact .base x h
    ·exact .step _ x (.base _ (List.getElem_mem hlt)) h
   | step x y _ hy ih=>exact .step x y ih hy
  ·rw [List.getElem?_eq_none (by omega)]
   simp only
   refine ⟨fun x hx=>hx,fun u hu y hy=>?_,fun x hx=>.base x hx⟩
   obtain ⟨j,hj,rfl⟩:=List.getElem_of_mem hu
   exact hc j (by omega) hj y hy
theorem zlc {g:Img} {t x:Int}:x∈zqs g t↔Rch (partsOf g) (partsOf g t) x:=by
 obtain ⟨q1,q2,q3⟩:=zfh (g:=g) (t:=t) (g.fields.length + g.types.length + 1) 0 (partsOf g t) ⟨[],by simp⟩ (by omega) (by omega) (fun j h=>by omega)
 refine ⟨fun hx=>q3 x hx,fun hx=>?_⟩
 induction hx with
 | base x hx=>exact q1 x hx
 | step x y _ hy ih=>exact q2 x ih y hy
theorem zhp {g:Img} {t x:Int}:x∈sortL (QZ g.types.length (partsOf g) (partsOf g t))↔x∈zqs g t:=by
 rw [zeo,zlc]
 exact (zb5 (N:=g.types.length) (fun x _ _ y hy=>QA hy) (fun x hx=>QA hx)).1 x
theorem zqj:∀ n:Fin 32,qJ (n.val:Int) 1=qF (n.val:Int) 1∧qJ (n.val:Int) 4=qF (n.val:Int) 4∧qJ (n.val:Int) 8=qF (n.val:Int) 8∧qJ (n.val:Int) 16=qF (n.val:Int) 16:=by decide +kernel
theorem znl {f:Int} (h0:0≤f) (h1:f≤31):qJ f 1=qF f 1∧qJ f 4=qF f 4∧qJ f 8=qF f 8∧qJ f 16=qF f 16:=by
 have:=zqj ⟨f.toNat,by omega⟩
 simpa only [Int.toNat_of_nonneg h0] using this
theorem zmo {td:TD} (h0:0≤td.flags) (h1:td.flags≤31):Yi td=Yn td:=by
 obtain ⟨e1,e2,e3,e4⟩:=znl h0 h1
 rw [Yi,Yn,zhe h0 h1,e1,e2,e3,e4]
 generalize qF td.flags 1=b1
 generalize qF td.flags 4=b2
 generalize qF td.flags 8=b3
 generalize qF td.flags 16=b4
 generalize (td.ext == -1)=b5
 generalize ((td.faces.length:Int)==0)=b6
 repeat' split
 all_goals (try rfl)
 all_goals (cases b1 <;> cases b2 <;> cases b3 <;> cases b4 <;> cases b5 <;> cases b6 <;> rfl)
theorem Vw {g:Img} (hf:yJ g=true) {t:Int} {td:TD} (h:typeAt g t=some td):0≤td.flags∧td.flags≤31 ∧ -1≤td.ext∧td.ext < g.types.length∧td.faces.length≤4∧∀ f∈td.faces,0≤f∧f < g.types.length :=
 QJ ((yH hf).2.2.2 td (VU h))
theorem zmE {g:Img} (hf:yJ g=true) (t:Int):0≤zbf g t∧zbf g t≤31:=by
 unfold zbf
 cases h:typeAt g t with
 | none=>simp
 | some td=>obtain ⟨h0,h1,_⟩:=Vw hf h;exact ⟨h0,h1⟩
theorem zpp {g:Img} (hf:yJ g=true) (t:Int) : -1≤zaE g t:=by
 unfold zaE
 cases h:typeAt g ((up g t).getLastD 0) with
 | none=>simp
 | some td=>obtain ⟨_,_,h1,_⟩:=Vw hf h;exact h1
theorem zrG {g:Img} (hf:yJ g=true) {t:Int} {td:TD} (h:typeAt g t=some td):zhO g t td=zlv g t td:=by
 obtain ⟨_,_,h1,_⟩:=Vw hf h
 obtain ⟨f0,f1⟩:=zmE hf td.ext
 have ht:=zpp hf t
 rw [zhO,zlv,zhM hf,(znl f0 f1).2.2.1]
 have e1:(td.ext == -1)=!decide (0≤td.ext):=by rw [Bool.eq_iff_iff];simp;omega
 have e2:(zaE g t == -1)=decide (zaE g t < 0):=by rw [Bool.eq_iff_iff];simp;omega
 rw [e1,e2]
def zem (g:Img) (t:Int) (td:TD):Bool:=(List.range td.faces.length).all (zd1 g td.faces)&&(yt g t != 2||!decide (t∈sortL (QZ g.types.length (yT g) td.faces)))
theorem ztp {g:Img} {t:Int} {td:TD} (h:typeAt g t=some td) (he:td.ext = -1):up g t=[t]:=by
 have hx:typeAt g (-1)=none:=by rw [typeAt,if_neg (by omega)]
 rw [up,zaU,h]
 simp only [List.not_mem_nil,if_false,List.nil_append]
 cases hn:g.types.length with
 | zero=>rfl
 | succ n=>rw [zaU,he,hx]
theorem zdB {g:Img} {t:Int} {td:TD} (h:typeAt g t=some td):yT g t=td.faces:=by rw [yT,h]
theorem zog {g:Img} {t:Int} {td:TD} (h:typeAt g t=some td) (hfl:Yn td=true) (hk:yt g t=2):td.ext = -1:=by
 rw [yt,h] at hk
 simp only at hk
 rw [Yn,hk] at hfl
 simp at hfl
 exact hfl.1.1.1.1
theorem zpU {g:Img} (hf:yJ g=true) {t:Int} {td:TD} (h:typeAt g t=some td):(Yi td&&zhO g t td&&zem g t td)=(Yn td&&VJ g t td):=by
 obtain ⟨h0,h1,_⟩:=Vw hf h
 rw [zmo h0 h1,zrG hf h,zem,VJ]
 cases hfl:Yn td
 ·rfl
 ·have e:(yt g t != 2||!decide (t∈sortL (QZ g.types.length (yT g) td.faces)))=(yt g t != 2||!decide (t∈za6 g t)):=by
   by_cases hk:yt g t=2
   ·have hx:=zog h hfl hk
    have hF:=zbO hf
    have:t∈sortL (QZ g.types.length (yT g) td.faces)↔t∈za6 g t:=by
     rw [zeo,zhw hF,RF,ztp h hx]
     simp only [List.flatMap_cons,List.flatMap_nil,List.append_nil]
     rw [zdB h]
     exact (zb5 (N:=g.types.length) (fun x _ _ y hy=>(hF.at x).2 y hy) (fun x hx=>by have:=(hF.at t).2 x;rw [zdB h] at this;exact this hx)).1 t
    rw [decide_eq_decide.2 this]
   ·have:(yt g t != 2)=true:=by simp [hk]
    rw [this];rfl
  rw [e];simp only [Bool.and_assoc,Bool.true_and]
def zb2 (l:List Int) (p:Int→Int→Bool):Bool:=(List.range l.length).any fun i=>(l.take i).any (p (l.getD i 0))
theorem zlD {l:List Int} {p:Int→Int→Bool}:(!zb2 l p)=(List.range l.length).all fun i=>(List.range i).all fun k=>!p (l.getD i 0) (l.getD k 0):=by
 rw [Bool.eq_iff_iff]
 simp only [zb2,Bool.not_eq_true',List.any_eq_false,List.all_eq_true,List.mem_range,Bool.not_eq_true]
 constructor
 ·intro h i hi k hk
  refine h i hi _ ?_
  rw [List.getD_eq_getElem?_getD,List.getElem?_eq_getElem (show k < l.length by omega)]
  exact List.mem_take_iff_getElem.2 ⟨k,by omega,rfl⟩
 ·intro h i hi x hx
  obtain ⟨k,hk,rfl⟩:=List.mem_take_iff_getElem.1 hx
  have:=h i hi k (by omega)
  rwa [zQ (show k < l.length by omega)] at this
def zgO (g:Img) (a b:Int):Bool:=(fName g a).toList==(fName g b).toList
def mAt (g:Img) (a:Int):Me:=g.methods.getD a.toNat default
def WZ (x y:Me):Bool:=x.name.toList==y.name.toList&&decide (x.ret=y.ret)&&IntKind.i64.wrap ((BitVec.ofInt IntKind.i64.bits (IntKind.i64.wrap ((BitVec.ofInt IntKind.i64.bits x.flags ^^^ BitVec.ofInt IntKind.i64.bits y.flags).toNat:Int)) &&& BitVec.ofInt IntKind.i64.bits 1).toNat:Int)==0&&decide (x.params=y.params)
def zeE (g:Img) (t:Int) (td:TD):Bool:=(List.range g.types.length).all (zcw g t td)&&!zb2 (fieldsOf g t) (zgO g)&&!zb2 (methodsOf g t) (fun a b=>WZ (mAt g a) (mAt g b))
theorem zsa:∀ a b:Fin 32,(IntKind.i64.wrap ((BitVec.ofInt IntKind.i64.bits (IntKind.i64.wrap ((BitVec.ofInt IntKind.i64.bits (a.val:Int) ^^^ BitVec.ofInt IntKind.i64.bits (b.val:Int)).toNat:Int)) &&& BitVec.ofInt IntKind.i64.bits 1).toNat:Int)==0)=((a.val:Int).tmod 2==(b.val:Int).tmod 2):=by decide +kernel
theorem zps {x y:Me} (hx0:0≤x.flags) (hx1:x.flags≤31) (hy0:0≤y.flags) (hy1:y.flags≤31):WZ x y=(x.name.toList==y.name.toList&&zci x y):=by
 have:=zsa ⟨x.flags.toNat,by omega⟩ ⟨y.flags.toNat,by omega⟩
 simp only [Int.toNat_of_nonneg hx0,Int.toNat_of_nonneg hy0] at this
 rw [WZ,zci,this]
 simp only [Bool.and_assoc]
theorem zch {g:Img} (hf:yJ g=true) {a:Nat} (h:a < g.methods.length):ZA g (g.methods.getD a default)=true:=by
 simp only [yJ,Bool.and_eq_true,List.all_eq_true] at hf
 have:=hf.2 a (by simpa using h)
 rw [zgh] at this
 simp only [Bool.and_eq_true] at this
 exact this.2
theorem zaD {g:Img} {m:Me} (h:ZA g m=true):0≤m.flags∧m.flags≤31:=by
 simp only [ZA,Bool.and_eq_true,decide_eq_true_eq] at h
 omega
theorem zri {g:Img} (hf:yJ g=true) (t:Int) (td:TD):zeE g t td=zjq g t td:=by
 rw [zeE,zjq,zlD,zlD]
 congr 1
 rw [Bool.eq_iff_iff]
 simp only [List.all_eq_true,List.mem_range,zhC]
 have key:∀ i,i < (methodsOf g t).length→∀ k,k < i→WZ (mAt g ((methodsOf g t).getD i 0)) (mAt g ((methodsOf g t).getD k 0))=((g.methods.getD ((methodsOf g t).getD i 0).toNat default).name.toList==(g.methods.getD ((methodsOf g t).getD k 0).toNat default).name.toList&&zci (g.methods.getD ((methodsOf g t).getD i 0).toNat default) (g.methods.getD ((methodsOf g t).getD k 0).toNat default)):=by
  intro i hi k hk
  have hk':k < (methodsOf g t).length:=by omega
  rw [zQ hi,zQ hk']
  obtain ⟨_,a1⟩:=qM (List.getElem_mem hi)
  obtain ⟨_,a2⟩:=qM (List.getElem_mem hk')
  obtain ⟨b1,b2⟩:=zaD (zch hf a1)
  obtain ⟨b3,b4⟩:=zaD (zch hf a2)
  exact zps b1 b2 b3 b4
 constructor
 ·intro h i hi k hk
  rw [←key i hi k hk];exact h i hi k hk
 ·intro h i hi k hk
  rw [key i hi k hk];exact h i hi k hk
def zeB (g:Img) (t:Int):Bool:=(fieldsOf g t).all (zjB g (yt g t))&&(yt g t != 1||!decide (t∈sortL (QZ g.types.length (partsOf g) (partsOf g t))))
theorem zpQ (g:Img) (t:Int):zeB g t=zcV g t:=by
 rw [zeB,zcV,decide_eq_decide.2 zhp]
theorem zrT {g:Img} (h:YZ g=true) {k:Nat} (hk:k < g.types.length):Zr g k=0:=by
 have hf:=YL h
 cases hx:(List.range g.types.length).find? (fun t=>Zr g t != 0) with
 | none =>
  have:=List.find?_eq_none.1 hx k (by simpa using hk)
  simpa using this
 | some t =>
  have h2:=List.find?_some hx
  rw [YZ,WH,hf] at h
  simp [hx] at h
  simp [h] at h2
theorem zh7 {g:Img} (hf:yJ g=true) {k:Nat} (hk:k < g.types.length) :
  Zr g k=if !(Yi g.types[k]&&zhO g k g.types[k]&&zem g k g.types[k]) then 7 else if !zeE g k g.types[k] then 18 else if !zeB g k then 20 else 0:=by
 rw [zc5 hk,zpU hf (zde hk),zri hf,zpQ]
 cases Yn g.types[k] <;> cases VJ g k g.types[k] <;> rfl
set_option maxHeartbeats 20000000
theorem Zx (g:Img) (hf:yJ g=true) (t:Int):ACall Tryz.prog 46 [zT g,pi t] (pi (yt g t)):=by
 have:=YR g t;rwa [zhM hf] at this
theorem Xw (g:Img) (t:Int) (hg:g.fields.length≤1000):ACall Tryz.prog 223 [zT g,pi t] (ints (fieldsOf g t)):=by
 refine zi zf Tryz.func223 rfl (by kernel_rfl) Tryz.ntmps223 (by simp) _ rfl (fun hw gB hgB=>?_)
 repeat' (first|refine sA ?_|refine sC (fun _=>?_) (fun _=>?_)|fail)
 refine Yr (t:=5) 0 3 1 (by decide) rfl rfl ?_
 refine zW (fun x:Nat × List Int=>[(1,.pv (pi t)),(2,.pv (.ptr (zT g) 0)),(5,.own 0),(9,.pv (.slc 7 (g.fields.map Yb) false)),(10,.pv (pi g.fields.length)),(11,.pv (pi x.1))]) (fun x=>[(0,.row 3 1 (x.2.map pi))])
  (fun x=>x.1≤g.fields.length∧x.2.length≤x.1∧x.2++((nums g.fields.length).drop x.1).filter (fun i=>there g t&&(g.fields.getD i.toNat default).owner==t)=fieldsOf g t) (fun x=>g.fields.length - x.1) (0,[]) ⟨by simp,by simp,rfl⟩ (tS) ⟨zD rfl zG,rfl⟩ ?_
 rintro ⟨k,out⟩ ⟨hk,hol,hr⟩
 simp only at hk hol hr
 by_cases hlt:k < g.fields.length
 ·have he:=yj (f:=Yb) hlt
  rw [drop_cons (by simpa [nums] using hlt),List.filter_cons,zkS,Int.toNat_natCast,zQ hlt] at hr
  have c1:=YS g t
  cases hth:there g t
  ·rw [hth] at c1
   repeat' (first|(refine shC ?_;first|refine qC c1 ?_)|(refine shX ?_;first|refine qX he ?_)|refine sK ?_|refine sC (fun _=>?_) (fun _=>?_)|fail)
   exact ⟨(k + 1,out),⟨by simp;omega,by simp;omega,by simpa [hth] using hr⟩,tD,tS,⟨ZW rfl rfl zG,rfl⟩⟩
  ·rw [hth] at c1
   repeat' (first|(refine shC ?_;first|refine qC c1 ?_)|(refine shX ?_;first|refine qX he ?_)|(refine yK ?_;first|refine qG zf rfl rfl rfl rfl rfl rfl rfl (by show _ * 8≤_;simp;omega) (by simp;omega) rfl rfl ?_)|refine sK ?_|refine sC (fun _=>?_) (fun _=>?_)|fail)
   ·rename_i hx
    rw [hth,hx] at hr
    exact ⟨(k + 1,out++[(k:Int)]),⟨by simp;omega,by simp;omega,by simpa [hth] using hr⟩,tD,tS,⟨ZW rfl (by simp) zG,rfl⟩⟩
   ·rename_i hx
    rw [hth,hx] at hr
    exact ⟨(k + 1,out),⟨by simp;omega,by simp;omega,by simpa [hth] using hr⟩,tD,tS,⟨ZW rfl rfl zG,rfl⟩⟩
 ·rw [drop_end (by simp [nums];omega)] at hr
  repeat' (first|refine sK ?_|refine sC (fun _=>?_) (fun _=>?_)|fail)
  exact retq rfl (by rw [←hr];simp [zy,ints])
theorem Yu (g:Img) (t:Int) (hg:g.methods.length≤1000):ACall Tryz.prog 48 [zT g,pi t] (ints (methodsOf g t)):=by
 refine zi zf Tryz.func48 rfl (by kernel_rfl) Tryz.ntmps48 (by simp) _ rfl (fun hw gB hgB=>?_)
 repeat' (first|refine sA ?_|refine sC (fun _=>?_) (fun _=>?_)|fail)
 refine Yr (t:=5) 0 3 1 (by decide) rfl rfl ?_
 refine zW (fun x:Nat × List Int=>[(1,.pv (pi t)),(2,.pv (.ptr (zT g) 0)),(5,.own 0),(9,.pv (.slc 12 (g.methods.map yB) false)),(10,.pv (pi g.methods.length)),(11,.pv (pi x.1))]) (fun x=>[(0,.row 3 1 (x.2.map pi))])
  (fun x=>x.1≤g.methods.length∧x.2.length≤x.1∧x.2++((nums g.methods.length).drop x.1).filter (fun i=>there g t&&(g.methods.getD i.toNat default).owner==t)=methodsOf g t) (fun x=>g.methods.length - x.1) (0,[]) ⟨by simp,by simp,rfl⟩ (tS) ⟨zD rfl zG,rfl⟩ ?_
 rintro ⟨k,out⟩ ⟨hk,hol,hr⟩
 simp only at hk hol hr
 by_cases hlt:k < g.methods.length
 ·have he:=yj (f:=yB) hlt
  rw [drop_cons (by simpa [nums] using hlt),List.filter_cons,zkS,Int.toNat_natCast,zQ hlt] at hr
  have c1:=YS g t
  cases hth:there g t
  ·rw [hth] at c1
   repeat' (first|(refine shC ?_;first|refine qC c1 ?_)|(refine shX ?_;first|refine qX he ?_)|refine sK ?_|refine sC (fun _=>?_) (fun _=>?_)|fail)
   exact ⟨(k + 1,out),⟨by simp;omega,by simp;omega,by simpa [hth] using hr⟩,tD,tS,⟨ZW rfl rfl zG,rfl⟩⟩
  ·rw [hth] at c1
   repeat' (first|(refine shC ?_;first|refine qC c1 ?_)|(refine shX ?_;first|refine qX he ?_)|(refine yK ?_;first|refine qG zf rfl rfl rfl rfl rfl rfl rfl (by show _ * 8≤_;simp;omega) (by simp;omega) rfl rfl ?_)|refine sK ?_|refine sC (fun _=>?_) (fun _=>?_)|fail)
   ·rename_i hx
    rw [hth,hx] at hr
    exact ⟨(k + 1,out++[(k:Int)]),⟨by simp;omega,by simp;omega,by simpa [hth] using hr⟩,tD,tS,⟨ZW rfl (by simp) zG,rfl⟩⟩
   ·rename_i hx
    rw [hth,hx] at hr
    exact ⟨(k + 1,out),⟨by simp;omega,by simp;omega,by simpa [hth] using hr⟩,tD,tS,⟨ZW rfl rfl zG,rfl⟩⟩
 ·rw [drop_end (by simp [nums];omega)] at hr
  repeat' (first|refine sK ?_|refine sC (fun _=>?_) (fun _=>?_)|fail)
  exact retq rfl (by rw [←hr];simp [zy,ints])
theorem zfj (g:Img) (t:Int) (hf:yJ g=true):ACall Tryz.prog 246 [zT g,pi t] (ints (partsOf g t)):=by
 refine zi zf Tryz.func246 rfl (by kernel_rfl) Tryz.ntmps246 (by simp) _ rfl (fun hw gB hgB=>?_)
 have hg:g.fields.length≤1000:=by have:=(yH hf).2.1;omega
 have hfl:=WY g t
 repeat' (first|(refine shC ?_;first|refine qC (Xw g t hg) ?_)|refine sA ?_|refine sC (fun _=>?_) (fun _=>?_)|fail)
 refine Yr (t:=5) 0 3 1 (by decide) rfl rfl ?_
 refine zW (fun x:Nat × List Int=>[(2,.pv (.ptr (zT g) 0)),(5,.own 0),(11,.pv (ints (fieldsOf g t))),(12,.pv (pi (fieldsOf g t).length)),(13,.pv (pi x.1))]) (fun x=>[(0,.row 3 1 (x.2.map pi))])
  (fun x=>x.1≤(fieldsOf g t).length∧x.2.length≤x.1∧x.2++(((fieldsOf g t).drop x.1).filter (zeD g)).map (fun i=>(g.fields.getD i.toNat default).ty.index)=partsOf g t) (fun x=>(fieldsOf g t).length - x.1) (0,[]) ⟨by simp,by simp,rfl⟩ (tS) ⟨zD rfl zG,rfl⟩ ?_
 rintro ⟨k,out⟩ ⟨hk,hol,hr⟩
 simp only at hk hol hr
 by_cases hlt:k < (fieldsOf g t).length
 ·have he:=YD hlt
  obtain ⟨h0,hi⟩:=YN (List.getElem_mem hlt)
  have hef:=YE (f:=Yb) hi
  rw [drop_cons hlt,List.filter_cons,zeD] at hr
  simp only [zQ hi] at hr
  repeat' (first|(refine shC ?_;first|refine qC (Zx _ hf _) ?_)|(refine shX ?_;first|refine qX he ?_|refine zx rfl (zq zf rfl rfl rfl rfl rfl rfl h0 hef) rfl rfl ?_|refine AD.step _ _ _ _ _ rfl (zq zf rfl rfl rfl rfl rfl rfl h0 hef) rfl rfl ?_)|(refine yK ?_;first|refine qG zf rfl rfl rfl rfl rfl rfl rfl (by show _ * 8≤_;simp;omega) (by simp;omega) rfl rfl ?_)|refine sK ?_|refine sC (fun _=>?_) (fun _=>?_)|fail)
  ·rw [if_pos (by simp_all)] at hr
   exact ⟨(k + 1,out++[g.fields[(fieldsOf g t)[k].toNat].ty.index]),⟨by simp;omega,by simp;omega,by rw [List.map_cons,zQ hi] at hr;simpa using hr⟩,tD,tS,⟨ZW rfl (by simp) zG,rfl⟩⟩
  all_goals
   rw [if_neg (by simp_all)] at hr
   exact ⟨(k + 1,out),⟨by simp;omega,by simp;omega,by simpa using hr⟩,tD,tS,⟨ZW rfl rfl zG,rfl⟩⟩
 ·rw [drop_end (by omega)] at hr
  repeat' (first|refine sK ?_|refine sC (fun _=>?_) (fun _=>?_)|fail)
  exact retq rfl (by rw [←hr];simp [zy,ints])
def whole (t:Ty):Bool:=t.kind != 6||t.ref||decide (0 < t.dims)
def ZV (g:Img) (t:Int):List Fd:=g.fields.filter fun f=>f.owner==t&&!f.static
def intTy:Ty:=⟨2,0,0,false⟩
def WL (g:Img):Nat→Ty→List Ty
 | 0,_=>[]
 | n + 1,t=>if t.kind==1 then [] else if whole t then [t] else
   if ((ZV g t.index).flatMap fun f=>WL g n f.ty).length=0 then [intTy] else (ZV g t.index).flatMap fun f=>WL g n f.ty
def Dp (g:Img):Nat→Ty→Prop
 | 0,t=>whole t=true
 | n + 1,t=>whole t=true∨∀ f∈ZV g t.index,Dp g n f.ty
theorem Dp.whole {g:Img} {t:Ty} (h:Cg.whole t=true):∀ n,Dp g n t
 | 0=>h
 | _ + 1=>.inl h
theorem zbI {α β:Type} {l:List α} {f h:α→List β} (hh:∀ x∈l,f x=h x):l.flatMap f=l.flatMap h:=by
 induction l with
 | nil=>rfl
 | cons x l ih=>rw [List.flatMap_cons,List.flatMap_cons,hh x (by simp),ih (fun y hy=>hh y (by simp [hy]))]
theorem zfv {g:Img}:∀ (n:Nat) (t:Ty),Dp g n t→∀ m,n < m→WL g m t=WL g (n + 1) t
 | 0,t,h,m,hm=>by
  obtain ⟨k,rfl⟩:∃ k,m=k + 1:=⟨m - 1,by omega⟩
  have hwt:whole t=true:=h
  rw [WL,WL,hwt];rfl
 | n + 1,t,h,m,hm=>by
  obtain ⟨k,rfl⟩:∃ k,m=k + 1:=⟨m - 1,by omega⟩
  rw [WL,WL]
  rcases h with h|h
  ·rw [h];rfl
  ·rw [zbI (fun f hf=>zfv n f.ty (h f hf) k (by omega))]
def YF (g:Img) (t:Ty):List Ty:=WL g (g.types.length + 2) t
def fcs (g:Img) (l:List Fd):List Ty:=l.flatMap fun f=>YF g f.ty
theorem zpL (g:Img) (f:Fd) (l:List Fd):fcs g (f::l)=YF g f.ty++fcs g l:=rfl
theorem zmm (g:Img) (l m:List Fd):fcs g (l++m)=fcs g l++fcs g m:=by simp [fcs]
def Yd (g:Img) (t:Ty):Bool :=
 ZI t&&(if t.kind==5 then yt g t.index==0||yt g t.index==2||yt g t.index==3 else t.kind != 6||yt g t.index==1)
def Yl (g:Img):Bool:=(List.range g.fields.length).all fun i=>Yd g (g.fields.getD i default).ty
theorem zmz {g:Img} {t:Ty} (h:Yd g t=true) (hw:whole t=false):t.kind=6∧t.ref=false∧t.dims=0∧yt g t.index=1:=by
 simp only [whole,Bool.or_eq_false_iff,bne_eq_false_iff_eq,decide_eq_false_iff_not] at hw
 obtain ⟨⟨h1,h2⟩,h3⟩:=hw
 rw [Yd,Bool.and_eq_true] at h
 obtain ⟨hp,hk⟩:=h
 have hd:0≤t.dims:=by
  unfold ZI at hp
  split at hp
  ·cases hp
  ·rename_i hc;simp only [Bool.or_eq_true,decide_eq_true_eq,not_or] at hc;omega
 have hk':yt g t.index=1:=by simpa [h1] using hk
 exact ⟨h1,h2,by omega,hk'⟩
theorem znf {g:Img} (h:Yl g=true) {f:Fd} (hf:f∈g.fields):Yd g f.ty=true:=by
 obtain ⟨k,hk,rfl⟩:=List.getElem_of_mem hf
 have:=List.all_eq_true.1 h k (by simpa using hk)
 rwa [zQ hk] at this
theorem zep {g:Img} (hf:yJ g=true) {f:Fd} (h:f∈g.fields):0≤f.owner∧f.owner < g.types.length∧WB f.ty 1 g.types.length=true:=by
 obtain ⟨k,hk,rfl⟩:=List.getElem_of_mem h
 simp only [yJ,Bool.and_eq_true,List.all_eq_true] at hf
 have:=hf.1.2 k (by simpa using hk)
 rw [zqU hk] at this
 simp only [Bool.and_eq_true,decide_eq_true_eq] at this
 exact ⟨this.1.1.1.2,this.1.1.2,this.2⟩
theorem zrF {g:Img} (hf:yJ g=true) {u:Int} {f:Fd} (h:f∈ZV g u) (hu:Yd g f.ty=true) (hw:whole f.ty=false):f.ty.index∈partsOf g u:=by
 obtain ⟨h1,_,h3,h4⟩:=zmz hu hw
 obtain ⟨hm,hc⟩:=List.mem_filter.1 h
 simp only [Bool.and_eq_true,beq_iff_eq,Bool.not_eq_true'] at hc
 obtain ⟨ho,hs⟩:=hc
 obtain ⟨o0,o1,_⟩:=zep hf hm
 obtain ⟨k,hk,rfl⟩:=List.getElem_of_mem hm
 have hgk:g.fields.getD ((k:Int)).toNat default=g.fields[k]:=by rw [Int.toNat_natCast,zQ hk]
 rw [partsOf,List.mem_map]
 refine ⟨(k:Int),List.mem_filter.2 ⟨List.mem_filter.2 ⟨zhE.2 ⟨by omega,by omega⟩,?_⟩,?_⟩,by rw [hgk]⟩
 ·rw [hgk,Wh (by omega),ho];simp
 ·rw [zeD,hgk];simp [h1,hs,h3,h4]
theorem zqD {g:Img} {p u:Int} (h:Rch (partsOf g) (partsOf g p) u):yt g u=1:=by
 have key:∀ q,u∈partsOf g q→yt g u=1:=by
  intro q hq
  simp only [partsOf,List.mem_map,List.mem_filter,zeD,Bool.and_eq_true,beq_iff_eq] at hq
  obtain ⟨i,⟨_,_,hk⟩,rfl⟩:=hq
  exact hk
 cases h with
 | base _ hx=>exact key _ hx
 | step x _ _ hy=>exact key _ hy
theorem znD {g:Img} (hf:yJ g=true) (hu:Yl g=true) (hz:∀ u:Int,yt g u=1→u∉zqs g u):∀ (n:Nat) (path:List Int) (t:Ty),path.Nodup→(∀ p∈path,0≤p∧p < g.types.length)→g.types.length + 1≤path.length + n →
  (∀ p∈path,Rch (partsOf g) (partsOf g p) t.index)→Dp g n t
 | 0,path,t,h1,h2,h3,h4=>by have:=Ya _ _ h1 h2;omega
 | n + 1,path,t,h1,h2,h3,h4=>by
  cases hw:whole t
  ·refine .inr fun f hfo=>?_
   cases hwf:whole f.ty
   ·have hm:=(List.mem_filter.1 hfo).1
    have hc:=(List.mem_filter.1 hfo).2
    simp only [Bool.and_eq_true,beq_iff_eq] at hc
    obtain ⟨o0,o1,_⟩:=zep hf hm
    have hp:=zrF hf hfo (znf hu hm) hwf
    have hni:t.index∉path:=fun hin=>by
     have hr:=h4 _ hin
     exact hz _ (zqD hr) (zlc.2 hr)
    refine znD hf hu hz n (t.index::path) f.ty (List.nodup_cons.2 ⟨hni,h1⟩) ?_ (by simp;omega) ?_
    ·intro p hp'
     rcases List.mem_cons.1 hp' with rfl|hp'
     ·omega
     ·exact h2 p hp'
    ·intro p hp'
     rcases List.mem_cons.1 hp' with rfl|hp'
     ·exact .base _ hp
     ·exact .step _ _ (h4 p hp') hp
   ·exact Dp.whole hwf n
  ·exact .inl hw
theorem zmV {g:Img} (h:YZ g=true) {u:Int} (hk:yt g u=1):u∉zqs g u:=by
 have hf:=YL h
 obtain ⟨td,htd,_⟩:=zgP hk (by omega)
 have hlt:=XI htd
 have hck:=zrT h (k:=u.toNat) (by omega)
 rw [zc5 (by omega)] at hck
 have e:((u.toNat:Nat):Int)=u:=Int.toNat_of_nonneg hlt.1
 rw [e] at hck
 have hs:zcV g u=true:=by
  cases hs:zcV g u
  ·rw [hs] at hck
   split at hck
   ·cases hck
   ·split at hck
    ·cases hck
    ·simp at hck
  ·rfl
 rw [zcV,hk,Bool.and_eq_true] at hs
 simpa using hs.2
theorem zm7 {g:Img} (h:YZ g=true) (hu:Yl g=true) (t:Ty):Dp g (g.types.length + 1) t :=
 znD (YL h) hu (fun _ hk=>zmV h hk) _ [] t (by simp) (by simp) (by simp) (by simp)
theorem zeX {g:Img} (h:YZ g=true) (hu:Yl g=true) (t:Ty):YF g t=if t.kind==1 then [] else if whole t then [t] else if (fcs g (ZV g t.index)).length=0 then [intTy] else fcs g (ZV g t.index):=by
 have hd:=zm7 h hu t
 rcases hd with hd|hd
 ·rw [YF,WL,hd];rfl
 ·have e:((ZV g t.index).flatMap fun f=>WL g (g.types.length + 1) f.ty)=fcs g (ZV g t.index):=zbI (fun f hf=>(zfv _ _ (hd f hf) _ (by omega)).symm)
  rw [YF,WL,e]
def Cnt (b r s:Nat):Prop:=min r (b + 1)=min s (b + 1)
theorem Cnt.zero (b:Nat):Cnt b 0 0:=rfl
theorem Cnt.add {b r s l:Nat} (h:Cnt b r s) (hr:r≤b):Cnt b (r + min l (b + 1)) (s + l):=by unfold Cnt at h ⊢;omega
theorem Cnt.stay {b r s l:Nat} (h:Cnt b r s) (hr:b < r):Cnt b r (s + l):=by unfold Cnt at h ⊢;omega
theorem Cnt.more {b r s:Nat} (h:Cnt b r s):b < r↔b < s:=by unfold Cnt at h;omega
def za0 (g:Img) (b:Nat) (t:Ty):Nat:=min (YF g t).length (b + 1)
theorem zd9 (g:Img) (f:Fd) (l:List Fd):(fcs g (f::l)).length=(YF g f.ty).length + (fcs g l).length:=by rw [zpL,List.length_append]
theorem zgJ (g:Img) (l m:List Fd):(fcs g (l++m)).length=(fcs g l).length + (fcs g m).length:=by rw [zmm,List.length_append]
def objT (g:Img) (t:Int):List Ty:=(up g t).reverse.flatMap fun u=>fcs g (ZV g u)
theorem zlJ (g:Img):∀ l:List Int,(l.flatMap fun u=>fcs g (ZV g u)).length=(l.map fun u=>(fcs g (ZV g u)).length).sum
 | []=>rfl
 | x::l=>by rw [List.flatMap_cons,List.length_append,zlJ g l];rfl
theorem zrH (l:List Nat):l.reverse.sum=l.sum:=by
 induction l with
 | nil=>rfl
 | cons x l ih=>rw [List.reverse_cons,List.sum_append,ih];simp;omega
theorem zqr (g:Img) (t:Int):(objT g t).length=((up g t).map fun u=>(fcs g (ZV g u)).length).sum:=by
 rw [objT,zlJ,List.map_reverse,zrH]
def QT (g:Img) (t:Nat):Bool:=(yt g t==1&&decide (8 < (YF g ⟨6,t,0,false⟩).length))||(yt g t==0&&decide (32 < (objT g t).length))
def Xk (g:Img):Int × Int :=
 if !YZ g then (0,17) else match (List.range g.fields.length).find? (fun i=>!Yd g (g.fields.getD i default).ty) with
  | some i=>(((i:Nat):Int),10)
  | none=>match (List.range g.types.length).find? (QT g) with
   | some t=>(((t:Nat):Int),20)
   | none=>(0,0)
def zfc (g:Img):Bool:=(Xk g).2==0
theorem zi6 {g:Img} {k:Nat} (hw:YZ g=true) (hk:k < g.fields.length) (hno:∀ j,j < k→Yd g (g.fields.getD j default).ty=true) (h:Yd g (g.fields.getD k default).ty=false):Xk g=(((k:Nat):Int),10):=by
 have:(List.range g.fields.length).find? (fun i=>!Yd g (g.fields.getD i default).ty)=some k:=by
  rw [List.find?_range_eq_some]
  exact ⟨by simpa using h,by simpa using hk,fun j hj=>by simp only [hno j hj,Bool.not_true,Bool.not_false]⟩
 rw [Xk,hw];simp only [Bool.not_true,Bool.false_eq_true,if_false];rw [this]
theorem zi7 {n:Nat} {p:Nat→Bool} (h:∀ j,j < n→p j=false):(List.range n).find? p=none:=by
 rw [List.find?_eq_none]
 intro j hj
 simp [h j (List.mem_range.1 hj)]
theorem zjJ {g:Img} {k:Nat} (hw:YZ g=true) (hu:Yl g=true) (hk:k < g.types.length) (hno:∀ j,j < k→QT g j=false) (h:QT g k=true):Xk g=(((k:Nat):Int),20):=by
 have h1:(List.range g.fields.length).find? (fun i=>!Yd g (g.fields.getD i default).ty)=none:=zi7 fun j hj=>by
  have:=List.all_eq_true.1 hu j (by simpa using hj);simp only [this];rfl
 have h2:(List.range g.types.length).find? (QT g)=some k:=by
  rw [List.find?_range_eq_some]
  exact ⟨h,by simpa using hk,fun j hj=>by simp only [hno j hj,Bool.not_false]⟩
 rw [Xk,hw];simp only [Bool.not_true,Bool.false_eq_true,if_false];rw [h1];simp only;rw [h2]
theorem zgd {g:Img} (hw:YZ g=true) (hu:Yl g=true) (hno:∀ j,j < g.types.length→QT g j=false):Xk g=(0,0):=by
 have h1:(List.range g.fields.length).find? (fun i=>!Yd g (g.fields.getD i default).ty)=none:=zi7 fun j hj=>by
  have:=List.all_eq_true.1 hu j (by simpa using hj);simp only [this];rfl
 rw [Xk,hw];simp only [Bool.not_true,Bool.false_eq_true,if_false];rw [h1];simp only;rw [zi7 hno]
structure Fine (g:Img):Prop where
 well:YZ g=true
 used:Yl g=true
 size:∀ j,j < g.types.length→QT g j=false
theorem Va {g:Img} (h:zfc g=true):Fine g:=by
 rw [zfc,Xk] at h
 cases hw:YZ g
 ·simp [hw] at h
 ·rw [hw] at h
  simp only [Bool.not_true,Bool.false_eq_true,if_false] at h
  cases h1:(List.range g.fields.length).find? (fun i=>!Yd g (g.fields.getD i default).ty) with
  | some i=>rw [h1] at h;simp at h
  | none =>
   rw [h1] at h
   cases h2:(List.range g.types.length).find? (QT g) with
   | some t=>rw [h2] at h;simp at h
   | none =>
    refine ⟨hw,?_,fun j hj=>?_⟩
    ·rw [Yl,List.all_eq_true]
     intro i hi
     have:=List.find?_eq_none.1 h1 i hi
     simpa using this
    ·have:=List.find?_eq_none.1 h2 j (by simpa using hj)
     simpa using this
theorem Fine.formed {g:Img} (h:Fine g):yJ g=true:=YL h.well
end Go.Cg
