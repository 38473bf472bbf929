/- A part of the walks by abstract values: no statement of its own. -/
import Derived.Test.YtdlokcmodgccnaaGreatF23
import Derived.Test.YtdlokcmodgccnaaGreatF25
import Derived.Test.YtdlokcmodgccnaaGreatF21
import Derived.Test.YtdlokcmodgccnaaGreatF10
import Derived.Test.YtdlokcmodgccnaaGreatF15
import Derived.Test.YtdlokcmodgccnaaGreatF14
import Derived.Test.YtdlokcmodgccnaaGreatF13
set_option linter.unusedVariables false
set_option linter.unusedSimpArgs false
namespace Go.Cg
open Go.Proofs
theorem PInv.fold {g:Img} {t:Int}:∀ (l:List Int) {met:List Int},PInv g t met→(∀ x∈l,0≤x∧x < g.types.length)→PInv g t (l.foldl ZM met)
 | [],_,h,_=>h
 | f::l,_,h,hl=>PInv.fold l (h.add (hl f (by simp))) fun x hx=>hl x (by simp [hx])
theorem zf2 {g:Img} {t:Int}:∀ (n i:Nat) (met:List Int),PInv g t met→i≤met.length→g.fields.length + g.types.length + 1≤n + i →
  (∀ j (h:j < i) (h2:j < met.length),∀ y∈partsOf g met[j],y∈met) →
  (∀ x∈met,x∈zbS g n i met)∧(∀ u∈zbS g n i met,∀ y∈partsOf g u,y∈zbS g n i met)∧(∀ x∈zbS g n i met,Rch (partsOf g) met x)
 | 0,i,met,hm,hi,hn,hc=>by
  have:=hm.len;omega
 | n + 1,i,met,hm,hi,hn,hc=>by
  rw [zbS]
  by_cases hlt:i < met.length
  ·rw [List.getElem?_eq_getElem hlt]
   simp only [zio]
   have hm2:=PInv.fold (partsOf g met[i]) hm (fun x hx=>YO hx)
   obtain ⟨r,hr⟩:=zib (partsOf g met[i]) met
   have hl:met.length≤((partsOf g met[i]).foldl ZM met).length:=by rw [hr];simp
   obtain ⟨q1,q2,q3⟩:=zf2 n (i + 1) ((partsOf g met[i]).foldl ZM met) hm2 (by omega) (by omega) (by
    intro j hj hj2 y hy
    rw [Xh]
    have hjm:j < met.length:=by omega
    have e:((partsOf g met[i]).foldl ZM met)[j]=met[j]:=by simp only [hr];rw [List.getElem_append_left hjm]
    rw [e] at hy
    by_cases hji:j=i
    ·subst hji;exact .inr hy
    ·exact .inl (hc j (by omega) hjm y hy))
   refine ⟨fun x hx=>q1 x (Xh.2 (.inl hx)),q2,fun x hx=>?_⟩
   have:=q3 x hx
   clear q1 q2 q3 hx
   induction this with
   | base x hx =>
    rcases Xh.1 hx with h|h
    ·exact .base x h
    ·exact .step _ x (.base _ (List.getElem_mem hlt)) h
   | step x y _ hy ih=>exact .step x y ih hy
  ·rw [List.getElem?_eq_none (by omega)]
   simp only
   refine ⟨fun x hx=>hx,fun u hu y hy=>?_,fun x hx=>.base x hx⟩
   obtain ⟨j,hj,rfl⟩:=List.getElem_of_mem hu
   exact hc j (by omega) hj y hy
theorem zlM {g:Img} {t x:Int}:x∈zlA g t↔Rch (partsOf g) (partsOf g t) x:=by
 obtain ⟨q1,q2,q3⟩:=zf2 (g:=g) (t:=t) (g.fields.length + g.types.length + 1) 0 (partsOf g t) ⟨[],by simp⟩ (by omega) (by omega) (fun j h=>by omega)
 refine ⟨fun hx=>q3 x hx,fun hx=>?_⟩
 induction hx with
 | base x hx=>exact q1 x hx
 | step x y _ hy ih=>exact q2 x ih y hy
theorem zgW {g:Img} {t x:Int}:x∈sortL (QU g.types.length (partsOf g) (partsOf g t))↔x∈zlA g t:=by
 rw [ze8,zlM]
 exact (zct (N:=g.types.length) (fun x _ _ y hy=>YO hy) (fun x hx=>YO hx)).1 x
theorem zrC:∀ n:Fin 32,qB (n.val:Int) 1=zW (n.val:Int) 1∧qB (n.val:Int) 4=zW (n.val:Int) 4∧qB (n.val:Int) 8=zW (n.val:Int) 8∧qB (n.val:Int) 16=zW (n.val:Int) 16:=by decide +kernel
theorem zo3 {f:Int} (h0:0≤f) (h1:f≤31):qB f 1=zW f 1∧qB f 4=zW f 4∧qB f 8=zW f 8∧qB f 16=zW f 16:=by
 have:=zrC ⟨f.toNat,by omega⟩
 simpa only [Int.toNat_of_nonneg h0] using this
theorem zn7 {td:TD} (h0:0≤td.flags) (h1:td.flags≤31):Yd td=ql td:=by
 obtain ⟨e1,e2,e3,e4⟩:=zo3 h0 h1
 rw [Yd,ql,zin h0 h1,e1,e2,e3,e4]
 generalize zW td.flags 1=b1
 generalize zW td.flags 4=b2
 generalize zW td.flags 8=b3
 generalize zW td.flags 16=b4
 generalize (td.ext == -1)=b5
 generalize ((td.faces.length:Int)==0)=b6
 repeat' split
 all_goals (try rfl)
 all_goals (cases b1 <;> cases b2 <;> cases b3 <;> cases b4 <;> cases b5 <;> cases b6 <;> rfl)
theorem Vr {g:Img} (hf:zJ g=true) {t:Int} {td:TD} (h:typeAt g t=some td):0≤td.flags∧td.flags≤31 ∧ -1≤td.ext∧td.ext < g.types.length∧td.faces.length≤4∧∀ f∈td.faces,0≤f∧f < g.types.length :=
 ZH ((zF hf).2.2.2 td (VW h))
theorem znK {g:Img} (hf:zJ g=true) (t:Int):0≤Xn g t∧Xn g t≤31:=by
 unfold Xn
 cases h:typeAt g t with
 | none=>simp
 | some td=>obtain ⟨h0,h1,_⟩:=Vr hf h;exact ⟨h0,h1⟩
theorem zqN {g:Img} (hf:zJ g=true) (t:Int) : -1≤WX g t:=by
 unfold WX
 cases h:typeAt g ((up g t).getLastD 0) with
 | none=>simp
 | some td=>obtain ⟨_,_,h1,_⟩:=Vr hf h;exact h1
theorem zs4 {g:Img} (hf:zJ g=true) {t:Int} {td:TD} (h:typeAt g t=some td):ziA g t td=XE g t td:=by
 obtain ⟨_,_,h1,_⟩:=Vr hf h
 obtain ⟨f0,f1⟩:=znK hf td.ext
 have ht:=zqN hf t
 rw [ziA,XE,zdW hf,(zo3 f0 f1).2.2.1]
 have e1:(td.ext == -1)=!decide (0≤td.ext):=by rw [Bool.eq_iff_iff];simp;omega
 have e2:(WX g t == -1)=decide (WX g t < 0):=by rw [Bool.eq_iff_iff];simp;omega
 rw [e1,e2]
def zfd (g:Img) (t:Int) (td:TD):Bool:=(List.range td.faces.length).all (zbG g td.faces)&&(zB g t != 2||!decide (t∈sortL (QU g.types.length (yg g) td.faces)))
theorem zt8 {g:Img} {t:Int} {td:TD} (h:typeAt g t=some td) (he:td.ext = -1):up g t=[t]:=by
 have hx:typeAt g (-1)=none:=by rw [typeAt,if_neg (by omega)]
 rw [up,za0,h]
 simp only [List.not_mem_nil,if_false,List.nil_append]
 cases hn:g.types.length with
 | zero=>rfl
 | succ n=>rw [za0,he,hx]
theorem zdS {g:Img} {t:Int} {td:TD} (h:typeAt g t=some td):yg g t=td.faces:=by rw [yg,h]
theorem zp0 {g:Img} {t:Int} {td:TD} (h:typeAt g t=some td) (hfl:ql td=true) (hk:zB g t=2):td.ext = -1:=by
 rw [zB,h] at hk
 simp only at hk
 rw [ql,hk] at hfl
 simp at hfl
 exact hfl.1.1.1.1
theorem zsB {g:Img} (hf:zJ g=true) {t:Int} {td:TD} (h:typeAt g t=some td):(Yd td&&ziA g t td&&zfd g t td)=(ql td&&QA g t td):=by
 obtain ⟨h0,h1,_⟩:=Vr hf h
 rw [zn7 h0 h1,zs4 hf h,zfd,QA]
 cases hfl:ql td
 ·rfl
 ·have e:(zB g t != 2||!decide (t∈sortL (QU g.types.length (yg g) td.faces)))=(zB g t != 2||!decide (t∈Zi g t)):=by
   by_cases hk:zB g t=2
   ·have hx:=zp0 h hfl hk
    have hF:=zdc hf
    have:t∈sortL (QU g.types.length (yg g) td.faces)↔t∈Zi g t:=by
     rw [ze8,zdK hF,RF,zt8 h hx]
     simp only [List.flatMap_cons,List.flatMap_nil,List.append_nil]
     rw [zdS h]
     exact (zct (N:=g.types.length) (fun x _ _ y hy=>(hF.at x).2 y hy) (fun x hx=>by have:=(hF.at t).2 x;rw [zdS h] at this;exact this hx)).1 t
    rw [decide_eq_decide.2 this]
   ·have:(zB g t != 2)=true:=by simp [hk]
    rw [this];rfl
  rw [e];simp only [Bool.and_assoc,Bool.true_and]
def zcE (l:List Int) (p:Int→Int→Bool):Bool:=(List.range l.length).any fun i=>(l.take i).any (p (l.getD i 0))
theorem zm8 {l:List Int} {p:Int→Int→Bool}:(!zcE l p)=(List.range l.length).all fun i=>(List.range i).all fun k=>!p (l.getD i 0) (l.getD k 0):=by
 rw [Bool.eq_iff_iff]
 simp only [zcE,Bool.not_eq_true',List.any_eq_false,List.all_eq_true,List.mem_range,Bool.not_eq_true]
 constructor
 ·intro h i hi k hk
  refine h i hi _ ?_
  rw [List.getD_eq_getElem?_getD,List.getElem?_eq_getElem (show k < l.length by omega)]
  exact List.mem_take_iff_getElem.2 ⟨k,by omega,rfl⟩
 ·intro h i hi x hx
  obtain ⟨k,hk,rfl⟩:=List.mem_take_iff_getElem.1 hx
  have:=h i hi k (by omega)
  rwa [zx (show k < l.length by omega)] at this
def zgX (g:Img) (a b:Int):Bool:=(fName g a).toList==(fName g b).toList
def mAt (g:Img) (a:Int):Me:=g.methods.getD a.toNat default
def Vl (x y:Me):Bool:=x.name.toList==y.name.toList&&decide (x.ret=y.ret)&&IntKind.i64.wrap ((BitVec.ofInt IntKind.i64.bits (IntKind.i64.wrap ((BitVec.ofInt IntKind.i64.bits x.flags ^^^ BitVec.ofInt IntKind.i64.bits y.flags).toNat:Int)) &&& BitVec.ofInt IntKind.i64.bits 1).toNat:Int)==0&&decide (x.params=y.params)
def zfu (g:Img) (t:Int) (td:TD):Bool:=(List.range g.types.length).all (Vz g t td)&&!zcE (fieldsOf g t) (zgX g)&&!zcE (methodsOf g t) (fun a b=>Vl (mAt g a) (mAt g b))
theorem zto:∀ a b:Fin 32,(IntKind.i64.wrap ((BitVec.ofInt IntKind.i64.bits (IntKind.i64.wrap ((BitVec.ofInt IntKind.i64.bits (a.val:Int) ^^^ BitVec.ofInt IntKind.i64.bits (b.val:Int)).toNat:Int)) &&& BitVec.ofInt IntKind.i64.bits 1).toNat:Int)==0)=((a.val:Int).tmod 2==(b.val:Int).tmod 2):=by decide +kernel
theorem zpm {x y:Me} (hx0:0≤x.flags) (hx1:x.flags≤31) (hy0:0≤y.flags) (hy1:y.flags≤31):Vl x y=(x.name.toList==y.name.toList&&zaB x y):=by
 have:=zto ⟨x.flags.toNat,by omega⟩ ⟨y.flags.toNat,by omega⟩
 simp only [Int.toNat_of_nonneg hx0,Int.toNat_of_nonneg hy0] at this
 rw [Vl,zaB,this]
 simp only [Bool.and_assoc]
theorem zcU {g:Img} (hf:zJ g=true) {a:Nat} (h:a < g.methods.length):yV g (g.methods.getD a default)=true:=by
 simp only [zJ,Bool.and_eq_true,List.all_eq_true] at hf
 have:=hf.2 a (by simpa using h)
 rw [zb2] at this
 simp only [Bool.and_eq_true] at this
 exact this.2
theorem zaM {g:Img} {m:Me} (h:yV g m=true):0≤m.flags∧m.flags≤31:=by
 simp only [yV,Bool.and_eq_true,decide_eq_true_eq] at h
 omega
theorem zsA {g:Img} (hf:zJ g=true) (t:Int) (td:TD):zfu g t td=zaO g t td:=by
 rw [zfu,zaO,zm8,zm8]
 congr 1
 rw [Bool.eq_iff_iff]
 simp only [List.all_eq_true,List.mem_range,YI]
 have key:∀ i,i < (methodsOf g t).length→∀ k,k < i→Vl (mAt g ((methodsOf g t).getD i 0)) (mAt g ((methodsOf g t).getD k 0))=((g.methods.getD ((methodsOf g t).getD i 0).toNat default).name.toList==(g.methods.getD ((methodsOf g t).getD k 0).toNat default).name.toList&&zaB (g.methods.getD ((methodsOf g t).getD i 0).toNat default) (g.methods.getD ((methodsOf g t).getD k 0).toNat default)):=by
  intro i hi k hk
  have hk':k < (methodsOf g t).length:=by omega
  rw [zx hi,zx hk']
  obtain ⟨_,a1⟩:=yx (List.getElem_mem hi)
  obtain ⟨_,a2⟩:=yx (List.getElem_mem hk')
  obtain ⟨b1,b2⟩:=zaM (zcU hf a1)
  obtain ⟨b3,b4⟩:=zaM (zcU hf a2)
  exact zpm b1 b2 b3 b4
 constructor
 ·intro h i hi k hk
  rw [←key i hi k hk];exact h i hi k hk
 ·intro h i hi k hk
  rw [key i hi k hk];exact h i hi k hk
def ze5 (g:Img) (t:Int):Bool:=(fieldsOf g t).all (zfm g (zB g t))&&(zB g t != 1||!decide (t∈sortL (QU g.types.length (partsOf g) (partsOf g t))))
theorem zr4 (g:Img) (t:Int):ze5 g t=zbQ g t:=by
 rw [ze5,zbQ,decide_eq_decide.2 zgW]
theorem ztL {g:Img} (h:ZU g=true) {k:Nat} (hk:k < g.types.length):qL g k=0:=by
 have hf:=ZI h
 cases hx:(List.range g.types.length).find? (fun t=>qL g t != 0) with
 | none =>
  have:=List.find?_eq_none.1 hx k (by simpa using hk)
  simpa using this
 | some t =>
  have h2:=List.find?_some hx
  rw [ZU,QV,hf] at h
  simp [hx] at h
  simp [h] at h2
theorem ziH {g:Img} (hf:zJ g=true) {k:Nat} (hk:k < g.types.length) :
  qL g k=if !(Yd g.types[k]&&ziA g k g.types[k]&&zfd g k g.types[k]) then 7 else if !zfu g k g.types[k] then 18 else if !ze5 g k then 20 else 0:=by
 rw [zbq hk,zsB hf (zbi hk),zsA hf,zr4]
 cases ql g.types[k] <;> cases QA g k g.types[k] <;> rfl
set_option maxHeartbeats 20000000
theorem Zr (g:Img) (hf:zJ g=true) (t:Int):ACall Tryz.prog 46 [zq g,pi t] (pi (zB g t)):=by
 have:=zdr g t;rwa [zdW hf] at this
theorem Xw (g:Img) (t:Int) (hg:g.fields.length≤1000):ACall Tryz.prog 223 [zq g,pi t] (ints (fieldsOf g t)):=by
 refine zf zh Tryz.func223 rfl (by kernel_rfl) Tryz.ntmps223 (by simp) _ rfl (fun hw gB hgB=>?_)
 repeat' (first|refine sA ?_|refine sC (fun _=>?_) (fun _=>?_)|fail)
 refine yS (t:=5) 0 3 1 (by decide) rfl rfl ?_
 refine zo (fun x:Nat × List Int=>[(1,.pv (pi t)),(2,.pv (.ptr (zq g) 0)),(5,.own 0),(9,.pv (.slc 7 (g.fields.map Yc) false)),(10,.pv (pi g.fields.length)),(11,.pv (pi x.1))]) (fun x=>[(0,.row 3 1 (x.2.map pi))])
  (fun x=>x.1≤g.fields.length∧x.2.length≤x.1∧x.2++((nums g.fields.length).drop x.1).filter (fun i=>there g t&&(g.fields.getD i.toNat default).owner==t)=fieldsOf g t) (fun x=>g.fields.length - x.1) (0,[]) ⟨by simp,by simp,rfl⟩ (tS) ⟨zn rfl zl,rfl⟩ ?_
 rintro ⟨k,out⟩ ⟨hk,hol,hr⟩
 simp only at hk hol hr
 by_cases hlt:k < g.fields.length
 ·have he:=zA (f:=Yc) hlt
  rw [drop_cons (by simpa [nums] using hlt),List.filter_cons,zdZ,Int.toNat_natCast,zx hlt] at hr
  have c1:=YE g t
  cases hth:there g t
  ·rw [hth] at c1
   repeat' (first|(refine shC ?_;first|refine qC c1 ?_)|(refine shX ?_;first|refine qX he ?_)|refine sK ?_|refine sC (fun _=>?_) (fun _=>?_)|fail)
   exact ⟨(k + 1,out),⟨by simp;omega,by simp;omega,by simpa [hth] using hr⟩,tD,tS,⟨yX rfl rfl zl,rfl⟩⟩
  ·rw [hth] at c1
   repeat' (first|(refine shC ?_;first|refine qC c1 ?_)|(refine shX ?_;first|refine qX he ?_)|(refine zI ?_;first|refine yc zh rfl rfl rfl rfl rfl rfl rfl (by show _ * 8≤_;simp;omega) (by simp;omega) rfl rfl ?_)|refine sK ?_|refine sC (fun _=>?_) (fun _=>?_)|fail)
   ·rename_i hx
    rw [hth,hx] at hr
    exact ⟨(k + 1,out++[(k:Int)]),⟨by simp;omega,by simp;omega,by simpa [hth] using hr⟩,tD,tS,⟨yX rfl (by simp) zl,rfl⟩⟩
   ·rename_i hx
    rw [hth,hx] at hr
    exact ⟨(k + 1,out),⟨by simp;omega,by simp;omega,by simpa [hth] using hr⟩,tD,tS,⟨yX rfl rfl zl,rfl⟩⟩
 ·rw [drop_end (by simp [nums];omega)] at hr
  repeat' (first|refine sK ?_|refine sC (fun _=>?_) (fun _=>?_)|fail)
  exact retq rfl (by rw [←hr];simp [zi,ints])
theorem YR (g:Img) (t:Int) (hg:g.methods.length≤1000):ACall Tryz.prog 48 [zq g,pi t] (ints (methodsOf g t)):=by
 refine zf zh Tryz.func48 rfl (by kernel_rfl) Tryz.ntmps48 (by simp) _ rfl (fun hw gB hgB=>?_)
 repeat' (first|refine sA ?_|refine sC (fun _=>?_) (fun _=>?_)|fail)
 refine yS (t:=5) 0 3 1 (by decide) rfl rfl ?_
 refine zo (fun x:Nat × List Int=>[(1,.pv (pi t)),(2,.pv (.ptr (zq g) 0)),(5,.own 0),(9,.pv (.slc 12 (g.methods.map zG) false)),(10,.pv (pi g.methods.length)),(11,.pv (pi x.1))]) (fun x=>[(0,.row 3 1 (x.2.map pi))])
  (fun x=>x.1≤g.methods.length∧x.2.length≤x.1∧x.2++((nums g.methods.length).drop x.1).filter (fun i=>there g t&&(g.methods.getD i.toNat default).owner==t)=methodsOf g t) (fun x=>g.methods.length - x.1) (0,[]) ⟨by simp,by simp,rfl⟩ (tS) ⟨zn rfl zl,rfl⟩ ?_
 rintro ⟨k,out⟩ ⟨hk,hol,hr⟩
 simp only at hk hol hr
 by_cases hlt:k < g.methods.length
 ·have he:=zA (f:=zG) hlt
  rw [drop_cons (by simpa [nums] using hlt),List.filter_cons,zdZ,Int.toNat_natCast,zx hlt] at hr
  have c1:=YE g t
  cases hth:there g t
  ·rw [hth] at c1
   repeat' (first|(refine shC ?_;first|refine qC c1 ?_)|(refine shX ?_;first|refine qX he ?_)|refine sK ?_|refine sC (fun _=>?_) (fun _=>?_)|fail)
   exact ⟨(k + 1,out),⟨by simp;omega,by simp;omega,by simpa [hth] using hr⟩,tD,tS,⟨yX rfl rfl zl,rfl⟩⟩
  ·rw [hth] at c1
   repeat' (first|(refine shC ?_;first|refine qC c1 ?_)|(refine shX ?_;first|refine qX he ?_)|(refine zI ?_;first|refine yc zh rfl rfl rfl rfl rfl rfl rfl (by show _ * 8≤_;simp;omega) (by simp;omega) rfl rfl ?_)|refine sK ?_|refine sC (fun _=>?_) (fun _=>?_)|fail)
   ·rename_i hx
    rw [hth,hx] at hr
    exact ⟨(k + 1,out++[(k:Int)]),⟨by simp;omega,by simp;omega,by simpa [hth] using hr⟩,tD,tS,⟨yX rfl (by simp) zl,rfl⟩⟩
   ·rename_i hx
    rw [hth,hx] at hr
    exact ⟨(k + 1,out),⟨by simp;omega,by simp;omega,by simpa [hth] using hr⟩,tD,tS,⟨yX rfl rfl zl,rfl⟩⟩
 ·rw [drop_end (by simp [nums];omega)] at hr
  repeat' (first|refine sK ?_|refine sC (fun _=>?_) (fun _=>?_)|fail)
  exact retq rfl (by rw [←hr];simp [zi,ints])
theorem zfY (g:Img) (t:Int) (hf:zJ g=true):ACall Tryz.prog 246 [zq g,pi t] (ints (partsOf g t)):=by
 refine zf zh Tryz.func246 rfl (by kernel_rfl) Tryz.ntmps246 (by simp) _ rfl (fun hw gB hgB=>?_)
 have hg:g.fields.length≤1000:=by have:=(zF hf).2.1;omega
 have hfl:=YF g t
 repeat' (first|(refine shC ?_;first|refine qC (Xw g t hg) ?_)|refine sA ?_|refine sC (fun _=>?_) (fun _=>?_)|fail)
 refine yS (t:=5) 0 3 1 (by decide) rfl rfl ?_
 refine zo (fun x:Nat × List Int=>[(2,.pv (.ptr (zq g) 0)),(5,.own 0),(11,.pv (ints (fieldsOf g t))),(12,.pv (pi (fieldsOf g t).length)),(13,.pv (pi x.1))]) (fun x=>[(0,.row 3 1 (x.2.map pi))])
  (fun x=>x.1≤(fieldsOf g t).length∧x.2.length≤x.1∧x.2++(((fieldsOf g t).drop x.1).filter (zcu g)).map (fun i=>(g.fields.getD i.toNat default).ty.index)=partsOf g t) (fun x=>(fieldsOf g t).length - x.1) (0,[]) ⟨by simp,by simp,rfl⟩ (tS) ⟨zn rfl zl,rfl⟩ ?_
 rintro ⟨k,out⟩ ⟨hk,hol,hr⟩
 simp only at hk hol hr
 by_cases hlt:k < (fieldsOf g t).length
 ·have he:=yT hlt
  obtain ⟨h0,hi⟩:=qU (List.getElem_mem hlt)
  have hef:=qE (f:=Yc) hi
  rw [drop_cons hlt,List.filter_cons,zcu] at hr
  simp only [zx hi] at hr
  repeat' (first|(refine shC ?_;first|refine qC (Zr _ hf _) ?_)|(refine shX ?_;first|refine qX he ?_|refine zu rfl (zk zh rfl rfl rfl rfl rfl rfl h0 hef) rfl rfl ?_|refine AD.step _ _ _ _ _ rfl (zk zh rfl rfl rfl rfl rfl rfl h0 hef) rfl rfl ?_)|(refine zI ?_;first|refine yc zh rfl rfl rfl rfl rfl rfl rfl (by show _ * 8≤_;simp;omega) (by simp;omega) rfl rfl ?_)|refine sK ?_|refine sC (fun _=>?_) (fun _=>?_)|fail)
  ·rw [if_pos (by simp_all)] at hr
   exact ⟨(k + 1,out++[g.fields[(fieldsOf g t)[k].toNat].ty.index]),⟨by simp;omega,by simp;omega,by rw [List.map_cons,zx hi] at hr;simpa using hr⟩,tD,tS,⟨yX rfl (by simp) zl,rfl⟩⟩
  all_goals
   rw [if_neg (by simp_all)] at hr
   exact ⟨(k + 1,out),⟨by simp;omega,by simp;omega,by simpa using hr⟩,tD,tS,⟨yX rfl rfl zl,rfl⟩⟩
 ·rw [drop_end (by omega)] at hr
  repeat' (first|refine sK ?_|refine sC (fun _=>?_) (fun _=>?_)|fail)
  exact retq rfl (by rw [←hr];simp [zi,ints])
def SM (α:Type):Type:=List Ty→Except Int (α × List Ty)
def SM.ret {α:Type} (a:α):SM α:=fun l=>.ok (a,l)
def SM.bnd {α β:Type} (x:SM α) (f:α→SM β):SM β:=fun l=>match x l with|.error e=>.error e|.ok p=>f p.1 p.2
instance:Monad SM:={ pure:=SM.ret,bind:=SM.bnd }
theorem ZT {α:Type} (a:α) (l:List Ty):(pure a:SM α) l=.ok (a,l):=rfl
theorem qx {α β:Type} (x:SM α) (f:α→SM β) (l:List Ty):(x >>= f) l=match x l with|.error e=>.error e|.ok p=>f p.1 p.2:=rfl
theorem zox {α β:Type} {x:SM α} {f:α→SM β} {l:List Ty} {e:Int} (h:x l=.error e):(x >>= f) l=.error e:=by rw [qx,h]
theorem zuG {α β:Type} {x:SM α} {f:α→SM β} {l l':List Ty} {a:α} (h:x l=.ok (a,l')):(x >>= f) l=f a l':=by rw [qx,h]
def qW (b:Bool) (e:Int):SM Unit:=fun l=>if b then .ok ((),l) else .error e
def QI:SM Ty:=fun l=>if l.length < 1 then .error 9 else .ok ((l.drop (l.length - 1)).headD default,l.take (l.length - 1))
def qK (most:Int) (ts:List Ty):SM Unit:=fun l=>if ((l.length:Int) + (ts.length:Int))≤most then .ok ((),l++ts) else .error 9
def zeT:SM Unit:=fun _=>.ok ((),[])
def emptyS (e:Int):SM Unit:=fun l=>if l.length==0 then .ok ((),l) else .error e
def kTy (k:Int):Ty:=⟨k,0,0,false⟩
def rfT (t:Ty):Ty:=⟨t.kind,t.index,t.dims,true⟩
def nuT (t:Ty):Bool:=tyB t (kTy 2)||tyB t (kTy 3)
def Xe (g:Img) (t:Ty):SM Unit:=do let x ←QI;qW (zdb g x t) 10
def zaI (g:Img) (ls:List Ty):SM Unit:=fun l =>
 if l.length < ls.length then .error 9 else if zq4 g (l.drop (l.length - ls.length)) ls then .ok ((),l.take (l.length - ls.length)) else .error 10
def Zp:SM Ty:=do let b ←QI;let a ←QI;qW (tyB a b&&nuT a) 10;pure a
def znp:SM Ty:=do let t ←QI;qW (nuT t) 10;pure t
def zdP:SM Unit:=do let b ←QI;let a ←QI;qW (tyB a b&&nuT a||object a&&object b) 10
def zoL (x:Ins) (ls:List Ty):SM Ty:=do qW (decide (x.arg < ls.length)) 3;pure (ls.getD x.arg.toNat default)
def zhK (most:Int) (t:Ty):SM Unit:=do qW (!t.ref) 13;qK most [rfT t]
def Xc (g:Img) (c:Me):List Ty:=zln (Yo (YU g c.owner) (qB c.flags 1) c.owner) c.params
def zev (most:Int) (c:Me):SM Unit:=if c.ret.kind != 1 then qK most [c.ret] else pure ()
def fAt (g:Img) (a:Int):Fd:=g.fields.getD a.toNat default
def tAt (g:Img) (a:Int):TD:=g.types.getD a.toNat default
def zcQ (g:Img) (f:Fd) (itself:Bool):SM Unit:=do
 let t ←QI
 if YU g f.owner==1 then qW (tyB t (rfT ⟨6,f.owner,0,false⟩)||itself&&tyB t ⟨6,f.owner,0,false⟩) 10
 else qW (zdb g t ⟨5,f.owner,0,false⟩) 10
def zj0 (x:Ins):SM Ty:=do qW (decide (x.t.dims + 1≤3)) 6;pure ⟨x.t.kind,x.t.index,x.t.dims + 1,x.t.ref⟩
def zua (t:Ty):Bool:=nuT t||t.kind==6&&t.dims==0
def zq5 (g:Img) (ar:List Ty) (m:Me) (x:Ins):SM Unit:=do
 let t ←zoL x (if x.op==2||x.op==3||x.op==4 then ar else m.locals)
 if x.op==2||x.op==5 then qK m.max [t] else if x.op==3||x.op==6 then Xe g t else zhK m.max t
def zaZ (g:Img) (m:Me) (op:Int):SM Unit :=
 if op==13||op==14||op==15||op==16||op==17||op==18||op==19||op==20||op==25||op==26||op==27 then do let t ←Zp;qK m.max [t]
 else if op==21||op==22 then do Xe g (kTy 2);let t ←znp;qK m.max [t]
 else if op==23||op==24 then do let t ←znp;qK m.max [t]
 else if op==28||op==30 then do let _ ←znp;qK m.max [kTy 2]
 else if op==29 then do let _ ←znp;qK m.max [kTy 3]
 else if op==31 then do zdP;qK m.max [kTy 2]
 else if op==32||op==33 then do let _ ←Zp;qK m.max [kTy 2]
 else pure ()
def zor (op:Int):SM Unit :=
 if op==35||op==36 then do let t ←QI;qW (nuT t||object t) 10
 else if op==37||op==42 then zdP
 else if op==38||op==39||op==40||op==41 then do let _ ←Zp;pure ()
 else pure ()
def zoy (g:Img) (m:Me) (x:Ins):SM Unit :=
 let c:=mAt g x.arg
 if x.op==43 then do qW (!qB c.flags 4) 8;zaI g (Xc g c);zev m.max c
 else if x.op==44 then do qW (!qB c.flags 1&&!qB c.flags 16&&YU g c.owner != 1) 8;zaI g (Xc g c);zev m.max c
 else do qW (qB c.flags 16&&!qB (tAt g c.owner).flags 4) 8;zaI g c.params;qK m.max [⟨5,c.owner,0,false⟩]
def zkv (g:Img) (m:Me) (x:Ins):SM Unit:=do
 let f:=fAt g x.arg
 qW (f.static==(x.op==51||x.op==52||x.op==53)) 8
 if x.op==48 then do zcQ g f true;qK m.max [f.ty]
 else if x.op==49 then do Xe g f.ty;zcQ g f false
 else if x.op==50 then do zcQ g f false;qK m.max [rfT f.ty]
 else if x.op==51 then qK m.max [f.ty]
 else if x.op==52 then Xe g f.ty
 else qK m.max [rfT f.ty]
def zjH (g:Img) (m:Me) (x:Ins):SM Unit :=
 if x.op==55 then zaI g [rfT x.t,x.t]
 else do let t ←QI;qW (tyB t (rfT x.t)) 10;if x.op==54 then qK m.max [x.t] else pure ()
def zjC (g:Img) (m:Me) (x:Ins):SM Unit :=
 if x.op==58 then do let t ←QI;qW (object t&&(decide (0 < t.dims)||t.kind==8)) 10;qK m.max [kTy 2]
 else do
  let a ←zj0 x
  if x.op==57 then do Xe g (kTy 2);qK m.max [a]
  else if x.op==60 then zaI g [a,kTy 2,x.t]
  else do zaI g [a,kTy 2];if x.op==59 then qK m.max [x.t] else qK m.max [rfT x.t]
def zh7 (g:Img) (m:Me) (x:Ins):SM Unit:=do
 qW ((x.op==65||x.op==66)&&object x.t||!(x.op==65||x.op==66)&&zua x.t) 8
 if x.op==62 then do Xe g x.t;qK m.max [kTy 4]
 else do let t ←QI;qW (object t) 10;qK m.max [if x.op==63 then rfT x.t else x.t]
def sameAll:List Ty→List Ty→Bool
 | a::ar,b::bs=>tyB a b&&sameAll ar bs
 | _,_=>true
def zeQ (g:Img) (m:Me) (x:Ins):SM Unit:=do
 qW (x.t.kind==5&&x.t.dims==0&&YU g x.t.index==3) 8
 let d:=mAt g ((methodsOf g x.t.index).headD 0)
 let f ←QI
 let o ←QI
 qW (tyB f ⟨9,f.index,0,false⟩&&decide (0≤f.index)&&decide (f.index < g.methods.length)) 10
 let c:=mAt g f.index
 qW (tyB c.ret d.ret&&c.params.length==d.params.length) 10
 qW (sameAll c.params d.params) 10
 let this:=Yo (YU g c.owner) (qB c.flags 1) c.owner
 if this.2 then qW (!this.1.ref&&zdb g o this.1) 10 else qW (tyB o (kTy 8)) 10
 qK m.max [x.t]
def QZ (g:Img) (m:Me) (op:Int):SM Unit:=do
 if op==46 then do (if m.ret.kind != 1 then Xe g m.ret else pure ());emptyS 9
 else if op==69 then do let t ←QI;qW (object t) 10
 else if op==73 then do Xe g (kTy 2);emptyS 9
 else pure ()
 zeT
def qZ (g:Img) (m:Me) (x:Ins):SM Unit :=
 if x.op==8 then qK m.max [kTy 2]
 else if x.op==9||x.op==74 then qK m.max [kTy 3]
 else if x.op==10 then qK m.max [kTy 8]
 else if x.op==11 then do let t ←QI;qK m.max [t,t]
 else if x.op==12 then do let _ ←QI;pure ()
 else if x.op==75 then Xe g (kTy 3)
 else if x.op==67 then do qW (!qB (mAt g x.arg).flags 4&&!qB (mAt g x.arg).flags 16) 8;qK m.max [⟨9,x.arg,0,false⟩]
 else pure ()
def doS (g:Img) (ar:List Ty) (m:Me) (x:Ins):SM Unit :=
 if decide (2≤x.op)&&decide (x.op≤7) then zq5 g ar m x
 else if decide (13≤x.op)&&decide (x.op≤33) then zaZ g m x.op
 else if decide (34≤x.op)&&decide (x.op≤42) then zor x.op
 else if decide (43≤x.op)&&decide (x.op≤45) then zoy g m x
 else if decide (48≤x.op)&&decide (x.op≤53) then zkv g m x
 else if decide (54≤x.op)&&decide (x.op≤56) then zjH g m x
 else if decide (57≤x.op)&&decide (x.op≤61) then zjC g m x
 else if decide (62≤x.op)&&decide (x.op≤66) then zh7 g m x
 else if x.op==68 then zeQ g m x
 else if x.op==46||decide (69≤x.op)&&decide (x.op≤73) then QZ g m x.op
 else qZ g m x
def zX (m:Me) (a:Int):Ins:=m.code.getD a.toNat default
def stepS (g:Img) (mi at_:Int) (l:List Ty):Except Int (Unit × List Ty):=doS g (Xc g (mAt g mi)) (mAt g mi) (zX (mAt g mi) at_) l
abbrev Xf (g:Img):List PV:=[.slc 4 (g.types.map Zb) false,.slc 7 (g.fields.map Yc) false,.slc 12 (g.methods.map zG) false,pi g.entry]
abbrev zgy (m:Me):List PV:=[ps m.name,pi m.owner,pi m.flags,tys m.params,pi m.ret.kind,pi m.ret.index,pi m.ret.dims,pb m.ret.ref,tys m.locals,pi m.max,.slc 6 (m.code.map zY) false,.slc 10 (m.clauses.map yI) false]
abbrev zb0 (x:Ins):List PV:=[pi x.op,pi x.arg,pi x.t.kind,pi x.t.index,pi x.t.dims,pb x.t.ref]
abbrev ziu (t:Ty):List PV:=[pi t.kind,pi t.index,pi t.dims,pb t.ref]
structure RC where
 g:Img
 m:Me
 ar:List Ty
 x:Ins
abbrev Xo (c:RC) (l:List Ty):HE:=.cell (.agg ((Xf c.g++(zgy c.m++(tys c.ar::(zb0 c.x++[tys l])))).map .pv))
abbrev WV (c:RC):HE:=.cell (.agg ((Xf c.g++(zgy c.m++(tys c.ar::zb0 c.x))).map .pv++[.any1]))
abbrev zq3 (u:Value):HEnv:=[(1000,.pin (.own 0) u)]
abbrev WJ (u:Value) (c:RC) (l:List Ty):HEnv:=(0,Xo c l)::zq3 u
abbrev flt (e:Int):Value:=.iface 147 (.int .i64 e)
def zsO {α:Type} (u:Value) (c:RC) (val:α→AV):Except Int (α × List Ty)→Out
 | .error e=>.pan (flt e)
 | .ok p=>.ret (val p.1) (WJ u c p.2)
abbrev uV:Unit→AV:=fun _=>.pv (.tup [])
abbrev tV:Ty→AV:=fun t=>.pv (yK t)
def XC {α:Type} (f:FuncId) (args:List AV) (c:RC) (act:SM α) (val:α→AV) (l:List Ty):Prop:=∀ u,Xp Tryz.prog f (.box 0 0::args) (WJ u c l) (zsO u c val (act l))
theorem XC.ok {α:Type} {f:FuncId} {args:List AV} {c:RC} {act:SM α} {val:α→AV} {l l':List Ty} {a:α} (h:XC f args c act val l) (e:act l=.ok (a,l')):∀ us,ACallM Tryz.prog f (.box 0 0::args) ([(0,Xo c l)]++yP us [0]) (val a) ([(0,Xo c l')]++yP us [0]):=fun us=>by
 have:=h (us 0)
 rw [e] at this;exact this
theorem XC.bad {α:Type} {f:FuncId} {args:List AV} {c:RC} {act:SM α} {val:α→AV} {l:List Ty} {e:Int} (h:XC f args c act val l) (he:act l=.error e) (u:Value):ACallPan Tryz.prog f (.box 0 0::args) (WJ u c l) (flt e):=by
 have:=h u
 rw [he] at this;exact this
set_option maxHeartbeats 20000000
theorem Xq {α:Type} {tb:Tab} {rs:List ResultVar} {u:Value} {c:RC} {val:α→AV} {act:SM α} {l l':List Ty} {a:α} {ex:Exit} {env:Env} {H:HEnv} (h:act l=.ok (a,l')) (hr:zke tb rs (val a) (WJ u c l') ex env H):zkW tb rs (zsO u c val (act l)) ex env H:=by
 rw [h];exact hr
theorem Zn {α:Type} {tb:Tab} {rs:List ResultVar} {u:Value} {c:RC} {val:α→AV} {act:SM α} {l:List Ty} {e:Int} {env:Env} {H:HEnv} (h:act l=.error e):zkW tb rs (zsO u c val (act l)) (.panic [{ v:=flt e,recovered:=false }]) env H:=by
 rw [h];rfl
theorem zaz {b:Bool} (h:b=true) (e:Int):ACall Tryz.prog 199 [pb b,pi e] (.tup []):=by
 subst h
 refine zf zh Tryz.func199 rfl (by kernel_rfl) Tryz.ntmps199 (by simp) _ rfl (fun hw gB hgB=>?_)
 repeat' (first|refine sK ?_|refine sC (fun _=>?_) (fun _=>?_)|fail)
 exact ZA rfl rfl
theorem VZ {b:Bool} (h:b=false) (e:Int):ACallPan Tryz.prog 199 [.pv (pb b),.pv (pi e)] [] (flt e):=by
 subst h
 refine VJ Tryz.func199 rfl (by kernel_rfl) Tryz.ntmps199 (by simp) (fun gB hw1=>?_)
 repeat' (first|refine zD 1 2 rfl rfl rfl ?_|refine zu rfl (zjj rfl Tryz.underlying147 rfl) rfl rfl ?_|refine zi4 rfl rfl rfl ?_|refine sK ?_|refine sC (fun _=>?_) (fun _=>?_)|fail)
 exact rfl
theorem XV (k:Int):ACall Tryz.prog 195 [pi k] (yK (kTy k)):=by
 refine zf zh Tryz.func195 rfl (by kernel_rfl) Tryz.ntmps195 (by simp) _ rfl (fun hw gB hgB=>?_)
 repeat' (first|refine sK ?_|refine sC (fun _=>?_) (fun _=>?_)|fail)
 exact retq rfl rfl
theorem zqo (t:Ty):ACall Tryz.prog 200 [yK t] (pb (nuT t)):=by
 refine zf zh Tryz.func200 rfl (by kernel_rfl) Tryz.ntmps200 (by simp) _ rfl (fun hw gB hgB=>?_)
 repeat' (first|(refine shC ?_;first|refine qC (XV 2) ?_|refine qC (XV 3) ?_)|refine sA ?_|refine sC (fun _=>?_) (fun _=>?_)|fail)
 all_goals first|(exact retq rfl (by simp_all [zi,nuT,tyB,kTy]))|trace_state
theorem zbO {tb:Tab} {u:Value} {c:RC} {l:List Ty} {ex:Exit} {env:Env} {H:HEnv} (he:ex=.normal∨ex=.ret) (h:Qa H (WJ u c l) []):zke tb [] (uV ()) (WJ u c l) ex env H:=⟨he,.inl ⟨[],rfl,rfl,h⟩⟩
theorem zsy {tb:Tab} {u:Value} {c:RC} {l:List Ty} {t:Ty} {rs:List ResultVar} {env:Env} {H:HEnv} (hr:zak tb H env rs=some [yK t]) (h:Qa H (WJ u c l) []):zke tb rs (tV t) (WJ u c l) .ret env H:=⟨.inr rfl,.inl ⟨_,hr,rfl,h⟩⟩
theorem zaW (c:RC) (l:List Ty) (hl:l.length≤1000):XC 198 [] c QI tV l:=by
 intro u;refine yO zh Tryz.func198 rfl (by kernel_rfl) Tryz.ntmps198 (by simp) _ rfl (fun gB hw1=>?_)
 by_cases h:l.length < 1
 ·have hp:QI l=.error 9:=by rw [QI,if_pos h]
  repeat' (first|refine zD 2 3 rfl rfl rfl ?_|refine yw ([]) zy rfl rfl rfl tH (VZ rfl 9) ?_|(refine shC ?_;first|refine zu rfl (qw rfl rfl (zfQ l 1 (.inr (by omega)))) rfl rfl ?_|refine AD.step _ _ _ _ _ rfl (qw rfl rfl (zfQ l 1 (.inr (by omega)))) rfl rfl ?_)|refine sK ?_|refine sC (fun _=>?_) (fun _=>?_)|fail)
  exact Zn hp
 ·have hp:QI l=.ok ((l.drop (l.length - 1)).headD default,l.take (l.length - 1)):=by rw [QI,if_neg h]
  have hd:(l.drop (l.length - 1)).length=1:=by simp;omega
  obtain ⟨t,ht⟩:=List.length_eq_one_iff.1 hd
  rw [ht] at hp
  have cp:=zsF l 1 hl (by omega) (by omega)
  rw [show (1:Int).toNat=1 from rfl,ht] at cp
  repeat' (first|(refine shC ?_;first|refine qC cp ?_|refine qC (zaz rfl 0) ?_)|(refine shX ?_;first|refine zu rfl (zk zh rfl rfl rfl rfl rfl rfl (by decide) rfl) rfl rfl ?_|refine AD.step _ _ _ _ _ rfl (zk zh rfl rfl rfl rfl rfl rfl (by decide) rfl) rfl rfl ?_)|refine sK ?_|refine sC (fun _=>?_) (fun _=>?_)|fail)
  exact Xq hp (zsy rfl tH)
set_option maxHeartbeats 20000000
theorem zab (l:List Ty):QI l=.error 9∨∃ t l',QI l=.ok (t,l')∧l=l'++[t]:=by
 by_cases h:l.length < 1
 ·exact .inl (by rw [QI,if_pos h])
 ·refine .inr ?_
  have hd:(l.drop (l.length - 1)).length=1:=by simp;omega
  obtain ⟨t,ht⟩:=List.length_eq_one_iff.1 hd
  refine ⟨t,l.take (l.length - 1),by rw [QI,if_neg h,ht];rfl,?_⟩
  rw [←ht,List.take_append_drop]
theorem zlf {l l':List Ty} {t:Ty} (h:QI l=.ok (t,l')):l.length=l'.length + 1:=by
 rcases zab l with e|⟨t2,l2,e,e2⟩
 ·rw [e] at h;cases h
 ·rw [e] at h;cases h;rw [e2];simp
theorem ztn (sz:Nat) (es:List PV) (f:Bool):PTells (.slc sz es f) (.slc sz es false):=fun K w v h=>by
 cases h with
 | nil=>exact .nil sz false
 | emp _ _ a=>exact .emp sz false a
 | slc _ _ _ b o cap vss h0 h1 h2 h3 h4 h5 h6=>exact .slc sz es false b o cap vss h0 h1 (by simp) h3 h4 h5 h6
theorem ACall.tells {P:Program} {f:FuncId} {args args':List PV} {r:PV} (h:ACall P f args r) (ht:PTL args' args):ACall P f args' r :=
 ⟨h.stands,fun K w vs hl hv=>h.calls K w vs hl ⟨by rw [hv.1,ht.1],fun k c v hc hvv=>by
  have hlt:k < args'.length:=by rw [ht.1];exact (List.getElem?_eq_some_iff.1 hc).1
  exact ht.2 k _ c (List.getElem?_eq_getElem hlt) hc _ _ _ (hv.2 k _ v (List.getElem?_eq_getElem hlt) hvv)⟩⟩
abbrev tsV (ts:List Ty):AV:=.pv (.slc 4 (ts.map yK) true)
theorem Vu (c:RC) (ts l:List Ty) (hl:l.length≤200) (ht:ts.length≤200):XC 191 [tsV ts] c (qK c.m.max ts) uV l:=by
 intro u;refine yO zh Tryz.func191 rfl (by kernel_rfl) Tryz.ntmps191 (by simp) _ rfl (fun gB hw1=>?_)
 have htl:PTL [tys l,pi c.m.max,.slc 4 (ts.map yK) true] [tys l,pi c.m.max,tys ts]:=yJ (.refl _) (yJ (.refl _) (yJ (ztn _ _ _) zbm))
 by_cases h:((l.length:Int) + (ts.length:Int))≤c.m.max
 ·have hp:qK c.m.max ts l=.ok ((),l++ts):=by rw [qK,if_pos h]
  have cp:=(zpE l ts c.m.max hl ht h).tells htl
  repeat' (first|(refine shC ?_;first|refine qC cp ?_|refine qC (zaz rfl 0) ?_)|refine sK ?_|refine sC (fun _=>?_) (fun _=>?_)|fail)
  exact Xq hp (zbO (.inl rfl) tH)
 ·have hp:qK c.m.max ts l=.error 9:=by rw [qK,if_neg h]
  have cp:=(zkf l ts c.m.max hl ht (by omega)).tells htl
  repeat' (first|refine zD 1 3 rfl rfl rfl ?_|refine yw ([]) zy rfl rfl rfl tH (VZ rfl 9) ?_|(refine shC ?_;first|refine qC cp ?_)|refine sK ?_|refine sC (fun _=>?_) (fun _=>?_)|fail)
  exact Zn hp
theorem zs7 {K:KK} {w:World} {sz:Nat} {es:List PV} {f:Bool} {v:Value} (h:PRel K w (.slc sz es f) v):v.cells=#[v]∧v.oneCell'=true:=by
 cases h <;> exact ⟨rfl,rfl⟩
theorem zmb (c:RC) (l:List Ty):Tells (.agg ((Xf c.g++(zgy c.m++(tys c.ar::(zb0 c.x++[tys l])))).map .pv)) (.agg ((Xf c.g++(zgy c.m++(tys c.ar::zb0 c.x))).map .pv++[.any1])):=fun K w ρ H v h=>by
 cases h with
 | agg _ vs h1 h2 h3 =>
  refine .agg _ vs (by simpa using h1) h2 fun k a v ha hv=>?_
  have hk:k < 24:=by have:=(List.getElem?_eq_some_iff.1 ha).1;simpa using this
  by_cases h23:k=23
  ·subst h23
   have:=h3 23 (.pv (tys l)) v rfl hv
   have e:a=.any1:=by simpa using ha.symm
   subst e
   cases this with
   | pv _ _ hp =>
    obtain ⟨q1,q2⟩:=zs7 hp
    exact .any1 _ q1 q2
  ·have e:((Xf c.g++(zgy c.m++(tys c.ar::(zb0 c.x++[tys l])))).map AV.pv)[k]?=some a:=by
    rw [←ha,show Xf c.g++(zgy c.m++(tys c.ar::(zb0 c.x++[tys l])))=(Xf c.g++(zgy c.m++(tys c.ar::zb0 c.x)))++[tys l] by simp,List.map_append,List.getElem?_append_left (by simp;omega),List.getElem?_append_left (by simp;omega)]
   exact h3 k a v e hv
section
variable {P:Program} {n:Nat} {g:Base} {H:HEnv} {env:Env} {ops:List Oper}
theorem zb6 {QQ:QC} {id:Nat} (L k jc:Nat) (R:HEnv) (c:RC) (l l':List Ty) {oc:Oper} {tc:Nat} (rc:AV) (pan:Option Value) (hL:ops.length=L) (hok:Xj ops k=true) (hm:P.follows .mixedOrders=true) (hB:YD (zC k ops 0) ((zC k ops 0).take k)=true) (hT:Xu (zC k ops 0) k=true) (hk:Nat.ble k (zC k ops 0).length=true)
  (hsp:(zC k ops 0).take k=(zC k ops 0).take jc++oc::((zC k ops 0).take k).drop (jc + 1)) (hjl:Nat.ble jc (zC k ops 0).length=true) (hd:oc.dst=some tc) (htc:Nat.blt tc n=true)
  (hH:Qa H ((0,Xo c l)::R) env) (hke:Qv ((0,WV c)::R) env=true) (hkk:yR ((0,WV c)::R) ((0,Xo c l')::R)=true)
  (hp:∀ v,pan=some v→QQ (.panic [{ v:=v,recovered:=false }]) [] [])
  (h:AD P n g ((0,WV c)::R) (zC k ops 0) (fun env1=>(guardE (zC k ops 0) env1 oc=some true∧EStep P g ((0,Xo c l)::R) ((0,Xo c l')::R) ((0,WV c)::R) oc env1 rc pan)∧AD P n g ((0,WV c)::R) (zC k ops 0) (fun env'=>pan=none→AOX P n g (zC k ops 0).toArray ((zC k ops 0).drop k) env' ((0,Xo c l')::R) QQ) (((zC k ops 0).take k).drop (jc + 1)) ((tc,rc)::env1)) ((zC k ops 0).take jc) env)
  (hnd:qI ops=true:=by kernel_rfl) (hr:Zo ((0,WV c)::R) rc=true:=by rfl):AW P n g (.region id ops.toArray true) env H QQ :=
 zmB L k jc ((0,Xo c l)::R) ((0,Xo c l')::R) ((0,WV c)::R) rc pan hL hok hm hB hT hk hsp hjl hd htc (fun _ _ _ hf=>zgK hf (zmb c l)) (fun _ _ _ hf=>zgK hf (zmb c l')) hkk hH hke hr hp h hnd
end
theorem zmx {α:Type} {g:Base} {f:FuncId} {args:List AV} {R:HEnv} {c:RC} {act:SM α} {val:α→AV} {l l':List Ty} {a:α} {o:Oper} {e:Env} {xs:Array Operand} {ts:Array TypeId} (h:XC f args c act val l) (he:act l=.ok (a,l'))
  (hop:o.op=.call { callee:=.value (.func f),args:=xs,argTypes:=ts }) (hargs:avs e xs.toList=some (.box 0 0::args)) (hk:yR ((0,WV c)::R) ((0,Xo c l)::R)=true) (hk2:yR ((0,WV c)::R) (R++WI [0])=true) (hr:Zo ((0,WV c)::R) (val a)=true) (hchk:QL [(0,Xo c l)] [(0,Xo c l')] R [0] (.box 0 0::args) [] (val a)=true) :
  EStep Tryz.prog g ((0,Xo c l)::R) ((0,Xo c l')::R) ((0,WV c)::R) o e (val a) none :=
 zmM [(0,Xo c l)] [(0,Xo c l')] R [0] zy hop hargs (fun _ _ h=>h) hk hk2 hr hchk (h.ok he)
theorem zqz {α:Type} {g:Base} {f:FuncId} {args:List AV} {u:Value} {R:HEnv} {c:RC} {act:SM α} {val:α→AV} {l:List Ty} {H1:HEnv} {er:Int} {r:AV} {o:Oper} {e:Env} {xs:Array Operand} {ts:Array TypeId} (h:XC f args c act val l) (he:act l=.error er)
  (hop:o.op=.call { callee:=.value (.func f),args:=xs,argTypes:=ts }) (hargs:avs e xs.toList=some (.box 0 0::args)) (hfit:Qa ((0,Xo c l)::R) (WJ u c l) []) (hin:YN (WJ u c l) (.box 0 0::args)=true) :
  EStep Tryz.prog g ((0,Xo c l)::R) H1 ((0,WV c)::R) o e r (some (flt er)) :=
 zqc (WJ u c l) zy hop hargs hfit hin (h.bad he u)
theorem zbf (c:RC) (hF:Fm c.g) (t:Ty) (l:List Ty) (hl:l.length≤200):XC 192 [tV t] c (Xe c.g t) uV l:=by
 intro u;refine yO zh Tryz.func192 rfl (by kernel_rfl) Tryz.ntmps192 (by simp) _ rfl (fun gB hw1=>?_)
 have cp:=zaW c l (by omega)
 rcases zab l with hp|⟨x,l',hp,_⟩
 ·have hw:Xe c.g t l=.error 9:=zox hp
  repeat' (first|refine zb6 9 8 5 (zq3 u) c l l (tV t) (some (flt 9)) rfl (by kernel_rfl) (by kernel_rfl) (by kernel_rfl) (by kernel_rfl) (by kernel_rfl) rfl (by kernel_rfl) rfl rfl tH rfl rfl (fun v hv=>by cases hv;exact Zn hw) ?_|refine ⟨⟨rfl,zqz (u:=u) cp hp rfl rfl tH rfl⟩,?_⟩|refine zu rfl (zU (ps:=(Xf c.g)) zh rfl rfl rfl rfl rfl) rfl rfl ?_|refine AD.step _ _ _ _ _ rfl (zU (ps:=(Xf c.g)) zh rfl rfl rfl rfl rfl) rfl rfl ?_|(intro h;cases h)|(refine shC ?_;first|refine qC (zhc c.g t t hF) ?_)|refine sK ?_|refine sC (fun _=>?_) (fun _=>?_)|fail)
 ·have cf:=zhc c.g x t hF
  cases hf:zdb c.g x t
  ·have hw:Xe c.g t l=.error 10:=by simp [Xe,qx,hp,qW,hf]
   repeat' (first|refine zb6 9 8 5 (zq3 u) c l l' (tV x) none rfl (by kernel_rfl) (by kernel_rfl) (by kernel_rfl) (by kernel_rfl) (by kernel_rfl) rfl (by kernel_rfl) rfl rfl tH rfl rfl (fun v hv=>by cases hv) ?_|refine ⟨⟨rfl,zmx cp hp rfl rfl rfl rfl rfl rfl⟩,?_⟩|refine zu rfl (zU (ps:=(Xf c.g)) zh rfl rfl rfl rfl rfl) rfl rfl ?_|refine AD.step _ _ _ _ _ rfl (zU (ps:=(Xf c.g)) zh rfl rfl rfl rfl rfl) rfl rfl ?_|intro _|refine yw [] zy rfl rfl rfl tH (VZ hf 10) ?_|(refine shC ?_;first|refine qC cf ?_)|refine sK ?_|refine sC (fun _=>?_) (fun _=>?_)|fail)
   exact Zn hw
  ·have hw:Xe c.g t l=.ok ((),l'):=by simp [Xe,qx,hp,qW,hf]
   repeat' (first|refine zb6 9 8 5 (zq3 u) c l l' (tV x) none rfl (by kernel_rfl) (by kernel_rfl) (by kernel_rfl) (by kernel_rfl) (by kernel_rfl) rfl (by kernel_rfl) rfl rfl tH rfl rfl (fun v hv=>by cases hv) ?_|refine ⟨⟨rfl,zmx cp hp rfl rfl rfl rfl rfl rfl⟩,?_⟩|refine zu rfl (zU (ps:=(Xf c.g)) zh rfl rfl rfl rfl rfl) rfl rfl ?_|refine AD.step _ _ _ _ _ rfl (zU (ps:=(Xf c.g)) zh rfl rfl rfl rfl rfl) rfl rfl ?_|intro _|refine zaS ?_|(refine shC ?_;first|refine qC cf ?_|refine qC (zaz hf 10) ?_)|refine sK ?_|refine sC (fun _=>?_) (fun _=>?_)|fail)
   exact Xq hw (zbO (.inl rfl) tH)
set_option maxHeartbeats 1000000 in
theorem zbP (c:RC) (l:List Ty) (hl:l.length≤1000):XC 194 [] c Zp tV l:=by
 intro u;refine yO zh Tryz.func194 rfl (by kernel_rfl) Tryz.ntmps194 (by simp) _ rfl (fun gB hw1=>?_)
 have c1:=zaW c l hl
 rcases zab l with hp|⟨b,l1,hp,e1⟩
 ·have hw:Zp l=.error 9:=zox hp
  repeat' (first|refine zD 1 1 rfl rfl rfl ?_|refine yw ((WJ u c l)) zy rfl rfl rfl tH (c1.bad hp u) ?_|refine sK ?_|refine sC (fun _=>?_) (fun _=>?_)|fail)
  exact Zn hw
 ·have hl1:l1.length≤1000:=by have:=zlf hp;omega
  have c2:=zaW c l1 hl1
  rcases zab l1 with hp2|⟨a,l2,hp2,e2⟩
  ·have hw:Zp l=.error 9:=by simp [Zp,qx,hp,hp2]
   repeat' (first|refine zD 1 3 rfl rfl rfl ?_|refine yw ((WJ u c l1)) zy rfl rfl rfl tH (c2.bad hp2 u) ?_|(refine zL ?_;first|(refine qc 0 zy rfl rfl (c1.ok hp) rfl rfl rfl rfl rfl ?_))|refine sK ?_|refine sC (fun _=>?_) (fun _=>?_)|fail)
   exact Zn hw
  ·have cn:=zqo a
   cases hab:tyB a b
   ·have hab':(a.kind==b.kind&&(a.index==b.index&&(a.dims==b.dims&&(a.ref==b.ref&&true))))=false:=hab
    have hw:Zp l=.error 10:=by simp [Zp,qx,hp,hp2,qW,hab]
    repeat' (first|refine zD 2 7 rfl rfl rfl ?_|refine yw ([]) zy rfl rfl rfl tH (VZ rfl 10) ?_|(refine zL ?_;first|(refine qc 0 zy rfl rfl (c1.ok hp) rfl rfl rfl rfl rfl ?_)|(refine qc 0 zy rfl rfl (c2.ok hp2) rfl rfl rfl rfl rfl ?_))|refine sK ?_|refine sC (fun _=>?_) (fun _=>?_)|fail)
    exact Zn hw
   ·have hab':(a.kind==b.kind&&(a.index==b.index&&(a.dims==b.dims&&(a.ref==b.ref&&true))))=true:=hab
    cases hn:nuT a
    ·rw [hn] at cn
     have hw:Zp l=.error 10:=by simp [Zp,qx,hp,hp2,qW,hab,hn]
     repeat' (first|refine zD 2 7 rfl rfl rfl ?_|refine yw ([]) zy rfl rfl rfl tH (VZ rfl 10) ?_|(refine shC ?_;first|refine qC cn ?_)|(refine zL ?_;first|(refine qc 0 zy rfl rfl (c1.ok hp) rfl rfl rfl rfl rfl ?_)|(refine qc 0 zy rfl rfl (c2.ok hp2) rfl rfl rfl rfl rfl ?_))|refine sK ?_|refine sC (fun _=>?_) (fun _=>?_)|fail)
     exact Zn hw
    ·rw [hn] at cn
     have hw:Zp l=.ok (a,l2):=by simp [Zp,qx,ZT,hp,hp2,qW,hab,hn]
     repeat' (first|(refine shC ?_;first|refine qC cn ?_|refine qC (zaz rfl 10) ?_)|(refine zL ?_;first|(refine qc 0 zy rfl rfl (c1.ok hp) rfl rfl rfl rfl rfl ?_)|(refine qc 0 zy rfl rfl (c2.ok hp2) rfl rfl rfl rfl rfl ?_))|refine sK ?_|refine sC (fun _=>?_) (fun _=>?_)|fail)
     exact Xq hw (zsy rfl tH)
def LeS {α:Type} (act:SM α):Prop:=∀ l a l',act l=.ok (a,l')→l'.length≤l.length
theorem Xt {α β:Type} {x:SM α} {f:α→SM β} (hx:LeS x) (hf:∀ a,LeS (f a)):LeS (x >>= f):=fun l b l' h=>by
 rw [qx] at h
 cases hxl:x l with
 | error e=>rw [hxl] at h;cases h
 | ok p =>
  obtain ⟨a,l1⟩:=p
  rw [hxl] at h
  exact Nat.le_trans (hf a l1 b l' h) (hx l a l1 hxl)
theorem zbx {α:Type} (a:α):LeS (pure a:SM α):=fun l b l' h=>by rw [ZT] at h;cases h;exact Nat.le_refl _
theorem Wv (b:Bool) (e:Int):LeS (qW b e):=fun l a l' h=>by
 unfold qW at h;split at h
 ·cases h;exact Nat.le_refl _
 ·cases h
theorem empty_le (e:Int):LeS (emptyS e):=fun l a l' h=>by
 unfold emptyS at h;split at h
 ·cases h;exact Nat.le_refl _
 ·cases h
theorem zaQ:LeS QI:=fun l a l' h=>by have:=zlf h;omega
theorem zjU (g:Img) (t:Ty):LeS (Xe g t):=Xt zaQ fun _=>Wv _ _
theorem zma (g:Img) (ls:List Ty):LeS (zaI g ls):=fun l a l' h=>by
 unfold zaI at h;split at h
 ·cases h
 ·split at h
  ·cases h;simp
  ·cases h
theorem zti {l l':List Ty} {a:Ty} (h:QI l=.ok (a,l')):l'.length≤l.length:=zaQ l a l' h
theorem zrl {x:Ins} {ls l l':List Ty} {a:Ty} (h:zoL x ls l=.ok (a,l')):l'.length≤l.length:=Xt (Wv _ _) (fun _=>zbx _) l a l' h
theorem zgn {l l':List Ty} {a:Ty} (h:Zp l=.ok (a,l')):l'.length≤l.length:=Xt zaQ (fun _=>Xt zaQ fun _=>Xt (Wv _ _) fun _=>zbx _) l a l' h
theorem ztG {l l':List Ty} {a:Ty} (h:znp l=.ok (a,l')):l'.length≤l.length:=Xt zaQ (fun _=>Xt (Wv _ _) fun _=>zbx _) l a l' h
theorem zoe {l l':List Ty} (h:zdP l=.ok ((),l')):l'.length≤l.length:=Xt zaQ (fun _=>Xt zaQ fun _=>Wv _ _) l () l' h
theorem zmk {g:Img} {t:Ty} {l l':List Ty} (h:Xe g t l=.ok ((),l')):l'.length≤l.length:=zjU g t l () l' h
theorem zn3 {g:Img} {f:Fd} {it:Bool} {l l':List Ty} (h:zcQ g f it l=.ok ((),l')):l'.length≤l.length:=Xt zaQ (fun _=>by split <;> exact Wv _ _) l () l' h
theorem zp2 {x:Ins} {l l':List Ty} {a:Ty} (h:zj0 x l=.ok (a,l')):l'.length≤l.length:=Xt (Wv _ _) (fun _=>zbx _) l a l' h
theorem XC.tells {α:Type} {f:FuncId} {c:RC} {act:SM α} {val:α→AV} {l:List Ty} {p p':PV} (h:XC f [.pv p] c act val l) (ht:PTells p' p):XC f [.pv p'] c act val l:=fun u=>by
 have key:∀ {K:KK} {w:World} {ρ:Nat→Value} {H:HEnv} {vs:List Value},Yu K w ρ H [.box 0 0,.pv p'] vs→Yu K w ρ H [.box 0 0,.pv p] vs:=fun hv=>⟨hv.1,fun k c v hc hvv=>by
  match k with
  | 0=>exact hv.2 0 c v hc hvv
  | 1 =>
   simp at hc;subst hc
   have:=hv.2 1 (.pv p') v rfl hvv
   cases this with|pv _ _ hp=>exact .pv _ _ (ht _ _ _ hp)
  | k + 2=>simp at hc⟩
 have hu:=h u
 cases ho:zsO u c val (act l) with
 | ret r H' =>
  rw [ho] at hu
  exact ⟨hu.stands,fun g K ρ w vs hw1 hf hv=>hu.calls g K ρ w vs hw1 hf (key hv)⟩
 | pan v =>
  rw [ho] at hu
  exact ⟨hu.stands,fun g K ρ w vs hw1 hf hv=>hu.calls g K ρ w vs hw1 hf (key hv)⟩
abbrev zt7 (c:RC):HE:=.cell (.agg ((Xf c.g++(zgy c.m++(tys c.ar::(zb0 c.x++[.base (.slice none 0 0)])))).map .pv))
abbrev rHN (u:Value) (c:RC):HEnv:=(0,zt7 c)::zq3 u
def zs6 (u:Value) (c:RC):Except Int (Unit × List Ty)→Out
 | .error e=>.pan (flt e)
 | .ok _=>.ret (.pv (.tup [])) (rHN u c)
theorem zpe {tb:Tab} {rs:List ResultVar} {u:Value} {c:RC} {act:SM Unit} {l:List Ty} {p:Unit × List Ty} {ex:Exit} {env:Env} {H:HEnv} (h:act l=.ok p) (hr:zke tb rs (.pv (.tup [])) (rHN u c) ex env H):zkW tb rs (zs6 u c (act l)) ex env H:=by
 rw [h];exact hr
theorem zie {tb:Tab} {rs:List ResultVar} {u:Value} {c:RC} {act:SM Unit} {l:List Ty} {e:Int} {env:Env} {H:HEnv} (h:act l=.error e):zkW tb rs (zs6 u c (act l)) (.panic [{ v:=flt e,recovered:=false }]) env H:=by
 rw [h];rfl
theorem zrq {tb:Tab} {u:Value} {c:RC} {ex:Exit} {env:Env} {H:HEnv} (he:ex=.normal∨ex=.ret) (h:Qa H (rHN u c) []):zke tb [] (.pv (.tup [])) (rHN u c) ex env H:=⟨he,.inl ⟨[],rfl,rfl,h⟩⟩
theorem zqV (c:RC):Tells (.agg ((Xf c.g++(zgy c.m++(tys c.ar::(zb0 c.x++[.base (.slice none 0 0)])))).map .pv)) (.agg ((Xf c.g++(zgy c.m++(tys c.ar::(zb0 c.x++[tys []])))).map .pv)):=fun K w ρ H v h=>by
 cases h with
 | agg _ vs h1 h2 h3 =>
  refine .agg _ vs (by simpa using h1) h2 fun k a v ha hv=>?_
  have hk:k < 24:=by have:=(List.getElem?_eq_some_iff.1 ha).1;simpa using this
  by_cases h23:k=23
  ·subst h23
   have:=h3 23 (.pv (.base (.slice none 0 0))) v rfl hv
   have e:a=.pv (tys []):=by simpa using ha.symm
   subst e
   exact Xb 4 false _ _ _ _ _ this
  ·have e1:∀ x:PV,Xf c.g++(zgy c.m++(tys c.ar::(zb0 c.x++[x])))=(Xf c.g++(zgy c.m++(tys c.ar::zb0 c.x)))++[x]:=fun x=>by simp
   rw [e1,List.map_append,List.getElem?_append_left (by simp;omega)] at ha
   refine h3 k a v ?_ hv
   rw [e1,List.map_append,List.getElem?_append_left (by simp;omega)];exact ha
theorem zsN {f:FuncId} {c:RC} {act:SM Unit} {l:List Ty} (hn:∀ p,act l=.ok p→p.2=[]) (h:∀ u,Xp Tryz.prog f [.box 0 0] (WJ u c l) (zs6 u c (act l))):XC f [] c act uV l:=fun u=>by
 have hu:=h u
 cases ho:act l with
 | error e=>rw [ho] at hu;exact hu
 | ok p =>
  rw [ho] at hu
  have hp:=hn p ho
  obtain ⟨⟨⟩,l'⟩:=p
  simp only at hp;subst hp
  exact ⟨hu.stands,fun g K ρ w vs hw1 hf hv=>(hu.calls g K ρ w vs hw1 hf hv).mono fun e w' ⟨v,K',ρ',e1,hf',hr⟩=>⟨v,K',ρ',e1,zgK hf' (zqV c),by
   cases hr with|pv _ _ hp=>exact .pv _ _ hp⟩⟩
def BdS {α:Type} (max:Int) (act:SM α):Prop:=∀ l a l',act l=.ok (a,l')→((l'.length:Int)≤max∨l'.length≤l.length)∧l'.length≤l.length + 1
theorem zed {α:Type} {max:Int} {act:SM α} (h:LeS act):BdS max act:=fun l a l' hx=>⟨.inr (h l a l' hx),by have:=h l a l' hx;omega⟩
theorem Qp {α β:Type} {max:Int} {x:SM α} {f:α→SM β} (hx:LeS x) (hf:∀ a,BdS max (f a)):BdS max (x >>= f):=fun l b l' h=>by
 rw [qx] at h
 cases hxl:x l with
 | error e=>rw [hxl] at h;cases h
 | ok p =>
  obtain ⟨a,l1⟩:=p
  rw [hxl] at h
  have h1:=hf a l1 b l' h
  have h2:=hx l a l1 hxl
  exact ⟨h1.1.imp (fun h=>h) (fun h=>by omega),by omega⟩
theorem zhX (max:Int) (t:Ty):BdS max (qK max [t]):=fun l a l' h=>by
 unfold qK at h
 split at h
 ·rename_i hm
  cases h
  simp at hm ⊢;omega
 ·cases h
theorem zuf (max:Int):BdS max (do let t ←QI;qK max [t,t]):=fun l a l' h=>by
 rcases zab l with e|⟨t,l1,e,e2⟩
 ·rw [zox e] at h;cases h
 ·rw [zuG e] at h
  unfold qK at h
  split at h
  ·rename_i hm
   cases h
   subst e2
   simp at hm ⊢;omega
  ·cases h
theorem zra:LeS zeT:=fun l a l' h=>by cases h;simp
theorem zoo:LeS Zp:=fun l a l' h=>zgn h
theorem one_le:LeS znp:=fun l a l' h=>ztG h
theorem ziV:LeS zdP:=fun l a l' h=>zoe h
theorem ztE (x:Ins) (ls:List Ty):LeS (zoL x ls):=fun l a l' h=>zrl h
theorem zjh (g:Img) (f:Fd) (it:Bool):LeS (zcQ g f it):=fun l a l' h=>zn3 h
theorem zrV (x:Ins):LeS (zj0 x):=fun l a l' h=>zp2 h
theorem znL (max:Int) (t:Ty):BdS max (zhK max t):=Qp (Wv _ _) fun _=>zhX _ _
theorem zqb (max:Int) (c:Me):BdS max (zev max c):=by
 unfold zev
 split
 ·exact zhX _ _
 ·exact zed (zbx _)
theorem zui {α:Type} {max:Int} {p:Prop} [Decidable p] {x y:SM α} (hx:BdS max x) (hy:BdS max y):BdS max (if p then x else y):=by split <;> assumption
theorem ztY (g:Img) (ar:List Ty) (m:Me) (x:Ins):BdS m.max (doS g ar m x):=by
 unfold doS zq5 zaZ zor zoy zkv zjH zjC zh7 zeQ QZ qZ
 try dsimp only
 repeat' (first|with_reducible exact zhX _ _|with_reducible exact zuf _|with_reducible exact zed (zbx _)|with_reducible exact zed (Wv _ _)|with_reducible exact zed (zjU _ _)|with_reducible exact zed (zma _ _)|with_reducible exact zed (zjh _ _ _)|with_reducible exact zed ziV|with_reducible exact zed zra|with_reducible exact znL _ _|with_reducible exact zqb _ _|with_reducible exact zed zaQ|with_reducible refine Qp (zbx _) fun _=>?_|with_reducible refine Qp (Wv _ _) fun _=>?_|with_reducible refine Qp (zaQ) fun _=>?_|with_reducible refine Qp (zjU _ _) fun _=>?_|with_reducible refine Qp (zma _ _) fun _=>?_|with_reducible refine Qp (zoo) fun _=>?_|with_reducible refine Qp (one_le) fun _=>?_|with_reducible refine Qp (ziV) fun _=>?_|with_reducible refine Qp (ztE _ _) fun _=>?_|with_reducible refine Qp (zjh _ _ _) fun _=>?_|with_reducible refine Qp (zrV _) fun _=>?_|with_reducible refine Qp (empty_le _) fun _=>?_|with_reducible refine zui ?_ ?_|split|dsimp only)
def yD (c:List Pt) (at_:Int):Nat:=(c.takeWhile fun x=>x.p==1&&x.f==at_).length
def zjM (x y:Pt):Bool:=x.c==y.c&&(x.p==y.p&&true)
def Yj:List Pt→List Pt→Bool
 | [],[]=>true
 | x::a,y::b=>zjM x y&&Yj a b
 | _,_=>false
def zb4 (b:List Pt) (to:Int) (a:List Pt):Bool:=(List.range (yD b to + 1)).any fun k=>Yj (b.drop k) a
def zam (l:List Cl) (i to:Int):Bool:=zb4 (yh l to) to (yh l i)
def zoF (l:List Cl) (r:Pt):Bool:=r.p==3||r.p==2&&(l.getD r.c.toNat default).kind != 1&&(l.getD r.c.toNat default).kind != 2
def YW (l:List Cl) (b:List Pt) (to:Int):List Pt→Bool
 | []=>zb4 b to []
 | r::a=>if zb4 b to (r::a) then true else if zoF l r then false else YW l b to a
def zbp (l:List Cl) (i to:Int):Bool:=YW l (yh l to) to (yh l i)
def QX (m:Me) (i:Int):Int:=if decide (1≤(zX m i).op)&&decide ((zX m i).op≤75) then (ofI (zX m i).op).2.2 else 0
def opV (m:Me) (i:Int):Int:=if decide (i < 0)||decide ((m.code.length:Int)≤i) then 0 else (zX m i).op
def Yy (w:Int):Bool:=w==0||w==2
def YC (w:Int):Bool:=w==1||(w==2||w==4)
def onV (m:Me) (i:Int):Int :=
 if Yy (QX m i)&&!decide (i + 1 < (m.code.length:Int)) then 11
 else if Yy (QX m i)&&!zam m.clauses i (i + 1) then 12
 else if !YC (QX m i) then 0
 else if QX m i==4 then (if zbp m.clauses i (zX m i).arg then 0 else 12)
 else if zam m.clauses i (zX m i).arg then 0 else 12
def clV (m:Me) (r:Pt):Cl:=m.clauses.getD r.c.toNat default
def ZN (m:Me) (r:Pt) (a b:Int):Bool:=r.p==2&&((clV m r).kind==a||(clV m r).kind==b)
def yM (m:Me) (i:Int):Int :=
 if opV m i==46 then (if (yh m.clauses i).isEmpty then 0 else 12)
 else if opV m i==70 then (match (yh m.clauses i).find? (fun r=>r.p != 1) with|none=>12|some r=>if ZN m r 1 2 then 0 else 12)
 else if opV m i==72 then (match yh m.clauses i with|[]=>12|r::_=>if ZN m r 3 4 then 0 else 12)
 else if opV m i==73 then (match yh m.clauses i with|[]=>12|r::_=>if r.p==3&&(clV m r).hf==i + 1 then 0 else 12)
 else 0
def qJ (g:Img) (m:Me) (i:Int):Me:=mAt g (zX m (i + 1)).arg
def tailV (g:Img) (m:Me) (i:Int):Int :=
 if opV m i != 47 then 0
 else if !((opV m (i + 1)==43||opV m (i + 1)==44)&&opV m (i + 2)==46&&(yh m.clauses i).isEmpty) then 11
 else if !tyB (qJ g m i).ret m.ret then 10
 else if (Xc g (qJ g m i)).any (fun t=>t.ref) then 13 else 0
def zas (m:Me) (i:Int):Int:=if opV m i==68&&opV m (i - 1) != 67 then 11 else 0
def Qu (g:Img) (m:Me) (i:Int):Int :=
 if onV m i != 0 then onV m i else if yM m i != 0 then yM m i else if tailV g m i != 0 then tailV g m i else zas m i
def zbL (m:Me):Bool:=!(yh m.clauses 0).any fun r=>r.p != 1||(clV m r).tf != 0
def Vm (g:Img) (m:Me):Int × Int :=
 match (List.range m.code.length).find? (fun i:Nat=>Qu g m i != 0) with
 | some i=>(((i:Nat):Int),Qu g m i)
 | none=>if zbL m then (0,0) else (0,12)
structure VS where
 st:List (List Ty)
 kn:List Bool
 wk:Int
def qM (i:Int) (l:List Ty) (s:VS):VS:=⟨s.st.set i.toNat l,s.kn.set i.toNat true,s.wk⟩
def zjz (s:VS) (c:Cl):VS :=
 if c.kind==1 then qM c.hf [c.t] s
 else if c.kind==2 then qM c.filter [⟨4,0,0,false⟩] (qM c.hf [⟨4,0,0,false⟩] s)
 else qM c.hf [] s
def zbw (m:Me):VS:=m.clauses.foldl zjz (qM 0 [] ⟨List.replicate m.code.length [],List.replicate m.code.length false,0⟩)
def zcP (m:Me) (i to:Int):Bool:=m.clauses.any fun c=>c.tf==to&&(decide (i < c.tf)||decide (c.tt≤i))
def zdx (s:VS) (i:Int):List Ty:=s.st.getD i.toNat []
def toV (g:Img) (m:Me) (i to:Int) (l:List Ty) (s:VS):Except Int VS :=
 if !(l.isEmpty||!zcP m i to) then .error 9
 else if decide (to≤i) then (if zq4 g l (zdx s to) then .ok { s with wk:=s.wk + (1 + l.length) } else .error 14)
 else if !s.kn.getD to.toNat false then .ok (qM to l { s with wk:=s.wk + (1 + l.length) })
 else if (zc4 g (zdx s to) l).2==0 then .ok { s with st:=s.st.set to.toNat (zc4 g (zdx s to) l).1,wk:=s.wk + (1 + l.length) }
 else .error (zc4 g (zdx s to) l).2
def zfZ (g:Img) (m:Me) (i:Int) (l:List Ty) (s:VS):Except Int VS :=
 match (if Yy (QX m i) then toV g m i (i + 1) l s else .ok s) with
 | .error e=>.error e
 | .ok s'=>if YC (QX m i) then toV g m i (zX m i).arg l s' else .ok s'
def zek (g:Img) (k:Int) (i:Int) (s:VS):Except Int VS :=
 match stepS g k i (zdx s i) with
 | .error e=>.error e
 | .ok p=>zfZ g (mAt g k) i p.2 { s with kn:=s.kn.set i.toNat true,wk:=s.wk + 1 }
def goV (g:Img) (k:Int):Nat→Nat→VS→Except (Int × Int) VS
 | 0,_,s=>.ok s
 | f + 1,i,s=>match zek g k i s with|.error e=>.error (((i:Nat):Int),e)|.ok s'=>goV g k f (i + 1) s'
def zc3 (g:Img) (k:Int):Except (Int × Int) VS :=
 if (Vm g (mAt g k)).2 != 0 then .error (Vm g (mAt g k)) else goV g k (mAt g k).code.length 0 (zbw (mAt g k))
structure OkV (n:Nat) (s:VS):Prop where
 len:s.st.length=n
 st:∀ l∈s.st,l.length≤12
theorem zgO {s:VS} {n:Nat} (h:OkV n s) (i:Int):(zdx s i).length≤12:=by
 unfold zdx
 rw [List.getD_eq_getElem?_getD]
 cases hs:s.st[i.toNat]? with
 | none=>simp
 | some l=>exact h.st l (List.mem_of_getElem? hs)
theorem zdA {n:Nat} {s:VS} (h:OkV n s) {l:List Ty} (hl:l.length≤12) (i:Nat) (kn:List Bool) (wk:Int):OkV n ⟨s.st.set i l,kn,wk⟩ :=
 ⟨by simp [h.len],fun x hx=>by
  rcases List.mem_or_eq_of_mem_set hx with hx|hx
  ·exact h.st x hx
  ·rw [hx];exact hl⟩
theorem ztr {n:Nat} {s:VS} (h:OkV n s) (c:Cl):OkV n (zjz s c):=by
 unfold zjz
 split
 ·exact zdA h (by simp) _ _ _
 ·split
  ·exact zdA (s:=qM c.hf [⟨4,0,0,false⟩] s) (zdA h (by simp) _ _ _) (by simp) _ _ _
  ·exact zdA h (by simp) _ _ _
theorem zmD {n:Nat}:∀ (l:List Cl) {s:VS},OkV n s→OkV n (l.foldl zjz s)
 | [],_,h=>h
 | c::l,_,h=>zmD l (ztr h c)
theorem zlt:∀ (l:List Cl) (s:VS),(l.foldl zjz s).wk=s.wk
 | [],_=>rfl
 | c::l,s=>by
  rw [List.foldl_cons,zlt l]
  unfold zjz
  split
  ·rfl
  ·split <;> rfl
theorem zsv (m:Me):OkV m.code.length (zbw m)∧(zbw m).wk=0 :=
 ⟨zmD _ (zdA ⟨by simp,fun l hl=>by rw [List.eq_of_mem_replicate hl];simp⟩ (by simp) _ _ _),by rw [zbw,zlt];rfl⟩
theorem zk0 (g:Img):∀ (a b out:List Ty),a.length=b.length→(zpG g a b out).2=0→(zpG g a b out).1.length=out.length + a.length
 | [],[],out,_,_=>by simp [zpG]
 | x::a,y::b,out,h,h2=>by
  rw [zpG] at h2 ⊢
  split at h2
  ·rename_i h3;simp at h3;exact absurd h2 h3
  ·rename_i h3
   rw [if_neg h3,zk0 g a b _ (by simpa using h) h2]
   simp;omega
 | [],_::_,_,h,_=>by simp at h
 | _::_,[],_,h,_=>by simp at h
theorem zmG {g:Img} {a b:List Ty} (h:(zc4 g a b).2=0):(zc4 g a b).1.length=a.length:=by
 unfold zc4 at h ⊢
 split
 ·rename_i h1;rw [if_pos h1] at h;simp at h
 ·rename_i h1
  rw [if_neg h1] at h
  rw [zk0 g a b [] (by simpa using h1) h];simp
theorem ztQ {g:Img} {m:Me} {i to:Int} {l:List Ty} {n:Nat} {s s':VS} (h:OkV n s) (hl:l.length≤12) (ht:toV g m i to l s=.ok s'):OkV n s'∧s'.wk=s.wk + (1 + l.length):=by
 unfold toV at ht
 split at ht
 ·cases ht
 ·split at ht
  ·split at ht
   ·cases ht;exact ⟨⟨h.len,h.st⟩,rfl⟩
   ·cases ht
  ·split at ht
   ·cases ht;exact ⟨zdA h hl _ _ _,rfl⟩
   ·split at ht
    ·rename_i he
     cases ht
     exact ⟨zdA h (by rw [zmG (by simpa using he)];exact zgO h to) _ _ _,rfl⟩
    ·cases ht
theorem zs8 {g:Img} {m:Me} {i:Int} {l:List Ty} {n:Nat} {s s':VS} (h:OkV n s) (hl:l.length≤12) (ht:zfZ g m i l s=.ok s'):OkV n s'∧s.wk≤s'.wk∧s'.wk≤s.wk + 26:=by
 unfold zfZ at ht
 split at ht
 ·cases ht
 ·rename_i s1 h1
  have k1:OkV n s1∧s.wk≤s1.wk∧s1.wk≤s.wk + 13:=by
   split at h1
   ·obtain ⟨a,b⟩:=ztQ h hl h1
    exact ⟨a,by omega,by omega⟩
   ·cases h1;exact ⟨h,by omega,by omega⟩
  split at ht
  ·obtain ⟨a,b⟩:=ztQ k1.1 hl ht
   exact ⟨a,by omega,by omega⟩
  ·cases ht;exact ⟨k1.1,by omega,by omega⟩
theorem zt0 {g:Img} {k i:Int} {n:Nat} {s s':VS} (hm:(mAt g k).max≤12) (h:OkV n s) (ht:zek g k i s=.ok s'):OkV n s'∧s.wk + 1≤s'.wk∧s'.wk≤s.wk + 27:=by
 unfold zek at ht
 split at ht
 ·cases ht
 ·rename_i p hp
  obtain ⟨⟨⟩,l2⟩:=p
  have hb:=(ztY g (Xc g (mAt g k)) (mAt g k) (zX (mAt g k) i) _ _ _ hp).1
  have hg:=zgO h i
  obtain ⟨a,b,c⟩:=zs8 (s:={ s with kn:=s.kn.set i.toNat true,wk:=s.wk + 1 }) ⟨h.len,h.st⟩ (show l2.length≤12 by rcases hb with hb|hb <;> omega) ht
  exact ⟨a,by simpa using b,by simp only at c;omega⟩
set_option maxHeartbeats 20000000 in
theorem zs9 (g:Img) (hF:Fm g) (m:Me) (ar:List Ty) (arg:Int) (t0:Ty) (l:List Ty) (hl:l.length≤100) (op:Int) (ho:op=13∨op=14∨op=15∨op=16∨op=17∨op=18∨op=19∨op=20∨op=25∨op=26∨op=27):XC 153 [] (⟨g,m,ar,⟨op,arg,t0⟩⟩:RC) (zaZ g m op) uV l:=by
 let c:RC:=⟨g,m,ar,⟨op,arg,t0⟩⟩
 rcases ho with rfl|rfl|rfl|rfl|rfl|rfl|rfl|rfl|rfl|rfl|rfl
 all_goals
  intro u;refine yO zh Tryz.func153 rfl (by kernel_rfl) Tryz.ntmps153 (by simp) _ rfl (fun gB hw1=>?_)
  cases hS1:(Zp) l with
  | error e =>
   have hw:(zaZ g m c.x.op) l=.error e:=by simp [zaZ,c,qx,ZT,hS1]
   repeat' (first|refine zD 12 2 rfl rfl rfl ?_|refine yw ((WJ u c l)) zy rfl rfl rfl tH ((zbP c _ (by omega)).bad hS1 u) ?_|refine sK ?_|refine sC (fun _=>?_) (fun _=>?_)|fail)
   exact Zn hw
  | ok p =>
   obtain ⟨t,l1⟩:=p
   have hl1:l1.length≤100:=by have:=zgn hS1;omega
   cases hS2:(qK m.max [t]) l1 with
   | error e =>
    have hw:(zaZ g m c.x.op) l=.error e:=by simp [zaZ,c,qx,ZT,hS1,hS2]
    repeat' (first|refine zD 12 4 rfl rfl rfl ?_|refine yw ((WJ u c l1)) zy rfl rfl rfl tH ((Vu c [t] _ (by omega) (by simp)).bad hS2 u) ?_|(refine zL ?_;first|(refine qc 0 zy rfl rfl ((zbP c _ (by omega)).ok hS1) rfl rfl rfl rfl rfl ?_))|refine sK ?_|refine sC (fun _=>?_) (fun _=>?_)|fail)
    exact Zn hw
   | ok p =>
    obtain ⟨⟨⟩,l2⟩:=p
    have hw:(zaZ g m c.x.op) l=.ok ((),l2):=by simp [zaZ,c,qx,ZT,hS1,hS2]
    repeat' (first|(refine zL ?_;first|(refine qc 0 zy rfl rfl ((zbP c _ (by omega)).ok hS1) rfl rfl rfl rfl rfl ?_)|(refine qc 0 zy rfl rfl ((Vu c [t] _ (by omega) (by simp)).ok hS2) rfl rfl rfl rfl rfl ?_))|refine sK ?_|refine sC (fun _=>?_) (fun _=>?_)|fail)
    exact Xq hw (zbO (.inl rfl) tH)
end Go.Cg
