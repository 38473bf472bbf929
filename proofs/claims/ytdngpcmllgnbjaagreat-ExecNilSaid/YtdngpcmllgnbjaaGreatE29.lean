/- A part of the walks by abstract values: no statement of its own. -/
import Derived.Test.YtdngpcmllgnbjaaGreatE26
import Derived.Test.YtdngpcmllgnbjaaGreatE28
import Derived.Test.YtdngpcmllgnbjaaGreatE18
import Derived.Test.YtdngpcmllgnbjaaGreatE12
import Derived.Test.YtdngpcmllgnbjaaGreatE14
import Derived.Test.YtdngpcmllgnbjaaGreatE15
import Derived.Test.YtdngpcmllgnbjaaGreatE17
set_option linter.unusedVariables false
set_option linter.unusedSimpArgs false
namespace Go.Cg
open Go.Proofs
theorem PInv.fold {g:Img} {t:Int}:∀ (l:List Int) {met:List Int},PInv g t met→(∀ x∈l,0≤x∧x < g.types.length)→PInv g t (l.foldl Yd met)
 | [],_,h,_=>h
 | f::l,_,h,hl=>PInv.fold l (h.add (hl f (by simp))) fun x hx=>hl x (by simp [hx])
theorem zf3 {g:Img} {t:Int}:∀ (n i:Nat) (met:List Int),PInv g t met→i≤met.length→g.fields.length + g.types.length + 1≤n + i →
  (∀ j (h:j < i) (h2:j < met.length),∀ y∈partsOf g met[j],y∈met) →
  (∀ x∈met,x∈zdh g n i met)∧(∀ u∈zdh g n i met,∀ y∈partsOf g u,y∈zdh g n i met)∧(∀ x∈zdh g n i met,Rch (partsOf g) met x)
 | 0,i,met,hm,hi,hn,hc=>by
  have:=hm.len;omega
 | n + 1,i,met,hm,hi,hn,hc=>by
  rw [zdh]
  by_cases hlt:i < met.length
  ·rw [List.getElem?_eq_getElem hlt]
   simp only [zlF]
   have hm2:=PInv.fold (partsOf g met[i]) hm (fun x hx=>Qe hx)
   obtain ⟨r,hr⟩:=zhk (partsOf g met[i]) met
   have hl:met.length≤((partsOf g met[i]).foldl Yd met).length:=by rw [hr];simp
   obtain ⟨q1,q2,q3⟩:=zf3 n (i + 1) ((partsOf g met[i]).foldl Yd met) hm2 (by omega) (by omega) (by
    intro j hj hj2 y hy
    rw [QJ]
    have hjm:j < met.length:=by omega
    have e:((partsOf g met[i]).foldl Yd met)[j]=met[j]:=by simp only [hr];rw [List.getElem_append_left hjm]
    rw [e] at hy
    by_cases hji:j=i
    ·subst hji;exact .inr hy
    ·exact .inl (hc j (by omega) hjm y hy))
   refine ⟨fun x hx=>q1 x (QJ.2 (.inl hx)),q2,fun x hx=>?_⟩
   have:=q3 x hx
   clear q1 q2 q3 hx
   induction this with
   | base x hx =>
    rcases QJ.1 hx with h|h
    ·exact .base x h
    ·exact .step _ x (.base _ (List.getElem_mem hlt)) h
   | step x y _ hy ih=>exact .step x y ih hy
  ·rw [List.getElem?_eq_none (by omega)]
   simp only
   refine ⟨fun x hx=>hx,fun u hu y hy=>?_,fun x hx=>.base x hx⟩
   obtain ⟨j,hj,rfl⟩:=List.getElem_of_mem hu
   exact hc j (by omega) hj y hy
theorem zl3 {g:Img} {t x:Int}:x∈zth g t↔Rch (partsOf g) (partsOf g t) x:=by
 obtain ⟨q1,q2,q3⟩:=zf3 (g:=g) (t:=t) (g.fields.length + g.types.length + 1) 0 (partsOf g t) ⟨[],by simp⟩ (by omega) (by omega) (fun j h=>by omega)
 refine ⟨fun hx=>q3 x hx,fun hx=>?_⟩
 induction hx with
 | base x hx=>exact q1 x hx
 | step x y _ hy ih=>exact q2 x ih y hy
theorem zhb {g:Img} {t x:Int}:x∈sortL (QA g.types.length (partsOf g) (partsOf g t))↔x∈zth g t:=by
 rw [zeU,zl3]
 exact (zbS (N:=g.types.length) (fun x _ _ y hy=>Qe hy) (fun x hx=>Qe hx)).1 x
theorem zs5:∀ n:Fin 32,qy (n.val:Int) 1=yP (n.val:Int) 1∧qy (n.val:Int) 4=yP (n.val:Int) 4∧qy (n.val:Int) 8=yP (n.val:Int) 8∧qy (n.val:Int) 16=yP (n.val:Int) 16:=by decide +kernel
theorem zpk {f:Int} (h0:0≤f) (h1:f≤31):qy f 1=yP f 1∧qy f 4=yP f 4∧qy f 8=yP f 8∧qy f 16=yP f 16:=by
 have:=zs5 ⟨f.toNat,by omega⟩
 simpa only [Int.toNat_of_nonneg h0] using this
theorem zn7 {td:TD} (h0:0≤td.flags) (h1:td.flags≤31):ZO td=ZN td:=by
 obtain ⟨e1,e2,e3,e4⟩:=zpk h0 h1
 rw [ZO,ZN,zhs h0 h1,e1,e2,e3,e4]
 generalize yP td.flags 1=b1
 generalize yP td.flags 4=b2
 generalize yP td.flags 8=b3
 generalize yP td.flags 16=b4
 generalize (td.ext == -1)=b5
 generalize ((td.faces.length:Int)==0)=b6
 repeat' split
 all_goals (try rfl)
 all_goals (cases b1 <;> cases b2 <;> cases b3 <;> cases b4 <;> cases b5 <;> cases b6 <;> rfl)
theorem WV {g:Img} (hf:zV g=true) {t:Int} {td:TD} (h:typeAt g t=some td):0≤td.flags∧td.flags≤31 ∧ -1≤td.ext∧td.ext < g.types.length∧td.faces.length≤4∧∀ f∈td.faces,0≤f∧f < g.types.length :=
 Qj ((zI hf).2.2.2 td (WZ h))
theorem zn5 {g:Img} (hf:zV g=true) (t:Int):0≤zbd g t∧zbd g t≤31:=by
 unfold zbd
 cases h:typeAt g t with
 | none=>simp
 | some td=>obtain ⟨h0,h1,_⟩:=WV hf h;exact ⟨h0,h1⟩
theorem zre {g:Img} (hf:zV g=true) (t:Int) : -1≤zai g t:=by
 unfold zai
 cases h:typeAt g ((up g t).getLastD 0) with
 | none=>simp
 | some td=>obtain ⟨_,_,h1,_⟩:=WV hf h;exact h1
theorem ztQ {g:Img} (hf:zV g=true) {t:Int} {td:TD} (h:typeAt g t=some td):zin g t td=zmR g t td:=by
 obtain ⟨_,_,h1,_⟩:=WV hf h
 obtain ⟨f0,f1⟩:=zn5 hf td.ext
 have ht:=zre hf t
 rw [zin,zmR,zcb hf,(zpk f0 f1).2.2.1]
 have e1:(td.ext == -1)=!decide (0≤td.ext):=by rw [Bool.eq_iff_iff];simp;omega
 have e2:(zai g t == -1)=decide (zai g t < 0):=by rw [Bool.eq_iff_iff];simp;omega
 rw [e1,e2]
def zfm (g:Img) (t:Int) (td:TD):Bool:=(List.range td.faces.length).all (zdO g td.faces)&&(zF g t != 2||!decide (t∈sortL (QA g.types.length (yw g) td.faces)))
theorem zuS {g:Img} {t:Int} {td:TD} (h:typeAt g t=some td) (he:td.ext = -1):up g t=[t]:=by
 have hx:typeAt g (-1)=none:=by rw [typeAt,if_neg (by omega)]
 rw [up,zaL,h]
 simp only [List.not_mem_nil,if_false,List.nil_append]
 cases hn:g.types.length with
 | zero=>rfl
 | succ n=>rw [zaL,he,hx]
theorem zeE {g:Img} {t:Int} {td:TD} (h:typeAt g t=some td):yw g t=td.faces:=by rw [yw,h]
theorem zqn {g:Img} {t:Int} {td:TD} (h:typeAt g t=some td) (hfl:ZN td=true) (hk:zF g t=2):td.ext = -1:=by
 rw [zF,h] at hk
 simp only at hk
 rw [ZN,hk] at hfl
 simp at hfl
 exact hfl.1.1.1.1
theorem zrv {g:Img} (hf:zV g=true) {t:Int} {td:TD} (h:typeAt g t=some td):(ZO td&&zin g t td&&zfm g t td)=(ZN td&&Vt g t td):=by
 obtain ⟨h0,h1,_⟩:=WV hf h
 rw [zn7 h0 h1,ztQ hf h,zfm,Vt]
 cases hfl:ZN td
 ·rfl
 ·have e:(zF g t != 2||!decide (t∈sortL (QA g.types.length (yw g) td.faces)))=(zF g t != 2||!decide (t∈zbf g t)):=by
   by_cases hk:zF g t=2
   ·have hx:=zqn h hfl hk
    have hF:=zeG hf
    have:t∈sortL (QA g.types.length (yw g) td.faces)↔t∈zbf g t:=by
     rw [zeU,zgZ hF,RF,zuS h hx]
     simp only [List.flatMap_cons,List.flatMap_nil,List.append_nil]
     rw [zeE h]
     exact (zbS (N:=g.types.length) (fun x _ _ y hy=>(hF.at x).2 y hy) (fun x hx=>by have:=(hF.at t).2 x;rw [zeE h] at this;exact this hx)).1 t
    rw [decide_eq_decide.2 this]
   ·have:(zF g t != 2)=true:=by simp [hk]
    rw [this];rfl
  rw [e];simp only [Bool.and_assoc,Bool.true_and]
def zbG (l:List Int) (p:Int→Int→Bool):Bool:=(List.range l.length).any fun i=>(l.take i).any (p (l.getD i 0))
theorem zlB {l:List Int} {p:Int→Int→Bool}:(!zbG l p)=(List.range l.length).all fun i=>(List.range i).all fun k=>!p (l.getD i 0) (l.getD k 0):=by
 rw [Bool.eq_iff_iff]
 simp only [zbG,Bool.not_eq_true',List.any_eq_false,List.all_eq_true,List.mem_range,Bool.not_eq_true]
 constructor
 ·intro h i hi k hk
  refine h i hi _ ?_
  rw [List.getD_eq_getElem?_getD,List.getElem?_eq_getElem (show k < l.length by omega)]
  exact List.mem_take_iff_getElem.2 ⟨k,by omega,rfl⟩
 ·intro h i hi x hx
  obtain ⟨k,hk,rfl⟩:=List.mem_take_iff_getElem.1 hx
  have:=h i hi k (by omega)
  rwa [zM (show k < l.length by omega)] at this
def zhF (g:Img) (a b:Int):Bool:=(fName g a).toList==(fName g b).toList
def mAt (g:Img) (a:Int):Me:=g.methods.getD a.toNat default
def WG (x y:Me):Bool:=x.name.toList==y.name.toList&&decide (x.ret=y.ret)&&IntKind.i64.wrap ((BitVec.ofInt IntKind.i64.bits (IntKind.i64.wrap ((BitVec.ofInt IntKind.i64.bits x.flags ^^^ BitVec.ofInt IntKind.i64.bits y.flags).toNat:Int)) &&& BitVec.ofInt IntKind.i64.bits 1).toNat:Int)==0&&decide (x.params=y.params)
def zfo (g:Img) (t:Int) (td:TD):Bool:=(List.range g.types.length).all (zcs g t td)&&!zbG (fieldsOf g t) (zhF g)&&!zbG (methodsOf g t) (fun a b=>WG (mAt g a) (mAt g b))
theorem zt5:∀ a b:Fin 32,(IntKind.i64.wrap ((BitVec.ofInt IntKind.i64.bits (IntKind.i64.wrap ((BitVec.ofInt IntKind.i64.bits (a.val:Int) ^^^ BitVec.ofInt IntKind.i64.bits (b.val:Int)).toNat:Int)) &&& BitVec.ofInt IntKind.i64.bits 1).toNat:Int)==0)=((a.val:Int).tmod 2==(b.val:Int).tmod 2):=by decide +kernel
theorem zqJ {x y:Me} (hx0:0≤x.flags) (hx1:x.flags≤31) (hy0:0≤y.flags) (hy1:y.flags≤31):WG x y=(x.name.toList==y.name.toList&&zcn x y):=by
 have:=zt5 ⟨x.flags.toNat,by omega⟩ ⟨y.flags.toNat,by omega⟩
 simp only [Int.toNat_of_nonneg hx0,Int.toNat_of_nonneg hy0] at this
 rw [WG,zcn,this]
 simp only [Bool.and_assoc]
theorem zcx {g:Img} (hf:zV g=true) {a:Nat} (h:a < g.methods.length):ZU g (g.methods.getD a default)=true:=by
 simp only [zV,Bool.and_eq_true,List.all_eq_true] at hf
 have:=hf.2 a (by simpa using h)
 rw [zgH] at this
 simp only [Bool.and_eq_true] at this
 exact this.2
theorem zad {g:Img} {m:Me} (h:ZU g m=true):0≤m.flags∧m.flags≤31:=by
 simp only [ZU,Bool.and_eq_true,decide_eq_true_eq] at h
 omega
theorem zrV {g:Img} (hf:zV g=true) (t:Int) (td:TD):zfo g t td=zjU g t td:=by
 rw [zfo,zjU,zlB,zlB]
 congr 1
 rw [Bool.eq_iff_iff]
 simp only [List.all_eq_true,List.mem_range,zgO]
 have key:∀ i,i < (methodsOf g t).length→∀ k,k < i→WG (mAt g ((methodsOf g t).getD i 0)) (mAt g ((methodsOf g t).getD k 0))=((g.methods.getD ((methodsOf g t).getD i 0).toNat default).name.toList==(g.methods.getD ((methodsOf g t).getD k 0).toNat default).name.toList&&zcn (g.methods.getD ((methodsOf g t).getD i 0).toNat default) (g.methods.getD ((methodsOf g t).getD k 0).toNat default)):=by
  intro i hi k hk
  have hk':k < (methodsOf g t).length:=by omega
  rw [zM hi,zM hk']
  obtain ⟨_,a1⟩:=qm (List.getElem_mem hi)
  obtain ⟨_,a2⟩:=qm (List.getElem_mem hk')
  obtain ⟨b1,b2⟩:=zad (zcx hf a1)
  obtain ⟨b3,b4⟩:=zad (zcx hf a2)
  exact zqJ b1 b2 b3 b4
 constructor
 ·intro h i hi k hk
  rw [←key i hi k hk];exact h i hi k hk
 ·intro h i hi k hk
  rw [key i hi k hk];exact h i hi k hk
def zfj (g:Img) (t:Int):Bool:=(fieldsOf g t).all (zjH g (zF g t))&&(zF g t != 1||!decide (t∈sortL (QA g.types.length (partsOf g) (partsOf g t))))
theorem zrC (g:Img) (t:Int):zfj g t=zdj g t:=by
 rw [zfj,zdj,decide_eq_decide.2 zhb]
theorem ztz {g:Img} (h:Yo g=true) {k:Nat} (hk:k < g.types.length):Ze g k=0:=by
 have hf:=ZP h
 cases hx:(List.range g.types.length).find? (fun t=>Ze g t != 0) with
 | none =>
  have:=List.find?_eq_none.1 hx k (by simpa using hk)
  simpa using this
 | some t =>
  have h2:=List.find?_some hx
  rw [Yo,Wq,hf] at h
  simp [hx] at h
  simp [h] at h2
theorem ziG {g:Img} (hf:zV g=true) {k:Nat} (hk:k < g.types.length) :
  Ze g k=if !(ZO g.types[k]&&zin g k g.types[k]&&zfm g k g.types[k]) then 7 else if !zfo g k g.types[k] then 18 else if !zfj g k then 20 else 0:=by
 rw [zdq hk,zrv hf (zdl hk),zrV hf,zrC]
 cases ZN g.types[k] <;> cases Vt g k g.types[k] <;> rfl
set_option maxHeartbeats 20000000
theorem qZ (g:Img) (hf:zV g=true) (t:Int):ACall Tryz.prog 126 [zx g,pi t] (pi (zF g t)):=by
 have:=za2 g t;rwa [zcb hf] at this
theorem QT (g:Img) (t:Int) (hg:g.fields.length≤1000):ACall Tryz.prog 363 [zx g,pi t] (ints (fieldsOf g t)):=by
 refine zf zh Tryz.func363 rfl (by kernel_rfl) Tryz.ntmps363 (by simp) _ rfl (fun hw gB hgB=>?_)
 repeat' (first|refine sA ?_|refine sC (fun _=>?_) (fun _=>?_)|fail)
 refine ZC (t:=5) 0 3 1 (by decide) rfl rfl ?_
 refine zB (fun x:Nat × List Int=>[(1,.pv (pi t)),(2,.pv (.ptr (zx g) 0)),(5,.own 0),(9,.pv (.slc 7 (g.fields.map ZI) false)),(10,.pv (pi g.fields.length)),(11,.pv (pi x.1))]) (fun x=>[(0,.row 3 1 (x.2.map pi))])
  (fun x=>x.1≤g.fields.length∧x.2.length≤x.1∧x.2++((nums g.fields.length).drop x.1).filter (fun i=>there g t&&(g.fields.getD i.toNat default).owner==t)=fieldsOf g t) (fun x=>g.fields.length - x.1) (0,[]) ⟨by simp,by simp,rfl⟩ (tS) ⟨zi rfl zk,rfl⟩ ?_
 rintro ⟨k,out⟩ ⟨hk,hol,hr⟩
 simp only at hk hol hr
 by_cases hlt:k < g.fields.length
 ·have he:=yc (f:=ZI) hlt
  rw [drop_cons (by simpa [nums] using hlt),List.filter_cons,zl9,Int.toNat_natCast,zM hlt] at hr
  have c1:=Yq g t
  cases hth:there g t
  ·rw [hth] at c1
   repeat' (first|(refine shC ?_;first|refine qC c1 ?_)|(refine shX ?_;first|refine qX he ?_)|refine sK ?_|refine sC (fun _=>?_) (fun _=>?_)|fail)
   exact ⟨(k + 1,out),⟨by simp;omega,by simp;omega,by simpa [hth] using hr⟩,tD,tS,⟨qw rfl rfl zk,rfl⟩⟩
  ·rw [hth] at c1
   repeat' (first|(refine shC ?_;first|refine qC c1 ?_)|(refine shX ?_;first|refine qX he ?_)|(refine zL ?_;first|refine zX zh rfl rfl rfl rfl rfl rfl rfl (by show _ * 8≤_;simp;omega) (by simp;omega) rfl rfl ?_)|refine sK ?_|refine sC (fun _=>?_) (fun _=>?_)|fail)
   ·rename_i hx
    rw [hth,hx] at hr
    exact ⟨(k + 1,out++[(k:Int)]),⟨by simp;omega,by simp;omega,by simpa [hth] using hr⟩,tD,tS,⟨qw rfl (by simp) zk,rfl⟩⟩
   ·rename_i hx
    rw [hth,hx] at hr
    exact ⟨(k + 1,out),⟨by simp;omega,by simp;omega,by simpa [hth] using hr⟩,tD,tS,⟨qw rfl rfl zk,rfl⟩⟩
 ·rw [drop_end (by simp [nums];omega)] at hr
  repeat' (first|refine sK ?_|refine sC (fun _=>?_) (fun _=>?_)|fail)
  exact retq rfl (by rw [←hr];simp [zn,ints])
theorem YD (g:Img) (t:Int) (hg:g.methods.length≤1000):ACall Tryz.prog 132 [zx g,pi t] (ints (methodsOf g t)):=by
 refine zf zh Tryz.func132 rfl (by kernel_rfl) Tryz.ntmps132 (by simp) _ rfl (fun hw gB hgB=>?_)
 repeat' (first|refine sA ?_|refine sC (fun _=>?_) (fun _=>?_)|fail)
 refine ZC (t:=5) 0 3 1 (by decide) rfl rfl ?_
 refine zB (fun x:Nat × List Int=>[(1,.pv (pi t)),(2,.pv (.ptr (zx g) 0)),(5,.own 0),(9,.pv (.slc 12 (g.methods.map zG) false)),(10,.pv (pi g.methods.length)),(11,.pv (pi x.1))]) (fun x=>[(0,.row 3 1 (x.2.map pi))])
  (fun x=>x.1≤g.methods.length∧x.2.length≤x.1∧x.2++((nums g.methods.length).drop x.1).filter (fun i=>there g t&&(g.methods.getD i.toNat default).owner==t)=methodsOf g t) (fun x=>g.methods.length - x.1) (0,[]) ⟨by simp,by simp,rfl⟩ (tS) ⟨zi rfl zk,rfl⟩ ?_
 rintro ⟨k,out⟩ ⟨hk,hol,hr⟩
 simp only at hk hol hr
 by_cases hlt:k < g.methods.length
 ·have he:=yc (f:=zG) hlt
  rw [drop_cons (by simpa [nums] using hlt),List.filter_cons,zl9,Int.toNat_natCast,zM hlt] at hr
  have c1:=Yq g t
  cases hth:there g t
  ·rw [hth] at c1
   repeat' (first|(refine shC ?_;first|refine qC c1 ?_)|(refine shX ?_;first|refine qX he ?_)|refine sK ?_|refine sC (fun _=>?_) (fun _=>?_)|fail)
   exact ⟨(k + 1,out),⟨by simp;omega,by simp;omega,by simpa [hth] using hr⟩,tD,tS,⟨qw rfl rfl zk,rfl⟩⟩
  ·rw [hth] at c1
   repeat' (first|(refine shC ?_;first|refine qC c1 ?_)|(refine shX ?_;first|refine qX he ?_)|(refine zL ?_;first|refine zX zh rfl rfl rfl rfl rfl rfl rfl (by show _ * 8≤_;simp;omega) (by simp;omega) rfl rfl ?_)|refine sK ?_|refine sC (fun _=>?_) (fun _=>?_)|fail)
   ·rename_i hx
    rw [hth,hx] at hr
    exact ⟨(k + 1,out++[(k:Int)]),⟨by simp;omega,by simp;omega,by simpa [hth] using hr⟩,tD,tS,⟨qw rfl (by simp) zk,rfl⟩⟩
   ·rename_i hx
    rw [hth,hx] at hr
    exact ⟨(k + 1,out),⟨by simp;omega,by simp;omega,by simpa [hth] using hr⟩,tD,tS,⟨qw rfl rfl zk,rfl⟩⟩
 ·rw [drop_end (by simp [nums];omega)] at hr
  repeat' (first|refine sK ?_|refine sC (fun _=>?_) (fun _=>?_)|fail)
  exact retq rfl (by rw [←hr];simp [zn,ints])
theorem zfH (g:Img) (t:Int) (hf:zV g=true):ACall Tryz.prog 420 [zx g,pi t] (ints (partsOf g t)):=by
 refine zf zh Tryz.func420 rfl (by kernel_rfl) Tryz.ntmps420 (by simp) _ rfl (fun hw gB hgB=>?_)
 have hg:g.fields.length≤1000:=by have:=(zI hf).2.1;omega
 have hfl:=WO g t
 repeat' (first|(refine shC ?_;first|refine qC (QT g t hg) ?_)|refine sA ?_|refine sC (fun _=>?_) (fun _=>?_)|fail)
 refine ZC (t:=5) 0 3 1 (by decide) rfl rfl ?_
 refine zB (fun x:Nat × List Int=>[(2,.pv (.ptr (zx g) 0)),(5,.own 0),(11,.pv (ints (fieldsOf g t))),(12,.pv (pi (fieldsOf g t).length)),(13,.pv (pi x.1))]) (fun x=>[(0,.row 3 1 (x.2.map pi))])
  (fun x=>x.1≤(fieldsOf g t).length∧x.2.length≤x.1∧x.2++(((fieldsOf g t).drop x.1).filter (zfx g)).map (fun i=>(g.fields.getD i.toNat default).ty.index)=partsOf g t) (fun x=>(fieldsOf g t).length - x.1) (0,[]) ⟨by simp,by simp,rfl⟩ (tS) ⟨zi rfl zk,rfl⟩ ?_
 rintro ⟨k,out⟩ ⟨hk,hol,hr⟩
 simp only at hk hol hr
 by_cases hlt:k < (fieldsOf g t).length
 ·have he:=YN hlt
  obtain ⟨h0,hi⟩:=Yy (List.getElem_mem hlt)
  have hef:=Yj (f:=ZI) hi
  rw [drop_cons hlt,List.filter_cons,zfx] at hr
  simp only [zM hi] at hr
  repeat' (first|(refine shC ?_;first|refine qC (qZ _ hf _) ?_)|(refine shX ?_;first|refine qX he ?_|refine zo rfl (zl zh rfl rfl rfl rfl rfl rfl h0 hef) rfl rfl ?_|refine AD.step _ _ _ _ _ rfl (zl zh rfl rfl rfl rfl rfl rfl h0 hef) rfl rfl ?_)|(refine zL ?_;first|refine zX zh rfl rfl rfl rfl rfl rfl rfl (by show _ * 8≤_;simp;omega) (by simp;omega) rfl rfl ?_)|refine sK ?_|refine sC (fun _=>?_) (fun _=>?_)|fail)
  ·rw [if_pos (by simp_all)] at hr
   exact ⟨(k + 1,out++[g.fields[(fieldsOf g t)[k].toNat].ty.index]),⟨by simp;omega,by simp;omega,by rw [List.map_cons,zM hi] at hr;simpa using hr⟩,tD,tS,⟨qw rfl (by simp) zk,rfl⟩⟩
  all_goals
   rw [if_neg (by simp_all)] at hr
   exact ⟨(k + 1,out),⟨by simp;omega,by simp;omega,by simpa using hr⟩,tD,tS,⟨qw rfl rfl zk,rfl⟩⟩
 ·rw [drop_end (by omega)] at hr
  repeat' (first|refine sK ?_|refine sC (fun _=>?_) (fun _=>?_)|fail)
  exact retq rfl (by rw [←hr];simp [zn,ints])
def SM (α:Type):Type:=List Ty→Except Int (α × List Ty)
def SM.ret {α:Type} (a:α):SM α:=fun l=>.ok (a,l)
def SM.bnd {α β:Type} (x:SM α) (f:α→SM β):SM β:=fun l=>match x l with|.error e=>.error e|.ok p=>f p.1 p.2
instance:Monad SM:={ pure:=SM.ret,bind:=SM.bnd }
theorem Qb {α:Type} (a:α) (l:List Ty):(pure a:SM α) l=.ok (a,l):=rfl
theorem Za {α β:Type} (x:SM α) (f:α→SM β) (l:List Ty):(x >>= f) l=match x l with|.error e=>.error e|.ok p=>f p.1 p.2:=rfl
theorem zol {α β:Type} {x:SM α} {f:α→SM β} {l:List Ty} {e:Int} (h:x l=.error e):(x >>= f) l=.error e:=by rw [Za,h]
theorem zvr {α β:Type} {x:SM α} {f:α→SM β} {l l':List Ty} {a:α} (h:x l=.ok (a,l')):(x >>= f) l=f a l':=by rw [Za,h]
def qN (b:Bool) (e:Int):SM Unit:=fun l=>if b then .ok ((),l) else .error e
def Qv:SM Ty:=fun l=>if l.length < 1 then .error 9 else .ok ((l.drop (l.length - 1)).headD default,l.take (l.length - 1))
def qG (most:Int) (ts:List Ty):SM Unit:=fun l=>if ((l.length:Int) + (ts.length:Int))≤most then .ok ((),l++ts) else .error 9
def zft:SM Unit:=fun _=>.ok ((),[])
def emptyS (e:Int):SM Unit:=fun l=>if l.length==0 then .ok ((),l) else .error e
def kTy (k:Int):Ty:=⟨k,0,0,false⟩
def rfT (t:Ty):Ty:=⟨t.kind,t.index,t.dims,true⟩
def nuT (t:Ty):Bool:=tyB t (kTy 2)||tyB t (kTy 3)
def QW (g:Img) (t:Ty):SM Unit:=do let x ←Qv;qN (zcM g x t) 10
def zam (g:Img) (ls:List Ty):SM Unit:=fun l =>
 if l.length < ls.length then .error 9 else if zte g (l.drop (l.length - ls.length)) ls then .ok ((),l.take (l.length - ls.length)) else .error 10
def Zj:SM Ty:=do let b ←Qv;let a ←Qv;qN (tyB a b&&nuT a) 10;pure a
def zoW:SM Ty:=do let t ←Qv;qN (nuT t) 10;pure t
def zd2:SM Unit:=do let b ←Qv;let a ←Qv;qN (tyB a b&&nuT a||object a&&object b) 10
def zpg (x:Ins) (ls:List Ty):SM Ty:=do qN (decide (x.arg < ls.length)) 3;pure (ls.getD x.arg.toNat default)
def zhd (most:Int) (t:Ty):SM Unit:=do qN (!t.ref) 13;qG most [rfT t]
def zax (g:Img) (c:Me):List Ty:=zpc (Vo (YH g c.owner) (qy c.flags 1) c.owner) c.params
def zeg (most:Int) (c:Me):SM Unit:=if c.ret.kind != 1 then qG most [c.ret] else pure ()
def fAt (g:Img) (a:Int):Fd:=g.fields.getD a.toNat default
def tAt (g:Img) (a:Int):TD:=g.types.getD a.toNat default
def zcH (g:Img) (f:Fd) (itself:Bool):SM Unit:=do
 let t ←Qv
 if YH g f.owner==1 then qN (tyB t (rfT ⟨6,f.owner,0,false⟩)||itself&&tyB t ⟨6,f.owner,0,false⟩) 10
 else qN (zcM g t ⟨5,f.owner,0,false⟩) 10
def zkz (x:Ins):SM Ty:=do qN (decide (x.t.dims + 1≤3)) 6;pure ⟨x.t.kind,x.t.index,x.t.dims + 1,x.t.ref⟩
def zuO (t:Ty):Bool:=nuT t||t.kind==6&&t.dims==0
def ztn (g:Img) (ar:List Ty) (m:Me) (x:Ins):SM Unit:=do
 let t ←zpg x (if x.op==2||x.op==3||x.op==4 then ar else m.locals)
 if x.op==2||x.op==5 then qG m.max [t] else if x.op==3||x.op==6 then QW g t else zhd m.max t
def zaN (g:Img) (m:Me) (op:Int):SM Unit :=
 if op==13||op==14||op==15||op==16||op==17||op==18||op==19||op==20||op==25||op==26||op==27 then do let t ←Zj;qG m.max [t]
 else if op==21||op==22 then do QW g (kTy 2);let t ←zoW;qG m.max [t]
 else if op==23||op==24 then do let t ←zoW;qG m.max [t]
 else if op==28||op==30 then do let _ ←zoW;qG m.max [kTy 2]
 else if op==29 then do let _ ←zoW;qG m.max [kTy 3]
 else if op==31 then do zd2;qG m.max [kTy 2]
 else if op==32||op==33 then do let _ ←Zj;qG m.max [kTy 2]
 else pure ()
def zow (op:Int):SM Unit :=
 if op==35||op==36 then do let t ←Qv;qN (nuT t||object t) 10
 else if op==37||op==42 then zd2
 else if op==38||op==39||op==40||op==41 then do let _ ←Zj;pure ()
 else pure ()
def zox (g:Img) (m:Me) (x:Ins):SM Unit :=
 let c:=mAt g x.arg
 if x.op==43 then do qN (!qy c.flags 4) 8;zam g (zax g c);zeg m.max c
 else if x.op==44 then do qN (!qy c.flags 1&&!qy c.flags 16&&YH g c.owner != 1) 8;zam g (zax g c);zeg m.max c
 else do qN (qy c.flags 16&&!qy (tAt g c.owner).flags 4) 8;zam g c.params;qG m.max [⟨5,c.owner,0,false⟩]
def zkl (g:Img) (m:Me) (x:Ins):SM Unit:=do
 let f:=fAt g x.arg
 qN (f.static==(x.op==51||x.op==52||x.op==53)) 8
 if x.op==48 then do zcH g f true;qG m.max [f.ty]
 else if x.op==49 then do QW g f.ty;zcH g f false
 else if x.op==50 then do zcH g f false;qG m.max [rfT f.ty]
 else if x.op==51 then qG m.max [f.ty]
 else if x.op==52 then QW g f.ty
 else qG m.max [rfT f.ty]
def zjW (g:Img) (m:Me) (x:Ins):SM Unit :=
 if x.op==55 then zam g [rfT x.t,x.t]
 else do let t ←Qv;qN (tyB t (rfT x.t)) 10;if x.op==54 then qG m.max [x.t] else pure ()
def zk0 (g:Img) (m:Me) (x:Ins):SM Unit :=
 if x.op==58 then do let t ←Qv;qN (object t&&(decide (0 < t.dims)||t.kind==8)) 10;qG m.max [kTy 2]
 else do
  let a ←zkz x
  if x.op==57 then do QW g (kTy 2);qG m.max [a]
  else if x.op==60 then zam g [a,kTy 2,x.t]
  else do zam g [a,kTy 2];if x.op==59 then qG m.max [x.t] else qG m.max [rfT x.t]
def zhI (g:Img) (m:Me) (x:Ins):SM Unit:=do
 qN ((x.op==65||x.op==66)&&object x.t||!(x.op==65||x.op==66)&&zuO x.t) 8
 if x.op==62 then do QW g x.t;qG m.max [kTy 4]
 else do let t ←Qv;qN (object t) 10;qG m.max [if x.op==63 then rfT x.t else x.t]
def sameAll:List Ty→List Ty→Bool
 | a::ar,b::bs=>tyB a b&&sameAll ar bs
 | _,_=>true
def ze3 (g:Img) (m:Me) (x:Ins):SM Unit:=do
 qN (x.t.kind==5&&x.t.dims==0&&YH g x.t.index==3) 8
 let d:=mAt g ((methodsOf g x.t.index).headD 0)
 let f ←Qv
 let o ←Qv
 qN (tyB f ⟨9,f.index,0,false⟩&&decide (0≤f.index)&&decide (f.index < g.methods.length)) 10
 let c:=mAt g f.index
 qN (tyB c.ret d.ret&&c.params.length==d.params.length) 10
 qN (sameAll c.params d.params) 10
 let this:=Vo (YH g c.owner) (qy c.flags 1) c.owner
 if this.2 then qN (!this.1.ref&&zcM g o this.1) 10 else qN (tyB o (kTy 8)) 10
 qG m.max [x.t]
def QH (g:Img) (m:Me) (op:Int):SM Unit:=do
 if op==46 then do (if m.ret.kind != 1 then QW g m.ret else pure ());emptyS 9
 else if op==69 then do let t ←Qv;qN (object t) 10
 else if op==73 then do QW g (kTy 2);emptyS 9
 else pure ()
 zft
def Xe (g:Img) (m:Me) (x:Ins):SM Unit :=
 if x.op==8 then qG m.max [kTy 2]
 else if x.op==9||x.op==74 then qG m.max [kTy 3]
 else if x.op==10 then qG m.max [kTy 8]
 else if x.op==11 then do let t ←Qv;qG m.max [t,t]
 else if x.op==12 then do let _ ←Qv;pure ()
 else if x.op==75 then QW g (kTy 3)
 else if x.op==67 then do qN (!qy (mAt g x.arg).flags 4&&!qy (mAt g x.arg).flags 16) 8;qG m.max [⟨9,x.arg,0,false⟩]
 else pure ()
def doS (g:Img) (ar:List Ty) (m:Me) (x:Ins):SM Unit :=
 if decide (2≤x.op)&&decide (x.op≤7) then ztn g ar m x
 else if decide (13≤x.op)&&decide (x.op≤33) then zaN g m x.op
 else if decide (34≤x.op)&&decide (x.op≤42) then zow x.op
 else if decide (43≤x.op)&&decide (x.op≤45) then zox g m x
 else if decide (48≤x.op)&&decide (x.op≤53) then zkl g m x
 else if decide (54≤x.op)&&decide (x.op≤56) then zjW g m x
 else if decide (57≤x.op)&&decide (x.op≤61) then zk0 g m x
 else if decide (62≤x.op)&&decide (x.op≤66) then zhI g m x
 else if x.op==68 then ze3 g m x
 else if x.op==46||decide (69≤x.op)&&decide (x.op≤73) then QH g m x.op
 else Xe g m x
def yO (m:Me) (a:Int):Ins:=m.code.getD a.toNat default
def stepS (g:Img) (mi at_:Int) (l:List Ty):Except Int (Unit × List Ty):=doS g (zax g (mAt g mi)) (mAt g mi) (yO (mAt g mi) at_) l
abbrev QD (g:Img):List PV:=[.slc 4 (g.types.map qU) false,.slc 7 (g.fields.map ZI) false,.slc 12 (g.methods.map zG) false,pi g.entry]
abbrev zgm (m:Me):List PV:=[ps m.name,pi m.owner,pi m.flags,tys m.params,pi m.ret.kind,pi m.ret.index,pi m.ret.dims,pb m.ret.ref,tys m.locals,pi m.max,.slc 6 (m.code.map yR) false,.slc 10 (m.clauses.map ZJ) false]
abbrev zbu (x:Ins):List PV:=[pi x.op,pi x.arg,pi x.t.kind,pi x.t.index,pi x.t.dims,pb x.t.ref]
abbrev zio (t:Ty):List PV:=[pi t.kind,pi t.index,pi t.dims,pb t.ref]
structure RC where
 g:Img
 m:Me
 ar:List Ty
 x:Ins
abbrev Xi (c:RC) (l:List Ty):HE:=.cell (.agg ((QD c.g++(zgm c.m++(tys c.ar::(zbu c.x++[tys l])))).map .pv))
abbrev Wn (c:RC):HE:=.cell (.agg ((QD c.g++(zgm c.m++(tys c.ar::zbu c.x))).map .pv++[.any1]))
abbrev zsj (u:Value):HEnv:=[(1000,.pin (.own 0) u)]
abbrev Vj (u:Value) (c:RC) (l:List Ty):HEnv:=(0,Xi c l)::zsj u
abbrev flt (e:Int):Value:=.iface 189 (.int .i64 e)
def ztG {α:Type} (u:Value) (c:RC) (val:α→AV):Except Int (α × List Ty)→Out
 | .error e=>.pan (flt e)
 | .ok p=>.ret (val p.1) (Vj u c p.2)
abbrev uV:Unit→AV:=fun _=>.pv (.tup [])
abbrev tV:Ty→AV:=fun t=>.pv (yK t)
def XC {α:Type} (f:FuncId) (args:List AV) (c:RC) (act:SM α) (val:α→AV) (l:List Ty):Prop:=∀ u,QU Tryz.prog f (.box 0 0::args) (Vj u c l) (ztG u c val (act l))
theorem XC.ok {α:Type} {f:FuncId} {args:List AV} {c:RC} {act:SM α} {val:α→AV} {l l':List Ty} {a:α} (h:XC f args c act val l) (e:act l=.ok (a,l')):∀ us,ACallM Tryz.prog f (.box 0 0::args) ([(0,Xi c l)]++zJ us [0]) (val a) ([(0,Xi c l')]++zJ us [0]):=fun us=>by
 have:=h (us 0)
 rw [e] at this;exact this
theorem XC.bad {α:Type} {f:FuncId} {args:List AV} {c:RC} {act:SM α} {val:α→AV} {l:List Ty} {e:Int} (h:XC f args c act val l) (he:act l=.error e) (u:Value):ACallPan Tryz.prog f (.box 0 0::args) (Vj u c l) (flt e):=by
 have:=h u
 rw [he] at this;exact this
set_option maxHeartbeats 20000000
theorem WE {α:Type} {tb:Tab} {rs:List ResultVar} {u:Value} {c:RC} {val:α→AV} {act:SM α} {l l':List Ty} {a:α} {ex:Exit} {env:Env} {H:HEnv} (h:act l=.ok (a,l')) (hr:ziz tb rs (val a) (Vj u c l') ex env H):zlH tb rs (ztG u c val (act l)) ex env H:=by
 rw [h];exact hr
theorem ZY {α:Type} {tb:Tab} {rs:List ResultVar} {u:Value} {c:RC} {val:α→AV} {act:SM α} {l:List Ty} {e:Int} {env:Env} {H:HEnv} (h:act l=.error e):zlH tb rs (ztG u c val (act l)) (.panic [{ v:=flt e,recovered:=false }]) env H:=by
 rw [h];rfl
theorem VR {b:Bool} (h:b=true) (e:Int):ACall Tryz.prog 279 [pb b,pi e] (.tup []):=by
 subst h
 refine zf zh Tryz.func279 rfl (by kernel_rfl) Tryz.ntmps279 (by simp) _ rfl (fun hw gB hgB=>?_)
 repeat' (first|refine sK ?_|refine sC (fun _=>?_) (fun _=>?_)|fail)
 exact zb0 rfl rfl
theorem VE {b:Bool} (h:b=false) (e:Int):ACallPan Tryz.prog 279 [.pv (pb b),.pv (pi e)] [] (flt e):=by
 subst h
 refine Vw Tryz.func279 rfl (by kernel_rfl) Tryz.ntmps279 (by simp) (fun gB hw1=>?_)
 repeat' (first|refine zD 1 2 rfl rfl rfl ?_|refine zo rfl (ziX rfl Tryz.underlying189 rfl) rfl rfl ?_|refine zjE rfl rfl rfl ?_|refine sK ?_|refine sC (fun _=>?_) (fun _=>?_)|fail)
 exact rfl
theorem zbm (k:Int):ACall Tryz.prog 275 [pi k] (yK (kTy k)):=by
 refine zf zh Tryz.func275 rfl (by kernel_rfl) Tryz.ntmps275 (by simp) _ rfl (fun hw gB hgB=>?_)
 repeat' (first|refine sK ?_|refine sC (fun _=>?_) (fun _=>?_)|fail)
 exact retq rfl rfl
theorem zqz (t:Ty):ACall Tryz.prog 280 [yK t] (pb (nuT t)):=by
 refine zf zh Tryz.func280 rfl (by kernel_rfl) Tryz.ntmps280 (by simp) _ rfl (fun hw gB hgB=>?_)
 repeat' (first|(refine shC ?_;first|refine qC (zbm 2) ?_|refine qC (zbm 3) ?_)|refine sA ?_|refine sC (fun _=>?_) (fun _=>?_)|fail)
 all_goals first|(exact retq rfl (by simp_all [zn,nuT,tyB,kTy]))|trace_state
theorem zcW {tb:Tab} {u:Value} {c:RC} {l:List Ty} {ex:Exit} {env:Env} {H:HEnv} (he:ex=.normal∨ex=.ret) (h:Ye H (Vj u c l) []):ziz tb [] (uV ()) (Vj u c l) ex env H:=⟨he,.inl ⟨[],rfl,rfl,h⟩⟩
theorem zsn {tb:Tab} {u:Value} {c:RC} {l:List Ty} {t:Ty} {rs:List ResultVar} {env:Env} {H:HEnv} (hr:Vy tb H env rs=some [yK t]) (h:Ye H (Vj u c l) []):ziz tb rs (tV t) (Vj u c l) .ret env H:=⟨.inr rfl,.inl ⟨_,hr,rfl,h⟩⟩
theorem zhA (c:RC) (l:List Ty) (hl:l.length≤1000):XC 278 [] c Qv tV l:=by
 intro u;refine yY zh Tryz.func278 rfl (by kernel_rfl) Tryz.ntmps278 (by simp) _ rfl (fun gB hw1=>?_)
 by_cases h:l.length < 1
 ·have hp:Qv l=.error 9:=by rw [Qv,if_pos h]
  repeat' (first|refine zD 2 3 rfl rfl rfl ?_|refine yJ ([]) zq rfl rfl rfl tH (VE rfl 9) ?_|(refine shC ?_;first|refine zo rfl (qJ rfl rfl (zgi l 1 (.inr (by omega)))) rfl rfl ?_|refine AD.step _ _ _ _ _ rfl (qJ rfl rfl (zgi l 1 (.inr (by omega)))) rfl rfl ?_)|refine sK ?_|refine sC (fun _=>?_) (fun _=>?_)|fail)
  exact ZY hp
 ·have hp:Qv l=.ok ((l.drop (l.length - 1)).headD default,l.take (l.length - 1)):=by rw [Qv,if_neg h]
  have hd:(l.drop (l.length - 1)).length=1:=by simp;omega
  obtain ⟨t,ht⟩:=List.length_eq_one_iff.1 hd
  rw [ht] at hp
  have cp:=zsX l 1 hl (by omega) (by omega)
  rw [show (1:Int).toNat=1 from rfl,ht] at cp
  repeat' (first|(refine shC ?_;first|refine qC cp ?_|refine qC (VR rfl 0) ?_)|(refine shX ?_;first|refine zo rfl (zl zh rfl rfl rfl rfl rfl rfl (by decide) rfl) rfl rfl ?_|refine AD.step _ _ _ _ _ rfl (zl zh rfl rfl rfl rfl rfl rfl (by decide) rfl) rfl rfl ?_)|refine sK ?_|refine sC (fun _=>?_) (fun _=>?_)|fail)
  exact WE hp (zsn rfl tH)
set_option maxHeartbeats 20000000
theorem Va (l:List Ty):Qv l=.error 9∨∃ t l',Qv l=.ok (t,l')∧l=l'++[t]:=by
 by_cases h:l.length < 1
 ·exact .inl (by rw [Qv,if_pos h])
 ·refine .inr ?_
  have hd:(l.drop (l.length - 1)).length=1:=by simp;omega
  obtain ⟨t,ht⟩:=List.length_eq_one_iff.1 hd
  refine ⟨t,l.take (l.length - 1),by rw [Qv,if_neg h,ht];rfl,?_⟩
  rw [←ht,List.take_append_drop]
theorem zly {l l':List Ty} {t:Ty} (h:Qv l=.ok (t,l')):l.length=l'.length + 1:=by
 rcases Va l with e|⟨t2,l2,e,e2⟩
 ·rw [e] at h;cases h
 ·rw [e] at h;cases h;rw [e2];simp
theorem zpm (sz:Nat) (es:List PV) (f:Bool):PTells (.slc sz es f) (.slc sz es false):=fun K w v h=>by
 cases h with
 | nil=>exact .nil sz false
 | emp _ _ a=>exact .emp sz false a
 | slc _ _ _ b o cap vss h0 h1 h2 h3 h4 h5 h6=>exact .slc sz es false b o cap vss h0 h1 (by simp) h3 h4 h5 h6
theorem ACall.tells {P:Program} {f:FuncId} {args args':List PV} {r:PV} (h:ACall P f args r) (ht:PTL args' args):ACall P f args' r :=
 ⟨h.stands,fun K w vs hl hv=>h.calls K w vs hl ⟨by rw [hv.1,ht.1],fun k c v hc hvv=>by
  have hlt:k < args'.length:=by rw [ht.1];exact (List.getElem?_eq_some_iff.1 hc).1
  exact ht.2 k _ c (List.getElem?_eq_getElem hlt) hc _ _ _ (hv.2 k _ v (List.getElem?_eq_getElem hlt) hvv)⟩⟩
abbrev tsV (ts:List Ty):AV:=.pv (.slc 4 (ts.map yK) true)
theorem zct (c:RC) (ts l:List Ty) (hl:l.length≤200) (ht:ts.length≤200):XC 271 [tsV ts] c (qG c.m.max ts) uV l:=by
 intro u;refine yY zh Tryz.func271 rfl (by kernel_rfl) Tryz.ntmps271 (by simp) _ rfl (fun gB hw1=>?_)
 have htl:PTL [tys l,pi c.m.max,.slc 4 (ts.map yK) true] [tys l,pi c.m.max,tys ts]:=zQ (.refl _) (zQ (.refl _) (zQ (zpm _ _ _) Xz))
 by_cases h:((l.length:Int) + (ts.length:Int))≤c.m.max
 ·have hp:qG c.m.max ts l=.ok ((),l++ts):=by rw [qG,if_pos h]
  have cp:=(zp5 l ts c.m.max hl ht h).tells htl
  repeat' (first|(refine shC ?_;first|refine qC cp ?_|refine qC (VR rfl 0) ?_)|refine sK ?_|refine sC (fun _=>?_) (fun _=>?_)|fail)
  exact WE hp (zcW (.inl rfl) tH)
 ·have hp:qG c.m.max ts l=.error 9:=by rw [qG,if_neg h]
  have cp:=(zkd l ts c.m.max hl ht (by omega)).tells htl
  repeat' (first|refine zD 1 3 rfl rfl rfl ?_|refine yJ ([]) zq rfl rfl rfl tH (VE rfl 9) ?_|(refine shC ?_;first|refine qC cp ?_)|refine sK ?_|refine sC (fun _=>?_) (fun _=>?_)|fail)
  exact ZY hp
theorem ztW {K:KK} {w:World} {sz:Nat} {es:List PV} {f:Bool} {v:Value} (h:PRel K w (.slc sz es f) v):v.cells=#[v]∧v.oneCell'=true:=by
 cases h <;> exact ⟨rfl,rfl⟩
theorem zlA (c:RC) (l:List Ty):Tells (.agg ((QD c.g++(zgm c.m++(tys c.ar::(zbu c.x++[tys l])))).map .pv)) (.agg ((QD c.g++(zgm c.m++(tys c.ar::zbu c.x))).map .pv++[.any1])):=fun K w ρ H v h=>by
 cases h with
 | agg _ vs h1 h2 h3 =>
  refine .agg _ vs (by simpa using h1) h2 fun k a v ha hv=>?_
  have hk:k < 24:=by have:=(List.getElem?_eq_some_iff.1 ha).1;simpa using this
  by_cases h23:k=23
  ·subst h23
   have:=h3 23 (.pv (tys l)) v rfl hv
   have e:a=.any1:=by simpa using ha.symm
   subst e
   cases this with
   | pv _ _ hp =>
    obtain ⟨q1,q2⟩:=ztW hp
    exact .any1 _ q1 q2
  ·have e:((QD c.g++(zgm c.m++(tys c.ar::(zbu c.x++[tys l])))).map AV.pv)[k]?=some a:=by
    rw [←ha,show QD c.g++(zgm c.m++(tys c.ar::(zbu c.x++[tys l])))=(QD c.g++(zgm c.m++(tys c.ar::zbu c.x)))++[tys l] by simp,List.map_append,List.getElem?_append_left (by simp;omega),List.getElem?_append_left (by simp;omega)]
   exact h3 k a v e hv
section
variable {P:Program} {n:Nat} {g:Base} {H:HEnv} {env:Env} {ops:List Oper}
theorem zbB {QQ:QC} {id:Nat} (L k jc:Nat) (R:HEnv) (c:RC) (l l':List Ty) {oc:Oper} {tc:Nat} (rc:AV) (pan:Option Value) (hL:ops.length=L) (hok:Qp ops k=true) (hm:P.follows .mixedOrders=true) (hB:Yc (zu k ops 0) ((zu k ops 0).take k)=true) (hT:Qd (zu k ops 0) k=true) (hk:Nat.ble k (zu k ops 0).length=true)
  (hsp:(zu k ops 0).take k=(zu k ops 0).take jc++oc::((zu k ops 0).take k).drop (jc + 1)) (hjl:Nat.ble jc (zu k ops 0).length=true) (hd:oc.dst=some tc) (htc:Nat.blt tc n=true)
  (hH:Ye H ((0,Xi c l)::R) env) (hke:YI ((0,Wn c)::R) env=true) (hkk:yQ ((0,Wn c)::R) ((0,Xi c l')::R)=true)
  (hp:∀ v,pan=some v→QQ (.panic [{ v:=v,recovered:=false }]) [] [])
  (h:AD P n g ((0,Wn c)::R) (zu k ops 0) (fun env1=>(guardE (zu k ops 0) env1 oc=some true∧EStep P g ((0,Xi c l)::R) ((0,Xi c l')::R) ((0,Wn c)::R) oc env1 rc pan)∧AD P n g ((0,Wn c)::R) (zu k ops 0) (fun env'=>pan=none→AOX P n g (zu k ops 0).toArray ((zu k ops 0).drop k) env' ((0,Xi c l')::R) QQ) (((zu k ops 0).take k).drop (jc + 1)) ((tc,rc)::env1)) ((zu k ops 0).take jc) env)
  (hnd:qo ops=true:=by kernel_rfl) (hr:Zh ((0,Wn c)::R) rc=true:=by rfl):AW P n g (.region id ops.toArray true) env H QQ :=
 XW L k jc ((0,Xi c l)::R) ((0,Xi c l')::R) ((0,Wn c)::R) rc pan hL hok hm hB hT hk hsp hjl hd htc (fun _ _ _ hf=>zgz hf (zlA c l)) (fun _ _ _ hf=>zgz hf (zlA c l')) hkk hH hke hr hp h hnd
end
theorem zl4 {α:Type} {g:Base} {f:FuncId} {args:List AV} {R:HEnv} {c:RC} {act:SM α} {val:α→AV} {l l':List Ty} {a:α} {o:Oper} {e:Env} {xs:Array Operand} {ts:Array TypeId} (h:XC f args c act val l) (he:act l=.ok (a,l'))
  (hop:o.op=.call { callee:=.value (.func f),args:=xs,argTypes:=ts }) (hargs:avs e xs.toList=some (.box 0 0::args)) (hk:yQ ((0,Wn c)::R) ((0,Xi c l)::R)=true) (hk2:yQ ((0,Wn c)::R) (R++Xk [0])=true) (hr:Zh ((0,Wn c)::R) (val a)=true) (hchk:Yv [(0,Xi c l)] [(0,Xi c l')] R [0] (.box 0 0::args) [] (val a)=true) :
  EStep Tryz.prog g ((0,Xi c l)::R) ((0,Xi c l')::R) ((0,Wn c)::R) o e (val a) none :=
 XU [(0,Xi c l)] [(0,Xi c l')] R [0] zq hop hargs (fun _ _ h=>h) hk hk2 hr hchk (h.ok he)
theorem zqT {α:Type} {g:Base} {f:FuncId} {args:List AV} {u:Value} {R:HEnv} {c:RC} {act:SM α} {val:α→AV} {l:List Ty} {H1:HEnv} {er:Int} {r:AV} {o:Oper} {e:Env} {xs:Array Operand} {ts:Array TypeId} (h:XC f args c act val l) (he:act l=.error er)
  (hop:o.op=.call { callee:=.value (.func f),args:=xs,argTypes:=ts }) (hargs:avs e xs.toList=some (.box 0 0::args)) (hfit:Ye ((0,Xi c l)::R) (Vj u c l) []) (hin:YB (Vj u c l) (.box 0 0::args)=true) :
  EStep Tryz.prog g ((0,Xi c l)::R) H1 ((0,Wn c)::R) o e r (some (flt er)) :=
 zqs (Vj u c l) zq hop hargs hfit hin (h.bad he u)
theorem zeS (c:RC) (hF:Fm c.g) (t:Ty) (l:List Ty) (hl:l.length≤200):XC 272 [tV t] c (QW c.g t) uV l:=by
 intro u;refine yY zh Tryz.func272 rfl (by kernel_rfl) Tryz.ntmps272 (by simp) _ rfl (fun gB hw1=>?_)
 have cp:=zhA c l (by omega)
 rcases Va l with hp|⟨x,l',hp,_⟩
 ·have hw:QW c.g t l=.error 9:=zol hp
  repeat' (first|refine zbB 9 8 5 (zsj u) c l l (tV t) (some (flt 9)) rfl (by kernel_rfl) (by kernel_rfl) (by kernel_rfl) (by kernel_rfl) (by kernel_rfl) rfl (by kernel_rfl) rfl rfl tH rfl rfl (fun v hv=>by cases hv;exact ZY hw) ?_|refine ⟨⟨rfl,zqT (u:=u) cp hp rfl rfl tH rfl⟩,?_⟩|refine zo rfl (zS (ps:=(QD c.g)) zh rfl rfl rfl rfl rfl) rfl rfl ?_|refine AD.step _ _ _ _ _ rfl (zS (ps:=(QD c.g)) zh rfl rfl rfl rfl rfl) rfl rfl ?_|(intro h;cases h)|(refine shC ?_;first|refine qC (zhM c.g t t hF) ?_)|refine sK ?_|refine sC (fun _=>?_) (fun _=>?_)|fail)
 ·have cf:=zhM c.g x t hF
  cases hf:zcM c.g x t
  ·have hw:QW c.g t l=.error 10:=by simp [QW,Za,hp,qN,hf]
   repeat' (first|refine zbB 9 8 5 (zsj u) c l l' (tV x) none rfl (by kernel_rfl) (by kernel_rfl) (by kernel_rfl) (by kernel_rfl) (by kernel_rfl) rfl (by kernel_rfl) rfl rfl tH rfl rfl (fun v hv=>by cases hv) ?_|refine ⟨⟨rfl,zl4 cp hp rfl rfl rfl rfl rfl rfl⟩,?_⟩|refine zo rfl (zS (ps:=(QD c.g)) zh rfl rfl rfl rfl rfl) rfl rfl ?_|refine AD.step _ _ _ _ _ rfl (zS (ps:=(QD c.g)) zh rfl rfl rfl rfl rfl) rfl rfl ?_|intro _|refine yJ [] zq rfl rfl rfl tH (VE hf 10) ?_|(refine shC ?_;first|refine qC cf ?_)|refine sK ?_|refine sC (fun _=>?_) (fun _=>?_)|fail)
   exact ZY hw
  ·have hw:QW c.g t l=.ok ((),l'):=by simp [QW,Za,hp,qN,hf]
   repeat' (first|refine zbB 9 8 5 (zsj u) c l l' (tV x) none rfl (by kernel_rfl) (by kernel_rfl) (by kernel_rfl) (by kernel_rfl) (by kernel_rfl) rfl (by kernel_rfl) rfl rfl tH rfl rfl (fun v hv=>by cases hv) ?_|refine ⟨⟨rfl,zl4 cp hp rfl rfl rfl rfl rfl rfl⟩,?_⟩|refine zo rfl (zS (ps:=(QD c.g)) zh rfl rfl rfl rfl rfl) rfl rfl ?_|refine AD.step _ _ _ _ _ rfl (zS (ps:=(QD c.g)) zh rfl rfl rfl rfl rfl) rfl rfl ?_|intro _|refine YE ?_|(refine shC ?_;first|refine qC cf ?_|refine qC (VR hf 10) ?_)|refine sK ?_|refine sC (fun _=>?_) (fun _=>?_)|fail)
   exact WE hw (zcW (.inl rfl) tH)
set_option maxHeartbeats 1000000 in
theorem zaW (c:RC) (l:List Ty) (hl:l.length≤1000):XC 274 [] c Zj tV l:=by
 intro u;refine yY zh Tryz.func274 rfl (by kernel_rfl) Tryz.ntmps274 (by simp) _ rfl (fun gB hw1=>?_)
 have c1:=zhA c l hl
 rcases Va l with hp|⟨b,l1,hp,e1⟩
 ·have hw:Zj l=.error 9:=zol hp
  repeat' (first|refine zD 1 1 rfl rfl rfl ?_|refine yJ ((Vj u c l)) zq rfl rfl rfl tH (c1.bad hp u) ?_|refine sK ?_|refine sC (fun _=>?_) (fun _=>?_)|fail)
  exact ZY hw
 ·have hl1:l1.length≤1000:=by have:=zly hp;omega
  have c2:=zhA c l1 hl1
  rcases Va l1 with hp2|⟨a,l2,hp2,e2⟩
  ·have hw:Zj l=.error 9:=by simp [Zj,Za,hp,hp2]
   repeat' (first|refine zD 1 3 rfl rfl rfl ?_|refine yJ ((Vj u c l1)) zq rfl rfl rfl tH (c2.bad hp2 u) ?_|(refine zy ?_;first|(refine qF 0 zq rfl rfl (c1.ok hp) rfl rfl rfl rfl rfl ?_))|refine sK ?_|refine sC (fun _=>?_) (fun _=>?_)|fail)
   exact ZY hw
  ·have cn:=zqz a
   cases hab:tyB a b
   ·have hab':(a.kind==b.kind&&(a.index==b.index&&(a.dims==b.dims&&(a.ref==b.ref&&true))))=false:=hab
    have hw:Zj l=.error 10:=by simp [Zj,Za,hp,hp2,qN,hab]
    repeat' (first|refine zD 2 7 rfl rfl rfl ?_|refine yJ ([]) zq rfl rfl rfl tH (VE rfl 10) ?_|(refine zy ?_;first|(refine qF 0 zq rfl rfl (c1.ok hp) rfl rfl rfl rfl rfl ?_)|(refine qF 0 zq rfl rfl (c2.ok hp2) rfl rfl rfl rfl rfl ?_))|refine sK ?_|refine sC (fun _=>?_) (fun _=>?_)|fail)
    exact ZY hw
   ·have hab':(a.kind==b.kind&&(a.index==b.index&&(a.dims==b.dims&&(a.ref==b.ref&&true))))=true:=hab
    cases hn:nuT a
    ·rw [hn] at cn
     have hw:Zj l=.error 10:=by simp [Zj,Za,hp,hp2,qN,hab,hn]
     repeat' (first|refine zD 2 7 rfl rfl rfl ?_|refine yJ ([]) zq rfl rfl rfl tH (VE rfl 10) ?_|(refine shC ?_;first|refine qC cn ?_)|(refine zy ?_;first|(refine qF 0 zq rfl rfl (c1.ok hp) rfl rfl rfl rfl rfl ?_)|(refine qF 0 zq rfl rfl (c2.ok hp2) rfl rfl rfl rfl rfl ?_))|refine sK ?_|refine sC (fun _=>?_) (fun _=>?_)|fail)
     exact ZY hw
    ·rw [hn] at cn
     have hw:Zj l=.ok (a,l2):=by simp [Zj,Za,Qb,hp,hp2,qN,hab,hn]
     repeat' (first|(refine shC ?_;first|refine qC cn ?_|refine qC (VR rfl 10) ?_)|(refine zy ?_;first|(refine qF 0 zq rfl rfl (c1.ok hp) rfl rfl rfl rfl rfl ?_)|(refine qF 0 zq rfl rfl (c2.ok hp2) rfl rfl rfl rfl rfl ?_))|refine sK ?_|refine sC (fun _=>?_) (fun _=>?_)|fail)
     exact WE hw (zsn rfl tH)
set_option maxHeartbeats 20000000
theorem zmi (p:Int→Int→Bool) (f:FuncId) (first cap:List PV) (a b:Int) (hp:ACall Tryz.prog f (first++[pi a,pi b]++cap) (pb (p a b))):ACall Tryz.prog 441 [pi b,.ptr (.fn (.func f) first cap) 0,.ptr (pi a) 0] (pb (p a b)):=by
 refine zf zh Tryz.func441 rfl (by kernel_rfl) Tryz.ntmps441 (by simp) _ rfl (fun hw gB hgB=>?_)
 repeat' (first|(refine shC ?_;first|refine qV (hp) ?_)|refine sA ?_|refine sC (fun _=>?_) (fun _=>?_)|fail)
 exact retq rfl rfl
theorem zht (l:List Int) (p:Int→Int→Bool) (f:FuncId) (first cap:List PV) (hp:∀ a∈l,∀ b∈l,ACall Tryz.prog f (first++[pi a,pi b]++cap) (pb (p a b))):ACall Tryz.prog 417 [ints l,.fn (.func f) first cap] (pb (zbG l p)):=by
 refine zf zh Tryz.func417 rfl (by kernel_rfl) Tryz.ntmps417 (by simp) _ rfl (fun hw gB hgB=>?_)
 have hl:=zhv hw.1
 repeat' (first|refine sA ?_|refine sC (fun _=>?_) (fun _=>?_)|fail)
 refine zB (fun k:Nat=>[(0,.pv (ints l)),(3,.pv (.ptr (.fn (.func f) first cap) 0)),(7,.pv (ints l)),(8,.pv (pi l.length)),(9,.pv (pi k))]) (fun _=>[]) (fun k=>k≤l.length∧zbG l p=((List.range l.length).drop k).any fun i=>(l.take i).any (p (l.getD i 0))) (fun k=>l.length - k) 0 ⟨by omega,rfl⟩ (tS) tH ?_
 rintro k ⟨hk,hr⟩
 by_cases hlt:k < l.length
 ·have he:=YN hlt
  have c1:=Qz (l.take k) (p l[k]) 441 [] [.ptr (.fn (.func f) first cap) 0,.ptr (pi l[k]) 0] (fun x hx=>zmi p f first cap l[k] x (hp _ (List.getElem_mem hlt) x (List.mem_of_mem_take hx)))
  rw [zg3 hlt,zM hlt] at hr
  repeat' (first|refine zau (t:=6) rfl rfl rfl ?_|refine zo rfl (qY (xs:=l) (f:=pi) 0 k zh rfl rfl rfl rfl rfl rfl rfl (by omega) (by omega)) rfl rfl ?_|(refine shC ?_;first|refine qC c1 ?_)|(refine shX ?_;first|refine qX he ?_)|refine sK ?_|refine sC (fun _=>?_) (fun _=>?_)|fail)
  all_goals first|(refine retq rfl ?_;first|(simp only [zn,BL,List.length_map] at *;simp only [*,BL,List.length_map];done)|(simp_all [zn];done)|(simp_all [zn];omega)|(simp_all [zn];intros;omega))|(refine ⟨k + 1,⟨by omega,?_⟩,tD,tS,tH⟩;first|(simp only [BL,List.length_map] at *;simp only [*,BL,List.length_map];done)|(simp_all [];done)|(simp_all [];omega)|(simp_all [];intros;omega))|(trace "LEND";trace_state)
 ·rw [drop_end (by simp;omega)] at hr
  repeat' (first|refine sK ?_|refine sC (fun _=>?_) (fun _=>?_)|fail)
  all_goals first|(refine retq rfl ?_;first|(simp only [zn,BL,List.length_map] at *;simp only [*,BL,List.length_map];done)|(simp_all [zn];done)|(simp_all [zn];omega)|(simp_all [zn];intros;omega))|(refine zb0 rfl ?_;first|(simp only [zn,BL,List.length_map] at *;simp only [*,BL,List.length_map];done)|(simp_all [zn];done)|(simp_all [zn];omega)|(simp_all [zn];intros;omega))|skip
theorem zlX (g:Img) (a b:Int) (ha0:0≤a) (ha:a.toNat < g.fields.length) (hb0:0≤b) (hb:b.toNat < g.fields.length):ACall Tryz.prog 418 [pi a,pi b,.ptr (zx g) 0] (pb (zhF g a b)):=by
 refine zf zh Tryz.func418 rfl (by kernel_rfl) Tryz.ntmps418 (by simp) _ rfl (fun hw gB hgB=>?_)
 have hea:=Yj (f:=ZI) ha
 have heb:=Yj (f:=ZI) hb
 repeat' (first|(refine shX ?_;first|refine zo rfl (zl zh rfl rfl rfl rfl rfl rfl ha0 hea) rfl rfl ?_|refine AD.step _ _ _ _ _ rfl (zl zh rfl rfl rfl rfl rfl rfl ha0 hea) rfl rfl ?_|refine zo rfl (zl zh rfl rfl rfl rfl rfl rfl hb0 heb) rfl rfl ?_|refine AD.step _ _ _ _ _ rfl (zl zh rfl rfl rfl rfl rfl rfl hb0 heb) rfl rfl ?_)|refine sA ?_|refine sC (fun _=>?_) (fun _=>?_)|fail)
 exact retq rfl (by simp only [zn,zhF,fName,zM ha,zM hb])
theorem zd3 (a b:List Ty):ACall Tryz.prog 207 [tys a,tys b] (pb (decide (a=b))):=by
 refine zf zh Tryz.func207 rfl (by kernel_rfl) Tryz.ntmps207 (by simp) _ rfl (fun hw gB hgB=>?_)
 have hl:=zkV hw.1
 by_cases hlen:a.length=b.length
 ·repeat' (first|refine sK ?_|refine sC (fun _=>?_) (fun _=>?_)|fail)
  refine zB (fun k:Nat=>[(0,.pv (tys a)),(1,.pv (tys b)),(11,.pv (tys a)),(12,.pv (pi a.length)),(13,.pv (pi k))]) (fun _=>[]) (fun k=>k≤a.length∧a.take k=b.take k) (fun k=>a.length - k) 0 ⟨by simp,by simp⟩ (tS) tH ?_
  rintro k ⟨hk,hno⟩
  by_cases hlt:k < a.length
  ·have he:=zpd hlt
   have hltb:k < b.length:=by omega
   have he':=zpd hltb
   repeat' (first|(refine shX ?_;first|refine qX he ?_|refine qX he' ?_)|refine sK ?_|refine sC (fun _=>?_) (fun _=>?_)|fail)
   ·rename_i h
    refine retq rfl ?_
    have:a≠b:=by
     rintro rfl
     simp at h
    simp [zn,this]
   ·rename_i h
    have e:a[k]=b[k]:=by
     simp only [Bool.not_eq_false'] at h
     rw [Vl] at h
     simpa using h
    exact ⟨k + 1,⟨by omega,zk6 hlt hltb hno e⟩,tD,tS,tH⟩
  ·repeat' (first|refine sK ?_|refine sC (fun _=>?_) (fun _=>?_)|fail)
   refine retq rfl ?_
   rw [List.take_of_length_le (by omega),List.take_of_length_le (by omega)] at hno
   simp [zn,hno]
 ·have hne:a≠b:=by rintro rfl;exact hlen rfl
  have hb:((((a.map yK).length:Nat):Int) != (((b.map yK).length:Nat):Int))=true:=by simp;omega
  repeat' (first|refine sK ?_|refine sC (fun _=>?_) (fun _=>?_)|fail)
  exact retq rfl (by simp [zn,hne])
abbrev zMe:AV:=.pv (.agg [.base (.string ByteArray.empty),pi 0,pi 0,.base (.slice none 0 0),pi 0,pi 0,pi 0,pb false,.base (.slice none 0 0),pi 0,.base (.slice none 0 0),.base (.slice none 0 0)])
theorem zmJ (g:Img) (a b:Int) (ha0:0≤a) (ha:a.toNat < g.methods.length) (hb0:0≤b) (hb:b.toNat < g.methods.length):ACall Tryz.prog 419 [pi a,pi b,.ptr (zx g) 0] (pb (WG (mAt g a) (mAt g b))):=by
 refine zf zh Tryz.func419 rfl (by kernel_rfl) Tryz.ntmps419 (by simp) _ rfl (fun hw gB hgB=>?_)
 have hea:=Yj (f:=zG) ha
 have heb:=Yj (f:=zG) hb
 rw [mAt,mAt,zM ha,zM hb]
 generalize g.methods[a.toNat]=x at hea ⊢
 generalize g.methods[b.toNat]=y at heb ⊢
 have hty:=Vl x.ret y.ret
 have c1:=zd3 x.params y.params
 repeat' (first|refine zgY rfl ?_|refine sA ?_|fail)
 refine zfk 10 11 [0,1,2,3,4,5,6,7,8,9,10,11,12,13] [0,1,2,3,4,5,6,7,8,9,10,11,12,13] [0,1,2,3,4,5,6,7,8,9,11,10,12,13] [0,1,2,3,4,5,6,7,8,9,11,10,12,13] rfl (by kernel_rfl) (by kernel_rfl) (zhw (by kernel_rfl) ?_) (zhw (by kernel_rfl) ?_)
 ·refine zab 14 14 [10,11,12,13] [] (mkL [[],[(0,.cell zMe)],[(1,.cell zMe),(0,.cell zMe)],[(0,.cell (.pv (zG x))),(1,.cell zMe),(0,.cell zMe)],[(1,.cell (.pv (zG y))),(0,.cell (.pv (zG x))),(1,.cell zMe),(0,.cell zMe)]]) (mkL [[],[(0,.cell zMe)],[(1,.cell zMe),(0,.cell zMe)],[(0,.cell (.pv (zG x))),(1,.cell zMe),(0,.cell zMe)],[(1,.cell (.pv (zG y))),(0,.cell (.pv (zG x))),(1,.cell zMe),(0,.cell zMe)]]) [] none rfl (by kernel_rfl) (by kernel_rfl) (by kernel_rfl) (by kernel_rfl) (by kernel_rfl) (by kernel_rfl) (fun p hp=>by simp at hp) rfl (XO rfl ⟨tH,tH,tH,tH,tH,trivial⟩) rfl (Zt rfl rfl) (fun q h=>Zt rfl rfl q 4 h (Nat.le_refl 4)) tH rfl (fun v hv=>by cases hv) ?_
  repeat' (first|refine qR 10 [0,1,2] (.box 0 0) rfl rfl rfl rfl rfl ?_|refine qR 0 [0,1] (.box 1 0) rfl rfl rfl rfl rfl ?_|refine Yk [0] (.pv (.tup [])) rfl rfl rfl ?_|refine Yk [] (.pv (.tup [])) rfl rfl rfl ?_|refine ⟨⟨rfl,Xa zh 0 rfl rfl rfl rfl,.inr (by kernel_rfl)⟩,?_⟩|refine ⟨⟨rfl,Xa zh 1 rfl rfl rfl rfl,.inr (by kernel_rfl)⟩,?_⟩|refine ⟨⟨rfl,zbb zh rfl rfl rfl rfl rfl rfl rfl,.inl rfl⟩,?_⟩|refine ZG ?_|intro _|refine YE ?_|(refine shC ?_;first|refine qC c1 ?_)|(refine shX ?_;first|refine zo rfl (zl zh rfl rfl rfl rfl rfl rfl ha0 hea) rfl rfl ?_|refine AD.step _ _ _ _ _ rfl (zl zh rfl rfl rfl rfl rfl rfl ha0 hea) rfl rfl ?_|refine zo rfl (zl zh rfl rfl rfl rfl rfl rfl hb0 heb) rfl rfl ?_|refine AD.step _ _ _ _ _ rfl (zl zh rfl rfl rfl rfl rfl rfl hb0 heb) rfl rfl ?_)|refine sK ?_|refine sC (fun _=>?_) (fun _=>?_)|fail)
  all_goals refine retq rfl ?_
  all_goals (simp only [zn,WG,←hty];clear hty;simp_all)
 ·refine zab 14 14 [10,11,12,13] [] (mkL [[],[(1,.cell zMe)],[(0,.cell zMe),(1,.cell zMe)],[(0,.cell (.pv (zG x))),(0,.cell zMe),(1,.cell zMe)],[(1,.cell (.pv (zG y))),(0,.cell (.pv (zG x))),(0,.cell zMe),(1,.cell zMe)]]) (mkL [[],[(1,.cell zMe)],[(0,.cell zMe),(1,.cell zMe)],[(0,.cell (.pv (zG x))),(0,.cell zMe),(1,.cell zMe)],[(1,.cell (.pv (zG y))),(0,.cell (.pv (zG x))),(0,.cell zMe),(1,.cell zMe)]]) [] none rfl (by kernel_rfl) (by kernel_rfl) (by kernel_rfl) (by kernel_rfl) (by kernel_rfl) (by kernel_rfl) (fun p hp=>by simp at hp) rfl (XO rfl ⟨tH,tH,tH,tH,tH,trivial⟩) rfl (Zt rfl rfl) (fun q h=>Zt rfl rfl q 4 h (Nat.le_refl 4)) tH rfl (fun v hv=>by cases hv) ?_
  repeat' (first|refine qR 10 [0,1,2] (.box 1 0) rfl rfl rfl rfl rfl ?_|refine qR 0 [0,1] (.box 0 0) rfl rfl rfl rfl rfl ?_|refine Yk [0] (.pv (.tup [])) rfl rfl rfl ?_|refine Yk [] (.pv (.tup [])) rfl rfl rfl ?_|refine ⟨⟨rfl,Xa zh 1 rfl rfl rfl rfl,.inr (by kernel_rfl)⟩,?_⟩|refine ⟨⟨rfl,Xa zh 0 rfl rfl rfl rfl,.inr (by kernel_rfl)⟩,?_⟩|refine ⟨⟨rfl,zbb zh rfl rfl rfl rfl rfl rfl rfl,.inl rfl⟩,?_⟩|refine ZG ?_|intro _|refine YE ?_|(refine shC ?_;first|refine qC c1 ?_)|(refine shX ?_;first|refine zo rfl (zl zh rfl rfl rfl rfl rfl rfl ha0 hea) rfl rfl ?_|refine AD.step _ _ _ _ _ rfl (zl zh rfl rfl rfl rfl rfl rfl ha0 hea) rfl rfl ?_|refine zo rfl (zl zh rfl rfl rfl rfl rfl rfl hb0 heb) rfl rfl ?_|refine AD.step _ _ _ _ _ rfl (zl zh rfl rfl rfl rfl rfl rfl hb0 heb) rfl rfl ?_)|refine sK ?_|refine sC (fun _=>?_) (fun _=>?_)|fail)
  all_goals refine retq rfl ?_
  all_goals (simp only [zn,WG,←hty];clear hty;simp_all)
theorem zlC (g:Img) (t:Int) (td:TD) (htd:typeAt g t=some td) (hg:g.types.length≤1000) (hgf:g.fields.length≤1000) (hgm:g.methods.length≤1000):ACall Tryz.prog 402 [zx g,pi t] (pb (zfo g t td)):=by
 refine zf zh Tryz.func402 rfl (by kernel_rfl) Tryz.ntmps402 (by simp) _ rfl (fun hw gB hgB=>?_)
 obtain ⟨h0,heT⟩:=Yu htd
 have cf:=zht (fieldsOf g t) (zhF g) 418 [] [.ptr (zx g) 0] (fun a ha b hb=>zlX g a b (Yy ha).1 (Yy ha).2 (Yy hb).1 (Yy hb).2)
 have cm:=zht (methodsOf g t) (fun a b=>WG (mAt g a) (mAt g b)) 419 [] [.ptr (zx g) 0] (fun a ha b hb=>zmJ g a b (qm ha).1 (qm ha).2 (qm hb).1 (qm hb).2)
 repeat' (first|refine sA ?_|refine sC (fun _=>?_) (fun _=>?_)|fail)
 refine zB (fun k:Nat=>[(1,.pv (pi t)),(2,.pv (.ptr (zx g) 0)),(8,.pv (.slc 4 (g.types.map qU) false)),(9,.pv (pi g.types.length)),(10,.pv (pi k))]) (fun _=>[]) (fun k=>k≤g.types.length∧zfo g t td=(((List.range g.types.length).drop k).all (zcs g t td)&&!zbG (fieldsOf g t) (zhF g)&&!zbG (methodsOf g t) (fun a b=>WG (mAt g a) (mAt g b)))) (fun k=>g.types.length - k) 0 ⟨by omega,rfl⟩ (tS) tH ?_
 rintro k ⟨hk,hr⟩
 by_cases hlt:k < g.types.length
 ·have he:=yc (f:=qU) hlt
  rw [QM hlt,zcs,zM hlt] at hr
  repeat' (first|(refine shX ?_;first|refine qX he ?_|refine zo rfl (zl zh rfl rfl rfl rfl rfl rfl h0 heT) rfl rfl ?_|refine AD.step _ _ _ _ _ rfl (zl zh rfl rfl rfl rfl rfl rfl h0 heT) rfl rfl ?_)|refine sK ?_|refine sC (fun _=>?_) (fun _=>?_)|fail)
  all_goals first|(refine retq rfl ?_;first|(simp only [zn,BL,List.length_map] at *;simp only [*,BL,List.length_map];done)|(simp_all [zn];done)|(simp_all [zn];omega)|(simp_all [zn];intros;omega))|(refine ⟨k + 1,⟨by omega,?_⟩,tD,tS,tH⟩;first|(simp only [BL,List.length_map] at *;simp only [*,BL,List.length_map];done)|(simp_all [];done)|(simp_all [];omega)|(simp_all [];intros;omega))|(trace "LEND";trace_state)
 ·rw [drop_end (by simp;omega)] at hr
  repeat' (first|(refine shC ?_;first|refine qC (QT g t hgf) ?_|refine qC (YD g t hgm) ?_|refine qC cf ?_|refine qC cm ?_)|refine sK ?_|refine sC (fun _=>?_) (fun _=>?_)|fail)
  all_goals first|(refine retq rfl ?_;first|(simp only [zn,BL,List.length_map] at *;simp only [*,BL,List.length_map];done)|(simp_all [zn];done)|(simp_all [zn];omega)|(simp_all [zn];intros;omega))|(refine zb0 rfl ?_;first|(simp only [zn,BL,List.length_map] at *;simp only [*,BL,List.length_map];done)|(simp_all [zn];done)|(simp_all [zn];omega)|(simp_all [zn];intros;omega))|skip
set_option maxHeartbeats 20000000
theorem zmQ (g:Img) (t:Int) (hF:Fm g):ACall Tryz.prog 416 [pi t,.ptr (zx g) 0] (ints (yw g t)):=by
 refine zf zh Tryz.func416 rfl (by kernel_rfl) Tryz.ntmps416 (by simp) _ rfl (fun hw gB hgB=>?_)
 repeat' (first|(refine shC ?_;first|refine zo rfl (qJ rfl rfl (XM g t (by have:=(hF.at t).1;omega) (fun f hf=>XK ((hF.at t).2 f hf)))) rfl rfl ?_|refine AD.step _ _ _ _ _ rfl (qJ rfl rfl (XM g t (by have:=(hF.at t).1;omega) (fun f hf=>XK ((hF.at t).2 f hf)))) rfl rfl ?_)|refine sA ?_|refine sC (fun _=>?_) (fun _=>?_)|fail)
 exact retq rfl rfl
theorem zmZ (g:Img) (t:Int) (hf:zV g=true):ACall Tryz.prog 421 [pi t,.ptr (zx g) 0] (ints (partsOf g t)):=by
 refine zf zh Tryz.func421 rfl (by kernel_rfl) Tryz.ntmps421 (by simp) _ rfl (fun hw gB hgB=>?_)
 repeat' (first|(refine shC ?_;first|refine qC (zfH g t hf) ?_)|refine sA ?_|refine sC (fun _=>?_) (fun _=>?_)|fail)
 exact retq rfl rfl
theorem zhP (g:Img) (hf:zV g=true) (t:Int) (td:TD) (htd:typeAt g t=some td):ACall Tryz.prog 248 [qU td] (pi (zF g t)):=by
 have:=zfh td
 obtain ⟨h0,h1,_⟩:=WV hf htd
 rw [zhs h0 h1] at this
 rw [zF,htd];exact this
theorem zmK (g:Img) (t:Int) (td:TD) (htd:typeAt g t=some td) (hf:zV g=true):ACall Tryz.prog 401 [zx g,pi t] (pb (zfm g t td)):=by
 refine zf zh Tryz.func401 rfl (by kernel_rfl) Tryz.ntmps401 (by simp) _ rfl (fun hw gB hgB=>?_)
 obtain ⟨h0,he⟩:=Yu htd
 have hF:=zeG hf
 have hn:=hF.n
 obtain ⟨hf1,hf2⟩:=hF.faces td (WZ htd)
 have c0:=zhP g hf t td htd
 have c1:=zdx g.types.length (by omega) td.faces (yw g) 416 [] [.ptr (zx g) 0] hf2 (by omega)
  (fun x h0 h1=>zmQ g x hF) (fun x h0 h1=>⟨by have:=(hF.at x).1;omega,(hF.at x).2⟩)
 repeat' (first|(refine shX ?_;first|refine zo rfl (zl zh rfl rfl rfl rfl rfl rfl h0 he) rfl rfl ?_|refine AD.step _ _ _ _ _ rfl (zl zh rfl rfl rfl rfl rfl rfl h0 he) rfl rfl ?_)|refine sA ?_|refine sC (fun _=>?_) (fun _=>?_)|fail)
 refine zB (fun k:Nat=>[(1,.pv (pi t)),(2,.pv (.ptr (zx g) 0)),(5,.pv (ints td.faces)),(15,.pv (ints td.faces)),(16,.pv (pi td.faces.length)),(17,.pv (pi k))]) (fun _=>[]) (fun k=>k≤td.faces.length∧zfm g t td=(((List.range td.faces.length).drop k).all (zdO g td.faces)&&(zF g t != 2||!decide (t∈sortL (QA g.types.length (yw g) td.faces))))) (fun k=>td.faces.length - k) 0 ⟨by simp,rfl⟩ (tS) tH ?_
 rintro k ⟨hk,hr⟩
 by_cases hlt:k < td.faces.length
 ·have hef:=YN hlt
  rw [QM hlt,zdO,zM hlt] at hr
  repeat' (first|refine zo rfl (qY (xs:=td.faces) (f:=pi) 0 k zh rfl rfl rfl rfl rfl rfl rfl (by omega) (by omega)) rfl rfl ?_|(refine shC ?_;first|refine qC (qZ g hf _) ?_|refine qC (YC (td.faces.take k) _) ?_)|(refine shX ?_;first|refine qX hef ?_)|refine sK ?_|refine sC (fun _=>?_) (fun _=>?_)|fail)
  all_goals first|(refine retq rfl ?_;first|(simp only [zn,BL,List.length_map] at *;simp only [*,BL,List.length_map];done)|(simp_all [zn];done)|(simp_all [zn];omega)|(simp_all [zn];intros;omega))|(refine ⟨k + 1,⟨by omega,?_⟩,tD,tS,tH⟩;first|(simp only [BL,List.length_map] at *;simp only [*,BL,List.length_map];done)|(simp_all [];done)|(simp_all [];omega)|(simp_all [];intros;omega))|(trace "LEND";trace_state)
 ·rw [drop_end (by simp;omega)] at hr
  repeat' (first|(refine shC ?_;first|refine qC c0 ?_|refine qC c1 ?_|refine qC (YC _ _) ?_)|(refine shX ?_;first|refine zo rfl (zl zh rfl rfl rfl rfl rfl rfl h0 he) rfl rfl ?_|refine AD.step _ _ _ _ _ rfl (zl zh rfl rfl rfl rfl rfl rfl h0 he) rfl rfl ?_)|refine sK ?_|refine sC (fun _=>?_) (fun _=>?_)|fail)
  all_goals first|(refine retq rfl ?_;first|(simp only [zn,BL,List.length_map] at *;simp only [*,BL,List.length_map];done)|(simp_all [zn];done)|(simp_all [zn];omega)|(simp_all [zn];intros;omega))|(refine zb0 rfl ?_;first|(simp only [zn,BL,List.length_map] at *;simp only [*,BL,List.length_map];done)|(simp_all [zn];done)|(simp_all [zn];omega)|(simp_all [zn];intros;omega))|skip
theorem zlU (g:Img) (t:Int) (td:TD) (htd:typeAt g t=some td) (hf:zV g=true):ACall Tryz.prog 403 [zx g,pi t] (pb (zfj g t)):=by
 refine zf zh Tryz.func403 rfl (by kernel_rfl) Tryz.ntmps403 (by simp) _ rfl (fun hw gB hgB=>?_)
 obtain ⟨h0,heT⟩:=Yu htd
 have hF:=zeG hf
 have hn:=hF.n
 have hg:g.fields.length≤64:=by have:=(zI hf).2.1;omega
 have c0:=zhP g hf t td htd
 have hpl:=zfW g
 have c1:=zdx g.types.length (by omega) (partsOf g t) (partsOf g) 421 [] [.ptr (zx g) 0] (fun x hx=>Qe hx) (by have:=hpl t;omega)
  (fun x h0 h1=>zmZ g x hf) (fun x h0 h1=>⟨by have:=hpl x;omega,fun y hy=>Qe hy⟩)
 repeat' (first|(refine shC ?_;first|refine qC c0 ?_|refine zo rfl (qJ rfl rfl (QT g t (by omega))) rfl rfl ?_|refine AD.step _ _ _ _ _ rfl (qJ rfl rfl (QT g t (by omega))) rfl rfl ?_)|(refine shX ?_;first|refine zo rfl (zl zh rfl rfl rfl rfl rfl rfl h0 heT) rfl rfl ?_|refine AD.step _ _ _ _ _ rfl (zl zh rfl rfl rfl rfl rfl rfl h0 heT) rfl rfl ?_)|refine sA ?_|refine sC (fun _=>?_) (fun _=>?_)|fail)
 refine zB (fun k:Nat=>[(1,.pv (pi t)),(2,.pv (.ptr (zx g) 0)),(5,.pv (pi (zF g t))),(16,.pv (ints (fieldsOf g t))),(17,.pv (pi (fieldsOf g t).length)),(18,.pv (pi k))]) (fun _=>[]) (fun k=>k≤(fieldsOf g t).length∧zfj g t=(((fieldsOf g t).drop k).all (zjH g (zF g t))&&(zF g t != 1||!decide (t∈sortL (QA g.types.length (partsOf g) (partsOf g t)))))) (fun k=>(fieldsOf g t).length - k) 0 ⟨by simp,rfl⟩ (tS) tH ?_
 have hfl:=WO g t
 rintro k ⟨hk,hr⟩
 by_cases hlt:k < (fieldsOf g t).length
 ·have he:=YN hlt
  obtain ⟨hi0,hi⟩:=Yy (List.getElem_mem hlt)
  have hef:=Yj (f:=ZI) hi
  rw [zhU hlt,zjH,zM hi] at hr
  repeat' (first|(refine shX ?_;first|refine qX he ?_|refine zo rfl (zl zh rfl rfl rfl rfl rfl rfl hi0 hef) rfl rfl ?_|refine AD.step _ _ _ _ _ rfl (zl zh rfl rfl rfl rfl rfl rfl hi0 hef) rfl rfl ?_)|refine sK ?_|refine sC (fun _=>?_) (fun _=>?_)|fail)
  all_goals first|(refine retq rfl ?_;first|(simp only [zn,BL,List.length_map] at *;simp only [*,BL,List.length_map];done)|(simp_all [zn];done)|(simp_all [zn];omega)|(simp_all [zn];intros;omega))|(refine ⟨k + 1,⟨by omega,?_⟩,tD,tS,tH⟩;first|(simp only [BL,List.length_map] at *;simp only [*,BL,List.length_map];done)|(simp_all [];done)|(simp_all [];omega)|(simp_all [];intros;omega))|(trace "LEND";trace_state)
 ·rw [drop_end (by omega)] at hr
  repeat' (first|(refine shC ?_;first|refine qC (zfH g t hf) ?_|refine qC c1 ?_|refine qC (YC _ _) ?_)|refine sK ?_|refine sC (fun _=>?_) (fun _=>?_)|fail)
  all_goals first|(refine retq rfl ?_;first|(simp only [zn,BL,List.length_map] at *;simp only [*,BL,List.length_map];done)|(simp_all [zn];done)|(simp_all [zn];omega)|(simp_all [zn];intros;omega))|(refine zb0 rfl ?_;first|(simp only [zn,BL,List.length_map] at *;simp only [*,BL,List.length_map];done)|(simp_all [zn];done)|(simp_all [zn];omega)|(simp_all [zn];intros;omega))|skip
end Go.Cg
