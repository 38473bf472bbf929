/- A part of the walks by abstract values: no statement of its own. -/
import Derived.Test.YtdngpcmllgnbjaaGreatN23
import Derived.Test.YtdngpcmllgnbjaaGreatN21
import Derived.Test.YtdngpcmllgnbjaaGreatN19
import Derived.Test.YtdngpcmllgnbjaaGreatN15
import Derived.Test.YtdngpcmllgnbjaaGreatN24
import Derived.Test.YtdngpcmllgnbjaaGreatN25
import Derived.Test.YtdngpcmllgnbjaaGreatN12
import Derived.Test.YtdngpcmllgnbjaaGreatN9
set_option linter.unusedVariables false
set_option linter.unusedSimpArgs false
namespace Go.Cg
open Go.Proofs
theorem PInv.fold {g:Img} {t:Int}:∀ (l:List Int) {met:List Int},PInv g t met→(∀ x∈l,0≤x∧x < g.types.length)→PInv g t (l.foldl Zp met)
 | [],_,h,_=>h
 | f::l,_,h,hl=>PInv.fold l (h.add (hl f (by simp))) fun x hx=>hl x (by simp [hx])
theorem zdL {g:Img} {t:Int}:∀ (n i:Nat) (met:List Int),PInv g t met→i≤met.length→g.fields.length + g.types.length + 1≤n + i →
  (∀ j (h:j < i) (h2:j < met.length),∀ y∈partsOf g met[j],y∈met) →
  (∀ x∈met,x∈zbu g n i met)∧(∀ u∈zbu g n i met,∀ y∈partsOf g u,y∈zbu g n i met)∧(∀ x∈zbu g n i met,Rch (partsOf g) met x)
 | 0,i,met,hm,hi,hn,hc=>by
  have:=hm.len;omega
 | n + 1,i,met,hm,hi,hn,hc=>by
  rw [zbu]
  by_cases hlt:i < met.length
  ·rw [List.getElem?_eq_getElem hlt]
   simp only [zic]
   have hm2:=PInv.fold (partsOf g met[i]) hm (fun x hx=>Yy hx)
   obtain ⟨r,hr⟩:=zeK (partsOf g met[i]) met
   have hl:met.length≤((partsOf g met[i]).foldl Zp met).length:=by rw [hr];simp
   obtain ⟨q1,q2,q3⟩:=zdL n (i + 1) ((partsOf g met[i]).foldl Zp met) hm2 (by omega) (by omega) (by
    intro j hj hj2 y hy
    rw [YV]
    have hjm:j < met.length:=by omega
    have e:((partsOf g met[i]).foldl Zp met)[j]=met[j]:=by simp only [hr];rw [List.getElem_append_left hjm]
    rw [e] at hy
    by_cases hji:j=i
    ·subst hji;exact .inr hy
    ·exact .inl (hc j (by omega) hjm y hy))
   refine ⟨fun x hx=>q1 x (YV.2 (.inl hx)),q2,fun x hx=>?_⟩
   have:=q3 x hx
   clear q1 q2 q3 hx
   induction this with
   | base x hx =>
    rcases YV.1 hx with h|h
    ·exact .base x h
    ·exact .step _ x (.base _ (List.getElem_mem hlt)) h
   | step x y _ hy ih=>exact .step x y ih hy
  ·rw [List.getElem?_eq_none (by omega)]
   simp only
   refine ⟨fun x hx=>hx,fun u hu y hy=>?_,fun x hx=>.base x hx⟩
   obtain ⟨j,hj,rfl⟩:=List.getElem_of_mem hu
   exact hc j (by omega) hj y hy
theorem zi7 {g:Img} {t x:Int}:x∈znd g t↔Rch (partsOf g) (partsOf g t) x:=by
 obtain ⟨q1,q2,q3⟩:=zdL (g:=g) (t:=t) (g.fields.length + g.types.length + 1) 0 (partsOf g t) ⟨[],by simp⟩ (by omega) (by omega) (fun j h=>by omega)
 refine ⟨fun hx=>q3 x hx,fun hx=>?_⟩
 induction hx with
 | base x hx=>exact q1 x hx
 | step x y _ hy ih=>exact q2 x ih y hy
theorem ze8 {g:Img} {t x:Int}:x∈sortL (YF g.types.length (partsOf g) (partsOf g t))↔x∈znd g t:=by
 rw [zdg,zi7]
 exact (zaM (N:=g.types.length) (fun x _ _ y hy=>Yy hy) (fun x hx=>Yy hx)).1 x
theorem zoF:∀ n:Fin 32,yY (n.val:Int) 1=yE (n.val:Int) 1∧yY (n.val:Int) 4=yE (n.val:Int) 4∧yY (n.val:Int) 8=yE (n.val:Int) 8∧yY (n.val:Int) 16=yE (n.val:Int) 16:=by decide +kernel
theorem zlr {f:Int} (h0:0≤f) (h1:f≤31):yY f 1=yE f 1∧yY f 4=yE f 4∧yY f 8=yE f 8∧yY f 16=yE f 16:=by
 have:=zoF ⟨f.toNat,by omega⟩
 simpa only [Int.toNat_of_nonneg h0] using this
theorem zkJ {td:TD} (h0:0≤td.flags) (h1:td.flags≤31):Zj td=Zi td:=by
 obtain ⟨e1,e2,e3,e4⟩:=zlr h0 h1
 rw [Zj,Zi,zeo h0 h1,e1,e2,e3,e4]
 generalize yE td.flags 1=b1
 generalize yE td.flags 4=b2
 generalize yE td.flags 8=b3
 generalize yE td.flags 16=b4
 generalize (td.ext == -1)=b5
 generalize ((td.faces.length:Int)==0)=b6
 repeat' split
 all_goals (try rfl)
 all_goals (cases b1 <;> cases b2 <;> cases b3 <;> cases b4 <;> cases b5 <;> cases b6 <;> rfl)
theorem XF {g:Img} (hf:zK g=true) {t:Int} {td:TD} (h:typeAt g t=some td):0≤td.flags∧td.flags≤31 ∧ -1≤td.ext∧td.ext < g.types.length∧td.faces.length≤4∧∀ f∈td.faces,0≤f∧f < g.types.length :=
 Yz ((zG hf).2.2.2 td (XH h))
theorem zkU {g:Img} (hf:zK g=true) (t:Int):0≤Vz g t∧Vz g t≤31:=by
 unfold Vz
 cases h:typeAt g t with
 | none=>simp
 | some td=>obtain ⟨h0,h1,_⟩:=XF hf h;exact ⟨h0,h1⟩
theorem zm5 {g:Img} (hf:zK g=true) (t:Int) : -1≤WV g t:=by
 unfold WV
 cases h:typeAt g ((up g t).getLastD 0) with
 | none=>simp
 | some td=>obtain ⟨_,_,h1,_⟩:=XF hf h;exact h1
theorem zo6 {g:Img} (hf:zK g=true) {t:Int} {td:TD} (h:typeAt g t=some td):zf4 g t td=zjC g t td:=by
 obtain ⟨_,_,h1,_⟩:=XF hf h
 obtain ⟨f0,f1⟩:=zkU hf td.ext
 have ht:=zm5 hf t
 rw [zf4,zjC,zb4 hf,(zlr f0 f1).2.2.1]
 have e1:(td.ext == -1)=!decide (0≤td.ext):=by rw [Bool.eq_iff_iff];simp;omega
 have e2:(WV g t == -1)=decide (WV g t < 0):=by rw [Bool.eq_iff_iff];simp;omega
 rw [e1,e2]
def zc5 (g:Img) (t:Int) (td:TD):Bool:=(List.range td.faces.length).all (zcC g td.faces)&&(zB g t != 2||!decide (t∈sortL (YF g.types.length (zT g) td.faces)))
theorem zpY {g:Img} {t:Int} {td:TD} (h:typeAt g t=some td) (he:td.ext = -1):up g t=[t]:=by
 have hx:typeAt g (-1)=none:=by rw [typeAt,if_neg (by omega)]
 rw [up,Vj,h]
 simp only [List.not_mem_nil,if_false,List.nil_append]
 cases hn:g.types.length with
 | zero=>rfl
 | succ n=>rw [Vj,he,hx]
theorem zb7 {g:Img} {t:Int} {td:TD} (h:typeAt g t=some td):zT g t=td.faces:=by rw [zT,h]
theorem zmD {g:Img} {t:Int} {td:TD} (h:typeAt g t=some td) (hfl:Zi td=true) (hk:zB g t=2):td.ext = -1:=by
 rw [zB,h] at hk
 simp only at hk
 rw [Zi,hk] at hfl
 simp at hfl
 exact hfl.1.1.1.1
theorem znu {g:Img} (hf:zK g=true) {t:Int} {td:TD} (h:typeAt g t=some td):(Zj td&&zf4 g t td&&zc5 g t td)=(Zi td&&XL g t td):=by
 obtain ⟨h0,h1,_⟩:=XF hf h
 rw [zkJ h0 h1,zo6 hf h,zc5,XL]
 cases hfl:Zi td
 ·rfl
 ·have e:(zB g t != 2||!decide (t∈sortL (YF g.types.length (zT g) td.faces)))=(zB g t != 2||!decide (t∈VP g t)):=by
   by_cases hk:zB g t=2
   ·have hx:=zmD h hfl hk
    have hF:=zfP hf
    have:t∈sortL (YF g.types.length (zT g) td.faces)↔t∈VP g t:=by
     rw [zdg,zeJ hF,RF,zpY h hx]
     simp only [List.flatMap_cons,List.flatMap_nil,List.append_nil]
     rw [zb7 h]
     exact (zaM (N:=g.types.length) (fun x _ _ y hy=>(hF.at x).2 y hy) (fun x hx=>by have:=(hF.at t).2 x;rw [zb7 h] at this;exact this hx)).1 t
    rw [decide_eq_decide.2 this]
   ·have:(zB g t != 2)=true:=by simp [hk]
    rw [this];rfl
  rw [e];simp only [Bool.and_assoc,Bool.true_and]
def zaq (l:List Int) (p:Int→Int→Bool):Bool:=(List.range l.length).any fun i=>(l.take i).any (p (l.getD i 0))
theorem ziu {l:List Int} {p:Int→Int→Bool}:(!zaq l p)=(List.range l.length).all fun i=>(List.range i).all fun k=>!p (l.getD i 0) (l.getD k 0):=by
 rw [Bool.eq_iff_iff]
 simp only [zaq,Bool.not_eq_true',List.any_eq_false,List.all_eq_true,List.mem_range,Bool.not_eq_true]
 constructor
 ·intro h i hi k hk
  refine h i hi _ ?_
  rw [List.getD_eq_getElem?_getD,List.getElem?_eq_getElem (show k < l.length by omega)]
  exact List.mem_take_iff_getElem.2 ⟨k,by omega,rfl⟩
 ·intro h i hi x hx
  obtain ⟨k,hk,rfl⟩:=List.mem_take_iff_getElem.1 hx
  have:=h i hi k (by omega)
  rwa [zV (show k < l.length by omega)] at this
def zft (g:Img) (a b:Int):Bool:=(fName g a).toList==(fName g b).toList
def mAt (g:Img) (a:Int):Me:=g.methods.getD a.toNat default
def Xi (x y:Me):Bool:=x.name.toList==y.name.toList&&decide (x.ret=y.ret)&&IntKind.i64.wrap ((BitVec.ofInt IntKind.i64.bits (IntKind.i64.wrap ((BitVec.ofInt IntKind.i64.bits x.flags ^^^ BitVec.ofInt IntKind.i64.bits y.flags).toNat:Int)) &&& BitVec.ofInt IntKind.i64.bits 1).toNat:Int)==0&&decide (x.params=y.params)
def zcV (g:Img) (t:Int) (td:TD):Bool:=(List.range g.types.length).all (za7 g t td)&&!zaq (fieldsOf g t) (zft g)&&!zaq (methodsOf g t) (fun a b=>Xi (mAt g a) (mAt g b))
theorem zoS:∀ a b:Fin 32,(IntKind.i64.wrap ((BitVec.ofInt IntKind.i64.bits (IntKind.i64.wrap ((BitVec.ofInt IntKind.i64.bits (a.val:Int) ^^^ BitVec.ofInt IntKind.i64.bits (b.val:Int)).toNat:Int)) &&& BitVec.ofInt IntKind.i64.bits 1).toNat:Int)==0)=((a.val:Int).tmod 2==(b.val:Int).tmod 2):=by decide +kernel
theorem zmF {x y:Me} (hx0:0≤x.flags) (hx1:x.flags≤31) (hy0:0≤y.flags) (hy1:y.flags≤31):Xi x y=(x.name.toList==y.name.toList&&za1 x y):=by
 have:=zoS ⟨x.flags.toNat,by omega⟩ ⟨y.flags.toNat,by omega⟩
 simp only [Int.toNat_of_nonneg hx0,Int.toNat_of_nonneg hy0] at this
 rw [Xi,za1,this]
 simp only [Bool.and_assoc]
theorem zbe {g:Img} (hf:zK g=true) {a:Nat} (h:a < g.methods.length):ZY g (g.methods.getD a default)=true:=by
 simp only [zK,Bool.and_eq_true,List.all_eq_true] at hf
 have:=hf.2 a (by simpa using h)
 rw [zeP] at this
 simp only [Bool.and_eq_true] at this
 exact this.2
theorem WR {g:Img} {m:Me} (h:ZY g m=true):0≤m.flags∧m.flags≤31:=by
 simp only [ZY,Bool.and_eq_true,decide_eq_true_eq] at h
 omega
theorem zov {g:Img} (hf:zK g=true) (t:Int) (td:TD):zcV g t td=zg3 g t td:=by
 rw [zcV,zg3,ziu,ziu]
 congr 1
 rw [Bool.eq_iff_iff]
 simp only [List.all_eq_true,List.mem_range,zfL]
 have key:∀ i,i < (methodsOf g t).length→∀ k,k < i→Xi (mAt g ((methodsOf g t).getD i 0)) (mAt g ((methodsOf g t).getD k 0))=((g.methods.getD ((methodsOf g t).getD i 0).toNat default).name.toList==(g.methods.getD ((methodsOf g t).getD k 0).toNat default).name.toList&&za1 (g.methods.getD ((methodsOf g t).getD i 0).toNat default) (g.methods.getD ((methodsOf g t).getD k 0).toNat default)):=by
  intro i hi k hk
  have hk':k < (methodsOf g t).length:=by omega
  rw [zV hi,zV hk']
  obtain ⟨_,a1⟩:=yQ (List.getElem_mem hi)
  obtain ⟨_,a2⟩:=yQ (List.getElem_mem hk')
  obtain ⟨b1,b2⟩:=WR (zbe hf a1)
  obtain ⟨b3,b4⟩:=WR (zbe hf a2)
  exact zmF b1 b2 b3 b4
 constructor
 ·intro h i hi k hk
  rw [←key i hi k hk];exact h i hi k hk
 ·intro h i hi k hk
  rw [key i hi k hk];exact h i hi k hk
def zdb (g:Img) (t:Int):Bool:=(fieldsOf g t).all (zhm g (zB g t))&&(zB g t != 1||!decide (t∈sortL (YF g.types.length (partsOf g) (partsOf g t))))
theorem znT (g:Img) (t:Int):zdb g t=zbw g t:=by
 rw [zdb,zbw,decide_eq_decide.2 ze8]
theorem zps {g:Img} (h:ZE g=true) {k:Nat} (hk:k < g.types.length):qE g k=0:=by
 have hf:=Zl h
 cases hx:(List.range g.types.length).find? (fun t=>qE g t != 0) with
 | none =>
  have:=List.find?_eq_none.1 hx k (by simpa using hk)
  simpa using this
 | some t =>
  have h2:=List.find?_some hx
  rw [ZE,Xb,hf] at h
  simp [hx] at h
  simp [h] at h2
theorem zf6 {g:Img} (hf:zK g=true) {k:Nat} (hk:k < g.types.length) :
  qE g k=if !(Zj g.types[k]&&zf4 g k g.types[k]&&zc5 g k g.types[k]) then 7 else if !zcV g k g.types[k] then 18 else if !zdb g k then 20 else 0:=by
 rw [zbD hk,znu hf (zbv hk),zov hf,znT]
 cases Zi g.types[k] <;> cases XL g k g.types[k] <;> rfl
set_option maxHeartbeats 20000000
theorem qw (g:Img) (hf:zK g=true) (t:Int):ACall Tryz.prog 126 [zu g,pi t] (pi (zB g t)):=by
 have:=zab g t;rwa [zb4 hf] at this
theorem YT (g:Img) (t:Int) (hg:g.fields.length≤1000):ACall Tryz.prog 363 [zu g,pi t] (ints (fieldsOf g t)):=by
 refine zf zh Tryz.func363 rfl (by kernel_rfl) Tryz.ntmps363 (by simp) _ rfl (fun hw gB hgB=>?_)
 repeat' (first|refine sA ?_|refine sC (fun _=>?_) (fun _=>?_)|fail)
 refine qZ (t:=5) 0 3 1 (by decide) rfl rfl ?_
 refine zA (fun x:Nat × List Int=>[(1,.pv (pi t)),(2,.pv (.ptr (zu g) 0)),(5,.own 0),(9,.pv (.slc 7 (g.fields.map Zc) false)),(10,.pv (pi g.fields.length)),(11,.pv (pi x.1))]) (fun x=>[(0,.row 3 1 (x.2.map pi))])
  (fun x=>x.1≤g.fields.length∧x.2.length≤x.1∧x.2++((nums g.fields.length).drop x.1).filter (fun i=>there g t&&(g.fields.getD i.toNat default).owner==t)=fieldsOf g t) (fun x=>g.fields.length - x.1) (0,[]) ⟨by simp,by simp,rfl⟩ (tS) ⟨zi rfl zk,rfl⟩ ?_
 rintro ⟨k,out⟩ ⟨hk,hol,hr⟩
 simp only at hk hol hr
 by_cases hlt:k < g.fields.length
 ·have he:=yI (f:=Zc) hlt
  rw [drop_cons (by simpa [nums] using hlt),List.filter_cons,ziS,Int.toNat_natCast,zV hlt] at hr
  have c1:=ZG g t
  cases hth:there g t
  ·rw [hth] at c1
   repeat' (first|(refine shC ?_;first|refine qC c1 ?_)|(refine shX ?_;first|refine qX he ?_)|refine sK ?_|refine sC (fun _=>?_) (fun _=>?_)|fail)
   exact ⟨(k + 1,out),⟨by simp;omega,by simp;omega,by simpa [hth] using hr⟩,tD,tS,⟨yS rfl rfl zk,rfl⟩⟩
  ·rw [hth] at c1
   repeat' (first|(refine shC ?_;first|refine qC c1 ?_)|(refine shX ?_;first|refine qX he ?_)|(refine zI ?_;first|refine yg zh rfl rfl rfl rfl rfl rfl rfl (by show _ * 8≤_;simp;omega) (by simp;omega) rfl rfl ?_)|refine sK ?_|refine sC (fun _=>?_) (fun _=>?_)|fail)
   ·rename_i hx
    rw [hth,hx] at hr
    exact ⟨(k + 1,out++[(k:Int)]),⟨by simp;omega,by simp;omega,by simpa [hth] using hr⟩,tD,tS,⟨yS rfl (by simp) zk,rfl⟩⟩
   ·rename_i hx
    rw [hth,hx] at hr
    exact ⟨(k + 1,out),⟨by simp;omega,by simp;omega,by simpa [hth] using hr⟩,tD,tS,⟨yS rfl rfl zk,rfl⟩⟩
 ·rw [drop_end (by simp [nums];omega)] at hr
  repeat' (first|refine sK ?_|refine sC (fun _=>?_) (fun _=>?_)|fail)
  exact retq rfl (by rw [←hr];simp [zl,ints])
theorem ZR (g:Img) (t:Int) (hg:g.methods.length≤1000):ACall Tryz.prog 132 [zu g,pi t] (ints (methodsOf g t)):=by
 refine zf zh Tryz.func132 rfl (by kernel_rfl) Tryz.ntmps132 (by simp) _ rfl (fun hw gB hgB=>?_)
 repeat' (first|refine sA ?_|refine sC (fun _=>?_) (fun _=>?_)|fail)
 refine qZ (t:=5) 0 3 1 (by decide) rfl rfl ?_
 refine zA (fun x:Nat × List Int=>[(1,.pv (pi t)),(2,.pv (.ptr (zu g) 0)),(5,.own 0),(9,.pv (.slc 12 (g.methods.map zM) false)),(10,.pv (pi g.methods.length)),(11,.pv (pi x.1))]) (fun x=>[(0,.row 3 1 (x.2.map pi))])
  (fun x=>x.1≤g.methods.length∧x.2.length≤x.1∧x.2++((nums g.methods.length).drop x.1).filter (fun i=>there g t&&(g.methods.getD i.toNat default).owner==t)=methodsOf g t) (fun x=>g.methods.length - x.1) (0,[]) ⟨by simp,by simp,rfl⟩ (tS) ⟨zi rfl zk,rfl⟩ ?_
 rintro ⟨k,out⟩ ⟨hk,hol,hr⟩
 simp only at hk hol hr
 by_cases hlt:k < g.methods.length
 ·have he:=yI (f:=zM) hlt
  rw [drop_cons (by simpa [nums] using hlt),List.filter_cons,ziS,Int.toNat_natCast,zV hlt] at hr
  have c1:=ZG g t
  cases hth:there g t
  ·rw [hth] at c1
   repeat' (first|(refine shC ?_;first|refine qC c1 ?_)|(refine shX ?_;first|refine qX he ?_)|refine sK ?_|refine sC (fun _=>?_) (fun _=>?_)|fail)
   exact ⟨(k + 1,out),⟨by simp;omega,by simp;omega,by simpa [hth] using hr⟩,tD,tS,⟨yS rfl rfl zk,rfl⟩⟩
  ·rw [hth] at c1
   repeat' (first|(refine shC ?_;first|refine qC c1 ?_)|(refine shX ?_;first|refine qX he ?_)|(refine zI ?_;first|refine yg zh rfl rfl rfl rfl rfl rfl rfl (by show _ * 8≤_;simp;omega) (by simp;omega) rfl rfl ?_)|refine sK ?_|refine sC (fun _=>?_) (fun _=>?_)|fail)
   ·rename_i hx
    rw [hth,hx] at hr
    exact ⟨(k + 1,out++[(k:Int)]),⟨by simp;omega,by simp;omega,by simpa [hth] using hr⟩,tD,tS,⟨yS rfl (by simp) zk,rfl⟩⟩
   ·rename_i hx
    rw [hth,hx] at hr
    exact ⟨(k + 1,out),⟨by simp;omega,by simp;omega,by simpa [hth] using hr⟩,tD,tS,⟨yS rfl rfl zk,rfl⟩⟩
 ·rw [drop_end (by simp [nums];omega)] at hr
  repeat' (first|refine sK ?_|refine sC (fun _=>?_) (fun _=>?_)|fail)
  exact retq rfl (by rw [←hr];simp [zl,ints])
theorem zdy (g:Img) (t:Int) (hf:zK g=true):ACall Tryz.prog 420 [zu g,pi t] (ints (partsOf g t)):=by
 refine zf zh Tryz.func420 rfl (by kernel_rfl) Tryz.ntmps420 (by simp) _ rfl (fun hw gB hgB=>?_)
 have hg:g.fields.length≤1000:=by have:=(zG hf).2.1;omega
 have hfl:=Xj g t
 repeat' (first|(refine shC ?_;first|refine qC (YT g t hg) ?_)|refine sA ?_|refine sC (fun _=>?_) (fun _=>?_)|fail)
 refine qZ (t:=5) 0 3 1 (by decide) rfl rfl ?_
 refine zA (fun x:Nat × List Int=>[(2,.pv (.ptr (zu g) 0)),(5,.own 0),(11,.pv (ints (fieldsOf g t))),(12,.pv (pi (fieldsOf g t).length)),(13,.pv (pi x.1))]) (fun x=>[(0,.row 3 1 (x.2.map pi))])
  (fun x=>x.1≤(fieldsOf g t).length∧x.2.length≤x.1∧x.2++(((fieldsOf g t).drop x.1).filter (zcM g)).map (fun i=>(g.fields.getD i.toNat default).ty.index)=partsOf g t) (fun x=>(fieldsOf g t).length - x.1) (0,[]) ⟨by simp,by simp,rfl⟩ (tS) ⟨zi rfl zk,rfl⟩ ?_
 rintro ⟨k,out⟩ ⟨hk,hol,hr⟩
 simp only at hk hol hr
 by_cases hlt:k < (fieldsOf g t).length
 ·have he:=Yd hlt
  obtain ⟨h0,hi⟩:=ZF (List.getElem_mem hlt)
  have hef:=Zw (f:=Zc) hi
  rw [drop_cons hlt,List.filter_cons,zcM] at hr
  simp only [zV hi] at hr
  repeat' (first|(refine shC ?_;first|refine qC (qw _ hf _) ?_)|(refine shX ?_;first|refine qX he ?_|refine zq rfl (zn zh rfl rfl rfl rfl rfl rfl h0 hef) rfl rfl ?_|refine AD.step _ _ _ _ _ rfl (zn zh rfl rfl rfl rfl rfl rfl h0 hef) rfl rfl ?_)|(refine zI ?_;first|refine yg zh rfl rfl rfl rfl rfl rfl rfl (by show _ * 8≤_;simp;omega) (by simp;omega) rfl rfl ?_)|refine sK ?_|refine sC (fun _=>?_) (fun _=>?_)|fail)
  ·rw [if_pos (by simp_all)] at hr
   exact ⟨(k + 1,out++[g.fields[(fieldsOf g t)[k].toNat].ty.index]),⟨by simp;omega,by simp;omega,by rw [List.map_cons,zV hi] at hr;simpa using hr⟩,tD,tS,⟨yS rfl (by simp) zk,rfl⟩⟩
  all_goals
   rw [if_neg (by simp_all)] at hr
   exact ⟨(k + 1,out),⟨by simp;omega,by simp;omega,by simpa using hr⟩,tD,tS,⟨yS rfl rfl zk,rfl⟩⟩
 ·rw [drop_end (by omega)] at hr
  repeat' (first|refine sK ?_|refine sC (fun _=>?_) (fun _=>?_)|fail)
  exact retq rfl (by rw [←hr];simp [zl,ints])
def whole (t:Ty):Bool:=t.kind != 6||t.ref||decide (0 < t.dims)
def yN (g:Img) (t:Int):List Fd:=g.fields.filter fun f=>f.owner==t&&!f.static
def intTy:Ty:=⟨2,0,0,false⟩
def Xa (g:Img):Nat→Ty→List Ty
 | 0,_=>[]
 | n + 1,t=>if t.kind==1 then [] else if whole t then [t] else
   if ((yN g t.index).flatMap fun f=>Xa g n f.ty).length=0 then [intTy] else (yN g t.index).flatMap fun f=>Xa g n f.ty
def Dp (g:Img):Nat→Ty→Prop
 | 0,t=>whole t=true
 | n + 1,t=>whole t=true∨∀ f∈yN g t.index,Dp g n f.ty
theorem Dp.whole {g:Img} {t:Ty} (h:Cg.whole t=true):∀ n,Dp g n t
 | 0=>h
 | _ + 1=>.inl h
theorem zaW {α β:Type} {l:List α} {f h:α→List β} (hh:∀ x∈l,f x=h x):l.flatMap f=l.flatMap h:=by
 induction l with
 | nil=>rfl
 | cons x l ih=>rw [List.flatMap_cons,List.flatMap_cons,hh x (by simp),ih (fun y hy=>hh y (by simp [hy]))]
theorem zdM {g:Img}:∀ (n:Nat) (t:Ty),Dp g n t→∀ m,n < m→Xa g m t=Xa g (n + 1) t
 | 0,t,h,m,hm=>by
  obtain ⟨k,rfl⟩:∃ k,m=k + 1:=⟨m - 1,by omega⟩
  have hwt:whole t=true:=h
  rw [Xa,Xa,hwt];rfl
 | n + 1,t,h,m,hm=>by
  obtain ⟨k,rfl⟩:∃ k,m=k + 1:=⟨m - 1,by omega⟩
  rw [Xa,Xa]
  rcases h with h|h
  ·rw [h];rfl
  ·rw [zaW (fun f hf=>zdM n f.ty (h f hf) k (by omega))]
def yL (g:Img) (t:Ty):List Ty:=Xa g (g.types.length + 2) t
def fcs (g:Img) (l:List Fd):List Ty:=l.flatMap fun f=>yL g f.ty
theorem ze7 (g:Img) (f:Fd) (l:List Fd):fcs g (f::l)=yL g f.ty++fcs g l:=rfl
theorem zbO (g:Img) (l m:List Fd):fcs g (l++m)=fcs g l++fcs g m:=by simp [fcs]
def qA (g:Img) (t:Ty):Bool :=
 Zf t&&(if t.kind==5 then zB g t.index==0||zB g t.index==2||zB g t.index==3 else t.kind != 6||zB g t.index==1)
def Zb (g:Img):Bool:=(List.range g.fields.length).all fun i=>qA g (g.fields.getD i default).ty
theorem zfK {g:Img} {t:Ty} (h:qA g t=true) (hw:whole t=false):t.kind=6∧t.ref=false∧t.dims=0∧zB g t.index=1:=by
 simp only [whole,Bool.or_eq_false_iff,bne_eq_false_iff_eq,decide_eq_false_iff_not] at hw
 obtain ⟨⟨h1,h2⟩,h3⟩:=hw
 rw [qA,Bool.and_eq_true] at h
 obtain ⟨hp,hk⟩:=h
 have hd:0≤t.dims:=by
  unfold Zf at hp
  split at hp
  ·cases hp
  ·rename_i hc;simp only [Bool.or_eq_true,decide_eq_true_eq,not_or] at hc;omega
 have hk':zB g t.index=1:=by simpa [h1] using hk
 exact ⟨h1,h2,by omega,hk'⟩
theorem zeH {g:Img} (h:Zb g=true) {f:Fd} (hf:f∈g.fields):qA g f.ty=true:=by
 obtain ⟨k,hk,rfl⟩:=List.getElem_of_mem hf
 have:=List.all_eq_true.1 h k (by simpa using hk)
 rwa [zV hk] at this
theorem zdm {g:Img} (hf:zK g=true) {f:Fd} (h:f∈g.fields):0≤f.owner∧f.owner < g.types.length∧QD f.ty 1 g.types.length=true:=by
 obtain ⟨k,hk,rfl⟩:=List.getElem_of_mem h
 simp only [zK,Bool.and_eq_true,List.all_eq_true] at hf
 have:=hf.1.2 k (by simpa using hk)
 rw [zoB hk] at this
 simp only [Bool.and_eq_true,decide_eq_true_eq] at this
 exact ⟨this.1.1.1.2,this.1.1.2,this.2⟩
theorem zoR {g:Img} (hf:zK g=true) {u:Int} {f:Fd} (h:f∈yN g u) (hu:qA g f.ty=true) (hw:whole f.ty=false):f.ty.index∈partsOf g u:=by
 obtain ⟨h1,_,h3,h4⟩:=zfK hu hw
 obtain ⟨hm,hc⟩:=List.mem_filter.1 h
 simp only [Bool.and_eq_true,beq_iff_eq,Bool.not_eq_true'] at hc
 obtain ⟨ho,hs⟩:=hc
 obtain ⟨o0,o1,_⟩:=zdm hf hm
 obtain ⟨k,hk,rfl⟩:=List.getElem_of_mem hm
 have hgk:g.fields.getD ((k:Int)).toNat default=g.fields[k]:=by rw [Int.toNat_natCast,zV hk]
 rw [partsOf,List.mem_map]
 refine ⟨(k:Int),List.mem_filter.2 ⟨List.mem_filter.2 ⟨zfl.2 ⟨by omega,by omega⟩,?_⟩,?_⟩,by rw [hgk]⟩
 ·rw [hgk,QE (by omega),ho];simp
 ·rw [zcM,hgk];simp [h1,hs,h3,h4]
theorem znF {g:Img} {p u:Int} (h:Rch (partsOf g) (partsOf g p) u):zB g u=1:=by
 have key:∀ q,u∈partsOf g q→zB g u=1:=by
  intro q hq
  simp only [partsOf,List.mem_map,List.mem_filter,zcM,Bool.and_eq_true,beq_iff_eq] at hq
  obtain ⟨i,⟨_,_,hk⟩,rfl⟩:=hq
  exact hk
 cases h with
 | base _ hx=>exact key _ hx
 | step x _ _ hy=>exact key _ hy
theorem zlU {g:Img} (hf:zK g=true) (hu:Zb g=true) (hz:∀ u:Int,zB g u=1→u∉znd g u):∀ (n:Nat) (path:List Int) (t:Ty),path.Nodup→(∀ p∈path,0≤p∧p < g.types.length)→g.types.length + 1≤path.length + n →
  (∀ p∈path,Rch (partsOf g) (partsOf g p) t.index)→Dp g n t
 | 0,path,t,h1,h2,h3,h4=>by have:=qU _ _ h1 h2;omega
 | n + 1,path,t,h1,h2,h3,h4=>by
  cases hw:whole t
  ·refine .inr fun f hfo=>?_
   cases hwf:whole f.ty
   ·have hm:=(List.mem_filter.1 hfo).1
    have hc:=(List.mem_filter.1 hfo).2
    simp only [Bool.and_eq_true,beq_iff_eq] at hc
    obtain ⟨o0,o1,_⟩:=zdm hf hm
    have hp:=zoR hf hfo (zeH hu hm) hwf
    have hni:t.index∉path:=fun hin=>by
     have hr:=h4 _ hin
     exact hz _ (znF hr) (zi7.2 hr)
    refine zlU hf hu hz n (t.index::path) f.ty (List.nodup_cons.2 ⟨hni,h1⟩) ?_ (by simp;omega) ?_
    ·intro p hp'
     rcases List.mem_cons.1 hp' with rfl|hp'
     ·omega
     ·exact h2 p hp'
    ·intro p hp'
     rcases List.mem_cons.1 hp' with rfl|hp'
     ·exact .base _ hp
     ·exact .step _ _ (h4 p hp') hp
   ·exact Dp.whole hwf n
  ·exact .inl hw
theorem zkP {g:Img} (h:ZE g=true) {u:Int} (hk:zB g u=1):u∉znd g u:=by
 have hf:=Zl h
 obtain ⟨td,htd,_⟩:=zbM hk (by omega)
 have hlt:=YJ htd
 have hck:=zps h (k:=u.toNat) (by omega)
 rw [zbD (by omega)] at hck
 have e:((u.toNat:Nat):Int)=u:=Int.toNat_of_nonneg hlt.1
 rw [e] at hck
 have hs:zbw g u=true:=by
  cases hs:zbw g u
  ·rw [hs] at hck
   split at hck
   ·cases hck
   ·split at hck
    ·cases hck
    ·simp at hck
  ·rfl
 rw [zbw,hk,Bool.and_eq_true] at hs
 simpa using hs.2
theorem zhn {g:Img} (h:ZE g=true) (hu:Zb g=true) (t:Ty):Dp g (g.types.length + 1) t :=
 zlU (Zl h) hu (fun _ hk=>zkP h hk) _ [] t (by simp) (by simp) (by simp) (by simp)
theorem Vh {g:Img} (h:ZE g=true) (hu:Zb g=true) (t:Ty):yL g t=if t.kind==1 then [] else if whole t then [t] else if (fcs g (yN g t.index)).length=0 then [intTy] else fcs g (yN g t.index):=by
 have hd:=zhn h hu t
 rcases hd with hd|hd
 ·rw [yL,Xa,hd];rfl
 ·have e:((yN g t.index).flatMap fun f=>Xa g (g.types.length + 1) f.ty)=fcs g (yN g t.index):=zaW (fun f hf=>(zdM _ _ (hd f hf) _ (by omega)).symm)
  rw [yL,Xa,e]
def Cnt (b r s:Nat):Prop:=min r (b + 1)=min s (b + 1)
theorem Cnt.zero (b:Nat):Cnt b 0 0:=rfl
theorem Cnt.add {b r s l:Nat} (h:Cnt b r s) (hr:r≤b):Cnt b (r + min l (b + 1)) (s + l):=by unfold Cnt at h ⊢;omega
theorem Cnt.stay {b r s l:Nat} (h:Cnt b r s) (hr:b < r):Cnt b r (s + l):=by unfold Cnt at h ⊢;omega
theorem Cnt.more {b r s:Nat} (h:Cnt b r s):b < r↔b < s:=by unfold Cnt at h;omega
def Vw (g:Img) (b:Nat) (t:Ty):Nat:=min (yL g t).length (b + 1)
theorem VT (g:Img) (f:Fd) (l:List Fd):(fcs g (f::l)).length=(yL g f.ty).length + (fcs g l).length:=by rw [ze7,List.length_append]
theorem ze4 (g:Img) (l m:List Fd):(fcs g (l++m)).length=(fcs g l).length + (fcs g m).length:=by rw [zbO,List.length_append]
def objT (g:Img) (t:Int):List Ty:=(up g t).reverse.flatMap fun u=>fcs g (yN g u)
theorem zjI (g:Img):∀ l:List Int,(l.flatMap fun u=>fcs g (yN g u)).length=(l.map fun u=>(fcs g (yN g u)).length).sum
 | []=>rfl
 | x::l=>by rw [List.flatMap_cons,List.length_append,zjI g l];rfl
theorem zoO (l:List Nat):l.reverse.sum=l.sum:=by
 induction l with
 | nil=>rfl
 | cons x l ih=>rw [List.reverse_cons,List.sum_append,ih];simp;omega
theorem zne (g:Img) (t:Int):(objT g t).length=((up g t).map fun u=>(fcs g (yN g u)).length).sum:=by
 rw [objT,zjI,List.map_reverse,zoO]
def ZW (g:Img) (t:Nat):Bool:=(zB g t==1&&decide (8 < (yL g ⟨6,t,0,false⟩).length))||(zB g t==0&&decide (32 < (objT g t).length))
def Yl (g:Img):Int × Int :=
 if !ZE g then (0,17) else match (List.range g.fields.length).find? (fun i=>!qA g (g.fields.getD i default).ty) with
  | some i=>(((i:Nat):Int),10)
  | none=>match (List.range g.types.length).find? (ZW g) with
   | some t=>(((t:Nat):Int),20)
   | none=>(0,0)
def YM (g:Img):Bool:=(Yl g).2==0
theorem zg7 {g:Img} {k:Nat} (hw:ZE g=true) (hk:k < g.fields.length) (hno:∀ j,j < k→qA g (g.fields.getD j default).ty=true) (h:qA g (g.fields.getD k default).ty=false):Yl g=(((k:Nat):Int),10):=by
 have:(List.range g.fields.length).find? (fun i=>!qA g (g.fields.getD i default).ty)=some k:=by
  rw [List.find?_range_eq_some]
  exact ⟨by simpa using h,by simpa using hk,fun j hj=>by simp only [hno j hj,Bool.not_true,Bool.not_false]⟩
 rw [Yl,hw];simp only [Bool.not_true,Bool.false_eq_true,if_false];rw [this]
theorem zhr {n:Nat} {p:Nat→Bool} (h:∀ j,j < n→p j=false):(List.range n).find? p=none:=by
 rw [List.find?_eq_none]
 intro j hj
 simp [h j (List.mem_range.1 hj)]
theorem zhz {g:Img} {k:Nat} (hw:ZE g=true) (hu:Zb g=true) (hk:k < g.types.length) (hno:∀ j,j < k→ZW g j=false) (h:ZW g k=true):Yl g=(((k:Nat):Int),20):=by
 have h1:(List.range g.fields.length).find? (fun i=>!qA g (g.fields.getD i default).ty)=none:=zhr fun j hj=>by
  have:=List.all_eq_true.1 hu j (by simpa using hj);simp only [this];rfl
 have h2:(List.range g.types.length).find? (ZW g)=some k:=by
  rw [List.find?_range_eq_some]
  exact ⟨h,by simpa using hk,fun j hj=>by simp only [hno j hj,Bool.not_false]⟩
 rw [Yl,hw];simp only [Bool.not_true,Bool.false_eq_true,if_false];rw [h1];simp only;rw [h2]
theorem zbX {g:Img} (hw:ZE g=true) (hu:Zb g=true) (hno:∀ j,j < g.types.length→ZW g j=false):Yl g=(0,0):=by
 have h1:(List.range g.fields.length).find? (fun i=>!qA g (g.fields.getD i default).ty)=none:=zhr fun j hj=>by
  have:=List.all_eq_true.1 hu j (by simpa using hj);simp only [this];rfl
 rw [Yl,hw];simp only [Bool.not_true,Bool.false_eq_true,if_false];rw [h1];simp only;rw [zhr hno]
structure Fine (g:Img):Prop where
 well:ZE g=true
 used:Zb g=true
 size:∀ j,j < g.types.length→ZW g j=false
theorem zbh {g:Img} (h:YM g=true):Fine g:=by
 rw [YM,Yl] at h
 cases hw:ZE g
 ·simp [hw] at h
 ·rw [hw] at h
  simp only [Bool.not_true,Bool.false_eq_true,if_false] at h
  cases h1:(List.range g.fields.length).find? (fun i=>!qA g (g.fields.getD i default).ty) with
  | some i=>rw [h1] at h;simp at h
  | none =>
   rw [h1] at h
   cases h2:(List.range g.types.length).find? (ZW g) with
   | some t=>rw [h2] at h;simp at h
   | none =>
    refine ⟨hw,?_,fun j hj=>?_⟩
    ·rw [Zb,List.all_eq_true]
     intro i hi
     have:=List.find?_eq_none.1 h1 i hi
     simpa using this
    ·have:=List.find?_eq_none.1 h2 j (by simpa using hj)
     simpa using this
theorem Fine.formed {g:Img} (h:Fine g):zK g=true:=Zl h.well
theorem Fine.cells_le {g:Img} (h:Fine g) {t:Ty} (hk:t.kind=6→whole t=false→zB g t.index=1):(yL g t).length≤8:=by
 rw [Vh h.well h.used]
 split
 ·simp
 ·split
  ·simp
  ·rename_i h1 h2
   have hw:whole t=false:=by simpa using h2
   have h6:t.kind=6:=by
    simp only [whole,Bool.or_eq_false_iff,bne_eq_false_iff_eq] at hw;exact hw.1.1
   have hk1:=hk h6 hw
   obtain ⟨td,htd,_⟩:=zbM hk1 (by omega)
   have hlt:=YJ htd
   have hs:=h.size t.index.toNat (by omega)
   have e:((t.index.toNat:Nat):Int)=t.index:=Int.toNat_of_nonneg hlt.1
   rw [ZW,e,hk1] at hs
   have hs2:¬ 8 < (yL g ⟨6,t.index,0,false⟩).length:=fun h8=>by simp [h8] at hs
   have hw6:whole ⟨6,t.index,0,false⟩=false:=by simp [whole]
   rw [Vh h.well h.used,hw6] at hs2
   have h61:((6:Int)==1)=false:=rfl
   rw [h61] at hs2
   simp only [Bool.false_eq_true,if_false] at hs2
   omega
theorem Fine.used_le {g:Img} (h:Fine g) {t:Ty} (hu:qA g t=true):(yL g t).length≤8:=h.cells_le fun _ hw=>(zfK hu hw).2.2.2
theorem Fine.field_le {g:Img} (h:Fine g) {f:Fd} (hf:f∈g.fields):(yL g f.ty).length≤8:=h.used_le (zeH h.used hf)
theorem zhh {g:Img} (h:Fine g):∀ (l:List Fd),(∀ f∈l,f∈g.fields)→(fcs g l).length≤8 * l.length
 | [],_=>by simp [fcs]
 | f::l,hl=>by
  rw [VT]
  have h1:=h.field_le (hl f (by simp))
  have h2:=zhh h l (fun x hx=>hl x (by simp [hx]))
  simp;omega
def SM (α:Type):Type:=List Ty→Except Int (α × List Ty)
def SM.ret {α:Type} (a:α):SM α:=fun l=>.ok (a,l)
def SM.bnd {α β:Type} (x:SM α) (f:α→SM β):SM β:=fun l=>match x l with|.error e=>.error e|.ok p=>f p.1 p.2
instance:Monad SM:={ pure:=SM.ret,bind:=SM.bnd }
abbrev zqu (g:Img):List PV:=[.slc 4 (g.types.map qx) false,.slc 7 (g.fields.map Zc) false,.slc 12 (g.methods.map zM) false,pi g.entry]
abbrev zqM (m:Me):List PV:=[ps m.name,pi m.owner,pi m.flags,tys m.params,pi m.ret.kind,pi m.ret.index,pi m.ret.dims,pb m.ret.ref,tys m.locals,pi m.max,.slc 6 (m.code.map yT) false,.slc 10 (m.clauses.map Yr) false]
abbrev zql (x:Ins):List PV:=[pi x.op,pi x.arg,pi x.t.kind,pi x.t.index,pi x.t.dims,pb x.t.ref]
structure RC where
 g:Img
 m:Me
 ar:List Ty
 x:Ins
abbrev znO (c:RC) (l:List Ty):HE:=.cell (.agg ((zqu c.g++(zqM c.m++(tys c.ar::(zql c.x++[tys l])))).map .pv))
abbrev zqB (u:Value):HEnv:=[(1000,.pin (.own 0) u)]
abbrev zqe (u:Value) (c:RC) (l:List Ty):HEnv:=(0,znO c l)::zqB u
abbrev flt (e:Int):Value:=.iface 189 (.int .i64 e)
def zqd {α:Type} (u:Value) (c:RC) (val:α→AV):Except Int (α × List Ty)→Out
 | .error e=>.pan (flt e)
 | .ok p=>.ret (val p.1) (zqe u c p.2)
def XC {α:Type} (f:FuncId) (args:List AV) (c:RC) (act:SM α) (val:α→AV) (l:List Ty):Prop:=∀ u,zp7 Tryz.prog f (.box 0 0::args) (zqe u c l) (zqd u c val (act l))
theorem XC.ok {α:Type} {f:FuncId} {args:List AV} {c:RC} {act:SM α} {val:α→AV} {l l':List Ty} {a:α} (h:XC f args c act val l) (e:act l=.ok (a,l')):∀ us,ACallM Tryz.prog f (.box 0 0::args) ([(0,znO c l)]++zD us [0]) (val a) ([(0,znO c l')]++zD us [0]):=fun us=>by
 have:=h (us 0)
 rw [e] at this;exact this
theorem zlt (sz:Nat) (es:List PV) (f:Bool):PTells (.slc sz es f) (.slc sz es false):=fun K w v h=>by
 cases h with
 | nil=>exact .nil sz false
 | emp _ _ a=>exact .emp sz false a
 | slc _ _ _ b o cap vss h0 h1 h2 h3 h4 h5 h6=>exact .slc sz es false b o cap vss h0 h1 (by simp) h3 h4 h5 h6
theorem ACall.tells {P:Program} {f:FuncId} {args args':List PV} {r:PV} (h:ACall P f args r) (ht:PTL args' args):ACall P f args' r :=
 ⟨h.stands,fun K w vs hl hv=>h.calls K w vs hl ⟨by rw [hv.1,ht.1],fun k c v hc hvv=>by
  have hlt:k < args'.length:=by rw [ht.1];exact (List.getElem?_eq_some_iff.1 hc).1
  exact ht.2 k _ c (List.getElem?_eq_getElem hlt) hc _ _ _ (hv.2 k _ v (List.getElem?_eq_getElem hlt) hvv)⟩⟩
section
variable {P:Program} {n:Nat} {g:Base} {H:HEnv} {env:Env} {ops:List Oper}
end
theorem XC.tells {α:Type} {f:FuncId} {c:RC} {act:SM α} {val:α→AV} {l:List Ty} {p p':PV} (h:XC f [.pv p] c act val l) (ht:PTells p' p):XC f [.pv p'] c act val l:=fun u=>by
 have key:∀ {K:KK} {w:World} {ρ:Nat→Value} {H:HEnv} {vs:List Value},Zq K w ρ H [.box 0 0,.pv p'] vs→Zq K w ρ H [.box 0 0,.pv p] vs:=fun hv=>⟨hv.1,fun k c v hc hvv=>by
  match k with
  | 0=>exact hv.2 0 c v hc hvv
  | 1 =>
   simp at hc;subst hc
   have:=hv.2 1 (.pv p') v rfl hvv
   cases this with|pv _ _ hp=>exact .pv _ _ (ht _ _ _ hp)
  | k + 2=>simp at hc⟩
 have hu:=h u
 cases ho:zqd u c val (act l) with
 | ret r H' =>
  rw [ho] at hu
  exact ⟨hu.stands,fun g K ρ w vs hw1 hf hv=>hu.calls g K ρ w vs hw1 hf (key hv)⟩
 | pan v =>
  rw [ho] at hu
  exact ⟨hu.stands,fun g K ρ w vs hw1 hf hv=>hu.calls g K ρ w vs hw1 hf (key hv)⟩
def qK (c:List Pt) (at_:Int):Nat:=(c.takeWhile fun x=>x.p==1&&x.f==at_).length
def zpX (x y:Pt):Bool:=x.c==y.c&&(x.p==y.p&&true)
def Vt:List Pt→List Pt→Bool
 | [],[]=>true
 | x::a,y::b=>zpX x y&&Vt a b
 | _,_=>false
def zor (b:List Pt) (to:Int) (a:List Pt):Bool:=(List.range (qK b to + 1)).any fun k=>Vt (b.drop k) a
def zpA (l:List Cl) (i to:Int):Bool:=zor (VQ l to) to (VQ l i)
set_option maxHeartbeats 20000000
theorem zci {tb:Tab} {rs:List ResultVar} {i t:Nat} {H' H:HEnv} {env:Env} (hr:rs=[.tmp t]) (hg:env.get t=some (.own i)) (hf:YO H H' [(t,.own i)]):zo1 tb rs (.own i) H' .ret env H:=⟨.inr rfl,.inr ⟨t,hr,hg,hf⟩⟩
theorem zhB (l:List TD) (hl:l.length≤1000):ACallM Tryz.prog 134 [.pv (.slc 4 (l.map qx) false)] [] (.own 10) [(10,.mrow 61 4 (l.map qx))]:=by
 refine zJ zh Tryz.func134 rfl (by kernel_rfl) Tryz.ntmps134 (by simp) _ rfl (fun gB hw1=>?_)
 repeat' (first|refine zdI (t:=2) 10 61 4 (by decide) rfl rfl ?_|refine Yw zh rfl rfl rfl rfl rfl rfl rfl (fun bb hbb=>?_)|refine zgA zh 10 rfl rfl rfl rfl rfl rfl rfl rfl rfl ?_|refine zi9 10 rfl ?_|(refine zI ?_;first|refine Qs zh rfl rfl rfl rfl rfl rfl rfl (by show _ * 56≤_;simp;omega) (by simp;omega) rfl rfl ?_)|refine sA ?_|refine sC (fun _=>?_) (fun _=>?_)|fail)
 ·rename_i h
  rw [hbb h]
  exact zci rfl rfl tH
 ·exact zci rfl rfl tH
theorem zhe (l:List Me) (hl:l.length≤1000):ACallM Tryz.prog 136 [.pv (.slc 12 (l.map zM) false)] [] (.own 12) [(12,.mrow 68 12 (l.map zM))]:=by
 refine zJ zh Tryz.func136 rfl (by kernel_rfl) Tryz.ntmps136 (by simp) _ rfl (fun gB hw1=>?_)
 repeat' (first|refine zdI (t:=2) 12 68 12 (by decide) rfl rfl ?_|refine Yw zh rfl rfl rfl rfl rfl rfl rfl (fun bb hbb=>?_)|refine zgA zh 12 rfl rfl rfl rfl rfl rfl rfl rfl rfl ?_|refine zi9 12 rfl ?_|(refine zI ?_;first|refine Qs zh rfl rfl rfl rfl rfl rfl rfl (by show _ * 168≤_;simp;omega) (by simp;omega) rfl rfl ?_)|refine sA ?_|refine sC (fun _=>?_) (fun _=>?_)|fail)
 ·rename_i h
  rw [hbb h]
  exact zci rfl rfl tH
 ·exact zci rfl rfl tH
theorem zhv (l:List Fd) (hl:l.length≤1000):ACall Tryz.prog 135 [.slc 7 (l.map Zc) false] (.slc 7 (l.map Zc) false):=by
 refine zf zh Tryz.func135 rfl (by kernel_rfl) Tryz.ntmps135 (by simp) _ rfl (fun hw gB hgB=>?_)
 repeat' (first|refine Yw zh rfl rfl rfl rfl rfl rfl rfl (fun bb hbb=>?_)|refine zq rfl (QT zh rfl rfl rfl rfl rfl) rfl rfl ?_|(refine zI ?_;first|refine zq rfl (YA zh rfl rfl (.inl rfl) rfl rfl (by show _ * 64≤_;simp;omega) (by simp;omega)) rfl rfl ?_)|refine sA ?_|refine sC (fun _=>?_) (fun _=>?_)|fail)
 ·rename_i h
  have:l=[]:=by have:=hbb h;simpa using this
  subst this
  exact Zz (t:=2) (ps:=[.slc 7 [] false]) rfl (qo 7 false) rfl rfl
 ·exact retq rfl rfl
theorem zhc (l:List Int) (hl:l.length≤1000):ACall Tryz.prog 137 [.slc 1 (l.map pi) false] (.slc 1 (l.map pi) false):=by
 refine zf zh Tryz.func137 rfl (by kernel_rfl) Tryz.ntmps137 (by simp) _ rfl (fun hw gB hgB=>?_)
 repeat' (first|refine Yw zh rfl rfl rfl rfl rfl rfl rfl (fun bb hbb=>?_)|refine zq rfl (QT zh rfl rfl rfl rfl rfl) rfl rfl ?_|(refine zI ?_;first|refine zq rfl (YA zh rfl rfl (.inl rfl) rfl rfl (by show _ * 8≤_;simp;omega) (by simp;omega)) rfl rfl ?_)|refine sA ?_|refine sC (fun _=>?_) (fun _=>?_)|fail)
 ·rename_i h
  have:l=[]:=by have:=hbb h;simpa using this
  subst this
  exact Zz (t:=2) (ps:=[.slc 1 [] false]) rfl (qo 1 false) rfl rfl
 ·exact retq rfl rfl
theorem zfX (l:List Ins) (hl:l.length≤1000):ACall Tryz.prog 139 [.slc 6 (l.map yT) false] (.slc 6 (l.map yT) false):=by
 refine zf zh Tryz.func139 rfl (by kernel_rfl) Tryz.ntmps139 (by simp) _ rfl (fun hw gB hgB=>?_)
 repeat' (first|refine Yw zh rfl rfl rfl rfl rfl rfl rfl (fun bb hbb=>?_)|refine zq rfl (QT zh rfl rfl rfl rfl rfl) rfl rfl ?_|(refine zI ?_;first|refine zq rfl (YA zh rfl rfl (.inl rfl) rfl rfl (by show _ * 48≤_;simp;omega) (by simp;omega)) rfl rfl ?_)|refine sA ?_|refine sC (fun _=>?_) (fun _=>?_)|fail)
 ·rename_i h
  have:l=[]:=by have:=hbb h;simpa using this
  subst this
  exact Zz (t:=2) (ps:=[.slc 6 [] false]) rfl (qo 6 false) rfl rfl
 ·exact retq rfl rfl
theorem zhC (l:List Cl) (hl:l.length≤1000):ACall Tryz.prog 140 [.slc 10 (l.map Yr) false] (.slc 10 (l.map Yr) false):=by
 refine zf zh Tryz.func140 rfl (by kernel_rfl) Tryz.ntmps140 (by simp) _ rfl (fun hw gB hgB=>?_)
 repeat' (first|refine Yw zh rfl rfl rfl rfl rfl rfl rfl (fun bb hbb=>?_)|refine zq rfl (QT zh rfl rfl rfl rfl rfl) rfl rfl ?_|(refine zI ?_;first|refine zq rfl (YA zh rfl rfl (.inl rfl) rfl rfl (by show _ * 80≤_;simp;omega) (by simp;omega)) rfl rfl ?_)|refine sA ?_|refine sC (fun _=>?_) (fun _=>?_)|fail)
 ·rename_i h
  have:l=[]:=by have:=hbb h;simpa using this
  subst this
  exact Zz (t:=2) (ps:=[.slc 10 [] false]) rfl (qo 10 false) rfl rfl
 ·exact retq rfl rfl
end Go.Cg
