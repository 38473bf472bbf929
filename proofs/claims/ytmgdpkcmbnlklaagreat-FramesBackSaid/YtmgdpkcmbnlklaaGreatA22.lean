/- A part of the walks by abstract values: no statement of its own. -/
import Derived.Test.YtmgdpkcmbnlklaaGreatA18
import Derived.Test.YtmgdpkcmbnlklaaGreatA19
set_option linter.unusedVariables false
set_option linter.unusedSimpArgs false
namespace Go.Cg
open Go.Proofs
theorem PInv.fold {g:Img} {t:Int}:∀ (l:List Int) {met:List Int},PInv g t met→(∀ x∈l,0≤x∧x < g.types.length)→PInv g t (l.foldl qU met)
 | [],_,h,_=>h
 | f::l,_,h,hl=>PInv.fold l (h.add (hl f (by simp))) fun x hx=>hl x (by simp [hx])
theorem zcz {g:Img} {t:Int}:∀ (n i:Nat) (met:List Int),PInv g t met→i≤met.length→g.fields.length + g.types.length + 1≤n + i →
  (∀ j (h:j < i) (h2:j < met.length),∀ y∈partsOf g met[j],y∈met) →
  (∀ x∈met,x∈zaG g n i met)∧(∀ u∈zaG g n i met,∀ y∈partsOf g u,y∈zaG g n i met)∧(∀ x∈zaG g n i met,Rch (partsOf g) met x)
 | 0,i,met,hm,hi,hn,hc=>by
  have:=hm.len;omega
 | n + 1,i,met,hm,hi,hn,hc=>by
  rw [zaG]
  by_cases hlt:i < met.length
  ·rw [List.getElem?_eq_getElem hlt]
   simp only [zh3]
   have hm2:=PInv.fold (partsOf g met[i]) hm (fun x hx=>ZQ hx)
   obtain ⟨r,hr⟩:=zei (partsOf g met[i]) met
   have hl:met.length≤((partsOf g met[i]).foldl qU met).length:=by rw [hr];simp
   obtain ⟨q1,q2,q3⟩:=zcz n (i + 1) ((partsOf g met[i]).foldl qU met) hm2 (by omega) (by omega) (by
    intro j hj hj2 y hy
    rw [Yr]
    have hjm:j < met.length:=by omega
    have e:((partsOf g met[i]).foldl qU met)[j]=met[j]:=by simp only [hr];rw [List.getElem_append_left hjm]
    rw [e] at hy
    by_cases hji:j=i
    ·subst hji;exact .inr hy
    ·exact .inl (hc j (by omega) hjm y hy))
   refine ⟨fun x hx=>q1 x (Yr.2 (.inl hx)),q2,fun x hx=>?_⟩
   have:=q3 x hx
   clear q1 q2 q3 hx
   induction this with
   | base x hx =>
    rcases Yr.1 hx with h|h
    ·exact .base x h
    ·exact .step _ x (.base _ (List.getElem_mem hlt)) h
   | step x y _ hy ih=>exact .step x y ih hy
  ·rw [List.getElem?_eq_none (by omega)]
   simp only
   refine ⟨fun x hx=>hx,fun u hu y hy=>?_,fun x hx=>.base x hx⟩
   obtain ⟨j,hj,rfl⟩:=List.getElem_of_mem hu
   exact hc j (by omega) hj y hy
theorem zhK {g:Img} {t x:Int}:x∈zlp g t↔Rch (partsOf g) (partsOf g t) x:=by
 obtain ⟨q1,q2,q3⟩:=zcz (g:=g) (t:=t) (g.fields.length + g.types.length + 1) 0 (partsOf g t) ⟨[],by simp⟩ (by omega) (by omega) (fun j h=>by omega)
 refine ⟨fun hx=>q3 x hx,fun hx=>?_⟩
 induction hx with
 | base x hx=>exact q1 x hx
 | step x y _ hy ih=>exact q2 x ih y hy
theorem zdQ {g:Img} {t x:Int}:x∈sortL (Ym g.types.length (partsOf g) (partsOf g t))↔x∈zlp g t:=by
 rw [zfl,zhK]
 exact (Vl (N:=g.types.length) (fun x _ _ y hy=>ZQ hy) (fun x hx=>ZQ hx)).1 x
theorem zk7:∀ n:Fin 32,Qe (n.val:Int) 1=Yq (n.val:Int) 1∧Qe (n.val:Int) 4=Yq (n.val:Int) 4∧Qe (n.val:Int) 8=Yq (n.val:Int) 8∧Qe (n.val:Int) 16=Yq (n.val:Int) 16:=by decide +kernel
theorem zjw {f:Int} (h0:0≤f) (h1:f≤31):Qe f 1=Yq f 1∧Qe f 4=Yq f 4∧Qe f 8=Yq f 8∧Qe f 16=Yq f 16:=by
 have:=zk7 ⟨f.toNat,by omega⟩
 simpa only [Int.toNat_of_nonneg h0] using this
theorem zih {td:TD} (h0:0≤td.flags) (h1:td.flags≤31):qP td=ZG td:=by
 obtain ⟨e1,e2,e3,e4⟩:=zjw h0 h1
 rw [qP,ZG,zd9 h0 h1,e1,e2,e3,e4]
 generalize Yq td.flags 1=b1
 generalize Yq td.flags 4=b2
 generalize Yq td.flags 8=b3
 generalize Yq td.flags 16=b4
 generalize (td.ext == -1)=b5
 generalize ((td.faces.length:Int)==0)=b6
 repeat' split
 all_goals (try rfl)
 all_goals (cases b1 <;> cases b2 <;> cases b3 <;> cases b4 <;> cases b5 <;> cases b6 <;> rfl)
theorem XC {g:Img} (hf:zW g=true) {t:Int} {td:TD} (h:typeAt g t=some td):0≤td.flags∧td.flags≤31 ∧ -1≤td.ext∧td.ext < g.types.length∧td.faces.length≤4∧∀ f∈td.faces,0≤f∧f < g.types.length :=
 Xv ((zS hf).2.2.2 td (zar h))
theorem ziU {g:Img} (hf:zW g=true) (t:Int):0≤XZ g t∧XZ g t≤31:=by
 unfold XZ
 cases h:typeAt g t with
 | none=>simp
 | some td=>obtain ⟨h0,h1,_⟩:=XC hf h;exact ⟨h0,h1⟩
theorem zkm {g:Img} (hf:zW g=true) (t:Int) : -1≤Xt g t:=by
 unfold Xt
 cases h:typeAt g ((up g t).getLastD 0) with
 | none=>simp
 | some td=>obtain ⟨_,_,h1,_⟩:=XC hf h;exact h1
theorem zlD {g:Img} (hf:zW g=true) {t:Int} {td:TD} (h:typeAt g t=some td):zeD g t td=zjs g t td:=by
 obtain ⟨_,_,h1,_⟩:=XC hf h
 obtain ⟨f0,f1⟩:=ziU hf td.ext
 have ht:=zkm hf t
 rw [zeD,zjs,zhY hf,(zjw f0 f1).2.2.1]
 have e1:(td.ext == -1)=!decide (0≤td.ext):=by rw [Bool.eq_iff_iff];simp;omega
 have e2:(Xt g t == -1)=decide (Xt g t < 0):=by rw [Bool.eq_iff_iff];simp;omega
 rw [e1,e2]
def zb0 (g:Img) (t:Int) (td:TD):Bool:=(List.range td.faces.length).all (zbg g td.faces)&&(zY g t != 2||!decide (t∈sortL (Ym g.types.length (zX g) td.faces)))
theorem zmI {g:Img} {t:Int} {td:TD} (h:typeAt g t=some td) (he:td.ext = -1):up g t=[t]:=by
 have hx:typeAt g (-1)=none:=by rw [typeAt,if_neg (by omega)]
 rw [up,XV,h]
 simp only [List.not_mem_nil,if_false,List.nil_append]
 cases hn:g.types.length with
 | zero=>rfl
 | succ n=>rw [XV,he,hx]
theorem zbr {g:Img} {t:Int} {td:TD} (h:typeAt g t=some td):zX g t=td.faces:=by rw [zX,h]
theorem zki {g:Img} {t:Int} {td:TD} (h:typeAt g t=some td) (hfl:ZG td=true) (hk:zY g t=2):td.ext = -1:=by
 rw [zY,h] at hk
 simp only at hk
 rw [ZG,hk] at hfl
 simp at hfl
 exact hfl.1.1.1.1
theorem zkJ {g:Img} (hf:zW g=true) {t:Int} {td:TD} (h:typeAt g t=some td):(qP td&&zeD g t td&&zb0 g t td)=(ZG td&&VB g t td):=by
 obtain ⟨h0,h1,_⟩:=XC hf h
 rw [zih h0 h1,zlD hf h,zb0,VB]
 cases hfl:ZG td
 ·rfl
 ·have e:(zY g t != 2||!decide (t∈sortL (Ym g.types.length (zX g) td.faces)))=(zY g t != 2||!decide (t∈zey g t)):=by
   by_cases hk:zY g t=2
   ·have hx:=zki h hfl hk
    have hF:=zla hf
    have:t∈sortL (Ym g.types.length (zX g) td.faces)↔t∈zey g t:=by
     rw [zfl,ziw hF,RF,zmI h hx]
     simp only [List.flatMap_cons,List.flatMap_nil,List.append_nil]
     rw [zbr h]
     exact (Vl (N:=g.types.length) (fun x _ _ y hy=>(hF.at x).2 y hy) (fun x hx=>by have:=(hF.at t).2 x;rw [zbr h] at this;exact this hx)).1 t
    rw [decide_eq_decide.2 this]
   ·have:(zY g t != 2)=true:=by simp [hk]
    rw [this];rfl
  rw [e];simp only [Bool.and_assoc,Bool.true_and]
def WO (l:List Int) (p:Int→Int→Bool):Bool:=(List.range l.length).any fun i=>(l.take i).any (p (l.getD i 0))
theorem zhl {l:List Int} {p:Int→Int→Bool}:(!WO l p)=(List.range l.length).all fun i=>(List.range i).all fun k=>!p (l.getD i 0) (l.getD k 0):=by
 rw [Bool.eq_iff_iff]
 simp only [WO,Bool.not_eq_true',List.any_eq_false,List.all_eq_true,List.mem_range,Bool.not_eq_true]
 constructor
 ·intro h i hi k hk
  refine h i hi _ ?_
  rw [List.getD_eq_getElem?_getD,List.getElem?_eq_getElem (show k < l.length by omega)]
  exact List.mem_take_iff_getElem.2 ⟨k,by omega,rfl⟩
 ·intro h i hi x hx
  obtain ⟨k,hk,rfl⟩:=List.mem_take_iff_getElem.1 hx
  have:=h i hi k (by omega)
  rwa [zZ (show k < l.length by omega)] at this
def zdL (g:Img) (a b:Int):Bool:=(fName g a).toList==(fName g b).toList
def mAt (g:Img) (a:Int):Me:=g.methods.getD a.toNat default
def Qs (x y:Me):Bool:=x.name.toList==y.name.toList&&decide (x.ret=y.ret)&&IntKind.i64.wrap ((BitVec.ofInt IntKind.i64.bits (IntKind.i64.wrap ((BitVec.ofInt IntKind.i64.bits x.flags ^^^ BitVec.ofInt IntKind.i64.bits y.flags).toNat:Int)) &&& BitVec.ofInt IntKind.i64.bits 1).toNat:Int)==0&&decide (x.params=y.params)
def zb8 (g:Img) (t:Int) (td:TD):Bool:=(List.range g.types.length).all (zab g t td)&&!WO (fieldsOf g t) (zdL g)&&!WO (methodsOf g t) (fun a b=>Qs (mAt g a) (mAt g b))
theorem zlT:∀ a b:Fin 32,(IntKind.i64.wrap ((BitVec.ofInt IntKind.i64.bits (IntKind.i64.wrap ((BitVec.ofInt IntKind.i64.bits (a.val:Int) ^^^ BitVec.ofInt IntKind.i64.bits (b.val:Int)).toNat:Int)) &&& BitVec.ofInt IntKind.i64.bits 1).toNat:Int)==0)=((a.val:Int).tmod 2==(b.val:Int).tmod 2):=by decide +kernel
theorem zjL {x y:Me} (hx0:0≤x.flags) (hx1:x.flags≤31) (hy0:0≤y.flags) (hy1:y.flags≤31):Qs x y=(x.name.toList==y.name.toList&&zc3 x y):=by
 have:=zlT ⟨x.flags.toNat,by omega⟩ ⟨y.flags.toNat,by omega⟩
 simp only [Int.toNat_of_nonneg hx0,Int.toNat_of_nonneg hy0] at this
 rw [Qs,zc3,this]
 simp only [Bool.and_assoc]
theorem zfm {g:Img} (hf:zW g=true) {a:Nat} (h:a < g.methods.length):Qw g (g.methods.getD a default)=true:=by
 simp only [zW,Bool.and_eq_true,List.all_eq_true] at hf
 have:=hf.2 a (by simpa using h)
 rw [zfk] at this
 simp only [Bool.and_eq_true] at this
 exact this.2
theorem zai {g:Img} {m:Me} (h:Qw g m=true):0≤m.flags∧m.flags≤31:=by
 simp only [Qw,Bool.and_eq_true,decide_eq_true_eq] at h
 omega
theorem zkL {g:Img} (hf:zW g=true) (t:Int) (td:TD):zb8 g t td=zfA g t td:=by
 rw [zb8,zfA,zhl,zhl]
 congr 1
 rw [Bool.eq_iff_iff]
 simp only [List.all_eq_true,List.mem_range,zdl]
 have key:∀ i,i < (methodsOf g t).length→∀ k,k < i→Qs (mAt g ((methodsOf g t).getD i 0)) (mAt g ((methodsOf g t).getD k 0))=((g.methods.getD ((methodsOf g t).getD i 0).toNat default).name.toList==(g.methods.getD ((methodsOf g t).getD k 0).toNat default).name.toList&&zc3 (g.methods.getD ((methodsOf g t).getD i 0).toNat default) (g.methods.getD ((methodsOf g t).getD k 0).toNat default)):=by
  intro i hi k hk
  have hk':k < (methodsOf g t).length:=by omega
  rw [zZ hi,zZ hk']
  obtain ⟨_,a1⟩:=Zt (List.getElem_mem hi)
  obtain ⟨_,a2⟩:=Zt (List.getElem_mem hk')
  obtain ⟨b1,b2⟩:=zai (zfm hf a1)
  obtain ⟨b3,b4⟩:=zai (zfm hf a2)
  exact zjL b1 b2 b3 b4
 constructor
 ·intro h i hi k hk
  rw [←key i hi k hk];exact h i hi k hk
 ·intro h i hi k hk
  rw [key i hi k hk];exact h i hi k hk
def zbE (g:Img) (t:Int):Bool:=(fieldsOf g t).all (zfF g (zY g t))&&(zY g t != 1||!decide (t∈sortL (Ym g.types.length (partsOf g) (partsOf g t))))
theorem zku (g:Img) (t:Int):zbE g t=zaI g t:=by
 rw [zbE,zaI,decide_eq_decide.2 zdQ]
theorem zlw {g:Img} (h:ZL g=true) {k:Nat} (hk:k < g.types.length):qL g k=0:=by
 have hf:=Zg h
 cases hx:(List.range g.types.length).find? (fun t=>qL g t != 0) with
 | none =>
  have:=List.find?_eq_none.1 hx k (by simpa using hk)
  simpa using this
 | some t =>
  have h2:=List.find?_some hx
  rw [ZL,Qg,hf] at h
  simp [hx] at h
  simp [h] at h2
theorem zeT {g:Img} (hf:zW g=true) {k:Nat} (hk:k < g.types.length) :
  qL g k=if !(qP g.types[k]&&zeD g k g.types[k]&&zb0 g k g.types[k]) then 7 else if !zb8 g k g.types[k] then 18 else if !zbE g k then 20 else 0:=by
 rw [zdn hk,zkJ hf (zdq hk),zkL hf,zku]
 cases ZG g.types[k] <;> cases VB g k g.types[k] <;> rfl
set_option maxHeartbeats 20000000
theorem Xm (g:Img) (hf:zW g=true) (t:Int):ACall Tryz.prog 39 [zO g,pi t] (pi (zY g t)):=by
 have:=zdi g t;rwa [zhY hf] at this
theorem Yu (g:Img) (t:Int) (hg:g.fields.length≤1000):ACall Tryz.prog 70 [zO g,pi t] (ints (fieldsOf g t)):=by
 refine zf zk Tryz.func70 rfl (by kernel_rfl) Tryz.ntmps70 (by simp) _ rfl (fun hw gB hgB=>?_)
 repeat' (first|refine sA ?_|refine sC (fun _=>?_) (fun _=>?_)|fail)
 refine Ye (t:=5) 0 3 1 (by decide) rfl rfl ?_
 refine zI (fun x:Nat × List Int=>[(1,.pv (pi t)),(2,.pv (.ptr (zO g) 0)),(5,.own 0),(9,.pv (.slc 7 (g.fields.map YA) false)),(10,.pv (pi g.fields.length)),(11,.pv (pi x.1))]) (fun x=>[(0,.row 3 1 (x.2.map pi))])
  (fun x=>x.1≤g.fields.length∧x.2.length≤x.1∧x.2++((nums g.fields.length).drop x.1).filter (fun i=>there g t&&(g.fields.getD i.toNat default).owner==t)=fieldsOf g t) (fun x=>g.fields.length - x.1) (0,[]) ⟨by simp,by simp,rfl⟩ (tS) ⟨zh rfl zi,rfl⟩ ?_
 rintro ⟨k,out⟩ ⟨hk,hol,hr⟩
 simp only at hk hol hr
 by_cases hlt:k < g.fields.length
 ·have he:=qQ (f:=YA) hlt
  rw [drop_cons (by simpa [nums] using hlt),List.filter_cons,zgR,Int.toNat_natCast,zZ hlt] at hr
  have c1:=Zh g t
  cases hth:there g t
  ·rw [hth] at c1
   repeat' (first|(refine shC ?_;first|refine qC c1 ?_)|(refine shX ?_;first|refine qX he ?_)|refine sK ?_|refine sC (fun _=>?_) (fun _=>?_)|fail)
   exact ⟨(k + 1,out),⟨by simp;omega,by simp;omega,by simpa [hth] using hr⟩,tD,tS,⟨Zv rfl rfl zi,rfl⟩⟩
  ·rw [hth] at c1
   repeat' (first|(refine shC ?_;first|refine qC c1 ?_)|(refine shX ?_;first|refine qX he ?_)|(refine yC ?_;first|refine qw zk rfl rfl rfl rfl rfl rfl rfl (by show _ * 8≤_;simp;omega) (by simp;omega) rfl rfl ?_)|refine sK ?_|refine sC (fun _=>?_) (fun _=>?_)|fail)
   ·rename_i hx
    rw [hth,hx] at hr
    exact ⟨(k + 1,out++[(k:Int)]),⟨by simp;omega,by simp;omega,by simpa [hth] using hr⟩,tD,tS,⟨Zv rfl (by simp) zi,rfl⟩⟩
   ·rename_i hx
    rw [hth,hx] at hr
    exact ⟨(k + 1,out),⟨by simp;omega,by simp;omega,by simpa [hth] using hr⟩,tD,tS,⟨Zv rfl rfl zi,rfl⟩⟩
 ·rw [drop_end (by simp [nums];omega)] at hr
  repeat' (first|refine sK ?_|refine sC (fun _=>?_) (fun _=>?_)|fail)
  exact retq rfl (by rw [←hr];simp [zl,ints])
theorem zeX (g:Img) (t:Int) (hg:g.methods.length≤1000):ACall Tryz.prog 81 [zO g,pi t] (ints (methodsOf g t)):=by
 refine zf zk Tryz.func81 rfl (by kernel_rfl) Tryz.ntmps81 (by simp) _ rfl (fun hw gB hgB=>?_)
 repeat' (first|refine sA ?_|refine sC (fun _=>?_) (fun _=>?_)|fail)
 refine Ye (t:=5) 0 3 1 (by decide) rfl rfl ?_
 refine zI (fun x:Nat × List Int=>[(1,.pv (pi t)),(2,.pv (.ptr (zO g) 0)),(5,.own 0),(9,.pv (.slc 12 (g.methods.map YG) false)),(10,.pv (pi g.methods.length)),(11,.pv (pi x.1))]) (fun x=>[(0,.row 3 1 (x.2.map pi))])
  (fun x=>x.1≤g.methods.length∧x.2.length≤x.1∧x.2++((nums g.methods.length).drop x.1).filter (fun i=>there g t&&(g.methods.getD i.toNat default).owner==t)=methodsOf g t) (fun x=>g.methods.length - x.1) (0,[]) ⟨by simp,by simp,rfl⟩ (tS) ⟨zh rfl zi,rfl⟩ ?_
 rintro ⟨k,out⟩ ⟨hk,hol,hr⟩
 simp only at hk hol hr
 by_cases hlt:k < g.methods.length
 ·have he:=qQ (f:=YG) hlt
  rw [drop_cons (by simpa [nums] using hlt),List.filter_cons,zgR,Int.toNat_natCast,zZ hlt] at hr
  have c1:=Zh g t
  cases hth:there g t
  ·rw [hth] at c1
   repeat' (first|(refine shC ?_;first|refine qC c1 ?_)|(refine shX ?_;first|refine qX he ?_)|refine sK ?_|refine sC (fun _=>?_) (fun _=>?_)|fail)
   exact ⟨(k + 1,out),⟨by simp;omega,by simp;omega,by simpa [hth] using hr⟩,tD,tS,⟨Zv rfl rfl zi,rfl⟩⟩
  ·rw [hth] at c1
   repeat' (first|(refine shC ?_;first|refine qC c1 ?_)|(refine shX ?_;first|refine qX he ?_)|(refine yC ?_;first|refine qw zk rfl rfl rfl rfl rfl rfl rfl (by show _ * 8≤_;simp;omega) (by simp;omega) rfl rfl ?_)|refine sK ?_|refine sC (fun _=>?_) (fun _=>?_)|fail)
   ·rename_i hx
    rw [hth,hx] at hr
    exact ⟨(k + 1,out++[(k:Int)]),⟨by simp;omega,by simp;omega,by simpa [hth] using hr⟩,tD,tS,⟨Zv rfl (by simp) zi,rfl⟩⟩
   ·rename_i hx
    rw [hth,hx] at hr
    exact ⟨(k + 1,out),⟨by simp;omega,by simp;omega,by simpa [hth] using hr⟩,tD,tS,⟨Zv rfl rfl zi,rfl⟩⟩
 ·rw [drop_end (by simp [nums];omega)] at hr
  repeat' (first|refine sK ?_|refine sC (fun _=>?_) (fun _=>?_)|fail)
  exact retq rfl (by rw [←hr];simp [zl,ints])
theorem zcm (g:Img) (t:Int) (hf:zW g=true):ACall Tryz.prog 84 [zO g,pi t] (ints (partsOf g t)):=by
 refine zf zk Tryz.func84 rfl (by kernel_rfl) Tryz.ntmps84 (by simp) _ rfl (fun hw gB hgB=>?_)
 have hg:g.fields.length≤1000:=by have:=(zS hf).2.1;omega
 have hfl:=Qr g t
 repeat' (first|(refine shC ?_;first|refine qC (Yu g t hg) ?_)|refine sA ?_|refine sC (fun _=>?_) (fun _=>?_)|fail)
 refine Ye (t:=5) 0 3 1 (by decide) rfl rfl ?_
 refine zI (fun x:Nat × List Int=>[(2,.pv (.ptr (zO g) 0)),(5,.own 0),(11,.pv (ints (fieldsOf g t))),(12,.pv (pi (fieldsOf g t).length)),(13,.pv (pi x.1))]) (fun x=>[(0,.row 3 1 (x.2.map pi))])
  (fun x=>x.1≤(fieldsOf g t).length∧x.2.length≤x.1∧x.2++(((fieldsOf g t).drop x.1).filter (zb3 g)).map (fun i=>(g.fields.getD i.toNat default).ty.index)=partsOf g t) (fun x=>(fieldsOf g t).length - x.1) (0,[]) ⟨by simp,by simp,rfl⟩ (tS) ⟨zh rfl zi,rfl⟩ ?_
 rintro ⟨k,out⟩ ⟨hk,hol,hr⟩
 simp only at hk hol hr
 by_cases hlt:k < (fieldsOf g t).length
 ·have he:=ZR hlt
  obtain ⟨h0,hi⟩:=Zl (List.getElem_mem hlt)
  have hef:=QV (f:=YA) hi
  rw [drop_cons hlt,List.filter_cons,zb3] at hr
  simp only [zZ hi] at hr
  repeat' (first|(refine shC ?_;first|refine qC (Xm _ hf _) ?_)|(refine shX ?_;first|refine qX he ?_|refine zy rfl (zL zk rfl rfl rfl rfl rfl rfl h0 hef) rfl rfl ?_|refine AD.step _ _ _ _ _ rfl (zL zk rfl rfl rfl rfl rfl rfl h0 hef) rfl rfl ?_)|(refine yC ?_;first|refine qw zk rfl rfl rfl rfl rfl rfl rfl (by show _ * 8≤_;simp;omega) (by simp;omega) rfl rfl ?_)|refine sK ?_|refine sC (fun _=>?_) (fun _=>?_)|fail)
  ·rw [if_pos (by simp_all)] at hr
   exact ⟨(k + 1,out++[g.fields[(fieldsOf g t)[k].toNat].ty.index]),⟨by simp;omega,by simp;omega,by rw [List.map_cons,zZ hi] at hr;simpa using hr⟩,tD,tS,⟨Zv rfl (by simp) zi,rfl⟩⟩
  all_goals
   rw [if_neg (by simp_all)] at hr
   exact ⟨(k + 1,out),⟨by simp;omega,by simp;omega,by simpa using hr⟩,tD,tS,⟨Zv rfl rfl zi,rfl⟩⟩
 ·rw [drop_end (by omega)] at hr
  repeat' (first|refine sK ?_|refine sC (fun _=>?_) (fun _=>?_)|fail)
  exact retq rfl (by rw [←hr];simp [zl,ints])
def whole (t:Ty):Bool:=t.kind != 6||t.ref||decide (0 < t.dims)
def yJ (g:Img) (t:Int):List Fd:=g.fields.filter fun f=>f.owner==t&&!f.static
def intTy:Ty:=⟨2,0,0,false⟩
def Qb (g:Img):Nat→Ty→List Ty
 | 0,_=>[]
 | n + 1,t=>if t.kind==1 then [] else if whole t then [t] else
   if ((yJ g t.index).flatMap fun f=>Qb g n f.ty).length=0 then [intTy] else (yJ g t.index).flatMap fun f=>Qb g n f.ty
def Dp (g:Img):Nat→Ty→Prop
 | 0,t=>whole t=true
 | n + 1,t=>whole t=true∨∀ f∈yJ g t.index,Dp g n f.ty
theorem Dp.whole {g:Img} {t:Ty} (h:Cg.whole t=true):∀ n,Dp g n t
 | 0=>h
 | _ + 1=>.inl h
theorem WT {α β:Type} {l:List α} {f h:α→List β} (hh:∀ x∈l,f x=h x):l.flatMap f=l.flatMap h:=by
 induction l with
 | nil=>rfl
 | cons x l ih=>rw [List.flatMap_cons,List.flatMap_cons,hh x (by simp),ih (fun y hy=>hh y (by simp [hy]))]
theorem zci {g:Img}:∀ (n:Nat) (t:Ty),Dp g n t→∀ m,n < m→Qb g m t=Qb g (n + 1) t
 | 0,t,h,m,hm=>by
  obtain ⟨k,rfl⟩:∃ k,m=k + 1:=⟨m - 1,by omega⟩
  have hwt:whole t=true:=h
  rw [Qb,Qb,hwt];rfl
 | n + 1,t,h,m,hm=>by
  obtain ⟨k,rfl⟩:∃ k,m=k + 1:=⟨m - 1,by omega⟩
  rw [Qb,Qb]
  rcases h with h|h
  ·rw [h];rfl
  ·rw [WT (fun f hf=>zci n f.ty (h f hf) k (by omega))]
def yx (g:Img) (t:Ty):List Ty:=Qb g (g.types.length + 2) t
def fcs (g:Img) (l:List Fd):List Ty:=l.flatMap fun f=>yx g f.ty
theorem zdh (g:Img) (f:Fd) (l:List Fd):fcs g (f::l)=yx g f.ty++fcs g l:=rfl
theorem zaP (g:Img) (l m:List Fd):fcs g (l++m)=fcs g l++fcs g m:=by simp [fcs]
def YV (g:Img) (t:Ty):Bool :=
 Yy t&&(if t.kind==5 then zY g t.index==0||zY g t.index==2||zY g t.index==3 else t.kind != 6||zY g t.index==1)
def qZ (g:Img):Bool:=(List.range g.fields.length).all fun i=>YV g (g.fields.getD i default).ty
theorem zeh {g:Img} {t:Ty} (h:YV g t=true) (hw:whole t=false):t.kind=6∧t.ref=false∧t.dims=0∧zY g t.index=1:=by
 simp only [whole,Bool.or_eq_false_iff,bne_eq_false_iff_eq,decide_eq_false_iff_not] at hw
 obtain ⟨⟨h1,h2⟩,h3⟩:=hw
 rw [YV,Bool.and_eq_true] at h
 obtain ⟨hp,hk⟩:=h
 have hd:0≤t.dims:=by
  unfold Yy at hp
  split at hp
  ·cases hp
  ·rename_i hc;simp only [Bool.or_eq_true,decide_eq_true_eq,not_or] at hc;omega
 have hk':zY g t.index=1:=by simpa [h1] using hk
 exact ⟨h1,h2,by omega,hk'⟩
theorem zd4 {g:Img} (h:qZ g=true) {f:Fd} (hf:f∈g.fields):YV g f.ty=true:=by
 obtain ⟨k,hk,rfl⟩:=List.getElem_of_mem hf
 have:=List.all_eq_true.1 h k (by simpa using hk)
 rwa [zZ hk] at this
theorem zbR {g:Img} (hf:zW g=true) {f:Fd} (h:f∈g.fields):0≤f.owner∧f.owner < g.types.length∧Qv f.ty 1 g.types.length=true:=by
 obtain ⟨k,hk,rfl⟩:=List.getElem_of_mem h
 simp only [zW,Bool.and_eq_true,List.all_eq_true] at hf
 have:=hf.1.2 k (by simpa using hk)
 rw [zkN hk] at this
 simp only [Bool.and_eq_true,decide_eq_true_eq] at this
 exact ⟨this.1.1.1.2,this.1.1.2,this.2⟩
theorem zl4 {g:Img} (hf:zW g=true) {u:Int} {f:Fd} (h:f∈yJ g u) (hu:YV g f.ty=true) (hw:whole f.ty=false):f.ty.index∈partsOf g u:=by
 obtain ⟨h1,_,h3,h4⟩:=zeh hu hw
 obtain ⟨hm,hc⟩:=List.mem_filter.1 h
 simp only [Bool.and_eq_true,beq_iff_eq,Bool.not_eq_true'] at hc
 obtain ⟨ho,hs⟩:=hc
 obtain ⟨o0,o1,_⟩:=zbR hf hm
 obtain ⟨k,hk,rfl⟩:=List.getElem_of_mem hm
 have hgk:g.fields.getD ((k:Int)).toNat default=g.fields[k]:=by rw [Int.toNat_natCast,zZ hk]
 rw [partsOf,List.mem_map]
 refine ⟨(k:Int),List.mem_filter.2 ⟨List.mem_filter.2 ⟨zdz.2 ⟨by omega,by omega⟩,?_⟩,?_⟩,by rw [hgk]⟩
 ·rw [hgk,WW (by omega),ho];simp
 ·rw [zb3,hgk];simp [h1,hs,h3,h4]
theorem zk0 {g:Img} {p u:Int} (h:Rch (partsOf g) (partsOf g p) u):zY g u=1:=by
 have key:∀ q,u∈partsOf g q→zY g u=1:=by
  intro q hq
  simp only [partsOf,List.mem_map,List.mem_filter,zb3,Bool.and_eq_true,beq_iff_eq] at hq
  obtain ⟨i,⟨_,_,hk⟩,rfl⟩:=hq
  exact hk
 cases h with
 | base _ hx=>exact key _ hx
 | step x _ _ hy=>exact key _ hy
theorem zi6 {g:Img} (hf:zW g=true) (hu:qZ g=true) (hz:∀ u:Int,zY g u=1→u∉zlp g u):∀ (n:Nat) (path:List Int) (t:Ty),path.Nodup→(∀ p∈path,0≤p∧p < g.types.length)→g.types.length + 1≤path.length + n →
  (∀ p∈path,Rch (partsOf g) (partsOf g p) t.index)→Dp g n t
 | 0,path,t,h1,h2,h3,h4=>by have:=ZA _ _ h1 h2;omega
 | n + 1,path,t,h1,h2,h3,h4=>by
  cases hw:whole t
  ·refine .inr fun f hfo=>?_
   cases hwf:whole f.ty
   ·have hm:=(List.mem_filter.1 hfo).1
    have hc:=(List.mem_filter.1 hfo).2
    simp only [Bool.and_eq_true,beq_iff_eq] at hc
    obtain ⟨o0,o1,_⟩:=zbR hf hm
    have hp:=zl4 hf hfo (zd4 hu hm) hwf
    have hni:t.index∉path:=fun hin=>by
     have hr:=h4 _ hin
     exact hz _ (zk0 hr) (zhK.2 hr)
    refine zi6 hf hu hz n (t.index::path) f.ty (List.nodup_cons.2 ⟨hni,h1⟩) ?_ (by simp;omega) ?_
    ·intro p hp'
     rcases List.mem_cons.1 hp' with rfl|hp'
     ·omega
     ·exact h2 p hp'
    ·intro p hp'
     rcases List.mem_cons.1 hp' with rfl|hp'
     ·exact .base _ hp
     ·exact .step _ _ (h4 p hp') hp
   ·exact Dp.whole hwf n
  ·exact .inl hw
theorem ziF {g:Img} (h:ZL g=true) {u:Int} (hk:zY g u=1):u∉zlp g u:=by
 have hf:=Zg h
 obtain ⟨td,htd,_⟩:=zaq hk (by omega)
 have hlt:=QD htd
 have hck:=zlw h (k:=u.toNat) (by omega)
 rw [zdn (by omega)] at hck
 have e:((u.toNat:Nat):Int)=u:=Int.toNat_of_nonneg hlt.1
 rw [e] at hck
 have hs:zaI g u=true:=by
  cases hs:zaI g u
  ·rw [hs] at hck
   split at hck
   ·cases hck
   ·split at hck
    ·cases hck
    ·simp at hck
  ·rfl
 rw [zaI,hk,Bool.and_eq_true] at hs
 simpa using hs.2
theorem zfY {g:Img} (h:ZL g=true) (hu:qZ g=true) (t:Ty):Dp g (g.types.length + 1) t :=
 zi6 (Zg h) hu (fun _ hk=>ziF h hk) _ [] t (by simp) (by simp) (by simp) (by simp)
theorem XU {g:Img} (h:ZL g=true) (hu:qZ g=true) (t:Ty):yx g t=if t.kind==1 then [] else if whole t then [t] else if (fcs g (yJ g t.index)).length=0 then [intTy] else fcs g (yJ g t.index):=by
 have hd:=zfY h hu t
 rcases hd with hd|hd
 ·rw [yx,Qb,hd];rfl
 ·have e:((yJ g t.index).flatMap fun f=>Qb g (g.types.length + 1) f.ty)=fcs g (yJ g t.index):=WT (fun f hf=>(zci _ _ (hd f hf) _ (by omega)).symm)
  rw [yx,Qb,e]
def Cnt (b r s:Nat):Prop:=min r (b + 1)=min s (b + 1)
theorem Cnt.zero (b:Nat):Cnt b 0 0:=rfl
theorem Cnt.add {b r s l:Nat} (h:Cnt b r s) (hr:r≤b):Cnt b (r + min l (b + 1)) (s + l):=by unfold Cnt at h ⊢;omega
theorem Cnt.stay {b r s l:Nat} (h:Cnt b r s) (hr:b < r):Cnt b r (s + l):=by unfold Cnt at h ⊢;omega
theorem Cnt.more {b r s:Nat} (h:Cnt b r s):b < r↔b < s:=by unfold Cnt at h;omega
def XT (g:Img) (b:Nat) (t:Ty):Nat:=min (yx g t).length (b + 1)
theorem XY (g:Img) (f:Fd) (l:List Fd):(fcs g (f::l)).length=(yx g f.ty).length + (fcs g l).length:=by rw [zdh,List.length_append]
theorem zd6 (g:Img) (l m:List Fd):(fcs g (l++m)).length=(fcs g l).length + (fcs g m).length:=by rw [zaP,List.length_append]
def objT (g:Img) (t:Int):List Ty:=(up g t).reverse.flatMap fun u=>fcs g (yJ g u)
theorem zhO (g:Img):∀ l:List Int,(l.flatMap fun u=>fcs g (yJ g u)).length=(l.map fun u=>(fcs g (yJ g u)).length).sum
 | []=>rfl
 | x::l=>by rw [List.flatMap_cons,List.length_append,zhO g l];rfl
theorem zl5 (l:List Nat):l.reverse.sum=l.sum:=by
 induction l with
 | nil=>rfl
 | cons x l ih=>rw [List.reverse_cons,List.sum_append,ih];simp;omega
theorem zkA (g:Img) (t:Int):(objT g t).length=((up g t).map fun u=>(fcs g (yJ g u)).length).sum:=by
 rw [objT,zhO,List.map_reverse,zl5]
def Ya (g:Img) (t:Nat):Bool:=(zY g t==1&&decide (8 < (yx g ⟨6,t,0,false⟩).length))||(zY g t==0&&decide (32 < (objT g t).length))
def ZV (g:Img):Int × Int :=
 if !ZL g then (0,17) else match (List.range g.fields.length).find? (fun i=>!YV g (g.fields.getD i default).ty) with
  | some i=>(((i:Nat):Int),10)
  | none=>match (List.range g.types.length).find? (Ya g) with
   | some t=>(((t:Nat):Int),20)
   | none=>(0,0)
def zhy (g:Img):Bool:=(ZV g).2==0
theorem zfK {g:Img} {k:Nat} (hw:ZL g=true) (hk:k < g.fields.length) (hno:∀ j,j < k→YV g (g.fields.getD j default).ty=true) (h:YV g (g.fields.getD k default).ty=false):ZV g=(((k:Nat):Int),10):=by
 have:(List.range g.fields.length).find? (fun i=>!YV g (g.fields.getD i default).ty)=some k:=by
  rw [List.find?_range_eq_some]
  exact ⟨by simpa using h,by simpa using hk,fun j hj=>by simp only [hno j hj,Bool.not_true,Bool.not_false]⟩
 rw [ZV,hw];simp only [Bool.not_true,Bool.false_eq_true,if_false];rw [this]
theorem zfq {n:Nat} {p:Nat→Bool} (h:∀ j,j < n→p j=false):(List.range n).find? p=none:=by
 rw [List.find?_eq_none]
 intro j hj
 simp [h j (List.mem_range.1 hj)]
theorem zfE {g:Img} {k:Nat} (hw:ZL g=true) (hu:qZ g=true) (hk:k < g.types.length) (hno:∀ j,j < k→Ya g j=false) (h:Ya g k=true):ZV g=(((k:Nat):Int),20):=by
 have h1:(List.range g.fields.length).find? (fun i=>!YV g (g.fields.getD i default).ty)=none:=zfq fun j hj=>by
  have:=List.all_eq_true.1 hu j (by simpa using hj);simp only [this];rfl
 have h2:(List.range g.types.length).find? (Ya g)=some k:=by
  rw [List.find?_range_eq_some]
  exact ⟨h,by simpa using hk,fun j hj=>by simp only [hno j hj,Bool.not_false]⟩
 rw [ZV,hw];simp only [Bool.not_true,Bool.false_eq_true,if_false];rw [h1];simp only;rw [h2]
theorem zif {g:Img} (hw:ZL g=true) (hu:qZ g=true) (hno:∀ j,j < g.types.length→Ya g j=false):ZV g=(0,0):=by
 have h1:(List.range g.fields.length).find? (fun i=>!YV g (g.fields.getD i default).ty)=none:=zfq fun j hj=>by
  have:=List.all_eq_true.1 hu j (by simpa using hj);simp only [this];rfl
 rw [ZV,hw];simp only [Bool.not_true,Bool.false_eq_true,if_false];rw [h1];simp only;rw [zfq hno]
structure Fine (g:Img):Prop where
 well:ZL g=true
 used:qZ g=true
 size:∀ j,j < g.types.length→Ya g j=false
theorem zlI {g:Img} (h:zhy g=true):Fine g:=by
 rw [zhy,ZV] at h
 cases hw:ZL g
 ·simp [hw] at h
 ·rw [hw] at h
  simp only [Bool.not_true,Bool.false_eq_true,if_false] at h
  cases h1:(List.range g.fields.length).find? (fun i=>!YV g (g.fields.getD i default).ty) with
  | some i=>rw [h1] at h;simp at h
  | none =>
   rw [h1] at h
   cases h2:(List.range g.types.length).find? (Ya g) with
   | some t=>rw [h2] at h;simp at h
   | none =>
    refine ⟨hw,?_,fun j hj=>?_⟩
    ·rw [qZ,List.all_eq_true]
     intro i hi
     have:=List.find?_eq_none.1 h1 i hi
     simpa using this
    ·have:=List.find?_eq_none.1 h2 j (by simpa using hj)
     simpa using this
theorem Fine.formed {g:Img} (h:Fine g):zW g=true:=Zg h.well
theorem Fine.cells_le {g:Img} (h:Fine g) {t:Ty} (hk:t.kind=6→whole t=false→zY g t.index=1):(yx g t).length≤8:=by
 rw [XU h.well h.used]
 split
 ·simp
 ·split
  ·simp
  ·rename_i h1 h2
   have hw:whole t=false:=by simpa using h2
   have h6:t.kind=6:=by
    simp only [whole,Bool.or_eq_false_iff,bne_eq_false_iff_eq] at hw;exact hw.1.1
   have hk1:=hk h6 hw
   obtain ⟨td,htd,_⟩:=zaq hk1 (by omega)
   have hlt:=QD htd
   have hs:=h.size t.index.toNat (by omega)
   have e:((t.index.toNat:Nat):Int)=t.index:=Int.toNat_of_nonneg hlt.1
   rw [Ya,e,hk1] at hs
   have hs2:¬ 8 < (yx g ⟨6,t.index,0,false⟩).length:=fun h8=>by simp [h8] at hs
   have hw6:whole ⟨6,t.index,0,false⟩=false:=by simp [whole]
   rw [XU h.well h.used,hw6] at hs2
   have h61:((6:Int)==1)=false:=rfl
   rw [h61] at hs2
   simp only [Bool.false_eq_true,if_false] at hs2
   omega
theorem Fine.used_le {g:Img} (h:Fine g) {t:Ty} (hu:YV g t=true):(yx g t).length≤8:=h.cells_le fun _ hw=>(zeh hu hw).2.2.2
theorem Fine.field_le {g:Img} (h:Fine g) {f:Fd} (hf:f∈g.fields):(yx g f.ty).length≤8:=h.used_le (zd4 h.used hf)
theorem zii {g:Img} (h:Fine g):∀ (l:List Fd),(∀ f∈l,f∈g.fields)→(fcs g l).length≤8 * l.length
 | [],_=>by simp [fcs]
 | f::l,hl=>by
  rw [XY]
  have h1:=h.field_le (hl f (by simp))
  have h2:=zii h l (fun x hx=>hl x (by simp [hx]))
  simp;omega
end Go.Cg
