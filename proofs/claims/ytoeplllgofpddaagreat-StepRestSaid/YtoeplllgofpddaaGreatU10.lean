/- A part of the walks by abstract values: no statement of its own. -/
import Derived.Test.YtoeplllgofpddaaGreatU9
import Derived.Test.YtoeplllgofpddaaGreatU8
import Derived.Test.YtoeplllgofpddaaGreatU7
import Derived.Test.YtoeplllgofpddaaGreatU6
set_option linter.unusedVariables false
set_option linter.unusedSimpArgs false
namespace Go.Cg
open Go.Proofs
theorem PInv.fold {g:Img} {t:Int}:∀ (l:List Int) {met:List Int},PInv g t met→(∀ x∈l,0≤x∧x < g.types.length)→PInv g t (l.foldl Yi met)
 | [],_,h,_=>h
 | f::l,_,h,hl=>PInv.fold l (h.add (hl f (by simp))) fun x hx=>hl x (by simp [hx])
theorem zfM {g:Img} {t:Int}:∀ (n i:Nat) (met:List Int),PInv g t met→i≤met.length→g.fields.length + g.types.length + 1≤n + i →
  (∀ j (h:j < i) (h2:j < met.length),∀ y∈partsOf g met[j],y∈met) →
  (∀ x∈met,x∈zbX g n i met)∧(∀ u∈zbX g n i met,∀ y∈partsOf g u,y∈zbX g n i met)∧(∀ x∈zbX g n i met,Rch (partsOf g) met x)
 | 0,i,met,hm,hi,hn,hc=>by
  have:=hm.len;omega
 | n + 1,i,met,hm,hi,hn,hc=>by
  rw [zbX]
  by_cases hlt:i < met.length
  ·rw [List.getElem?_eq_getElem hlt]
   simp only [zgO]
   have hm2:=PInv.fold (partsOf g met[i]) hm (fun x hx=>Qk hx)
   obtain ⟨r,hr⟩:=zgu (partsOf g met[i]) met
   have hl:met.length≤((partsOf g met[i]).foldl Yi met).length:=by rw [hr];simp
   obtain ⟨q1,q2,q3⟩:=zfM n (i + 1) ((partsOf g met[i]).foldl Yi met) hm2 (by omega) (by omega) (by
    intro j hj hj2 y hy
    rw [XF]
    have hjm:j < met.length:=by omega
    have e:((partsOf g met[i]).foldl Yi met)[j]=met[j]:=by simp only [hr];rw [List.getElem_append_left hjm]
    rw [e] at hy
    by_cases hji:j=i
    ·subst hji;exact .inr hy
    ·exact .inl (hc j (by omega) hjm y hy))
   refine ⟨fun x hx=>q1 x (XF.2 (.inl hx)),q2,fun x hx=>?_⟩
   have:=q3 x hx
   clear q1 q2 q3 hx
   induction this with
   | base x hx =>
    rcases XF.1 hx with h|h
    ·exact .base x h
    ·exact .step _ x (.base _ (List.getElem_mem hlt)) h
   | step x y _ hy ih=>exact .step x y ih hy
  ·rw [List.getElem?_eq_none (by omega)]
   simp only
   refine ⟨fun x hx=>hx,fun u hu y hy=>?_,fun x hx=>.base x hx⟩
   obtain ⟨j,hj,rfl⟩:=List.getElem_of_mem hu
   exact hc j (by omega) hj y hy
theorem zla {g:Img} {t x:Int}:x∈zmh g t↔Rch (partsOf g) (partsOf g t) x:=by
 obtain ⟨q1,q2,q3⟩:=zfM (g:=g) (t:=t) (g.fields.length + g.types.length + 1) 0 (partsOf g t) ⟨[],by simp⟩ (by omega) (by omega) (fun j h=>by omega)
 refine ⟨fun hx=>q3 x hx,fun hx=>?_⟩
 induction hx with
 | base x hx=>exact q1 x hx
 | step x y _ hy ih=>exact q2 x ih y hy
theorem zhq {g:Img} {t x:Int}:x∈sortL (Xj g.types.length (partsOf g) (partsOf g t))↔x∈zmh g t:=by
 rw [ze8,zla]
 exact (zcI (N:=g.types.length) (fun x _ _ y hy=>Qk hy) (fun x hx=>Qk hx)).1 x
theorem zqp:∀ n:Fin 32,qK (n.val:Int) 1=yM (n.val:Int) 1∧qK (n.val:Int) 4=yM (n.val:Int) 4∧qK (n.val:Int) 8=yM (n.val:Int) 8∧qK (n.val:Int) 16=yM (n.val:Int) 16:=by decide +kernel
theorem zom {f:Int} (h0:0≤f) (h1:f≤31):qK f 1=yM f 1∧qK f 4=yM f 4∧qK f 8=yM f 8∧qK f 16=yM f 16:=by
 have:=zqp ⟨f.toNat,by omega⟩
 simpa only [Int.toNat_of_nonneg h0] using this
theorem znb {td:TD} (h0:0≤td.flags) (h1:td.flags≤31):Yz td=qP td:=by
 obtain ⟨e1,e2,e3,e4⟩:=zom h0 h1
 rw [Yz,qP,zgH h0 h1,e1,e2,e3,e4]
 generalize yM td.flags 1=b1
 generalize yM td.flags 4=b2
 generalize yM td.flags 8=b3
 generalize yM td.flags 16=b4
 generalize (td.ext == -1)=b5
 generalize ((td.faces.length:Int)==0)=b6
 repeat' split
 all_goals (try rfl)
 all_goals (cases b1 <;> cases b2 <;> cases b3 <;> cases b4 <;> cases b5 <;> cases b6 <;> rfl)
theorem VP {g:Img} (hf:yg g=true) {t:Int} {td:TD} (h:typeAt g t=some td):0≤td.flags∧td.flags≤31 ∧ -1≤td.ext∧td.ext < g.types.length∧td.faces.length≤4∧∀ f∈td.faces,0≤f∧f < g.types.length :=
 Ye ((zW hf).2.2.2 td (zaf h))
theorem zno {g:Img} (hf:yg g=true) (t:Int):0≤XB g t∧XB g t≤31:=by
 unfold XB
 cases h:typeAt g t with
 | none=>simp
 | some td=>obtain ⟨h0,h1,_⟩:=VP hf h;exact ⟨h0,h1⟩
theorem zoA {g:Img} (hf:yg g=true) (t:Int) : -1≤Vg g t:=by
 unfold Vg
 cases h:typeAt g ((up g t).getLastD 0) with
 | none=>simp
 | some td=>obtain ⟨_,_,h1,_⟩:=VP hf h;exact h1
theorem zr9 {g:Img} (hf:yg g=true) {t:Int} {td:TD} (h:typeAt g t=some td):zii g t td=XU g t td:=by
 obtain ⟨_,_,h1,_⟩:=VP hf h
 obtain ⟨f0,f1⟩:=zno hf td.ext
 have ht:=zoA hf t
 rw [zii,XU,zg2 hf,(zom f0 f1).2.2.1]
 have e1:(td.ext == -1)=!decide (0≤td.ext):=by rw [Bool.eq_iff_iff];simp;omega
 have e2:(Vg g t == -1)=decide (Vg g t < 0):=by rw [Bool.eq_iff_iff];simp;omega
 rw [e1,e2]
def zfk (g:Img) (t:Int) (td:TD):Bool:=(List.range td.faces.length).all (zbZ g td.faces)&&(zN g t != 2||!decide (t∈sortL (Xj g.types.length (yQ g) td.faces)))
theorem ztb {g:Img} {t:Int} {td:TD} (h:typeAt g t=some td) (he:td.ext = -1):up g t=[t]:=by
 have hx:typeAt g (-1)=none:=by rw [typeAt,if_neg (by omega)]
 rw [up,zba,h]
 simp only [List.not_mem_nil,if_false,List.nil_append]
 cases hn:g.types.length with
 | zero=>rfl
 | succ n=>rw [zba,he,hx]
theorem zeh {g:Img} {t:Int} {td:TD} (h:typeAt g t=some td):yQ g t=td.faces:=by rw [yQ,h]
theorem zo3 {g:Img} {t:Int} {td:TD} (h:typeAt g t=some td) (hfl:qP td=true) (hk:zN g t=2):td.ext = -1:=by
 rw [zN,h] at hk
 simp only at hk
 rw [qP,hk] at hfl
 simp at hfl
 exact hfl.1.1.1.1
theorem zqN {g:Img} (hf:yg g=true) {t:Int} {td:TD} (h:typeAt g t=some td):(Yz td&&zii g t td&&zfk g t td)=(qP td&&QT g t td):=by
 obtain ⟨h0,h1,_⟩:=VP hf h
 rw [znb h0 h1,zr9 hf h,zfk,QT]
 cases hfl:qP td
 ·rfl
 ·have e:(zN g t != 2||!decide (t∈sortL (Xj g.types.length (yQ g) td.faces)))=(zN g t != 2||!decide (t∈Zz g t)):=by
   by_cases hk:zN g t=2
   ·have hx:=zo3 h hfl hk
    have hF:=zcq hf
    have:t∈sortL (Xj g.types.length (yQ g) td.faces)↔t∈Zz g t:=by
     rw [ze8,zbB hF,RF,ztb h hx]
     simp only [List.flatMap_cons,List.flatMap_nil,List.append_nil]
     rw [zeh h]
     exact (zcI (N:=g.types.length) (fun x _ _ y hy=>(hF.at x).2 y hy) (fun x hx=>by have:=(hF.at t).2 x;rw [zeh h] at this;exact this hx)).1 t
    rw [decide_eq_decide.2 this]
   ·have:(zN g t != 2)=true:=by simp [hk]
    rw [this];rfl
  rw [e];simp only [Bool.and_assoc,Bool.true_and]
def zcA (l:List Int) (p:Int→Int→Bool):Bool:=(List.range l.length).any fun i=>(l.take i).any (p (l.getD i 0))
theorem zln {l:List Int} {p:Int→Int→Bool}:(!zcA l p)=(List.range l.length).all fun i=>(List.range i).all fun k=>!p (l.getD i 0) (l.getD k 0):=by
 rw [Bool.eq_iff_iff]
 simp only [zcA,Bool.not_eq_true',List.any_eq_false,List.all_eq_true,List.mem_range,Bool.not_eq_true]
 constructor
 ·intro h i hi k hk
  refine h i hi _ ?_
  rw [List.getD_eq_getElem?_getD,List.getElem?_eq_getElem (show k < l.length by omega)]
  exact List.mem_take_iff_getElem.2 ⟨k,by omega,rfl⟩
 ·intro h i hi x hx
  obtain ⟨k,hk,rfl⟩:=List.mem_take_iff_getElem.1 hx
  have:=h i hi k (by omega)
  rwa [zL (show k < l.length by omega)] at this
def zhQ (g:Img) (a b:Int):Bool:=(fName g a).toList==(fName g b).toList
def mAt (g:Img) (a:Int):Me:=g.methods.getD a.toNat default
def zaP (x y:Me):Bool:=x.name.toList==y.name.toList&&decide (x.ret=y.ret)&&IntKind.i64.wrap ((BitVec.ofInt IntKind.i64.bits (IntKind.i64.wrap ((BitVec.ofInt IntKind.i64.bits x.flags ^^^ BitVec.ofInt IntKind.i64.bits y.flags).toNat:Int)) &&& BitVec.ofInt IntKind.i64.bits 1).toNat:Int)==0&&decide (x.params=y.params)
def zeR (g:Img) (t:Int) (td:TD):Bool:=(List.range g.types.length).all (VL g t td)&&!zcA (fieldsOf g t) (zhQ g)&&!zcA (methodsOf g t) (fun a b=>zaP (mAt g a) (mAt g b))
theorem zsv:∀ a b:Fin 32,(IntKind.i64.wrap ((BitVec.ofInt IntKind.i64.bits (IntKind.i64.wrap ((BitVec.ofInt IntKind.i64.bits (a.val:Int) ^^^ BitVec.ofInt IntKind.i64.bits (b.val:Int)).toNat:Int)) &&& BitVec.ofInt IntKind.i64.bits 1).toNat:Int)==0)=((a.val:Int).tmod 2==(b.val:Int).tmod 2):=by decide +kernel
theorem zow {x y:Me} (hx0:0≤x.flags) (hx1:x.flags≤31) (hy0:0≤y.flags) (hy1:y.flags≤31):zaP x y=(x.name.toList==y.name.toList&&zaE x y):=by
 have:=zsv ⟨x.flags.toNat,by omega⟩ ⟨y.flags.toNat,by omega⟩
 simp only [Int.toNat_of_nonneg hx0,Int.toNat_of_nonneg hy0] at this
 rw [zaP,zaE,this]
 simp only [Bool.and_assoc]
theorem zdb {g:Img} (hf:yg g=true) {a:Nat} (h:a < g.methods.length):qL g (g.methods.getD a default)=true:=by
 simp only [yg,Bool.and_eq_true,List.all_eq_true] at hf
 have:=hf.2 a (by simpa using h)
 rw [zb8] at this
 simp only [Bool.and_eq_true] at this
 exact this.2
theorem zaX {g:Img} {m:Me} (h:qL g m=true):0≤m.flags∧m.flags≤31:=by
 simp only [qL,Bool.and_eq_true,decide_eq_true_eq] at h
 omega
theorem zqS {g:Img} (hf:yg g=true) (t:Int) (td:TD):zeR g t td=zaZ g t td:=by
 rw [zeR,zaZ,zln,zln]
 congr 1
 rw [Bool.eq_iff_iff]
 simp only [List.all_eq_true,List.mem_range,YT]
 have key:∀ i,i < (methodsOf g t).length→∀ k,k < i→zaP (mAt g ((methodsOf g t).getD i 0)) (mAt g ((methodsOf g t).getD k 0))=((g.methods.getD ((methodsOf g t).getD i 0).toNat default).name.toList==(g.methods.getD ((methodsOf g t).getD k 0).toNat default).name.toList&&zaE (g.methods.getD ((methodsOf g t).getD i 0).toNat default) (g.methods.getD ((methodsOf g t).getD k 0).toNat default)):=by
  intro i hi k hk
  have hk':k < (methodsOf g t).length:=by omega
  rw [zL hi,zL hk']
  obtain ⟨_,a1⟩:=qc (List.getElem_mem hi)
  obtain ⟨_,a2⟩:=qc (List.getElem_mem hk')
  obtain ⟨b1,b2⟩:=zaX (zdb hf a1)
  obtain ⟨b3,b4⟩:=zaX (zdb hf a2)
  exact zow b1 b2 b3 b4
 constructor
 ·intro h i hi k hk
  rw [←key i hi k hk];exact h i hi k hk
 ·intro h i hi k hk
  rw [key i hi k hk];exact h i hi k hk
def ze0 (g:Img) (t:Int):Bool:=(fieldsOf g t).all (zeS g (zN g t))&&(zN g t != 1||!decide (t∈sortL (Xj g.types.length (partsOf g) (partsOf g t))))
theorem zqI (g:Img) (t:Int):ze0 g t=zbv g t:=by
 rw [ze0,zbv,decide_eq_decide.2 zhq]
theorem zsk {g:Img} (h:Yq g=true) {k:Nat} (hk:k < g.types.length):Zk g k=0:=by
 have hf:=Yc h
 cases hx:(List.range g.types.length).find? (fun t=>Zk g t != 0) with
 | none =>
  have:=List.find?_eq_none.1 hx k (by simpa using hk)
  simpa using this
 | some t =>
  have h2:=List.find?_some hx
  rw [Yq,Xm,hf] at h
  simp [hx] at h
  simp [h] at h2
theorem zin {g:Img} (hf:yg g=true) {k:Nat} (hk:k < g.types.length) :
  Zk g k=if !(Yz g.types[k]&&zii g k g.types[k]&&zfk g k g.types[k]) then 7 else if !zeR g k g.types[k] then 18 else if !ze0 g k then 20 else 0:=by
 rw [zbC hk,zqN hf (zbm hk),zqS hf,zqI]
 cases qP g.types[k] <;> cases QT g k g.types[k] <;> rfl
set_option maxHeartbeats 20000000
def eqF (p:Ty→Ty→Bool) (a b:List Ty):Bool:=decide (a.length=b.length)&&(List.range a.length).all fun i=>p (a.getD i default) (b.getD i default)
theorem zgW (a b:List Ty) (p:Ty→Ty→Bool) (f:FuncId) (first cap:List PV) (hp:∀ x y,ACall Tryz.prog f (first++[yJ x,yJ y]++cap) (pb (p x y))) :
  ACall Tryz.prog 200 [tys a,tys b,.fn (.func f) first cap] (pb (eqF p a b)):=by
 refine zh zf Tryz.func200 rfl (by kernel_rfl) Tryz.ntmps200 (by simp) _ rfl (fun hw gB hgB=>?_)
 have hla:=zb1 hw.1
 have hlb:=zb1 hw.2.1
 by_cases hlen:a.length=b.length
 ·repeat' (first|refine sK ?_|refine sC (fun _=>?_) (fun _=>?_)|fail)
  refine zJ (fun k:Nat=>[(1,.pv (tys b)),(2,.pv (.fn (.func f) first cap)),(15,.pv (tys a)),(16,.pv (pi a.length)),(17,.pv (pi k))]) (fun _=>[]) (fun k=>k≤a.length∧eqF p a b=((List.range a.length).drop k).all fun i=>p (a.getD i default) (b.getD i default)) (fun k=>a.length - k) 0 ⟨by simp,by simp [eqF,hlen]⟩ (tS) tH ?_
  rintro k ⟨hk,hr⟩
  by_cases hlt:k < a.length
  ·have hltb:k < b.length:=by omega
   have he:=WJ hlt
   have heb:=WJ hltb
   rw [qF hlt,zL hlt,zL hltb] at hr
   repeat' (first|(refine shC ?_;first|refine qV ((hp _ _)) ?_)|(refine shX ?_;first|refine qX he ?_|refine qX heb ?_)|refine sK ?_|refine sC (fun _=>?_) (fun _=>?_)|fail)
   all_goals first|(refine retq rfl ?_;first|(simp only [zk,BL,List.length_map] at *;simp only [*,BL,List.length_map];done)|(simp_all [zk];done)|(simp_all [zk];omega)|(simp_all [zk];intros;omega))|(refine ⟨k + 1,⟨by omega,?_⟩,tD,tS,tH⟩;first|(simp only [BL,List.length_map] at *;simp only [*,BL,List.length_map];done)|(simp_all [];done)|(simp_all [];omega)|(simp_all [];intros;omega))|(trace "LEND";trace_state)
  ·rw [drop_end (by simp;omega)] at hr
   repeat' (first|refine sK ?_|refine sC (fun _=>?_) (fun _=>?_)|fail)
   all_goals first|(refine retq rfl ?_;first|(simp only [zk,BL,List.length_map] at *;simp only [*,BL,List.length_map];done)|(simp_all [zk];done)|(simp_all [zk];omega)|(simp_all [zk];intros;omega))|(refine ZN rfl ?_;first|(simp only [zk,BL,List.length_map] at *;simp only [*,BL,List.length_map];done)|(simp_all [zk];done)|(simp_all [zk];omega)|(simp_all [zk];intros;omega))|skip
 ·repeat' (first|refine sK ?_|refine sC (fun _=>?_) (fun _=>?_)|fail)
  exact retq rfl (by simp [zk,eqF,hlen])
theorem zlI (g:Img) (hF:Fm g) (x y:Ty):ACall Tryz.prog 201 [yJ x,yJ y,.ptr (zH g) 0] (pb (Zx g x y)):=by
 refine zh zf Tryz.func201 rfl (by kernel_rfl) Tryz.ntmps201 (by simp) _ rfl (fun hw gB hgB=>?_)
 repeat' (first|(refine shC ?_;first|refine qC (zaa g x y hF) ?_)|refine sA ?_|refine sC (fun _=>?_) (fun _=>?_)|fail)
 exact retq rfl rfl
def ZG (g:Img) (a b:List Ty):Bool:=eqF (Zx g) a b
theorem zmv (g:Img) (a b:List Ty) (hF:Fm g):ACall Tryz.prog 172 [zH g,tys a,tys b] (pb (ZG g a b)):=by
 refine zh zf Tryz.func172 rfl (by kernel_rfl) Tryz.ntmps172 (by simp) _ rfl (fun hw gB hgB=>?_)
 have c1:=zgW a b (Zx g) 201 [] [.ptr (zH g) 0] (zlI g hF)
 repeat' (first|(refine shC ?_;first|refine qC c1 ?_)|refine sA ?_|refine sC (fun _=>?_) (fun _=>?_)|fail)
 exact retq rfl rfl
set_option maxHeartbeats 20000000
theorem ZI (g:Img) (hf:yg g=true) (t:Int):ACall Tryz.prog 58 [zH g,pi t] (pi (zN g t)):=by
 have:=Qz g t;rwa [zg2 hf] at this
theorem XP (g:Img) (t:Int) (hg:g.fields.length≤1000):ACall Tryz.prog 184 [zH g,pi t] (ints (fieldsOf g t)):=by
 refine zh zf Tryz.func184 rfl (by kernel_rfl) Tryz.ntmps184 (by simp) _ rfl (fun hw gB hgB=>?_)
 repeat' (first|refine sA ?_|refine sC (fun _=>?_) (fun _=>?_)|fail)
 refine qY (t:=5) 0 3 1 (by decide) rfl rfl ?_
 refine zJ (fun x:Nat × List Int=>[(1,.pv (pi t)),(2,.pv (.ptr (zH g) 0)),(5,.own 0),(9,.pv (.slc 7 (g.fields.map ZK) false)),(10,.pv (pi g.fields.length)),(11,.pv (pi x.1))]) (fun x=>[(0,.row 3 1 (x.2.map pi))])
  (fun x=>x.1≤g.fields.length∧x.2.length≤x.1∧x.2++((nums g.fields.length).drop x.1).filter (fun i=>there g t&&(g.fields.getD i.toNat default).owner==t)=fieldsOf g t) (fun x=>g.fields.length - x.1) (0,[]) ⟨by simp,by simp,rfl⟩ (tS) ⟨zT rfl zK,rfl⟩ ?_
 rintro ⟨k,out⟩ ⟨hk,hol,hr⟩
 simp only at hk hol hr
 by_cases hlt:k < g.fields.length
 ·have he:=yu (f:=ZK) hlt
  rw [drop_cons (by simpa [nums] using hlt),List.filter_cons,zd5,Int.toNat_natCast,zL hlt] at hr
  have c1:=YV g t
  cases hth:there g t
  ·rw [hth] at c1
   repeat' (first|(refine shC ?_;first|refine qC c1 ?_)|(refine shX ?_;first|refine qX he ?_)|refine sK ?_|refine sC (fun _=>?_) (fun _=>?_)|fail)
   exact ⟨(k + 1,out),⟨by simp;omega,by simp;omega,by simpa [hth] using hr⟩,tD,tS,⟨qG rfl rfl zK,rfl⟩⟩
  ·rw [hth] at c1
   repeat' (first|(refine shC ?_;first|refine qC c1 ?_)|(refine shX ?_;first|refine qX he ?_)|(refine yH ?_;first|refine yU zf rfl rfl rfl rfl rfl rfl rfl (by show _ * 8≤_;simp;omega) (by simp;omega) rfl rfl ?_)|refine sK ?_|refine sC (fun _=>?_) (fun _=>?_)|fail)
   ·rename_i hx
    rw [hth,hx] at hr
    exact ⟨(k + 1,out++[(k:Int)]),⟨by simp;omega,by simp;omega,by simpa [hth] using hr⟩,tD,tS,⟨qG rfl (by simp) zK,rfl⟩⟩
   ·rename_i hx
    rw [hth,hx] at hr
    exact ⟨(k + 1,out),⟨by simp;omega,by simp;omega,by simpa [hth] using hr⟩,tD,tS,⟨qG rfl rfl zK,rfl⟩⟩
 ·rw [drop_end (by simp [nums];omega)] at hr
  repeat' (first|refine sK ?_|refine sC (fun _=>?_) (fun _=>?_)|fail)
  exact retq rfl (by rw [←hr];simp [zk,ints])
theorem YD (g:Img) (t:Int) (hg:g.methods.length≤1000):ACall Tryz.prog 72 [zH g,pi t] (ints (methodsOf g t)):=by
 refine zh zf Tryz.func72 rfl (by kernel_rfl) Tryz.ntmps72 (by simp) _ rfl (fun hw gB hgB=>?_)
 repeat' (first|refine sA ?_|refine sC (fun _=>?_) (fun _=>?_)|fail)
 refine qY (t:=5) 0 3 1 (by decide) rfl rfl ?_
 refine zJ (fun x:Nat × List Int=>[(1,.pv (pi t)),(2,.pv (.ptr (zH g) 0)),(5,.own 0),(9,.pv (.slc 12 (g.methods.map yL) false)),(10,.pv (pi g.methods.length)),(11,.pv (pi x.1))]) (fun x=>[(0,.row 3 1 (x.2.map pi))])
  (fun x=>x.1≤g.methods.length∧x.2.length≤x.1∧x.2++((nums g.methods.length).drop x.1).filter (fun i=>there g t&&(g.methods.getD i.toNat default).owner==t)=methodsOf g t) (fun x=>g.methods.length - x.1) (0,[]) ⟨by simp,by simp,rfl⟩ (tS) ⟨zT rfl zK,rfl⟩ ?_
 rintro ⟨k,out⟩ ⟨hk,hol,hr⟩
 simp only at hk hol hr
 by_cases hlt:k < g.methods.length
 ·have he:=yu (f:=yL) hlt
  rw [drop_cons (by simpa [nums] using hlt),List.filter_cons,zd5,Int.toNat_natCast,zL hlt] at hr
  have c1:=YV g t
  cases hth:there g t
  ·rw [hth] at c1
   repeat' (first|(refine shC ?_;first|refine qC c1 ?_)|(refine shX ?_;first|refine qX he ?_)|refine sK ?_|refine sC (fun _=>?_) (fun _=>?_)|fail)
   exact ⟨(k + 1,out),⟨by simp;omega,by simp;omega,by simpa [hth] using hr⟩,tD,tS,⟨qG rfl rfl zK,rfl⟩⟩
  ·rw [hth] at c1
   repeat' (first|(refine shC ?_;first|refine qC c1 ?_)|(refine shX ?_;first|refine qX he ?_)|(refine yH ?_;first|refine yU zf rfl rfl rfl rfl rfl rfl rfl (by show _ * 8≤_;simp;omega) (by simp;omega) rfl rfl ?_)|refine sK ?_|refine sC (fun _=>?_) (fun _=>?_)|fail)
   ·rename_i hx
    rw [hth,hx] at hr
    exact ⟨(k + 1,out++[(k:Int)]),⟨by simp;omega,by simp;omega,by simpa [hth] using hr⟩,tD,tS,⟨qG rfl (by simp) zK,rfl⟩⟩
   ·rename_i hx
    rw [hth,hx] at hr
    exact ⟨(k + 1,out),⟨by simp;omega,by simp;omega,by simpa [hth] using hr⟩,tD,tS,⟨qG rfl rfl zK,rfl⟩⟩
 ·rw [drop_end (by simp [nums];omega)] at hr
  repeat' (first|refine sK ?_|refine sC (fun _=>?_) (fun _=>?_)|fail)
  exact retq rfl (by rw [←hr];simp [zk,ints])
theorem zfA (g:Img) (t:Int) (hf:yg g=true):ACall Tryz.prog 210 [zH g,pi t] (ints (partsOf g t)):=by
 refine zh zf Tryz.func210 rfl (by kernel_rfl) Tryz.ntmps210 (by simp) _ rfl (fun hw gB hgB=>?_)
 have hg:g.fields.length≤1000:=by have:=(zW hf).2.1;omega
 have hfl:=YU g t
 repeat' (first|(refine shC ?_;first|refine qC (XP g t hg) ?_)|refine sA ?_|refine sC (fun _=>?_) (fun _=>?_)|fail)
 refine qY (t:=5) 0 3 1 (by decide) rfl rfl ?_
 refine zJ (fun x:Nat × List Int=>[(2,.pv (.ptr (zH g) 0)),(5,.own 0),(11,.pv (ints (fieldsOf g t))),(12,.pv (pi (fieldsOf g t).length)),(13,.pv (pi x.1))]) (fun x=>[(0,.row 3 1 (x.2.map pi))])
  (fun x=>x.1≤(fieldsOf g t).length∧x.2.length≤x.1∧x.2++(((fieldsOf g t).drop x.1).filter (zck g)).map (fun i=>(g.fields.getD i.toNat default).ty.index)=partsOf g t) (fun x=>(fieldsOf g t).length - x.1) (0,[]) ⟨by simp,by simp,rfl⟩ (tS) ⟨zT rfl zK,rfl⟩ ?_
 rintro ⟨k,out⟩ ⟨hk,hol,hr⟩
 simp only at hk hol hr
 by_cases hlt:k < (fieldsOf g t).length
 ·have he:=qB hlt
  obtain ⟨h0,hi⟩:=Zp (List.getElem_mem hlt)
  have hef:=qW (f:=ZK) hi
  rw [drop_cons hlt,List.filter_cons,zck] at hr
  simp only [zL hi] at hr
  repeat' (first|(refine shC ?_;first|refine qC (ZI _ hf _) ?_)|(refine shX ?_;first|refine qX he ?_|refine zB rfl (zl zf rfl rfl rfl rfl rfl rfl h0 hef) rfl rfl ?_|refine AD.step _ _ _ _ _ rfl (zl zf rfl rfl rfl rfl rfl rfl h0 hef) rfl rfl ?_)|(refine yH ?_;first|refine yU zf rfl rfl rfl rfl rfl rfl rfl (by show _ * 8≤_;simp;omega) (by simp;omega) rfl rfl ?_)|refine sK ?_|refine sC (fun _=>?_) (fun _=>?_)|fail)
  ·rw [if_pos (by simp_all)] at hr
   exact ⟨(k + 1,out++[g.fields[(fieldsOf g t)[k].toNat].ty.index]),⟨by simp;omega,by simp;omega,by rw [List.map_cons,zL hi] at hr;simpa using hr⟩,tD,tS,⟨qG rfl (by simp) zK,rfl⟩⟩
  all_goals
   rw [if_neg (by simp_all)] at hr
   exact ⟨(k + 1,out),⟨by simp;omega,by simp;omega,by simpa using hr⟩,tD,tS,⟨qG rfl rfl zK,rfl⟩⟩
 ·rw [drop_end (by omega)] at hr
  repeat' (first|refine sK ?_|refine sC (fun _=>?_) (fun _=>?_)|fail)
  exact retq rfl (by rw [←hr];simp [zk,ints])
end Go.Cg
namespace Go.Cg
open Go.RowKit
structure ACallM (P:Program) (f:FuncId) (args:List AV) (H:HEnv) (r:AV) (H':HEnv) (lone:Bool:=false):Prop where
 stands:zbV P f
 calls:∀ (g:Base) (K:KK) (ρ:Nat→Value) (w:World) (vs:List Value),(lone=true→g.w1.heap.size=0)→FS g K ρ H w→YZ K w ρ H args vs →
  Calls P f vs.toArray w fun e w'=>∃ v K' ρ',e=.returned v∧FS g K' ρ' H' w'∧ARel K' w' ρ' H' r v
def zie (tb:Tab) (rs:List ResultVar) (r:AV) (H':HEnv):QC:=fun ex env H=>(ex=.normal∨ex=.ret) ∧
 ((∃ ps,zaJ tb H env rs=some ps∧r=.pv (zk ps)∧Wn H H' [])∨(∃ t,rs=[.tmp t]∧env.get t=some r∧Wn H H' [(t,r)]))
section
variable {P:Program} {tb:Tab} {n:Nat} {g:Base} {K K':KK} {w w':World} {ρ ρ':Nat→Value} {H H':HEnv} {env:Env} {a:Act} {ops:List Oper} {o:Oper} {rest:List Oper} {Q:Env→HEnv→Prop} {f:FuncId} {args:List AV} {r:AV}
theorem FS.narrow {e:Env} (hf:FS g K ρ H w) (hs:Wn H H' e):FS g K ρ H' w:=by
 obtain ⟨hs,hin⟩:=hs
 simp only [Bool.and_eq_true] at hin
 refine ⟨hf.below,hf.old,hf.new,hf.lt,hf.others,hf.pt,fun i h b hi=>hf.away i h b (hs i h hi),?_,?_⟩
 ·intro i h hi
  have:=hf.heap.ok i h (hs i h hi)
  cases h with
  | cell v=>obtain ⟨b,t,arr,u,h1,h2,h3,h4,h5,h6⟩:=this;exact ⟨b,t,arr,u,h1,h2,h3,h4.refs (QE hin.2 i v hi),h5,h6⟩
  | pin v u=>exact ARel.refs this (YJ hin.2 i v u hi)
  | row t sz es=>exact this
  | mrow t sz es=>exact this
  | dead=>exact this
  | obj X=>exact this
 ·intro i j h h' b hij hi hj
  exact hf.heap.apart i j h h' b hij (hs i h hi) (hs j h' hj)
theorem QK (htb:qp P tb) {fn:Func} {c:Code} (hf:P.funcs[f]?=some fn) (hb:fn.body=some c) (hn:(fn.name == "runtime.NumGoroutine")=false) (hnt:fn.ntmps=n) (hargs:args.length≤n) (rs:List ResultVar) (hrs:fn.results.toList=rs)
  {lone:Bool} (h:∀ g:Base,(lone=true→g.w1.heap.size=0)→AW P n g c (zat 0 args) H (zie tb rs r H')):ACallM P f args H r H' lone:=by
 refine ⟨⟨fn,hf,by simp [hb],hn⟩,fun g0 K ρ w vs hw1 hfs0 hv=>?_⟩
 obtain ⟨g,hg0⟩:∃ g:Base,g=⟨g0.w0,g0.K0,g0.w1,[],g0.wp,g0.pr⟩:=⟨_,rfl⟩
 have hfs:FS g K ρ H w:=by subst hg0;exact ⟨hfs0.below,hfs0.old,hfs0.new,hfs0.lt,hfs0.others,⟨hfs0.pt.same,hfs0.pt.kept⟩,hfs0.away,hfs0.heap⟩
 refine calls_of_wp hf hb ?_
 have hlen:vs.length=args.length:=hv.1
 refine wp_mono (wpIn_wide.1 ((h g (by subst hg0;exact hw1)).go _ w ⟨by simp [hnt];omega,by subst hg0;rfl,K,ρ,hfs,?_⟩ none 0)) ?_
 ·intro t av hg
  obtain ⟨_,hp⟩:=zbp args 0 t av hg
  have hlt:t < vs.length:=by rw [hlen];exact (List.getElem?_eq_some_iff.1 hp).1
  refine ⟨vs[t],?_,hv.2 t av _ hp (List.getElem?_eq_getElem hlt)⟩
  rw [Array.getElem?_append_left (by simpa using hlt)]
  simp [hlt]
 ·rintro e a' w' ⟨env1,H1,hi,he,hq⟩
  have key:∃ v K' ρ',(results fn a'.tmps).run P w'=.ok v w'∧a'.defers=[]∧FS g0 K' ρ' H' w'∧ARel K' w' ρ' H' r v:=by
   have back:∀ {K':KK} {ρ':Nat→Value},FS g K' ρ' H' w'→FS g0 K' ρ' H' w':=fun hf1=>by
    subst hg0;exact ⟨hf1.below,hf1.old,hf1.new,hf1.lt,hf1.others,⟨hf1.pt.same,hf1.pt.kept⟩,hf1.away,hf1.heap⟩
   rcases hq with ⟨ps,hps,rfl,hfit⟩|⟨t,ht,hget,hfit⟩
   ·obtain ⟨_,h2,K',ρ',hf',he0⟩:=hi
    obtain ⟨us,hrun,hru⟩:=za7 htb hf' he0 hps
    have hi2:Inv n g [] H' a' w':=((⟨‹_›,h2,K',ρ',hf',he0⟩:Inv n g env1 H1 a' w').sub yS).hsub hfit
    have hres:(results fn a'.tmps).run P w'=.ok (if hh:us.toArray.size=1 then us.toArray[0] else .tuple us.toArray) w':=by
     unfold results
     rw [Array.mapM_eq_mapM_toList,hrs]
     simp only [Sem.run_bind,Sem.run_map]
     erw [hrun]
     rfl
    have hval:PRel K' w' (zk ps) (if hh:us.toArray.size=1 then us.toArray[0] else .tuple us.toArray):=by
     split
     ·rename_i hh
      have hl1:=hru.1
      have hu:us.length=1:=by simpa using hh
      obtain ⟨u,rfl⟩:=List.length_eq_one_iff.1 hu
      obtain ⟨p,rfl⟩:=List.length_eq_one_iff.1 (show ps.length=1 by omega)
      exact hru.2 0 p u (by simp) (by simp)
     ·rename_i hh
      simp at hh
      have:zk ps=.tup ps:=by
       unfold zk
       split
       ·rename_i p;exact absurd (by have:=hru.1;simpa using this) hh
       ·rfl
      rw [this]
      exact .tup ps us hru.1 hru.2
    have hf2:=FS.narrow hf' hfit
    exact ⟨_,K',ρ',hres,by rw [h2];subst hg0;rfl,back hf2,.pv _ _ hval⟩
   ·obtain ⟨h1,h2,K',ρ',hf',he0⟩:=hi
    obtain ⟨v,hv1,hv2⟩:=he0 t r hget
    have hf2:=FS.narrow hf' hfit
    have hin:=hfit.2
    simp only [zas,Bool.and_eq_true] at hin
    have hres:(results fn a'.tmps).run P w'=.ok v w':=by
     unfold results
     rw [Array.mapM_eq_mapM_toList,hrs,ht]
     simp [Result.andThen,hv1]
    exact ⟨v,K',ρ',hres,by rw [h2];subst hg0;rfl,back hf2,hv2.refs hin.1.1⟩
  obtain ⟨v,K',ρ',hres,hd,hf',hr⟩:=key
  rcases he with rfl|rfl
  ·exact ⟨hd,_,hres,v,K',ρ',rfl,hf',hr⟩
  ·exact ⟨hd,_,hres,v,K',ρ',rfl,hf',hr⟩
def ZT (us:Nat→Value) (ps:List Nat):HEnv:=ps.map fun i=>(1000 + i,.pin (.own i) (us i))
def Vo (ps:List Nat):HEnv:=ps.map fun i=>(i,.dead)
def ziO (A:HEnv) (B:HEnv):Bool:=A.all fun x=>(B.get x.1).isNone
def Vt (Hc Hc' R:HEnv) (ps:List Nat) (ars:List AV) (env2:Env) (r:AV):Bool :=
 ziO Hc R&&ziO Hc' R&&zew 1000 Hc&&zew 1000 Hc'&&Ql Hc ars&&hIn Hc Hc&&hIn Hc' Hc'&&Yn Hc' r&&hIn (R++Vo ps) R&&zas (R++Vo ps) env2&&ps.all fun i=>(Hc.get i).isSome&&(Hc'.get i).isSome
theorem zau {us:Nat→Value}:∀ {ps:List Nat} {i:Nat} {h:HE},HEnv.get (ZT us ps) i=some h→1000≤i∧i - 1000∈ps∧h=.pin (.own (i - 1000)) (us (i - 1000))
 | [],i,h,hg=>by simp [ZT,HEnv.get_nil] at hg
 | p::ps,i,h,hg=>by
  rw [ZT,List.map_cons,HEnv.get_cons] at hg
  split at hg
  ·rename_i e;subst e
   simp only [Option.some.injEq] at hg;subst hg
   rw [Nat.add_sub_cancel_left];exact ⟨by omega,by simp,rfl⟩
  ·obtain ⟨h1,h2,h3⟩:=zau (ps:=ps) hg
   exact ⟨h1,by simp [h2],h3⟩
theorem zeq {us:Nat→Value}:∀ {ps:List Nat} {i:Nat},i∈ps→HEnv.get (ZT us ps) (1000 + i)=some (.pin (.own i) (us i))
 | [],i,h=>by cases h
 | p::ps,i,h=>by
  rw [ZT,List.map_cons,HEnv.get_cons]
  split
  ·rename_i e
   have:p=i:=by omega
   subst this;rfl
  ·rename_i e
   rcases List.mem_cons.1 h with rfl|h
   ·exact absurd rfl e
   ·exact zeq h
theorem QI {A B:HEnv} (h:ziO A B=true):∀ i x,A.get i=some x→B.get i=none:=by
 induction A with
 | nil=>intro i x hx;simp [HEnv.get_nil] at hx
 | cons y A ih =>
  intro i x hx
  obtain ⟨j,z⟩:=y
  simp only [ziO,List.all_cons,Bool.and_eq_true] at h
  rw [HEnv.get_cons] at hx
  split at hx
  ·rename_i e;subst e;simpa using h.1
  ·exact ih h.2 i x hx
theorem zfe {ps:List Nat} {i:Nat} (h:(HEnv.get (Vo ps) i).isSome=true):i∈ps:=by
 induction ps with
 | nil=>simp [Vo,HEnv.get_nil] at h
 | cons p ps ih =>
  rw [Vo,List.map_cons,HEnv.get_cons] at h
  split at h
  ·rename_i e;simp [e]
  ·simp [ih h]
theorem Qj {w w':World} {B e sz n:Nat} {v:Value} {xs:List Value} (h:w.ownsRow B e sz v n xs) (hb:∀ b,zY v=some b→w'.heap[b]?=w.heap[b]?):w'.ownsRow B e sz v n xs:=by
 obtain ⟨h1,h2⟩:=h
 refine ⟨h1,h2.imp id ?_⟩
 rintro ⟨g,cap,cur,a,b,c,d⟩
 exact ⟨g,cap,cur,a,b,by rw [hb g (by rw [a];rfl)];exact c,d⟩
theorem Xr {w:World} {B e sz n:Nat} {v:Value} {xs:List Value} (h:w.ownsRow B e sz v n xs) (b:Nat):zY v=some b↔v.ownBlock=some b:=by
 rcases h.2 with ⟨rfl,_⟩|⟨_,_,_,rfl,_⟩ <;> simp [zY,Value.ownBlock]
theorem zbg {xs:Array Operand} {ts:Array TypeId} {d:Tmp} {ars:List AV} (Hc Hc' R:HEnv) (env2:Env) {lone:Bool} (ps:List Nat) (hw1:lone=true→g.w1.heap.size=0) (hg:guardE ops env o=some true)
  (hop:o.op=.call { callee:=.value (.func f),args:=xs,argTypes:=ts }) (hargs:avs env xs.toList=some ars) (hsub:HSub H (Hc++R)) (hs:Sub env env2) (hd:o.dst=some d) (hdt:Nat.blt d n=true)
  (hchk:Vt Hc Hc' R ps ars env2 r=true) (hc:∀ us,ACallM P f ars (Hc++ZT us ps) r (Hc'++ZT us ps) lone)
  (h:AO P n g ops.toArray rest ((d,r)::env2) (Hc'++R) Q):AO P n g ops.toArray (o::rest) env H Q:=by
 simp only [Vt,Bool.and_eq_true] at hchk
 obtain ⟨⟨⟨⟨⟨⟨⟨⟨⟨⟨d1,d2⟩,d3⟩,d4⟩,i1⟩,i2⟩,i3⟩,i4⟩,i5⟩,i6⟩,i7⟩:=hchk
 have i7':∀ i∈ps,(Hc.get i).isSome=true∧(Hc'.get i).isSome=true:=fun i hi=>by simpa using List.all_eq_true.1 i7 i hi
 refine ⟨fun a w hinv=>?_⟩
 have hw:=qE hinv hg
 obtain ⟨h1,h2,K,ρ,hf,he⟩:=hinv
 refine wpList_step fun KK hKK=>?_
 rw [if_pos hw]
 have hlatR:Later K K w w:=.refl K w
 have gC:∀ i x,Hc.get i=some x→H.get i=some x:=fun i x hx=>hsub i x (by rw [get_append,hx])
 have gR:∀ i x,R.get i=some x→H.get i=some x:=fun i x hx=>hsub i x (by
  rw [get_append]
  cases hh:Hc.get i with
  | none=>exact hx
  | some y=>rw [QI d1 i y hh] at hx;cases hx)
 have nC:∀ i x,R.get i=some x→Hc.get i=none:=fun i x hx=>by
  cases hh:Hc.get i with
  | none=>rfl
  | some y=>rw [QI d1 i y hh] at hx;cases hx
 have nC':∀ i x,R.get i=some x→Hc'.get i=none:=fun i x hx=>by
  cases hh:Hc'.get i with
  | none=>rfl
  | some y=>rw [QI d2 i y hh] at hx;cases hx
 have hpinC:∀ {A:HEnv} {us:Nat→Value} {i:Nat} {x:HE},HEnv.get (A++ZT us ps) i=some x→x.live=true→A.get i=some x:=by
  intro A us i x hx hl
  rw [get_append] at hx
  cases hh:A.get i with
  | some z=>rw [hh] at hx;exact hx
  | none =>
   rw [hh] at hx
   obtain ⟨_,_,rfl⟩:=zau hx
   simp [HE.live] at hl
 obtain ⟨g',hg'⟩:∃ g':Base,g'=⟨g.w0,K,g.w1,g.ds,w,fun b=>g.pr b∨∃ i x,R.get i=some x∧x.live=true∧zY (ρ i)=some b⟩:=⟨_,rfl⟩
 have hfs:FS g' K ρ (Hc++ZT ρ ps) w:=by
  subst hg'
  refine ⟨hf.below,fun _ _ h=>h,fun _ _ h=>.inl h,hf.lt,hf.others,⟨?_,fun _ _ _=>rfl⟩,?_,?_,?_⟩
  ·rintro b (hb|⟨i,x,hi,hl,hb⟩)
   ·exact ⟨(hf.pt.same b hb).1,rfl,fun _=>Iff.rfl⟩
   ·exact ⟨((hf.heap.ok i x (gR i x hi)).block_lt hl hb).2,rfl,fun _=>Iff.rfl⟩
  ·intro i x b hi hl hb
   have hC:=hpinC hi hl
   rintro (hp|⟨j,y,hj,hly,hbj⟩)
   ·exact hf.away i x b (gC i x hC) hl hb hp
   ·have hne:i≠j:=by rintro rfl;rw [nC i y hj] at hC;cases hC
    exact hf.heap.apart i j x y b hne (gC i x hC) (gR j y hj) hl hly hb hbj
  ·intro i x hi
   rw [get_append] at hi
   cases hh:Hc.get i with
   | some y =>
    rw [hh] at hi;simp only [Option.some.injEq] at hi;subst hi
    have hok:=hf.heap.ok i y (gC i y hh)
    have hk:∀ j,(HEnv.get Hc j).isSome=true→(HEnv.get (Hc++ZT ρ ps) j).isSome=true∧ρ j=ρ j:=fun j hj=>⟨yZ j hj,rfl⟩
    cases y with
    | cell v=>obtain ⟨b,t,arr,u,q1,q2,q3,q4,q5,q6⟩:=hok;exact ⟨b,t,arr,u,q1,q2,q3,(q4.refs (QE i2 i v hh)).keeps hlatR hk,q5,q6⟩
    | pin v u=>exact (ARel.refs hok (YJ i2 i v u hh)).keeps hlatR hk
    | row t sz es=>exact hok
    | mrow t sz es=>exact hok
    | dead=>exact hok
    | obj X=>exact hok
   | none =>
    rw [hh] at hi
    obtain ⟨q1,q2,rfl⟩:=zau hi
    exact .own _ (yZ _ (i7' _ q2).1)
  ·intro i j x y b hij hi hj lx ly bx bj
   exact hf.heap.apart i j x y b hij (gC i x (hpinC hi lx)) (gC j y (hpinC hj ly)) lx ly bx bj
 have hpa:=zcV (a:=a) he hargs
 have hall:YZ K w ρ (Hc++ZT ρ ps) ars (xs.toList.map a.eval) :=
  ⟨hpa.1,fun k c v hc hv=>((hpa.2 k c v hc hv).refs (Yf i1 k c hc)).keeps hlatR fun j hj=>⟨yZ j hj,rfl⟩⟩
 have hrun:(execOp a.eval o).run P w=.ok (.enter f (xs.toList.map a.eval).toArray) w:=by
  have e:(xs.toList.map a.eval).toArray=xs.map a.eval:=by rw [←Array.toList_map,Array.toArray_toList]
  rw [e]
  simp [execOp,hop,resolve,Act.eval,Deferred.ofValue,invoke,ZU (hc ρ).stands]
 unfold Oper.wp
 rw [hrun]
 simp only [Oper.upon]
 refine ((hc ρ).calls g' K ρ w _ (by subst hg';exact hw1) hfs hall).mono fun e w' ⟨v,K',ρ',e1,hf',hv⟩=>?_
 subst e1
 have hlat:Later K K' w w':=by subst hg';exact ⟨hf'.old,hf'.pt.kept⟩
 have hprot:∀ b,(g.pr b∨∃ i x,R.get i=some x∧x.live=true∧zY (ρ i)=some b)→b < w'.heap.size∧w'.heap[b]?=w.heap[b]?∧∀ o,K' b o↔K b o:=by subst hg';exact hf'.pt.same
 have haway:∀ i x b,Hc'.get i=some x→x.live=true→zY (ρ' i)=some b→¬ (g.pr b∨∃ i x,R.get i=some x∧x.live=true∧zY (ρ i)=some b):=by
  subst hg';exact fun i x b hi=>hf'.away i x b (by rw [get_append,hi])
 obtain ⟨ρ2,hρ2⟩:∃ ρ2:Nat→Value,∀ j,ρ2 j=if (Hc'.get j).isSome then ρ' j else ρ j:=⟨_,fun _=>rfl⟩
 have r1:∀ j,(Hc'.get j).isSome=true→ρ2 j=ρ' j:=fun j hj=>by rw [hρ2,if_pos hj]
 have r2:∀ j,Hc'.get j=none→ρ2 j=ρ j:=fun j hj=>by rw [hρ2,hj];rfl
 have hkC:∀ j,(HEnv.get Hc' j).isSome=true→(HEnv.get (Hc'++R) j).isSome=true∧ρ2 j=ρ' j:=fun j hj=>⟨yZ j hj,r1 j hj⟩
 have hps:∀ i∈ps,ρ' i=ρ i:=fun i hi=>by
  have hnone:Hc'.get (1000 + i)=none:=by
   cases hh:Hc'.get (1000 + i) with
   | none=>rfl
   | some x=>have:=VG d4 _ x hh;omega
  have:=hf'.heap.ok (1000 + i) _ (by rw [get_append,hnone];exact zeq hi)
  have this:ARel K' w' ρ' (Hc'++ZT ρ ps) (.own i) (ρ i):=this
  generalize hu:ρ i=u at this
  cases this with
  | own _ _=>rfl
 have hkR:∀ j,(HEnv.get (R++Vo ps) j).isSome=true→(HEnv.get (Hc'++R) j).isSome=true∧ρ2 j=ρ j:=fun j hj=>by
  rw [get_append] at hj
  cases hh:R.get j with
  | some x =>
   have hn:=nC' j x hh
   exact ⟨by rw [get_append,hn,hh];rfl,r2 j hn⟩
  | none =>
   rw [hh] at hj
   have hm:=zfe hj
   have hs':=(i7' j hm).2
   exact ⟨yZ j hs',by rw [r1 j hs',hps j hm]⟩
 have hfs2:FS g K' ρ2 (Hc'++R) w':=by
  have b1:Below g.w0.heap.size g.w0 w':=by subst hg';exact hf'.below
  have b3:∀ b o,K' b o→K b o∨g.w0.heap.size≤b:=by subst hg';exact hf'.new
  have b5:KeepsOthers g.w1 w':=by subst hg';exact hf'.others
  have bB:HRel K' w' g.w0.heap.size ρ' (Hc'++ZT ρ ps):=by subst hg';exact hf'.heap
  refine ⟨b1,fun b o h=>hlat.sub b o (hf.old b o h),fun b o hk=>(b3 b o hk).elim (hf.new b o) .inr,hf'.lt,b5,⟨fun b hb=>?_,fun b o h0=>(hlat.cell b o (hf.old b o h0)).trans (hf.pt.kept b o h0)⟩,fun i x b hi hl hb=>?_,fun i x hi=>?_,fun i j x y b hij hi hj lx ly bx bj=>?_⟩
  ·obtain ⟨p1,p2,p3⟩:=hprot b (.inl hb)
   obtain ⟨q1,q2,q3⟩:=hf.pt.same b hb
   exact ⟨p1,p2.trans q2,fun o=>(p3 o).trans (q3 o)⟩
  ·rw [get_append] at hi
   cases hh:Hc'.get i with
   | some y =>
    rw [hh] at hi;simp only [Option.some.injEq] at hi;subst hi
    rw [r1 i (by rw [hh];rfl)] at hb
    exact fun hp=>haway i y b hh hl hb (.inl hp)
   | none =>
    rw [hh] at hi
    rw [r2 i hh] at hb
    exact hf.away i x b (gR i x hi) hl hb
  ·rw [get_append] at hi
   cases hh:Hc'.get i with
   | some y =>
    rw [hh] at hi;simp only [Option.some.injEq] at hi;subst hi
    rw [r1 i (by rw [hh];rfl)]
    have hok:=bB.ok i y (by rw [get_append,hh])
    have hl':=Later.refl K' w'
    cases y with
    | cell v=>obtain ⟨b,t,arr,u,q1,q2,q3,q4,q5,q6⟩:=hok;exact ⟨b,t,arr,u,q1,q2,q3,(q4.refs (QE i3 i v hh)).keeps hl' hkC,q5,q6⟩
    | pin v u=>exact (ARel.refs hok (YJ i3 i v u hh)).keeps hl' hkC
    | row t sz es=>exact hok
    | mrow t sz es=>exact hok
    | dead=>exact hok
    | obj X=>exact hok
   | none =>
    rw [hh] at hi
    rw [r2 i hh]
    have hok:=hf.heap.ok i x (gR i x hi)
    have hsame:x.live=true→∀ b,zY (ρ i)=some b→w'.heap[b]?=w.heap[b]?∧∀ o,K' b o↔K b o:=fun hl b hb=>(hprot b (.inr ⟨i,x,hi,hl,hb⟩)).2
    cases x with
    | cell v =>
     obtain ⟨b,t,arr,u,q1,q2,q3,q4,q5,q6⟩:=hok
     obtain ⟨s1,s2⟩:=hsame rfl b (by rw [q1];rfl)
     exact ⟨b,t,arr,u,q1,q2,by rw [s1];exact q3,(q4.refs (QE i5 i v hi)).keeps hlat hkR,q5,fun o hk=>q6 o ((s2 o).1 hk)⟩
    | pin v u=>exact (ARel.refs hok (YJ i5 i v u hi)).keeps hlat hkR
    | row t sz es =>
     obtain ⟨xs,q1,q2,q3,q4⟩:=hok
     refine ⟨xs,Qj q1 fun b hb=>(hsame rfl b hb).1,q2,fun k e he=>?_,fun b hb o=>?_⟩
     ·obtain ⟨c1,c2⟩:=q3 k e he
      exact ⟨c1,fun k c hc=>let ⟨v,h4,h5,h6⟩:=c2 k c hc;⟨v,h4,h5,h6.later hlat⟩⟩
     ·rw [(hsame rfl b ((Xr q1 b).2 hb)).2 o];exact q4 b hb o
    | mrow t sz es =>
     obtain ⟨xs,q1,q2,q3,q4⟩:=hok
     refine ⟨xs,Qj q1 fun b hb=>(hsame rfl b hb).1,q2,fun k e he=>?_,fun b hb o hk=>?_⟩
     ·obtain ⟨c1,c2⟩:=q3 k e he
      exact ⟨c1,fun k c hc=>let ⟨v,h4,h5,h6⟩:=c2 k c hc;⟨v,h4,h5,h6.later hlat⟩⟩
     ·exact q4 b hb o (((hsame rfl b ((Xr q1 b).2 hb)).2 o).1 hk)
    | dead=>trivial
    | obj X =>
     obtain ⟨b,ob,q1,q2,q3,q4,q5⟩:=hok
     obtain ⟨s1,s2⟩:=hsame rfl b (by rw [q1];rfl)
     exact ⟨b,ob,q1,q2,by rw [s1];exact q3,q4,fun o hk=>q5 o ((s2 o).1 hk)⟩
  ·rw [get_append] at hi hj
   cases hhi:Hc'.get i with
   | some x' =>
    rw [hhi] at hi;simp only [Option.some.injEq] at hi;subst hi
    rw [r1 i (by rw [hhi];rfl)] at bx
    cases hhj:Hc'.get j with
    | some y' =>
     rw [hhj] at hj;simp only [Option.some.injEq] at hj;subst hj
     rw [r1 j (by rw [hhj];rfl)] at bj
     exact bB.apart i j x' y' b hij (by rw [get_append,hhi]) (by rw [get_append,hhj]) lx ly bx bj
    | none =>
     rw [hhj] at hj;rw [r2 j hhj] at bj
     exact haway i x' b hhi lx bx (.inr ⟨j,y,hj,ly,bj⟩)
   | none =>
    rw [hhi] at hi;rw [r2 i hhi] at bx
    cases hhj:Hc'.get j with
    | some y' =>
     rw [hhj] at hj;simp only [Option.some.injEq] at hj;subst hj
     rw [r1 j (by rw [hhj];rfl)] at bj
     exact haway j y' b hhj ly bj (.inr ⟨i,x,hi,lx,bx⟩)
    | none =>
     rw [hhj] at hj;rw [r2 j hhj] at bj
     exact hf.heap.apart i j x y b hij (gR i x hi) (gR j y hj) lx ly bx bj
 have he2:EnvR K' w' ρ2 (Hc'++R) env2 a.tmps:=fun t av ht=>by
  obtain ⟨u,u1,u2⟩:=he t av (hs t av ht)
  exact ⟨u,u1,(u2.refs (zcZ i6 t av ht)).keeps hlat hkR⟩
 refine hKK _ _ (h.go _ _ ⟨Zg h1,put_defers h2,K',ρ2,hfs2,?_⟩)
 rw [hd]
 exact Yp h1 hdt he2 ((hv.refs i4).keeps (Later.refl K' w') hkC)
end
structure ACallPan (P:Program) (f:FuncId) (args:List AV) (H:HEnv) (v:Value) (lone:Bool:=false):Prop where
 stands:zbV P f
 calls:∀ (g:Base) (K:KK) (ρ:Nat→Value) (w:World) (vs:List Value),(lone=true→g.w1.heap.size=0)→FS g K ρ H w→YZ K w ρ H args vs →
  Calls P f vs.toArray w fun e w'=>e=.panicked [{ v:=v,recovered:=false }]∧∃ K' ρ',FS g K' ρ' [] w'
theorem zi {P:Prop}:false=true→P:=fun h=>nomatch h
inductive Out where
 | ret (r:AV) (H':HEnv)
 | pan (v:Value)
def zdy (P:Program) (f:FuncId) (args:List AV) (H:HEnv) (o:Out) (lone:Bool:=false):Prop :=
 match o with
 | .ret r H'=>ACallM P f args H r H' lone
 | .pan v=>ACallPan P f args H v lone
def zp9 (tb:Tab) (rs:List ResultVar):Out→QC
 | .ret r H'=>zie tb rs r H'
 | .pan v=>fun ex _ _=>ex=.panic [{ v:=v,recovered:=false }]
structure AOX (P:Program) (n:Nat) (g:Base) (ops:Array Oper) (l:List Oper) (env:Env) (H:HEnv) (Q:QC):Prop where
 go:∀ a w,Inv n g env H a w→wpList P ops (fun e a' w'=>∃ env' H',Inv n g env' H' a' w'∧(e=.normal∨∃ ch,e=.panic ch)∧Q e env' H') l a w
section
variable {P:Program} {tb:Tab} {n:Nat} {g:Base} {K K':KK} {w w':World} {ρ ρ':Nat→Value} {H H':HEnv} {env:Env} {a:Act} {ops:List Oper} {o:Oper} {rest:List Oper} {Q:Env→HEnv→Prop} {f:FuncId} {args:List AV} {r:AV} {QQ:QC}
theorem Ws {R:Exit→Act→World→Prop} {arr:Array Oper} {l2:List Oper}:∀ {l1:List Oper} {a:Act} {w:World},wpList P arr (fun e a' w'=>e=.normal∧wpList P arr R l2 a' w') l1 a w→wpList P arr R (l1++l2) a w
 | [],a,w,h=>h.2
 | o::l1,a,w,h=>by
  rw [List.cons_append]
  unfold wpList at h ⊢
  split
  ·rename_i hw
   rw [if_pos hw] at h
   rcases h with h|⟨h1,a',w',h2,_⟩
   ·refine .inl ?_
    unfold Oper.wp at h ⊢
    generalize (execOp a.eval o).run P w=r at *
    cases r with
    | ok nx w' =>
     cases nx <;> simp only [Oper.upon] at h ⊢ <;>
      first
       | exact Ws h
       | exact Calls.mono h (fun e w'' he=>by
         cases e with
         | returned v=>exact Ws he
         | panicked ch=>cases he.1
         | outgrown=>obtain ⟨_,_,he,_⟩:=he;cases he)
       | exact Rows.mono h (fun _ _ he=>Ws he)
    | halt x w'=>cases x <;> simp only [Oper.upon] at h ⊢ <;> first|exact h.elim|(obtain ⟨he,_⟩:=h;cases he)
   ·cases h2
  ·rename_i hw
   rw [if_neg hw] at h
   exact Ws h
theorem zsA {l1 l2:List Oper} (h:AO P n g ops.toArray l1 env H (fun env' H'=>AOX P n g ops.toArray l2 env' H' QQ)):AOX P n g ops.toArray (l1++l2) env H QQ :=
 ⟨fun a w hi=>Ws (ZJ (fun e a' w' ⟨env',H',h1,h2,h3⟩=>⟨h2,h3.go a' w' h1⟩) (h.go a w hi))⟩
theorem zsD (k:Nat) {l l1 l2:List Oper} (h1:l.take k=l1) (h2:l.drop k=l2) (h:AO P n g ops.toArray l1 env H (fun env' H'=>AOX P n g ops.toArray l2 env' H' QQ)):AOX P n g ops.toArray l env H QQ:=by
 have:=zsA h
 rwa [←h1,←h2,List.take_append_drop] at this
theorem zfi {l:List Oper} (h:AO P n g ops.toArray l env H (fun env' H'=>QQ .normal env' H')):AOX P n g ops.toArray l env H QQ :=
 ⟨fun a w hi=>ZJ (fun _ _ _ ⟨env',H',h1,h2,h3⟩=>⟨env',H',h1,.inl h2,by rw [h2];exact h3⟩) (h.go a w hi)⟩
theorem zlo:¬ LetsOut (fun e a w=>∃ env' H',Inv n g env' H' a w∧(e=.normal∨∃ ch,e=.panic ch)∧QQ e env' H'):=fun ⟨_,_,_,_,_,hx,_⟩=>by rcases hx with hx|⟨_,hx⟩ <;> cases hx
theorem zns {id:Nat} (h:AOX P n g ops.toArray ops env H QQ) (hnd:Zj ops=true:=by kernel_rfl):AW P n g (.region id ops.toArray false) env H QQ :=
 ⟨fun a w hi r d=>wpIn_mono (wpIn_region_lit (zbK (r:=r) (n:=d) zlo hnd (h.go a w hi))) (fun e a' w' ⟨env',H',h1,_,h3⟩=>⟨env',H',h1,h3⟩)⟩
theorem zD {xs:Array Operand} {ts:Array TypeId} {ars:List AV} {v:Value} (Hc:HEnv) {lone:Bool} (hw1:lone=true→g.w1.heap.size=0) (hg:guardE ops env o=some true)
  (hop:o.op=.call { callee:=.value (.func f),args:=xs,argTypes:=ts }) (hargs:avs env xs.toList=some ars) (hfit:Wn H Hc (zat 0 ars)) (hc:ACallPan P f ars Hc v lone)
  (h:QQ (.panic [{ v:=v,recovered:=false }]) [] []):AOX P n g ops.toArray (o::rest) env H QQ:=by
 refine ⟨fun a w hinv=>?_⟩
 have hw:=qE hinv hg
 obtain ⟨h1,h2,K,ρ,hf,he⟩:=hinv
 refine wpList_step fun KK hKK=>?_
 rw [if_pos hw]
 have hpa:=zcV (a:=a) he hargs
 have hall:YZ K w ρ Hc ars (xs.toList.map a.eval) :=
  ⟨hpa.1,fun k c v hc hv=>(hpa.2 k c v hc hv).refs (by
   have hin:=hfit.2
   simp only [Bool.and_eq_true] at hin
   have key:∀ (l:List AV) (b k:Nat) (c:AV),l[k]?=some c→zas Hc (zat b l)=true→Yn Hc c=true:=by
    intro l
    induction l with
    | nil=>intro b k c hc;simp at hc
    | cons x l ih =>
     intro b k c hc hb
     simp only [zat,zas,Bool.and_eq_true] at hb
     cases k with
     | zero=>simp at hc;subst hc;exact hb.1
     | succ k=>simp at hc;exact ih _ k c hc hb.2
   exact key ars 0 k c hc hin.1)⟩
 have hrun:(execOp a.eval o).run P w=.ok (.enter f (xs.toList.map a.eval).toArray) w:=by
  have e:(xs.toList.map a.eval).toArray=xs.map a.eval:=by rw [←Array.toList_map,Array.toArray_toList]
  rw [e]
  simp [execOp,hop,resolve,Act.eval,Deferred.ofValue,invoke,ZU hc.stands]
 unfold Oper.wp
 rw [hrun]
 simp only [Oper.upon]
 refine (hc.calls g K ρ w _ hw1 (hf.narrow hfit) hall).mono fun e w' ⟨e1,K',ρ',hf'⟩=>?_
 subst e1
 exact ⟨[],[],⟨h1,h2,K',ρ',hf',fun t av ht=>by simp [Env.get_nil] at ht⟩,.inr ⟨_,rfl⟩,h⟩
theorem zpb {x:Operand} {v:Value} {t:TypeId} (hg:guardE ops env o=some true) (hop:o.op=.panic x) (hx:env.pv H x=some (.base (.iface t v))) (h:QQ (.panic [{ v:=.iface t v,recovered:=false }]) env H):AOX P n g ops.toArray (o::rest) env H QQ:=by
 refine ⟨fun a w hinv=>?_⟩
 have hw:=qE hinv hg
 have hinv':=hinv
 obtain ⟨h1,h2,K,ρ,hf,he⟩:=hinv
 refine wpList_step fun KK hKK=>?_
 rw [if_pos hw]
 have hxr:=qo (a:=a) hf (x:=x) (fun av hh=>qQ he hh) hx
 unfold Oper.wp
 generalize hxv:a.eval x=xv at hxr
 cases hxr
 have hrun:(execOp a.eval o).run P w=.halt (.panic (.iface t v)) w:=by
  simp [execOp,hop,hxv,Instr.panic]
 rw [hrun]
 exact ⟨env,H,hinv',.inr ⟨_,rfl⟩,h⟩
end
section
variable {P:Program} {tb:Tab} {n:Nat} {H H':HEnv} {f:FuncId} {args:List AV}
theorem zcu {fn:Func} {c:Code} {v:Value} (hf:P.funcs[f]?=some fn) (hb:fn.body=some c) (hn:(fn.name == "runtime.NumGoroutine")=false) (hnt:fn.ntmps=n) (hargs:args.length≤n)
  {lone:Bool} (h:∀ g:Base,(lone=true→g.w1.heap.size=0)→AW P n g c (zat 0 args) H (fun ex _ _=>ex=.panic [{ v:=v,recovered:=false }])):ACallPan P f args H v lone:=by
 refine ⟨⟨fn,hf,by simp [hb],hn⟩,fun g0 K ρ w vs hw1 hfs0 hv=>?_⟩
 obtain ⟨g,hg0⟩:∃ g:Base,g=⟨g0.w0,g0.K0,g0.w1,[],g0.wp,g0.pr⟩:=⟨_,rfl⟩
 have hfs:FS g K ρ H w:=by subst hg0;exact ⟨hfs0.below,hfs0.old,hfs0.new,hfs0.lt,hfs0.others,⟨hfs0.pt.same,hfs0.pt.kept⟩,hfs0.away,hfs0.heap⟩
 refine calls_of_wp hf hb ?_
 have hlen:vs.length=args.length:=hv.1
 refine wp_mono (wpIn_wide.1 ((h g (by subst hg0;exact hw1)).go _ w ⟨by simp [hnt];omega,by subst hg0;rfl,K,ρ,hfs,?_⟩ none 0)) ?_
 ·intro t av hg
  obtain ⟨_,hp⟩:=zbp args 0 t av hg
  have hlt:t < vs.length:=by rw [hlen];exact (List.getElem?_eq_some_iff.1 hp).1
  refine ⟨vs[t],?_,hv.2 t av _ hp (List.getElem?_eq_getElem hlt)⟩
  rw [Array.getElem?_append_left (by simpa using hlt)]
  simp [hlt]
 ·rintro e a' w' ⟨env1,H1,hi,rfl⟩
  obtain ⟨_,h2,K',ρ',hf',_⟩:=hi
  have hf2:FS g K' ρ' [] w':=hf'.narrow (e:=[]) ⟨zK,rfl⟩
  refine ⟨by rw [h2];subst hg0;rfl,rfl,K',ρ',?_⟩
  subst hg0;exact ⟨hf2.below,hf2.old,hf2.new,hf2.lt,hf2.others,⟨hf2.pt.same,hf2.pt.kept⟩,hf2.away,hf2.heap⟩
theorem zF (htb:qp P tb) {fn:Func} {c:Code} {o:Out} (hf:P.funcs[f]?=some fn) (hb:fn.body=some c) (hn:(fn.name == "runtime.NumGoroutine")=false) (hnt:fn.ntmps=n) (hargs:args.length≤n) (rs:List ResultVar) (hrs:fn.results.toList=rs)
  {lone:Bool} (h:∀ g:Base,(lone=true→g.w1.heap.size=0)→AW P n g c (zat 0 args) H (zp9 tb rs o)):zdy P f args H o lone:=by
 cases o with
 | ret r H'=>exact QK htb hf hb hn hnt hargs rs hrs h
 | pan v=>exact zcu hf hb hn hnt hargs h
end
structure Bx where
 i:Nat
 ja:Nat
 js:Nat
 t':Nat
 ta:Nat
 tx:Nat
 jx:Nat
 ty:TypeId
 z:Value
 za:AV
def ZC (bs:List Bx) (m:Nat) (o:Oper) (j:Nat):Oper :=
 match bs.find? (fun x=>Nat.beq j x.ja) with
 | some _=>{ o with op:=.move (.tmp m) }
 | none=>match bs.find? (fun x=>Nat.beq j x.js) with
  | some x=>{ o with op:=.move (.tmp m),dst:=some x.t' }
  | none=>o
def YB (bs:List Bx) (m:Nat):List Oper→Nat→List Oper
 | [],_=>[]
 | o::ops,j=>ZC bs m o j::YB bs m ops (j + 1)
theorem zef (bs:List Bx) (m:Nat):∀ (ops:List Oper) (k j:Nat),(YB bs m ops k)[j]?=(ops[j]?).map fun o=>ZC bs m o (k + j)
 | [],k,j=>by simp [YB]
 | o::ops,k,j=>by
  cases j with
  | zero=>simp [YB]
  | succ j=>simp [YB,zef bs m ops (k + 1) j,Nat.add_assoc,Nat.add_comm 1 j]
theorem Vh (bs:List Bx) (m:Nat):∀ (ops:List Oper) (k:Nat),(YB bs m ops k).length=ops.length
 | [],_=>rfl
 | o::ops,k=>by simp [YB,Vh bs m ops (k + 1)]
theorem zh1 {bs:List Bx} {m:Nat} {o:Oper} {j:Nat}:(ZC bs m o j).after=o.after:=by
 unfold ZC;split
 ·rfl
 ·split <;> rfl
structure BxOk (tb:Tab) (n:Nat) (H:HEnv) (ops:List Oper) (bs:List Bx) (x:Bx):Prop where
 a:∃ oa,ops[x.ja]?=some oa∧oa.op=.alloc x.ty∧oa.dst=some x.ta∧oa.guard=none
 s:∃ os,ops[x.js]?=some os∧os.op=.store x.ty (.tmp x.ta) (.tmp x.tx)∧os.dst=none∧os.guard=none∧yD os x.ja=true∧yD os x.jx=true
 ox:∃ ox,(YB bs n ops 0)[x.jx]?=some ox∧ox.dst=some x.tx
 ta:Nat.blt x.ta n=true
 t':Nat.blt x.t' n=true
 z:tb.zero x.ty=some x.z
 za:zcw x.z=some x.za
 k:tb.known x.ty=true
 n:ze3 H x.za=true
 i:H.get x.i=none
 fa:bs.find? (fun y=>Nat.beq x.ja y.ja)=some x
 fs:bs.find? (fun y=>Nat.beq x.js y.ja)=none∧bs.find? (fun y=>Nat.beq x.js y.js)=some x
def BxAll (tb:Tab) (n:Nat) (H:HEnv) (ops:List Oper) (bs:List Bx):List Bx→Prop
 | []=>True
 | x::xs=>BxOk tb n H ops bs x∧BxAll tb n H ops bs xs
theorem BxAll.mem {tb:Tab} {n:Nat} {H:HEnv} {ops:List Oper} {bs:List Bx}:∀ {l:List Bx},BxAll tb n H ops bs l→∀ x∈l,BxOk tb n H ops bs x
 | [],_,x,h=>by simp at h
 | y::l,h,x,hx=>by
  rcases List.mem_cons.1 hx with rfl|hx
  ·exact h.1
  ·exact BxAll.mem h.2 x hx
def XL:List Bx→Bool
 | []=>true
 | x::xs=>xs.all (fun y=>!Nat.beq x.i y.i)&&XL xs
def zqY (bs:List Bx) (ops:List Oper):Bool:=ops.all fun o=>match o.guard with|some (jj,_)=>bs.all fun x=>!Nat.beq jj x.js|none=>true
def zg8 (tb:Tab) (H:HEnv):List Bx→Env→Option (List AV)
 | [],_=>some []
 | x::xs,env=>match env.get x.tx with
  | some v=>match zcM tb H x.ty x.za 0 v,zg8 tb H xs env with
   | some r,some rs=>some (r::rs)
   | _,_=>none
  | none=>none
def zor:List Bx→Env→Env
 | [],e=>e
 | x::xs,e=>(x.ta,.box x.i 0)::zor xs e
def bxH:List Bx→List AV→HEnv→HEnv
 | x::xs,r::rs,H=>(x.i,.cell r)::bxH xs rs H
 | _,_,H=>H
def zcC (rf:Nat→AV):List Bx→HEnv→HEnv
 | x::xs,H=>(x.i,.cell (rf x.i))::zcC rf xs H
 | [],H=>H
theorem zhc {rf rf':Nat→AV} {H:HEnv}:∀ {bs:List Bx},(∀ x∈bs,rf x.i=rf' x.i)→zcC rf bs H=zcC rf' bs H
 | [],_=>rfl
 | x::xs,h=>by rw [zcC,zcC,h x (by simp),zhc fun y hy=>h y (by simp [hy])]
theorem zs3 {tb:Tab} {H:HEnv} {env:Env}:∀ {bs:List Bx} {rs:List AV},XL bs=true→zg8 tb H bs env=some rs →
  ∃ rf:Nat→AV,(∀ x∈bs,∃ v,env.get x.tx=some v∧zcM tb H x.ty x.za 0 v=some (rf x.i))∧bxH bs rs H=zcC rf bs H
 | [],rs,_,h=>by
  simp [zg8] at h;subst h
  exact ⟨fun _=>.any,by simp,rfl⟩
 | x::xs,rs,hi,h=>by
  simp only [XL,Bool.and_eq_true] at hi
  simp only [zg8] at h
  split at h
  ·rename_i v hv
   split at h
   ·rename_i r rs' hr hrs
    simp only [Option.some.injEq] at h;subst h
    obtain ⟨rf,h1,h2⟩:=zs3 hi.2 hrs
    have hne:∀ y∈xs,y.i≠x.i:=by
     intro y hy e
     have:=List.all_eq_true.1 hi.1 y hy
     rw [e,Nat.beq_refl] at this;cases this
    refine ⟨fun i=>if i=x.i then r else rf i,fun y hy=>?_,?_⟩
    ·rcases List.mem_cons.1 hy with rfl|hy
     ·exact ⟨v,hv,by simpa using hr⟩
     ·obtain ⟨v',e1,e2⟩:=h1 y hy
      exact ⟨v',e1,by simpa [hne y hy] using e2⟩
    ·rw [bxH,zcC,h2]
     simp only [if_true]
     rw [zhc (rf':=fun i=>if i=x.i then r else rf i) fun y hy=>by simp [hne y hy]]
   ·cases h
  ·cases h
section
variable {P:Program} {tb:Tab} {n:Nat} {g:Base} {K K':KK} {w w':World} {ρ:Nat→Value} {H:HEnv} {env:Env} {ops ops':List Oper} {Q:Env→Prop} {bs:List Bx}
theorem Blk.other {b b':Nat} {ty ty':TypeId} {arr arr':Array Value} (h:Blk g K ρ H w b ty arr) (hne:b≠b'):Blk g K ρ H (w.setRow b' arr') b ty arr :=
 ⟨h.base,by rw [setRow_other w b' b _ hne];exact h.heap,h.noK,h.apart,h.far⟩
structure BIL (g:Base) (H:HEnv) (bs:List Bx) (rf:Nat→AV) (β:Nat→Nat) (listed:Array Bool) (a:Act) (w:World) (K:KK) (ρ:Nat→Value):Prop where
 at_:∀ x∈bs,listed.getD x.ja true=true→a.tmps[x.ta]?=some (.pointer (some ⟨β x.i,0,none⟩)) ∧
  ((listed.getD x.js true=false∧Blk g K ρ H w (β x.i) x.ty x.z.cells)∨(listed.getD x.js true=true∧∃ ru,ARel K w ρ H (rf x.i) ru∧Blk g K ρ H w (β x.i) x.ty ru.cells))
 apart:∀ x∈bs,∀ y∈bs,x.i≠y.i→listed.getD x.ja true=true→listed.getD y.ja true=true→β x.i≠β y.i
theorem zrS {z:Value} {za:AV} (hza:zcw z=some za) (K:KK) (w:World) (ρ:Nat→Value):ARel K w ρ H za z:=by
 unfold zcw at hza
 split at hza
 ·rename_i cs
  split at hza
  ·rename_i ps hps
   simp only [Option.some.injEq] at hza;subst hza
   have hr:=Xo (K:=K) (w:=w) hps
   have:=PRel.agg ps cs.toList hr.1 (Xv hps) hr.2
   exact .pv _ _ (by simpa using this)
  ·cases hza
 ·split at hza
  ·rename_i ho
   simp only [Option.some.injEq] at hza;subst hza
   exact .pv _ _ (.base _ ho)
  ·cases hza
theorem zjT (hid:XL bs=true):∀ x∈bs,∀ y∈bs,x.i=y.i→x=y:=by
 induction bs with
 | nil=>intro x h;simp at h
 | cons z l ih =>
  simp only [XL,Bool.and_eq_true] at hid
  have hz:∀ y∈l,z.i≠y.i:=by
   intro y hy e
   have:=List.all_eq_true.1 hid.1 y hy
   rw [e,Nat.beq_refl] at this;cases this
  intro x hx y hy e
  rcases List.mem_cons.1 hx with rfl|hx <;> rcases List.mem_cons.1 hy with rfl|hy
  ·rfl
  ·exact (hz y hy e).elim
  ·exact (hz x (by assumption) e.symm).elim
  ·exact ih hid.2 x (by assumption) y (by assumption) e
theorem zmP {rf:Nat→AV} {R:Exit→Act→World→Prop} (htb:qp P tb) (hsh:ops'=YB bs n ops 0) (hB:ZW ops' ops'=true) (s:Script P n g H ops' ops' env Q)
  (hall:BxAll tb n H ops bs bs) (hid:XL bs=true)
  (hng:∀ (j:Nat) (o:Oper) (jj:Nat) (want:Bool),ops[j]?=some o→o.guard=some (jj,want)→∀ x∈bs,jj≠x.js)
  (henv:env.get n=none) (hrf:∀ x∈bs,∃ v,s.last.get x.tx=some v∧zcM tb H x.ty x.za 0 v=some (rf x.i))
  (hR:∀ (a:Act) (w:World) (K:KK) (ρ:Nat→Value) (β:Nat→Nat),a.tmps.size=n→a.defers=g.ds→FS g K ρ H w→EnvR K w ρ H s.last a.tmps →
   (∀ x∈bs,a.tmps[x.ta]?=some (.pointer (some ⟨β x.i,0,none⟩))∧∃ ru,ARel K w ρ H (rf x.i) ru∧Blk g K ρ H w (β x.i) x.ty ru.cells)→(∀ x∈bs,∀ y∈bs,x.i≠y.i→β x.i≠β y.i)→R .normal a w) :
  ∀ (fuel:Nat) (listed:Array Bool) (a:Act) (w:World) (K:KK) (ρ:Nat→Value) (β:Nat→Nat),(listed.toList.filter (! ·)).length=fuel→MidX P n g H ops' env Q s listed a w K ρ→BIL g H bs rf β listed a w K ρ →
  wpAny P .any ops.toArray R fuel listed a w:=by
 have hlen:ops'.length=ops.length:=by rw [hsh,Vh]
 have hget:∀ j,ops'[j]?=(ops[j]?).map fun o=>ZC bs n o j:=by
  intro j;rw [hsh,zef];simp
 have hedges:∀ j o,ops[j]?=some o→∀ i,yD (ZC bs n o j) i=yD o i:=fun j o _ i=>zdi zh1 i
 have hpureD:∀ (o:Oper) (j:Nat),(∀ x∈bs,j≠x.ja)→(∀ x∈bs,j≠x.js)→ZC bs n o j=o:=by
  intro o j h1 h2
  have e1:bs.find? (fun x=>Nat.beq j x.ja)=none:=List.find?_eq_none.2 fun x hx h=>h1 x hx (Nat.eq_of_beq_eq_true h)
  have e2:bs.find? (fun x=>Nat.beq j x.js)=none:=List.find?_eq_none.2 fun x hx h=>h2 x hx (Nat.eq_of_beq_eq_true h)
  unfold ZC;rw [e1];simp only;rw [e2]
 have hshA:∀ (x:Bx),x∈bs→∀ o:Oper,ZC bs n o x.ja={ o with op:=.move (.tmp n) }:=by
  intro x hx o
  unfold ZC;rw [(hall.mem x hx).fa]
 have hshS:∀ (x:Bx),x∈bs→∀ o:Oper,ZC bs n o x.js={ o with op:=.move (.tmp n),dst:=some x.t' }:=by
  intro x hx o
  unfold ZC;rw [(hall.mem x hx).fs.1];simp only;rw [(hall.mem x hx).fs.2]
 have hnas:∀ x∈bs,∀ y∈bs,x.js≠y.ja:=by
  intro x hx y hy e
  have:=(hall.mem x hx).fs.1
  have h2:=List.find?_eq_none.1 this y hy
  rw [e] at h2;exact h2 (Nat.beq_refl _)
 have haa:∀ x∈bs,∀ y∈bs,x.ja=y.ja→x=y:=by
  intro x hx y hy e
  have h1:=(hall.mem x hx).fa
  have h2:=(hall.mem y hy).fa
  rw [e] at h1;rw [h1] at h2;exact Option.some.inj h2
 have hss:∀ x∈bs,∀ y∈bs,x.js=y.js→x=y:=by
  intro x hx y hy e
  have h1:=(hall.mem x hx).fs.2
  have h2:=(hall.mem y hy).fs.2
  rw [e] at h1;rw [h1] at h2;exact Option.some.inj h2
 have hjsl:∀ x∈bs,x.js < ops.length:=fun x hx=>by obtain ⟨os,h,_⟩:=(hall.mem x hx).s;exact (List.getElem?_eq_some_iff.1 h).1
 have hjal:∀ x∈bs,x.ja < ops.length:=fun x hx=>by obtain ⟨os,h,_⟩:=(hall.mem x hx).a;exact (List.getElem?_eq_some_iff.1 h).1
 have fin:∀ (listed:Array Bool) (a:Act) (w:World) (K:KK) (ρ:Nat→Value) (β:Nat→Nat),(∀ j,j < ops.length→listed.getD j true=true)→MidX P n g H ops' env Q s listed a w K ρ→BIL g H bs rf β listed a w K ρ→R .normal a w:=by
  intro listed a w K ρ β hl hm hb
  refine hR a w K ρ β hm.size hm.defers hm.fs (hm.done (fun j hj=>hl j (by omega))) (fun x hx=>?_) (fun x hx y hy hne=>hb.apart x hx y hy hne (hl _ (hjal x hx)) (hl _ (hjal y hy)))
  obtain ⟨b1,b2⟩:=hb.at_ x hx (hl _ (hjal x hx))
  rcases b2 with ⟨b2,_⟩|⟨_,ru,b3,b4⟩
  ·rw [hl _ (hjsl x hx)] at b2;cases b2
  ·exact ⟨b1,ru,b3,b4⟩
 intro fuel
 induction fuel with
 | zero =>
  intro listed a w K ρ β hc hm hb
  have hl:∀ j,j < ops.length→listed.getD j true=true:=by
   intro j hj
   have hn:=List.filter_eq_nil_iff.1 (List.eq_nil_of_length_eq_zero hc)
   have hlt:j < listed.size:=by rw [hm.lsize,hlen];exact hj
   have:=hn listed[j] (by simp)
   simp only [Bool.not_eq_true',Bool.not_eq_false] at this
   rw [Array.getD_eq_getD_getElem?,Array.getElem?_eq_getElem hlt]
   simpa using this
  refine ⟨?_,fin listed a w K ρ β hl hm hb⟩
  rw [List.eq_nil_iff_forall_not_mem]
  intro j hj
  obtain ⟨o,ho,hun,_⟩:=yV.1 hj
  rw [hl j (List.getElem?_eq_some_iff.1 ho).1] at hun;cases hun
 | succ fuel ih =>
  intro listed a w K ρ β hc hm hb
  refine ⟨fun h0=>?_,fun j hj=>?_⟩
  ·refine fin listed a w K ρ β (fun j hj=>?_) hm hb
   induction j using Nat.strongRecOn with
   | _ j ihj =>
    cases hun:listed.getD j true
    ·exfalso
     have ho:=List.getElem?_eq_getElem hj
     have:j∈Region.ready .any ops.toArray listed:=yV.2 ⟨_,ho,hun,fun i hi=>by
      have ho':ops'[j]?=some (ZC bs n ops[j] j):=by rw [hget,ho];rfl
      have hij:=(Yj hB ho').2.1 i (by rw [hedges j _ ho];exact hi)
      have hi2:=ihj i hij (by omega)
      have hlt:i < listed.size:=by rw [hm.lsize,hlen];omega
      rw [Array.getD_eq_getD_getElem?,Array.getElem?_eq_getElem hlt] at hi2 ⊢
      exact hi2⟩
     rw [h0] at this;cases this
    ·rfl
  obtain ⟨o,ho,hun,hready⟩:=yV.1 hj
  have hjlt:=(List.getElem?_eq_some_iff.1 ho).1
  have hjl:j < listed.size:=by rw [hm.lsize,hlen];exact hjlt
  have ho':ops'[j]?=some (ZC bs n o j):=by rw [hget,ho];rfl
  have hready':∀ i,yD (ZC bs n o j) i=true→listed.getD i false=true:=fun i hi=>hready i (by rw [←hedges j o ho];exact hi)
  have hcount:=zdx hjl hun hc
  have hft:∀ i,listed.getD i false=true→listed.getD i true=true:=by
   intro i hi
   rw [Array.getD_eq_getD_getElem?] at hi ⊢
   cases h:listed[i]? with
   | none=>rfl
   | some b=>rw [h] at hi;exact hi
  have hrj:s.r[j]?=some (s.r[j]'(by rw [s.lenr,hlen];exact hjlt)):=List.getElem?_eq_getElem _
  generalize s.r[j]'(by rw [s.lenr,hlen];exact hjlt)=rj at hrj
  unfold wpOp
  simp only [List.getElem?_toArray,ho]
  have hsetT:∀ k,k≠j→(listed.setIfInBounds j true).getD k true=listed.getD k true:=fun k hk=>zU hk
  by_cases hja:∃ x∈bs,j=x.ja
  ·obtain ⟨x,hx,rfl⟩:=hja
   obtain ⟨oa,q1,hopa,hda,hga⟩:=(hall.mem x hx).a
   have eo:oa=o:=Option.some.inj (q1.symm.trans ho)
   subst eo
   have hw:Region.wanted oa (yielded ops.toArray a.tmps)=true:=by simp [Region.wanted,hga]
   rw [if_pos hw]
   refine .inl ?_
   have hzi:∃ i,P.info? x.ty=some i∧i.zero=some x.z:=by
    have hz:=(hall.mem x hx).z
    unfold Tab.zero at hz
    split at hz
    ·rename_i ti hti
     obtain ⟨i,e1,_,_,e4,_⟩:=ZH htb hti
     exact ⟨i,e1,by rw [e4];exact hz⟩
    ·cases hz
   obtain ⟨ti,hti,htz⟩:=hzi
   have hrun:(execOp a.eval oa).run P w=.ok (.value (.pointer (some ⟨w.heap.size,0,none⟩))) (w.alloc (.cells x.z.cells x.ty)):=by
    simp [execOp,hopa,Instr.alloc,zeroValue,typeInfo,hti,htz,newVar,newRow]
   unfold Oper.wp
   rw [hrun]
   simp only [Oper.upon]
   have hev:Evo K K w (w.alloc (.cells x.z.cells x.ty)):=⟨(Below.refl _ _).alloc (Nat.le_refl _) _,fun _ _ h=>h,fun _ _ h=>.inl h,fun b o h=>by have:=hm.fs.lt b o h;simp;omega⟩
   have hfs:=hm.fs.evo hev
   have hshx:=hshA x hx oa
   rw [hshx] at ho' hready'
   have hta:=Nat.le_of_ble_eq_true (hall.mem x hx).ta
   rw [hda]
   refine ih _ _ _ K ρ (fun k=>if k=x.i then w.heap.size else β k) hcount (hm.next hB ho' hrj hda hta hun hready' hfs (hev.later hm.fs.lt) (zbN a ho' hrj rfl hga henv hfs _)) ⟨?_,?_⟩
   ·intro y hy hly
    by_cases hxy:y=x
    ·subst hxy
     refine ⟨by simp only [Act.put];rw [Array.getElem?_setIfInBounds_self_of_lt (by rw [hm.size];exact hta)];simp,.inl ⟨?_,?_⟩⟩
     ·rw [hsetT _ (hnas y hy y hy)]
      cases hjs:listed.getD y.js true
      ·rfl
      ·obtain ⟨os,e1,_,_,_,e5,_⟩:=(hall.mem y hy).s
       have hos':ops'[y.js]?=some (ZC bs n os y.js):=by rw [hget,e1];rfl
       have:=hft _ (hm.closed y.js _ hos' hjs y.ja (by rw [hedges y.js os e1];exact e5))
       rw [hun] at this;cases this
     ·simp only [if_true]
      refine ⟨hm.fs.below.size,heap_alloc_new w _,fun o ho=>by have:=hm.fs.lt _ o ho;omega,fun k h hk hl hbk=>?_,hm.fs.pt.lt (Nat.le_refl _)⟩
      have:=((hm.fs.heap.ok k h hk).block_lt hl hbk).2
      omega
    ·have hine:y.i≠x.i:=fun e=>hxy (zjT hid y hy x hx e)
     have hjne:y.ja≠x.ja:=fun e=>hxy (haa y hy x hx e)
     rw [hsetT _ hjne] at hly
     obtain ⟨b1,b2⟩:=hb.at_ y hy hly
     simp only [hine,if_false]
     have hta2:x.ta≠y.ta:=by
      intro e
      obtain ⟨oy,e1,_,e3,_⟩:=(hall.mem y hy).a
      have hoy:ops'[y.ja]?=some (ZC bs n oy y.ja):=by rw [hget,e1];rfl
      exact (Yj hB ho').2.2.1 y.ja _ hoy hjne (by rw [hshA y hy];show oy.dst=oa.dst;rw [e3,hda,e])
     refine ⟨by simp only [Act.put];rw [Array.getElem?_setIfInBounds_ne hta2];exact b1,?_⟩
     rw [hsetT _ (hnas y hy x hx)]
     rcases b2 with ⟨e1,e2⟩|⟨e1,ru,e2,e3⟩
     ·exact .inl ⟨e1,e2.evo hev⟩
     ·exact .inr ⟨e1,ru,e2.later (hev.later hm.fs.lt),e3.evo hev⟩
   ·intro y hy y2 hy2 hne hl1 hl2
    have hlt:∀ y∈bs,y≠x→(listed.setIfInBounds x.ja true).getD y.ja true=true→β y.i < w.heap.size:=by
     intro y hy hxy hly
     have hjne:y.ja≠x.ja:=fun e=>hxy (haa y hy x hx e)
     rw [hsetT _ hjne] at hly
     obtain ⟨_,b2⟩:=hb.at_ y hy hly
     rcases b2 with ⟨_,e2⟩|⟨_,ru,_,e3⟩
     ·exact (Array.getElem?_eq_some_iff.1 e2.heap).1
     ·exact (Array.getElem?_eq_some_iff.1 e3.heap).1
    by_cases h1:y=x
    ·subst h1
     have h2:y2≠y:=fun e=>hne (by rw [e])
     have:=hlt y2 hy2 h2 hl2
     have hine:y2.i≠y.i:=Ne.symm hne
     simp only [hine,if_true,if_false];omega
    ·by_cases h2:y2=x
     ·subst h2
      have:=hlt y hy h1 hl1
      simp only [hne,if_true,if_false];omega
     ·have i1:y.i≠x.i:=fun e=>h1 (zjT hid y hy x hx e)
      have i2:y2.i≠x.i:=fun e=>h2 (zjT hid y2 hy2 x hx e)
      simp only [i1,i2,if_false]
      rw [hsetT _ fun e=>h1 (haa y hy x hx e)] at hl1
      rw [hsetT _ fun e=>h2 (haa y2 hy2 x hx e)] at hl2
      exact hb.apart y hy y2 hy2 hne hl1 hl2
  by_cases hjs:∃ x∈bs,j=x.js
  ·obtain ⟨x,hx,rfl⟩:=hjs
   obtain ⟨os,q1,hops,hds,hgs,hea,hex⟩:=(hall.mem x hx).s
   have eo:os=o:=Option.some.inj (q1.symm.trans ho)
   subst eo
   have hw:Region.wanted os (yielded ops.toArray a.tmps)=true:=by simp [Region.wanted,hgs]
   rw [if_pos hw]
   refine .inl ?_
   have hlja:=hft _ (hready x.ja hea)
   obtain ⟨b1,b2⟩:=hb.at_ x hx hlja
   have hblk:Blk g K ρ H w (β x.i) x.ty x.z.cells:=by
    rcases b2 with ⟨_,h⟩|⟨h,_⟩
    ·exact h
    ·rw [hun] at h;cases h
   obtain ⟨ox,hox,hdx⟩:=(hall.mem x hx).ox
   rw [←hsh] at hox
   obtain ⟨v,hv,hr⟩:=hrf x hx
   obtain ⟨u,u1,u2⟩:=hm.early hB hox hdx (hft _ (hready x.jx hex)) hv
   have hzr:=zrS (H:=H) (hall.mem x hx).za K w ρ
   obtain ⟨s1,s2,s3,ru,hru,hcells⟩:=zdF hr hzr u2 (row_one hm.fs) (zeP hm.fs hzr (hall.mem x hx).n)
   have hk:=(hall.mem x hx).k
   have hko:tb.k x.ty≠.oth:=by intro e;simp [Tab.known,e] at hk
   have hs:=run_sizeOf htb hko w
   have hst:=run_storeCells_at P (β x.i) 0 x.ty u.cells.toList 0 x.z.cells w hblk.heap (by simp;omega) s2
   have ha1:a.eval (.tmp x.ta)=.pointer (some ⟨β x.i,0,none⟩):=by simp [Act.eval,Array.getD_eq_getD_getElem?,b1]
   have ha2:a.eval (.tmp x.tx)=u:=by simp [Act.eval,Array.getD_eq_getD_getElem?,u1]
   have hrun:(execOp a.eval os).run P w=.ok .skip (w.setRow (β x.i) ru.cells):=by
    simp only [Nat.add_zero,Array.length_toList,s1] at hst
    rw [←hcells,Array.toArray_toList] at hst
    simp [execOp,hops,ha1,ha2,Instr.storeAt,Instr.sureAddr,storeVar,hs,s1,hst]
   unfold Oper.wp
   rw [hrun]
   simp only [Oper.upon]
   obtain ⟨f1,f2,f3⟩:=hblk.set (arr':=ru.cells) hm.fs
   have hshx:=hshS x hx os
   rw [hshx] at ho' hready'
   have ht':=Nat.le_of_ble_eq_true (hall.mem x hx).t'
   have hd':a.put os.dst undef=a:=by rw [hds];rfl
   rw [hd']
   refine ih _ _ _ K ρ β hcount (hm.nop ho' hrj (fun u=>zbN a ho' hrj rfl hgs henv f1 u) rfl ht' hun hready' f1 f3) ⟨?_,?_⟩
   ·intro y hy hly
    rw [hsetT _ (Ne.symm (hnas x hx y hy))] at hly
    by_cases hxy:y=x
    ·subst hxy
     exact ⟨b1,.inr ⟨qh hjl,ru,hru.later f3,f2⟩⟩
    ·have hine:y.i≠x.i:=fun e=>hxy (zjT hid y hy x hx e)
     have hjne:y.js≠x.js:=fun e=>hxy (hss y hy x hx e)
     rw [hsetT _ hjne]
     obtain ⟨c1,c2⟩:=hb.at_ y hy hly
     have hbne:=hb.apart y hy x hx hine hly hlja
     refine ⟨c1,?_⟩
     rcases c2 with ⟨e1,e2⟩|⟨e1,ru',e2,e3⟩
     ·exact .inl ⟨e1,e2.other (ty':=x.ty) hbne⟩
     ·exact .inr ⟨e1,ru',e2.later f3,e3.other (ty':=x.ty) hbne⟩
   ·intro y hy y2 hy2 hne hl1 hl2
    rw [hsetT _ (Ne.symm (hnas x hx y hy))] at hl1
    rw [hsetT _ (Ne.symm (hnas x hx y2 hy2))] at hl2
    exact hb.apart y hy y2 hy2 hne hl1 hl2
  ·have hja2:∀ x∈bs,j≠x.ja:=fun x hx e=>hja ⟨x,hx,e⟩
   have hjs2:∀ x∈bs,j≠x.js:=fun x hx e=>hjs ⟨x,hx,e⟩
   have hpure:ZC bs n o j=o:=hpureD o j hja2 hjs2
   rw [hpure] at ho' hready'
   have hej:s.e[j]?=some (s.e[j]'(by rw [s.lene,hlen];exact hjlt)):=List.getElem?_eq_getElem _
   generalize s.e[j]'(by rw [s.lene,hlen];exact hjlt)=ej at hej
   obtain ⟨t,hd,ht,hor⟩:=s.ok j o rj ej ho' hrj hej
   have hreads:=hm.mid.reads hB ho' hej hun hready' hm.hl hm.he
   have htta:∀ x∈bs,t≠x.ta:=by
    intro x hx e
    obtain ⟨oy,e1,_,e3,_⟩:=(hall.mem x hx).a
    have hoy:ops'[x.ja]?=some (ZC bs n oy x.ja):=by rw [hget,e1];rfl
    exact (Yj hB hoy).2.2.1 j o ho' (hja2 x hx) (by rw [hshA x hx];show o.dst=oy.dst;rw [hd,e3,e])
   have hBI:∀ (v:Value) (w':World) (K':KK),Evo K K' w w'→BIL g H bs rf β (listed.setIfInBounds j true) (a.put (some t) v) w' K' ρ:=by
    intro v w' K' hev
    refine ⟨fun y hy hly=>?_,fun y hy y2 hy2 hne hl1 hl2=>?_⟩
    ·rw [hsetT _ (Ne.symm (hja2 y hy))] at hly
     rw [hsetT _ (Ne.symm (hjs2 y hy))]
     obtain ⟨c1,c2⟩:=hb.at_ y hy hly
     refine ⟨by simp only [Act.put];rw [Array.getElem?_setIfInBounds_ne (htta y hy)];exact c1,?_⟩
     rcases c2 with ⟨e1,e2⟩|⟨e1,ru',e2,e3⟩
     ·exact .inl ⟨e1,e2.evo hev⟩
     ·exact .inr ⟨e1,ru',e2.later (hev.later hm.fs.lt),e3.evo hev⟩
    ·rw [hsetT _ (Ne.symm (hja2 y hy))] at hl1
     rw [hsetT _ (Ne.symm (hja2 y2 hy2))] at hl2
     exact hb.apart y hy y2 hy2 hne hl1 hl2
   have hwanted:∀ b,guardE ops' ej o=some b→Region.wanted o (yielded ops.toArray a.tmps)=b:=by
    intro b hgb
    unfold guardE Zf at hgb
    cases hg:o.guard with
    | none=>simp [hg] at hgb;subst hgb;simp [Region.wanted,hg]
    | some x =>
     obtain ⟨jj,want⟩:=x
     have hjj':=hng j o jj want ho hg
     simp only [hg] at hgb
     cases hjj:ops[jj]? with
     | none=>rw [hget,hjj] at hgb;simp at hgb
     | some o' =>
      have hS:ops'[jj]?=some (ZC bs n o' jj):=by rw [hget,hjj];rfl
      have hSd:(ZC bs n o' jj).dst=o'.dst:=by
       unfold ZC
       split
       ·rfl
       ·rw [List.find?_eq_none.2 fun x hx h=>hjj' x hx (Nat.eq_of_beq_eq_true h)]
      simp only [hS] at hgb
      cases hd':o'.dst with
      | none=>rw [hSd,hd'] at hgb;simp at hgb
      | some t2 =>
       rw [hSd,hd'] at hgb
       simp only at hgb
       have hmem:t2∈readsOf ops' o:=by simp [readsOf,Zf,hg,hS,hSd,hd']
       split at hgb
       ·rename_i bb hbb
        simp only [Option.some.injEq] at hgb;subst hgb
        obtain ⟨v,v1,v2⟩:=hreads t2 hmem _ hbb
        cases v2 with
        | pv _ _ hp=>cases hp;simp only [Region.wanted,hg,yielded,List.getElem?_toArray,hjj,Option.bind_some,hd',v1];cases bb <;> cases want <;> rfl
       ·rename_i vs hbb
        simp only [Option.some.injEq] at hgb;subst hgb
        obtain ⟨v,v1,v2⟩:=hreads t2 hmem _ hbb
        cases v2 with
        | pv _ _ hp=>cases hp;simp only [Region.wanted,hg,yielded,List.getElem?_toArray,hjj,Option.bind_some,hd',v1];cases want <;> rfl
       ·cases hgb
   rcases hor with ⟨hgt,hqs⟩|⟨hgf,rfl⟩
   ·rw [hwanted true hgt,if_pos rfl]
    refine .inl ?_
    unfold Oper.wp
    have hqr:=hqs.go K ρ a w hm.fs (fun x hx av hxv=>by
     cases x with
     | tmp t' =>
      obtain ⟨v,v1,v2⟩:=hreads t' (by
       unfold readsOf
       exact List.mem_append_left _ (YR (Array.mem_toList_iff.2 hx))) av hxv
      simpa [Act.eval,Array.getD_eq_getD_getElem?,v1] using v2
     | const v =>
      simp only [Env.val] at hxv
      split at hxv
      ·rename_i h1;simp only [Option.some.injEq] at hxv;subst hxv;exact .pv _ _ (.base v h1)
      ·cases hxv
     | func f =>
      simp only [Env.val,Option.some.injEq] at hxv;subst hxv
      exact .pv _ _ (.fn (.func f) [] [] [] [] rfl rfl (by simp) (by simp))
     | global gg =>
      simp only [Env.val,Option.some.injEq] at hxv;subst hxv
      exact .pv _ _ (.base _ rfl))
    generalize (execOp a.eval o).run P w=res at hqr
    cases res with
    | halt x w'=>simp only [zdu] at hqr
    | ok nx w' =>
     cases nx <;> simp only [zdu] at hqr <;> simp only [Oper.upon]
     case value v =>
      obtain ⟨K',hev,hv'⟩:=hqr
      rw [hd]
      exact ih _ _ _ K' ρ β hcount (hm.next hB ho' hrj hd ht hun hready' (hm.fs.evo hev) (hev.later hm.fs.lt) hv') (hBI v _ _ hev)
     case enter f args =>
      obtain ⟨rfl,hc'⟩:=hqr
      refine hc'.mono fun e w'' ⟨v,K',he',hev,hv'⟩=>?_
      subst he'
      rw [hd]
      exact ih _ _ _ K' ρ β hcount (hm.next hB ho' hrj hd ht hun hready' (hm.fs.evo hev) (hev.later hm.fs.lt) hv') (hBI v _ _ hev)
   ·rw [hwanted false hgf,if_neg (by simp)]
    rw [hd]
    exact ih _ _ _ K ρ β hcount (hm.next hB ho' hrj hd ht hun hready' hm.fs (Later.refl _ _) VQ) (hBI undef _ _ (.refl hm.fs.lt))
theorem zoo {rf:Nat→AV} {β:Nat→Nat} {tmps:Array Value}:∀ {l:List Bx} {ρ:Nat→Value},XL l=true→FS g K ρ H w→(∀ x∈l,H.get x.i=none) →
  (∀ x∈l,tmps[x.ta]?=some (.pointer (some ⟨β x.i,0,none⟩))∧∃ ru,ARel K w ρ H (rf x.i) ru∧Blk g K ρ H w (β x.i) x.ty ru.cells)→(∀ x∈l,∀ y∈l,x.i≠y.i→β x.i≠β y.i)→EnvR K w ρ H env tmps →
  ∃ ρ',FS g K ρ' (zcC rf l H) w∧EnvR K w ρ' (zcC rf l H) (zor l env) tmps∧(∀ j,(H.get j).isSome=true→(HEnv.get (zcC rf l H) j).isSome=true∧ρ' j=ρ j)∧(∀ x∈l,ρ' x.i=.pointer (some ⟨β x.i,0,none⟩)) ∧
   (∀ j h,HEnv.get (zcC rf l H) j=some h→H.get j=some h∨∃ x∈l,j=x.i)
 | [],ρ,_,hf,_,_,_,he=>⟨ρ,hf,he,fun j hj=>⟨hj,rfl⟩,by simp,fun j h hj=>.inl hj⟩
 | x::l,ρ,hid,hf,hn,hb,hap,he=>by
  have hid':=hid
  simp only [XL,Bool.and_eq_true] at hid
  obtain ⟨ρ1,f1,e1,k1,p1,o1⟩:=zoo hid.2 hf (fun y hy=>hn y (by simp [hy])) (fun y hy=>hb y (by simp [hy])) (fun y hy z hz=>hap y (by simp [hy]) z (by simp [hz])) he
  have hxl:∀ y∈l,x.i≠y.i:=by
   intro y hy e
   have:=List.all_eq_true.1 hid.1 y hy
   rw [e,Nat.beq_refl] at this;cases this
  obtain ⟨b1,ru,b2,b3⟩:=hb x (by simp)
  have hi:HEnv.get (zcC rf l H) x.i=none:=by
   cases hg:HEnv.get (zcC rf l H) x.i with
   | none=>rfl
   | some h =>
    rcases o1 x.i h hg with h1|⟨y,hy,e⟩
    ·rw [hn x (by simp)] at h1;cases h1
    ·exact (hxl y hy e).elim
  have hblk:Blk g K ρ1 (zcC rf l H) w (β x.i) x.ty ru.cells:=by
   refine ⟨b3.base,b3.heap,b3.noK,fun j h hj hl hbj=>?_,b3.far⟩
   rcases o1 j h hj with h1|⟨y,hy,rfl⟩
   ·have:=(k1 j (by rw [h1];rfl)).2
    rw [this] at hbj
    exact b3.apart j h h1 hl hbj
   ·rw [p1 y hy] at hbj
    simp only [zY,Option.some.injEq] at hbj
    exact hap x (by simp) y (by simp [hy]) (hxl y hy) hbj.symm
  have hown:=hblk.own f1 hi (b2.keeps (Later.refl K w) k1) rfl
  refine ⟨_,hown,?_,?_,?_,?_⟩
  ·have he':=e1.keeps (Later.refl K w) (qO (ρ:=ρ1) hi (.cell (rf x.i)) (.pointer (some ⟨β x.i,0,none⟩)))
   intro t av hg
   simp only [zor,Env.get_cons] at hg
   split at hg
   ·rename_i e;subst e
    simp only [Option.some.injEq] at hg;subst hg
    exact ⟨_,b1,.box x.i 0 _ (by simp [zcC,HEnv.get_cons]) (by simp)⟩
   ·exact he' t av hg
  ·intro j hj
   have hne:j≠x.i:=by rintro rfl;rw [hn x (by simp)] at hj;simp at hj
   obtain ⟨q1,q2⟩:=k1 j hj
   refine ⟨?_,by simp [hne,q2]⟩
   simp only [zcC,HEnv.get_cons]
   rw [if_neg (Ne.symm hne)];exact q1
  ·intro y hy
   rcases List.mem_cons.1 hy with rfl|hy
   ·simp
   ·have:=hxl y hy
    simp [Ne.symm this,p1 y hy]
  ·intro j h hj
   simp only [zcC,HEnv.get_cons] at hj
   split at hj
   ·rename_i e;exact .inr ⟨x,by simp,e.symm⟩
   ·rcases o1 j h hj with h1|⟨y,hy,e⟩
    ·exact .inl h1
    ·exact .inr ⟨y,by simp [hy],e⟩
theorem zil {QQ:QC} {id:Nat} (bs:List Bx) (htb:qp P tb) (hm:P.follows .mixedOrders=true) (hB:ZW (YB bs n ops 0) (YB bs n ops 0)=true)
  (hall:BxAll tb n H ops bs bs) (hid:XL bs=true) (hng:zqY bs ops=true) (henv:env.get n=none)
  (h:AD P n g H (YB bs n ops 0) (fun env'=>∃ rs,zg8 tb H bs env'=some rs∧QQ .normal (zor bs env') (bxH bs rs H)) (YB bs n ops 0) env) (hnd:Zj ops=true:=by kernel_rfl):AW P n g (.region id ops.toArray true) env H QQ:=by
 obtain ⟨s⟩:=VO h
 obtain ⟨rs,hrs,hQ⟩:=s.fin
 obtain ⟨rf,hrf,hH⟩:=zs3 hid hrs
 rw [hH] at hQ
 have hlen:(YB bs n ops 0).length=ops.length:=Vh ..
 refine ⟨fun a w hinv rr dd=>?_⟩
 refine wpIn_mono (WU (R:=fun a' w'=>∃ env' H',Inv n g env' H' a' w'∧QQ .normal env' H') hnd hm ?_) (fun e a' w' h=>by obtain ⟨rfl,h⟩:=h;exact h)
 obtain ⟨h1,h2,K,ρ,hf,he⟩:=hinv
 have hev:Evo K K w { w with drawn:=w.drawn + 1 }:=(Evo.refl hf.lt).drew
 refine zmP (rf:=rf) htb rfl hB s hall hid ?_ henv hrf ?_ _ _ a _ K ρ (fun _=>0) ?_ ⟨h1,h2,by simp [hlen],?_,hf.evo hev,?_,?_⟩ ⟨?_,?_⟩
 ·intro j o jj want ho hg x hx
  have:=List.all_eq_true.1 hng o (List.mem_of_getElem? ho)
  simp only [hg] at this
  have:=List.all_eq_true.1 this x hx
  simp only [Bool.not_eq_true'] at this
  exact Nat.ne_of_beq_eq_false this
 ·intro a' w' K' ρ' β q1 q2 q3 q4 q5 q6
  obtain ⟨ρ2,f1,e1,_⟩:=zoo (env:=s.last) hid q3 (fun x hx=>(hall.mem x hx).i) q5 q6 q4
  exact ⟨rfl,_,_,⟨q1,q2,K',ρ2,f1,e1⟩,hQ⟩
 ·simp
 ·intro i o ho hli
  have hlt:=(List.getElem?_eq_some_iff.1 ho).1
  have:i < ops.length:=by omega
  simp [Array.getD_eq_getD_getElem?,this] at hli
 ·intro i o ri t ho hli
  have hlt:=(List.getElem?_eq_some_iff.1 ho).1
  have:i < ops.length:=by omega
  simp [Array.getD_eq_getD_getElem?,this] at hli
 ·intro t av hav _
  obtain ⟨v,v1,v2⟩:=he t av hav
  exact ⟨v,v1,v2.later (hev.later hf.lt)⟩
 ·intro x hx hl
  obtain ⟨oa,e1,_⟩:=(hall.mem x hx).a
  have hjal:x.ja < ops.length:=(List.getElem?_eq_some_iff.1 e1).1
  simp [Array.getD_eq_getD_getElem?,hjal] at hl
 ·intro x hx y hy hne hl
  obtain ⟨oa,e1,_⟩:=(hall.mem x hx).a
  have hjal:x.ja < ops.length:=(List.getElem?_eq_some_iff.1 e1).1
  simp [Array.getD_eq_getD_getElem?,hjal] at hl
end
end Go.Cg
