/- A part of the walks by abstract values: no statement of its own. -/
import Derived.Test.YtemhfmmhkimhmaaGreatI24
import Derived.Test.YtemhfmmhkimhmaaGreatI28
import Derived.Test.YtemhfmmhkimhmaaGreatI18
import Derived.Test.YtemhfmmhkimhmaaGreatI13
import Derived.Test.YtemhfmmhkimhmaaGreatI8
set_option linter.unusedVariables false
set_option linter.unusedSimpArgs false
namespace Go.Cg
open Go.Proofs
theorem PInv.fold {g:Img} {t:Int}:∀ (l:List Int) {met:List Int},PInv g t met->(∀ x∈l,0<=x/\x < g.types.length)->PInv g t (l.foldl YE met)
 | [],_,h,_=>h
 | f::l,_,h,hl=>PInv.fold l (h.add (hl f zwy63)) fun x hx=>hl x (by simp [hx])
theorem zgN {g:Img} {t:Int}:∀ (n i:Nat) (met:List Int),PInv g t met->i<=met.length->g.fields.length + g.types.length + 1<=n + i ->
  (∀ j (h:j < i) (h2:j < met.length),∀ y∈partsOf g met[j],y∈met) ->
  (∀ x∈met,x∈Vg g n i met)/\(∀ u∈Vg g n i met,∀ y∈partsOf g u,y∈Vg g n i met)/\(∀ x∈Vg g n i met,Rch (partsOf g) met x)
 | 0,i,met,hm,hi,hn,hc=>by
  have:=hm.len;omega
 | n + 1,i,met,hm,hi,hn,hc=>by
  rw [Vg];by_cases hlt:i < met.length
  ·rw [List.getElem?_eq_getElem hlt];simp only [zcb];have hm2:=PInv.fold (partsOf g met[i]) hm (fun x hx=>QX hx);obtain ⟨r,hr⟩:=zje (partsOf g met[i]) met;have hl:met.length<=((partsOf g met[i]).foldl YE met).length:=by rw [hr];simp
   obtain ⟨q1,q2,q3⟩:=zgN n (i + 1) ((partsOf g met[i]).foldl YE met) hm2 zwy62 zwy62 (by
    intro j hj hj2 y hy;rw [WW];have hjm:j < met.length:=by omega
    have e:((partsOf g met[i]).foldl YE met)[j]=met[j]:=by simp only [hr];rw [List.getElem_append_left hjm]
    rw [e] at hy;by_cases hji:j=i
    ·subst hji;exact .inr hy
    ·exact .inl (hc j zwy62 hjm y hy))
   refine ⟨fun x hx=>q1 x (WW.2 (.inl hx)),q2,fun x hx=>?_⟩;have:=q3 x hx;clear q1 q2 q3 hx;induction this with
   | base x hx =>
    rcases WW.1 hx with h|h
    ·exact .base x h
    ·exact .step _ x (.base _ (List.getElem_mem hlt)) h
   | step x y _ hy ih=>exact .step x y ih hy
  ·rw [List.getElem?_eq_none zwy62];simp only;refine ⟨fun x hx=>hx,fun u hu y hy=>?_,fun x hx=>.base x hx⟩;obtain ⟨j,hj,rfl⟩:=List.getElem_of_mem hu;exact hc j zwy62 hj y hy
theorem zoc {g:Img} {t x:Int}:x∈zjx g t↔Rch (partsOf g) (partsOf g t) x:=by
 obtain ⟨q1,q2,q3⟩:=zgN (g:=g) (t:=t) (g.fields.length + g.types.length + 1) 0 (partsOf g t) ⟨[],by simp⟩ zwy62 zwy62 (fun j h=>by omega);refine ⟨fun hx=>q3 x hx,fun hx=>?_⟩;induction hx with
 | base x hx=>exact q1 x hx
 | step x y _ hy ih=>exact q2 x ih y hy
theorem zh1 {g:Img} {t x:Int}:x∈sortL (Wn g.types.length (partsOf g) (partsOf g t))↔x∈zjx g t:=by
 rw [zgF,zoc];exact (zc8 (N:=g.types.length) (fun x _ _ y hy=>QX hy) (fun x hx=>QX hx)).1 x
theorem zth:∀ n:Fin 32,qQ (n.val:Int) 1=yR (n.val:Int) 1/\qQ (n.val:Int) 4=yR (n.val:Int) 4/\qQ (n.val:Int) 8=yR (n.val:Int) 8/\qQ (n.val:Int) 16=yR (n.val:Int) 16:=by decide +kernel
theorem zqP {f:Int} (h0:0<=f) (h1:f<=31):qQ f 1=yR f 1/\qQ f 4=yR f 4/\qQ f 8=yR f 8/\qQ f 16=yR f 16:=by
 have:=zth ⟨f.toNat,by omega⟩;simpa only [Int.toNat_of_nonneg h0] using this
theorem zoW {td:TD} (h0:0<=td.flags) (h1:td.flags<=31):YR td=Zj td:=by
 obtain ⟨e1,e2,e3,e4⟩:=zqP h0 h1;rw [YR,Zj,zjn h0 h1,e1,e2,e3,e4];generalize yR td.flags 1=b1;generalize yR td.flags 4=b2;generalize yR td.flags 8=b3;generalize yR td.flags 16=b4;generalize (td.ext == -1)=b5;generalize ((td.faces.length:Int)==0)=b6
 repeat' split
 all_goals (try rfl)
 all_goals (cases b1 <;> cases b2 <;> cases b3 <;> cases b4 <;> cases b5 <;> cases b6 <;> rfl)
theorem zaG {g:Img} (hf:yh g=true) {t:Int} {td:TD} (h:typeAt g t=some td):0<=td.flags/\td.flags<=31 /\ -1<=td.ext/\td.ext < g.types.length/\td.faces.length<=4/\∀ f∈td.faces,0<=f/\f < g.types.length :=
 YB ((yg hf).2.2.2 td (zbb h))
theorem zpI {g:Img} (hf:yh g=true) (t:Int):0<=Xc g t/\Xc g t<=31:=by
 unfold Xc;cases h:typeAt g t with
 | none=>simp
 | some td=>obtain ⟨h0,h1,_⟩:=zaG hf h;exact ⟨h0,h1⟩
theorem zrn {g:Img} (hf:yh g=true) (t:Int) : -1<=Vt g t:=by
 unfold Vt;cases h:typeAt g ((up g t).getLastD 0) with
 | none=>simp
 | some td=>obtain ⟨_,_,h1,_⟩:=zaG hf h;exact h1
theorem zwi {g:Img} (hf:yh g=true) {t:Int} {td:TD} (h:typeAt g t=some td):zjL g t td=WH g t td:=by
 obtain ⟨_,_,h1,_⟩:=zaG hf h;obtain ⟨f0,f1⟩:=zpI hf td.ext;have ht:=zrn hf t;rw [zjL,WH,ziX hf,(zqP f0 f1).2.2.1];have e1:(td.ext == -1)=!decide (0<=td.ext):=by rw [Bool.eq_iff_iff];simp;omega
 have e2:(Vt g t == -1)=decide (Vt g t < 0):=by rw [Bool.eq_iff_iff];simp;omega
 rw [e1,e2]
def zfQ (g:Img) (t:Int) (td:TD):Bool:=(List.range td.faces.length).all (Vz g td.faces)&&(zW g t != 2||!decide (t∈sortL (Wn g.types.length (yP g) td.faces)))
theorem zw3 {g:Img} {t:Int} {td:TD} (h:typeAt g t=some td) (he:td.ext = -1):up g t=[t]:=by
 have hx:typeAt g (-1)=none:=by rw [typeAt,if_neg zwy62]
 rw [up,zar,h];simp only [List.not_mem_nil,if_false,List.nil_append];cases hn:g.types.length with
 | zero=>rfl
 | succ n=>rw [zar,he,hx]
theorem ze2 {g:Img} {t:Int} {td:TD} (h:typeAt g t=some td):yP g t=td.faces:=by rw [yP,h]
theorem zrV {g:Img} {t:Int} {td:TD} (h:typeAt g t=some td) (hfl:Zj td=true) (hk:zW g t=2):td.ext = -1:=by
 rw [zW,h] at hk;simp only at hk;rw [Zj,hk] at hfl;simp at hfl;exact hfl.1.1.1.1
theorem zuf {g:Img} (hf:yh g=true) {t:Int} {td:TD} (h:typeAt g t=some td):(YR td&&zjL g t td&&zfQ g t td)=(Zj td&&QI g t td):=by
 obtain ⟨h0,h1,_⟩:=zaG hf h;rw [zoW h0 h1,zwi hf h,zfQ,QI];cases hfl:Zj td
 ·rfl
 ·have e:(zW g t != 2||!decide (t∈sortL (Wn g.types.length (yP g) td.faces)))=(zW g t != 2||!decide (t∈Zr g t)):=by
   by_cases hk:zW g t=2
   ·have hx:=zrV h hfl hk;have hF:=zcV hf;have:t∈sortL (Wn g.types.length (yP g) td.faces)↔t∈Zr g t:=by
     rw [zgF,zes hF,RF,zw3 h hx];simp only [List.flatMap_cons,List.flatMap_nil,List.append_nil];rw [ze2 h];exact (zc8 (N:=g.types.length) (fun x _ _ y hy=>(hF.at x).2 y hy) (fun x hx=>by have:=(hF.at t).2 x;rw [ze2 h] at this;exact this hx)).1 t
    rw [decide_eq_decide.2 this]
   ·have:(zW g t != 2)=true:=by simp [hk]
    rw [this];rfl
  rw [e];simp only [Bool.and_assoc,Bool.true_and]
def zdr (l:List Int) (p:Int->Int->Bool):Bool:=(List.range l.length).any fun i=>(l.take i).any (p (l.getD i 0))
theorem zmD {l:List Int} {p:Int->Int->Bool}:(!zdr l p)=(List.range l.length).all fun i=>(List.range i).all fun k=>!p (l.getD i 0) (l.getD k 0):=by
 rw [Bool.eq_iff_iff];simp only [zdr,Bool.not_eq_true',List.any_eq_false,List.all_eq_true,List.mem_range,Bool.not_eq_true];constructor
 ·intro h i hi k hk;refine h i hi _ ?_;rw [List.getD_eq_getElem?_getD,List.getElem?_eq_getElem (show k < l.length by omega)];exact List.mem_take_iff_getElem.2 ⟨k,by omega,rfl⟩
 ·intro h i hi x hx;obtain ⟨k,hk,rfl⟩:=List.mem_take_iff_getElem.1 hx;have:=h i hi k zwy62
  rwa [zQ (show k < l.length by omega)] at this
def ziO (g:Img) (a b:Int):Bool:=(fName g a).toList==(fName g b).toList
def mAt (g:Img) (a:Int):Me:=g.methods.getD a.toNat default
def zaC (x y:Me):Bool:=x.name.toList==y.name.toList&&decide (x.ret=y.ret)&&IntKind.i64.wrap ((BitVec.ofInt IntKind.i64.bits (IntKind.i64.wrap ((BitVec.ofInt IntKind.i64.bits x.flags ^^^ BitVec.ofInt IntKind.i64.bits y.flags).toNat:Int)) &&& BitVec.ofInt IntKind.i64.bits 1).toNat:Int)==0&&decide (x.params=y.params)
def zgc (g:Img) (t:Int) (td:TD):Bool:=(List.range g.types.length).all (XI g t td)&&!zdr (fieldsOf g t) (ziO g)&&!zdr (methodsOf g t) (fun a b=>zaC (mAt g a) (mAt g b))
theorem zvI:∀ a b:Fin 32,(IntKind.i64.wrap ((BitVec.ofInt IntKind.i64.bits (IntKind.i64.wrap ((BitVec.ofInt IntKind.i64.bits (a.val:Int) ^^^ BitVec.ofInt IntKind.i64.bits (b.val:Int)).toNat:Int)) &&& BitVec.ofInt IntKind.i64.bits 1).toNat:Int)==0)=((a.val:Int).tmod 2==(b.val:Int).tmod 2):=by decide +kernel
theorem zqV {x y:Me} (hx0:0<=x.flags) (hx1:x.flags<=31) (hy0:0<=y.flags) (hy1:y.flags<=31):zaC x y=(x.name.toList==y.name.toList&&Wj x y):=by
 have:=zvI ⟨x.flags.toNat,by omega⟩ ⟨y.flags.toNat,by omega⟩;simp only [Int.toNat_of_nonneg hx0,Int.toNat_of_nonneg hy0] at this;rw [zaC,Wj,this];simp only [Bool.and_assoc]
theorem zbZ {g:Img} (hf:yh g=true) {a:Nat} (h:a < g.methods.length):yX g (g.methods.getD a default)=true:=by
 simp only [yh,Bool.and_eq_true,List.all_eq_true] at hf;have:=hf.2 a zwy102;rw [zaX] at this;simp only [Bool.and_eq_true] at this;exact this.2
theorem zbP {g:Img} {m:Me} (h:yX g m=true):0<=m.flags/\m.flags<=31:=by
 simp only [yX,Bool.and_eq_true,decide_eq_true_eq] at h;omega
theorem zty {g:Img} (hf:yh g=true) (t:Int) (td:TD):zgc g t td=Vw g t td:=by
 rw [zgc,Vw,zmD,zmD];congr 1;rw [Bool.eq_iff_iff];simp only [List.all_eq_true,List.mem_range,YH];have key:∀ i,i < (methodsOf g t).length->∀ k,k < i->zaC (mAt g ((methodsOf g t).getD i 0)) (mAt g ((methodsOf g t).getD k 0))=((g.methods.getD ((methodsOf g t).getD i 0).toNat default).name.toList==(g.methods.getD ((methodsOf g t).getD k 0).toNat default).name.toList&&Wj (g.methods.getD ((methodsOf g t).getD i 0).toNat default) (g.methods.getD ((methodsOf g t).getD k 0).toNat default)):=by
  intro i hi k hk;have hk':k < (methodsOf g t).length:=by omega
  rw [zQ hi,zQ hk'];obtain ⟨_,a1⟩:=ql (List.getElem_mem hi);obtain ⟨_,a2⟩:=ql (List.getElem_mem hk');obtain ⟨b1,b2⟩:=zbP (zbZ hf a1);obtain ⟨b3,b4⟩:=zbP (zbZ hf a2);exact zqV b1 b2 b3 b4
 constructor
 ·intro h i hi k hk;rw [<-key i hi k hk];exact h i hi k hk
 ·intro h i hi k hk;rw [key i hi k hk];exact h i hi k hk
def zf3 (g:Img) (t:Int):Bool:=(fieldsOf g t).all (zcm g (zW g t))&&(zW g t != 1||!decide (t∈sortL (Wn g.types.length (partsOf g) (partsOf g t))))
theorem ztT (g:Img) (t:Int):zf3 g t=zac g t:=by
 rw [zf3,zac,decide_eq_decide.2 zh1]
theorem zwa {g:Img} (h:Yz g=true) {k:Nat} (hk:k < g.types.length):Zn g k=0:=by
 have hf:=YA h;cases hx:(List.range g.types.length).find? (fun t=>Zn g t != 0) with
 | none =>
  have:=List.find?_eq_none.1 hx k (by simpa using hk);simpa using this
 | some t =>
  have h2:=List.find?_some hx;rw [Yz,QF,hf] at h;simp [hx] at h;simp [h] at h2
theorem zjA {g:Img} (hf:yh g=true) {k:Nat} (hk:k < g.types.length) :
  Zn g k=if !(YR g.types[k]&&zjL g k g.types[k]&&zfQ g k g.types[k]) then 7 else if !zgc g k g.types[k] then 18 else if !zf3 g k then 20 else 0:=by
 rw [zcS hk,zuf hf (zcO hk),zty hf,ztT];cases Zj g.types[k] <;> cases QI g k g.types[k] <;> rfl
set_option maxHeartbeats 20000000
theorem Yd (g:Img) (hf:yh g=true) (t:Int):ACall Tryz.prog 36 [zK g,pi t] (pi (zW g t)):=by
 have:=QH g t;rwa [ziX hf] at this
theorem WT (g:Img) (t:Int) (hg:g.fields.length<=1000):ACall Tryz.prog 205 [zK g,pi t] (ints (fieldsOf g t)):=by
 refine zh zf Tryz.func205 rfl zws Tryz.ntmps205 zwy63 _ rfl (fun hw gB hgB=>?_)
 repeat' (first|refine sA ?_|refine sC (fun _=>?_) (fun _=>?_)|fail)
 refine Za (t:=5) 0 3 1 zwy69 rfl rfl ?_;refine zL (fun x:Nat × List Int=>[(1,.pv (pi t)),(2,.pv (.ptr (zK g) 0)),(5,.own 0),(9,.pv (.slc 7 (g.fields.map ZI) false)),(10,.pv (pi g.fields.length)),(11,.pv (pi x.1))]) (fun x=>[(0,.row 3 1 (x.2.map pi))])
  (fun x=>x.1<=g.fields.length/\x.2.length<=x.1/\x.2++((nums g.fields.length).drop x.1).filter (fun i=>there g t&&(g.fields.getD i.toNat default).owner==t)=fieldsOf g t) (fun x=>g.fields.length - x.1) (0,[]) ⟨by simp,by simp,rfl⟩ (tS) ⟨aB zC,rfl⟩ ?_
 rintro ⟨k,out⟩ ⟨hk,hol,hr⟩;simp only at hk hol hr;by_cases hlt:k < g.fields.length
 ·have he:=zS (f:=ZI) hlt;rw [drop_cons zwy103,List.filter_cons,zfO,Int.toNat_natCast,zQ hlt] at hr;have c1:=QL g t;cases hth:there g t
  ·rw [hth] at c1
   repeat' (first|(refine shC ?_;first|refine qC c1 ?_)|(refine shX ?_;first|refine qX he ?_)|refine sK ?_|refine sC (fun _=>?_) (fun _=>?_)|fail)
   exact ⟨(k + 1,out),⟨by simp;omega,by simp;omega,by simpa [hth] using hr⟩,tD,tS,⟨qH rfl rfl zC,rfl⟩⟩
  ·rw [hth] at c1
   repeat' (first|(refine shC ?_;first|refine qC c1 ?_)|(refine shX ?_;first|refine qX he ?_)|(refine yj ?_;first|refine yV zf rfl rfl rfl rfl rfl rfl rfl zwy72 zwy64 rfl rfl ?_)|refine sK ?_|refine sC (fun _=>?_) (fun _=>?_)|fail)
   ·rename_i hx;rw [hth,hx] at hr;exact ⟨(k + 1,out++[(k:Int)]),⟨by simp;omega,by simp;omega,by simpa [hth] using hr⟩,tD,tS,⟨qH rfl zwy63 zC,rfl⟩⟩
   ·rename_i hx;rw [hth,hx] at hr;exact ⟨(k + 1,out),⟨by simp;omega,by simp;omega,by simpa [hth] using hr⟩,tD,tS,⟨qH rfl rfl zC,rfl⟩⟩
 ·rw [drop_end (by simp [nums];omega)] at hr
  repeat' (first|refine sK ?_|refine sC (fun _=>?_) (fun _=>?_)|fail)
  exact retq rfl zwy90
theorem Qe (g:Img) (t:Int) (hg:g.methods.length<=1000):ACall Tryz.prog 38 [zK g,pi t] (ints (methodsOf g t)):=by
 refine zh zf Tryz.func38 rfl zws Tryz.ntmps38 zwy63 _ rfl (fun hw gB hgB=>?_)
 repeat' (first|refine sA ?_|refine sC (fun _=>?_) (fun _=>?_)|fail)
 refine Za (t:=5) 0 3 1 zwy69 rfl rfl ?_;refine zL (fun x:Nat × List Int=>[(1,.pv (pi t)),(2,.pv (.ptr (zK g) 0)),(5,.own 0),(9,.pv (.slc 12 (g.methods.map zY) false)),(10,.pv (pi g.methods.length)),(11,.pv (pi x.1))]) (fun x=>[(0,.row 3 1 (x.2.map pi))])
  (fun x=>x.1<=g.methods.length/\x.2.length<=x.1/\x.2++((nums g.methods.length).drop x.1).filter (fun i=>there g t&&(g.methods.getD i.toNat default).owner==t)=methodsOf g t) (fun x=>g.methods.length - x.1) (0,[]) ⟨by simp,by simp,rfl⟩ (tS) ⟨aB zC,rfl⟩ ?_
 rintro ⟨k,out⟩ ⟨hk,hol,hr⟩;simp only at hk hol hr;by_cases hlt:k < g.methods.length
 ·have he:=zS (f:=zY) hlt;rw [drop_cons zwy103,List.filter_cons,zfO,Int.toNat_natCast,zQ hlt] at hr;have c1:=QL g t;cases hth:there g t
  ·rw [hth] at c1
   repeat' (first|(refine shC ?_;first|refine qC c1 ?_)|(refine shX ?_;first|refine qX he ?_)|refine sK ?_|refine sC (fun _=>?_) (fun _=>?_)|fail)
   exact ⟨(k + 1,out),⟨by simp;omega,by simp;omega,by simpa [hth] using hr⟩,tD,tS,⟨qH rfl rfl zC,rfl⟩⟩
  ·rw [hth] at c1
   repeat' (first|(refine shC ?_;first|refine qC c1 ?_)|(refine shX ?_;first|refine qX he ?_)|(refine yj ?_;first|refine yV zf rfl rfl rfl rfl rfl rfl rfl zwy72 zwy64 rfl rfl ?_)|refine sK ?_|refine sC (fun _=>?_) (fun _=>?_)|fail)
   ·rename_i hx;rw [hth,hx] at hr;exact ⟨(k + 1,out++[(k:Int)]),⟨by simp;omega,by simp;omega,by simpa [hth] using hr⟩,tD,tS,⟨qH rfl zwy63 zC,rfl⟩⟩
   ·rename_i hx;rw [hth,hx] at hr;exact ⟨(k + 1,out),⟨by simp;omega,by simp;omega,by simpa [hth] using hr⟩,tD,tS,⟨qH rfl rfl zC,rfl⟩⟩
 ·rw [drop_end (by simp [nums];omega)] at hr
  repeat' (first|refine sK ?_|refine sC (fun _=>?_) (fun _=>?_)|fail)
  exact retq rfl zwy90
theorem zhf (g:Img) (t:Int) (hf:yh g=true):ACall Tryz.prog 230 [zK g,pi t] (ints (partsOf g t)):=by
 refine zh zf Tryz.func230 rfl zws Tryz.ntmps230 zwy63 _ rfl (fun hw gB hgB=>?_);have hg:g.fields.length<=1000:=by have:=(yg hf).2.1;omega
 have hfl:=QG g t
 repeat' (first|(refine shC ?_;first|refine qC (WT g t hg) ?_)|refine sA ?_|refine sC (fun _=>?_) (fun _=>?_)|fail)
 refine Za (t:=5) 0 3 1 zwy69 rfl rfl ?_;refine zL (fun x:Nat × List Int=>[(2,.pv (.ptr (zK g) 0)),(5,.own 0),(11,.pv (ints (fieldsOf g t))),(12,.pv (pi (fieldsOf g t).length)),(13,.pv (pi x.1))]) (fun x=>[(0,.row 3 1 (x.2.map pi))])
  (fun x=>x.1<=(fieldsOf g t).length/\x.2.length<=x.1/\x.2++(((fieldsOf g t).drop x.1).filter (za6 g)).map (fun i=>(g.fields.getD i.toNat default).ty.index)=partsOf g t) (fun x=>(fieldsOf g t).length - x.1) (0,[]) ⟨by simp,by simp,rfl⟩ (tS) ⟨aB zC,rfl⟩ ?_
 rintro ⟨k,out⟩ ⟨hk,hol,hr⟩;simp only at hk hol hr;by_cases hlt:k < (fieldsOf g t).length
 ·have he:=qI hlt;obtain ⟨h0,hi⟩:=ZK (List.getElem_mem hlt);have hef:=Zp (f:=ZI) hi;rw [drop_cons hlt,List.filter_cons,za6] at hr;simp only [zQ hi] at hr
  repeat' (first|(refine shC ?_;first|refine qC (Yd _ hf _) ?_)|(refine shX ?_;first|refine qX he ?_|refine zy rfl (ah h0 hef) rfl rfl ?_|refine zq rfl (ah h0 hef) rfl rfl ?_)|(refine yj ?_;first|refine yV zf rfl rfl rfl rfl rfl rfl rfl zwy72 zwy64 rfl rfl ?_)|refine sK ?_|refine sC (fun _=>?_) (fun _=>?_)|fail)
  ·rw [if_pos (by simp_all)] at hr;exact ⟨(k + 1,out++[g.fields[(fieldsOf g t)[k].toNat].ty.index]),⟨by simp;omega,by simp;omega,by rw [List.map_cons,zQ hi] at hr;simpa using hr⟩,tD,tS,⟨qH rfl zwy63 zC,rfl⟩⟩
  all_goals
   rw [if_neg (by simp_all)] at hr;exact ⟨(k + 1,out),⟨by simp;omega,by simp;omega,by simpa using hr⟩,tD,tS,⟨qH rfl rfl zC,rfl⟩⟩
 ·rw [drop_end zwy62] at hr
  repeat' (first|refine sK ?_|refine sC (fun _=>?_) (fun _=>?_)|fail)
  exact retq rfl zwy90
set_option maxHeartbeats 20000000
theorem zmb (p:Int->Int->Bool) (f:FuncId) (first cap:List PV) (a b:Int) (hp:ACall Tryz.prog f (first++[pi a,pi b]++cap) (pb (p a b))):ACall Tryz.prog 255 [pi b,.ptr (.fn (.func f) first cap) 0,.ptr (pi a) 0] (pb (p a b)):=by
 refine zh zf Tryz.func255 rfl zws Tryz.ntmps255 zwy63 _ rfl (fun hw gB hgB=>?_)
 repeat' (first|(refine shC ?_;first|refine qV (hp) ?_)|refine sA ?_|refine sC (fun _=>?_) (fun _=>?_)|fail)
 exact retq rfl rfl
theorem ziJ (l:List Int) (p:Int->Int->Bool) (f:FuncId) (first cap:List PV) (hp:∀ a∈l,∀ b∈l,ACall Tryz.prog f (first++[pi a,pi b]++cap) (pb (p a b))):ACall Tryz.prog 227 [ints l,.fn (.func f) first cap] (pb (zdr l p)):=by
 refine zh zf Tryz.func227 rfl zws Tryz.ntmps227 zwy63 _ rfl (fun hw gB hgB=>?_);have hl:=zdk hw.1
 repeat' (first|refine sA ?_|refine sC (fun _=>?_) (fun _=>?_)|fail)
 refine zL (fun k:Nat=>[(0,.pv (ints l)),(3,.pv (.ptr (.fn (.func f) first cap) 0)),(7,.pv (ints l)),(8,.pv (pi l.length)),(9,.pv (pi k))]) (fun _=>[]) (fun k=>k<=l.length/\zdr l p=((List.range l.length).drop k).any fun i=>(l.take i).any (p (l.getD i 0))) (fun k=>l.length - k) 0 ⟨by omega,rfl⟩ (tS) tH ?_;rintro k ⟨hk,hr⟩;by_cases hlt:k < l.length
 ·have he:=qI hlt;have c1:=Wq (l.take k) (p l[k]) 255 [] [.ptr (.fn (.func f) first cap) 0,.ptr (pi l[k]) 0] (fun x hx=>zmb p f first cap l[k] x (hp _ (List.getElem_mem hlt) x (List.mem_of_mem_take hx)));rw [zh5 hlt,zQ hlt] at hr
  repeat' (first|refine zb6 (t:=6) rfl rfl rfl ?_|refine zy rfl (ZG (xs:=l) (f:=pi) 0 k zf rfl rfl rfl rfl rfl rfl rfl zwy62 zwy62) rfl rfl ?_|(refine shC ?_;first|refine qC c1 ?_)|(refine shX ?_;first|refine qX he ?_)|refine sK ?_|refine sC (fun _=>?_) (fun _=>?_)|fail)
  all_goals first|(refine ak ?_;first|(simp only [zn,BL,List.length_map] at *;simp only [*,BL,List.length_map];done)|(simp_all [zn];done)|(simp_all [zn];omega)|(simp_all [zn];intros;omega))|(refine ⟨k + 1,⟨by omega,?_⟩,tD,tS,tH⟩;first|(simp only [BL,List.length_map] at *;simp only [*,BL,List.length_map];done)|(simp_all [];done)|(simp_all [];omega)|(simp_all [];intros;omega))|(trace "LEND";trace_state)
 ·rw [drop_end zwy64] at hr
  repeat' (first|refine sK ?_|refine sC (fun _=>?_) (fun _=>?_)|fail)
  all_goals first|(refine ak ?_;first|(simp only [zn,BL,List.length_map] at *;simp only [*,BL,List.length_map];done)|(simp_all [zn];done)|(simp_all [zn];omega)|(simp_all [zn];intros;omega))|(refine Yi rfl ?_;first|(simp only [zn,BL,List.length_map] at *;simp only [*,BL,List.length_map];done)|(simp_all [zn];done)|(simp_all [zn];omega)|(simp_all [zn];intros;omega))|skip
theorem zmE (g:Img) (a b:Int) (ha0:0<=a) (ha:a.toNat < g.fields.length) (hb0:0<=b) (hb:b.toNat < g.fields.length):ACall Tryz.prog 228 [pi a,pi b,.ptr (zK g) 0] (pb (ziO g a b)):=by
 refine zh zf Tryz.func228 rfl zws Tryz.ntmps228 zwy63 _ rfl (fun hw gB hgB=>?_);have hea:=Zp (f:=ZI) ha;have heb:=Zp (f:=ZI) hb
 repeat' (first|(refine shX ?_;first|refine zy rfl (ah ha0 hea) rfl rfl ?_|refine zq rfl (ah ha0 hea) rfl rfl ?_|refine zy rfl (ah hb0 heb) rfl rfl ?_|refine zq rfl (ah hb0 heb) rfl rfl ?_)|refine sA ?_|refine sC (fun _=>?_) (fun _=>?_)|fail)
 exact retq rfl (by simp only [zn,ziO,fName,zQ ha,zQ hb])
theorem zfy (a b:List Ty):ACall Tryz.prog 157 [tys a,tys b] (pb (decide (a=b))):=by
 refine zh zf Tryz.func157 rfl zws Tryz.ntmps157 zwy63 _ rfl (fun hw gB hgB=>?_);have hl:=zcL hw.1;by_cases hlen:a.length=b.length
 ·repeat' (first|refine sK ?_|refine sC (fun _=>?_) (fun _=>?_)|fail)
  refine zL (fun k:Nat=>[(0,.pv (tys a)),(1,.pv (tys b)),(11,.pv (tys a)),(12,.pv (pi a.length)),(13,.pv (pi k))]) (fun _=>[]) (fun k=>k<=a.length/\a.take k=b.take k) (fun k=>a.length - k) 0 ⟨by simp,by simp⟩ (tS) tH ?_;rintro k ⟨hk,hno⟩;by_cases hlt:k < a.length
  ·have he:=zbr hlt;have hltb:k < b.length:=by omega
   have he':=zbr hltb
   repeat' (first|(refine shX ?_;first|refine qX he ?_|refine qX he' ?_)|refine sK ?_|refine sC (fun _=>?_) (fun _=>?_)|fail)
   ·rename_i h;refine ak ?_;have:a≠b:=by
     rintro rfl;simp at h
    simp [zn,this]
   ·rename_i h;have e:a[k]=b[k]:=by
     simp only [Bool.not_eq_false'] at h;rw [XQ] at h;simpa using h
    exact ⟨k + 1,⟨by omega,zeY hlt hltb hno e⟩,tD,tS,tH⟩
  ·repeat' (first|refine sK ?_|refine sC (fun _=>?_) (fun _=>?_)|fail)
   refine ak ?_;rw [List.take_of_length_le zwy62,List.take_of_length_le zwy62] at hno;simp [zn,hno]
 ·have hne:a≠b:=by rintro rfl;exact hlen rfl
  have hb:((((a.map yI).length:Nat):Int) != (((b.map yI).length:Nat):Int))=true:=by simp;omega
  repeat' (first|refine sK ?_|refine sC (fun _=>?_) (fun _=>?_)|fail)
  exact retq rfl (by simp [zn,hne])
abbrev zMe:AV:=.pv (.agg [.base (.string ByteArray.empty),pi 0,pi 0,.base (.slice none 0 0),pi 0,pi 0,pi 0,pb false,.base (.slice none 0 0),pi 0,.base (.slice none 0 0),.base (.slice none 0 0)])
theorem znN (g:Img) (a b:Int) (ha0:0<=a) (ha:a.toNat < g.methods.length) (hb0:0<=b) (hb:b.toNat < g.methods.length):ACall Tryz.prog 229 [pi a,pi b,.ptr (zK g) 0] (pb (zaC (mAt g a) (mAt g b))):=by
 refine zh zf Tryz.func229 rfl zws Tryz.ntmps229 zwy63 _ rfl (fun hw gB hgB=>?_);have hea:=Zp (f:=zY) ha;have heb:=Zp (f:=zY) hb;rw [mAt,mAt,zQ ha,zQ hb];generalize g.methods[a.toNat]=x at hea ⊢;generalize g.methods[b.toNat]=y at heb ⊢;have hty:=XQ x.ret y.ret;have c1:=zfy x.params y.params
 repeat' (first|refine zh9 rfl ?_|refine sA ?_|fail)
 refine zgw 10 11 [0,1,2,3,4,5,6,7,8,9,10,11,12,13] [0,1,2,3,4,5,6,7,8,9,10,11,12,13] [0,1,2,3,4,5,6,7,8,9,11,10,12,13] [0,1,2,3,4,5,6,7,8,9,11,10,12,13] rfl zws zws (zkA zws ?_) (zkA zws ?_)
 ·refine zcE 14 14 [10,11,12,13] [] (mkL [[],[(0,.cell zMe)],[(1,.cell zMe),(0,.cell zMe)],[(0,.cell (.pv (zY x))),(1,.cell zMe),(0,.cell zMe)],[(1,.cell (.pv (zY y))),(0,.cell (.pv (zY x))),(1,.cell zMe),(0,.cell zMe)]]) (mkL [[],[(0,.cell zMe)],[(1,.cell zMe),(0,.cell zMe)],[(0,.cell (.pv (zY x))),(1,.cell zMe),(0,.cell zMe)],[(1,.cell (.pv (zY y))),(0,.cell (.pv (zY x))),(1,.cell zMe),(0,.cell zMe)]]) [] none rfl zws zws zws zws zws zws (fun p hp=>by simp at hp) rfl (zaP rfl ⟨tH,tH,tH,tH,tH,trivial⟩) rfl (YU rfl rfl) (fun q h=>YU rfl rfl q 4 h (Nat.le_refl 4)) tH rfl (fun v hv=>by cases hv) ?_
  repeat' (first|refine Yp 10 [0,1,2] (.box 0 0) rfl rfl rfl rfl rfl ?_|refine Yp 0 [0,1] (.box 1 0) rfl rfl rfl rfl rfl ?_|refine Xk [0] (.pv (.tup [])) rfl rfl rfl ?_|refine Xk [] (.pv (.tup [])) rfl rfl rfl ?_|refine ⟨⟨rfl,WG zf 0 rfl rfl rfl rfl,.inr zws⟩,?_⟩|refine ⟨⟨rfl,WG zf 1 rfl rfl rfl rfl,.inr zws⟩,?_⟩|refine ⟨⟨rfl,zcN zf rfl rfl rfl rfl rfl rfl rfl,.inl rfl⟩,?_⟩|refine Qu ?_|intro _|refine WR ?_|(refine shC ?_;first|refine qC c1 ?_)|(refine shX ?_;first|refine zy rfl (ah ha0 hea) rfl rfl ?_|refine zq rfl (ah ha0 hea) rfl rfl ?_|refine zy rfl (ah hb0 heb) rfl rfl ?_|refine zq rfl (ah hb0 heb) rfl rfl ?_)|refine sK ?_|refine sC (fun _=>?_) (fun _=>?_)|fail)
  all_goals refine ak ?_
  all_goals (simp only [zn,zaC,<-hty];clear hty;simp_all)
 ·refine zcE 14 14 [10,11,12,13] [] (mkL [[],[(1,.cell zMe)],[(0,.cell zMe),(1,.cell zMe)],[(0,.cell (.pv (zY x))),(0,.cell zMe),(1,.cell zMe)],[(1,.cell (.pv (zY y))),(0,.cell (.pv (zY x))),(0,.cell zMe),(1,.cell zMe)]]) (mkL [[],[(1,.cell zMe)],[(0,.cell zMe),(1,.cell zMe)],[(0,.cell (.pv (zY x))),(0,.cell zMe),(1,.cell zMe)],[(1,.cell (.pv (zY y))),(0,.cell (.pv (zY x))),(0,.cell zMe),(1,.cell zMe)]]) [] none rfl zws zws zws zws zws zws (fun p hp=>by simp at hp) rfl (zaP rfl ⟨tH,tH,tH,tH,tH,trivial⟩) rfl (YU rfl rfl) (fun q h=>YU rfl rfl q 4 h (Nat.le_refl 4)) tH rfl (fun v hv=>by cases hv) ?_
  repeat' (first|refine Yp 10 [0,1,2] (.box 1 0) rfl rfl rfl rfl rfl ?_|refine Yp 0 [0,1] (.box 0 0) rfl rfl rfl rfl rfl ?_|refine Xk [0] (.pv (.tup [])) rfl rfl rfl ?_|refine Xk [] (.pv (.tup [])) rfl rfl rfl ?_|refine ⟨⟨rfl,WG zf 1 rfl rfl rfl rfl,.inr zws⟩,?_⟩|refine ⟨⟨rfl,WG zf 0 rfl rfl rfl rfl,.inr zws⟩,?_⟩|refine ⟨⟨rfl,zcN zf rfl rfl rfl rfl rfl rfl rfl,.inl rfl⟩,?_⟩|refine Qu ?_|intro _|refine WR ?_|(refine shC ?_;first|refine qC c1 ?_)|(refine shX ?_;first|refine zy rfl (ah ha0 hea) rfl rfl ?_|refine zq rfl (ah ha0 hea) rfl rfl ?_|refine zy rfl (ah hb0 heb) rfl rfl ?_|refine zq rfl (ah hb0 heb) rfl rfl ?_)|refine sK ?_|refine sC (fun _=>?_) (fun _=>?_)|fail)
  all_goals refine ak ?_
  all_goals (simp only [zn,zaC,<-hty];clear hty;simp_all)
theorem znL (g:Img) (t:Int) (td:TD) (htd:typeAt g t=some td) (hg:g.types.length<=1000) (hgf:g.fields.length<=1000) (hgm:g.methods.length<=1000):ACall Tryz.prog 202 [zK g,pi t] (pb (zgc g t td)):=by
 refine zh zf Tryz.func202 rfl zws Tryz.ntmps202 zwy63 _ rfl (fun hw gB hgB=>?_);obtain ⟨h0,heT⟩:=qN htd;have cf:=ziJ (fieldsOf g t) (ziO g) 228 [] [.ptr (zK g) 0] (fun a ha b hb=>zmE g a b (ZK ha).1 (ZK ha).2 (ZK hb).1 (ZK hb).2);have cm:=ziJ (methodsOf g t) (fun a b=>zaC (mAt g a) (mAt g b)) 229 [] [.ptr (zK g) 0] (fun a ha b hb=>znN g a b (ql ha).1 (ql ha).2 (ql hb).1 (ql hb).2)
 repeat' (first|refine sA ?_|refine sC (fun _=>?_) (fun _=>?_)|fail)
 refine zL (fun k:Nat=>[(1,.pv (pi t)),(2,.pv (.ptr (zK g) 0)),(8,.pv (.slc 4 (g.types.map Zw) false)),(9,.pv (pi g.types.length)),(10,.pv (pi k))]) (fun _=>[]) (fun k=>k<=g.types.length/\zgc g t td=(((List.range g.types.length).drop k).all (XI g t td)&&!zdr (fieldsOf g t) (ziO g)&&!zdr (methodsOf g t) (fun a b=>zaC (mAt g a) (mAt g b)))) (fun k=>g.types.length - k) 0 ⟨by omega,rfl⟩ (tS) tH ?_;rintro k ⟨hk,hr⟩;by_cases hlt:k < g.types.length
 ·have he:=zS (f:=Zw) hlt;rw [qM hlt,XI,zQ hlt] at hr
  repeat' (first|(refine shX ?_;first|refine qX he ?_|refine zy rfl (ah h0 heT) rfl rfl ?_|refine zq rfl (ah h0 heT) rfl rfl ?_)|refine sK ?_|refine sC (fun _=>?_) (fun _=>?_)|fail)
  all_goals first|(refine ak ?_;first|(simp only [zn,BL,List.length_map] at *;simp only [*,BL,List.length_map];done)|(simp_all [zn];done)|(simp_all [zn];omega)|(simp_all [zn];intros;omega))|(refine ⟨k + 1,⟨by omega,?_⟩,tD,tS,tH⟩;first|(simp only [BL,List.length_map] at *;simp only [*,BL,List.length_map];done)|(simp_all [];done)|(simp_all [];omega)|(simp_all [];intros;omega))|(trace "LEND";trace_state)
 ·rw [drop_end zwy64] at hr
  repeat' (first|(refine shC ?_;first|refine qC (WT g t hgf) ?_|refine qC (Qe g t hgm) ?_|refine qC cf ?_|refine qC cm ?_)|refine sK ?_|refine sC (fun _=>?_) (fun _=>?_)|fail)
  all_goals first|(refine ak ?_;first|(simp only [zn,BL,List.length_map] at *;simp only [*,BL,List.length_map];done)|(simp_all [zn];done)|(simp_all [zn];omega)|(simp_all [zn];intros;omega))|(refine Yi rfl ?_;first|(simp only [zn,BL,List.length_map] at *;simp only [*,BL,List.length_map];done)|(simp_all [zn];done)|(simp_all [zn];omega)|(simp_all [zn];intros;omega))|skip
set_option maxHeartbeats 20000000
theorem zmp (g:Img) (t:Int) (hF:Fm g):ACall Tryz.prog 226 [pi t,.ptr (zK g) 0] (ints (yP g t)):=by
 refine zh zf Tryz.func226 rfl zws Tryz.ntmps226 zwy63 _ rfl (fun hw gB hgB=>?_)
 repeat' (first|(refine shC ?_;first|refine zy rfl (zJ rfl rfl (VY g t (by have:=(hF.at t).1;omega) (fun f hf=>VZ ((hF.at t).2 f hf)))) rfl rfl ?_|refine zq rfl (zJ rfl rfl (VY g t (by have:=(hF.at t).1;omega) (fun f hf=>VZ ((hF.at t).2 f hf)))) rfl rfl ?_)|refine sA ?_|refine sC (fun _=>?_) (fun _=>?_)|fail)
 exact retq rfl rfl
theorem znp (g:Img) (t:Int) (hf:yh g=true):ACall Tryz.prog 231 [pi t,.ptr (zK g) 0] (ints (partsOf g t)):=by
 refine zh zf Tryz.func231 rfl zws Tryz.ntmps231 zwy63 _ rfl (fun hw gB hgB=>?_)
 repeat' (first|(refine shC ?_;first|refine qC (zhf g t hf) ?_)|refine sA ?_|refine sC (fun _=>?_) (fun _=>?_)|fail)
 exact retq rfl rfl
theorem ziG (g:Img) (hf:yh g=true) (t:Int) (td:TD) (htd:typeAt g t=some td):ACall Tryz.prog 72 [Zw td] (pi (zW g t)):=by
 have:=zfS td;obtain ⟨h0,h1,_⟩:=zaG hf htd;rw [zjn h0 h1] at this;rw [zW,htd];exact this
theorem zmT (g:Img) (t:Int) (td:TD) (htd:typeAt g t=some td) (hf:yh g=true):ACall Tryz.prog 201 [zK g,pi t] (pb (zfQ g t td)):=by
 refine zh zf Tryz.func201 rfl zws Tryz.ntmps201 zwy63 _ rfl (fun hw gB hgB=>?_);obtain ⟨h0,he⟩:=qN htd;have hF:=zcV hf;have hn:=hF.n;obtain ⟨hf1,hf2⟩:=hF.faces td (zbb htd);have c0:=ziG g hf t td htd;have c1:=zeA g.types.length zwy62 td.faces (yP g) 226 [] [.ptr (zK g) 0] hf2 zwy62
  (fun x h0 h1=>zmp g x hF) (fun x h0 h1=>⟨by have:=(hF.at x).1;omega,(hF.at x).2⟩)
 repeat' (first|(refine shX ?_;first|refine zy rfl (ah h0 he) rfl rfl ?_|refine zq rfl (ah h0 he) rfl rfl ?_)|refine sA ?_|refine sC (fun _=>?_) (fun _=>?_)|fail)
 refine zL (fun k:Nat=>[(1,.pv (pi t)),(2,.pv (.ptr (zK g) 0)),(5,.pv (ints td.faces)),(15,.pv (ints td.faces)),(16,.pv (pi td.faces.length)),(17,.pv (pi k))]) (fun _=>[]) (fun k=>k<=td.faces.length/\zfQ g t td=(((List.range td.faces.length).drop k).all (Vz g td.faces)&&(zW g t != 2||!decide (t∈sortL (Wn g.types.length (yP g) td.faces))))) (fun k=>td.faces.length - k) 0 ⟨by simp,rfl⟩ (tS) tH ?_;rintro k ⟨hk,hr⟩;by_cases hlt:k < td.faces.length
 ·have hef:=qI hlt;rw [qM hlt,Vz,zQ hlt] at hr
  repeat' (first|refine zy rfl (ZG (xs:=td.faces) (f:=pi) 0 k zf rfl rfl rfl rfl rfl rfl rfl zwy62 zwy62) rfl rfl ?_|(refine shC ?_;first|refine qC (Yd g hf _) ?_|refine qC (Qc (td.faces.take k) _) ?_)|(refine shX ?_;first|refine qX hef ?_)|refine sK ?_|refine sC (fun _=>?_) (fun _=>?_)|fail)
  all_goals first|(refine ak ?_;first|(simp only [zn,BL,List.length_map] at *;simp only [*,BL,List.length_map];done)|(simp_all [zn];done)|(simp_all [zn];omega)|(simp_all [zn];intros;omega))|(refine ⟨k + 1,⟨by omega,?_⟩,tD,tS,tH⟩;first|(simp only [BL,List.length_map] at *;simp only [*,BL,List.length_map];done)|(simp_all [];done)|(simp_all [];omega)|(simp_all [];intros;omega))|(trace "LEND";trace_state)
 ·rw [drop_end zwy64] at hr
  repeat' (first|(refine shC ?_;first|refine qC c0 ?_|refine qC c1 ?_|refine qC (Qc _ _) ?_)|(refine shX ?_;first|refine zy rfl (ah h0 he) rfl rfl ?_|refine zq rfl (ah h0 he) rfl rfl ?_)|refine sK ?_|refine sC (fun _=>?_) (fun _=>?_)|fail)
  all_goals first|(refine ak ?_;first|(simp only [zn,BL,List.length_map] at *;simp only [*,BL,List.length_map];done)|(simp_all [zn];done)|(simp_all [zn];omega)|(simp_all [zn];intros;omega))|(refine Yi rfl ?_;first|(simp only [zn,BL,List.length_map] at *;simp only [*,BL,List.length_map];done)|(simp_all [zn];done)|(simp_all [zn];omega)|(simp_all [zn];intros;omega))|skip
theorem zmc (g:Img) (t:Int) (td:TD) (htd:typeAt g t=some td) (hf:yh g=true):ACall Tryz.prog 203 [zK g,pi t] (pb (zf3 g t)):=by
 refine zh zf Tryz.func203 rfl zws Tryz.ntmps203 zwy63 _ rfl (fun hw gB hgB=>?_);obtain ⟨h0,heT⟩:=qN htd;have hF:=zcV hf;have hn:=hF.n;have hg:g.fields.length<=64:=by have:=(yg hf).2.1;omega
 have c0:=ziG g hf t td htd;have hpl:=zbv g;have c1:=zeA g.types.length zwy62 (partsOf g t) (partsOf g) 231 [] [.ptr (zK g) 0] (fun x hx=>QX hx) (by have:=hpl t;omega)
  (fun x h0 h1=>znp g x hf) (fun x h0 h1=>⟨by have:=hpl x;omega,fun y hy=>QX hy⟩)
 repeat' (first|(refine shC ?_;first|refine qC c0 ?_|refine zy rfl (zJ rfl rfl (WT g t zwy62)) rfl rfl ?_|refine zq rfl (zJ rfl rfl (WT g t zwy62)) rfl rfl ?_)|(refine shX ?_;first|refine zy rfl (ah h0 heT) rfl rfl ?_|refine zq rfl (ah h0 heT) rfl rfl ?_)|refine sA ?_|refine sC (fun _=>?_) (fun _=>?_)|fail)
 refine zL (fun k:Nat=>[(1,.pv (pi t)),(2,.pv (.ptr (zK g) 0)),(5,.pv (pi (zW g t))),(16,.pv (ints (fieldsOf g t))),(17,.pv (pi (fieldsOf g t).length)),(18,.pv (pi k))]) (fun _=>[]) (fun k=>k<=(fieldsOf g t).length/\zf3 g t=(((fieldsOf g t).drop k).all (zcm g (zW g t))&&(zW g t != 1||!decide (t∈sortL (Wn g.types.length (partsOf g) (partsOf g t)))))) (fun k=>(fieldsOf g t).length - k) 0 ⟨by simp,rfl⟩ (tS) tH ?_;have hfl:=QG g t;rintro k ⟨hk,hr⟩;by_cases hlt:k < (fieldsOf g t).length
 ·have he:=qI hlt;obtain ⟨hi0,hi⟩:=ZK (List.getElem_mem hlt);have hef:=Zp (f:=ZI) hi;rw [YJ hlt,zcm,zQ hi] at hr
  repeat' (first|(refine shX ?_;first|refine qX he ?_|refine zy rfl (ah hi0 hef) rfl rfl ?_|refine zq rfl (ah hi0 hef) rfl rfl ?_)|refine sK ?_|refine sC (fun _=>?_) (fun _=>?_)|fail)
  all_goals first|(refine ak ?_;first|(simp only [zn,BL,List.length_map] at *;simp only [*,BL,List.length_map];done)|(simp_all [zn];done)|(simp_all [zn];omega)|(simp_all [zn];intros;omega))|(refine ⟨k + 1,⟨by omega,?_⟩,tD,tS,tH⟩;first|(simp only [BL,List.length_map] at *;simp only [*,BL,List.length_map];done)|(simp_all [];done)|(simp_all [];omega)|(simp_all [];intros;omega))|(trace "LEND";trace_state)
 ·rw [drop_end zwy62] at hr
  repeat' (first|(refine shC ?_;first|refine qC (zhf g t hf) ?_|refine qC c1 ?_|refine qC (Qc _ _) ?_)|refine sK ?_|refine sC (fun _=>?_) (fun _=>?_)|fail)
  all_goals first|(refine ak ?_;first|(simp only [zn,BL,List.length_map] at *;simp only [*,BL,List.length_map];done)|(simp_all [zn];done)|(simp_all [zn];omega)|(simp_all [zn];intros;omega))|(refine Yi rfl ?_;first|(simp only [zn,BL,List.length_map] at *;simp only [*,BL,List.length_map];done)|(simp_all [zn];done)|(simp_all [zn];omega)|(simp_all [zn];intros;omega))|skip
def whole (t:Ty):Bool:=t.kind != 6||t.ref||decide (0 < t.dims)
def Ya (g:Img) (t:Int):List Fd:=g.fields.filter fun f=>f.owner==t&&!f.static
def intTy:Ty:=⟨2,0,0,false⟩
def QZ (g:Img):Nat->Ty->List Ty
 | 0,_=>[]
 | n + 1,t=>if t.kind==1 then [] else if whole t then [t] else
   if ((Ya g t.index).flatMap fun f=>QZ g n f.ty).length=0 then [intTy] else (Ya g t.index).flatMap fun f=>QZ g n f.ty
def Dp (g:Img):Nat->Ty->Prop
 | 0,t=>whole t=true
 | n + 1,t=>whole t=true\/∀ f∈Ya g t.index,Dp g n f.ty
theorem Dp.whole {g:Img} {t:Ty} (h:Cg.whole t=true):∀ n,Dp g n t
 | 0=>h
 | _ + 1=>.inl h
theorem zdd {α β:Type} {l:List α} {f h:α->List β} (hh:∀ x∈l,f x=h x):l.flatMap f=l.flatMap h:=by
 induction l with
 | nil=>rfl
 | cons x l ih=>rw [List.flatMap_cons,List.flatMap_cons,hh x zwy63,ih (fun y hy=>hh y zwy120)]
theorem zhd {g:Img}:∀ (n:Nat) (t:Ty),Dp g n t->∀ m,n < m->QZ g m t=QZ g (n + 1) t
 | 0,t,h,m,hm=>by
  obtain ⟨k,rfl⟩:∃ k,m=k + 1:=⟨m - 1,by omega⟩
  have hwt:whole t=true:=h;rw [QZ,QZ,hwt];rfl
 | n + 1,t,h,m,hm=>by
  obtain ⟨k,rfl⟩:∃ k,m=k + 1:=⟨m - 1,by omega⟩
  rw [QZ,QZ];rcases h with h|h
  ·rw [h];rfl
  ·rw [zdd (fun f hf=>zhd n f.ty (h f hf) k zwy62)]
def ZA (g:Img) (t:Ty):List Ty:=QZ g (g.types.length + 2) t
def fcs (g:Img) (l:List Fd):List Ty:=l.flatMap fun f=>ZA g f.ty
theorem zoD (g:Img) (f:Fd) (l:List Fd):fcs g (f::l)=ZA g f.ty++fcs g l:=rfl
theorem zic (g:Img) (l m:List Fd):fcs g (l++m)=fcs g l++fcs g m:=by simp [fcs]
def qE (g:Img) (t:Ty):Bool :=
 ZV t&&(if t.kind==5 then zW g t.index==0||zW g t.index==2||zW g t.index==3 else t.kind != 6||zW g t.index==1)
def Yu (g:Img):Bool:=(List.range g.fields.length).all fun i=>qE g (g.fields.getD i default).ty
theorem zpm {g:Img} {t:Ty} (h:qE g t=true) (hw:whole t=false):t.kind=6/\t.ref=false/\t.dims=0/\zW g t.index=1:=by
 simp only [whole,Bool.or_eq_false_iff,bne_eq_false_iff_eq,decide_eq_false_iff_not] at hw;obtain ⟨⟨h1,h2⟩,h3⟩:=hw;rw [qE,Bool.and_eq_true] at h;obtain ⟨hp,hk⟩:=h;have hd:0<=t.dims:=by
  unfold ZV at hp;split at hp
  ·cases hp
  ·rename_i hc;simp only [Bool.or_eq_true,decide_eq_true_eq,not_or] at hc;omega
 have hk':zW g t.index=1:=by simpa [h1] using hk
 exact ⟨h1,h2,by omega,hk'⟩
theorem zo9 {g:Img} (h:Yu g=true) {f:Fd} (hf:f∈g.fields):qE g f.ty=true:=by
 obtain ⟨k,hk,rfl⟩:=List.getElem_of_mem hf;have:=List.all_eq_true.1 h k (by simpa using hk)
 rwa [zQ hk] at this
theorem zgs {g:Img} (hf:yh g=true) {f:Fd} (h:f∈g.fields):0<=f.owner/\f.owner < g.types.length/\Xv f.ty 1 g.types.length=true:=by
 obtain ⟨k,hk,rfl⟩:=List.getElem_of_mem h;simp only [yh,Bool.and_eq_true,List.all_eq_true] at hf;have:=hf.1.2 k (by simpa using hk);rw [zm1 hk] at this;simp only [Bool.and_eq_true,decide_eq_true_eq] at this;exact ⟨this.1.1.1.2,this.1.1.2,this.2⟩
theorem zvl {g:Img} (hf:yh g=true) {u:Int} {f:Fd} (h:f∈Ya g u) (hu:qE g f.ty=true) (hw:whole f.ty=false):f.ty.index∈partsOf g u:=by
 obtain ⟨h1,_,h3,h4⟩:=zpm hu hw;obtain ⟨hm,hc⟩:=List.mem_filter.1 h;simp only [Bool.and_eq_true,beq_iff_eq,Bool.not_eq_true'] at hc;obtain ⟨ho,hs⟩:=hc;obtain ⟨o0,o1,_⟩:=zgs hf hm;obtain ⟨k,hk,rfl⟩:=List.getElem_of_mem hm;have hgk:g.fields.getD ((k:Int)).toNat default=g.fields[k]:=by rw [Int.toNat_natCast,zQ hk]
 rw [partsOf,List.mem_map];refine ⟨(k:Int),List.mem_filter.2 ⟨List.mem_filter.2 ⟨zjf.2 ⟨by omega,by omega⟩,?_⟩,?_⟩,by rw [hgk]⟩
 ·rw [hgk,VZ zwy62,ho];simp
 ·rw [za6,hgk];simp [h1,hs,h3,h4]
theorem zuC {g:Img} {p u:Int} (h:Rch (partsOf g) (partsOf g p) u):zW g u=1:=by
 have key:∀ q,u∈partsOf g q->zW g u=1:=by
  intro q hq;simp only [partsOf,List.mem_map,List.mem_filter,za6,Bool.and_eq_true,beq_iff_eq] at hq;obtain ⟨i,⟨_,_,hk⟩,rfl⟩:=hq;exact hk
 cases h with
 | base _ hx=>exact key _ hx
 | step x _ _ hy=>exact key _ hy
theorem zqd {g:Img} (hf:yh g=true) (hu:Yu g=true) (hz:∀ u:Int,zW g u=1->u∉zjx g u):∀ (n:Nat) (path:List Int) (t:Ty),path.Nodup->(∀ p∈path,0<=p/\p < g.types.length)->g.types.length + 1<=path.length + n ->
  (∀ p∈path,Rch (partsOf g) (partsOf g p) t.index)->Dp g n t
 | 0,path,t,h1,h2,h3,h4=>by have:=ZF _ _ h1 h2;omega
 | n + 1,path,t,h1,h2,h3,h4=>by
  cases hw:whole t
  ·refine .inr fun f hfo=>?_
   cases hwf:whole f.ty
   ·have hm:=(List.mem_filter.1 hfo).1;have hc:=(List.mem_filter.1 hfo).2;simp only [Bool.and_eq_true,beq_iff_eq] at hc;obtain ⟨o0,o1,_⟩:=zgs hf hm;have hp:=zvl hf hfo (zo9 hu hm) hwf;have hni:t.index∉path:=fun hin=>by
     have hr:=h4 _ hin;exact hz _ (zuC hr) (zoc.2 hr)
    refine zqd hf hu hz n (t.index::path) f.ty (List.nodup_cons.2 ⟨hni,h1⟩) ?_ zwy64 ?_
    ·intro p hp';rcases List.mem_cons.1 hp' with rfl|hp'
     ·omega
     ·exact h2 p hp'
    ·intro p hp';rcases List.mem_cons.1 hp' with rfl|hp'
     ·exact .base _ hp
     ·exact .step _ _ (h4 p hp') hp
   ·exact Dp.whole hwf n
  ·exact .inl hw
theorem zpF {g:Img} (h:Yz g=true) {u:Int} (hk:zW g u=1):u∉zjx g u:=by
 have hf:=YA h;obtain ⟨td,htd,_⟩:=ziy hk zwy62;have hlt:=Ve htd;have hck:=zwa h (k:=u.toNat) zwy62;rw [zcS zwy62] at hck;have e:((u.toNat:Nat):Int)=u:=Int.toNat_of_nonneg hlt.1;rw [e] at hck;have hs:zac g u=true:=by
  cases hs:zac g u
  ·rw [hs] at hck;split at hck
   ·cases hck
   ·split at hck
    ·cases hck
    ·simp at hck
  ·rfl
 rw [zac,hk,Bool.and_eq_true] at hs;simpa using hs.2
theorem zia {g:Img} (h:Yz g=true) (hu:Yu g=true) (t:Ty):Dp g (g.types.length + 1) t :=
 zqd (YA h) hu (fun _ hk=>zpF h hk) _ [] t zwy63 zwy63 zwy63 zwy63
theorem zgC {g:Img} (h:Yz g=true) (hu:Yu g=true) (t:Ty):ZA g t=if t.kind==1 then [] else if whole t then [t] else if (fcs g (Ya g t.index)).length=0 then [intTy] else fcs g (Ya g t.index):=by
 have hd:=zia h hu t;rcases hd with hd|hd
 ·rw [ZA,QZ,hd];rfl
 ·have e:((Ya g t.index).flatMap fun f=>QZ g (g.types.length + 1) f.ty)=fcs g (Ya g t.index):=zdd (fun f hf=>(zhd _ _ (hd f hf) _ zwy62).symm);rw [ZA,QZ,e]
set_option maxHeartbeats 1000000 in
theorem zmS (g:Img) (hx:∀ m∈g.methods,∀ x∈m.code,zda x):ACall Tryz.prog 144 [zK g] (.tup [pi (QF g).1,pi (QF g).2]):=by
 refine zh zf Tryz.func144 rfl zws Tryz.ntmps144 zwy63 _ rfl (fun hw gB hgB=>?_);have c0:=zlg g hx;cases hf:yh g
 ·rw [hf] at c0
  repeat' (first|(refine shC ?_;first|refine qC c0 ?_)|refine sK ?_|refine sC (fun _=>?_) (fun _=>?_)|fail)
  exact retq rfl (by simp [zn,QF,hf])
 ·rw [hf] at c0;obtain ⟨b1,b2,b3,b4⟩:=yg hf;have hg:g.types.length<=1000:=by omega
  have hgf:g.fields.length<=1000:=by omega
  have hgm:g.methods.length<=1000:=by omega
  repeat' (first|(refine shC ?_;first|refine qC c0 ?_)|refine sK ?_|refine sC (fun _=>?_) (fun _=>?_)|fail)
  refine zL (fun k:Nat=>[(1,.pv (.ptr (zK g) 0)),(10,.pv (pi g.types.length)),(11,.pv (pi k))]) (fun _=>[]) (fun k=>k<=g.types.length/\∀ j,j < k->Zn g j=0) (fun k=>g.types.length - k) 0 ⟨by omega,fun j h=>by omega⟩ (tS) tH ?_;rintro k ⟨hk,hno⟩;by_cases hlt:k < g.types.length
  ·have he:=zS (f:=Zw) hlt;have htd:=zcO hlt;have hat:=zjA hf hlt;have hfin:=fun h=>zh3 hf hlt hno h
   have hnx:Zn g k=0->∀ j,j < k + 1->Zn g j=0:=fun h j hj=>by
    by_cases e:j=k
    ·subst e;exact h
    ·exact hno j zwy62
   clear hno;have d1:=zjR g.types[k];have d2:=zjT g k _ htd hg;have d3:=zmT g k _ htd hf;have d4:=znL g k _ htd hg hgf hgm;have d5:=zmc g k _ htd hf;generalize YR g.types[k]=e1 at d1 hat;generalize zjL g k g.types[k]=e2 at d2 hat;generalize zfQ g k g.types[k]=e3 at d3 hat;generalize zgc g k g.types[k]=e4 at d4 hat;generalize zf3 g k=e5 at d5 hat;have fin:∀ c:Int,c≠0->Zn g k=c->PV.tup [pi (k:Int),pi c]=.tup [pi (QF g).1,pi (QF g).2]:=fun c hc h=>by rw [hfin (by rw [h];exact hc),h]
   repeat' (first|(refine shC ?_;first|refine qC d1 ?_|refine qC d2 ?_|refine qC d3 ?_|refine qC d4 ?_|refine qC d5 ?_)|(refine shX ?_;first|refine qX he ?_)|refine sK ?_|refine sC (fun _=>?_) (fun _=>?_)|fail)
   all_goals first
    | exact retq rfl (fin 7 zwy69 (by rw [hat];simp_all;done))
    | exact retq rfl (fin 18 zwy69 (by rw [hat];simp_all;done))
    | exact retq rfl (fin 20 zwy69 (by rw [hat];simp_all;done))
    | exact ⟨k + 1,⟨hlt,hnx (by rw [hat];simp_all;done)⟩,tD,tS,tH⟩
  ·repeat' (first|refine sK ?_|refine sC (fun _=>?_) (fun _=>?_)|fail)
   obtain rfl:k=g.types.length:=by omega
   exact retq rfl (by simp [zn,zmu hf hno])
def Cnt (b r s:Nat):Prop:=min r (b + 1)=min s (b + 1)
theorem Cnt.zero (b:Nat):Cnt b 0 0:=rfl
theorem Cnt.add {b r s l:Nat} (h:Cnt b r s) (hr:r<=b):Cnt b (r + min l (b + 1)) (s + l):=by unfold Cnt at h ⊢;omega
theorem Cnt.stay {b r s l:Nat} (h:Cnt b r s) (hr:b < r):Cnt b r (s + l):=by unfold Cnt at h ⊢;omega
theorem Cnt.more {b r s:Nat} (h:Cnt b r s):b < r↔b < s:=by unfold Cnt at h;omega
def Qv (g:Img) (b:Nat) (t:Ty):Nat:=min (ZA g t).length (b + 1)
theorem zaA (g:Img) (f:Fd) (l:List Fd):(fcs g (f::l)).length=(ZA g f.ty).length + (fcs g l).length:=by rw [zoD,List.length_append]
theorem zc9 (g:Img) (l m:List Fd):(fcs g (l++m)).length=(fcs g l).length + (fcs g m).length:=by rw [zic,List.length_append]
def objT (g:Img) (t:Int):List Ty:=(up g t).reverse.flatMap fun u=>fcs g (Ya g u)
theorem zm2 (g:Img):∀ l:List Int,(l.flatMap fun u=>fcs g (Ya g u)).length=(l.map fun u=>(fcs g (Ya g u)).length).sum
 | []=>rfl
 | x::l=>by rw [List.flatMap_cons,List.length_append,zm2 g l];rfl
theorem zvw (l:List Nat):l.reverse.sum=l.sum:=by
 induction l with
 | nil=>rfl
 | cons x l ih=>rw [List.reverse_cons,List.sum_append,ih];simp;omega
theorem znI (g:Img) (t:Int):(objT g t).length=((up g t).map fun u=>(fcs g (Ya g u)).length).sum:=by
 rw [objT,zm2,List.map_reverse,zvw]
def zxy (g:Img) (t:Int):List Fd:=g.fields.filter fun f=>decide (f.owner∈up g t)&&!f.static
theorem zi3 (g:Img):∀ (fs:List Fd) (us:List Int),us.Nodup->(us.map fun u=>(fcs g (fs.filter fun f=>f.owner==u&&!f.static)).length).sum=(fcs g (fs.filter fun f=>decide (f.owner∈us)&&!f.static)).length
 | [],us,_=>by
  simp only [List.filter_nil];induction us with
  | nil=>rfl
  | cons u us ih=>simp_all [fcs]
 | f::fs,us,hn=>by
  have ih:=zi3 g fs us hn;have key:∀ us:List Int,us.Nodup->(us.map fun u=>(fcs g ((f::fs).filter fun f=>f.owner==u&&!f.static)).length).sum
    = (us.map fun u=>(fcs g (fs.filter fun f=>f.owner==u&&!f.static)).length).sum + (if decide (f.owner∈us)&&!f.static then (ZA g f.ty).length else 0):=by
   intro us hn;induction us with
   | nil=>simp
   | cons u us ih2 =>
    have hn':=List.nodup_cons.1 hn;rw [List.map_cons,List.sum_cons,ih2 hn'.2,List.map_cons,List.sum_cons,List.filter_cons];cases hs:f.static
    ·by_cases hu:f.owner=u
     ·subst hu;have:decide (f.owner∈us)=false:=by simp [hn'.1]
      simp only [beq_self_eq_true,Bool.not_false,Bool.and_true,if_true,this,List.mem_cons_self,decide_true,Bool.false_eq_true,if_false];rw [zaA];omega
     ·have h1:(f.owner==u)=false:=by simp [hu]
      have h2:decide (f.owner∈u::us)=decide (f.owner∈us):=by simp [hu]
      simp only [h1,h2,Bool.false_and,Bool.false_eq_true,if_false];omega
    ·simp
  rw [key us hn,ih,List.filter_cons];cases hc:(decide (f.owner∈us)&&!f.static)
  ·simp
  ·simp only [if_true];rw [zaA];omega
theorem zuj (g:Img) (t:Int):(fcs g (zxy g t)).length=(objT g t).length:=by
 rw [znI,zxy,<-zi3 g g.fields (up g t) (WS g t).1];rfl
def Yr (g:Img) (t:Nat):Bool:=(zW g t==1&&decide (8 < (ZA g ⟨6,t,0,false⟩).length))||(zW g t==0&&decide (32 < (objT g t).length))
def YN (g:Img):Int × Int :=
 if !Yz g then (0,17) else match (List.range g.fields.length).find? (fun i=>!qE g (g.fields.getD i default).ty) with
  | some i=>(((i:Nat):Int),10)
  | none=>match (List.range g.types.length).find? (Yr g) with
   | some t=>(((t:Nat):Int),20)
   | none=>(0,0)
def zaU (g:Img):Bool:=(YN g).2==0
theorem zff {g:Img} {k:Nat} (hw:Yz g=true) (hk:k < g.fields.length) (hno:∀ j,j < k->qE g (g.fields.getD j default).ty=true) (h:qE g (g.fields.getD k default).ty=false):YN g=(((k:Nat):Int),10):=by
 have:(List.range g.fields.length).find? (fun i=>!qE g (g.fields.getD i default).ty)=some k:=by
  rw [List.find?_range_eq_some];exact ⟨by simpa using h,by simpa using hk,fun j hj=>by simp only [hno j hj,Bool.not_true,Bool.not_false]⟩
 rw [YN,hw];simp only [Bool.not_true,Bool.false_eq_true,if_false];rw [this]
theorem zlY {n:Nat} {p:Nat->Bool} (h:∀ j,j < n->p j=false):(List.range n).find? p=none:=by
 rw [List.find?_eq_none];intro j hj;simp [h j (List.mem_range.1 hj)]
theorem zfK {g:Img} {k:Nat} (hw:Yz g=true) (hu:Yu g=true) (hk:k < g.types.length) (hno:∀ j,j < k->Yr g j=false) (h:Yr g k=true):YN g=(((k:Nat):Int),20):=by
 have h1:(List.range g.fields.length).find? (fun i=>!qE g (g.fields.getD i default).ty)=none:=zlY fun j hj=>by
  have:=List.all_eq_true.1 hu j (by simpa using hj);simp only [this];rfl
 have h2:(List.range g.types.length).find? (Yr g)=some k:=by
  rw [List.find?_range_eq_some];exact ⟨h,by simpa using hk,fun j hj=>by simp only [hno j hj,Bool.not_false]⟩
 rw [YN,hw];simp only [Bool.not_true,Bool.false_eq_true,if_false];rw [h1];simp only;rw [h2]
theorem zeG {g:Img} (hw:Yz g=true) (hu:Yu g=true) (hno:∀ j,j < g.types.length->Yr g j=false):YN g=(0,0):=by
 have h1:(List.range g.fields.length).find? (fun i=>!qE g (g.fields.getD i default).ty)=none:=zlY fun j hj=>by
  have:=List.all_eq_true.1 hu j (by simpa using hj);simp only [this];rfl
 rw [YN,hw];simp only [Bool.not_true,Bool.false_eq_true,if_false];rw [h1];simp only;rw [zlY hno]
structure Fine (g:Img):Prop where
 well:Yz g=true
 used:Yu g=true
 size:∀ j,j < g.types.length->Yr g j=false
theorem zay {g:Img} (h:zaU g=true):Fine g:=by
 rw [zaU,YN] at h;cases hw:Yz g
 ·simp [hw] at h
 ·rw [hw] at h;simp only [Bool.not_true,Bool.false_eq_true,if_false] at h;cases h1:(List.range g.fields.length).find? (fun i=>!qE g (g.fields.getD i default).ty) with
  | some i=>rw [h1] at h;simp at h
  | none =>
   rw [h1] at h;cases h2:(List.range g.types.length).find? (Yr g) with
   | some t=>rw [h2] at h;simp at h
   | none =>
    refine ⟨hw,?_,fun j hj=>?_⟩
    ·rw [Yu,List.all_eq_true];intro i hi;have:=List.find?_eq_none.1 h1 i hi;simpa using this
    ·have:=List.find?_eq_none.1 h2 j (by simpa using hj);simpa using this
theorem Fine.formed {g:Img} (h:Fine g):yh g=true:=YA h.well
set_option maxHeartbeats 20000000
def OkA (g:Img):Prop:=∀ m∈g.methods,∀ x∈m.code,zda x
theorem zoJ (g:Img) (hx:OkA g):ACall Tryz.prog 100 [zK g] (pb (Yz g)):=by
 refine zh zf Tryz.func100 rfl zws Tryz.ntmps100 zwy63 _ rfl (fun hw gB hgB=>?_)
 repeat' (first|(refine shC ?_;first|refine qC (zmS g hx) ?_)|refine sA ?_|refine sC (fun _=>?_) (fun _=>?_)|fail)
 exact retq rfl rfl
theorem zdA (g:Img) (t:Int):zW g t = -1\/zW g t=0\/zW g t=1\/zW g t=2\/zW g t=3:=by
 unfold zW;cases typeAt g t with
 | none=>exact .inl rfl
 | some td =>
  simp only;unfold WZ;cases yR td.flags 2 <;> cases yR td.flags 1 <;> cases yR td.flags 16 <;> simp
theorem zpt (g:Img) (t:Ty) (hf:yh g=true):ACall Tryz.prog 101 [zK g,yI t] (pb (qE g t)):=by
 refine zh zf Tryz.func101 rfl zws Tryz.ntmps101 zwy63 _ rfl (fun hw gB hgB=>?_);have hk:=zdA g t.index;have c1:=Yd g hf t.index;have hu:qE g t=(ZV t&&(if t.kind==5 then zW g t.index==0||zW g t.index==2||zW g t.index==3 else t.kind != 6||zW g t.index==1)):=rfl;rw [hu];generalize zW g t.index=k at c1 hk hu;clear hu
 repeat' (first|(refine shC ?_;first|refine qC (zbD t) ?_|refine qC c1 ?_)|refine sA ?_|refine sC (fun _=>?_) (fun _=>?_)|fail)
 all_goals (refine ak ?_;rcases hk with rfl|rfl|rfl|rfl|rfl <;> simp_all [zn])
theorem ztU {α:Type} (d:α) (fs:List α):(nums fs.length).map (fun i=>fs.getD i.toNat d)=fs:=by
 rw [nums,List.map_map];apply List.ext_getElem
 ·simp
 ·intro i h1 h2;simp only [List.getElem_map,List.getElem_range,Function.comp];rw [Int.toNat_natCast,zQ h2]
theorem zwZ {g:Img} (hf:yh g=true) (t:Int):((fieldsOf g t).filter fun i=>!(g.fields.getD i.toNat default).static).map (fun i=>g.fields.getD i.toNat default)=Ya g t:=by
 have h1:Ya g t=((nums g.fields.length).filter ((fun f:Fd=>f.owner==t&&!f.static) ∘ fun i=>g.fields.getD i.toNat default)).map (fun i=>g.fields.getD i.toNat default):=by
  rw [Ya,<-List.filter_map,ztU]
 rw [h1,fieldsOf,List.filter_filter];congr 1;apply List.filter_congr;intro i hi;obtain ⟨i0,i1⟩:=zjf.1 hi;have hlt:i.toNat < g.fields.length:=by omega
 obtain ⟨o0,o1,_⟩:=zgs hf (List.getElem_mem hlt);simp only [Function.comp,zQ hlt];by_cases ho:g.fields[i.toNat].owner=t
 ·have:=VZ (g:=g) (t:=t) zwy62;rw [this,Bool.true_and,Bool.and_comm]
 ·have:(g.fields[i.toNat].owner==t)=false:=by simp [ho]
  rw [this];simp
theorem zor (g:Img) (t:Int):(Ya g t).length<=g.fields.length:=List.length_filter_le _ _
theorem zn3 (g:Img) (t:Int) (hf:yh g=true):ACall Tryz.prog 147 [zK g,pi t] (.slc 7 ((Ya g t).map ZI) false):=by
 refine zh zf Tryz.func147 rfl zws Tryz.ntmps147 zwy63 _ rfl (fun hw gB hgB=>?_);have hg:g.fields.length<=1000:=by have:=(yg hf).2.1;omega
 have hfl:=QG g t
 repeat' (first|(refine shC ?_;first|refine qC (WT g t hg) ?_)|refine sA ?_|refine sC (fun _=>?_) (fun _=>?_)|fail)
 refine Za (t:=5) 0 82 7 zwy69 rfl rfl ?_;refine zL (fun x:Nat × List Fd=>[(2,.pv (.ptr (zK g) 0)),(5,.own 0),(10,.pv (ints (fieldsOf g t))),(11,.pv (pi (fieldsOf g t).length)),(12,.pv (pi x.1))]) (fun x=>[(0,.row 82 7 (x.2.map ZI))])
  (fun x=>x.1<=(fieldsOf g t).length/\x.2.length<=x.1/\x.2++(((fieldsOf g t).drop x.1).filter fun i=>!(g.fields.getD i.toNat default).static).map (fun i=>g.fields.getD i.toNat default)=Ya g t) (fun x=>(fieldsOf g t).length - x.1) (0,[]) ⟨by simp,by simp,zwZ hf t⟩ (tS) ⟨aB zC,rfl⟩ ?_
 rintro ⟨k,out⟩ ⟨hk,hol,hr⟩;simp only at hk hol hr;by_cases hlt:k < (fieldsOf g t).length
 ·have he:=qI hlt;obtain ⟨h0,hi⟩:=ZK (List.getElem_mem hlt);have hef:=Zp (f:=ZI) hi;rw [drop_cons hlt,List.filter_cons,zQ hi] at hr;generalize hfd:g.fields[(fieldsOf g t)[k].toNat]=f at hr hef
  repeat' (first|(refine shX ?_;first|refine qX he ?_|refine zy rfl (ah h0 hef) rfl rfl ?_|refine zq rfl (ah h0 hef) rfl rfl ?_)|(refine yj ?_;first|refine yV zf rfl rfl rfl rfl rfl rfl rfl (by show _ * 64<=_;simp;omega) zwy64 rfl rfl ?_)|refine sK ?_|refine sC (fun _=>?_) (fun _=>?_)|fail)
  ·rename_i hx;rw [if_pos hx,List.map_cons,zQ hi,hfd] at hr;exact ⟨(k + 1,out++[f]),⟨by simp;omega,by simp;omega,by simpa using hr⟩,tD,tS,⟨qH rfl zwy63 zC,rfl⟩⟩
  ·rename_i hx;rw [if_neg (by simp [hx])] at hr;exact ⟨(k + 1,out),⟨by simp;omega,by simp;omega,hr⟩,tD,tS,⟨qH rfl rfl zC,rfl⟩⟩
 ·rw [drop_end zwy62] at hr
  repeat' (first|refine sK ?_|refine sC (fun _=>?_) (fun _=>?_)|fail)
  exact retq rfl (by rw [<-hr];simp [zn])
theorem zgM (t:Ty):ACall Tryz.prog 142 [yI t] (pb (whole t)):=by
 refine zh zf Tryz.func142 rfl zws Tryz.ntmps142 zwy63 _ rfl (fun hw gB hgB=>?_)
 repeat' (first|refine sA ?_|refine sC (fun _=>?_) (fun _=>?_)|fail)
 all_goals first|(refine ak ?_;first|(simp only [zn,whole,BL,List.length_map] at *;simp only [*,BL,List.length_map];done)|(simp_all [zn,whole];done)|(simp_all [zn,whole];omega)|(simp_all [zn,whole];intros;omega))|(refine Yi rfl ?_;first|(simp only [zn,whole,BL,List.length_map] at *;simp only [*,BL,List.length_map];done)|(simp_all [zn,whole];done)|(simp_all [zn,whole];omega)|(simp_all [zn,whole];intros;omega))|skip
theorem Vl (g:Img) (t:Ty):ACall Tryz.prog 56 [zK g,yI t] (pb (qE g t)):=by
 refine zh zf Tryz.func56 rfl zws Tryz.ntmps56 zwy63 _ rfl (fun hw gB hgB=>?_)
 repeat' (first|(refine shC ?_;first|refine qC (zik t) ?_|refine qC (Zq g t.index) ?_)|refine sA ?_|refine sC (fun _=>?_) (fun _=>?_)|fail)
 all_goals first|(refine ak ?_;first|(simp only [zn,qE,BL,List.length_map] at *;simp only [*,BL,List.length_map];done)|(simp_all [zn,qE];done)|(simp_all [zn,qE];omega)|(simp_all [zn,qE];intros;omega))|(refine Yi rfl ?_;first|(simp only [zn,qE,BL,List.length_map] at *;simp only [*,BL,List.length_map];done)|(simp_all [zn,qE];done)|(simp_all [zn,qE];omega)|(simp_all [zn,qE];intros;omega))|skip
set_option maxHeartbeats 20000000
theorem zkI {g:Img} {n:Nat} {t:Ty} (hd:Dp g (n + 1) t) (hw:whole t=false):∀ f∈Ya g t.index,Dp g n f.ty:=by
 rcases hd with h|h
 ·rw [h] at hw;cases hw
 ·exact h
theorem zcq {g:Img} (h:Yz g=true) (hu:Yu g=true) {t:Ty} (hk:t.kind=1):ZA g t=[]:=by rw [zgC h hu];simp [hk]
theorem zbw {g:Img} (h:Yz g=true) (hu:Yu g=true) {t:Ty} (hk:t.kind≠1) (hw:whole t=true):ZA g t=[t]:=by rw [zgC h hu];simp [hk,hw]
theorem zeH {t:Ty} (hw:whole t=false):t.kind=6/\t.ref=false/\¬ 0 < t.dims:=by
 simp only [whole,Bool.or_eq_false_iff,bne_eq_false_iff_eq,decide_eq_false_iff_not] at hw;exact ⟨hw.1.1,hw.1.2,hw.2⟩
theorem zoL {g:Img} (h:Yz g=true) (hu:Yu g=true) {t:Ty} (hw:whole t=false):ZA g t=if (fcs g (Ya g t.index)).length=0 then [intTy] else fcs g (Ya g t.index):=by
 rw [zgC h hu,hw];simp [(zeH hw).1]
theorem zdi {g:Img} (h:Yz g=true) (hu:Yu g=true) {t:Ty} (hw:whole t=false):(ZA g t).length=max (fcs g (Ya g t.index)).length 1:=by
 rw [zoL h hu hw];split
 ·rename_i h0;rw [h0];rfl
 ·omega
theorem zjH {g:Img} {l:List Fd} {k:Nat} (h:k < l.length):(fcs g (l.take (k + 1))).length=(fcs g (l.take k)).length + (ZA g l[k].ty).length:=by
 rw [List.take_succ_eq_append_getElem h,zc9,zaA];simp [fcs]
theorem zwk9 {G:Prop} (h:G:=by repeat' (first|(refine shC ?_;first|(have:=b0;refine qC c1 ?_))|(refine shX ?_;first|(have:=b1;refine qX he ?_))|(have:=b2;refine zy rfl (zxz rfl rfl rfl) rfl rfl ?_)|(have:=b2;refine zy rfl (zxQ rfl rfl rfl) rfl rfl ?_)|refine sK ?_|refine sC (fun _=>?_) (fun _=>?_)|(have:=b0;exact ⟨(k + 1,r + c),⟨hlt,by simp only;omega,hcn⟩,tD,by repeat (first|exact yO|refine yA rfl ?_|(refine qW rfl ?_ ?_;· (first|(rw [wrap_in zwy62 zwy62] <;> omega)|(dsimp only;rw [wrap_in zwy62 zwy62] <;> (push_cast;omega))))),tH⟩)|(have:=b2;exact retq rfl (by rw [e];simp only [zn,hwb] <;> (congr 3 <;> omega)))|exact ⟨(k + 1,r),⟨hlt,hr,hcn⟩,tD,tS,tH⟩|fail)):G:=h
theorem zid (g:Img) (hwl:Yz g=true) (hu:Yu g=true) (b:Nat) (hb:b<=100) (hb1:1<=b):∀ (n:Nat) (t:Ty),Dp g n t->ACall Tryz.prog 146 [zK g,yI t,pi b] (pi (Qv g b t:Nat)):=by
 have hf:=YA hwl;intro n;induction n with
 | zero =>
  intro t hd;have hwh:whole t=true:=hd;refine zh zf Tryz.func146 rfl zws Tryz.ntmps146 zwy63 _ rfl (fun hw gB hgB=>?_);have hw':(t.kind != 6||t.ref||decide (0 < t.dims))=true:=hwh;by_cases hk:t.kind=1
  ·have e:Qv g b t=0:=by rw [Qv,zcq hwl hu hk];rfl
   have hkb:(t.kind==1)=true:=by simp [hk]
   repeat' (first|refine sK ?_|refine sC (fun _=>?_) (fun _=>?_)|fail)
   all_goals exact retq rfl (by rw [e];rfl)
  ·have e:Qv g b t=1:=by rw [Qv,zbw hwl hu hk hwh];simp <;> omega
   have hkb:(t.kind==1)=false:=by simp [hk]
   repeat' (first|refine sA ?_|refine sC (fun _=>?_) (fun _=>?_)|fail)
   all_goals first
    | (refine ak ?_;rw [e];rfl)
    | (exfalso;simp_all;done)
 | succ n ih =>
  intro t hd;refine zh zf Tryz.func146 rfl zws Tryz.ntmps146 zwy63 _ rfl (fun hw gB hgB=>?_);cases hwh:whole t
  ·obtain ⟨k1,k2,k3⟩:=zeH hwh;have hn:=zkI hd hwh;have hol:=zor g t.index;have hgl:g.fields.length<=64:=by have:=(yg hf).2.1;omega
   have hkb1:(t.kind==1)=false:=by simp [k1]
   have hkb2:(t.kind != 6)=false:=by simp [k1]
   have hkb3:decide (0 < t.dims)=false:=by simp [k3]
   repeat' (first|(refine shC ?_;first|refine qC (zn3 g t.index hf) ?_)|refine sK ?_|refine sC (fun _=>?_) (fun _=>?_)|fail)
   refine zL (fun x:Nat × Nat=>[(2,.pv (pi b)),(3,.pv (.ptr (zK g) 0)),(7,.pv (pi x.2)),(28,.pv (.slc 7 ((Ya g t.index).map ZI) false)),(29,.pv (pi (Ya g t.index).length)),(30,.pv (pi x.1))]) (fun _=>[])
    (fun x=>x.1<=(Ya g t.index).length/\x.2<=2 * b + 1/\Cnt b x.2 (fcs g ((Ya g t.index).take x.1)).length) (fun x=>(Ya g t.index).length - x.1) (0,0) ⟨by simp,by simp,rfl⟩ (tS) tH ?_
   rintro ⟨k,r⟩ ⟨hk,hr,hc⟩;simp only at hk hr hc;by_cases hlt:k < (Ya g t.index).length
   ·have he:=zS (f:=ZI) hlt;have c1:=ih (Ya g t.index)[k].ty (hn _ (List.getElem_mem hlt));have hs:=zjH (g:=g) hlt;have hcl:Qv g b (Ya g t.index)[k].ty<=b + 1:=Nat.min_le_right _ _;have hce:Qv g b (Ya g t.index)[k].ty=min (ZA g (Ya g t.index)[k].ty).length (b + 1):=rfl;generalize Qv g b (Ya g t.index)[k].ty=c at c1 hcl hce;by_cases hrb:r<=b
    ·have hcn:=hc.add (l:=(ZA g (Ya g t.index)[k].ty).length) hrb;rw [<-hs,<-hce] at hcn;have b0:=();have b1:=();exact zwk9
    ·have hcn:=hc.stay (l:=(ZA g (Ya g t.index)[k].ty).length) zwy62;rw [<-hs] at hcn;have b1:=();exact zwk9
   ·have e:Qv g b t=min (max r 1) (b + 1):=by
     rw [Qv,zdi hwl hu hwh];rw [List.take_of_length_le zwy62] at hc;unfold Cnt at hc;omega
    have hwb:IntKind.i64.wrap ((b:Int) + 1)=((b + 1:Nat):Int):=by rw [wrap_in zwy62 zwy62];omega
    have b2:=();exact zwk9
  ·have hw':(t.kind != 6||t.ref||decide (0 < t.dims))=true:=hwh;by_cases hk:t.kind=1
   ·have e:Qv g b t=0:=by rw [Qv,zcq hwl hu hk];rfl
    have hkb:(t.kind==1)=true:=by simp [hk]
    repeat' (first|refine sK ?_|refine sC (fun _=>?_) (fun _=>?_)|fail)
    all_goals exact retq rfl (by rw [e];rfl)
   ·have e:Qv g b t=1:=by rw [Qv,zbw hwl hu hk hwh];simp <;> omega
    have hkb:(t.kind==1)=false:=by simp [hk]
    repeat' (first|refine sA ?_|refine sC (fun _=>?_) (fun _=>?_)|fail)
    all_goals first
     | (refine ak ?_;rw [e];rfl)
     | (exfalso;simp_all;done)
theorem zsl (g:Img) (hwl:Yz g=true) (hu:Yu g=true) (b:Nat) (hb:b<=100) (hb1:1<=b) (t:Ty):ACall Tryz.prog 102 [zK g,yI t,pi b] (pb (decide (b < (ZA g t).length))):=by
 refine zh zf Tryz.func102 rfl zws Tryz.ntmps102 zwy63 _ rfl (fun hw gB hgB=>?_);have c1:=zid g hwl hu b hb hb1 _ t (zia hwl hu t);have e:decide ((b:Int) < (Qv g b t:Nat))=decide (b < (ZA g t).length):=by
  rw [decide_eq_decide];unfold Qv;omega
 repeat' (first|(refine shC ?_;first|refine qC c1 ?_)|refine sA ?_|refine sC (fun _=>?_) (fun _=>?_)|fail)
 exact retq rfl (by simp only [zn,e])
end Go.Cg
