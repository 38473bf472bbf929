/- A part of the walks by abstract values: no statement of its own. -/
import Derived.Test.YtdbgicaoddibdaaGreatT40
set_option linter.unusedVariables false
set_option linter.unusedSimpArgs false
namespace Go.Cg
open Go.Proofs
theorem zwk15 {G:Prop} (h:G:=by repeat' (first|(have:=b0;refine zl 4 3 rfl rfl rfl ?_)|(have:=b0;refine zD ([]) zh rfl rfl rfl tH (yY hle 12) ?_)|(have:=b1;refine yV 11 10 rfl zws zws zws zws zws ?_)|(have:=b2;refine yV 26 25 rfl zws zws zws zws zws ?_)|(have:=b3;refine zD ([]) zh rfl rfl rfl tH (yY rfl 12) ?_)|(have:=b4;refine zD ([]) zh rfl rfl rfl tH (yY hh 12) ?_)|(refine shC ?_;first|refine qC cc ?_|refine qC c0 ?_|(have:=b5;refine qC (yx hle 12) ?_)|(have:=b6;refine qC ci ?_)|(have:=b7;refine qC ch ?_)|(have:=b8;refine qC (yx rfl 12) ?_)|(have:=b9;refine qC (yx hh 12) ?_))|(refine shX ?_;first|(have:=b10;refine qX he ?_)|(have:=b11;refine zy rfl (ah hrc hec) rfl rfl ?_)|(have:=b11;refine zq rfl (ah hrc hec) rfl rfl ?_))|refine sK ?_|refine sC (fun _=>?_) (fun _=>?_)|(have:=b12;exact Zc hiv zwy67)|(have:=b13;exact Zc hz zwy67)|exact ZQ hiv (.inl rfl)|exact ZQ hz (.inl rfl)|fail)):G:=h
set_option maxHeartbeats 8000000 in
theorem zmD (g:Img) (m:Me) (hm:ClOk m) (i:Int) (h0:0≤i) (h1:i.toNat < m.code.length):Qe Tryz.prog 104 [.pv (Xe g m),.pv (pi i)] [] (zeN (ZR m i)):=by
 have hmc:=hm.code;have c0:=zdn g m i;have cc:ACall Tryz.prog 108 [cls m.clauses,pi i] (rgs (qM m.clauses i)):=zeo m.clauses i hm.n (hm.s i);have hcc:=fun x (hx:x∈qM m.clauses i)=>zlo hx
 have hiv:ZR m i=ZR m i:=rfl
 conv at hiv=>rhs;rw [ZR]
 generalize qM m.clauses i=c at *;refine zI zf Tryz.func104 rfl zws Tryz.ntmps104 zwy63 _ rfl (fun gB hw1=>?_);rcases Bool.eq_false_or_eq_true (opV m i==46) with k1|k1
 ·rw [k1,if_pos rfl] at hiv;have hle:((((c.map zbY).length:Nat):Int)==0)=c.isEmpty:=by cases c <;> simp;omega
  cases he:c.isEmpty
  ·rw [he] at hle hiv;have b0:=();have b12:=();exact zwk15
  ·rw [he] at hle hiv;have b5:=();exact zwk15
 ·rw [k1,if_neg zwy63] at hiv;rcases Bool.eq_false_or_eq_true (opV m i==70) with k2|k2
  ·rw [k2,if_pos rfl] at hiv;have ci:=zcp c (fun r=>r.p != 1) 150 [] [] (fun r _=>zly r);cases ha:c.any (fun r=>r.p != 1)
   ·have e:zl4 c (fun r=>r.p != 1) = -1:=by rw [zl4,ha];rfl
    have hz:ZR m i=12:=by
     have:c.find? (fun r=>r.p != 1)=none:=by rw [List.find?_eq_none];rw [List.any_eq_false] at ha;exact ha
     rw [hiv,this]
    rw [e] at ci;have b1:=();have b3:=();have b6:=();have b13:=();exact zwk15
   ·have e:zl4 c (fun r=>r.p != 1)=((c.findIdx (fun r=>r.p != 1):Nat):Int):=by rw [zl4,ha];rfl
    have hlt:c.findIdx (fun r=>r.p != 1) < c.length:=List.findIdx_lt_length.2 (by simpa using ha);have hf:c.find? (fun r=>r.p != 1)=some c[c.findIdx (fun r=>r.p != 1)]:=by rw [List.find?_eq_getElem?_findIdx,List.getElem?_eq_getElem hlt]
    have he:=zY (f:=zbY) hlt;have hr:=hcc _ (List.getElem_mem hlt);rw [hf] at hiv;rw [e] at ci;generalize c[c.findIdx (fun r=>r.p != 1)]=r at *;generalize c.findIdx (fun r=>r.p != 1)=k at *;have ch:=zeO g m r 1 2 hr.1 hr.2;have hd:decide ((0:Int)≤((k:Nat):Int))=true:=decide_eq_true zwy62;cases hh:Xo m r 1 2
    ·rw [hh] at ch;have hz:ZR m i=12:=by rw [hiv];show (if Xo m r 1 2=true then 0 else 12)=(12:Int);rw [hh];rfl
     have b1:=();have b3:=();have b6:=();have b7:=();have b10:=();have b13:=();exact zwk15
    ·rw [hh] at ch;have hz:ZR m i=0:=by rw [hiv];show (if Xo m r 1 2=true then 0 else 12)=(0:Int);rw [hh];rfl
     have b6:=();have b7:=();have b8:=();have b10:=();exact zwk15
  ·rw [k2,if_neg zwy63] at hiv;rcases Bool.eq_false_or_eq_true (opV m i==72) with k3|k3
   ·rw [k3,if_pos rfl] at hiv;cases c with
    | nil =>
     have b1:=();have b3:=();have b12:=();exact zwk15
    | cons r c =>
     have hr:=hcc r zwy63;have ch:=zeO g m r 3 4 hr.1 hr.2;have hd:decide ((0:Int) < ((((r::c).map zbY).length:Nat):Int))=true:=decide_eq_true zwy63;have he:((r::c).map zbY)[(0:Int).toNat]?=some (zbY r):=rfl;cases hh:Xo m r 3 4
     ·rw [hh] at ch;have hz:ZR m i=12:=by rw [hiv];show (if Xo m r 3 4=true then 0 else 12)=(12:Int);rw [hh];rfl
      have b1:=();have b3:=();have b7:=();have b10:=();have b13:=();exact zwk15
     ·rw [hh] at ch;have hz:ZR m i=0:=by rw [hiv];show (if Xo m r 3 4=true then 0 else 12)=(0:Int);rw [hh];rfl
      have b7:=();have b8:=();have b10:=();exact zwk15
   ·rw [k3,if_neg zwy63] at hiv;rcases Bool.eq_false_or_eq_true (opV m i==73) with k4|k4
    ·rw [k4,if_pos rfl] at hiv;cases c with
     | nil =>
      have b2:=();have b3:=();have b12:=();exact zwk15
     | cons r c =>
      have hr:=hcc r zwy63;have hwr:IntKind.i64.wrap (i + 1)=i + 1:=wrap_in zwy62 zwy62;have hd:decide ((0:Int) < ((((r::c).map zbY).length:Nat):Int))=true:=decide_eq_true zwy63;have he:((r::c).map zbY)[(0:Int).toNat]?=some (zbY r):=rfl;have hec:(m.clauses.map Zg)[r.c.toNat]?=some (Zg (clV m r)):=zdE hr.2;have hiv2:ZR m i=if r.p==3&&(clV m r).hf==IntKind.i64.wrap (i + 1) then 0 else 12:=by rw [hiv,hwr]
      generalize clV m r=cl at *;have hrc:=hr.1;cases h3:(r.p==3)
      ·have hz:ZR m i=12:=by rw [hiv2,h3];rfl
       have b2:=();have b3:=();have b10:=();have b13:=();exact zwk15
      ·cases hh:(cl.hf==IntKind.i64.wrap (i + 1))
       ·have hz:ZR m i=12:=by rw [hiv2,h3,hh];rfl
        have b2:=();have b4:=();have b10:=();have b11:=();have b13:=();exact zwk15
       ·have hz:ZR m i=0:=by rw [hiv2,h3,hh];rfl
        have b9:=();have b10:=();have b11:=();exact zwk15
    ·rw [k4,if_neg zwy63] at hiv;exact zwk15
end Go.Cg
