/- A part of the walks by abstract values: no statement of its own. -/
import Derived.Test.YtdbgicaoddibdaaGreatT29
import Derived.Test.YtdbgicaoddibdaaGreatT27
set_option linter.unusedVariables false
set_option linter.unusedSimpArgs false
namespace Go.Cg
open Go.Proofs
theorem Xy {f:FuncId} {args:List AV} {P:Program} {e:Int} (h:Qe P f args [] (zeN e)) (he:e=0):ACallM P f args [] (.pv (.tup [])) []:=by
 rw [zeN,if_pos he] at h;exact h
theorem ziN {f:FuncId} {args:List AV} {P:Program} {e:Int} (h:Qe P f args [] (zeN e)) (he:e≠0):ACallPan P f args [] (zhq e):=by
 rw [zeN,if_neg he] at h;exact h
theorem zwk12 {G:Prop} (h:G:=by repeat' (first|(have:=b0;refine zl 3 22 rfl rfl rfl ?_)|(have:=b1;refine zD ([]) zh rfl rfl rfl tH (yY hle2 11) ?_)|(have:=b2;refine zD ([]) zh rfl rfl rfl tH (yY rfl 11) ?_)|(have:=b3;refine zN 1 13 0 zf rfl zws zws zws rfl rfl rfl rfl rfl rfl rfl rfl rfl rfl rfl rfl rfl rfl (fun _=>rfl) rfl rfl rfl ?_)|(have:=b3;refine ⟨_,_,rfl,rfl,rfl,?_⟩)|(have:=b4;refine zl 5 6 rfl rfl rfl ?_)|(have:=b4;refine zD ([]) zh rfl rfl rfl tH (yY ht 10) ?_)|(have:=b5;refine zl 6 6 rfl rfl rfl ?_)|(have:=b5;refine zD ([]) zh rfl rfl rfl tH (yY rfl 13) ?_)|(refine shC ?_;first|refine qC c0 ?_|(have:=b6;refine qC c1 ?_)|(have:=b6;refine qC c2 ?_)|(have:=b6;refine qC cc ?_)|(have:=b3;refine qC (yx hle 11) ?_)|(have:=b7;refine qC (yx ht 10) ?_)|(have:=b7;refine qC cA ?_)|(have:=b7;refine qC cF ?_)|(have:=b8;refine qC (yx rfl 13) ?_))|(refine shX ?_;first|(have:=b3;refine zy rfl (ah hix hei) rfl rfl ?_)|(have:=b3;refine zq rfl (ah hix hei) rfl rfl ?_)|(have:=b3;refine zy rfl (ah ha0 hem) rfl rfl ?_)|(have:=b3;refine zq rfl (ah ha0 hem) rfl rfl ?_))|refine sK ?_|refine sC (fun _=>?_) (fun _=>?_)|(have:=b0;exact Zc hz zwy67)|(have:=b9;exact Zc hz2 zwy67)|exact ZQ hz2 (.inl rfl)|exact ZQ hz (.inr rfl)|fail)):G:=h
set_option maxHeartbeats 8000000 in
theorem zsd (g:Img) (m:Me) (hm:ClOk m) (i:Int) (h0:0≤i) (h1:i.toNat < m.code.length)
  (hc:opV m i=47→opV m (i + 1)=43∨opV m (i + 1)=44→(0≤(qm m (i + 1)).arg∧(qm m (i + 1)).arg.toNat < g.methods.length)∧(WU g m i).params.length≤100):Qe Tryz.prog 105 [.pv (Xe g m),.pv (pi i)] [] (zeN (tailV g m i)):=by
 have hmc:=hm.code;have hwr:IntKind.i64.wrap (i + 1)=i + 1:=wrap_in zwy62 zwy62;have hw2:IntKind.i64.wrap (i + 2)=i + 2:=wrap_in zwy62 zwy62;have c0:=zdn g m i;have c1:ACall Tryz.prog 106 [Xe g m,pi (IntKind.i64.wrap (i + 1))] (pi (opV m (i + 1))):=by rw [hwr];exact zdn g m (i + 1)
 have c2:ACall Tryz.prog 106 [Xe g m,pi (IntKind.i64.wrap (i + 2))] (pi (opV m (i + 2))):=by rw [hw2];exact zdn g m (i + 2)
 have cc:=zeo m.clauses i hm.n (hm.s i);refine zI zf Tryz.func105 rfl zws Tryz.ntmps105 zwy63 _ rfl (fun gB hw1=>?_);have cc:ACall Tryz.prog 108 [cls m.clauses,pi i] (rgs (qM m.clauses i)):=cc;cases h47:(opV m i != 47)
 ·have hwb:(opV m i==47)=true:=by simpa using h47
  cases hb:((opV m (i + 1)==43||opV m (i + 1)==44)&&opV m (i + 2)==46&&(qM m.clauses i).isEmpty)
  ·have hz:tailV g m i=11:=by rw [tailV,h47,hb];rfl
   have hle:(((((qM m.clauses i).map zbY).length:Nat):Int)==0)=(qM m.clauses i).isEmpty:=by cases qM m.clauses i <;> simp;omega
   rcases Bool.eq_false_or_eq_true (opV m (i + 1)==43) with k1|k1
   ·rcases Bool.eq_false_or_eq_true (opV m (i + 2)==46) with k3|k3
    ·rw [k1,k3] at hb;have hle2:(((((qM m.clauses i).map zbY).length:Nat):Int)==0)=false:=by rw [hle];simpa using hb
     have b0:=();have b1:=();have b6:=();exact zwk12
    ·have b0:=();have b2:=();have b6:=();exact zwk12
   ·rcases Bool.eq_false_or_eq_true (opV m (i + 1)==44) with k2|k2
    ·rcases Bool.eq_false_or_eq_true (opV m (i + 2)==46) with k3|k3
     ·rw [k1,k2,k3] at hb;have hle2:(((((qM m.clauses i).map zbY).length:Nat):Int)==0)=false:=by rw [hle];simpa using hb
      have b0:=();have b1:=();have b6:=();exact zwk12
     ·have b0:=();have b2:=();have b6:=();exact zwk12
    ·have b0:=();have b2:=();have b6:=();exact zwk12
  ·simp only [Bool.and_eq_true,Bool.or_eq_true] at hb;obtain ⟨⟨hb1,hb2⟩,hb3⟩:=hb;have hin:(i + 1).toNat < m.code.length:=by
    rcases Nat.lt_or_ge (i + 1).toNat m.code.length with h|h
    ·exact h
    ·have:opV m (i + 1)=0:=by rw [opV];simp;omega
     rw [this] at hb1;simp at hb1
   obtain ⟨⟨ha0,ha1⟩,hpl⟩:=hc (by simpa using hwb) (by simpa using hb1);have hei:(m.code.map qx)[(IntKind.i64.wrap (i + 1)).toNat]?=some (qx (qm m (i + 1))):=by rw [hwr,qm,zT hin];exact zY hin
   have hem:(g.methods.map yh)[(qm m (i + 1)).arg.toNat]?=some (yh (WU g m i)):=by rw [WU,mAt,zT ha1];exact zY ha1
   have hle:(((((qM m.clauses i).map zbY).length:Nat):Int)==0)=true:=by
    have:qM m.clauses i=[]:=by simpa using hb3
    rw [this];rfl
   have hbb:((opV m (i + 1)==43||opV m (i + 1)==44)&&opV m (i + 2)==46&&(qM m.clauses i).isEmpty)=true:=by simp only [hb2,hb3,Bool.and_true];simpa using hb1
   have hz:tailV g m i=if !tyB (WU g m i).ret m.ret then 10 else if (Xp g (WU g m i)).any (fun t=>t.ref) then 13 else 0:=by rw [tailV,h47,hbb];rfl
   have cA:=zbv g (WU g m i) zwy62;have cF:=Zw (Xp g (WU g m i)) (fun t=>t.ref) 152 [] [] (fun t _=>zoG t);have hix:(0:Int)≤IntKind.i64.wrap (i + 1):=by omega
   generalize qm m (i + 1)=x at *;generalize WU g m i=c at *;cases ht:tyB c.ret m.ret
   ·have hz2:tailV g m i=10:=by rw [hz,ht];rfl
    rcases Bool.eq_false_or_eq_true (opV m (i + 1)==43) with k1|k1
    ·have b3:=();have b4:=();have b6:=();have b9:=();exact zwk12
    ·have k2:(opV m (i + 1)==44)=true:=by rw [k1] at hb1;simpa using hb1
     have b3:=();have b4:=();have b6:=();have b9:=();exact zwk12
   ·cases ha:(Xp g c).any fun t=>t.ref
    ·have hz2:tailV g m i=0:=by rw [hz,ht,ha];rfl
     rw [ha] at cF;rcases Bool.eq_false_or_eq_true (opV m (i + 1)==43) with k1|k1
     ·have b3:=();have b6:=();have b7:=();have b8:=();exact zwk12
     ·have k2:(opV m (i + 1)==44)=true:=by rw [k1] at hb1;simpa using hb1
      have b3:=();have b6:=();have b7:=();have b8:=();exact zwk12
    ·have hz2:tailV g m i=13:=by rw [hz,ht,ha];rfl
     rw [ha] at cF;rcases Bool.eq_false_or_eq_true (opV m (i + 1)==43) with k1|k1
     ·have b3:=();have b5:=();have b6:=();have b7:=();have b9:=();exact zwk12
     ·have k2:(opV m (i + 1)==44)=true:=by rw [k1] at hb1;simpa using hb1
      have b3:=();have b5:=();have b6:=();have b7:=();have b9:=();exact zwk12
 ·have hz:tailV g m i=0:=by rw [tailV,h47];rfl
  exact zwk12
end Go.Cg
