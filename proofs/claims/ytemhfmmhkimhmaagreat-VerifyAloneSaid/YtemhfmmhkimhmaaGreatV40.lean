/- A part of the walks by abstract values: no statement of its own. -/
import Derived.Test.YtemhfmmhkimhmaaGreatV37
set_option linter.unusedVariables false
set_option linter.unusedSimpArgs false
namespace Go.Cg
open Go.Proofs
theorem zwk32 {G:Prop} (h:G:=by repeat' (first|(refine shC ?_;first|(have:=d0;refine qC c0 ?_)|(have:=d1;refine qC cf ?_)|(have:=d2;refine qC ct ?_)|(have:=d3;refine qC ck ?_)|(have:=d4;refine qC cw ?_)|(have:=d5;refine qC cm ?_))|(refine shX ?_;first|(have:=d6;refine qX he ?_))|refine sK ?_|refine sC (fun _=>?_) (fun _=>?_)|(have:=d0;exact retq rfl (by rw [yX,hfi];rfl))|(have:=d7;exact retq rfl zwy121)|exact ⟨k + 1,⟨hlt,hr⟩,tD,tS,tH⟩|fail)):G:=h
set_option maxHeartbeats 4000000 in
theorem zjD (g:Img):ACall Tryz.prog 18 [zK g] (zi0 (yX g)):=by
 have c0:=zpb g;refine zh zf Tryz.func18 rfl zws Tryz.ntmps18 zwy63 _ rfl (fun hw gB hgB=>?_);cases hfi:zbk g
 ·rw [hfi] at c0;have d0:=();exact zwk32
 ·rw [hfi] at c0;have hF:=zaw hfi;obtain ⟨hgt,_,hgm,_⟩:=yg hF.formed;have hr0:yX g=stM g (List.range g.methods.length):=by rw [yX,hfi];rfl
  repeat' (first|(refine shC ?_;first|refine qC c0 ?_)|refine sK ?_|refine sC (fun _=>?_) (fun _=>?_)|fail)
  refine zL (fun k:Nat=>[(1,.pv (.ptr (zK g) 0)),(2,.box 0 0),(4,.pv (pi k))]) (fun _=>[(0,.cell (.pv (.agg [pi 0,pi 0])))])
   (fun k=>k<=g.methods.length/\yX g=stM g ((List.range g.methods.length).drop k)) (fun k=>g.methods.length - k) 0 ⟨by omega,hr0⟩ (tS) tH ?_
  rintro k ⟨hk,hr⟩;by_cases hlt:k < g.methods.length
  ·have he:=zt2 hlt;have hM:=XB hF.formed (zk2 hlt);have cf:=zhj g hF.formed _ hM;have ct:=zjr g _ hM;rw [Vh hlt,stM] at hr;cases hf:WZ g (mAt g (k:Int))
   ·rw [hf] at cf hr;have d1:=();have d6:=();have d7:=();exact zwk32
   ·rw [hf] at cf hr;cases ht:YJ g (mAt g (k:Int))
    ·rw [ht] at ct hr;have d1:=();have d2:=();have d6:=();have d7:=();exact zwk32
    ·rw [ht] at ct hr;have d1:=();have d2:=();have d6:=();exact zwk32
  ·have hk2:k=g.methods.length:=by omega
   subst hk2;rw [zaR,stM] at hr
   repeat' (first|refine sK ?_|refine sC (fun _=>?_) (fun _=>?_)|fail)
   refine zL (fun k:Nat=>[(1,.pv (.ptr (zK g) 0)),(2,.box 0 0),(5,.pv (pi k))]) (fun _=>[(0,.cell (.pv (.agg [pi 0,pi 0])))])
    (fun k=>k<=g.types.length/\yX g=stC g (fun t=>QI g t (Ql g t) (Zo g t)) ((List.range g.types.length).drop k)) (fun k=>g.types.length - k) 0 ⟨by omega,hr⟩ (tS) tH ?_
   clear hr hk hlt;rintro k ⟨hk,hr⟩;by_cases hlt:k < g.types.length
   ·have he:=zt9 hlt;have hfl:=zko hF.formed hlt;have hz:=zqn hfl.1 hfl.2;have ck:=Zp g (k:Int);rw [Vh hlt,stC,zrg] at hr;by_cases hk0:zV g (k:Int)=0
    ·have cw:=zjA g hF (k:Int) hk0;rw [hk0] at ck hr;cases hb:yR (g.types.getD ((k:Int)).toNat default).flags 4
     ·rw [hb] at hz hr;cases hw2:QI g (k:Int) (Ql g (k:Int)) (Zo g (k:Int))
      ·rw [hw2] at cw hr;have d3:=();have d4:=();have d6:=();have d7:=();exact zwk32
      ·rw [hw2] at cw hr;have d3:=();have d4:=();have d6:=();exact zwk32
     ·rw [hb] at hz hr;have d3:=();have d6:=();exact zwk32
    ·have hkb:(zV g (k:Int)==0)=false:=by simp [hk0]
     rw [hkb] at hr;have d3:=();have d6:=();exact zwk32
   ·have hk2:k=g.types.length:=by omega
    subst hk2;rw [zaR,stC] at hr
    repeat' (first|refine sK ?_|refine sC (fun _=>?_) (fun _=>?_)|fail)
    refine zL (fun k:Nat=>[(1,.pv (.ptr (zK g) 0)),(2,.box 0 0),(6,.pv (pi k))]) (fun _=>[(0,.cell (.pv (.agg [pi 0,pi 0])))])
     (fun k=>k<=g.types.length/\yX g=stD g ((List.range g.types.length).drop k)) (fun k=>g.types.length - k) 0 ⟨by omega,hr⟩ (tS) tH ?_
    clear hr hk hlt;rintro k ⟨hk,hr⟩;by_cases hlt:k < g.types.length
    ·have ck:=Zp g (k:Int);have cm:=QV g (k:Int) zwy62;have hlz:=zm8 (l:=methodsOf g (k:Int));rw [Vh hlt,stD,zkN] at hr;by_cases hk3:zV g (k:Int)=3
     ·rw [hk3] at ck hr;cases hb:(methodsOf g (k:Int)).length==0
      ·rw [hb] at hlz hr;have d3:=();have d5:=();exact zwk32
      ·rw [hb] at hlz hr;have d3:=();have d5:=();have d7:=();exact zwk32
     ·have hkb:(zV g (k:Int)==3)=false:=by simp [hk3]
      rw [hkb] at hr;have d3:=();exact zwk32
    ·have hk2:k=g.types.length:=by omega
     subst hk2;rw [zaR,stD,stE] at hr;by_cases h0:0<=g.entry
     ·have hen:=znC hF.formed h0;have hem:=YN hen;have hM:=XB hF.formed hen;have b1:=zjL (mAt g g.entry);have b4:=zf1 (mAt g g.entry);have hmay:XA (mAt g g.entry).ret 3 g.types.length=true:=by
       have:=hM.formed;simp only [yY,Bool.and_eq_true] at this;exact this.1.1.1.2
      have hnr:(mAt g g.entry).ret.ref=false:=by
       have hpl:=(zaM hmay).1;rw [XA,Bool.and_eq_true,ZP,hpl] at hmay;simpa using hmay.1
      have hl0:decide (0 < ((((mAt g g.entry).params.map yJ).length:Nat):Int))=!((mAt g g.entry).params.length==0):=by
       rw [List.length_map,Bool.eq_iff_iff];simp only [decide_eq_true_eq,Bool.not_eq_true',beq_eq_false_iff_ne];omega
      rw [decide_eq_true h0,zl1,zun (zaM hmay).1 hnr] at hr;generalize yR (mAt g g.entry).flags 1=c1 at b1 hr;generalize yR (mAt g g.entry).flags 4=c4 at b4 hr
      repeat' (first|(refine shX ?_;first|refine zy rfl (ah h0 hem) rfl rfl ?_|refine zq rfl (ah h0 hem) rfl rfl ?_)|refine sK ?_|refine sC (fun _=>?_) (fun _=>?_)|fail)
      all_goals repeat' (first|(refine shC ?_;first|refine qC b1 ?_|refine qC b4 ?_)|refine sA ?_|refine sC (fun _=>?_) (fun _=>?_)|fail)
      all_goals (refine ak ?_;rw [hr];clear hr hr0;first|(rw [if_neg (by simp_all)];rfl)|(rw [if_pos (by simp_all)];rfl))
     ·rw [decide_eq_false h0] at hr;have d7:=();exact zwk32
end Go.Cg
