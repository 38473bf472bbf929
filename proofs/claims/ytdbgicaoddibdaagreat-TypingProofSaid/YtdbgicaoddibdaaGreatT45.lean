/- A part of the walks by abstract values: no statement of its own. -/
import Derived.Test.YtdbgicaoddibdaaGreatT40
import Derived.Test.YtdbgicaoddibdaaGreatT32
import Derived.Test.YtdbgicaoddibdaaGreatT33
set_option linter.unusedVariables false
set_option linter.unusedSimpArgs false
namespace Go.Cg
open Go.Proofs
theorem zwk13 {G:Prop} (h:G:=by repeat' (first|(have:=b0;refine zl 5 11 rfl rfl rfl ?_)|(have:=b0;refine zbr [] (lbH (pi 0) p1) zh rfl rfl rfl zwy68 rfl (yY h67 11) ?_)|(refine shC ?_;first|(have:=b1;refine qC c0 ?_)|(have:=b1;refine qC c1 ?_)|(have:=b2;refine qC (yx h67 11) ?_)|(have:=b3;refine qC (yx rfl 11) ?_))|(have:=b1;refine zn ?_;first|(refine yD ([]) ([]) (lbH (pi 0) p1) [(1,.pv (pi i)),(2,.pv (.ptr (Xe g m) 0)),(4,.box 1 0)] [] zh rfl rfl rfl ?_ tS rfl rfl rfl (fun _=>Xy co ho) ?_;· (repeat (first|exact zA|refine aB ?_)))|(refine yD ([]) ([]) (lbH (pi 0) p1) [(1,.pv (pi i)),(2,.pv (.ptr (Xe g m) 0)),(4,.box 1 0)] [] zh rfl rfl rfl ?_ tS rfl rfl rfl (fun _=>Xy ci hi) ?_;· (repeat (first|exact zA|refine aB ?_)))|(refine yD ([]) ([]) (lbH (pi 0) p1) [(1,.pv (pi i)),(2,.pv (.ptr (Xe g m) 0)),(4,.box 1 0)] [] zh rfl rfl rfl ?_ tS rfl rfl rfl (fun _=>Xy ct ht) ?_;· (repeat (first|exact zA|refine aB ?_))))|(have:=b4;refine zl 4 2 rfl rfl rfl ?_)|(have:=b4;refine zbr [] (lbH (pi 0) p1) zh rfl rfl rfl zwy68 rfl (ziN ct ht) ?_)|(have:=b4;refine zn ?_;first|(refine yD ([]) ([]) (lbH (pi 0) p1) [(1,.pv (pi i)),(2,.pv (.ptr (Xe g m) 0)),(4,.box 1 0)] [] zh rfl rfl rfl ?_ tS rfl rfl rfl (fun _=>Xy co ho) ?_;· (repeat (first|exact zA|refine aB ?_)))|(refine yD ([]) ([]) (lbH (pi 0) p1) [(1,.pv (pi i)),(2,.pv (.ptr (Xe g m) 0)),(4,.box 1 0)] [] zh rfl rfl rfl ?_ tS rfl rfl rfl (fun _=>Xy ci hi) ?_;· (repeat (first|exact zA|refine aB ?_))))|(have:=b5;refine zl 3 2 rfl rfl rfl ?_)|(have:=b5;refine zbr [] (lbH (pi 0) p1) zh rfl rfl rfl zwy68 rfl (ziN ci hi) ?_)|(have:=b5;refine zn ?_;first|(refine yD ([]) ([]) (lbH (pi 0) p1) [(1,.pv (pi i)),(2,.pv (.ptr (Xe g m) 0)),(4,.box 1 0)] [] zh rfl rfl rfl ?_ tS rfl rfl rfl (fun _=>Xy co ho) ?_;· (repeat (first|exact zA|refine aB ?_))))|(have:=b6;refine zl 2 2 rfl rfl rfl ?_)|(have:=b6;refine zbr [] (lbH (pi 0) p1) zh rfl rfl rfl zwy68 rfl (ziN co ho) ?_)|refine sK ?_|refine sC (fun _=>?_) (fun _=>?_)|(have:=b0;exact ⟨_,_,_,[4],[.box 1 0],[p1],lbH (pi 0) p1,lbH (pi 11) p1,[pi 11],rfl,rfl,tH,⟨⟨2001,rfl⟩,trivial⟩,⟨⟨2001,rfl⟩,trivial⟩,zfz p1 _,rfl,rfl,by decide,tS,rfl,by rw [hl,hn];rfl⟩)|(have:=b7;exact ⟨_,_,_,[4],[.box 1 0],[p1],lbH (pi 0) p1,lbH (pi 0) p1,[pi 0],rfl,rfl,tH,⟨⟨2001,rfl⟩,trivial⟩,⟨⟨2001,rfl⟩,trivial⟩,zkg _ p1,rfl,rfl,by decide,tS,rfl,by rw [hl,hn];rfl⟩)|(have:=b4;exact ⟨_,_,_,[4],[.box 1 0],[p1],lbH (pi 0) p1,lbH (pi (tailV g m i)) p1,[pi (tailV g m i)],rfl,rfl,tH,⟨⟨2001,rfl⟩,trivial⟩,⟨⟨2001,rfl⟩,trivial⟩,zfz p1 _,rfl,rfl,by decide,tS,rfl,by rw [hl];rfl⟩)|(have:=b5;exact ⟨_,_,_,[4],[.box 1 0],[p1],lbH (pi 0) p1,lbH (pi (ZR m i)) p1,[pi (ZR m i)],rfl,rfl,tH,⟨⟨2001,rfl⟩,trivial⟩,⟨⟨2001,rfl⟩,trivial⟩,zfz p1 _,rfl,rfl,by decide,tS,rfl,by rw [hl];rfl⟩)|(have:=b6;exact ⟨_,_,_,[4],[.box 1 0],[p1],lbH (pi 0) p1,lbH (pi (onV m i)) p1,[pi (onV m i)],rfl,rfl,tH,⟨⟨2001,rfl⟩,trivial⟩,⟨⟨2001,rfl⟩,trivial⟩,zfz p1 _,rfl,rfl,by decide,tS,rfl,by rw [hl];rfl⟩)|fail)):G:=h
set_option maxHeartbeats 4000000 in
theorem zr2 (g:Img) (m:Me) (i:Int) (h0:0≤i) (h1:i≤1000) (co:Qe Tryz.prog 103 [.pv (Xe g m),.pv (pi i)] [] (zeN (onV m i)))
  (ci:Qe Tryz.prog 104 [.pv (Xe g m),.pv (pi i)] [] (zeN (ZR m i))) (ct:Qe Tryz.prog 105 [.pv (Xe g m),.pv (pi i)] [] (zeN (tailV g m i))) :
  ACall Tryz.prog 65 [Xe g m,pi i] (pi (Vq g m i)):=by
 have hwr:IntKind.i64.wrap (i - 1)=i - 1:=wrap_in zwy62 zwy62;have c0:=zdn g m i;have c1:ACall Tryz.prog 106 [Xe g m,pi (IntKind.i64.wrap (i - 1))] (pi (opV m (i - 1))):=by rw [hwr];exact zdn g m (i - 1)
 refine zkJ zf Tryz.func65 rfl zws Tryz.ntmps65 zwy63 _ rfl (fun hw=>?_);refine za0 (za3 fun gB=>?_)
 repeat' (first|refine ZC zf 1 rfl rfl rfl rfl rfl rfl rfl ?_|refine sK ?_|refine sC (fun _=>?_) (fun _=>?_)|fail)
 refine zhz 1 2001 rfl rfl fun p1=>?_
 refine za0 (zgb (k:=1) rfl rfl rfl rfl rfl fun gB=>?_)
 repeat' (first|refine sK ?_|refine sC (fun _=>?_) (fun _=>?_)|fail)
 refine ⟨_,_,[p1],rfl,⟨⟨2001,rfl⟩,trivial⟩,?_⟩;refine za3 fun gB=>?_
 by_cases ho:onV m i=0
 ·by_cases hi:ZR m i=0
  ·by_cases ht:tailV g m i=0
   ·have hl:Vq g m i=zaW m i:=by rw [Vq,if_neg zwy86,if_neg zwy115,if_neg (by simpa using ht)]
    cases h68:(opV m i != 68)
    ·cases h67:(opV m (i - 1)==67)
     ·have hn:zaW m i=11:=by rw [zaW];simp_all
      have b0:=();have b1:=();exact zwk13
     ·have hn:zaW m i=0:=by rw [zaW];simp_all
      have b1:=();have b2:=();have b7:=();exact zwk13
    ·have hn:zaW m i=0:=by rw [zaW];simp_all
     have b1:=();have b3:=();have b7:=();exact zwk13
   ·have hl:Vq g m i=tailV g m i:=by rw [Vq,if_neg zwy86,if_neg zwy115,if_pos (by simpa using ht)]
    have b4:=();exact zwk13
  ·have hl:Vq g m i=ZR m i:=by rw [Vq,if_neg zwy86,if_pos zwy115]
   have b5:=();exact zwk13
 ·have hl:Vq g m i=onV m i:=by rw [Vq,if_pos zwy86]
  have b6:=();exact zwk13
theorem zuL {p:Nat→Bool} {n k:Nat} (hk:k < n) (hp:p k=true) (hno:∀ j,j < k→p j=false):(List.range n).find? p=some k:=by
 rw [List.find?_range_eq_some];exact ⟨hp,by simpa using hk,fun j hj=>by simp [hno j hj]⟩
theorem zsS {p:Nat→Bool} {n:Nat} (hno:∀ j,j < n→p j=false):(List.range n).find? p=none:=by
 rw [List.find?_eq_none];intro j hj;simp [hno j (List.mem_range.1 hj)]
theorem zwk14 {G:Prop} (h:G:=by repeat' (first|(refine shC ?_;first|(have:=b0;refine qC cl ?_)|(have:=b1;refine qC cb ?_))|refine sK ?_|refine sC (fun _=>?_) (fun _=>?_)|exact retq rfl (by rw [ha];rfl)|fail)):G:=h
set_option maxHeartbeats 4000000 in
theorem zuU (g:Img) (m:Me) (hm:ClOk m) (hlk:∀ i:Nat,i < m.code.length→ACall Tryz.prog 65 [Xe g m,pi i] (pi (Vq g m i))):ACall Tryz.prog 32 [Xe g m] (.tup [pi (zbH g m).1,pi (zbH g m).2]):=by
 have cb:=znE g m hm;have hmc:=hm.code;refine zi zf Tryz.func32 rfl zws Tryz.ntmps32 zwy63 _ rfl (fun hw gB hgB=>?_)
 repeat' (first|refine sA ?_|refine sC (fun _=>?_) (fun _=>?_)|fail)
 refine zW (fun k:Nat=>[(1,.pv (.ptr (Xe g m) 0)),(9,.pv (pi m.code.length)),(10,.pv (pi k))]) (fun _=>[]) (fun k=>k≤m.code.length∧∀ j,j < k→(Vq g m (j:Nat) != 0)=false) (fun k=>m.code.length - k) 0 ⟨by omega,fun j hj=>absurd hj (Nat.not_lt_zero j)⟩ (tS) tH ?_;rintro k ⟨hk,hno⟩;by_cases hlt:k < m.code.length
 ·have cl:=hlk k hlt;cases he:(Vq g m (k:Nat) != 0)
  ·repeat' (first|(refine shC ?_;first|refine qC cl ?_)|refine sK ?_|refine sC (fun _=>?_) (fun _=>?_)|fail)
   exact ⟨k + 1,⟨hlt,fun j hj=>by
    by_cases e:j=k
    ·subst e;exact he
    ·exact hno j zwy62⟩,tD,tS,tH⟩
  ·have ha:zbH g m=(((k:Nat):Int),Vq g m k):=by rw [zbH,zuL hlt he hno]
   have b0:=();exact zwk14
 ·have ha:zbH g m=if zex m then (0,0) else (0,12):=by rw [zbH,zsS fun j hj=>hno j zwy62]
  cases hb:zex m
  ·rw [hb] at cb ha;have b1:=();exact zwk14
  ·rw [hb] at cb ha;have b1:=();exact zwk14
end Go.Cg
