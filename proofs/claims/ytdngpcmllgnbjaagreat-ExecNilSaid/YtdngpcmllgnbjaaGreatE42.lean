/- A part of the walks by abstract values: no statement of its own. -/
import Derived.Test.YtdngpcmllgnbjaaGreatE34
set_option linter.unusedVariables false
set_option linter.unusedSimpArgs false
namespace Go.Cg
open Go.Proofs
set_option maxHeartbeats 4000000 in
theorem zqD (g:Img) (m:Me) (i:Int) (h0:0≤i) (h1:i≤1000) (co:QU Tryz.prog 259 [.pv (YR g m),.pv (pi i)] [] (zep (onV m i)))
  (ci:QU Tryz.prog 260 [.pv (YR g m),.pv (pi i)] [] (zep (Zn m i))) (ct:QU Tryz.prog 261 [.pv (YR g m),.pv (pi i)] [] (zep (tailV g m i))) :
  ACall Tryz.prog 141 [YR g m,pi i] (pi (XT g m i)):=by
 have hwr:IntKind.i64.wrap (i - 1)=i - 1:=wrap_in (by omega) (by omega)
 have c0:=zch g m i
 have c1:ACall Tryz.prog 262 [YR g m,pi (IntKind.i64.wrap (i - 1))] (pi (opV m (i - 1))):=by rw [hwr];exact zch g m (i - 1)
 refine zi7 zh Tryz.func141 rfl (by kernel_rfl) Tryz.ntmps141 (by simp) _ rfl (fun hw=>?_)
 refine VL (VI fun gB=>?_)
 repeat' (first|refine qx zh 1 rfl rfl rfl rfl rfl rfl rfl ?_|refine sK ?_|refine sC (fun _=>?_) (fun _=>?_)|fail)
 refine zgr 1 2001 rfl rfl fun p1=>?_
 refine VL (zeP (k:=1) rfl rfl rfl rfl rfl fun gB=>?_)
 repeat' (first|refine sK ?_|refine sC (fun _=>?_) (fun _=>?_)|fail)
 refine ⟨_,_,[p1],rfl,⟨⟨2001,rfl⟩,trivial⟩,?_⟩
 refine VI fun gB=>?_
 by_cases ho:onV m i=0
 ·by_cases hi:Zn m i=0
  ·by_cases ht:tailV g m i=0
   ·have hl:XT g m i=VP m i:=by rw [XT,if_neg (by simpa using ho),if_neg (by simpa using hi),if_neg (by simpa using ht)]
    cases h68:(opV m i != 68)
    ·cases h67:(opV m (i - 1)==67)
     ·have hn:VP m i=11:=by rw [VP];simp_all
      repeat' (first|refine zD 5 11 rfl rfl rfl ?_|refine zaE [] (lbH (pi 0) p1) zq rfl rfl rfl (by repeat (first|exact zk|refine zi rfl ?_)) rfl (yN h67 11) ?_|(refine shC ?_;first|refine qC c0 ?_|refine qC c1 ?_)|(refine zy ?_;first|(refine yx ([]) ([]) (lbH (pi 0) p1) [(1,.pv (pi i)),(2,.pv (.ptr (YR g m) 0)),(4,.box 1 0)] [] zq rfl rfl rfl ?_ tS rfl rfl rfl (fun _=>Qr co ho) ?_;· (repeat (first|exact zk|refine zi rfl ?_)))|(refine yx ([]) ([]) (lbH (pi 0) p1) [(1,.pv (pi i)),(2,.pv (.ptr (YR g m) 0)),(4,.box 1 0)] [] zq rfl rfl rfl ?_ tS rfl rfl rfl (fun _=>Qr ci hi) ?_;· (repeat (first|exact zk|refine zi rfl ?_)))|(refine yx ([]) ([]) (lbH (pi 0) p1) [(1,.pv (pi i)),(2,.pv (.ptr (YR g m) 0)),(4,.box 1 0)] [] zq rfl rfl rfl ?_ tS rfl rfl rfl (fun _=>Qr ct ht) ?_;· (repeat (first|exact zk|refine zi rfl ?_))))|refine sK ?_|refine sC (fun _=>?_) (fun _=>?_)|fail)
      exact ⟨_,_,_,[4],[.box 1 0],[p1],lbH (pi 0) p1,lbH (pi 11) p1,[pi 11],rfl,rfl,tH,⟨⟨2001,rfl⟩,trivial⟩,⟨⟨2001,rfl⟩,trivial⟩,zdF p1 _,rfl,rfl,by decide,tS,rfl,by rw [hl,hn];rfl⟩
     ·have hn:VP m i=0:=by rw [VP];simp_all
      repeat' (first|(refine shC ?_;first|refine qC c0 ?_|refine qC c1 ?_|refine qC (yC h67 11) ?_)|(refine zy ?_;first|(refine yx ([]) ([]) (lbH (pi 0) p1) [(1,.pv (pi i)),(2,.pv (.ptr (YR g m) 0)),(4,.box 1 0)] [] zq rfl rfl rfl ?_ tS rfl rfl rfl (fun _=>Qr co ho) ?_;· (repeat (first|exact zk|refine zi rfl ?_)))|(refine yx ([]) ([]) (lbH (pi 0) p1) [(1,.pv (pi i)),(2,.pv (.ptr (YR g m) 0)),(4,.box 1 0)] [] zq rfl rfl rfl ?_ tS rfl rfl rfl (fun _=>Qr ci hi) ?_;· (repeat (first|exact zk|refine zi rfl ?_)))|(refine yx ([]) ([]) (lbH (pi 0) p1) [(1,.pv (pi i)),(2,.pv (.ptr (YR g m) 0)),(4,.box 1 0)] [] zq rfl rfl rfl ?_ tS rfl rfl rfl (fun _=>Qr ct ht) ?_;· (repeat (first|exact zk|refine zi rfl ?_))))|refine sK ?_|refine sC (fun _=>?_) (fun _=>?_)|fail)
      exact ⟨_,_,_,[4],[.box 1 0],[p1],lbH (pi 0) p1,lbH (pi 0) p1,[pi 0],rfl,rfl,tH,⟨⟨2001,rfl⟩,trivial⟩,⟨⟨2001,rfl⟩,trivial⟩,ziU _ p1,rfl,rfl,by decide,tS,rfl,by rw [hl,hn];rfl⟩
    ·have hn:VP m i=0:=by rw [VP];simp_all
     repeat' (first|(refine shC ?_;first|refine qC c0 ?_|refine qC c1 ?_|refine qC (yC rfl 11) ?_)|(refine zy ?_;first|(refine yx ([]) ([]) (lbH (pi 0) p1) [(1,.pv (pi i)),(2,.pv (.ptr (YR g m) 0)),(4,.box 1 0)] [] zq rfl rfl rfl ?_ tS rfl rfl rfl (fun _=>Qr co ho) ?_;· (repeat (first|exact zk|refine zi rfl ?_)))|(refine yx ([]) ([]) (lbH (pi 0) p1) [(1,.pv (pi i)),(2,.pv (.ptr (YR g m) 0)),(4,.box 1 0)] [] zq rfl rfl rfl ?_ tS rfl rfl rfl (fun _=>Qr ci hi) ?_;· (repeat (first|exact zk|refine zi rfl ?_)))|(refine yx ([]) ([]) (lbH (pi 0) p1) [(1,.pv (pi i)),(2,.pv (.ptr (YR g m) 0)),(4,.box 1 0)] [] zq rfl rfl rfl ?_ tS rfl rfl rfl (fun _=>Qr ct ht) ?_;· (repeat (first|exact zk|refine zi rfl ?_))))|refine sK ?_|refine sC (fun _=>?_) (fun _=>?_)|fail)
     exact ⟨_,_,_,[4],[.box 1 0],[p1],lbH (pi 0) p1,lbH (pi 0) p1,[pi 0],rfl,rfl,tH,⟨⟨2001,rfl⟩,trivial⟩,⟨⟨2001,rfl⟩,trivial⟩,ziU _ p1,rfl,rfl,by decide,tS,rfl,by rw [hl,hn];rfl⟩
   ·have hl:XT g m i=tailV g m i:=by rw [XT,if_neg (by simpa using ho),if_neg (by simpa using hi),if_pos (by simpa using ht)]
    repeat' (first|refine zD 4 2 rfl rfl rfl ?_|refine zaE [] (lbH (pi 0) p1) zq rfl rfl rfl (by repeat (first|exact zk|refine zi rfl ?_)) rfl (zhi ct ht) ?_|(refine zy ?_;first|(refine yx ([]) ([]) (lbH (pi 0) p1) [(1,.pv (pi i)),(2,.pv (.ptr (YR g m) 0)),(4,.box 1 0)] [] zq rfl rfl rfl ?_ tS rfl rfl rfl (fun _=>Qr co ho) ?_;· (repeat (first|exact zk|refine zi rfl ?_)))|(refine yx ([]) ([]) (lbH (pi 0) p1) [(1,.pv (pi i)),(2,.pv (.ptr (YR g m) 0)),(4,.box 1 0)] [] zq rfl rfl rfl ?_ tS rfl rfl rfl (fun _=>Qr ci hi) ?_;· (repeat (first|exact zk|refine zi rfl ?_))))|refine sK ?_|refine sC (fun _=>?_) (fun _=>?_)|fail)
    exact ⟨_,_,_,[4],[.box 1 0],[p1],lbH (pi 0) p1,lbH (pi (tailV g m i)) p1,[pi (tailV g m i)],rfl,rfl,tH,⟨⟨2001,rfl⟩,trivial⟩,⟨⟨2001,rfl⟩,trivial⟩,zdF p1 _,rfl,rfl,by decide,tS,rfl,by rw [hl];rfl⟩
  ·have hl:XT g m i=Zn m i:=by rw [XT,if_neg (by simpa using ho),if_pos (by simpa using hi)]
   repeat' (first|refine zD 3 2 rfl rfl rfl ?_|refine zaE [] (lbH (pi 0) p1) zq rfl rfl rfl (by repeat (first|exact zk|refine zi rfl ?_)) rfl (zhi ci hi) ?_|(refine zy ?_;first|(refine yx ([]) ([]) (lbH (pi 0) p1) [(1,.pv (pi i)),(2,.pv (.ptr (YR g m) 0)),(4,.box 1 0)] [] zq rfl rfl rfl ?_ tS rfl rfl rfl (fun _=>Qr co ho) ?_;· (repeat (first|exact zk|refine zi rfl ?_))))|refine sK ?_|refine sC (fun _=>?_) (fun _=>?_)|fail)
   exact ⟨_,_,_,[4],[.box 1 0],[p1],lbH (pi 0) p1,lbH (pi (Zn m i)) p1,[pi (Zn m i)],rfl,rfl,tH,⟨⟨2001,rfl⟩,trivial⟩,⟨⟨2001,rfl⟩,trivial⟩,zdF p1 _,rfl,rfl,by decide,tS,rfl,by rw [hl];rfl⟩
 ·have hl:XT g m i=onV m i:=by rw [XT,if_pos (by simpa using ho)]
  repeat' (first|refine zD 2 2 rfl rfl rfl ?_|refine zaE [] (lbH (pi 0) p1) zq rfl rfl rfl (by repeat (first|exact zk|refine zi rfl ?_)) rfl (zhi co ho) ?_|refine sK ?_|refine sC (fun _=>?_) (fun _=>?_)|fail)
  exact ⟨_,_,_,[4],[.box 1 0],[p1],lbH (pi 0) p1,lbH (pi (onV m i)) p1,[pi (onV m i)],rfl,rfl,tH,⟨⟨2001,rfl⟩,trivial⟩,⟨⟨2001,rfl⟩,trivial⟩,zdF p1 _,rfl,rfl,by decide,tS,rfl,by rw [hl];rfl⟩
theorem zsq {p:Nat→Bool} {n k:Nat} (hk:k < n) (hp:p k=true) (hno:∀ j,j < k→p j=false):(List.range n).find? p=some k:=by
 rw [List.find?_range_eq_some]
 exact ⟨hp,by simpa using hk,fun j hj=>by simp [hno j hj]⟩
theorem zr8 {p:Nat→Bool} {n:Nat} (hno:∀ j,j < n→p j=false):(List.range n).find? p=none:=by
 rw [List.find?_eq_none]
 intro j hj
 simp [hno j (List.mem_range.1 hj)]
set_option maxHeartbeats 4000000 in
theorem zs3 (g:Img) (m:Me) (hm:ClOk m) (hlk:∀ i:Nat,i < m.code.length→ACall Tryz.prog 141 [YR g m,pi i] (pi (XT g m i))):ACall Tryz.prog 68 [YR g m] (.tup [pi (zcL g m).1,pi (zcL g m).2]):=by
 have cb:=zli g m hm
 have hmc:=hm.code
 refine zf zh Tryz.func68 rfl (by kernel_rfl) Tryz.ntmps68 (by simp) _ rfl (fun hw gB hgB=>?_)
 repeat' (first|refine sA ?_|refine sC (fun _=>?_) (fun _=>?_)|fail)
 refine zB (fun k:Nat=>[(1,.pv (.ptr (YR g m) 0)),(9,.pv (pi m.code.length)),(10,.pv (pi k))]) (fun _=>[]) (fun k=>k≤m.code.length∧∀ j,j < k→(XT g m (j:Nat) != 0)=false) (fun k=>m.code.length - k) 0 ⟨by omega,fun j hj=>absurd hj (Nat.not_lt_zero j)⟩ (tS) tH ?_
 rintro k ⟨hk,hno⟩
 by_cases hlt:k < m.code.length
 ·have cl:=hlk k hlt
  cases he:(XT g m (k:Nat) != 0)
  ·repeat' (first|(refine shC ?_;first|refine qC cl ?_)|refine sK ?_|refine sC (fun _=>?_) (fun _=>?_)|fail)
   exact ⟨k + 1,⟨hlt,fun j hj=>by
    by_cases e:j=k
    ·subst e;exact he
    ·exact hno j (by omega)⟩,tD,tS,tH⟩
  ·have ha:zcL g m=(((k:Nat):Int),XT g m k):=by rw [zcL,zsq hlt he hno]
   repeat' (first|(refine shC ?_;first|refine qC cl ?_)|refine sK ?_|refine sC (fun _=>?_) (fun _=>?_)|fail)
   exact retq rfl (by rw [ha];rfl)
 ·have ha:zcL g m=if zeb m then (0,0) else (0,12):=by rw [zcL,zr8 fun j hj=>hno j (by omega)]
  cases hb:zeb m
  ·rw [hb] at cb ha
   repeat' (first|(refine shC ?_;first|refine qC cb ?_)|refine sK ?_|refine sC (fun _=>?_) (fun _=>?_)|fail)
   exact retq rfl (by rw [ha];rfl)
  ·rw [hb] at cb ha
   repeat' (first|(refine shC ?_;first|refine qC cb ?_)|refine sK ?_|refine sC (fun _=>?_) (fun _=>?_)|fail)
   exact retq rfl (by rw [ha];rfl)
end Go.Cg
