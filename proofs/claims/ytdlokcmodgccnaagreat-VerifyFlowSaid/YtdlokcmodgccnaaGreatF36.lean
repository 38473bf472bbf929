/- A part of the walks by abstract values: no statement of its own. -/
import Derived.Test.YtdlokcmodgccnaaGreatF27
import Derived.Test.YtdlokcmodgccnaaGreatF30
set_option linter.unusedVariables false
set_option linter.unusedSimpArgs false
namespace Go.Cg
open Go.Proofs
set_option maxHeartbeats 20000000
abbrev lbH (e:PV) (p1:Value):HEnv:=[(1,.cell (.pv e)),(2001,.pin (.box 1 0) p1)]
theorem zd9 (p1:Value) (e:Int):DCall Tryz.prog 50 (lbH (pi 0) p1) [.box 1 0] (.panicking [{ v:=zhr e,recovered:=false }]) (.panicking [{ v:=zhr e,recovered:=true }]) (lbH (pi e) p1):=by
 refine QY Tryz.func50 rfl (by kernel_rfl) rfl (fun g K ρ w vs hds hf hv c₀ cs hu=>?_)
 obtain ⟨v1,rfl⟩:=List.length_eq_one_iff.1 hv.1
 have r1:=hv.2 0 _ v1 rfl rfl
 refine wpS_seq ?_
 refine wpS_region ?_
 have h1:=VX (P:=Tryz.prog) (xt:=20) (v:=.int .i64 e) (w:=w) Tryz.underlying93
 simp [wpOpsS,go_sem,recoverD,hu,Tryz.ntmps50,Exit.thenS,zhr,h1]
 refine zeV (n:=10) (g:=g) (env:=[(0,.box 1 0),(1,.pv (pi e)),(2,.pv (pb true))]) (H:=lbH (pi 0) p1) (QQ:=zp3 (lbH (pi e) p1)) ?_
  ⟨by simp,by rw [hds],K,ρ,hf,ZL (v:=v1) (by simp) r1 (ZL (v:=.int .i64 e) (by simp) (.pv _ _ (.base _ rfl)) (ZL (v:=.bool true) (by simp) (.pv _ _ (.base _ rfl)) za1))⟩
  (fun ex a' w' env' H' hi hq=>⟨hq.1,hi.defers.trans hds,rfl,zeR hi hq.2⟩)
 repeat' (first|refine sK ?_|refine sC (fun _=>?_) (fun _=>?_)|fail)
 exact ⟨.inl rfl,tH⟩
theorem zjd (e:PV) (p1:Value):DCall Tryz.prog 50 (lbH e p1) [.box 1 0] .returning .returning (lbH e p1):=by
 refine QY Tryz.func50 rfl (by kernel_rfl) rfl (fun g K ρ w vs hds hf hv c₀ cs hu=>?_)
 obtain ⟨v1,rfl⟩:=List.length_eq_one_iff.1 hv.1
 refine wpS_seq ?_
 refine wpS_region ?_
 have hz:=zh9 (P:=Tryz.prog) (w:=w) (z:=.int .i64 0) zh (ty:=93) rfl
 have h1:=WW (P:=Tryz.prog) (xt:=20) (w:=w) Tryz.underlying93 hz
 simp [wpOpsS,go_sem,recoverD,hu,Tryz.ntmps50,Exit.thenS,h1]
 refine zeV (n:=10) (g:=g) (env:=[(2,.pv (pb false))]) (H:=lbH e p1) (QQ:=zp3 (lbH e p1)) ?_
  ⟨by simp,by rw [hds],K,ρ,hf,ZL (v:=.bool false) (by simp) (.pv _ _ (.base _ rfl)) za1⟩
  (fun ex a' w' env' H' hi hq=>⟨hq.1,hi.defers.trans hds,by cases c₀;simp_all,zeR hi hq.2⟩)
 repeat' (first|refine sK ?_|refine sC (fun _=>?_) (fun _=>?_)|fail)
 exact ⟨.inl rfl,tH⟩
set_option maxHeartbeats 4000000 in
theorem zqd (g:Img) (m:Me) (i:Int) (h0:0≤i) (h1:i≤1000) (co:Xp Tryz.prog 51 [.pv (Qs g m),.pv (pi i)] [] (zef (onV m i)))
  (ci:Xp Tryz.prog 52 [.pv (Qs g m),.pv (pi i)] [] (zef (yM m i))) (ct:Xp Tryz.prog 53 [.pv (Qs g m),.pv (pi i)] [] (zef (tailV g m i))) :
  ACall Tryz.prog 27 [Qs g m,pi i] (pi (Qu g m i)):=by
 have hwr:IntKind.i64.wrap (i - 1)=i - 1:=wrap_in (by omega) (by omega)
 have c0:=zc1 g m i
 have c1:ACall Tryz.prog 55 [Qs g m,pi (IntKind.i64.wrap (i - 1))] (pi (opV m (i - 1))):=by rw [hwr];exact zc1 g m (i - 1)
 refine zjk zh Tryz.func27 rfl (by kernel_rfl) Tryz.ntmps27 (by simp) _ rfl (fun hw=>?_)
 refine zay (zal fun gB=>?_)
 repeat' (first|refine Zh zh 1 rfl rfl rfl rfl rfl rfl rfl ?_|refine sK ?_|refine sC (fun _=>?_) (fun _=>?_)|fail)
 refine zgI 1 2001 rfl rfl fun p1=>?_
 refine zay (zeY (k:=1) rfl rfl rfl rfl rfl fun gB=>?_)
 repeat' (first|refine sK ?_|refine sC (fun _=>?_) (fun _=>?_)|fail)
 refine ⟨_,_,[p1],rfl,⟨⟨2001,rfl⟩,trivial⟩,?_⟩
 refine zal fun gB=>?_
 by_cases ho:onV m i=0
 ·by_cases hi:yM m i=0
  ·by_cases ht:tailV g m i=0
   ·have hl:Qu g m i=zas m i:=by rw [Qu,if_neg (by simpa using ho),if_neg (by simpa using hi),if_neg (by simpa using ht)]
    cases h68:(opV m i != 68)
    ·cases h67:(opV m (i - 1)==67)
     ·have hn:zas m i=11:=by rw [zas];simp_all
      repeat' (first|refine zD 5 11 rfl rfl rfl ?_|refine zaY [] (lbH (pi 0) p1) zy rfl rfl rfl (by repeat (first|exact zl|refine zn rfl ?_)) rfl (yH h67 11) ?_|(refine shC ?_;first|refine qC c0 ?_|refine qC c1 ?_)|(refine zL ?_;first|(refine yA ([]) ([]) (lbH (pi 0) p1) [(1,.pv (pi i)),(2,.pv (.ptr (Qs g m) 0)),(4,.box 1 0)] [] zy rfl rfl rfl ?_ tS rfl rfl rfl (fun _=>QK co ho) ?_;· (repeat (first|exact zl|refine zn rfl ?_)))|(refine yA ([]) ([]) (lbH (pi 0) p1) [(1,.pv (pi i)),(2,.pv (.ptr (Qs g m) 0)),(4,.box 1 0)] [] zy rfl rfl rfl ?_ tS rfl rfl rfl (fun _=>QK ci hi) ?_;· (repeat (first|exact zl|refine zn rfl ?_)))|(refine yA ([]) ([]) (lbH (pi 0) p1) [(1,.pv (pi i)),(2,.pv (.ptr (Qs g m) 0)),(4,.box 1 0)] [] zy rfl rfl rfl ?_ tS rfl rfl rfl (fun _=>QK ct ht) ?_;· (repeat (first|exact zl|refine zn rfl ?_))))|refine sK ?_|refine sC (fun _=>?_) (fun _=>?_)|fail)
      exact ⟨_,_,_,[4],[.box 1 0],[p1],lbH (pi 0) p1,lbH (pi 11) p1,[pi 11],rfl,rfl,tH,⟨⟨2001,rfl⟩,trivial⟩,⟨⟨2001,rfl⟩,trivial⟩,zd9 p1 _,rfl,rfl,by decide,tS,rfl,by rw [hl,hn];rfl⟩
     ·have hn:zas m i=0:=by rw [zas];simp_all
      repeat' (first|(refine shC ?_;first|refine qC c0 ?_|refine qC c1 ?_|refine qC (yu h67 11) ?_)|(refine zL ?_;first|(refine yA ([]) ([]) (lbH (pi 0) p1) [(1,.pv (pi i)),(2,.pv (.ptr (Qs g m) 0)),(4,.box 1 0)] [] zy rfl rfl rfl ?_ tS rfl rfl rfl (fun _=>QK co ho) ?_;· (repeat (first|exact zl|refine zn rfl ?_)))|(refine yA ([]) ([]) (lbH (pi 0) p1) [(1,.pv (pi i)),(2,.pv (.ptr (Qs g m) 0)),(4,.box 1 0)] [] zy rfl rfl rfl ?_ tS rfl rfl rfl (fun _=>QK ci hi) ?_;· (repeat (first|exact zl|refine zn rfl ?_)))|(refine yA ([]) ([]) (lbH (pi 0) p1) [(1,.pv (pi i)),(2,.pv (.ptr (Qs g m) 0)),(4,.box 1 0)] [] zy rfl rfl rfl ?_ tS rfl rfl rfl (fun _=>QK ct ht) ?_;· (repeat (first|exact zl|refine zn rfl ?_))))|refine sK ?_|refine sC (fun _=>?_) (fun _=>?_)|fail)
      exact ⟨_,_,_,[4],[.box 1 0],[p1],lbH (pi 0) p1,lbH (pi 0) p1,[pi 0],rfl,rfl,tH,⟨⟨2001,rfl⟩,trivial⟩,⟨⟨2001,rfl⟩,trivial⟩,zjd _ p1,rfl,rfl,by decide,tS,rfl,by rw [hl,hn];rfl⟩
    ·have hn:zas m i=0:=by rw [zas];simp_all
     repeat' (first|(refine shC ?_;first|refine qC c0 ?_|refine qC c1 ?_|refine qC (yu rfl 11) ?_)|(refine zL ?_;first|(refine yA ([]) ([]) (lbH (pi 0) p1) [(1,.pv (pi i)),(2,.pv (.ptr (Qs g m) 0)),(4,.box 1 0)] [] zy rfl rfl rfl ?_ tS rfl rfl rfl (fun _=>QK co ho) ?_;· (repeat (first|exact zl|refine zn rfl ?_)))|(refine yA ([]) ([]) (lbH (pi 0) p1) [(1,.pv (pi i)),(2,.pv (.ptr (Qs g m) 0)),(4,.box 1 0)] [] zy rfl rfl rfl ?_ tS rfl rfl rfl (fun _=>QK ci hi) ?_;· (repeat (first|exact zl|refine zn rfl ?_)))|(refine yA ([]) ([]) (lbH (pi 0) p1) [(1,.pv (pi i)),(2,.pv (.ptr (Qs g m) 0)),(4,.box 1 0)] [] zy rfl rfl rfl ?_ tS rfl rfl rfl (fun _=>QK ct ht) ?_;· (repeat (first|exact zl|refine zn rfl ?_))))|refine sK ?_|refine sC (fun _=>?_) (fun _=>?_)|fail)
     exact ⟨_,_,_,[4],[.box 1 0],[p1],lbH (pi 0) p1,lbH (pi 0) p1,[pi 0],rfl,rfl,tH,⟨⟨2001,rfl⟩,trivial⟩,⟨⟨2001,rfl⟩,trivial⟩,zjd _ p1,rfl,rfl,by decide,tS,rfl,by rw [hl,hn];rfl⟩
   ·have hl:Qu g m i=tailV g m i:=by rw [Qu,if_neg (by simpa using ho),if_neg (by simpa using hi),if_pos (by simpa using ht)]
    repeat' (first|refine zD 4 2 rfl rfl rfl ?_|refine zaY [] (lbH (pi 0) p1) zy rfl rfl rfl (by repeat (first|exact zl|refine zn rfl ?_)) rfl (zha ct ht) ?_|(refine zL ?_;first|(refine yA ([]) ([]) (lbH (pi 0) p1) [(1,.pv (pi i)),(2,.pv (.ptr (Qs g m) 0)),(4,.box 1 0)] [] zy rfl rfl rfl ?_ tS rfl rfl rfl (fun _=>QK co ho) ?_;· (repeat (first|exact zl|refine zn rfl ?_)))|(refine yA ([]) ([]) (lbH (pi 0) p1) [(1,.pv (pi i)),(2,.pv (.ptr (Qs g m) 0)),(4,.box 1 0)] [] zy rfl rfl rfl ?_ tS rfl rfl rfl (fun _=>QK ci hi) ?_;· (repeat (first|exact zl|refine zn rfl ?_))))|refine sK ?_|refine sC (fun _=>?_) (fun _=>?_)|fail)
    exact ⟨_,_,_,[4],[.box 1 0],[p1],lbH (pi 0) p1,lbH (pi (tailV g m i)) p1,[pi (tailV g m i)],rfl,rfl,tH,⟨⟨2001,rfl⟩,trivial⟩,⟨⟨2001,rfl⟩,trivial⟩,zd9 p1 _,rfl,rfl,by decide,tS,rfl,by rw [hl];rfl⟩
  ·have hl:Qu g m i=yM m i:=by rw [Qu,if_neg (by simpa using ho),if_pos (by simpa using hi)]
   repeat' (first|refine zD 3 2 rfl rfl rfl ?_|refine zaY [] (lbH (pi 0) p1) zy rfl rfl rfl (by repeat (first|exact zl|refine zn rfl ?_)) rfl (zha ci hi) ?_|(refine zL ?_;first|(refine yA ([]) ([]) (lbH (pi 0) p1) [(1,.pv (pi i)),(2,.pv (.ptr (Qs g m) 0)),(4,.box 1 0)] [] zy rfl rfl rfl ?_ tS rfl rfl rfl (fun _=>QK co ho) ?_;· (repeat (first|exact zl|refine zn rfl ?_))))|refine sK ?_|refine sC (fun _=>?_) (fun _=>?_)|fail)
   exact ⟨_,_,_,[4],[.box 1 0],[p1],lbH (pi 0) p1,lbH (pi (yM m i)) p1,[pi (yM m i)],rfl,rfl,tH,⟨⟨2001,rfl⟩,trivial⟩,⟨⟨2001,rfl⟩,trivial⟩,zd9 p1 _,rfl,rfl,by decide,tS,rfl,by rw [hl];rfl⟩
 ·have hl:Qu g m i=onV m i:=by rw [Qu,if_pos (by simpa using ho)]
  repeat' (first|refine zD 2 2 rfl rfl rfl ?_|refine zaY [] (lbH (pi 0) p1) zy rfl rfl rfl (by repeat (first|exact zl|refine zn rfl ?_)) rfl (zha co ho) ?_|refine sK ?_|refine sC (fun _=>?_) (fun _=>?_)|fail)
  exact ⟨_,_,_,[4],[.box 1 0],[p1],lbH (pi 0) p1,lbH (pi (onV m i)) p1,[pi (onV m i)],rfl,rfl,tH,⟨⟨2001,rfl⟩,trivial⟩,⟨⟨2001,rfl⟩,trivial⟩,zd9 p1 _,rfl,rfl,by decide,tS,rfl,by rw [hl];rfl⟩
theorem zlZ {p:Nat→Bool} {n k:Nat} (hk:k < n) (hp:p k=true) (hno:∀ j,j < k→p j=false):(List.range n).find? p=some k:=by
 rw [List.find?_range_eq_some]
 exact ⟨hp,by simpa using hk,fun j hj=>by simp [hno j hj]⟩
theorem zlX {p:Nat→Bool} {n:Nat} (hno:∀ j,j < n→p j=false):(List.range n).find? p=none:=by
 rw [List.find?_eq_none]
 intro j hj
 simp [hno j (List.mem_range.1 hj)]
set_option maxHeartbeats 4000000 in
theorem zrt (g:Img) (m:Me) (hm:ClOk m) (hlk:∀ i:Nat,i < m.code.length→ACall Tryz.prog 27 [Qs g m,pi i] (pi (Qu g m i))):ACall Tryz.prog 20 [Qs g m] (.tup [pi (Vm g m).1,pi (Vm g m).2]):=by
 have cb:=zmp g m hm
 have hmc:=hm.code
 refine zf zh Tryz.func20 rfl (by kernel_rfl) Tryz.ntmps20 (by simp) _ rfl (fun hw gB hgB=>?_)
 repeat' (first|refine sA ?_|refine sC (fun _=>?_) (fun _=>?_)|fail)
 refine zo (fun k:Nat=>[(1,.pv (.ptr (Qs g m) 0)),(9,.pv (pi m.code.length)),(10,.pv (pi k))]) (fun _=>[]) (fun k=>k≤m.code.length∧∀ j,j < k→(Qu g m (j:Nat) != 0)=false) (fun k=>m.code.length - k) 0 ⟨by omega,fun j hj=>absurd hj (Nat.not_lt_zero j)⟩ (tS) tH ?_
 rintro k ⟨hk,hno⟩
 by_cases hlt:k < m.code.length
 ·have cl:=hlk k hlt
  cases he:(Qu g m (k:Nat) != 0)
  ·repeat' (first|(refine shC ?_;first|refine qC cl ?_)|refine sK ?_|refine sC (fun _=>?_) (fun _=>?_)|fail)
   exact ⟨k + 1,⟨hlt,fun j hj=>by
    by_cases e:j=k
    ·subst e;exact he
    ·exact hno j (by omega)⟩,tD,tS,tH⟩
  ·have ha:Vm g m=(((k:Nat):Int),Qu g m k):=by rw [Vm,zlZ hlt he hno]
   repeat' (first|(refine shC ?_;first|refine qC cl ?_)|refine sK ?_|refine sC (fun _=>?_) (fun _=>?_)|fail)
   exact retq rfl (by rw [ha];rfl)
 ·have ha:Vm g m=if zbL m then (0,0) else (0,12):=by rw [Vm,zlX fun j hj=>hno j (by omega)]
  cases hb:zbL m
  ·rw [hb] at cb ha
   repeat' (first|(refine shC ?_;first|refine qC cb ?_)|refine sK ?_|refine sC (fun _=>?_) (fun _=>?_)|fail)
   exact retq rfl (by rw [ha];rfl)
  ·rw [hb] at cb ha
   repeat' (first|(refine shC ?_;first|refine qC cb ?_)|refine sK ?_|refine sC (fun _=>?_) (fun _=>?_)|fail)
   exact retq rfl (by rw [ha];rfl)
end Go.Cg
