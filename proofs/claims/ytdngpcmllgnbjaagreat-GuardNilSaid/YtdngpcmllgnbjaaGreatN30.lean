/- A part of the walks by abstract values: no statement of its own. -/
import Derived.Test.YtdngpcmllgnbjaaGreatN27
import Derived.Test.YtdngpcmllgnbjaaGreatN26
set_option linter.unusedVariables false
set_option linter.unusedSimpArgs false
namespace Go.Cg
open Go.Proofs
set_option maxHeartbeats 20000000
theorem zjV (c:List Pt) (at_:Int):qK c at_≤c.length:=by
 unfold qK
 induction c with
 | nil=>simp
 | cons x c ih=>rw [List.takeWhile_cons];split <;> simp;omega
theorem zfS (x:Pt) (c:List Pt) (at_:Int):qK (x::c) at_=if x.p==1&&x.f==at_ then qK c at_ + 1 else 0:=by
 unfold qK
 rw [List.takeWhile_cons];split <;> simp
theorem zh1 (c:List Pt) (at_:Int) (hl:c.length≤1000):ACall Tryz.prog 319 [pts c,pi at_] (pi (qK c at_)):=by
 refine zf zh Tryz.func319 rfl (by kernel_rfl) Tryz.ntmps319 (by simp) _ rfl (fun hw gB hgB=>?_)
 repeat' (first|refine sA ?_|refine sC (fun _=>?_) (fun _=>?_)|fail)
 refine zA (fun k:Nat=>[(0,.pv (pts c)),(1,.pv (pi at_)),(5,.pv (pi k))]) (fun _=>[]) (fun k=>k≤c.length∧qK c at_=k + qK (c.drop k) at_) (fun k=>c.length - k) 0 ⟨by omega,by simp⟩ (tS) tH ?_
 rintro k ⟨hk,hr⟩
 by_cases hlt:k < c.length
 ·have he:=yI (f:=zU) hlt
  have hd:decide (((k:Nat):Int) < (((c.map zU).length:Nat):Int))=true:=decide_eq_true (by simp;omega)
  rw [drop_cons hlt,zfS] at hr
  generalize c[k]=x at he hr
  cases h1:(x.p==1)
  ·rw [h1] at hr
   repeat' (first|(refine shX ?_;first|refine qX he ?_)|refine sK ?_|refine sC (fun _=>?_) (fun _=>?_)|fail)
   all_goals (refine retq rfl ?_;simp [zl,hr])
  ·cases h2:(x.f==at_)
   ·rw [h1,h2] at hr
    repeat' (first|(refine shX ?_;first|refine qX he ?_)|refine sK ?_|refine sC (fun _=>?_) (fun _=>?_)|fail)
    all_goals (refine retq rfl ?_;simp [zl,hr])
   ·rw [h1,h2] at hr
    repeat' (first|(refine shX ?_;first|refine qX he ?_)|refine sK ?_|refine sC (fun _=>?_) (fun _=>?_)|fail)
    all_goals exact ⟨k + 1,⟨hlt,by rw [hr];simp;omega⟩,tD,tS,tH⟩
 ·have hd:decide (((k:Nat):Int) < (((c.map zU).length:Nat):Int))=false:=decide_eq_false (by simp;omega)
  rw [drop_end (by omega)] at hr
  repeat' (first|refine sK ?_|refine sC (fun _=>?_) (fun _=>?_)|fail)
  have hz:qK c at_=k:=hr
  all_goals (refine retq rfl ?_;rw [hz];rfl)
theorem zkf (x y:Pt):ACall Tryz.prog 374 [zU x,zU y] (pb (zpX x y)):=by
 refine zf zh Tryz.func374 rfl (by kernel_rfl) Tryz.ntmps374 (by simp) _ rfl (fun hw gB hgB=>?_)
 repeat' (first|refine sA ?_|refine sC (fun _=>?_) (fun _=>?_)|fail)
 exact retq rfl rfl
theorem zgC:∀ {a b:List Pt},a.length≠b.length→Vt a b=false
 | [],[],h=>by simp at h
 | [],_::_,_=>rfl
 | _::_,[],_=>rfl
 | x::a,y::b,h=>by rw [Vt,zgC (a:=a) (b:=b) (by simpa using h),Bool.and_false]
theorem zkg (a b:List Pt) (hl:a.length≤1000):ACall Tryz.prog 373 [pts a,pts b,.fn (.func 374) [] []] (pb (Vt a b)):=by
 refine zf zh Tryz.func373 rfl (by kernel_rfl) Tryz.ntmps373 (by simp) _ rfl (fun hw gB hgB=>?_)
 by_cases hlen:a.length=b.length
 ·have hc:((((a.map zU).length:Nat):Int) != (((b.map zU).length:Nat):Int))=false:=by simp [hlen]
  repeat' (first|refine sA ?_|refine sC (fun _=>?_) (fun _=>?_)|fail)
  refine zA (fun k:Nat=>[(1,.pv (pts b)),(2,.pv (.fn (.func 374) [] [])),(15,.pv (pts a)),(16,.pv (pi a.length)),(17,.pv (pi k))]) (fun _=>[]) (fun k=>k≤a.length∧Vt a b=Vt (a.drop k) (b.drop k)) (fun k=>a.length - k) 0 ⟨by omega,rfl⟩ (tS) tH ?_
  rintro k ⟨hk,hr⟩
  by_cases hlt:k < a.length
  ·have he:=yI (f:=zU) hlt
   have he2:=yI (f:=zU) (show k < b.length by omega)
   rw [drop_cons hlt,drop_cons (show k < b.length by omega),Vt] at hr
   generalize a[k]=x at he hr
   generalize b[k]=y at he2 hr
   have cs:=zkf x y
   cases hs:zpX x y
   ·rw [hs] at cs hr
    repeat' (first|(refine shC ?_;first|refine qV (cs) ?_)|(refine shX ?_;first|refine qX he ?_|refine qX he2 ?_)|refine sK ?_|refine sC (fun _=>?_) (fun _=>?_)|fail)
    all_goals (refine retq rfl ?_;simp [zl,hr])
   ·rw [hs] at cs hr
    repeat' (first|(refine shC ?_;first|refine qV (cs) ?_)|(refine shX ?_;first|refine qX he ?_|refine qX he2 ?_)|refine sK ?_|refine sC (fun _=>?_) (fun _=>?_)|fail)
    exact ⟨k + 1,⟨hlt,hr⟩,tD,tS,tH⟩
  ·rw [drop_end (by omega),drop_end (by omega)] at hr
   repeat' (first|refine sK ?_|refine sC (fun _=>?_) (fun _=>?_)|fail)
   all_goals (refine retq rfl ?_;rw [hr];rfl)
 ·have hc:((((a.map zU).length:Nat):Int) != (((b.map zU).length:Nat):Int))=true:=by simp;omega
  have hr:=zgC hlen
  repeat' (first|refine sA ?_|refine sC (fun _=>?_) (fun _=>?_)|fail)
  all_goals (refine retq rfl ?_;rw [hr];rfl)
theorem zm1 (a b:List Pt) (hl:a.length≤1000):ACall Tryz.prog 320 [pts a,pts b] (pb (Vt a b)):=by
 have c:=zkg a b hl
 refine zf zh Tryz.func320 rfl (by kernel_rfl) Tryz.ntmps320 (by simp) _ rfl (fun hw gB hgB=>?_)
 repeat' (first|(refine shC ?_;first|refine qC c ?_)|refine sA ?_|refine sC (fun _=>?_) (fun _=>?_)|fail)
 exact retq rfl rfl
theorem zoD {b a:List Pt} {to:Int} {k:Nat} (hk:k≤qK b to) (h:Vt (b.drop k) a=true):zor b to a=true:=by
 rw [zor,List.any_eq_true]
 exact ⟨k,List.mem_range.2 (by omega),h⟩
theorem zpu {b a:List Pt} {to:Int} (h:∀ j,j < qK b to + 1→Vt (b.drop j) a=false):zor b to a=false:=by
 rw [zor,List.any_eq_false]
 intro k hk
 rw [h k (List.mem_range.1 hk)];simp
set_option maxHeartbeats 20000000
theorem zc3 {l:List Cl} {at_:Int} (hl:l.length≤6):(VQ l at_).length≤18:=by have:=zld l at_;omega
theorem zkN (l:List Cl) (at_:Int) (hl:l.length≤6) (hs:∀ x∈zcN at_ l,SmP x):ACall Tryz.prog 264 [cls l,pi at_] (.slc 2 ((VQ l at_).map fun x=>.agg [pi x.c,pi x.p]) false):=by
 have cc:=zbF l at_ hl hs
 have hcl:=zc3 (at_:=at_) hl
 obtain ⟨c,hc⟩:∃ c,c=VQ l at_:=⟨_,rfl⟩
 rw [←hc] at cc hcl ⊢
 refine zf zh Tryz.func264 rfl (by kernel_rfl) Tryz.ntmps264 (by simp) _ rfl (fun hw gB hgB=>?_)
 repeat' (first|refine qZ (t:=5) 20 327 2 (by decide) rfl rfl ?_|(refine shC ?_;first|refine qC cc ?_)|refine sA ?_|refine sC (fun _=>?_) (fun _=>?_)|fail)
 refine zA (fun k:Nat=>[(5,.own 20),(10,.pv (pts c)),(11,.pv (pi c.length)),(12,.pv (pi k))]) (fun k=>[(20,.row 327 2 ((c.take k).map fun x=>.agg [pi x.c,pi x.p]))]) (fun k=>k≤c.length) (fun k=>c.length - k) 0 (by omega) (tS) ⟨zi rfl zk,rfl⟩ ?_
 rintro k hk
 by_cases hlt:k < c.length
 ·have he:=yI (f:=zU) hlt
  have hst:(c.take (k + 1)).map (fun x=>PV.agg [pi x.c,pi x.p])=(c.take k).map (fun x=>PV.agg [pi x.c,pi x.p])++[.agg [pi c[k].c,pi c[k].p]]:=by rw [List.take_succ_eq_append_getElem hlt,List.map_append];rfl
  generalize c[k]=x at he hst
  have htl:(c.take k).length≤18:=by simp;omega
  repeat' (first|(refine shX ?_;first|refine qX he ?_)|(refine zI ?_;first|refine yg zh rfl rfl rfl rfl rfl rfl rfl (by show _ * 16≤_;simp;omega) (by simp;omega) rfl rfl ?_)|refine sK ?_|refine sC (fun _=>?_) (fun _=>?_)|fail)
  exact ⟨k + 1,hlt,tD,tS,⟨zi (by rw [hst];rfl) zk,rfl⟩⟩
 ·have hk2:k=c.length:=by omega
  subst hk2
  repeat' (first|refine sK ?_|refine sC (fun _=>?_) (fun _=>?_)|fail)
  exact retq rfl (by rw [List.take_length];rfl)
theorem zl1 (l:List Cl) (i to:Int) (hl:l.length≤6) (hs:∀ x∈zcN i l,SmP x) (hs2:∀ x∈zcN to l,SmP x):ACall Tryz.prog 305 [cls l,pi i,pi to] (pb (zpA l i to)):=by
 have c1:=zbF l i hl hs
 have c2:=zbF l to hl hs2
 have ha:=zc3 (at_:=i) hl
 have hb:=zc3 (at_:=to) hl
 rw [zpA]
 obtain ⟨a,haa⟩:∃ a,a=VQ l i:=⟨_,rfl⟩
 obtain ⟨b,hbb⟩:∃ b,b=VQ l to:=⟨_,rfl⟩
 rw [←haa] at c1 ha ⊢
 rw [←hbb] at c2 hb ⊢
 have ce:=zh1 b to (by omega)
 have hel:=zjV b to
 refine zf zh Tryz.func305 rfl (by kernel_rfl) Tryz.ntmps305 (by simp) _ rfl (fun hw gB hgB=>?_)
 repeat' (first|(refine shC ?_;first|refine qC c1 ?_|refine qC c2 ?_)|refine sA ?_|refine sC (fun _=>?_) (fun _=>?_)|fail)
 refine zA (fun k:Nat=>[(2,.pv (pi to)),(7,.pv (pts a)),(8,.pv (pts b)),(9,.pv (pi k))]) (fun _=>[]) (fun k=>k≤qK b to + 1∧∀ j,j < k→Vt (b.drop j) a=false) (fun k=>qK b to + 1 - k) 0 ⟨by omega,fun j hj=>absurd hj (Nat.not_lt_zero j)⟩ (tS) tH ?_
 rintro k ⟨hk,hno⟩
 by_cases hlt:k < qK b to + 1
 ·have hd:decide (((k:Nat):Int)≤((qK b to:Nat):Int))=true:=decide_eq_true (by omega)
  have cs:=zm1 ((b.take b.length).drop k) a (by simp;omega)
  have ht:(b.take b.length).drop k=b.drop k:=by rw [List.take_length]
  cases hsm:Vt (b.drop k) a
  ·rw [ht,hsm,←ht] at cs
   repeat' (first|refine zq rfl (YL (xs:=b) (f:=zU) k b.length zh rfl rfl rfl rfl rfl rfl (by simp [YU]) (by omega) (by omega)) rfl rfl ?_|(refine shC ?_;first|refine qC ce ?_|refine qC cs ?_)|refine sK ?_|refine sC (fun _=>?_) (fun _=>?_)|fail)
   exact ⟨k + 1,⟨hlt,fun j hj=>by
    by_cases e:j=k
    ·subst e;exact hsm
    ·exact hno j (by omega)⟩,tD,tS,tH⟩
  ·rw [ht,hsm,←ht] at cs
   repeat' (first|refine zq rfl (YL (xs:=b) (f:=zU) k b.length zh rfl rfl rfl rfl rfl rfl (by simp [YU]) (by omega) (by omega)) rfl rfl ?_|(refine shC ?_;first|refine qC ce ?_|refine qC cs ?_)|refine sK ?_|refine sC (fun _=>?_) (fun _=>?_)|fail)
   exact retq rfl (by rw [zoD (by omega) hsm];rfl)
 ·have hd:decide (((k:Nat):Int)≤((qK b to:Nat):Int))=false:=decide_eq_false (by omega)
  repeat' (first|(refine shC ?_;first|refine qC ce ?_)|refine sK ?_|refine sC (fun _=>?_) (fun _=>?_)|fail)
  exact retq rfl (by rw [zpu fun j hj=>hno j (by omega)];rfl)
end Go.Cg
