/- A part of the walks by abstract values: no statement of its own. -/
import Derived.Test.YtdlokcmodgccnaaGreatF24
import Derived.Test.YtdlokcmodgccnaaGreatF26
import Derived.Test.YtdlokcmodgccnaaGreatF19
import Derived.Test.YtdlokcmodgccnaaGreatF21
import Derived.Test.YtdlokcmodgccnaaGreatF23
set_option linter.unusedVariables false
set_option linter.unusedSimpArgs false
namespace Go.Cg
open Go.Proofs
set_option maxHeartbeats 20000000
theorem zge (c:List Pt) (at_:Int):yD c at_≤c.length:=by
 unfold yD
 induction c with
 | nil=>simp
 | cons x c ih=>rw [List.takeWhile_cons];split <;> simp;omega
theorem ziB (x:Pt) (c:List Pt) (at_:Int):yD (x::c) at_=if x.p==1&&x.f==at_ then yD c at_ + 1 else 0:=by
 unfold yD
 rw [List.takeWhile_cons];split <;> simp
theorem zeq (c:List Pt) (at_:Int) (hl:c.length≤1000):ACall Tryz.prog 136 [pts c,pi at_] (pi (yD c at_)):=by
 refine zf zh Tryz.func136 rfl (by kernel_rfl) Tryz.ntmps136 (by simp) _ rfl (fun hw gB hgB=>?_)
 repeat' (first|refine sA ?_|refine sC (fun _=>?_) (fun _=>?_)|fail)
 refine zo (fun k:Nat=>[(0,.pv (pts c)),(1,.pv (pi at_)),(5,.pv (pi k))]) (fun _=>[]) (fun k=>k≤c.length∧yD c at_=k + yD (c.drop k) at_) (fun k=>c.length - k) 0 ⟨by omega,by simp⟩ (tS) tH ?_
 rintro k ⟨hk,hr⟩
 by_cases hlt:k < c.length
 ·have he:=zA (f:=zZ) hlt
  have hd:decide (((k:Nat):Int) < (((c.map zZ).length:Nat):Int))=true:=decide_eq_true (by simp;omega)
  rw [drop_cons hlt,ziB] at hr
  generalize c[k]=x at he hr
  cases h1:(x.p==1)
  ·rw [h1] at hr
   repeat' (first|(refine shX ?_;first|refine qX he ?_)|refine sK ?_|refine sC (fun _=>?_) (fun _=>?_)|fail)
   all_goals (refine retq rfl ?_;simp [zi,hr])
  ·cases h2:(x.f==at_)
   ·rw [h1,h2] at hr
    repeat' (first|(refine shX ?_;first|refine qX he ?_)|refine sK ?_|refine sC (fun _=>?_) (fun _=>?_)|fail)
    all_goals (refine retq rfl ?_;simp [zi,hr])
   ·rw [h1,h2] at hr
    repeat' (first|(refine shX ?_;first|refine qX he ?_)|refine sK ?_|refine sC (fun _=>?_) (fun _=>?_)|fail)
    all_goals exact ⟨k + 1,⟨hlt,by rw [hr];simp;omega⟩,tD,tS,tH⟩
 ·have hd:decide (((k:Nat):Int) < (((c.map zZ).length:Nat):Int))=false:=decide_eq_false (by simp;omega)
  rw [drop_end (by omega)] at hr
  repeat' (first|refine sK ?_|refine sC (fun _=>?_) (fun _=>?_)|fail)
  have hz:yD c at_=k:=hr
  all_goals (refine retq rfl ?_;rw [hz];rfl)
theorem zoc (x y:Pt):ACall Tryz.prog 185 [zZ x,zZ y] (pb (zjM x y)):=by
 refine zf zh Tryz.func185 rfl (by kernel_rfl) Tryz.ntmps185 (by simp) _ rfl (fun hw gB hgB=>?_)
 repeat' (first|refine sA ?_|refine sC (fun _=>?_) (fun _=>?_)|fail)
 exact retq rfl rfl
theorem zeO:∀ {a b:List Pt},a.length≠b.length→Yj a b=false
 | [],[],h=>by simp at h
 | [],_::_,_=>rfl
 | _::_,[],_=>rfl
 | x::a,y::b,h=>by rw [Yj,zeO (a:=a) (b:=b) (by simpa using h),Bool.and_false]
theorem znU (a b:List Pt) (hl:a.length≤1000):ACall Tryz.prog 184 [pts a,pts b,.fn (.func 185) [] []] (pb (Yj a b)):=by
 refine zf zh Tryz.func184 rfl (by kernel_rfl) Tryz.ntmps184 (by simp) _ rfl (fun hw gB hgB=>?_)
 by_cases hlen:a.length=b.length
 ·have hc:((((a.map zZ).length:Nat):Int) != (((b.map zZ).length:Nat):Int))=false:=by simp [hlen]
  repeat' (first|refine sA ?_|refine sC (fun _=>?_) (fun _=>?_)|fail)
  refine zo (fun k:Nat=>[(1,.pv (pts b)),(2,.pv (.fn (.func 185) [] [])),(15,.pv (pts a)),(16,.pv (pi a.length)),(17,.pv (pi k))]) (fun _=>[]) (fun k=>k≤a.length∧Yj a b=Yj (a.drop k) (b.drop k)) (fun k=>a.length - k) 0 ⟨by omega,rfl⟩ (tS) tH ?_
  rintro k ⟨hk,hr⟩
  by_cases hlt:k < a.length
  ·have he:=zA (f:=zZ) hlt
   have he2:=zA (f:=zZ) (show k < b.length by omega)
   rw [drop_cons hlt,drop_cons (show k < b.length by omega),Yj] at hr
   generalize a[k]=x at he hr
   generalize b[k]=y at he2 hr
   have cs:=zoc x y
   cases hs:zjM x y
   ·rw [hs] at cs hr
    repeat' (first|(refine shC ?_;first|refine qV (cs) ?_)|(refine shX ?_;first|refine qX he ?_|refine qX he2 ?_)|refine sK ?_|refine sC (fun _=>?_) (fun _=>?_)|fail)
    all_goals (refine retq rfl ?_;simp [zi,hr])
   ·rw [hs] at cs hr
    repeat' (first|(refine shC ?_;first|refine qV (cs) ?_)|(refine shX ?_;first|refine qX he ?_|refine qX he2 ?_)|refine sK ?_|refine sC (fun _=>?_) (fun _=>?_)|fail)
    exact ⟨k + 1,⟨hlt,hr⟩,tD,tS,tH⟩
  ·rw [drop_end (by omega),drop_end (by omega)] at hr
   repeat' (first|refine sK ?_|refine sC (fun _=>?_) (fun _=>?_)|fail)
   all_goals (refine retq rfl ?_;rw [hr];rfl)
 ·have hc:((((a.map zZ).length:Nat):Int) != (((b.map zZ).length:Nat):Int))=true:=by simp;omega
  have hr:=zeO hlen
  repeat' (first|refine sA ?_|refine sC (fun _=>?_) (fun _=>?_)|fail)
  all_goals (refine retq rfl ?_;rw [hr];rfl)
theorem zi8 (a b:List Pt) (hl:a.length≤1000):ACall Tryz.prog 137 [pts a,pts b] (pb (Yj a b)):=by
 have c:=znU a b hl
 refine zf zh Tryz.func137 rfl (by kernel_rfl) Tryz.ntmps137 (by simp) _ rfl (fun hw gB hgB=>?_)
 repeat' (first|(refine shC ?_;first|refine qC c ?_)|refine sA ?_|refine sC (fun _=>?_) (fun _=>?_)|fail)
 exact retq rfl rfl
theorem zl9 {b a:List Pt} {to:Int} {k:Nat} (hk:k≤yD b to) (h:Yj (b.drop k) a=true):zb4 b to a=true:=by
 rw [zb4,List.any_eq_true]
 exact ⟨k,List.mem_range.2 (by omega),h⟩
theorem zoU {b a:List Pt} {to:Int} (h:∀ j,j < yD b to + 1→Yj (b.drop j) a=false):zb4 b to a=false:=by
 rw [zb4,List.any_eq_false]
 intro k hk
 rw [h k (List.mem_range.1 hk)];simp
set_option maxHeartbeats 20000000
theorem zba {l:List Cl} {at_:Int} (hl:l.length≤6):(yh l at_).length≤18:=by have:=zn4 l at_;omega
theorem zdw (l:List Cl) (at_:Int) (hl:l.length≤6) (hs:∀ x∈Qo at_ l,SmP x):ACall Tryz.prog 57 [cls l,pi at_] (.slc 2 ((yh l at_).map fun x=>.agg [pi x.c,pi x.p]) false):=by
 have cc:=zac l at_ hl hs
 have hcl:=zba (at_:=at_) hl
 obtain ⟨c,hc⟩:∃ c,c=yh l at_:=⟨_,rfl⟩
 rw [←hc] at cc hcl ⊢
 refine zf zh Tryz.func57 rfl (by kernel_rfl) Tryz.ntmps57 (by simp) _ rfl (fun hw gB hgB=>?_)
 repeat' (first|refine yS (t:=5) 20 61 2 (by decide) rfl rfl ?_|(refine shC ?_;first|refine qC cc ?_)|refine sA ?_|refine sC (fun _=>?_) (fun _=>?_)|fail)
 refine zo (fun k:Nat=>[(5,.own 20),(10,.pv (pts c)),(11,.pv (pi c.length)),(12,.pv (pi k))]) (fun k=>[(20,.row 61 2 ((c.take k).map fun x=>.agg [pi x.c,pi x.p]))]) (fun k=>k≤c.length) (fun k=>c.length - k) 0 (by omega) (tS) ⟨zn rfl zl,rfl⟩ ?_
 rintro k hk
 by_cases hlt:k < c.length
 ·have he:=zA (f:=zZ) hlt
  have hst:(c.take (k + 1)).map (fun x=>PV.agg [pi x.c,pi x.p])=(c.take k).map (fun x=>PV.agg [pi x.c,pi x.p])++[.agg [pi c[k].c,pi c[k].p]]:=by rw [List.take_succ_eq_append_getElem hlt,List.map_append];rfl
  generalize c[k]=x at he hst
  have htl:(c.take k).length≤18:=by simp;omega
  repeat' (first|(refine shX ?_;first|refine qX he ?_)|(refine zI ?_;first|refine yc zh rfl rfl rfl rfl rfl rfl rfl (by show _ * 16≤_;simp;omega) (by simp;omega) rfl rfl ?_)|refine sK ?_|refine sC (fun _=>?_) (fun _=>?_)|fail)
  exact ⟨k + 1,hlt,tD,tS,⟨zn (by rw [hst];rfl) zl,rfl⟩⟩
 ·have hk2:k=c.length:=by omega
  subst hk2
  repeat' (first|refine sK ?_|refine sC (fun _=>?_) (fun _=>?_)|fail)
  exact retq rfl (by rw [List.take_length];rfl)
theorem zjw (l:List Cl) (i to:Int) (hl:l.length≤6) (hs:∀ x∈Qo i l,SmP x) (hs2:∀ x∈Qo to l,SmP x):ACall Tryz.prog 95 [cls l,pi i,pi to] (pb (zam l i to)):=by
 have c1:=zac l i hl hs
 have c2:=zac l to hl hs2
 have ha:=zba (at_:=i) hl
 have hb:=zba (at_:=to) hl
 rw [zam]
 obtain ⟨a,haa⟩:∃ a,a=yh l i:=⟨_,rfl⟩
 obtain ⟨b,hbb⟩:∃ b,b=yh l to:=⟨_,rfl⟩
 rw [←haa] at c1 ha ⊢
 rw [←hbb] at c2 hb ⊢
 have ce:=zeq b to (by omega)
 have hel:=zge b to
 refine zf zh Tryz.func95 rfl (by kernel_rfl) Tryz.ntmps95 (by simp) _ rfl (fun hw gB hgB=>?_)
 repeat' (first|(refine shC ?_;first|refine qC c1 ?_|refine qC c2 ?_)|refine sA ?_|refine sC (fun _=>?_) (fun _=>?_)|fail)
 refine zo (fun k:Nat=>[(2,.pv (pi to)),(7,.pv (pts a)),(8,.pv (pts b)),(9,.pv (pi k))]) (fun _=>[]) (fun k=>k≤yD b to + 1∧∀ j,j < k→Yj (b.drop j) a=false) (fun k=>yD b to + 1 - k) 0 ⟨by omega,fun j hj=>absurd hj (Nat.not_lt_zero j)⟩ (tS) tH ?_
 rintro k ⟨hk,hno⟩
 by_cases hlt:k < yD b to + 1
 ·have hd:decide (((k:Nat):Int)≤((yD b to:Nat):Int))=true:=decide_eq_true (by omega)
  have cs:=zi8 ((b.take b.length).drop k) a (by simp;omega)
  have ht:(b.take b.length).drop k=b.drop k:=by rw [List.take_length]
  cases hsm:Yj (b.drop k) a
  ·rw [ht,hsm,←ht] at cs
   repeat' (first|refine zu rfl (Zc (xs:=b) (f:=zZ) k b.length zh rfl rfl rfl rfl rfl rfl (by simp [YT]) (by omega) (by omega)) rfl rfl ?_|(refine shC ?_;first|refine qC ce ?_|refine qC cs ?_)|refine sK ?_|refine sC (fun _=>?_) (fun _=>?_)|fail)
   exact ⟨k + 1,⟨hlt,fun j hj=>by
    by_cases e:j=k
    ·subst e;exact hsm
    ·exact hno j (by omega)⟩,tD,tS,tH⟩
  ·rw [ht,hsm,←ht] at cs
   repeat' (first|refine zu rfl (Zc (xs:=b) (f:=zZ) k b.length zh rfl rfl rfl rfl rfl rfl (by simp [YT]) (by omega) (by omega)) rfl rfl ?_|(refine shC ?_;first|refine qC ce ?_|refine qC cs ?_)|refine sK ?_|refine sC (fun _=>?_) (fun _=>?_)|fail)
   exact retq rfl (by rw [zl9 (by omega) hsm];rfl)
 ·have hd:decide (((k:Nat):Int)≤((yD b to:Nat):Int))=false:=decide_eq_false (by omega)
  repeat' (first|(refine shC ?_;first|refine qC ce ?_)|refine sK ?_|refine sC (fun _=>?_) (fun _=>?_)|fail)
  exact retq rfl (by rw [zoU fun j hj=>hno j (by omega)];rfl)
theorem zj7 {l:List Cl} {a b:List Pt} {to:Int} {k:Nat} (h:k < a.length) (hn:zb4 b to (a.drop k)=false):YW l b to (a.drop k)=if zoF l a[k] then false else YW l b to (a.drop (k + 1)):=by
 rw [drop_cons h] at hn ⊢
 rw [YW,hn];simp
theorem zn0 (l:List Cl) (i to:Int) (hl:l.length≤6) (hs:∀ x∈Qo i l,SmP x) (hs2:∀ x∈Qo to l,SmP x):ACall Tryz.prog 96 [cls l,pi i,pi to] (pb (zbp l i to)):=by
 have c1:=zac l i hl hs
 have c2:=zac l to hl hs2
 have ha:=zba (at_:=i) hl
 have hb:=zba (at_:=to) hl
 have hmem:∀ x∈yh l i,∃ j,j < l.length∧x.c=(j:Int):=by
  intro x hx
  obtain ⟨j,h1,h2,_⟩:=zdH hx
  refine ⟨j,h1,?_⟩
  unfold zK at h2
  split at h2 <;> simp at h2 <;> (rcases h2 with h|h|h <;> first|rfl|(rw [h])|skip) <;> simp_all
 rw [zbp]
 obtain ⟨a,haa⟩:∃ a,a=yh l i:=⟨_,rfl⟩
 obtain ⟨b,hbb⟩:∃ b,b=yh l to:=⟨_,rfl⟩
 rw [←haa] at c1 ha hmem ⊢
 rw [←hbb] at c2 hb ⊢
 have ce:=zeq b to (by omega)
 have hel:=zge b to
 refine zf zh Tryz.func96 rfl (by kernel_rfl) Tryz.ntmps96 (by simp) _ rfl (fun hw gB hgB=>?_)
 repeat' (first|(refine shC ?_;first|refine qC c1 ?_|refine qC c2 ?_)|refine sA ?_|refine sC (fun _=>?_) (fun _=>?_)|fail)
 refine zo (fun o:Nat=>[(0,.pv (cls l)),(2,.pv (pi to)),(7,.pv (pts a)),(8,.pv (pts b)),(9,.pv (pi o))]) (fun _=>[]) (fun o=>o≤a.length∧YW l b to a=YW l b to (a.drop o)) (fun o=>a.length + 1 - o) 0 ⟨by omega,rfl⟩ (tS) tH ?_
 rintro o ⟨ho,hr⟩
 have hdo:decide (((o:Nat):Int)≤(((a.map zZ).length:Nat):Int))=true:=decide_eq_true (by simp;omega)
 repeat' (first|refine sK ?_|refine sC (fun _=>?_) (fun _=>?_)|fail)
 refine zo (fun k:Nat=>[(0,.pv (cls l)),(2,.pv (pi to)),(7,.pv (pts a)),(8,.pv (pts b)),(9,.pv (pi o)),(10,.pv (pi k))]) (fun _=>[]) (fun k=>k≤yD b to + 1∧∀ j,j < k→Yj (b.drop j) (a.drop o)=false) (fun k=>yD b to + 1 - k) 0 ⟨by omega,fun j hj=>absurd hj (Nat.not_lt_zero j)⟩ (tS) tH ?_
 rintro k ⟨hk,hno⟩
 have hda:(a.take a.length).drop o=a.drop o:=by rw [List.take_length]
 by_cases hlt:k < yD b to + 1
 ·have hd:decide (((k:Nat):Int)≤((yD b to:Nat):Int))=true:=decide_eq_true (by omega)
  have cs:=zi8 ((b.take b.length).drop k) ((a.take a.length).drop o) (by simp;omega)
  have ht:(b.take b.length).drop k=b.drop k:=by rw [List.take_length]
  cases hsm:Yj (b.drop k) (a.drop o)
  ·rw [ht,hda,hsm,←ht,←hda] at cs
   repeat' (first|refine AD.step _ _ _ _ _ rfl (Zc (xs:=b) (f:=zZ) k b.length zh rfl rfl rfl rfl rfl rfl (by simp [YT]) (by omega) (by omega)) rfl rfl ?_|refine AD.step _ _ _ _ _ rfl (Zc (xs:=a) (f:=zZ) o a.length zh rfl rfl rfl rfl rfl rfl (by simp [YT]) (by omega) (by omega)) rfl rfl ?_|(refine shC ?_;first|refine qC ce ?_|refine qC cs ?_)|refine sK ?_|refine sC (fun _=>?_) (fun _=>?_)|fail)
   exact ⟨k + 1,⟨hlt,fun j hj=>by
    by_cases e:j=k
    ·subst e;exact hsm
    ·exact hno j (by omega)⟩,tD,tS,tH⟩
  ·rw [ht,hda,hsm,←ht,←hda] at cs
   have hy:YW l b to (a.drop o)=true:=by
    have:=zl9 (show k≤yD b to by omega) hsm
    generalize a.drop o=A at this
    cases A with
    | nil=>exact this
    | cons r A=>rw [YW,if_pos this]
   repeat' (first|refine AD.step _ _ _ _ _ rfl (Zc (xs:=b) (f:=zZ) k b.length zh rfl rfl rfl rfl rfl rfl (by simp [YT]) (by omega) (by omega)) rfl rfl ?_|refine AD.step _ _ _ _ _ rfl (Zc (xs:=a) (f:=zZ) o a.length zh rfl rfl rfl rfl rfl rfl (by simp [YT]) (by omega) (by omega)) rfl rfl ?_|(refine shC ?_;first|refine qC ce ?_|refine qC cs ?_)|refine sK ?_|refine sC (fun _=>?_) (fun _=>?_)|fail)
   exact retq rfl (by rw [hr,hy];rfl)
 ·have hd:decide (((k:Nat):Int)≤((yD b to:Nat):Int))=false:=decide_eq_false (by omega)
  have hn:zb4 b to (a.drop o)=false:=zoU fun j hj=>hno j (by omega)
  by_cases hoe:o < a.length
  ·have hoq:(((o:Nat):Int)==(((a.map zZ).length:Nat):Int))=false:=by simp;omega
   have hst:=zj7 (l:=l) hoe hn
   have he:=zA (f:=zZ) hoe
   obtain ⟨j,hj,hxc⟩:=hmem a[o] (List.getElem_mem hoe)
   generalize a[o]=x at he hst hxc
   have hec:=zaq hj
   have hec':(l.map yI)[x.c.toNat]?=some (yI (l.getD x.c.toNat default)):=by rw [hxc];exact hec
   have h0:0≤x.c:=by omega
   rw [hst] at hr
   obtain ⟨cl,hcl⟩:∃ cl,cl=l.getD x.c.toNat default:=⟨_,rfl⟩
   rw [zoF] at hr
   rw [←hcl] at hec' hr
   rcases Bool.eq_false_or_eq_true (x.p==3) with h3|h3 <;> rcases Bool.eq_false_or_eq_true (x.p==2) with h2|h2 <;> rcases Bool.eq_false_or_eq_true (cl.kind==1) with k1|k1 <;> rcases Bool.eq_false_or_eq_true (cl.kind==2) with k2|k2 <;> (
    have k1':(cl.kind != 1)=!(cl.kind==1):=rfl
    have k2':(cl.kind != 2)=!(cl.kind==2):=rfl
    rw [k1] at k1'
    rw [k2] at k2'
    repeat' (first|(refine shC ?_;first|refine qC ce ?_)|(refine shX ?_;first|refine qX he ?_|refine zu rfl (zk zh rfl rfl rfl rfl rfl rfl h0 hec') rfl rfl ?_|refine AD.step _ _ _ _ _ rfl (zk zh rfl rfl rfl rfl rfl rfl h0 hec') rfl rfl ?_)|refine sK ?_|refine sC (fun _=>?_) (fun _=>?_)|fail)
    all_goals first|exact retq rfl (by rw [hr];simp_all [zi];done)|exact ⟨o + 1,⟨hoe,by rw [hr];simp_all⟩,tD,tS,tH⟩)
  ·have hoq:(((o:Nat):Int)==(((a.map zZ).length:Nat):Int))=true:=by simp;omega
   rw [drop_end (by omega)] at hr hn
   have hf:YW l b to []=false:=hn
   repeat' (first|(refine shC ?_;first|refine qC ce ?_)|refine sK ?_|refine sC (fun _=>?_) (fun _=>?_)|fail)
   exact retq rfl (by rw [hr,hf];rfl)
set_option maxHeartbeats 20000000
def qN (x:Pt):PV:=.agg [pi x.c,pi x.p]
def rgs (l:List Pt):PV:=.slc 2 (l.map qN) false
def Qs (g:Img) (m:Me):PV:=.agg [.slc 4 (g.types.map Zb) false,.slc 7 (g.fields.map Yc) false,.slc 12 (g.methods.map zG) false,pi g.entry,ps m.name,pi m.owner,pi m.flags,tys m.params,pi m.ret.kind,pi m.ret.index,pi m.ret.dims,pb m.ret.ref,tys m.locals,pi m.max,.slc 6 (m.code.map zY) false,.slc 10 (m.clauses.map yI) false]
def zjG (l:List Pt) (p:Pt→Bool):Int:=if l.any p then ((l.findIdx p:Nat):Int) else -1
theorem zbV (l:List Pt) (p:Pt→Bool) (f:FuncId) (first cap:List PV) (hp:∀ x∈l,ACall Tryz.prog f (first++[qN x]++cap) (pb (p x))):ACall Tryz.prog 97 [rgs l,.fn (.func f) first cap] (pi (zjG l p)):=by
 refine zf zh Tryz.func97 rfl (by kernel_rfl) Tryz.ntmps97 (by simp) _ rfl (fun hw gB hgB=>?_)
 have hl:l.length≤9223372036854775807:=by have:=hw.1;simp [rgs,PV.lenOk,maxLen] at this;exact this.1
 repeat' (first|refine sA ?_|refine sC (fun _=>?_) (fun _=>?_)|fail)
 refine zo (fun k:Nat=>[(0,.pv (rgs l)),(1,.pv (.fn (.func f) first cap)),(7,.pv (pi l.length)),(8,.pv (pi k))]) (fun _=>[]) (fun k=>k≤l.length∧∀ j (h:j < k) (h2:j < l.length),p l[j]=false) (fun k=>l.length - k) 0 ⟨by omega,fun j h=>by omega⟩ (tS) tH ?_
 rintro k ⟨hk,hno⟩
 by_cases hlt:k < l.length
 ·have he:=zA (f:=qN) hlt
  have c1:=hp _ (List.getElem_mem hlt)
  cases hpx:p l[k]
  ·rw [hpx] at c1
   repeat' (first|(refine shC ?_;first|refine qV (c1) ?_)|(refine shX ?_;first|refine qX he ?_)|refine sK ?_|refine sC (fun _=>?_) (fun _=>?_)|fail)
   exact ⟨k + 1,⟨hlt,fun j hj h2=>by
    by_cases e:j=k
    ·subst e;exact hpx
    ·exact hno j (by omega) h2⟩,tD,tS,tH⟩
  ·rw [hpx] at c1
   have hi:l.findIdx p=k:=by
    rw [List.findIdx_eq hlt]
    exact ⟨hpx,fun j hj=>hno j hj (by omega)⟩
   have ha:l.any p=true:=List.any_eq_true.2 ⟨_,List.getElem_mem hlt,hpx⟩
   repeat' (first|(refine shC ?_;first|refine qV (c1) ?_)|(refine shX ?_;first|refine qX he ?_)|refine sK ?_|refine sC (fun _=>?_) (fun _=>?_)|fail)
   exact retq rfl (by simp [zi,zjG,ha,hi])
 ·have ha:l.any p=false:=by
   rw [List.any_eq_false]
   intro x hx
   obtain ⟨j,hj,rfl⟩:=List.getElem_of_mem hx
   simp [hno j (by omega) hj]
  repeat' (first|refine sK ?_|refine sC (fun _=>?_) (fun _=>?_)|fail)
  exact retq rfl (by simp [zi,zjG,ha])
theorem zds (l:List Pt) (p:Pt→Bool) (f:FuncId) (first cap:List PV) (hp:∀ x∈l,ACall Tryz.prog f (first++[qN x]++cap) (pb (p x))):ACall Tryz.prog 56 [rgs l,.fn (.func f) first cap] (pb (l.any p)):=by
 refine zf zh Tryz.func56 rfl (by kernel_rfl) Tryz.ntmps56 (by simp) _ rfl (fun hw gB hgB=>?_)
 have c1:=zbV l p f first cap hp
 repeat' (first|(refine shC ?_;first|refine qC c1 ?_)|refine sA ?_|refine sC (fun _=>?_) (fun _=>?_)|fail)
 refine retq rfl ?_
 have:decide (0≤zjG l p)=l.any p:=by
  unfold zjG
  cases h:l.any p <;> simp
 simp [zi,this]
abbrev zhr (e:Int):Value:=.iface 93 (.int .i64 e)
theorem yu {b:Bool} (h:b=true) (e:Int):ACall Tryz.prog 54 [pb b,pi e] (.tup []):=by
 subst h
 refine zf zh Tryz.func54 rfl (by kernel_rfl) Tryz.ntmps54 (by simp) _ rfl (fun hw gB hgB=>?_)
 repeat' (first|refine sK ?_|refine sC (fun _=>?_) (fun _=>?_)|fail)
 exact ZA rfl rfl
theorem yH {b:Bool} (h:b=false) (e:Int):ACallPan Tryz.prog 54 [.pv (pb b),.pv (pi e)] [] (zhr e):=by
 subst h
 refine VJ Tryz.func54 rfl (by kernel_rfl) Tryz.ntmps54 (by simp) (fun gB hw1=>?_)
 repeat' (first|refine zD 1 2 rfl rfl rfl ?_|refine zu rfl (zjj rfl Tryz.underlying93 rfl) rfl rfl ?_|refine zi4 rfl rfl rfl ?_|refine sK ?_|refine sC (fun _=>?_) (fun _=>?_)|fail)
 exact rfl
theorem goes_call (w:Int):ACall Tryz.prog 79 [pi w] (.tup [pb (Yy w),pb (YC w)]):=by
 refine zf zh Tryz.func79 rfl (by kernel_rfl) Tryz.ntmps79 (by simp) _ rfl (fun hw gB hgB=>?_)
 rcases Bool.eq_false_or_eq_true (w==0) with h0|h0 <;> rcases Bool.eq_false_or_eq_true (w==1) with h1|h1 <;> rcases Bool.eq_false_or_eq_true (w==2) with h2|h2 <;> rcases Bool.eq_false_or_eq_true (w==4) with h4|h4 <;> (
  repeat' (first|refine sK ?_|refine sC (fun _=>?_) (fun _=>?_)|fail)
  all_goals (refine retq rfl ?_;simp [zi,Yy,YC,h0,h1,h2,h4]))
theorem zmy (g:Img) (m:Me) (i:Int) (h0:0≤i) (h1:i.toNat < m.code.length):ACall Tryz.prog 80 [Qs g m,pi i] (pi (QX m i)):=by
 have hei:(m.code.map zY)[i.toNat]?=some (zY (zX m i)):=by rw [zX,zx h1];exact zA h1
 refine zf zh Tryz.func80 rfl (by kernel_rfl) Tryz.ntmps80 (by simp) _ rfl (fun hw gB hgB=>?_)
 by_cases hop:1≤(zX m i).op∧(zX m i).op≤75
 ·have co:=zdN (zX m i).op hop.1 hop.2
  have hw:QX m i=(ofI (zX m i).op).2.2:=by rw [QX,decide_eq_true hop.1,decide_eq_true hop.2];rfl
  repeat' (first|(refine shC ?_;first|refine qC co ?_)|(refine shX ?_;first|refine zu rfl (zk zh rfl rfl rfl rfl rfl rfl h0 hei) rfl rfl ?_|refine AD.step _ _ _ _ _ rfl (zk zh rfl rfl rfl rfl rfl rfl h0 hei) rfl rfl ?_)|refine sK ?_|refine sC (fun _=>?_) (fun _=>?_)|fail)
  exact retq rfl (by rw [hw];rfl)
 ·have co:=zfR (zX m i).op (by omega)
  have hw:QX m i=0:=by
   rw [QX]
   split
   ·rename_i h;simp at h;omega
   ·rfl
  repeat' (first|(refine shC ?_;first|refine qC co ?_)|(refine shX ?_;first|refine zu rfl (zk zh rfl rfl rfl rfl rfl rfl h0 hei) rfl rfl ?_|refine AD.step _ _ _ _ _ rfl (zk zh rfl rfl rfl rfl rfl rfl h0 hei) rfl rfl ?_)|refine sK ?_|refine sC (fun _=>?_) (fun _=>?_)|fail)
  exact retq rfl (by rw [hw];rfl)
theorem zc1 (g:Img) (m:Me) (i:Int):ACall Tryz.prog 55 [Qs g m,pi i] (pi (opV m i)):=by
 refine zf zh Tryz.func55 rfl (by kernel_rfl) Tryz.ntmps55 (by simp) _ rfl (fun hw gB hgB=>?_)
 by_cases h0:i < 0
 ·have hd:=decide_eq_true h0
  repeat' (first|refine sK ?_|refine sC (fun _=>?_) (fun _=>?_)|fail)
  all_goals (refine retq rfl ?_;simp [zi,opV,h0])
 ·have hd:=decide_eq_false h0
  by_cases h1:(((m.code.map zY).length:Nat):Int)≤i
  ·have hd1:=decide_eq_true h1
   have hl:(m.code.length:Int)≤i:=by simpa using h1
   repeat' (first|refine sK ?_|refine sC (fun _=>?_) (fun _=>?_)|fail)
   all_goals (refine retq rfl ?_;simp [zi,opV,hl])
  ·have hd1:=decide_eq_false h1
   have hl:¬ (m.code.length:Int)≤i:=by simpa using h1
   have h2:i.toNat < m.code.length:=by omega
   have hei:(m.code.map zY)[i.toNat]?=some (zY (zX m i)):=by rw [zX,zx h2];exact zA h2
   repeat' (first|(refine shX ?_;first|refine qX hei ?_)|refine sK ?_|refine sC (fun _=>?_) (fun _=>?_)|fail)
   all_goals (refine retq rfl ?_;simp [zi,opV,h0,hl])
theorem zd4 (g:Img) (m:Me) (r:Pt) (a b:Int) (h0:0≤r.c) (h1:r.c.toNat < m.clauses.length):ACall Tryz.prog 99 [Qs g m,qN r,pi a,pi b] (pb (ZN m r a b)):=by
 have hec:(m.clauses.map yI)[r.c.toNat]?=some (yI (clV m r)):=zaq h1
 rw [ZN]
 generalize clV m r=c at hec ⊢
 refine zf zh Tryz.func99 rfl (by kernel_rfl) Tryz.ntmps99 (by simp) _ rfl (fun hw gB hgB=>?_)
 rcases Bool.eq_false_or_eq_true (r.p==2) with hp|hp <;> rcases Bool.eq_false_or_eq_true (c.kind==a) with ka|ka <;> rcases Bool.eq_false_or_eq_true (c.kind==b) with kb|kb <;> (
  repeat' (first|(refine shX ?_;first|refine zu rfl (zk zh rfl rfl rfl rfl rfl rfl h0 hec) rfl rfl ?_|refine AD.step _ _ _ _ _ rfl (zk zh rfl rfl rfl rfl rfl rfl h0 hec) rfl rfl ?_)|refine sK ?_|refine sC (fun _=>?_) (fun _=>?_)|fail)
  all_goals (refine retq rfl ?_;simp [zi,hp,ka,kb]))
theorem zjY (r:Pt):ACall Tryz.prog 98 [qN r] (pb (r.p != 1)):=by
 refine zf zh Tryz.func98 rfl (by kernel_rfl) Tryz.ntmps98 (by simp) _ rfl (fun hw gB hgB=>?_)
 repeat' (first|refine sA ?_|refine sC (fun _=>?_) (fun _=>?_)|fail)
 exact retq rfl rfl
theorem zns (t:Ty):ACall Tryz.prog 101 [yK t] (pb t.ref):=by
 refine zf zh Tryz.func101 rfl (by kernel_rfl) Tryz.ntmps101 (by simp) _ rfl (fun hw gB hgB=>?_)
 repeat' (first|refine sA ?_|refine sC (fun _=>?_) (fun _=>?_)|fail)
 exact retq rfl rfl
theorem zjF (g:Img) (m:Me) (r:Pt) (h0:0≤r.c) (h1:r.c.toNat < m.clauses.length):ACall Tryz.prog 58 [qN r,.ptr (Qs g m) 0] (pb (r.p != 1||(clV m r).tf != 0)):=by
 have hec:(m.clauses.map yI)[r.c.toNat]?=some (yI (clV m r)):=zaq h1
 generalize clV m r=c at hec ⊢
 refine zf zh Tryz.func58 rfl (by kernel_rfl) Tryz.ntmps58 (by simp) _ rfl (fun hw gB hgB=>?_)
 rcases Bool.eq_false_or_eq_true (r.p != 1) with hp|hp <;> (
  repeat' (first|(refine shX ?_;first|refine zu rfl (zk zh rfl rfl rfl rfl rfl rfl h0 hec) rfl rfl ?_|refine AD.step _ _ _ _ _ rfl (zk zh rfl rfl rfl rfl rfl rfl h0 hec) rfl rfl ?_)|refine sK ?_|refine sC (fun _=>?_) (fun _=>?_)|fail)
  all_goals (refine retq rfl ?_;simp [zi,hp]))
theorem zh6 (g:Img) (k:Int):ACall Tryz.prog 19 [zq g,pi k] (pb (decide (0≤k)&&decide (k < g.methods.length)&&decide (0 < (mAt g k).code.length))):=by
 refine zf zh Tryz.func19 rfl (by kernel_rfl) Tryz.ntmps19 (by simp) _ rfl (fun hw gB hgB=>?_)
 by_cases h0:0≤k
 ·have hd:=decide_eq_true h0
  by_cases h1:k < (((g.methods.map zG).length:Nat):Int)
  ·have hd1:=decide_eq_true h1
   have hl:k < g.methods.length:=by simpa using h1
   have h2:k.toNat < g.methods.length:=by omega
   have hem:(g.methods.map zG)[k.toNat]?=some (zG (mAt g k)):=by rw [mAt,zx h2];exact zA h2
   repeat' (first|(refine shX ?_;first|refine zu rfl (zk zh rfl rfl rfl rfl rfl rfl h0 hem) rfl rfl ?_|refine AD.step _ _ _ _ _ rfl (zk zh rfl rfl rfl rfl rfl rfl h0 hem) rfl rfl ?_)|refine sK ?_|refine sC (fun _=>?_) (fun _=>?_)|fail)
   all_goals (refine retq rfl ?_;simp [zi,h0,hl])
  ·have hd1:=decide_eq_false h1
   have hl:¬ k < g.methods.length:=by simpa using h1
   repeat' (first|refine sK ?_|refine sC (fun _=>?_) (fun _=>?_)|fail)
   all_goals (refine retq rfl ?_;simp [zi,hl])
 ·have hd:=decide_eq_false h0
  repeat' (first|refine sK ?_|refine sC (fun _=>?_) (fun _=>?_)|fail)
  all_goals (refine retq rfl ?_;simp [zi,h0])
def zef (e:Int):Out:=if e=0 then .ret (.pv (.tup [])) [] else .pan (zhr e)
theorem Zw {tb:Tab} {e:Int} {ex:Exit} {env:Env} {H:HEnv} (h:e=0) (he:ex=.normal∨ex=.ret):zkW tb [] (zef e) ex env H:=by
 rw [zef,if_pos h];exact ⟨he,.inl ⟨[],rfl,rfl,zl,rfl⟩⟩
theorem qm {tb:Tab} {rs:List ResultVar} {e k:Int} {env:Env} {H:HEnv} (h:e=k) (hk:k≠0):zkW tb rs (zef e) (.panic [{ v:=zhr k,recovered:=false }]) env H:=by
 rw [zef,if_neg (by rw [h];exact hk),h];rfl
structure ClOk (m:Me):Prop where
 n:m.clauses.length≤6
 s:∀ (at_:Int),∀ x∈Qo at_ m.clauses,SmP x
 code:m.code.length≤1000
theorem Wn {l:List Cl} {at_:Int} {x:Pt} (h:x∈yh l at_):0≤x.c∧x.c.toNat < l.length:=by
 obtain ⟨j,h1,h2,_⟩:=zdH h
 have:x.c=(j:Int):=by
  unfold zK at h2
  split at h2 <;> simp at h2 <;> (rcases h2 with h|h|h <;> first|rfl|(rw [h])|skip) <;> simp_all
 omega
set_option maxHeartbeats 8000000 in
theorem ztH (g:Img) (m:Me) (hm:ClOk m) (i:Int) (h0:0≤i) (h1:i.toNat < m.code.length):Xp Tryz.prog 51 [.pv (Qs g m),.pv (pi i)] [] (zef (onV m i)):=by
 have hei:(m.code.map zY)[i.toNat]?=some (zY (zX m i)):=by rw [zX,zx h1];exact zA h1
 have cw:=zmy g m i h0 h1
 have cg:=goes_call (QX m i)
 have hmc:=hm.code
 have hw1:IntKind.i64.wrap (i + 1)=i + 1:=wrap_in (by omega) (by omega)
 have c1:=zjw m.clauses i (i + 1) hm.n (hm.s i) (hm.s (i + 1))
 have c2:=zjw m.clauses i (zX m i).arg hm.n (hm.s i) (hm.s _)
 have c3:=zn0 m.clauses i (zX m i).arg hm.n (hm.s i) (hm.s _)
 rw [←hw1] at c1
 have hon:onV m i=if Yy (QX m i)&&!decide (IntKind.i64.wrap (i + 1) < (((m.code.map zY).length:Nat):Int)) then 11
   else if Yy (QX m i)&&!zam m.clauses i (IntKind.i64.wrap (i + 1)) then 12
   else if !YC (QX m i) then 0
   else if QX m i==4 then (if zbp m.clauses i (zX m i).arg then 0 else 12)
   else if zam m.clauses i (zX m i).arg then 0 else 12:=by rw [hw1,List.length_map];rfl
 rw [hon]
 generalize zX m i=x at *
 generalize QX m i=w at *
 generalize zam m.clauses i (IntKind.i64.wrap (i + 1))=p1 at *
 generalize zam m.clauses i x.arg=p2 at *
 generalize zbp m.clauses i x.arg=p3 at *
 generalize Yy w=nx at *
 generalize YC w=pl at *
 refine yO zh Tryz.func51 rfl (by kernel_rfl) Tryz.ntmps51 (by simp) _ rfl (fun gB hw1=>?_)
 cases nx
 ·cases pl
  ·repeat' (first|(refine shC ?_;first|refine qC cw ?_|refine qC cg ?_)|refine sK ?_|refine sC (fun _=>?_) (fun _=>?_)|fail)
   all_goals first|exact Zw (by first|rfl|(simp only [hd,h4];rfl)|(simp only [h4];rfl)|(simp only [hd];rfl)) (.inr rfl)|exact Zw (by first|rfl|(simp only [hd,h4];rfl)|(simp only [h4];rfl)|(simp only [hd];rfl)) (.inl rfl)
  ·rcases Bool.eq_false_or_eq_true (w==4) with h4|h4
   ·cases p3
    ·repeat' (first|refine zD 9 4 rfl rfl rfl ?_|refine yw ([]) zy rfl rfl rfl tH (yH rfl 12) ?_|(refine shC ?_;first|refine qC cw ?_|refine qC cg ?_|refine qC c3 ?_)|(refine shX ?_;first|refine zu rfl (zk zh rfl rfl rfl rfl rfl rfl h0 hei) rfl rfl ?_|refine AD.step _ _ _ _ _ rfl (zk zh rfl rfl rfl rfl rfl rfl h0 hei) rfl rfl ?_)|refine sK ?_|refine sC (fun _=>?_) (fun _=>?_)|fail)
     all_goals exact qm (k:=12) (by first|rfl|(simp only [hd,h4];rfl)|(simp only [h4];rfl)|(simp only [hd];rfl)) (by decide)
    ·repeat' (first|(refine shC ?_;first|refine qC cw ?_|refine qC cg ?_|refine qC c3 ?_|refine qC (yu rfl 12) ?_)|(refine shX ?_;first|refine zu rfl (zk zh rfl rfl rfl rfl rfl rfl h0 hei) rfl rfl ?_|refine AD.step _ _ _ _ _ rfl (zk zh rfl rfl rfl rfl rfl rfl h0 hei) rfl rfl ?_)|refine sK ?_|refine sC (fun _=>?_) (fun _=>?_)|fail)
     all_goals first|exact Zw (by first|rfl|(simp only [hd,h4];rfl)|(simp only [h4];rfl)|(simp only [hd];rfl)) (.inr rfl)|exact Zw (by first|rfl|(simp only [hd,h4];rfl)|(simp only [h4];rfl)|(simp only [hd];rfl)) (.inl rfl)
   ·cases p2
    ·repeat' (first|refine zD 10 4 rfl rfl rfl ?_|refine yw ([]) zy rfl rfl rfl tH (yH rfl 12) ?_|(refine shC ?_;first|refine qC cw ?_|refine qC cg ?_|refine qC c2 ?_)|(refine shX ?_;first|refine zu rfl (zk zh rfl rfl rfl rfl rfl rfl h0 hei) rfl rfl ?_|refine AD.step _ _ _ _ _ rfl (zk zh rfl rfl rfl rfl rfl rfl h0 hei) rfl rfl ?_)|refine sK ?_|refine sC (fun _=>?_) (fun _=>?_)|fail)
     all_goals exact qm (k:=12) (by first|rfl|(simp only [hd,h4];rfl)|(simp only [h4];rfl)|(simp only [hd];rfl)) (by decide)
    ·repeat' (first|(refine shC ?_;first|refine qC cw ?_|refine qC cg ?_|refine qC c2 ?_|refine qC (yu rfl 12) ?_)|(refine shX ?_;first|refine zu rfl (zk zh rfl rfl rfl rfl rfl rfl h0 hei) rfl rfl ?_|refine AD.step _ _ _ _ _ rfl (zk zh rfl rfl rfl rfl rfl rfl h0 hei) rfl rfl ?_)|refine sK ?_|refine sC (fun _=>?_) (fun _=>?_)|fail)
     all_goals first|exact Zw (by first|rfl|(simp only [hd,h4];rfl)|(simp only [h4];rfl)|(simp only [hd];rfl)) (.inr rfl)|exact Zw (by first|rfl|(simp only [hd,h4];rfl)|(simp only [h4];rfl)|(simp only [hd];rfl)) (.inl rfl)
 ·rcases Bool.eq_false_or_eq_true (decide (IntKind.i64.wrap (i + 1) < (((m.code.map zY).length:Nat):Int))) with hd|hd
  ·cases p1
   ·repeat' (first|refine zD 5 5 rfl rfl rfl ?_|refine yw ([]) zy rfl rfl rfl tH (yH rfl 12) ?_|(refine shC ?_;first|refine qC cw ?_|refine qC cg ?_|refine qC (yu hd 11) ?_|refine qC c1 ?_)|refine sK ?_|refine sC (fun _=>?_) (fun _=>?_)|fail)
    all_goals exact qm (k:=12) (by first|rfl|(simp only [hd,h4];rfl)|(simp only [h4];rfl)|(simp only [hd];rfl)) (by decide)
   ·cases pl
    ·repeat' (first|(refine shC ?_;first|refine qC cw ?_|refine qC cg ?_|refine qC (yu hd 11) ?_|refine qC c1 ?_|refine qC (yu rfl 12) ?_)|refine sK ?_|refine sC (fun _=>?_) (fun _=>?_)|fail)
     all_goals first|exact Zw (by first|rfl|(simp only [hd,h4];rfl)|(simp only [h4];rfl)|(simp only [hd];rfl)) (.inr rfl)|exact Zw (by first|rfl|(simp only [hd,h4];rfl)|(simp only [h4];rfl)|(simp only [hd];rfl)) (.inl rfl)
    ·rcases Bool.eq_false_or_eq_true (w==4) with h4|h4
     ·cases p3
      ·repeat' (first|refine zD 9 4 rfl rfl rfl ?_|refine yw ([]) zy rfl rfl rfl tH (yH rfl 12) ?_|(refine shC ?_;first|refine qC cw ?_|refine qC cg ?_|refine qC (yu hd 11) ?_|refine qC c1 ?_|refine qC (yu rfl 12) ?_|refine qC c3 ?_)|(refine shX ?_;first|refine zu rfl (zk zh rfl rfl rfl rfl rfl rfl h0 hei) rfl rfl ?_|refine AD.step _ _ _ _ _ rfl (zk zh rfl rfl rfl rfl rfl rfl h0 hei) rfl rfl ?_)|refine sK ?_|refine sC (fun _=>?_) (fun _=>?_)|fail)
       all_goals exact qm (k:=12) (by first|rfl|(simp only [hd,h4];rfl)|(simp only [h4];rfl)|(simp only [hd];rfl)) (by decide)
      ·repeat' (first|(refine shC ?_;first|refine qC cw ?_|refine qC cg ?_|refine qC (yu hd 11) ?_|refine qC c1 ?_|refine qC (yu rfl 12) ?_|refine qC c3 ?_|refine qC (yu rfl 12) ?_)|(refine shX ?_;first|refine zu rfl (zk zh rfl rfl rfl rfl rfl rfl h0 hei) rfl rfl ?_|refine AD.step _ _ _ _ _ rfl (zk zh rfl rfl rfl rfl rfl rfl h0 hei) rfl rfl ?_)|refine sK ?_|refine sC (fun _=>?_) (fun _=>?_)|fail)
       all_goals first|exact Zw (by first|rfl|(simp only [hd,h4];rfl)|(simp only [h4];rfl)|(simp only [hd];rfl)) (.inr rfl)|exact Zw (by first|rfl|(simp only [hd,h4];rfl)|(simp only [h4];rfl)|(simp only [hd];rfl)) (.inl rfl)
     ·cases p2
      ·repeat' (first|refine zD 10 4 rfl rfl rfl ?_|refine yw ([]) zy rfl rfl rfl tH (yH rfl 12) ?_|(refine shC ?_;first|refine qC cw ?_|refine qC cg ?_|refine qC (yu hd 11) ?_|refine qC c1 ?_|refine qC (yu rfl 12) ?_|refine qC c2 ?_)|(refine shX ?_;first|refine zu rfl (zk zh rfl rfl rfl rfl rfl rfl h0 hei) rfl rfl ?_|refine AD.step _ _ _ _ _ rfl (zk zh rfl rfl rfl rfl rfl rfl h0 hei) rfl rfl ?_)|refine sK ?_|refine sC (fun _=>?_) (fun _=>?_)|fail)
       all_goals exact qm (k:=12) (by first|rfl|(simp only [hd,h4];rfl)|(simp only [h4];rfl)|(simp only [hd];rfl)) (by decide)
      ·repeat' (first|(refine shC ?_;first|refine qC cw ?_|refine qC cg ?_|refine qC (yu hd 11) ?_|refine qC c1 ?_|refine qC (yu rfl 12) ?_|refine qC c2 ?_|refine qC (yu rfl 12) ?_)|(refine shX ?_;first|refine zu rfl (zk zh rfl rfl rfl rfl rfl rfl h0 hei) rfl rfl ?_|refine AD.step _ _ _ _ _ rfl (zk zh rfl rfl rfl rfl rfl rfl h0 hei) rfl rfl ?_)|refine sK ?_|refine sC (fun _=>?_) (fun _=>?_)|fail)
       all_goals first|exact Zw (by first|rfl|(simp only [hd,h4];rfl)|(simp only [h4];rfl)|(simp only [hd];rfl)) (.inr rfl)|exact Zw (by first|rfl|(simp only [hd,h4];rfl)|(simp only [h4];rfl)|(simp only [hd];rfl)) (.inl rfl)
  ·repeat' (first|refine zD 4 7 rfl rfl rfl ?_|refine yw ([]) zy rfl rfl rfl tH (yH hd 11) ?_|(refine shC ?_;first|refine qC cw ?_|refine qC cg ?_)|refine sK ?_|refine sC (fun _=>?_) (fun _=>?_)|fail)
   all_goals exact qm (k:=11) (by first|rfl|(simp only [hd,h4];rfl)|(simp only [h4];rfl)|(simp only [hd];rfl)) (by decide)
theorem QK {f:FuncId} {args:List AV} {P:Program} {e:Int} (h:Xp P f args [] (zef e)) (he:e=0):ACallM P f args [] (.pv (.tup [])) []:=by
 rw [zef,if_pos he] at h;exact h
theorem zha {f:FuncId} {args:List AV} {P:Program} {e:Int} (h:Xp P f args [] (zef e)) (he:e≠0):ACallPan P f args [] (zhr e):=by
 rw [zef,if_neg he] at h;exact h
set_option maxHeartbeats 8000000 in
theorem zpY (g:Img) (m:Me) (hm:ClOk m) (i:Int) (h0:0≤i) (h1:i.toNat < m.code.length)
  (hc:opV m i=47→opV m (i + 1)=43∨opV m (i + 1)=44→(0≤(zX m (i + 1)).arg∧(zX m (i + 1)).arg.toNat < g.methods.length)∧(qJ g m i).params.length≤100):Xp Tryz.prog 53 [.pv (Qs g m),.pv (pi i)] [] (zef (tailV g m i)):=by
 have hmc:=hm.code
 have hwr:IntKind.i64.wrap (i + 1)=i + 1:=wrap_in (by omega) (by omega)
 have hw2:IntKind.i64.wrap (i + 2)=i + 2:=wrap_in (by omega) (by omega)
 have c0:=zc1 g m i
 have c1:ACall Tryz.prog 55 [Qs g m,pi (IntKind.i64.wrap (i + 1))] (pi (opV m (i + 1))):=by rw [hwr];exact zc1 g m (i + 1)
 have c2:ACall Tryz.prog 55 [Qs g m,pi (IntKind.i64.wrap (i + 2))] (pi (opV m (i + 2))):=by rw [hw2];exact zc1 g m (i + 2)
 have cc:=zdw m.clauses i hm.n (hm.s i)
 refine yO zh Tryz.func53 rfl (by kernel_rfl) Tryz.ntmps53 (by simp) _ rfl (fun gB hw1=>?_)
 have cc:ACall Tryz.prog 57 [cls m.clauses,pi i] (rgs (yh m.clauses i)):=cc
 cases h47:(opV m i != 47)
 ·have hwb:(opV m i==47)=true:=by simpa using h47
  cases hb:((opV m (i + 1)==43||opV m (i + 1)==44)&&opV m (i + 2)==46&&(yh m.clauses i).isEmpty)
  ·have hz:tailV g m i=11:=by rw [tailV,h47,hb];rfl
   have hle:(((((yh m.clauses i).map qN).length:Nat):Int)==0)=(yh m.clauses i).isEmpty:=by cases yh m.clauses i <;> simp;omega
   rcases Bool.eq_false_or_eq_true (opV m (i + 1)==43) with k1|k1
   ·rcases Bool.eq_false_or_eq_true (opV m (i + 2)==46) with k3|k3
    ·rw [k1,k3] at hb
     have hle2:(((((yh m.clauses i).map qN).length:Nat):Int)==0)=false:=by rw [hle];simpa using hb
     repeat' (first|refine zD 3 22 rfl rfl rfl ?_|refine yw ([]) zy rfl rfl rfl tH (yH hle2 11) ?_|(refine shC ?_;first|refine qC c0 ?_|refine qC c1 ?_|refine qC c2 ?_|refine qC cc ?_)|refine sK ?_|refine sC (fun _=>?_) (fun _=>?_)|fail)
     exact qm hz (by decide)
    ·repeat' (first|refine zD 3 22 rfl rfl rfl ?_|refine yw ([]) zy rfl rfl rfl tH (yH rfl 11) ?_|(refine shC ?_;first|refine qC c0 ?_|refine qC c1 ?_|refine qC c2 ?_|refine qC cc ?_)|refine sK ?_|refine sC (fun _=>?_) (fun _=>?_)|fail)
     exact qm hz (by decide)
   ·rcases Bool.eq_false_or_eq_true (opV m (i + 1)==44) with k2|k2
    ·rcases Bool.eq_false_or_eq_true (opV m (i + 2)==46) with k3|k3
     ·rw [k1,k2,k3] at hb
      have hle2:(((((yh m.clauses i).map qN).length:Nat):Int)==0)=false:=by rw [hle];simpa using hb
      repeat' (first|refine zD 3 22 rfl rfl rfl ?_|refine yw ([]) zy rfl rfl rfl tH (yH hle2 11) ?_|(refine shC ?_;first|refine qC c0 ?_|refine qC c1 ?_|refine qC c2 ?_|refine qC cc ?_)|refine sK ?_|refine sC (fun _=>?_) (fun _=>?_)|fail)
      exact qm hz (by decide)
     ·repeat' (first|refine zD 3 22 rfl rfl rfl ?_|refine yw ([]) zy rfl rfl rfl tH (yH rfl 11) ?_|(refine shC ?_;first|refine qC c0 ?_|refine qC c1 ?_|refine qC c2 ?_|refine qC cc ?_)|refine sK ?_|refine sC (fun _=>?_) (fun _=>?_)|fail)
      exact qm hz (by decide)
    ·repeat' (first|refine zD 3 22 rfl rfl rfl ?_|refine yw ([]) zy rfl rfl rfl tH (yH rfl 11) ?_|(refine shC ?_;first|refine qC c0 ?_|refine qC c1 ?_|refine qC c2 ?_|refine qC cc ?_)|refine sK ?_|refine sC (fun _=>?_) (fun _=>?_)|fail)
     exact qm hz (by decide)
  ·simp only [Bool.and_eq_true,Bool.or_eq_true] at hb
   obtain ⟨⟨hb1,hb2⟩,hb3⟩:=hb
   have hin:(i + 1).toNat < m.code.length:=by
    rcases Nat.lt_or_ge (i + 1).toNat m.code.length with h|h
    ·exact h
    ·have:opV m (i + 1)=0:=by rw [opV];simp;omega
     rw [this] at hb1;simp at hb1
   obtain ⟨⟨ha0,ha1⟩,hpl⟩:=hc (by simpa using hwb) (by simpa using hb1)
   have hei:(m.code.map zY)[(IntKind.i64.wrap (i + 1)).toNat]?=some (zY (zX m (i + 1))):=by rw [hwr,zX,zx hin];exact zA hin
   have hem:(g.methods.map zG)[(zX m (i + 1)).arg.toNat]?=some (zG (qJ g m i)):=by rw [qJ,mAt,zx ha1];exact zA ha1
   have hle:(((((yh m.clauses i).map qN).length:Nat):Int)==0)=true:=by
    have:yh m.clauses i=[]:=by simpa using hb3
    rw [this];rfl
   have hbb:((opV m (i + 1)==43||opV m (i + 1)==44)&&opV m (i + 2)==46&&(yh m.clauses i).isEmpty)=true:=by simp only [hb2,hb3,Bool.and_true];simpa using hb1
   have hz:tailV g m i=if !tyB (qJ g m i).ret m.ret then 10 else if (Xc g (qJ g m i)).any (fun t=>t.ref) then 13 else 0:=by rw [tailV,h47,hbb];rfl
   have cA:=zjq g (qJ g m i) (by omega)
   have cF:=Yl (Xc g (qJ g m i)) (fun t=>t.ref) 101 [] [] (fun t _=>zns t)
   have hix:(0:Int)≤IntKind.i64.wrap (i + 1):=by omega
   generalize zX m (i + 1)=x at *
   generalize qJ g m i=c at *
   cases ht:tyB c.ret m.ret
   ·have hz2:tailV g m i=10:=by rw [hz,ht];rfl
    rcases Bool.eq_false_or_eq_true (opV m (i + 1)==43) with k1|k1
    ·repeat' (first|refine yE 1 13 0 zh rfl (by kernel_rfl) (by kernel_rfl) (by kernel_rfl) rfl rfl rfl rfl rfl rfl rfl rfl rfl rfl rfl rfl rfl rfl (fun _=>rfl) rfl rfl rfl ?_|refine ⟨_,_,rfl,rfl,rfl,?_⟩|refine zD 5 6 rfl rfl rfl ?_|refine yw ([]) zy rfl rfl rfl tH (yH ht 10) ?_|(refine shC ?_;first|refine qC c0 ?_|refine qC c1 ?_|refine qC c2 ?_|refine qC cc ?_|refine qC (yu hle 11) ?_)|(refine shX ?_;first|refine zu rfl (zk zh rfl rfl rfl rfl rfl rfl hix hei) rfl rfl ?_|refine AD.step _ _ _ _ _ rfl (zk zh rfl rfl rfl rfl rfl rfl hix hei) rfl rfl ?_|refine zu rfl (zk zh rfl rfl rfl rfl rfl rfl ha0 hem) rfl rfl ?_|refine AD.step _ _ _ _ _ rfl (zk zh rfl rfl rfl rfl rfl rfl ha0 hem) rfl rfl ?_)|refine sK ?_|refine sC (fun _=>?_) (fun _=>?_)|fail)
     exact qm hz2 (by decide)
    ·have k2:(opV m (i + 1)==44)=true:=by rw [k1] at hb1;simpa using hb1
     repeat' (first|refine yE 1 13 0 zh rfl (by kernel_rfl) (by kernel_rfl) (by kernel_rfl) rfl rfl rfl rfl rfl rfl rfl rfl rfl rfl rfl rfl rfl rfl (fun _=>rfl) rfl rfl rfl ?_|refine ⟨_,_,rfl,rfl,rfl,?_⟩|refine zD 5 6 rfl rfl rfl ?_|refine yw ([]) zy rfl rfl rfl tH (yH ht 10) ?_|(refine shC ?_;first|refine qC c0 ?_|refine qC c1 ?_|refine qC c2 ?_|refine qC cc ?_|refine qC (yu hle 11) ?_)|(refine shX ?_;first|refine zu rfl (zk zh rfl rfl rfl rfl rfl rfl hix hei) rfl rfl ?_|refine AD.step _ _ _ _ _ rfl (zk zh rfl rfl rfl rfl rfl rfl hix hei) rfl rfl ?_|refine zu rfl (zk zh rfl rfl rfl rfl rfl rfl ha0 hem) rfl rfl ?_|refine AD.step _ _ _ _ _ rfl (zk zh rfl rfl rfl rfl rfl rfl ha0 hem) rfl rfl ?_)|refine sK ?_|refine sC (fun _=>?_) (fun _=>?_)|fail)
     exact qm hz2 (by decide)
   ·cases ha:(Xc g c).any fun t=>t.ref
    ·have hz2:tailV g m i=0:=by rw [hz,ht,ha];rfl
     rw [ha] at cF
     rcases Bool.eq_false_or_eq_true (opV m (i + 1)==43) with k1|k1
     ·repeat' (first|refine yE 1 13 0 zh rfl (by kernel_rfl) (by kernel_rfl) (by kernel_rfl) rfl rfl rfl rfl rfl rfl rfl rfl rfl rfl rfl rfl rfl rfl (fun _=>rfl) rfl rfl rfl ?_|refine ⟨_,_,rfl,rfl,rfl,?_⟩|(refine shC ?_;first|refine qC c0 ?_|refine qC c1 ?_|refine qC c2 ?_|refine qC cc ?_|refine qC (yu hle 11) ?_|refine qC (yu ht 10) ?_|refine qC cA ?_|refine qC cF ?_|refine qC (yu rfl 13) ?_)|(refine shX ?_;first|refine zu rfl (zk zh rfl rfl rfl rfl rfl rfl hix hei) rfl rfl ?_|refine AD.step _ _ _ _ _ rfl (zk zh rfl rfl rfl rfl rfl rfl hix hei) rfl rfl ?_|refine zu rfl (zk zh rfl rfl rfl rfl rfl rfl ha0 hem) rfl rfl ?_|refine AD.step _ _ _ _ _ rfl (zk zh rfl rfl rfl rfl rfl rfl ha0 hem) rfl rfl ?_)|refine sK ?_|refine sC (fun _=>?_) (fun _=>?_)|fail)
      exact Zw hz2 (.inl rfl)
     ·have k2:(opV m (i + 1)==44)=true:=by rw [k1] at hb1;simpa using hb1
      repeat' (first|refine yE 1 13 0 zh rfl (by kernel_rfl) (by kernel_rfl) (by kernel_rfl) rfl rfl rfl rfl rfl rfl rfl rfl rfl rfl rfl rfl rfl rfl (fun _=>rfl) rfl rfl rfl ?_|refine ⟨_,_,rfl,rfl,rfl,?_⟩|(refine shC ?_;first|refine qC c0 ?_|refine qC c1 ?_|refine qC c2 ?_|refine qC cc ?_|refine qC (yu hle 11) ?_|refine qC (yu ht 10) ?_|refine qC cA ?_|refine qC cF ?_|refine qC (yu rfl 13) ?_)|(refine shX ?_;first|refine zu rfl (zk zh rfl rfl rfl rfl rfl rfl hix hei) rfl rfl ?_|refine AD.step _ _ _ _ _ rfl (zk zh rfl rfl rfl rfl rfl rfl hix hei) rfl rfl ?_|refine zu rfl (zk zh rfl rfl rfl rfl rfl rfl ha0 hem) rfl rfl ?_|refine AD.step _ _ _ _ _ rfl (zk zh rfl rfl rfl rfl rfl rfl ha0 hem) rfl rfl ?_)|refine sK ?_|refine sC (fun _=>?_) (fun _=>?_)|fail)
      exact Zw hz2 (.inl rfl)
    ·have hz2:tailV g m i=13:=by rw [hz,ht,ha];rfl
     rw [ha] at cF
     rcases Bool.eq_false_or_eq_true (opV m (i + 1)==43) with k1|k1
     ·repeat' (first|refine yE 1 13 0 zh rfl (by kernel_rfl) (by kernel_rfl) (by kernel_rfl) rfl rfl rfl rfl rfl rfl rfl rfl rfl rfl rfl rfl rfl rfl (fun _=>rfl) rfl rfl rfl ?_|refine ⟨_,_,rfl,rfl,rfl,?_⟩|refine zD 6 6 rfl rfl rfl ?_|refine yw ([]) zy rfl rfl rfl tH (yH rfl 13) ?_|(refine shC ?_;first|refine qC c0 ?_|refine qC c1 ?_|refine qC c2 ?_|refine qC cc ?_|refine qC (yu hle 11) ?_|refine qC (yu ht 10) ?_|refine qC cA ?_|refine qC cF ?_)|(refine shX ?_;first|refine zu rfl (zk zh rfl rfl rfl rfl rfl rfl hix hei) rfl rfl ?_|refine AD.step _ _ _ _ _ rfl (zk zh rfl rfl rfl rfl rfl rfl hix hei) rfl rfl ?_|refine zu rfl (zk zh rfl rfl rfl rfl rfl rfl ha0 hem) rfl rfl ?_|refine AD.step _ _ _ _ _ rfl (zk zh rfl rfl rfl rfl rfl rfl ha0 hem) rfl rfl ?_)|refine sK ?_|refine sC (fun _=>?_) (fun _=>?_)|fail)
      exact qm hz2 (by decide)
     ·have k2:(opV m (i + 1)==44)=true:=by rw [k1] at hb1;simpa using hb1
      repeat' (first|refine yE 1 13 0 zh rfl (by kernel_rfl) (by kernel_rfl) (by kernel_rfl) rfl rfl rfl rfl rfl rfl rfl rfl rfl rfl rfl rfl rfl rfl (fun _=>rfl) rfl rfl rfl ?_|refine ⟨_,_,rfl,rfl,rfl,?_⟩|refine zD 6 6 rfl rfl rfl ?_|refine yw ([]) zy rfl rfl rfl tH (yH rfl 13) ?_|(refine shC ?_;first|refine qC c0 ?_|refine qC c1 ?_|refine qC c2 ?_|refine qC cc ?_|refine qC (yu hle 11) ?_|refine qC (yu ht 10) ?_|refine qC cA ?_|refine qC cF ?_)|(refine shX ?_;first|refine zu rfl (zk zh rfl rfl rfl rfl rfl rfl hix hei) rfl rfl ?_|refine AD.step _ _ _ _ _ rfl (zk zh rfl rfl rfl rfl rfl rfl hix hei) rfl rfl ?_|refine zu rfl (zk zh rfl rfl rfl rfl rfl rfl ha0 hem) rfl rfl ?_|refine AD.step _ _ _ _ _ rfl (zk zh rfl rfl rfl rfl rfl rfl ha0 hem) rfl rfl ?_)|refine sK ?_|refine sC (fun _=>?_) (fun _=>?_)|fail)
      exact qm hz2 (by decide)
 ·have hz:tailV g m i=0:=by rw [tailV,h47];rfl
  repeat' (first|(refine shC ?_;first|refine qC c0 ?_)|refine sK ?_|refine sC (fun _=>?_) (fun _=>?_)|fail)
  exact Zw hz (.inr rfl)
set_option maxHeartbeats 8000000 in
theorem zk4 (g:Img) (m:Me) (hm:ClOk m) (i:Int) (h0:0≤i) (h1:i.toNat < m.code.length):Xp Tryz.prog 52 [.pv (Qs g m),.pv (pi i)] [] (zef (yM m i)):=by
 have hmc:=hm.code
 have c0:=zc1 g m i
 have cc:ACall Tryz.prog 57 [cls m.clauses,pi i] (rgs (yh m.clauses i)):=zdw m.clauses i hm.n (hm.s i)
 have hcc:=fun x (hx:x∈yh m.clauses i)=>Wn hx
 have hiv:yM m i=yM m i:=rfl
 conv at hiv=>rhs;rw [yM]
 generalize yh m.clauses i=c at *
 refine yO zh Tryz.func52 rfl (by kernel_rfl) Tryz.ntmps52 (by simp) _ rfl (fun gB hw1=>?_)
 rcases Bool.eq_false_or_eq_true (opV m i==46) with k1|k1
 ·rw [k1,if_pos rfl] at hiv
  have hle:((((c.map qN).length:Nat):Int)==0)=c.isEmpty:=by cases c <;> simp;omega
  cases he:c.isEmpty
  ·rw [he] at hle hiv
   repeat' (first|refine zD 4 3 rfl rfl rfl ?_|refine yw ([]) zy rfl rfl rfl tH (yH hle 12) ?_|(refine shC ?_;first|refine qC cc ?_|refine qC c0 ?_)|refine sK ?_|refine sC (fun _=>?_) (fun _=>?_)|fail)
   exact qm hiv (by decide)
  ·rw [he] at hle hiv
   repeat' (first|(refine shC ?_;first|refine qC cc ?_|refine qC c0 ?_|refine qC (yu hle 12) ?_)|refine sK ?_|refine sC (fun _=>?_) (fun _=>?_)|fail)
   exact Zw hiv (.inl rfl)
 ·rw [k1,if_neg (by simp)] at hiv
  rcases Bool.eq_false_or_eq_true (opV m i==70) with k2|k2
  ·rw [k2,if_pos rfl] at hiv
   have ci:=zbV c (fun r=>r.p != 1) 98 [] [] (fun r _=>zjY r)
   cases ha:c.any (fun r=>r.p != 1)
   ·have e:zjG c (fun r=>r.p != 1) = -1:=by rw [zjG,ha];rfl
    have hz:yM m i=12:=by
     have:c.find? (fun r=>r.p != 1)=none:=by rw [List.find?_eq_none];rw [List.any_eq_false] at ha;exact ha
     rw [hiv,this]
    rw [e] at ci
    repeat' (first|refine Yh 11 10 rfl (by kernel_rfl) (by kernel_rfl) (by kernel_rfl) (by kernel_rfl) (by kernel_rfl) ?_|refine yw ([]) zy rfl rfl rfl tH (yH rfl 12) ?_|(refine shC ?_;first|refine qC cc ?_|refine qC c0 ?_|refine qC ci ?_)|refine sK ?_|refine sC (fun _=>?_) (fun _=>?_)|fail)
    exact qm hz (by decide)
   ·have e:zjG c (fun r=>r.p != 1)=((c.findIdx (fun r=>r.p != 1):Nat):Int):=by rw [zjG,ha];rfl
    have hlt:c.findIdx (fun r=>r.p != 1) < c.length:=List.findIdx_lt_length.2 (by simpa using ha)
    have hf:c.find? (fun r=>r.p != 1)=some c[c.findIdx (fun r=>r.p != 1)]:=by rw [List.find?_eq_getElem?_findIdx,List.getElem?_eq_getElem hlt]
    have he:=zA (f:=qN) hlt
    have hr:=hcc _ (List.getElem_mem hlt)
    rw [hf] at hiv
    rw [e] at ci
    generalize c[c.findIdx (fun r=>r.p != 1)]=r at *
    generalize c.findIdx (fun r=>r.p != 1)=k at *
    have ch:=zd4 g m r 1 2 hr.1 hr.2
    have hd:decide ((0:Int)≤((k:Nat):Int))=true:=decide_eq_true (by omega)
    cases hh:ZN m r 1 2
    ·rw [hh] at ch
     have hz:yM m i=12:=by rw [hiv];show (if ZN m r 1 2=true then 0 else 12)=(12:Int);rw [hh];rfl
     repeat' (first|refine Yh 11 10 rfl (by kernel_rfl) (by kernel_rfl) (by kernel_rfl) (by kernel_rfl) (by kernel_rfl) ?_|refine yw ([]) zy rfl rfl rfl tH (yH rfl 12) ?_|(refine shC ?_;first|refine qC cc ?_|refine qC c0 ?_|refine qC ci ?_|refine qC ch ?_)|(refine shX ?_;first|refine qX he ?_)|refine sK ?_|refine sC (fun _=>?_) (fun _=>?_)|fail)
     exact qm hz (by decide)
    ·rw [hh] at ch
     have hz:yM m i=0:=by rw [hiv];show (if ZN m r 1 2=true then 0 else 12)=(0:Int);rw [hh];rfl
     repeat' (first|(refine shC ?_;first|refine qC cc ?_|refine qC c0 ?_|refine qC ci ?_|refine qC ch ?_|refine qC (yu rfl 12) ?_)|(refine shX ?_;first|refine qX he ?_)|refine sK ?_|refine sC (fun _=>?_) (fun _=>?_)|fail)
     exact Zw hz (.inl rfl)
  ·rw [k2,if_neg (by simp)] at hiv
   rcases Bool.eq_false_or_eq_true (opV m i==72) with k3|k3
   ·rw [k3,if_pos rfl] at hiv
    cases c with
    | nil =>
     repeat' (first|refine Yh 11 10 rfl (by kernel_rfl) (by kernel_rfl) (by kernel_rfl) (by kernel_rfl) (by kernel_rfl) ?_|refine yw ([]) zy rfl rfl rfl tH (yH rfl 12) ?_|(refine shC ?_;first|refine qC cc ?_|refine qC c0 ?_)|refine sK ?_|refine sC (fun _=>?_) (fun _=>?_)|fail)
     exact qm hiv (by decide)
    | cons r c =>
     have hr:=hcc r (by simp)
     have ch:=zd4 g m r 3 4 hr.1 hr.2
     have hd:decide ((0:Int) < ((((r::c).map qN).length:Nat):Int))=true:=decide_eq_true (by simp)
     have he:((r::c).map qN)[(0:Int).toNat]?=some (qN r):=rfl
     cases hh:ZN m r 3 4
     ·rw [hh] at ch
      have hz:yM m i=12:=by rw [hiv];show (if ZN m r 3 4=true then 0 else 12)=(12:Int);rw [hh];rfl
      repeat' (first|refine Yh 11 10 rfl (by kernel_rfl) (by kernel_rfl) (by kernel_rfl) (by kernel_rfl) (by kernel_rfl) ?_|refine yw ([]) zy rfl rfl rfl tH (yH rfl 12) ?_|(refine shC ?_;first|refine qC cc ?_|refine qC c0 ?_|refine qC ch ?_)|(refine shX ?_;first|refine qX he ?_)|refine sK ?_|refine sC (fun _=>?_) (fun _=>?_)|fail)
      exact qm hz (by decide)
     ·rw [hh] at ch
      have hz:yM m i=0:=by rw [hiv];show (if ZN m r 3 4=true then 0 else 12)=(0:Int);rw [hh];rfl
      repeat' (first|(refine shC ?_;first|refine qC cc ?_|refine qC c0 ?_|refine qC ch ?_|refine qC (yu rfl 12) ?_)|(refine shX ?_;first|refine qX he ?_)|refine sK ?_|refine sC (fun _=>?_) (fun _=>?_)|fail)
      exact Zw hz (.inl rfl)
   ·rw [k3,if_neg (by simp)] at hiv
    rcases Bool.eq_false_or_eq_true (opV m i==73) with k4|k4
    ·rw [k4,if_pos rfl] at hiv
     cases c with
     | nil =>
      repeat' (first|refine Yh 26 25 rfl (by kernel_rfl) (by kernel_rfl) (by kernel_rfl) (by kernel_rfl) (by kernel_rfl) ?_|refine yw ([]) zy rfl rfl rfl tH (yH rfl 12) ?_|(refine shC ?_;first|refine qC cc ?_|refine qC c0 ?_)|refine sK ?_|refine sC (fun _=>?_) (fun _=>?_)|fail)
      exact qm hiv (by decide)
     | cons r c =>
      have hr:=hcc r (by simp)
      have hwr:IntKind.i64.wrap (i + 1)=i + 1:=wrap_in (by omega) (by omega)
      have hd:decide ((0:Int) < ((((r::c).map qN).length:Nat):Int))=true:=decide_eq_true (by simp)
      have he:((r::c).map qN)[(0:Int).toNat]?=some (qN r):=rfl
      have hec:(m.clauses.map yI)[r.c.toNat]?=some (yI (clV m r)):=zaq hr.2
      have hiv2:yM m i=if r.p==3&&(clV m r).hf==IntKind.i64.wrap (i + 1) then 0 else 12:=by rw [hiv,hwr]
      generalize clV m r=cl at *
      have hrc:=hr.1
      cases h3:(r.p==3)
      ·have hz:yM m i=12:=by rw [hiv2,h3];rfl
       repeat' (first|refine Yh 26 25 rfl (by kernel_rfl) (by kernel_rfl) (by kernel_rfl) (by kernel_rfl) (by kernel_rfl) ?_|refine yw ([]) zy rfl rfl rfl tH (yH rfl 12) ?_|(refine shC ?_;first|refine qC cc ?_|refine qC c0 ?_)|(refine shX ?_;first|refine qX he ?_)|refine sK ?_|refine sC (fun _=>?_) (fun _=>?_)|fail)
       exact qm hz (by decide)
      ·cases hh:(cl.hf==IntKind.i64.wrap (i + 1))
       ·have hz:yM m i=12:=by rw [hiv2,h3,hh];rfl
        repeat' (first|refine Yh 26 25 rfl (by kernel_rfl) (by kernel_rfl) (by kernel_rfl) (by kernel_rfl) (by kernel_rfl) ?_|refine yw ([]) zy rfl rfl rfl tH (yH hh 12) ?_|(refine shC ?_;first|refine qC cc ?_|refine qC c0 ?_)|(refine shX ?_;first|refine qX he ?_|refine zu rfl (zk zh rfl rfl rfl rfl rfl rfl hrc hec) rfl rfl ?_|refine AD.step _ _ _ _ _ rfl (zk zh rfl rfl rfl rfl rfl rfl hrc hec) rfl rfl ?_)|refine sK ?_|refine sC (fun _=>?_) (fun _=>?_)|fail)
        exact qm hz (by decide)
       ·have hz:yM m i=0:=by rw [hiv2,h3,hh];rfl
        repeat' (first|(refine shC ?_;first|refine qC cc ?_|refine qC c0 ?_|refine qC (yu hh 12) ?_)|(refine shX ?_;first|refine qX he ?_|refine zu rfl (zk zh rfl rfl rfl rfl rfl rfl hrc hec) rfl rfl ?_|refine AD.step _ _ _ _ _ rfl (zk zh rfl rfl rfl rfl rfl rfl hrc hec) rfl rfl ?_)|refine sK ?_|refine sC (fun _=>?_) (fun _=>?_)|fail)
        exact Zw hz (.inl rfl)
    ·rw [k4,if_neg (by simp)] at hiv
     repeat' (first|(refine shC ?_;first|refine qC cc ?_|refine qC c0 ?_)|refine sK ?_|refine sC (fun _=>?_) (fun _=>?_)|fail)
     exact Zw hiv (.inl rfl)
set_option maxHeartbeats 1000000 in
theorem zmp (g:Img) (m:Me) (hm:ClOk m):ACall Tryz.prog 28 [Qs g m] (pb (zbL m)):=by
 have cc:ACall Tryz.prog 57 [cls m.clauses,pi 0] (rgs (yh m.clauses 0)):=zdw m.clauses 0 hm.n (hm.s 0)
 have cf:=zds (yh m.clauses 0) (fun r=>r.p != 1||(clV m r).tf != 0) 58 [] [.ptr (Qs g m) 0] (fun r hr=>zjF g m r (Wn hr).1 (Wn hr).2)
 refine zf zh Tryz.func28 rfl (by kernel_rfl) Tryz.ntmps28 (by simp) _ rfl (fun hw gB hgB=>?_)
 rw [zbL]
 generalize (yh m.clauses 0).any (fun r=>r.p != 1||(clV m r).tf != 0)=b at cf ⊢
 repeat' (first|(refine shC ?_;first|refine qC cc ?_|refine qC cf ?_)|refine sK ?_|refine sC (fun _=>?_) (fun _=>?_)|fail)
 exact retq rfl rfl
end Go.Cg
