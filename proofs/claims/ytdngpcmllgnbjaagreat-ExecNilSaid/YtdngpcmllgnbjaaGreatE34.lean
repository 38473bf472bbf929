/- A part of the walks by abstract values: no statement of its own. -/
import Derived.Test.YtdngpcmllgnbjaaGreatE27
import Derived.Test.YtdngpcmllgnbjaaGreatE30
import Derived.Test.YtdngpcmllgnbjaaGreatE29
import Derived.Test.YtdngpcmllgnbjaaGreatE18
import Derived.Test.YtdngpcmllgnbjaaGreatE26
set_option linter.unusedVariables false
set_option linter.unusedSimpArgs false
namespace Go.Cg
open Go.Proofs
set_option maxHeartbeats 20000000
theorem zf1 (c:List Pt) (at_:Int):qh c at_≤c.length:=by
 unfold qh
 induction c with
 | nil=>simp
 | cons x c ih=>rw [List.takeWhile_cons];split <;> simp;omega
theorem ziF (x:Pt) (c:List Pt) (at_:Int):qh (x::c) at_=if x.p==1&&x.f==at_ then qh c at_ + 1 else 0:=by
 unfold qh
 rw [List.takeWhile_cons];split <;> simp
theorem zeD (c:List Pt) (at_:Int) (hl:c.length≤1000):ACall Tryz.prog 319 [pts c,pi at_] (pi (qh c at_)):=by
 refine zf zh Tryz.func319 rfl (by kernel_rfl) Tryz.ntmps319 (by simp) _ rfl (fun hw gB hgB=>?_)
 repeat' (first|refine sA ?_|refine sC (fun _=>?_) (fun _=>?_)|fail)
 refine zB (fun k:Nat=>[(0,.pv (pts c)),(1,.pv (pi at_)),(5,.pv (pi k))]) (fun _=>[]) (fun k=>k≤c.length∧qh c at_=k + qh (c.drop k) at_) (fun k=>c.length - k) 0 ⟨by omega,by simp⟩ (tS) tH ?_
 rintro k ⟨hk,hr⟩
 by_cases hlt:k < c.length
 ·have he:=yc (f:=yg) hlt
  have hd:decide (((k:Nat):Int) < (((c.map yg).length:Nat):Int))=true:=decide_eq_true (by simp;omega)
  rw [drop_cons hlt,ziF] at hr
  generalize c[k]=x at he hr
  cases h1:(x.p==1)
  ·rw [h1] at hr
   repeat' (first|(refine shX ?_;first|refine qX he ?_)|refine sK ?_|refine sC (fun _=>?_) (fun _=>?_)|fail)
   all_goals (refine retq rfl ?_;simp [zn,hr])
  ·cases h2:(x.f==at_)
   ·rw [h1,h2] at hr
    repeat' (first|(refine shX ?_;first|refine qX he ?_)|refine sK ?_|refine sC (fun _=>?_) (fun _=>?_)|fail)
    all_goals (refine retq rfl ?_;simp [zn,hr])
   ·rw [h1,h2] at hr
    repeat' (first|(refine shX ?_;first|refine qX he ?_)|refine sK ?_|refine sC (fun _=>?_) (fun _=>?_)|fail)
    all_goals exact ⟨k + 1,⟨hlt,by rw [hr];simp;omega⟩,tD,tS,tH⟩
 ·have hd:decide (((k:Nat):Int) < (((c.map yg).length:Nat):Int))=false:=decide_eq_false (by simp;omega)
  rw [drop_end (by omega)] at hr
  repeat' (first|refine sK ?_|refine sC (fun _=>?_) (fun _=>?_)|fail)
  have hz:qh c at_=k:=hr
  all_goals (refine retq rfl ?_;rw [hz];rfl)
theorem zoT (x y:Pt):ACall Tryz.prog 374 [yg x,yg y] (pb (zuR x y)):=by
 refine zf zh Tryz.func374 rfl (by kernel_rfl) Tryz.ntmps374 (by simp) _ rfl (fun hw gB hgB=>?_)
 repeat' (first|refine sA ?_|refine sC (fun _=>?_) (fun _=>?_)|fail)
 exact retq rfl rfl
theorem zi2:∀ {a b:List Pt},a.length≠b.length→Vk a b=false
 | [],[],h=>by simp at h
 | [],_::_,_=>rfl
 | _::_,[],_=>rfl
 | x::a,y::b,h=>by rw [Vk,zi2 (a:=a) (b:=b) (by simpa using h),Bool.and_false]
theorem zoQ (a b:List Pt) (hl:a.length≤1000):ACall Tryz.prog 373 [pts a,pts b,.fn (.func 374) [] []] (pb (Vk a b)):=by
 refine zf zh Tryz.func373 rfl (by kernel_rfl) Tryz.ntmps373 (by simp) _ rfl (fun hw gB hgB=>?_)
 by_cases hlen:a.length=b.length
 ·have hc:((((a.map yg).length:Nat):Int) != (((b.map yg).length:Nat):Int))=false:=by simp [hlen]
  repeat' (first|refine sA ?_|refine sC (fun _=>?_) (fun _=>?_)|fail)
  refine zB (fun k:Nat=>[(1,.pv (pts b)),(2,.pv (.fn (.func 374) [] [])),(15,.pv (pts a)),(16,.pv (pi a.length)),(17,.pv (pi k))]) (fun _=>[]) (fun k=>k≤a.length∧Vk a b=Vk (a.drop k) (b.drop k)) (fun k=>a.length - k) 0 ⟨by omega,rfl⟩ (tS) tH ?_
  rintro k ⟨hk,hr⟩
  by_cases hlt:k < a.length
  ·have he:=yc (f:=yg) hlt
   have he2:=yc (f:=yg) (show k < b.length by omega)
   rw [drop_cons hlt,drop_cons (show k < b.length by omega),Vk] at hr
   generalize a[k]=x at he hr
   generalize b[k]=y at he2 hr
   have cs:=zoT x y
   cases hs:zuR x y
   ·rw [hs] at cs hr
    repeat' (first|(refine shC ?_;first|refine qV (cs) ?_)|(refine shX ?_;first|refine qX he ?_|refine qX he2 ?_)|refine sK ?_|refine sC (fun _=>?_) (fun _=>?_)|fail)
    all_goals (refine retq rfl ?_;simp [zn,hr])
   ·rw [hs] at cs hr
    repeat' (first|(refine shC ?_;first|refine qV (cs) ?_)|(refine shX ?_;first|refine qX he ?_|refine qX he2 ?_)|refine sK ?_|refine sC (fun _=>?_) (fun _=>?_)|fail)
    exact ⟨k + 1,⟨hlt,hr⟩,tD,tS,tH⟩
  ·rw [drop_end (by omega),drop_end (by omega)] at hr
   repeat' (first|refine sK ?_|refine sC (fun _=>?_) (fun _=>?_)|fail)
   all_goals (refine retq rfl ?_;rw [hr];rfl)
 ·have hc:((((a.map yg).length:Nat):Int) != (((b.map yg).length:Nat):Int))=true:=by simp;omega
  have hr:=zi2 hlen
  repeat' (first|refine sA ?_|refine sC (fun _=>?_) (fun _=>?_)|fail)
  all_goals (refine retq rfl ?_;rw [hr];rfl)
theorem zjy (a b:List Pt) (hl:a.length≤1000):ACall Tryz.prog 320 [pts a,pts b] (pb (Vk a b)):=by
 have c:=zoQ a b hl
 refine zf zh Tryz.func320 rfl (by kernel_rfl) Tryz.ntmps320 (by simp) _ rfl (fun hw gB hgB=>?_)
 repeat' (first|(refine shC ?_;first|refine qC c ?_)|refine sA ?_|refine sC (fun _=>?_) (fun _=>?_)|fail)
 exact retq rfl rfl
theorem zla {b a:List Pt} {to:Int} {k:Nat} (hk:k≤qh b to) (h:Vk (b.drop k) a=true):zkK b to a=true:=by
 rw [zkK,List.any_eq_true]
 exact ⟨k,List.mem_range.2 (by omega),h⟩
theorem zo5 {b a:List Pt} {to:Int} (h:∀ j,j < qh b to + 1→Vk (b.drop j) a=false):zkK b to a=false:=by
 rw [zkK,List.any_eq_false]
 intro k hk
 rw [h k (List.mem_range.1 hk)];simp
set_option maxHeartbeats 20000000
theorem zaQ {l:List Cl} {at_:Int} (hl:l.length≤6):(yU l at_).length≤18:=by have:=zn4 l at_;omega
theorem zdk (l:List Cl) (at_:Int) (hl:l.length≤6) (hs:∀ x∈zcJ at_ l,SmP x):ACall Tryz.prog 264 [cls l,pi at_] (.slc 2 ((yU l at_).map fun x=>.agg [pi x.c,pi x.p]) false):=by
 have cc:=Vb l at_ hl hs
 have hcl:=zaQ (at_:=at_) hl
 obtain ⟨c,hc⟩:∃ c,c=yU l at_:=⟨_,rfl⟩
 rw [←hc] at cc hcl ⊢
 refine zf zh Tryz.func264 rfl (by kernel_rfl) Tryz.ntmps264 (by simp) _ rfl (fun hw gB hgB=>?_)
 repeat' (first|refine ZC (t:=5) 20 327 2 (by decide) rfl rfl ?_|(refine shC ?_;first|refine qC cc ?_)|refine sA ?_|refine sC (fun _=>?_) (fun _=>?_)|fail)
 refine zB (fun k:Nat=>[(5,.own 20),(10,.pv (pts c)),(11,.pv (pi c.length)),(12,.pv (pi k))]) (fun k=>[(20,.row 327 2 ((c.take k).map fun x=>.agg [pi x.c,pi x.p]))]) (fun k=>k≤c.length) (fun k=>c.length - k) 0 (by omega) (tS) ⟨zi rfl zk,rfl⟩ ?_
 rintro k hk
 by_cases hlt:k < c.length
 ·have he:=yc (f:=yg) hlt
  have hst:(c.take (k + 1)).map (fun x=>PV.agg [pi x.c,pi x.p])=(c.take k).map (fun x=>PV.agg [pi x.c,pi x.p])++[.agg [pi c[k].c,pi c[k].p]]:=by rw [List.take_succ_eq_append_getElem hlt,List.map_append];rfl
  generalize c[k]=x at he hst
  have htl:(c.take k).length≤18:=by simp;omega
  repeat' (first|(refine shX ?_;first|refine qX he ?_)|(refine zL ?_;first|refine zX zh rfl rfl rfl rfl rfl rfl rfl (by show _ * 16≤_;simp;omega) (by simp;omega) rfl rfl ?_)|refine sK ?_|refine sC (fun _=>?_) (fun _=>?_)|fail)
  exact ⟨k + 1,hlt,tD,tS,⟨zi (by rw [hst];rfl) zk,rfl⟩⟩
 ·have hk2:k=c.length:=by omega
  subst hk2
  repeat' (first|refine sK ?_|refine sC (fun _=>?_) (fun _=>?_)|fail)
  exact retq rfl (by rw [List.take_length];rfl)
theorem ziP (l:List Cl) (i to:Int) (hl:l.length≤6) (hs:∀ x∈zcJ i l,SmP x) (hs2:∀ x∈zcJ to l,SmP x):ACall Tryz.prog 305 [cls l,pi i,pi to] (pb (zga l i to)):=by
 have c1:=Vb l i hl hs
 have c2:=Vb l to hl hs2
 have ha:=zaQ (at_:=i) hl
 have hb:=zaQ (at_:=to) hl
 rw [zga]
 obtain ⟨a,haa⟩:∃ a,a=yU l i:=⟨_,rfl⟩
 obtain ⟨b,hbb⟩:∃ b,b=yU l to:=⟨_,rfl⟩
 rw [←haa] at c1 ha ⊢
 rw [←hbb] at c2 hb ⊢
 have ce:=zeD b to (by omega)
 have hel:=zf1 b to
 refine zf zh Tryz.func305 rfl (by kernel_rfl) Tryz.ntmps305 (by simp) _ rfl (fun hw gB hgB=>?_)
 repeat' (first|(refine shC ?_;first|refine qC c1 ?_|refine qC c2 ?_)|refine sA ?_|refine sC (fun _=>?_) (fun _=>?_)|fail)
 refine zB (fun k:Nat=>[(2,.pv (pi to)),(7,.pv (pts a)),(8,.pv (pts b)),(9,.pv (pi k))]) (fun _=>[]) (fun k=>k≤qh b to + 1∧∀ j,j < k→Vk (b.drop j) a=false) (fun k=>qh b to + 1 - k) 0 ⟨by omega,fun j hj=>absurd hj (Nat.not_lt_zero j)⟩ (tS) tH ?_
 rintro k ⟨hk,hno⟩
 by_cases hlt:k < qh b to + 1
 ·have hd:decide (((k:Nat):Int)≤((qh b to:Nat):Int))=true:=decide_eq_true (by omega)
  have cs:=zjy ((b.take b.length).drop k) a (by simp;omega)
  have ht:(b.take b.length).drop k=b.drop k:=by rw [List.take_length]
  cases hsm:Vk (b.drop k) a
  ·rw [ht,hsm,←ht] at cs
   repeat' (first|refine zo rfl (qY (xs:=b) (f:=yg) k b.length zh rfl rfl rfl rfl rfl rfl (by simp [YO]) (by omega) (by omega)) rfl rfl ?_|(refine shC ?_;first|refine qC ce ?_|refine qC cs ?_)|refine sK ?_|refine sC (fun _=>?_) (fun _=>?_)|fail)
   exact ⟨k + 1,⟨hlt,fun j hj=>by
    by_cases e:j=k
    ·subst e;exact hsm
    ·exact hno j (by omega)⟩,tD,tS,tH⟩
  ·rw [ht,hsm,←ht] at cs
   repeat' (first|refine zo rfl (qY (xs:=b) (f:=yg) k b.length zh rfl rfl rfl rfl rfl rfl (by simp [YO]) (by omega) (by omega)) rfl rfl ?_|(refine shC ?_;first|refine qC ce ?_|refine qC cs ?_)|refine sK ?_|refine sC (fun _=>?_) (fun _=>?_)|fail)
   exact retq rfl (by rw [zla (by omega) hsm];rfl)
 ·have hd:decide (((k:Nat):Int)≤((qh b to:Nat):Int))=false:=decide_eq_false (by omega)
  repeat' (first|(refine shC ?_;first|refine qC ce ?_)|refine sK ?_|refine sC (fun _=>?_) (fun _=>?_)|fail)
  exact retq rfl (by rw [zo5 fun j hj=>hno j (by omega)];rfl)
theorem zj2 {l:List Cl} {a b:List Pt} {to:Int} {k:Nat} (h:k < a.length) (hn:zkK b to (a.drop k)=false):XD l b to (a.drop k)=if zuJ l a[k] then false else XD l b to (a.drop (k + 1)):=by
 rw [drop_cons h] at hn ⊢
 rw [XD,hn];simp
theorem zny (l:List Cl) (i to:Int) (hl:l.length≤6) (hs:∀ x∈zcJ i l,SmP x) (hs2:∀ x∈zcJ to l,SmP x):ACall Tryz.prog 213 [cls l,pi i,pi to] (pb (zh0 l i to)):=by
 have c1:=Vb l i hl hs
 have c2:=Vb l to hl hs2
 have ha:=zaQ (at_:=i) hl
 have hb:=zaQ (at_:=to) hl
 have hmem:∀ x∈yU l i,∃ j,j < l.length∧x.c=(j:Int):=by
  intro x hx
  obtain ⟨j,h1,h2,_⟩:=zif hx
  refine ⟨j,h1,?_⟩
  unfold zU at h2
  split at h2 <;> simp at h2 <;> (rcases h2 with h|h|h <;> first|rfl|(rw [h])|skip) <;> simp_all
 rw [zh0]
 obtain ⟨a,haa⟩:∃ a,a=yU l i:=⟨_,rfl⟩
 obtain ⟨b,hbb⟩:∃ b,b=yU l to:=⟨_,rfl⟩
 rw [←haa] at c1 ha hmem ⊢
 rw [←hbb] at c2 hb ⊢
 have ce:=zeD b to (by omega)
 have hel:=zf1 b to
 refine zf zh Tryz.func213 rfl (by kernel_rfl) Tryz.ntmps213 (by simp) _ rfl (fun hw gB hgB=>?_)
 repeat' (first|(refine shC ?_;first|refine qC c1 ?_|refine qC c2 ?_)|refine sA ?_|refine sC (fun _=>?_) (fun _=>?_)|fail)
 refine zB (fun o:Nat=>[(0,.pv (cls l)),(2,.pv (pi to)),(7,.pv (pts a)),(8,.pv (pts b)),(9,.pv (pi o))]) (fun _=>[]) (fun o=>o≤a.length∧XD l b to a=XD l b to (a.drop o)) (fun o=>a.length + 1 - o) 0 ⟨by omega,rfl⟩ (tS) tH ?_
 rintro o ⟨ho,hr⟩
 have hdo:decide (((o:Nat):Int)≤(((a.map yg).length:Nat):Int))=true:=decide_eq_true (by simp;omega)
 repeat' (first|refine sK ?_|refine sC (fun _=>?_) (fun _=>?_)|fail)
 refine zB (fun k:Nat=>[(0,.pv (cls l)),(2,.pv (pi to)),(7,.pv (pts a)),(8,.pv (pts b)),(9,.pv (pi o)),(10,.pv (pi k))]) (fun _=>[]) (fun k=>k≤qh b to + 1∧∀ j,j < k→Vk (b.drop j) (a.drop o)=false) (fun k=>qh b to + 1 - k) 0 ⟨by omega,fun j hj=>absurd hj (Nat.not_lt_zero j)⟩ (tS) tH ?_
 rintro k ⟨hk,hno⟩
 have hda:(a.take a.length).drop o=a.drop o:=by rw [List.take_length]
 by_cases hlt:k < qh b to + 1
 ·have hd:decide (((k:Nat):Int)≤((qh b to:Nat):Int))=true:=decide_eq_true (by omega)
  have cs:=zjy ((b.take b.length).drop k) ((a.take a.length).drop o) (by simp;omega)
  have ht:(b.take b.length).drop k=b.drop k:=by rw [List.take_length]
  cases hsm:Vk (b.drop k) (a.drop o)
  ·rw [ht,hda,hsm,←ht,←hda] at cs
   repeat' (first|refine AD.step _ _ _ _ _ rfl (qY (xs:=b) (f:=yg) k b.length zh rfl rfl rfl rfl rfl rfl (by simp [YO]) (by omega) (by omega)) rfl rfl ?_|refine AD.step _ _ _ _ _ rfl (qY (xs:=a) (f:=yg) o a.length zh rfl rfl rfl rfl rfl rfl (by simp [YO]) (by omega) (by omega)) rfl rfl ?_|(refine shC ?_;first|refine qC ce ?_|refine qC cs ?_)|refine sK ?_|refine sC (fun _=>?_) (fun _=>?_)|fail)
   exact ⟨k + 1,⟨hlt,fun j hj=>by
    by_cases e:j=k
    ·subst e;exact hsm
    ·exact hno j (by omega)⟩,tD,tS,tH⟩
  ·rw [ht,hda,hsm,←ht,←hda] at cs
   have hy:XD l b to (a.drop o)=true:=by
    have:=zla (show k≤qh b to by omega) hsm
    generalize a.drop o=A at this
    cases A with
    | nil=>exact this
    | cons r A=>rw [XD,if_pos this]
   repeat' (first|refine AD.step _ _ _ _ _ rfl (qY (xs:=b) (f:=yg) k b.length zh rfl rfl rfl rfl rfl rfl (by simp [YO]) (by omega) (by omega)) rfl rfl ?_|refine AD.step _ _ _ _ _ rfl (qY (xs:=a) (f:=yg) o a.length zh rfl rfl rfl rfl rfl rfl (by simp [YO]) (by omega) (by omega)) rfl rfl ?_|(refine shC ?_;first|refine qC ce ?_|refine qC cs ?_)|refine sK ?_|refine sC (fun _=>?_) (fun _=>?_)|fail)
   exact retq rfl (by rw [hr,hy];rfl)
 ·have hd:decide (((k:Nat):Int)≤((qh b to:Nat):Int))=false:=decide_eq_false (by omega)
  have hn:zkK b to (a.drop o)=false:=zo5 fun j hj=>hno j (by omega)
  by_cases hoe:o < a.length
  ·have hoq:(((o:Nat):Int)==(((a.map yg).length:Nat):Int))=false:=by simp;omega
   have hst:=zj2 (l:=l) hoe hn
   have he:=yc (f:=yg) hoe
   obtain ⟨j,hj,hxc⟩:=hmem a[o] (List.getElem_mem hoe)
   generalize a[o]=x at he hst hxc
   have hec:=zcj hj
   have hec':(l.map ZJ)[x.c.toNat]?=some (ZJ (l.getD x.c.toNat default)):=by rw [hxc];exact hec
   have h0:0≤x.c:=by omega
   rw [hst] at hr
   obtain ⟨cl,hcl⟩:∃ cl,cl=l.getD x.c.toNat default:=⟨_,rfl⟩
   rw [zuJ] at hr
   rw [←hcl] at hec' hr
   rcases Bool.eq_false_or_eq_true (x.p==3) with h3|h3 <;> rcases Bool.eq_false_or_eq_true (x.p==2) with h2|h2 <;> rcases Bool.eq_false_or_eq_true (cl.kind==1) with k1|k1 <;> rcases Bool.eq_false_or_eq_true (cl.kind==2) with k2|k2 <;> (
    have k1':(cl.kind != 1)=!(cl.kind==1):=rfl
    have k2':(cl.kind != 2)=!(cl.kind==2):=rfl
    rw [k1] at k1'
    rw [k2] at k2'
    repeat' (first|(refine shC ?_;first|refine qC ce ?_)|(refine shX ?_;first|refine qX he ?_|refine zo rfl (zl zh rfl rfl rfl rfl rfl rfl h0 hec') rfl rfl ?_|refine AD.step _ _ _ _ _ rfl (zl zh rfl rfl rfl rfl rfl rfl h0 hec') rfl rfl ?_)|refine sK ?_|refine sC (fun _=>?_) (fun _=>?_)|fail)
    all_goals first|exact retq rfl (by rw [hr];simp_all [zn];done)|exact ⟨o + 1,⟨hoe,by rw [hr];simp_all⟩,tD,tS,tH⟩)
  ·have hoq:(((o:Nat):Int)==(((a.map yg).length:Nat):Int))=true:=by simp;omega
   rw [drop_end (by omega)] at hr hn
   have hf:XD l b to []=false:=hn
   repeat' (first|(refine shC ?_;first|refine qC ce ?_)|refine sK ?_|refine sC (fun _=>?_) (fun _=>?_)|fail)
   exact retq rfl (by rw [hr,hf];rfl)
set_option maxHeartbeats 20000000
def za7 (x:Pt):PV:=.agg [pi x.c,pi x.p]
def rgs (l:List Pt):PV:=.slc 2 (l.map za7) false
def YR (g:Img) (m:Me):PV:=.agg [.slc 4 (g.types.map qU) false,.slc 7 (g.fields.map ZI) false,.slc 12 (g.methods.map zG) false,pi g.entry,ps m.name,pi m.owner,pi m.flags,tys m.params,pi m.ret.kind,pi m.ret.index,pi m.ret.dims,pb m.ret.ref,tys m.locals,pi m.max,.slc 6 (m.code.map yR) false,.slc 10 (m.clauses.map ZJ) false]
def zke (l:List Pt) (p:Pt→Bool):Int:=if l.any p then ((l.findIdx p:Nat):Int) else -1
theorem zbt (l:List Pt) (p:Pt→Bool) (f:FuncId) (first cap:List PV) (hp:∀ x∈l,ACall Tryz.prog f (first++[za7 x]++cap) (pb (p x))):ACall Tryz.prog 316 [rgs l,.fn (.func f) first cap] (pi (zke l p)):=by
 refine zf zh Tryz.func316 rfl (by kernel_rfl) Tryz.ntmps316 (by simp) _ rfl (fun hw gB hgB=>?_)
 have hl:l.length≤9223372036854775807:=by have:=hw.1;simp [rgs,PV.lenOk,maxLen] at this;exact this.1
 repeat' (first|refine sA ?_|refine sC (fun _=>?_) (fun _=>?_)|fail)
 refine zB (fun k:Nat=>[(0,.pv (rgs l)),(1,.pv (.fn (.func f) first cap)),(7,.pv (pi l.length)),(8,.pv (pi k))]) (fun _=>[]) (fun k=>k≤l.length∧∀ j (h:j < k) (h2:j < l.length),p l[j]=false) (fun k=>l.length - k) 0 ⟨by omega,fun j h=>by omega⟩ (tS) tH ?_
 rintro k ⟨hk,hno⟩
 by_cases hlt:k < l.length
 ·have he:=yc (f:=za7) hlt
  have c1:=hp _ (List.getElem_mem hlt)
  cases hpx:p l[k]
  ·rw [hpx] at c1
   repeat' (first|(refine shC ?_;first|refine qV (c1) ?_)|(refine shX ?_;first|refine qX he ?_)|refine sK ?_|refine sC (fun _=>?_) (fun _=>?_)|fail)
   exact ⟨k + 1,⟨hlt,fun j hj h2=>by
    by_cases e:j=k
    ·subst e;exact hpx
    ·exact hno j (by omega) h2⟩,tD,tS,tH⟩
  ·rw [hpx] at c1
   have hi:l.findIdx p=k:=by
    rw [List.findIdx_eq hlt]
    exact ⟨hpx,fun j hj=>hno j hj (by omega)⟩
   have ha:l.any p=true:=List.any_eq_true.2 ⟨_,List.getElem_mem hlt,hpx⟩
   repeat' (first|(refine shC ?_;first|refine qV (c1) ?_)|(refine shX ?_;first|refine qX he ?_)|refine sK ?_|refine sC (fun _=>?_) (fun _=>?_)|fail)
   exact retq rfl (by simp [zn,zke,ha,hi])
 ·have ha:l.any p=false:=by
   rw [List.any_eq_false]
   intro x hx
   obtain ⟨j,hj,rfl⟩:=List.getElem_of_mem hx
   simp [hno j (by omega) hj]
  repeat' (first|refine sK ?_|refine sC (fun _=>?_) (fun _=>?_)|fail)
  exact retq rfl (by simp [zn,zke,ha])
theorem zdb (l:List Pt) (p:Pt→Bool) (f:FuncId) (first cap:List PV) (hp:∀ x∈l,ACall Tryz.prog f (first++[za7 x]++cap) (pb (p x))):ACall Tryz.prog 263 [rgs l,.fn (.func f) first cap] (pb (l.any p)):=by
 refine zf zh Tryz.func263 rfl (by kernel_rfl) Tryz.ntmps263 (by simp) _ rfl (fun hw gB hgB=>?_)
 have c1:=zbt l p f first cap hp
 repeat' (first|(refine shC ?_;first|refine qC c1 ?_)|refine sA ?_|refine sC (fun _=>?_) (fun _=>?_)|fail)
 refine retq rfl ?_
 have:decide (0≤zke l p)=l.any p:=by
  unfold zke
  cases h:l.any p <;> simp
 simp [zn,this]
abbrev zhV (e:Int):Value:=.iface 244 (.int .i64 e)
theorem yC {b:Bool} (h:b=true) (e:Int):ACall Tryz.prog 144 [pb b,pi e] (.tup []):=by
 subst h
 refine zf zh Tryz.func144 rfl (by kernel_rfl) Tryz.ntmps144 (by simp) _ rfl (fun hw gB hgB=>?_)
 repeat' (first|refine sK ?_|refine sC (fun _=>?_) (fun _=>?_)|fail)
 exact zb0 rfl rfl
theorem yN {b:Bool} (h:b=false) (e:Int):ACallPan Tryz.prog 144 [.pv (pb b),.pv (pi e)] [] (zhV e):=by
 subst h
 refine Vw Tryz.func144 rfl (by kernel_rfl) Tryz.ntmps144 (by simp) (fun gB hw1=>?_)
 repeat' (first|refine zD 1 2 rfl rfl rfl ?_|refine zo rfl (ziX rfl Tryz.underlying244 rfl) rfl rfl ?_|refine zjE rfl rfl rfl ?_|refine sK ?_|refine sC (fun _=>?_) (fun _=>?_)|fail)
 exact rfl
theorem goes_call (w:Int):ACall Tryz.prog 146 [pi w] (.tup [pb (zbP w),pb (zc9 w)]):=by
 refine zf zh Tryz.func146 rfl (by kernel_rfl) Tryz.ntmps146 (by simp) _ rfl (fun hw gB hgB=>?_)
 rcases Bool.eq_false_or_eq_true (w==0) with h0|h0 <;> rcases Bool.eq_false_or_eq_true (w==1) with h1|h1 <;> rcases Bool.eq_false_or_eq_true (w==2) with h2|h2 <;> rcases Bool.eq_false_or_eq_true (w==4) with h4|h4 <;> (
  repeat' (first|refine sK ?_|refine sC (fun _=>?_) (fun _=>?_)|fail)
  all_goals (refine retq rfl ?_;simp [zn,zbP,zc9,h0,h1,h2,h4]))
theorem zm3 (g:Img) (m:Me) (i:Int) (h0:0≤i) (h1:i.toNat < m.code.length):ACall Tryz.prog 147 [YR g m,pi i] (pi (Vx m i)):=by
 have hei:(m.code.map yR)[i.toNat]?=some (yR (yO m i)):=by rw [yO,zM h1];exact yc h1
 refine zf zh Tryz.func147 rfl (by kernel_rfl) Tryz.ntmps147 (by simp) _ rfl (fun hw gB hgB=>?_)
 by_cases hop:1≤(yO m i).op∧(yO m i).op≤75
 ·have co:=zem (yO m i).op hop.1 hop.2
  have hw:Vx m i=(ofI (yO m i).op).2.2:=by rw [Vx,decide_eq_true hop.1,decide_eq_true hop.2];rfl
  repeat' (first|(refine shC ?_;first|refine qC co ?_)|(refine shX ?_;first|refine zo rfl (zl zh rfl rfl rfl rfl rfl rfl h0 hei) rfl rfl ?_|refine AD.step _ _ _ _ _ rfl (zl zh rfl rfl rfl rfl rfl rfl h0 hei) rfl rfl ?_)|refine sK ?_|refine sC (fun _=>?_) (fun _=>?_)|fail)
  exact retq rfl (by rw [hw];rfl)
 ·have co:=zfU (yO m i).op (by omega)
  have hw:Vx m i=0:=by
   rw [Vx]
   split
   ·rename_i h;simp at h;omega
   ·rfl
  repeat' (first|(refine shC ?_;first|refine qC co ?_)|(refine shX ?_;first|refine zo rfl (zl zh rfl rfl rfl rfl rfl rfl h0 hei) rfl rfl ?_|refine AD.step _ _ _ _ _ rfl (zl zh rfl rfl rfl rfl rfl rfl h0 hei) rfl rfl ?_)|refine sK ?_|refine sC (fun _=>?_) (fun _=>?_)|fail)
  exact retq rfl (by rw [hw];rfl)
theorem zch (g:Img) (m:Me) (i:Int):ACall Tryz.prog 262 [YR g m,pi i] (pi (opV m i)):=by
 refine zf zh Tryz.func262 rfl (by kernel_rfl) Tryz.ntmps262 (by simp) _ rfl (fun hw gB hgB=>?_)
 by_cases h0:i < 0
 ·have hd:=decide_eq_true h0
  repeat' (first|refine sK ?_|refine sC (fun _=>?_) (fun _=>?_)|fail)
  all_goals (refine retq rfl ?_;simp [zn,opV,h0])
 ·have hd:=decide_eq_false h0
  by_cases h1:(((m.code.map yR).length:Nat):Int)≤i
  ·have hd1:=decide_eq_true h1
   have hl:(m.code.length:Int)≤i:=by simpa using h1
   repeat' (first|refine sK ?_|refine sC (fun _=>?_) (fun _=>?_)|fail)
   all_goals (refine retq rfl ?_;simp [zn,opV,hl])
  ·have hd1:=decide_eq_false h1
   have hl:¬ (m.code.length:Int)≤i:=by simpa using h1
   have h2:i.toNat < m.code.length:=by omega
   have hei:(m.code.map yR)[i.toNat]?=some (yR (yO m i)):=by rw [yO,zM h2];exact yc h2
   repeat' (first|(refine shX ?_;first|refine qX hei ?_)|refine sK ?_|refine sC (fun _=>?_) (fun _=>?_)|fail)
   all_goals (refine retq rfl ?_;simp [zn,opV,h0,hl])
theorem zdW (g:Img) (m:Me) (r:Pt) (a b:Int) (h0:0≤r.c) (h1:r.c.toNat < m.clauses.length):ACall Tryz.prog 351 [YR g m,za7 r,pi a,pi b] (pb (Ql m r a b)):=by
 have hec:(m.clauses.map ZJ)[r.c.toNat]?=some (ZJ (clV m r)):=zcj h1
 rw [Ql]
 generalize clV m r=c at hec ⊢
 refine zf zh Tryz.func351 rfl (by kernel_rfl) Tryz.ntmps351 (by simp) _ rfl (fun hw gB hgB=>?_)
 rcases Bool.eq_false_or_eq_true (r.p==2) with hp|hp <;> rcases Bool.eq_false_or_eq_true (c.kind==a) with ka|ka <;> rcases Bool.eq_false_or_eq_true (c.kind==b) with kb|kb <;> (
  repeat' (first|(refine shX ?_;first|refine zo rfl (zl zh rfl rfl rfl rfl rfl rfl h0 hec) rfl rfl ?_|refine AD.step _ _ _ _ _ rfl (zl zh rfl rfl rfl rfl rfl rfl h0 hec) rfl rfl ?_)|refine sK ?_|refine sC (fun _=>?_) (fun _=>?_)|fail)
  all_goals (refine retq rfl ?_;simp [zn,hp,ka,kb]))
theorem zk2 (r:Pt):ACall Tryz.prog 350 [za7 r] (pb (r.p != 1)):=by
 refine zf zh Tryz.func350 rfl (by kernel_rfl) Tryz.ntmps350 (by simp) _ rfl (fun hw gB hgB=>?_)
 repeat' (first|refine sA ?_|refine sC (fun _=>?_) (fun _=>?_)|fail)
 exact retq rfl rfl
theorem zoV (t:Ty):ACall Tryz.prog 352 [yK t] (pb t.ref):=by
 refine zf zh Tryz.func352 rfl (by kernel_rfl) Tryz.ntmps352 (by simp) _ rfl (fun hw gB hgB=>?_)
 repeat' (first|refine sA ?_|refine sC (fun _=>?_) (fun _=>?_)|fail)
 exact retq rfl rfl
theorem zjX (g:Img) (m:Me) (r:Pt) (h0:0≤r.c) (h1:r.c.toNat < m.clauses.length):ACall Tryz.prog 265 [za7 r,.ptr (YR g m) 0] (pb (r.p != 1||(clV m r).tf != 0)):=by
 have hec:(m.clauses.map ZJ)[r.c.toNat]?=some (ZJ (clV m r)):=zcj h1
 generalize clV m r=c at hec ⊢
 refine zf zh Tryz.func265 rfl (by kernel_rfl) Tryz.ntmps265 (by simp) _ rfl (fun hw gB hgB=>?_)
 rcases Bool.eq_false_or_eq_true (r.p != 1) with hp|hp <;> (
  repeat' (first|(refine shX ?_;first|refine zo rfl (zl zh rfl rfl rfl rfl rfl rfl h0 hec) rfl rfl ?_|refine AD.step _ _ _ _ _ rfl (zl zh rfl rfl rfl rfl rfl rfl h0 hec) rfl rfl ?_)|refine sK ?_|refine sC (fun _=>?_) (fun _=>?_)|fail)
  all_goals (refine retq rfl ?_;simp [zn,hp]))
theorem zhQ (g:Img) (k:Int):ACall Tryz.prog 29 [zx g,pi k] (pb (decide (0≤k)&&decide (k < g.methods.length)&&decide (0 < (mAt g k).code.length))):=by
 refine zf zh Tryz.func29 rfl (by kernel_rfl) Tryz.ntmps29 (by simp) _ rfl (fun hw gB hgB=>?_)
 by_cases h0:0≤k
 ·have hd:=decide_eq_true h0
  by_cases h1:k < (((g.methods.map zG).length:Nat):Int)
  ·have hd1:=decide_eq_true h1
   have hl:k < g.methods.length:=by simpa using h1
   have h2:k.toNat < g.methods.length:=by omega
   have hem:(g.methods.map zG)[k.toNat]?=some (zG (mAt g k)):=by rw [mAt,zM h2];exact yc h2
   repeat' (first|(refine shX ?_;first|refine zo rfl (zl zh rfl rfl rfl rfl rfl rfl h0 hem) rfl rfl ?_|refine AD.step _ _ _ _ _ rfl (zl zh rfl rfl rfl rfl rfl rfl h0 hem) rfl rfl ?_)|refine sK ?_|refine sC (fun _=>?_) (fun _=>?_)|fail)
   all_goals (refine retq rfl ?_;simp [zn,h0,hl])
  ·have hd1:=decide_eq_false h1
   have hl:¬ k < g.methods.length:=by simpa using h1
   repeat' (first|refine sK ?_|refine sC (fun _=>?_) (fun _=>?_)|fail)
   all_goals (refine retq rfl ?_;simp [zn,hl])
 ·have hd:=decide_eq_false h0
  repeat' (first|refine sK ?_|refine sC (fun _=>?_) (fun _=>?_)|fail)
  all_goals (refine retq rfl ?_;simp [zn,h0])
def zep (e:Int):Out:=if e=0 then .ret (.pv (.tup [])) [] else .pan (zhV e)
theorem Zo {tb:Tab} {e:Int} {ex:Exit} {env:Env} {H:HEnv} (h:e=0) (he:ex=.normal∨ex=.ret):zlH tb [] (zep e) ex env H:=by
 rw [zep,if_pos h];exact ⟨he,.inl ⟨[],rfl,rfl,zk,rfl⟩⟩
theorem qg {tb:Tab} {rs:List ResultVar} {e k:Int} {env:Env} {H:HEnv} (h:e=k) (hk:k≠0):zlH tb rs (zep e) (.panic [{ v:=zhV k,recovered:=false }]) env H:=by
 rw [zep,if_neg (by rw [h];exact hk),h];rfl
structure ClOk (m:Me):Prop where
 n:m.clauses.length≤6
 s:∀ (at_:Int),∀ x∈zcJ at_ m.clauses,SmP x
 code:m.code.length≤1000
theorem zkL {l:List Cl} {at_:Int} {x:Pt} (h:x∈yU l at_):0≤x.c∧x.c.toNat < l.length:=by
 obtain ⟨j,h1,h2,_⟩:=zif h
 have:x.c=(j:Int):=by
  unfold zU at h2
  split at h2 <;> simp at h2 <;> (rcases h2 with h|h|h <;> first|rfl|(rw [h])|skip) <;> simp_all
 omega
set_option maxHeartbeats 8000000 in
theorem ztE (g:Img) (m:Me) (hm:ClOk m) (i:Int) (h0:0≤i) (h1:i.toNat < m.code.length):QU Tryz.prog 259 [.pv (YR g m),.pv (pi i)] [] (zep (onV m i)):=by
 have hei:(m.code.map yR)[i.toNat]?=some (yR (yO m i)):=by rw [yO,zM h1];exact yc h1
 have cw:=zm3 g m i h0 h1
 have cg:=goes_call (Vx m i)
 have hmc:=hm.code
 have hw1:IntKind.i64.wrap (i + 1)=i + 1:=wrap_in (by omega) (by omega)
 have c1:=ziP m.clauses i (i + 1) hm.n (hm.s i) (hm.s (i + 1))
 have c2:=ziP m.clauses i (yO m i).arg hm.n (hm.s i) (hm.s _)
 have c3:=zny m.clauses i (yO m i).arg hm.n (hm.s i) (hm.s _)
 rw [←hw1] at c1
 have hon:onV m i=if zbP (Vx m i)&&!decide (IntKind.i64.wrap (i + 1) < (((m.code.map yR).length:Nat):Int)) then 11
   else if zbP (Vx m i)&&!zga m.clauses i (IntKind.i64.wrap (i + 1)) then 12
   else if !zc9 (Vx m i) then 0
   else if Vx m i==4 then (if zh0 m.clauses i (yO m i).arg then 0 else 12)
   else if zga m.clauses i (yO m i).arg then 0 else 12:=by rw [hw1,List.length_map];rfl
 rw [hon]
 generalize yO m i=x at *
 generalize Vx m i=w at *
 generalize zga m.clauses i (IntKind.i64.wrap (i + 1))=p1 at *
 generalize zga m.clauses i x.arg=p2 at *
 generalize zh0 m.clauses i x.arg=p3 at *
 generalize zbP w=nx at *
 generalize zc9 w=pl at *
 refine yY zh Tryz.func259 rfl (by kernel_rfl) Tryz.ntmps259 (by simp) _ rfl (fun gB hw1=>?_)
 cases nx
 ·cases pl
  ·repeat' (first|(refine shC ?_;first|refine qC cw ?_|refine qC cg ?_)|refine sK ?_|refine sC (fun _=>?_) (fun _=>?_)|fail)
   all_goals first|exact Zo (by first|rfl|(simp only [hd,h4];rfl)|(simp only [h4];rfl)|(simp only [hd];rfl)) (.inr rfl)|exact Zo (by first|rfl|(simp only [hd,h4];rfl)|(simp only [h4];rfl)|(simp only [hd];rfl)) (.inl rfl)
  ·rcases Bool.eq_false_or_eq_true (w==4) with h4|h4
   ·cases p3
    ·repeat' (first|refine zD 9 4 rfl rfl rfl ?_|refine yJ ([]) zq rfl rfl rfl tH (yN rfl 12) ?_|(refine shC ?_;first|refine qC cw ?_|refine qC cg ?_|refine qC c3 ?_)|(refine shX ?_;first|refine zo rfl (zl zh rfl rfl rfl rfl rfl rfl h0 hei) rfl rfl ?_|refine AD.step _ _ _ _ _ rfl (zl zh rfl rfl rfl rfl rfl rfl h0 hei) rfl rfl ?_)|refine sK ?_|refine sC (fun _=>?_) (fun _=>?_)|fail)
     all_goals exact qg (k:=12) (by first|rfl|(simp only [hd,h4];rfl)|(simp only [h4];rfl)|(simp only [hd];rfl)) (by decide)
    ·repeat' (first|(refine shC ?_;first|refine qC cw ?_|refine qC cg ?_|refine qC c3 ?_|refine qC (yC rfl 12) ?_)|(refine shX ?_;first|refine zo rfl (zl zh rfl rfl rfl rfl rfl rfl h0 hei) rfl rfl ?_|refine AD.step _ _ _ _ _ rfl (zl zh rfl rfl rfl rfl rfl rfl h0 hei) rfl rfl ?_)|refine sK ?_|refine sC (fun _=>?_) (fun _=>?_)|fail)
     all_goals first|exact Zo (by first|rfl|(simp only [hd,h4];rfl)|(simp only [h4];rfl)|(simp only [hd];rfl)) (.inr rfl)|exact Zo (by first|rfl|(simp only [hd,h4];rfl)|(simp only [h4];rfl)|(simp only [hd];rfl)) (.inl rfl)
   ·cases p2
    ·repeat' (first|refine zD 10 4 rfl rfl rfl ?_|refine yJ ([]) zq rfl rfl rfl tH (yN rfl 12) ?_|(refine shC ?_;first|refine qC cw ?_|refine qC cg ?_|refine qC c2 ?_)|(refine shX ?_;first|refine zo rfl (zl zh rfl rfl rfl rfl rfl rfl h0 hei) rfl rfl ?_|refine AD.step _ _ _ _ _ rfl (zl zh rfl rfl rfl rfl rfl rfl h0 hei) rfl rfl ?_)|refine sK ?_|refine sC (fun _=>?_) (fun _=>?_)|fail)
     all_goals exact qg (k:=12) (by first|rfl|(simp only [hd,h4];rfl)|(simp only [h4];rfl)|(simp only [hd];rfl)) (by decide)
    ·repeat' (first|(refine shC ?_;first|refine qC cw ?_|refine qC cg ?_|refine qC c2 ?_|refine qC (yC rfl 12) ?_)|(refine shX ?_;first|refine zo rfl (zl zh rfl rfl rfl rfl rfl rfl h0 hei) rfl rfl ?_|refine AD.step _ _ _ _ _ rfl (zl zh rfl rfl rfl rfl rfl rfl h0 hei) rfl rfl ?_)|refine sK ?_|refine sC (fun _=>?_) (fun _=>?_)|fail)
     all_goals first|exact Zo (by first|rfl|(simp only [hd,h4];rfl)|(simp only [h4];rfl)|(simp only [hd];rfl)) (.inr rfl)|exact Zo (by first|rfl|(simp only [hd,h4];rfl)|(simp only [h4];rfl)|(simp only [hd];rfl)) (.inl rfl)
 ·rcases Bool.eq_false_or_eq_true (decide (IntKind.i64.wrap (i + 1) < (((m.code.map yR).length:Nat):Int))) with hd|hd
  ·cases p1
   ·repeat' (first|refine zD 5 5 rfl rfl rfl ?_|refine yJ ([]) zq rfl rfl rfl tH (yN rfl 12) ?_|(refine shC ?_;first|refine qC cw ?_|refine qC cg ?_|refine qC (yC hd 11) ?_|refine qC c1 ?_)|refine sK ?_|refine sC (fun _=>?_) (fun _=>?_)|fail)
    all_goals exact qg (k:=12) (by first|rfl|(simp only [hd,h4];rfl)|(simp only [h4];rfl)|(simp only [hd];rfl)) (by decide)
   ·cases pl
    ·repeat' (first|(refine shC ?_;first|refine qC cw ?_|refine qC cg ?_|refine qC (yC hd 11) ?_|refine qC c1 ?_|refine qC (yC rfl 12) ?_)|refine sK ?_|refine sC (fun _=>?_) (fun _=>?_)|fail)
     all_goals first|exact Zo (by first|rfl|(simp only [hd,h4];rfl)|(simp only [h4];rfl)|(simp only [hd];rfl)) (.inr rfl)|exact Zo (by first|rfl|(simp only [hd,h4];rfl)|(simp only [h4];rfl)|(simp only [hd];rfl)) (.inl rfl)
    ·rcases Bool.eq_false_or_eq_true (w==4) with h4|h4
     ·cases p3
      ·repeat' (first|refine zD 9 4 rfl rfl rfl ?_|refine yJ ([]) zq rfl rfl rfl tH (yN rfl 12) ?_|(refine shC ?_;first|refine qC cw ?_|refine qC cg ?_|refine qC (yC hd 11) ?_|refine qC c1 ?_|refine qC (yC rfl 12) ?_|refine qC c3 ?_)|(refine shX ?_;first|refine zo rfl (zl zh rfl rfl rfl rfl rfl rfl h0 hei) rfl rfl ?_|refine AD.step _ _ _ _ _ rfl (zl zh rfl rfl rfl rfl rfl rfl h0 hei) rfl rfl ?_)|refine sK ?_|refine sC (fun _=>?_) (fun _=>?_)|fail)
       all_goals exact qg (k:=12) (by first|rfl|(simp only [hd,h4];rfl)|(simp only [h4];rfl)|(simp only [hd];rfl)) (by decide)
      ·repeat' (first|(refine shC ?_;first|refine qC cw ?_|refine qC cg ?_|refine qC (yC hd 11) ?_|refine qC c1 ?_|refine qC (yC rfl 12) ?_|refine qC c3 ?_|refine qC (yC rfl 12) ?_)|(refine shX ?_;first|refine zo rfl (zl zh rfl rfl rfl rfl rfl rfl h0 hei) rfl rfl ?_|refine AD.step _ _ _ _ _ rfl (zl zh rfl rfl rfl rfl rfl rfl h0 hei) rfl rfl ?_)|refine sK ?_|refine sC (fun _=>?_) (fun _=>?_)|fail)
       all_goals first|exact Zo (by first|rfl|(simp only [hd,h4];rfl)|(simp only [h4];rfl)|(simp only [hd];rfl)) (.inr rfl)|exact Zo (by first|rfl|(simp only [hd,h4];rfl)|(simp only [h4];rfl)|(simp only [hd];rfl)) (.inl rfl)
     ·cases p2
      ·repeat' (first|refine zD 10 4 rfl rfl rfl ?_|refine yJ ([]) zq rfl rfl rfl tH (yN rfl 12) ?_|(refine shC ?_;first|refine qC cw ?_|refine qC cg ?_|refine qC (yC hd 11) ?_|refine qC c1 ?_|refine qC (yC rfl 12) ?_|refine qC c2 ?_)|(refine shX ?_;first|refine zo rfl (zl zh rfl rfl rfl rfl rfl rfl h0 hei) rfl rfl ?_|refine AD.step _ _ _ _ _ rfl (zl zh rfl rfl rfl rfl rfl rfl h0 hei) rfl rfl ?_)|refine sK ?_|refine sC (fun _=>?_) (fun _=>?_)|fail)
       all_goals exact qg (k:=12) (by first|rfl|(simp only [hd,h4];rfl)|(simp only [h4];rfl)|(simp only [hd];rfl)) (by decide)
      ·repeat' (first|(refine shC ?_;first|refine qC cw ?_|refine qC cg ?_|refine qC (yC hd 11) ?_|refine qC c1 ?_|refine qC (yC rfl 12) ?_|refine qC c2 ?_|refine qC (yC rfl 12) ?_)|(refine shX ?_;first|refine zo rfl (zl zh rfl rfl rfl rfl rfl rfl h0 hei) rfl rfl ?_|refine AD.step _ _ _ _ _ rfl (zl zh rfl rfl rfl rfl rfl rfl h0 hei) rfl rfl ?_)|refine sK ?_|refine sC (fun _=>?_) (fun _=>?_)|fail)
       all_goals first|exact Zo (by first|rfl|(simp only [hd,h4];rfl)|(simp only [h4];rfl)|(simp only [hd];rfl)) (.inr rfl)|exact Zo (by first|rfl|(simp only [hd,h4];rfl)|(simp only [h4];rfl)|(simp only [hd];rfl)) (.inl rfl)
  ·repeat' (first|refine zD 4 7 rfl rfl rfl ?_|refine yJ ([]) zq rfl rfl rfl tH (yN hd 11) ?_|(refine shC ?_;first|refine qC cw ?_|refine qC cg ?_)|refine sK ?_|refine sC (fun _=>?_) (fun _=>?_)|fail)
   all_goals exact qg (k:=11) (by first|rfl|(simp only [hd,h4];rfl)|(simp only [h4];rfl)|(simp only [hd];rfl)) (by decide)
theorem Qr {f:FuncId} {args:List AV} {P:Program} {e:Int} (h:QU P f args [] (zep e)) (he:e=0):ACallM P f args [] (.pv (.tup [])) []:=by
 rw [zep,if_pos he] at h;exact h
theorem zhi {f:FuncId} {args:List AV} {P:Program} {e:Int} (h:QU P f args [] (zep e)) (he:e≠0):ACallPan P f args [] (zhV e):=by
 rw [zep,if_neg he] at h;exact h
set_option maxHeartbeats 8000000 in
theorem zqk (g:Img) (m:Me) (hm:ClOk m) (i:Int) (h0:0≤i) (h1:i.toNat < m.code.length)
  (hc:opV m i=47→opV m (i + 1)=43∨opV m (i + 1)=44→(0≤(yO m (i + 1)).arg∧(yO m (i + 1)).arg.toNat < g.methods.length)∧(XH g m i).params.length≤100):QU Tryz.prog 261 [.pv (YR g m),.pv (pi i)] [] (zep (tailV g m i)):=by
 have hmc:=hm.code
 have hwr:IntKind.i64.wrap (i + 1)=i + 1:=wrap_in (by omega) (by omega)
 have hw2:IntKind.i64.wrap (i + 2)=i + 2:=wrap_in (by omega) (by omega)
 have c0:=zch g m i
 have c1:ACall Tryz.prog 262 [YR g m,pi (IntKind.i64.wrap (i + 1))] (pi (opV m (i + 1))):=by rw [hwr];exact zch g m (i + 1)
 have c2:ACall Tryz.prog 262 [YR g m,pi (IntKind.i64.wrap (i + 2))] (pi (opV m (i + 2))):=by rw [hw2];exact zch g m (i + 2)
 have cc:=zdk m.clauses i hm.n (hm.s i)
 refine yY zh Tryz.func261 rfl (by kernel_rfl) Tryz.ntmps261 (by simp) _ rfl (fun gB hw1=>?_)
 have cc:ACall Tryz.prog 264 [cls m.clauses,pi i] (rgs (yU m.clauses i)):=cc
 cases h47:(opV m i != 47)
 ·have hwb:(opV m i==47)=true:=by simpa using h47
  cases hb:((opV m (i + 1)==43||opV m (i + 1)==44)&&opV m (i + 2)==46&&(yU m.clauses i).isEmpty)
  ·have hz:tailV g m i=11:=by rw [tailV,h47,hb];rfl
   have hle:(((((yU m.clauses i).map za7).length:Nat):Int)==0)=(yU m.clauses i).isEmpty:=by cases yU m.clauses i <;> simp;omega
   rcases Bool.eq_false_or_eq_true (opV m (i + 1)==43) with k1|k1
   ·rcases Bool.eq_false_or_eq_true (opV m (i + 2)==46) with k3|k3
    ·rw [k1,k3] at hb
     have hle2:(((((yU m.clauses i).map za7).length:Nat):Int)==0)=false:=by rw [hle];simpa using hb
     repeat' (first|refine zD 3 22 rfl rfl rfl ?_|refine yJ ([]) zq rfl rfl rfl tH (yN hle2 11) ?_|(refine shC ?_;first|refine qC c0 ?_|refine qC c1 ?_|refine qC c2 ?_|refine qC cc ?_)|refine sK ?_|refine sC (fun _=>?_) (fun _=>?_)|fail)
     exact qg hz (by decide)
    ·repeat' (first|refine zD 3 22 rfl rfl rfl ?_|refine yJ ([]) zq rfl rfl rfl tH (yN rfl 11) ?_|(refine shC ?_;first|refine qC c0 ?_|refine qC c1 ?_|refine qC c2 ?_|refine qC cc ?_)|refine sK ?_|refine sC (fun _=>?_) (fun _=>?_)|fail)
     exact qg hz (by decide)
   ·rcases Bool.eq_false_or_eq_true (opV m (i + 1)==44) with k2|k2
    ·rcases Bool.eq_false_or_eq_true (opV m (i + 2)==46) with k3|k3
     ·rw [k1,k2,k3] at hb
      have hle2:(((((yU m.clauses i).map za7).length:Nat):Int)==0)=false:=by rw [hle];simpa using hb
      repeat' (first|refine zD 3 22 rfl rfl rfl ?_|refine yJ ([]) zq rfl rfl rfl tH (yN hle2 11) ?_|(refine shC ?_;first|refine qC c0 ?_|refine qC c1 ?_|refine qC c2 ?_|refine qC cc ?_)|refine sK ?_|refine sC (fun _=>?_) (fun _=>?_)|fail)
      exact qg hz (by decide)
     ·repeat' (first|refine zD 3 22 rfl rfl rfl ?_|refine yJ ([]) zq rfl rfl rfl tH (yN rfl 11) ?_|(refine shC ?_;first|refine qC c0 ?_|refine qC c1 ?_|refine qC c2 ?_|refine qC cc ?_)|refine sK ?_|refine sC (fun _=>?_) (fun _=>?_)|fail)
      exact qg hz (by decide)
    ·repeat' (first|refine zD 3 22 rfl rfl rfl ?_|refine yJ ([]) zq rfl rfl rfl tH (yN rfl 11) ?_|(refine shC ?_;first|refine qC c0 ?_|refine qC c1 ?_|refine qC c2 ?_|refine qC cc ?_)|refine sK ?_|refine sC (fun _=>?_) (fun _=>?_)|fail)
     exact qg hz (by decide)
  ·simp only [Bool.and_eq_true,Bool.or_eq_true] at hb
   obtain ⟨⟨hb1,hb2⟩,hb3⟩:=hb
   have hin:(i + 1).toNat < m.code.length:=by
    rcases Nat.lt_or_ge (i + 1).toNat m.code.length with h|h
    ·exact h
    ·have:opV m (i + 1)=0:=by rw [opV];simp;omega
     rw [this] at hb1;simp at hb1
   obtain ⟨⟨ha0,ha1⟩,hpl⟩:=hc (by simpa using hwb) (by simpa using hb1)
   have hei:(m.code.map yR)[(IntKind.i64.wrap (i + 1)).toNat]?=some (yR (yO m (i + 1))):=by rw [hwr,yO,zM hin];exact yc hin
   have hem:(g.methods.map zG)[(yO m (i + 1)).arg.toNat]?=some (zG (XH g m i)):=by rw [XH,mAt,zM ha1];exact yc ha1
   have hle:(((((yU m.clauses i).map za7).length:Nat):Int)==0)=true:=by
    have:yU m.clauses i=[]:=by simpa using hb3
    rw [this];rfl
   have hbb:((opV m (i + 1)==43||opV m (i + 1)==44)&&opV m (i + 2)==46&&(yU m.clauses i).isEmpty)=true:=by simp only [hb2,hb3,Bool.and_true];simpa using hb1
   have hz:tailV g m i=if !tyB (XH g m i).ret m.ret then 10 else if (zax g (XH g m i)).any (fun t=>t.ref) then 13 else 0:=by rw [tailV,h47,hbb];rfl
   have cA:=zco g (XH g m i) (by omega)
   have cF:=Yg (zax g (XH g m i)) (fun t=>t.ref) 352 [] [] (fun t _=>zoV t)
   have hix:(0:Int)≤IntKind.i64.wrap (i + 1):=by omega
   generalize yO m (i + 1)=x at *
   generalize XH g m i=c at *
   cases ht:tyB c.ret m.ret
   ·have hz2:tailV g m i=10:=by rw [hz,ht];rfl
    rcases Bool.eq_false_or_eq_true (opV m (i + 1)==43) with k1|k1
    ·repeat' (first|refine ZW 1 13 0 zh rfl (by kernel_rfl) (by kernel_rfl) (by kernel_rfl) rfl rfl rfl rfl rfl rfl rfl rfl rfl rfl rfl rfl rfl rfl (fun _=>rfl) rfl rfl rfl ?_|refine ⟨_,_,rfl,rfl,rfl,?_⟩|refine zD 5 6 rfl rfl rfl ?_|refine yJ ([]) zq rfl rfl rfl tH (yN ht 10) ?_|(refine shC ?_;first|refine qC c0 ?_|refine qC c1 ?_|refine qC c2 ?_|refine qC cc ?_|refine qC (yC hle 11) ?_)|(refine shX ?_;first|refine zo rfl (zl zh rfl rfl rfl rfl rfl rfl hix hei) rfl rfl ?_|refine AD.step _ _ _ _ _ rfl (zl zh rfl rfl rfl rfl rfl rfl hix hei) rfl rfl ?_|refine zo rfl (zl zh rfl rfl rfl rfl rfl rfl ha0 hem) rfl rfl ?_|refine AD.step _ _ _ _ _ rfl (zl zh rfl rfl rfl rfl rfl rfl ha0 hem) rfl rfl ?_)|refine sK ?_|refine sC (fun _=>?_) (fun _=>?_)|fail)
     exact qg hz2 (by decide)
    ·have k2:(opV m (i + 1)==44)=true:=by rw [k1] at hb1;simpa using hb1
     repeat' (first|refine ZW 1 13 0 zh rfl (by kernel_rfl) (by kernel_rfl) (by kernel_rfl) rfl rfl rfl rfl rfl rfl rfl rfl rfl rfl rfl rfl rfl rfl (fun _=>rfl) rfl rfl rfl ?_|refine ⟨_,_,rfl,rfl,rfl,?_⟩|refine zD 5 6 rfl rfl rfl ?_|refine yJ ([]) zq rfl rfl rfl tH (yN ht 10) ?_|(refine shC ?_;first|refine qC c0 ?_|refine qC c1 ?_|refine qC c2 ?_|refine qC cc ?_|refine qC (yC hle 11) ?_)|(refine shX ?_;first|refine zo rfl (zl zh rfl rfl rfl rfl rfl rfl hix hei) rfl rfl ?_|refine AD.step _ _ _ _ _ rfl (zl zh rfl rfl rfl rfl rfl rfl hix hei) rfl rfl ?_|refine zo rfl (zl zh rfl rfl rfl rfl rfl rfl ha0 hem) rfl rfl ?_|refine AD.step _ _ _ _ _ rfl (zl zh rfl rfl rfl rfl rfl rfl ha0 hem) rfl rfl ?_)|refine sK ?_|refine sC (fun _=>?_) (fun _=>?_)|fail)
     exact qg hz2 (by decide)
   ·cases ha:(zax g c).any fun t=>t.ref
    ·have hz2:tailV g m i=0:=by rw [hz,ht,ha];rfl
     rw [ha] at cF
     rcases Bool.eq_false_or_eq_true (opV m (i + 1)==43) with k1|k1
     ·repeat' (first|refine ZW 1 13 0 zh rfl (by kernel_rfl) (by kernel_rfl) (by kernel_rfl) rfl rfl rfl rfl rfl rfl rfl rfl rfl rfl rfl rfl rfl rfl (fun _=>rfl) rfl rfl rfl ?_|refine ⟨_,_,rfl,rfl,rfl,?_⟩|(refine shC ?_;first|refine qC c0 ?_|refine qC c1 ?_|refine qC c2 ?_|refine qC cc ?_|refine qC (yC hle 11) ?_|refine qC (yC ht 10) ?_|refine qC cA ?_|refine qC cF ?_|refine qC (yC rfl 13) ?_)|(refine shX ?_;first|refine zo rfl (zl zh rfl rfl rfl rfl rfl rfl hix hei) rfl rfl ?_|refine AD.step _ _ _ _ _ rfl (zl zh rfl rfl rfl rfl rfl rfl hix hei) rfl rfl ?_|refine zo rfl (zl zh rfl rfl rfl rfl rfl rfl ha0 hem) rfl rfl ?_|refine AD.step _ _ _ _ _ rfl (zl zh rfl rfl rfl rfl rfl rfl ha0 hem) rfl rfl ?_)|refine sK ?_|refine sC (fun _=>?_) (fun _=>?_)|fail)
      exact Zo hz2 (.inl rfl)
     ·have k2:(opV m (i + 1)==44)=true:=by rw [k1] at hb1;simpa using hb1
      repeat' (first|refine ZW 1 13 0 zh rfl (by kernel_rfl) (by kernel_rfl) (by kernel_rfl) rfl rfl rfl rfl rfl rfl rfl rfl rfl rfl rfl rfl rfl rfl (fun _=>rfl) rfl rfl rfl ?_|refine ⟨_,_,rfl,rfl,rfl,?_⟩|(refine shC ?_;first|refine qC c0 ?_|refine qC c1 ?_|refine qC c2 ?_|refine qC cc ?_|refine qC (yC hle 11) ?_|refine qC (yC ht 10) ?_|refine qC cA ?_|refine qC cF ?_|refine qC (yC rfl 13) ?_)|(refine shX ?_;first|refine zo rfl (zl zh rfl rfl rfl rfl rfl rfl hix hei) rfl rfl ?_|refine AD.step _ _ _ _ _ rfl (zl zh rfl rfl rfl rfl rfl rfl hix hei) rfl rfl ?_|refine zo rfl (zl zh rfl rfl rfl rfl rfl rfl ha0 hem) rfl rfl ?_|refine AD.step _ _ _ _ _ rfl (zl zh rfl rfl rfl rfl rfl rfl ha0 hem) rfl rfl ?_)|refine sK ?_|refine sC (fun _=>?_) (fun _=>?_)|fail)
      exact Zo hz2 (.inl rfl)
    ·have hz2:tailV g m i=13:=by rw [hz,ht,ha];rfl
     rw [ha] at cF
     rcases Bool.eq_false_or_eq_true (opV m (i + 1)==43) with k1|k1
     ·repeat' (first|refine ZW 1 13 0 zh rfl (by kernel_rfl) (by kernel_rfl) (by kernel_rfl) rfl rfl rfl rfl rfl rfl rfl rfl rfl rfl rfl rfl rfl rfl (fun _=>rfl) rfl rfl rfl ?_|refine ⟨_,_,rfl,rfl,rfl,?_⟩|refine zD 6 6 rfl rfl rfl ?_|refine yJ ([]) zq rfl rfl rfl tH (yN rfl 13) ?_|(refine shC ?_;first|refine qC c0 ?_|refine qC c1 ?_|refine qC c2 ?_|refine qC cc ?_|refine qC (yC hle 11) ?_|refine qC (yC ht 10) ?_|refine qC cA ?_|refine qC cF ?_)|(refine shX ?_;first|refine zo rfl (zl zh rfl rfl rfl rfl rfl rfl hix hei) rfl rfl ?_|refine AD.step _ _ _ _ _ rfl (zl zh rfl rfl rfl rfl rfl rfl hix hei) rfl rfl ?_|refine zo rfl (zl zh rfl rfl rfl rfl rfl rfl ha0 hem) rfl rfl ?_|refine AD.step _ _ _ _ _ rfl (zl zh rfl rfl rfl rfl rfl rfl ha0 hem) rfl rfl ?_)|refine sK ?_|refine sC (fun _=>?_) (fun _=>?_)|fail)
      exact qg hz2 (by decide)
     ·have k2:(opV m (i + 1)==44)=true:=by rw [k1] at hb1;simpa using hb1
      repeat' (first|refine ZW 1 13 0 zh rfl (by kernel_rfl) (by kernel_rfl) (by kernel_rfl) rfl rfl rfl rfl rfl rfl rfl rfl rfl rfl rfl rfl rfl rfl (fun _=>rfl) rfl rfl rfl ?_|refine ⟨_,_,rfl,rfl,rfl,?_⟩|refine zD 6 6 rfl rfl rfl ?_|refine yJ ([]) zq rfl rfl rfl tH (yN rfl 13) ?_|(refine shC ?_;first|refine qC c0 ?_|refine qC c1 ?_|refine qC c2 ?_|refine qC cc ?_|refine qC (yC hle 11) ?_|refine qC (yC ht 10) ?_|refine qC cA ?_|refine qC cF ?_)|(refine shX ?_;first|refine zo rfl (zl zh rfl rfl rfl rfl rfl rfl hix hei) rfl rfl ?_|refine AD.step _ _ _ _ _ rfl (zl zh rfl rfl rfl rfl rfl rfl hix hei) rfl rfl ?_|refine zo rfl (zl zh rfl rfl rfl rfl rfl rfl ha0 hem) rfl rfl ?_|refine AD.step _ _ _ _ _ rfl (zl zh rfl rfl rfl rfl rfl rfl ha0 hem) rfl rfl ?_)|refine sK ?_|refine sC (fun _=>?_) (fun _=>?_)|fail)
      exact qg hz2 (by decide)
 ·have hz:tailV g m i=0:=by rw [tailV,h47];rfl
  repeat' (first|(refine shC ?_;first|refine qC c0 ?_)|refine sK ?_|refine sC (fun _=>?_) (fun _=>?_)|fail)
  exact Zo hz (.inr rfl)
set_option maxHeartbeats 8000000 in
theorem zni (g:Img) (m:Me) (hm:ClOk m) (i:Int) (h0:0≤i) (h1:i.toNat < m.code.length):QU Tryz.prog 260 [.pv (YR g m),.pv (pi i)] [] (zep (Zn m i)):=by
 have hmc:=hm.code
 have c0:=zch g m i
 have cc:ACall Tryz.prog 264 [cls m.clauses,pi i] (rgs (yU m.clauses i)):=zdk m.clauses i hm.n (hm.s i)
 have hcc:=fun x (hx:x∈yU m.clauses i)=>zkL hx
 have hiv:Zn m i=Zn m i:=rfl
 conv at hiv=>rhs;rw [Zn]
 generalize yU m.clauses i=c at *
 refine yY zh Tryz.func260 rfl (by kernel_rfl) Tryz.ntmps260 (by simp) _ rfl (fun gB hw1=>?_)
 rcases Bool.eq_false_or_eq_true (opV m i==46) with k1|k1
 ·rw [k1,if_pos rfl] at hiv
  have hle:((((c.map za7).length:Nat):Int)==0)=c.isEmpty:=by cases c <;> simp;omega
  cases he:c.isEmpty
  ·rw [he] at hle hiv
   repeat' (first|refine zD 4 3 rfl rfl rfl ?_|refine yJ ([]) zq rfl rfl rfl tH (yN hle 12) ?_|(refine shC ?_;first|refine qC cc ?_|refine qC c0 ?_)|refine sK ?_|refine sC (fun _=>?_) (fun _=>?_)|fail)
   exact qg hiv (by decide)
  ·rw [he] at hle hiv
   repeat' (first|(refine shC ?_;first|refine qC cc ?_|refine qC c0 ?_|refine qC (yC hle 12) ?_)|refine sK ?_|refine sC (fun _=>?_) (fun _=>?_)|fail)
   exact Zo hiv (.inl rfl)
 ·rw [k1,if_neg (by simp)] at hiv
  rcases Bool.eq_false_or_eq_true (opV m i==70) with k2|k2
  ·rw [k2,if_pos rfl] at hiv
   have ci:=zbt c (fun r=>r.p != 1) 350 [] [] (fun r _=>zk2 r)
   cases ha:c.any (fun r=>r.p != 1)
   ·have e:zke c (fun r=>r.p != 1) = -1:=by rw [zke,ha];rfl
    have hz:Zn m i=12:=by
     have:c.find? (fun r=>r.p != 1)=none:=by rw [List.find?_eq_none];rw [List.any_eq_false] at ha;exact ha
     rw [hiv,this]
    rw [e] at ci
    repeat' (first|refine Yb 11 10 rfl (by kernel_rfl) (by kernel_rfl) (by kernel_rfl) (by kernel_rfl) (by kernel_rfl) ?_|refine yJ ([]) zq rfl rfl rfl tH (yN rfl 12) ?_|(refine shC ?_;first|refine qC cc ?_|refine qC c0 ?_|refine qC ci ?_)|refine sK ?_|refine sC (fun _=>?_) (fun _=>?_)|fail)
    exact qg hz (by decide)
   ·have e:zke c (fun r=>r.p != 1)=((c.findIdx (fun r=>r.p != 1):Nat):Int):=by rw [zke,ha];rfl
    have hlt:c.findIdx (fun r=>r.p != 1) < c.length:=List.findIdx_lt_length.2 (by simpa using ha)
    have hf:c.find? (fun r=>r.p != 1)=some c[c.findIdx (fun r=>r.p != 1)]:=by rw [List.find?_eq_getElem?_findIdx,List.getElem?_eq_getElem hlt]
    have he:=yc (f:=za7) hlt
    have hr:=hcc _ (List.getElem_mem hlt)
    rw [hf] at hiv
    rw [e] at ci
    generalize c[c.findIdx (fun r=>r.p != 1)]=r at *
    generalize c.findIdx (fun r=>r.p != 1)=k at *
    have ch:=zdW g m r 1 2 hr.1 hr.2
    have hd:decide ((0:Int)≤((k:Nat):Int))=true:=decide_eq_true (by omega)
    cases hh:Ql m r 1 2
    ·rw [hh] at ch
     have hz:Zn m i=12:=by rw [hiv];show (if Ql m r 1 2=true then 0 else 12)=(12:Int);rw [hh];rfl
     repeat' (first|refine Yb 11 10 rfl (by kernel_rfl) (by kernel_rfl) (by kernel_rfl) (by kernel_rfl) (by kernel_rfl) ?_|refine yJ ([]) zq rfl rfl rfl tH (yN rfl 12) ?_|(refine shC ?_;first|refine qC cc ?_|refine qC c0 ?_|refine qC ci ?_|refine qC ch ?_)|(refine shX ?_;first|refine qX he ?_)|refine sK ?_|refine sC (fun _=>?_) (fun _=>?_)|fail)
     exact qg hz (by decide)
    ·rw [hh] at ch
     have hz:Zn m i=0:=by rw [hiv];show (if Ql m r 1 2=true then 0 else 12)=(0:Int);rw [hh];rfl
     repeat' (first|(refine shC ?_;first|refine qC cc ?_|refine qC c0 ?_|refine qC ci ?_|refine qC ch ?_|refine qC (yC rfl 12) ?_)|(refine shX ?_;first|refine qX he ?_)|refine sK ?_|refine sC (fun _=>?_) (fun _=>?_)|fail)
     exact Zo hz (.inl rfl)
  ·rw [k2,if_neg (by simp)] at hiv
   rcases Bool.eq_false_or_eq_true (opV m i==72) with k3|k3
   ·rw [k3,if_pos rfl] at hiv
    cases c with
    | nil =>
     repeat' (first|refine Yb 11 10 rfl (by kernel_rfl) (by kernel_rfl) (by kernel_rfl) (by kernel_rfl) (by kernel_rfl) ?_|refine yJ ([]) zq rfl rfl rfl tH (yN rfl 12) ?_|(refine shC ?_;first|refine qC cc ?_|refine qC c0 ?_)|refine sK ?_|refine sC (fun _=>?_) (fun _=>?_)|fail)
     exact qg hiv (by decide)
    | cons r c =>
     have hr:=hcc r (by simp)
     have ch:=zdW g m r 3 4 hr.1 hr.2
     have hd:decide ((0:Int) < ((((r::c).map za7).length:Nat):Int))=true:=decide_eq_true (by simp)
     have he:((r::c).map za7)[(0:Int).toNat]?=some (za7 r):=rfl
     cases hh:Ql m r 3 4
     ·rw [hh] at ch
      have hz:Zn m i=12:=by rw [hiv];show (if Ql m r 3 4=true then 0 else 12)=(12:Int);rw [hh];rfl
      repeat' (first|refine Yb 11 10 rfl (by kernel_rfl) (by kernel_rfl) (by kernel_rfl) (by kernel_rfl) (by kernel_rfl) ?_|refine yJ ([]) zq rfl rfl rfl tH (yN rfl 12) ?_|(refine shC ?_;first|refine qC cc ?_|refine qC c0 ?_|refine qC ch ?_)|(refine shX ?_;first|refine qX he ?_)|refine sK ?_|refine sC (fun _=>?_) (fun _=>?_)|fail)
      exact qg hz (by decide)
     ·rw [hh] at ch
      have hz:Zn m i=0:=by rw [hiv];show (if Ql m r 3 4=true then 0 else 12)=(0:Int);rw [hh];rfl
      repeat' (first|(refine shC ?_;first|refine qC cc ?_|refine qC c0 ?_|refine qC ch ?_|refine qC (yC rfl 12) ?_)|(refine shX ?_;first|refine qX he ?_)|refine sK ?_|refine sC (fun _=>?_) (fun _=>?_)|fail)
      exact Zo hz (.inl rfl)
   ·rw [k3,if_neg (by simp)] at hiv
    rcases Bool.eq_false_or_eq_true (opV m i==73) with k4|k4
    ·rw [k4,if_pos rfl] at hiv
     cases c with
     | nil =>
      repeat' (first|refine Yb 26 25 rfl (by kernel_rfl) (by kernel_rfl) (by kernel_rfl) (by kernel_rfl) (by kernel_rfl) ?_|refine yJ ([]) zq rfl rfl rfl tH (yN rfl 12) ?_|(refine shC ?_;first|refine qC cc ?_|refine qC c0 ?_)|refine sK ?_|refine sC (fun _=>?_) (fun _=>?_)|fail)
      exact qg hiv (by decide)
     | cons r c =>
      have hr:=hcc r (by simp)
      have hwr:IntKind.i64.wrap (i + 1)=i + 1:=wrap_in (by omega) (by omega)
      have hd:decide ((0:Int) < ((((r::c).map za7).length:Nat):Int))=true:=decide_eq_true (by simp)
      have he:((r::c).map za7)[(0:Int).toNat]?=some (za7 r):=rfl
      have hec:(m.clauses.map ZJ)[r.c.toNat]?=some (ZJ (clV m r)):=zcj hr.2
      have hiv2:Zn m i=if r.p==3&&(clV m r).hf==IntKind.i64.wrap (i + 1) then 0 else 12:=by rw [hiv,hwr]
      generalize clV m r=cl at *
      have hrc:=hr.1
      cases h3:(r.p==3)
      ·have hz:Zn m i=12:=by rw [hiv2,h3];rfl
       repeat' (first|refine Yb 26 25 rfl (by kernel_rfl) (by kernel_rfl) (by kernel_rfl) (by kernel_rfl) (by kernel_rfl) ?_|refine yJ ([]) zq rfl rfl rfl tH (yN rfl 12) ?_|(refine shC ?_;first|refine qC cc ?_|refine qC c0 ?_)|(refine shX ?_;first|refine qX he ?_)|refine sK ?_|refine sC (fun _=>?_) (fun _=>?_)|fail)
       exact qg hz (by decide)
      ·cases hh:(cl.hf==IntKind.i64.wrap (i + 1))
       ·have hz:Zn m i=12:=by rw [hiv2,h3,hh];rfl
        repeat' (first|refine Yb 26 25 rfl (by kernel_rfl) (by kernel_rfl) (by kernel_rfl) (by kernel_rfl) (by kernel_rfl) ?_|refine yJ ([]) zq rfl rfl rfl tH (yN hh 12) ?_|(refine shC ?_;first|refine qC cc ?_|refine qC c0 ?_)|(refine shX ?_;first|refine qX he ?_|refine zo rfl (zl zh rfl rfl rfl rfl rfl rfl hrc hec) rfl rfl ?_|refine AD.step _ _ _ _ _ rfl (zl zh rfl rfl rfl rfl rfl rfl hrc hec) rfl rfl ?_)|refine sK ?_|refine sC (fun _=>?_) (fun _=>?_)|fail)
        exact qg hz (by decide)
       ·have hz:Zn m i=0:=by rw [hiv2,h3,hh];rfl
        repeat' (first|(refine shC ?_;first|refine qC cc ?_|refine qC c0 ?_|refine qC (yC hh 12) ?_)|(refine shX ?_;first|refine qX he ?_|refine zo rfl (zl zh rfl rfl rfl rfl rfl rfl hrc hec) rfl rfl ?_|refine AD.step _ _ _ _ _ rfl (zl zh rfl rfl rfl rfl rfl rfl hrc hec) rfl rfl ?_)|refine sK ?_|refine sC (fun _=>?_) (fun _=>?_)|fail)
        exact Zo hz (.inl rfl)
    ·rw [k4,if_neg (by simp)] at hiv
     repeat' (first|(refine shC ?_;first|refine qC cc ?_|refine qC c0 ?_)|refine sK ?_|refine sC (fun _=>?_) (fun _=>?_)|fail)
     exact Zo hiv (.inl rfl)
set_option maxHeartbeats 20000000
abbrev lbH (e:PV) (p1:Value):HEnv:=[(1,.cell (.pv e)),(2001,.pin (.box 1 0) p1)]
theorem zdF (p1:Value) (e:Int):DCall Tryz.prog 258 (lbH (pi 0) p1) [.box 1 0] (.panicking [{ v:=zhV e,recovered:=false }]) (.panicking [{ v:=zhV e,recovered:=true }]) (lbH (pi e) p1):=by
 refine QE Tryz.func258 rfl (by kernel_rfl) rfl (fun g K ρ w vs hds hf hv c₀ cs hu=>?_)
 obtain ⟨v1,rfl⟩:=List.length_eq_one_iff.1 hv.1
 have r1:=hv.2 0 _ v1 rfl rfl
 refine wpS_seq ?_
 refine wpS_region ?_
 have h1:=Ve (P:=Tryz.prog) (xt:=20) (v:=.int .i64 e) (w:=w) Tryz.underlying244
 simp [wpOpsS,go_sem,recoverD,hu,Tryz.ntmps258,Exit.thenS,zhV,h1]
 refine zeV (n:=10) (g:=g) (env:=[(0,.box 1 0),(1,.pv (pi e)),(2,.pv (pb true))]) (H:=lbH (pi 0) p1) (QQ:=zqR (lbH (pi e) p1)) ?_
  ⟨by simp,by rw [hds],K,ρ,hf,ZB (v:=v1) (by simp) r1 (ZB (v:=.int .i64 e) (by simp) (.pv _ _ (.base _ rfl)) (ZB (v:=.bool true) (by simp) (.pv _ _ (.base _ rfl)) zaC))⟩
  (fun ex a' w' env' H' hi hq=>⟨hq.1,hi.defers.trans hds,rfl,zfd hi hq.2⟩)
 repeat' (first|refine sK ?_|refine sC (fun _=>?_) (fun _=>?_)|fail)
 exact ⟨.inl rfl,tH⟩
theorem ziU (e:PV) (p1:Value):DCall Tryz.prog 258 (lbH e p1) [.box 1 0] .returning .returning (lbH e p1):=by
 refine QE Tryz.func258 rfl (by kernel_rfl) rfl (fun g K ρ w vs hds hf hv c₀ cs hu=>?_)
 obtain ⟨v1,rfl⟩:=List.length_eq_one_iff.1 hv.1
 refine wpS_seq ?_
 refine wpS_region ?_
 have hz:=zhc (P:=Tryz.prog) (w:=w) (z:=.int .i64 0) zh (ty:=244) rfl
 have h1:=XZ (P:=Tryz.prog) (xt:=20) (w:=w) Tryz.underlying244 hz
 simp [wpOpsS,go_sem,recoverD,hu,Tryz.ntmps258,Exit.thenS,h1]
 refine zeV (n:=10) (g:=g) (env:=[(2,.pv (pb false))]) (H:=lbH e p1) (QQ:=zqR (lbH e p1)) ?_
  ⟨by simp,by rw [hds],K,ρ,hf,ZB (v:=.bool false) (by simp) (.pv _ _ (.base _ rfl)) zaC⟩
  (fun ex a' w' env' H' hi hq=>⟨hq.1,hi.defers.trans hds,by cases c₀;simp_all,zfd hi hq.2⟩)
 repeat' (first|refine sK ?_|refine sC (fun _=>?_) (fun _=>?_)|fail)
 exact ⟨.inl rfl,tH⟩
set_option maxHeartbeats 1000000 in
theorem zli (g:Img) (m:Me) (hm:ClOk m):ACall Tryz.prog 142 [YR g m] (pb (zeb m)):=by
 have cc:ACall Tryz.prog 264 [cls m.clauses,pi 0] (rgs (yU m.clauses 0)):=zdk m.clauses 0 hm.n (hm.s 0)
 have cf:=zdb (yU m.clauses 0) (fun r=>r.p != 1||(clV m r).tf != 0) 265 [] [.ptr (YR g m) 0] (fun r hr=>zjX g m r (zkL hr).1 (zkL hr).2)
 refine zf zh Tryz.func142 rfl (by kernel_rfl) Tryz.ntmps142 (by simp) _ rfl (fun hw gB hgB=>?_)
 rw [zeb]
 generalize (yU m.clauses 0).any (fun r=>r.p != 1||(clV m r).tf != 0)=b at cf ⊢
 repeat' (first|(refine shC ?_;first|refine qC cc ?_|refine qC cf ?_)|refine sK ?_|refine sC (fun _=>?_) (fun _=>?_)|fail)
 exact retq rfl rfl
end Go.Cg
