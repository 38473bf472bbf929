/- A part of the walks by abstract values: no statement of its own. -/
import Derived.Test.YtdlokcmodgccnaaGreatU30
import Derived.Test.YtdlokcmodgccnaaGreatU26
import Derived.Test.YtdlokcmodgccnaaGreatU16
import Derived.Test.YtdlokcmodgccnaaGreatU19
import Derived.Test.YtdlokcmodgccnaaGreatU20
import Derived.Test.YtdlokcmodgccnaaGreatU33
set_option linter.unusedVariables false
set_option linter.unusedSimpArgs false
namespace Go.Cg
open Go.Proofs
set_option maxHeartbeats 20000000
theorem zaQ {l:List Cl} {at_:Int} (hl:l.length≤6):(qK l at_).length≤18:=by have:=zm0 l at_;omega
theorem zc1 (l:List Cl) (at_:Int) (hl:l.length≤6) (hs:∀ x∈zcG at_ l,SmP x):ACall Tryz.prog 57 [cls l,pi at_] (.slc 2 ((qK l at_).map fun x=>.agg [pi x.c,pi x.p]) false):=by
 have cc:=VI l at_ hl hs
 have hcl:=zaQ (at_:=at_) hl
 obtain ⟨c,hc⟩:∃ c,c=qK l at_:=⟨_,rfl⟩
 rw [←hc] at cc hcl ⊢
 refine zi zf Tryz.func57 rfl (by kernel_rfl) Tryz.ntmps57 (by simp) _ rfl (fun hw gB hgB=>?_)
 repeat' (first|refine Yr (t:=5) 20 61 2 (by decide) rfl rfl ?_|(refine shC ?_;first|refine qC cc ?_)|refine sA ?_|refine sC (fun _=>?_) (fun _=>?_)|fail)
 refine zW (fun k:Nat=>[(5,.own 20),(10,.pv (pts c)),(11,.pv (pi c.length)),(12,.pv (pi k))]) (fun k=>[(20,.row 61 2 ((c.take k).map fun x=>.agg [pi x.c,pi x.p]))]) (fun k=>k≤c.length) (fun k=>c.length - k) 0 (by omega) (tS) ⟨zD rfl zG,rfl⟩ ?_
 rintro k hk
 by_cases hlt:k < c.length
 ·have he:=yj (f:=yQ) hlt
  have hst:(c.take (k + 1)).map (fun x=>PV.agg [pi x.c,pi x.p])=(c.take k).map (fun x=>PV.agg [pi x.c,pi x.p])++[.agg [pi c[k].c,pi c[k].p]]:=by rw [List.take_succ_eq_append_getElem hlt,List.map_append];rfl
  generalize c[k]=x at he hst
  have htl:(c.take k).length≤18:=by simp;omega
  repeat' (first|(refine shX ?_;first|refine qX he ?_)|(refine yK ?_;first|refine qG zf rfl rfl rfl rfl rfl rfl rfl (by show _ * 16≤_;simp;omega) (by simp;omega) rfl rfl ?_)|refine sK ?_|refine sC (fun _=>?_) (fun _=>?_)|fail)
  exact ⟨k + 1,hlt,tD,tS,⟨zD (by rw [hst];rfl) zG,rfl⟩⟩
 ·have hk2:k=c.length:=by omega
  subst hk2
  repeat' (first|refine sK ?_|refine sC (fun _=>?_) (fun _=>?_)|fail)
  exact retq rfl (by rw [List.take_length];rfl)
theorem ziq (l:List Cl) (i to:Int) (hl:l.length≤6) (hs:∀ x∈zcG i l,SmP x) (hs2:∀ x∈zcG to l,SmP x):ACall Tryz.prog 95 [cls l,pi i,pi to] (pb (zfq l i to)):=by
 have c1:=VI l i hl hs
 have c2:=VI l to hl hs2
 have ha:=zaQ (at_:=i) hl
 have hb:=zaQ (at_:=to) hl
 rw [zfq]
 obtain ⟨a,haa⟩:∃ a,a=qK l i:=⟨_,rfl⟩
 obtain ⟨b,hbb⟩:∃ b,b=qK l to:=⟨_,rfl⟩
 rw [←haa] at c1 ha ⊢
 rw [←hbb] at c2 hb ⊢
 have ce:=zd7 b to (by omega)
 have hel:=zfC b to
 refine zi zf Tryz.func95 rfl (by kernel_rfl) Tryz.ntmps95 (by simp) _ rfl (fun hw gB hgB=>?_)
 repeat' (first|(refine shC ?_;first|refine qC c1 ?_|refine qC c2 ?_)|refine sA ?_|refine sC (fun _=>?_) (fun _=>?_)|fail)
 refine zW (fun k:Nat=>[(2,.pv (pi to)),(7,.pv (pts a)),(8,.pv (pts b)),(9,.pv (pi k))]) (fun _=>[]) (fun k=>k≤qW b to + 1∧∀ j,j < k→VO (b.drop j) a=false) (fun k=>qW b to + 1 - k) 0 ⟨by omega,fun j hj=>absurd hj (Nat.not_lt_zero j)⟩ (tS) tH ?_
 rintro k ⟨hk,hno⟩
 by_cases hlt:k < qW b to + 1
 ·have hd:decide (((k:Nat):Int)≤((qW b to:Nat):Int))=true:=decide_eq_true (by omega)
  have cs:=zid ((b.take b.length).drop k) a (by simp;omega)
  have ht:(b.take b.length).drop k=b.drop k:=by rw [List.take_length]
  cases hsm:VO (b.drop k) a
  ·rw [ht,hsm,←ht] at cs
   repeat' (first|refine zx rfl (Zu (xs:=b) (f:=yQ) k b.length zf rfl rfl rfl rfl rfl rfl (by simp [Qy]) (by omega) (by omega)) rfl rfl ?_|(refine shC ?_;first|refine qC ce ?_|refine qC cs ?_)|refine sK ?_|refine sC (fun _=>?_) (fun _=>?_)|fail)
   exact ⟨k + 1,⟨hlt,fun j hj=>by
    by_cases e:j=k
    ·subst e;exact hsm
    ·exact hno j (by omega)⟩,tD,tS,tH⟩
  ·rw [ht,hsm,←ht] at cs
   repeat' (first|refine zx rfl (Zu (xs:=b) (f:=yQ) k b.length zf rfl rfl rfl rfl rfl rfl (by simp [Qy]) (by omega) (by omega)) rfl rfl ?_|(refine shC ?_;first|refine qC ce ?_|refine qC cs ?_)|refine sK ?_|refine sC (fun _=>?_) (fun _=>?_)|fail)
   exact retq rfl (by rw [zk0 (by omega) hsm];rfl)
 ·have hd:decide (((k:Nat):Int)≤((qW b to:Nat):Int))=false:=decide_eq_false (by omega)
  repeat' (first|(refine shC ?_;first|refine qC ce ?_)|refine sK ?_|refine sC (fun _=>?_) (fun _=>?_)|fail)
  exact retq rfl (by rw [znO fun j hj=>hno j (by omega)];rfl)
theorem zi9 {l:List Cl} {a b:List Pt} {to:Int} {k:Nat} (h:k < a.length) (hn:zjD b to (a.drop k)=false):XU l b to (a.drop k)=if zs8 l a[k] then false else XU l b to (a.drop (k + 1)):=by
 rw [drop_cons h] at hn ⊢
 rw [XU,hn];simp
theorem zmA (l:List Cl) (i to:Int) (hl:l.length≤6) (hs:∀ x∈zcG i l,SmP x) (hs2:∀ x∈zcG to l,SmP x):ACall Tryz.prog 96 [cls l,pi i,pi to] (pb (zgF l i to)):=by
 have c1:=VI l i hl hs
 have c2:=VI l to hl hs2
 have ha:=zaQ (at_:=i) hl
 have hb:=zaQ (at_:=to) hl
 have hmem:∀ x∈qK l i,∃ j,j < l.length∧x.c=(j:Int):=by
  intro x hx
  obtain ⟨j,h1,h2,_⟩:=zgz hx
  refine ⟨j,h1,?_⟩
  unfold yG at h2
  split at h2 <;> simp at h2 <;> (rcases h2 with h|h|h <;> first|rfl|(rw [h])|skip) <;> simp_all
 rw [zgF]
 obtain ⟨a,haa⟩:∃ a,a=qK l i:=⟨_,rfl⟩
 obtain ⟨b,hbb⟩:∃ b,b=qK l to:=⟨_,rfl⟩
 rw [←haa] at c1 ha hmem ⊢
 rw [←hbb] at c2 hb ⊢
 have ce:=zd7 b to (by omega)
 have hel:=zfC b to
 refine zi zf Tryz.func96 rfl (by kernel_rfl) Tryz.ntmps96 (by simp) _ rfl (fun hw gB hgB=>?_)
 repeat' (first|(refine shC ?_;first|refine qC c1 ?_|refine qC c2 ?_)|refine sA ?_|refine sC (fun _=>?_) (fun _=>?_)|fail)
 refine zW (fun o:Nat=>[(0,.pv (cls l)),(2,.pv (pi to)),(7,.pv (pts a)),(8,.pv (pts b)),(9,.pv (pi o))]) (fun _=>[]) (fun o=>o≤a.length∧XU l b to a=XU l b to (a.drop o)) (fun o=>a.length + 1 - o) 0 ⟨by omega,rfl⟩ (tS) tH ?_
 rintro o ⟨ho,hr⟩
 have hdo:decide (((o:Nat):Int)≤(((a.map yQ).length:Nat):Int))=true:=decide_eq_true (by simp;omega)
 repeat' (first|refine sK ?_|refine sC (fun _=>?_) (fun _=>?_)|fail)
 refine zW (fun k:Nat=>[(0,.pv (cls l)),(2,.pv (pi to)),(7,.pv (pts a)),(8,.pv (pts b)),(9,.pv (pi o)),(10,.pv (pi k))]) (fun _=>[]) (fun k=>k≤qW b to + 1∧∀ j,j < k→VO (b.drop j) (a.drop o)=false) (fun k=>qW b to + 1 - k) 0 ⟨by omega,fun j hj=>absurd hj (Nat.not_lt_zero j)⟩ (tS) tH ?_
 rintro k ⟨hk,hno⟩
 have hda:(a.take a.length).drop o=a.drop o:=by rw [List.take_length]
 by_cases hlt:k < qW b to + 1
 ·have hd:decide (((k:Nat):Int)≤((qW b to:Nat):Int))=true:=decide_eq_true (by omega)
  have cs:=zid ((b.take b.length).drop k) ((a.take a.length).drop o) (by simp;omega)
  have ht:(b.take b.length).drop k=b.drop k:=by rw [List.take_length]
  cases hsm:VO (b.drop k) (a.drop o)
  ·rw [ht,hda,hsm,←ht,←hda] at cs
   repeat' (first|refine AD.step _ _ _ _ _ rfl (Zu (xs:=b) (f:=yQ) k b.length zf rfl rfl rfl rfl rfl rfl (by simp [Qy]) (by omega) (by omega)) rfl rfl ?_|refine AD.step _ _ _ _ _ rfl (Zu (xs:=a) (f:=yQ) o a.length zf rfl rfl rfl rfl rfl rfl (by simp [Qy]) (by omega) (by omega)) rfl rfl ?_|(refine shC ?_;first|refine qC ce ?_|refine qC cs ?_)|refine sK ?_|refine sC (fun _=>?_) (fun _=>?_)|fail)
   exact ⟨k + 1,⟨hlt,fun j hj=>by
    by_cases e:j=k
    ·subst e;exact hsm
    ·exact hno j (by omega)⟩,tD,tS,tH⟩
  ·rw [ht,hda,hsm,←ht,←hda] at cs
   have hy:XU l b to (a.drop o)=true:=by
    have:=zk0 (show k≤qW b to by omega) hsm
    generalize a.drop o=A at this
    cases A with
    | nil=>exact this
    | cons r A=>rw [XU,if_pos this]
   repeat' (first|refine AD.step _ _ _ _ _ rfl (Zu (xs:=b) (f:=yQ) k b.length zf rfl rfl rfl rfl rfl rfl (by simp [Qy]) (by omega) (by omega)) rfl rfl ?_|refine AD.step _ _ _ _ _ rfl (Zu (xs:=a) (f:=yQ) o a.length zf rfl rfl rfl rfl rfl rfl (by simp [Qy]) (by omega) (by omega)) rfl rfl ?_|(refine shC ?_;first|refine qC ce ?_|refine qC cs ?_)|refine sK ?_|refine sC (fun _=>?_) (fun _=>?_)|fail)
   exact retq rfl (by rw [hr,hy];rfl)
 ·have hd:decide (((k:Nat):Int)≤((qW b to:Nat):Int))=false:=decide_eq_false (by omega)
  have hn:zjD b to (a.drop o)=false:=znO fun j hj=>hno j (by omega)
  by_cases hoe:o < a.length
  ·have hoq:(((o:Nat):Int)==(((a.map yQ).length:Nat):Int))=false:=by simp;omega
   have hst:=zi9 (l:=l) hoe hn
   have he:=yj (f:=yQ) hoe
   obtain ⟨j,hj,hxc⟩:=hmem a[o] (List.getElem_mem hoe)
   generalize a[o]=x at he hst hxc
   have hec:=zcl hj
   have hec':(l.map ZX)[x.c.toNat]?=some (ZX (l.getD x.c.toNat default)):=by rw [hxc];exact hec
   have h0:0≤x.c:=by omega
   rw [hst] at hr
   obtain ⟨cl,hcl⟩:∃ cl,cl=l.getD x.c.toNat default:=⟨_,rfl⟩
   rw [zs8] at hr
   rw [←hcl] at hec' hr
   rcases Bool.eq_false_or_eq_true (x.p==3) with h3|h3 <;> rcases Bool.eq_false_or_eq_true (x.p==2) with h2|h2 <;> rcases Bool.eq_false_or_eq_true (cl.kind==1) with k1|k1 <;> rcases Bool.eq_false_or_eq_true (cl.kind==2) with k2|k2 <;> (
    have k1':(cl.kind != 1)=!(cl.kind==1):=rfl
    have k2':(cl.kind != 2)=!(cl.kind==2):=rfl
    rw [k1] at k1'
    rw [k2] at k2'
    repeat' (first|(refine shC ?_;first|refine qC ce ?_)|(refine shX ?_;first|refine qX he ?_|refine zx rfl (zq zf rfl rfl rfl rfl rfl rfl h0 hec') rfl rfl ?_|refine AD.step _ _ _ _ _ rfl (zq zf rfl rfl rfl rfl rfl rfl h0 hec') rfl rfl ?_)|refine sK ?_|refine sC (fun _=>?_) (fun _=>?_)|fail)
    all_goals first|exact retq rfl (by rw [hr];simp_all [zy];done)|exact ⟨o + 1,⟨hoe,by rw [hr];simp_all⟩,tD,tS,tH⟩)
  ·have hoq:(((o:Nat):Int)==(((a.map yQ).length:Nat):Int))=true:=by simp;omega
   rw [drop_end (by omega)] at hr hn
   have hf:XU l b to []=false:=hn
   repeat' (first|(refine shC ?_;first|refine qC ce ?_)|refine sK ?_|refine sC (fun _=>?_) (fun _=>?_)|fail)
   exact retq rfl (by rw [hr,hf];rfl)
set_option maxHeartbeats 20000000
def za5 (x:Pt):PV:=.agg [pi x.c,pi x.p]
def rgs (l:List Pt):PV:=.slc 2 (l.map za5) false
def Qr (g:Img) (m:Me):PV:=.agg [.slc 4 (g.types.map Zl) false,.slc 7 (g.fields.map Yb) false,.slc 12 (g.methods.map yB) false,pi g.entry,ps m.name,pi m.owner,pi m.flags,tys m.params,pi m.ret.kind,pi m.ret.index,pi m.ret.dims,pb m.ret.ref,tys m.locals,pi m.max,.slc 6 (m.code.map qj) false,.slc 10 (m.clauses.map ZX) false]
def zjG (l:List Pt) (p:Pt→Bool):Int:=if l.any p then ((l.findIdx p:Nat):Int) else -1
theorem zbx (l:List Pt) (p:Pt→Bool) (f:FuncId) (first cap:List PV) (hp:∀ x∈l,ACall Tryz.prog f (first++[za5 x]++cap) (pb (p x))):ACall Tryz.prog 97 [rgs l,.fn (.func f) first cap] (pi (zjG l p)):=by
 refine zi zf Tryz.func97 rfl (by kernel_rfl) Tryz.ntmps97 (by simp) _ rfl (fun hw gB hgB=>?_)
 have hl:l.length≤9223372036854775807:=by have:=hw.1;simp [rgs,PV.lenOk,maxLen] at this;exact this.1
 repeat' (first|refine sA ?_|refine sC (fun _=>?_) (fun _=>?_)|fail)
 refine zW (fun k:Nat=>[(0,.pv (rgs l)),(1,.pv (.fn (.func f) first cap)),(7,.pv (pi l.length)),(8,.pv (pi k))]) (fun _=>[]) (fun k=>k≤l.length∧∀ j (h:j < k) (h2:j < l.length),p l[j]=false) (fun k=>l.length - k) 0 ⟨by omega,fun j h=>by omega⟩ (tS) tH ?_
 rintro k ⟨hk,hno⟩
 by_cases hlt:k < l.length
 ·have he:=yj (f:=za5) hlt
  have c1:=hp _ (List.getElem_mem hlt)
  cases hpx:p l[k]
  ·rw [hpx] at c1
   repeat' (first|(refine shC ?_;first|refine qV (c1) ?_)|(refine shX ?_;first|refine qX he ?_)|refine sK ?_|refine sC (fun _=>?_) (fun _=>?_)|fail)
   exact ⟨k + 1,⟨hlt,fun j hj h2=>by
    by_cases e:j=k
    ·subst e;exact hpx
    ·exact hno j (by omega) h2⟩,tD,tS,tH⟩
  ·rw [hpx] at c1
   have hi:l.findIdx p=k:=by
    rw [List.findIdx_eq hlt]
    exact ⟨hpx,fun j hj=>hno j hj (by omega)⟩
   have ha:l.any p=true:=List.any_eq_true.2 ⟨_,List.getElem_mem hlt,hpx⟩
   repeat' (first|(refine shC ?_;first|refine qV (c1) ?_)|(refine shX ?_;first|refine qX he ?_)|refine sK ?_|refine sC (fun _=>?_) (fun _=>?_)|fail)
   exact retq rfl (by simp [zy,zjG,ha,hi])
 ·have ha:l.any p=false:=by
   rw [List.any_eq_false]
   intro x hx
   obtain ⟨j,hj,rfl⟩:=List.getElem_of_mem hx
   simp [hno j (by omega) hj]
  repeat' (first|refine sK ?_|refine sC (fun _=>?_) (fun _=>?_)|fail)
  exact retq rfl (by simp [zy,zjG,ha])
theorem zdh (l:List Pt) (p:Pt→Bool) (f:FuncId) (first cap:List PV) (hp:∀ x∈l,ACall Tryz.prog f (first++[za5 x]++cap) (pb (p x))):ACall Tryz.prog 56 [rgs l,.fn (.func f) first cap] (pb (l.any p)):=by
 refine zi zf Tryz.func56 rfl (by kernel_rfl) Tryz.ntmps56 (by simp) _ rfl (fun hw gB hgB=>?_)
 have c1:=zbx l p f first cap hp
 repeat' (first|(refine shC ?_;first|refine qC c1 ?_)|refine sA ?_|refine sC (fun _=>?_) (fun _=>?_)|fail)
 refine retq rfl ?_
 have:decide (0≤zjG l p)=l.any p:=by
  unfold zjG
  cases h:l.any p <;> simp
 simp [zy,this]
abbrev zfY (e:Int):Value:=.iface 93 (.int .i64 e)
theorem yC {b:Bool} (h:b=true) (e:Int):ACall Tryz.prog 54 [pb b,pi e] (.tup []):=by
 subst h
 refine zi zf Tryz.func54 rfl (by kernel_rfl) Tryz.ntmps54 (by simp) _ rfl (fun hw gB hgB=>?_)
 repeat' (first|refine sK ?_|refine sC (fun _=>?_) (fun _=>?_)|fail)
 exact VX rfl rfl
theorem yX {b:Bool} (h:b=false) (e:Int):ACallPan Tryz.prog 54 [.pv (pb b),.pv (pi e)] [] (zfY e):=by
 subst h
 refine VA Tryz.func54 rfl (by kernel_rfl) Tryz.ntmps54 (by simp) (fun gB hw1=>?_)
 repeat' (first|refine zl 1 2 rfl rfl rfl ?_|refine zx rfl (ziA rfl Tryz.underlying93 rfl) rfl rfl ?_|refine ziH rfl rfl rfl ?_|refine sK ?_|refine sC (fun _=>?_) (fun _=>?_)|fail)
 exact rfl
theorem goes_call (w:Int):ACall Tryz.prog 79 [pi w] (.tup [pb (zcO w),pb (WR w)]):=by
 refine zi zf Tryz.func79 rfl (by kernel_rfl) Tryz.ntmps79 (by simp) _ rfl (fun hw gB hgB=>?_)
 rcases Bool.eq_false_or_eq_true (w==0) with h0|h0 <;> rcases Bool.eq_false_or_eq_true (w==1) with h1|h1 <;> rcases Bool.eq_false_or_eq_true (w==2) with h2|h2 <;> rcases Bool.eq_false_or_eq_true (w==4) with h4|h4 <;> (
  repeat' (first|refine sK ?_|refine sC (fun _=>?_) (fun _=>?_)|fail)
  all_goals (refine retq rfl ?_;simp [zy,zcO,WR,h0,h1,h2,h4]))
theorem zkK (g:Img) (m:Me) (i:Int) (h0:0≤i) (h1:i.toNat < m.code.length):ACall Tryz.prog 80 [Qr g m,pi i] (pi (WJ m i)):=by
 have hei:(m.code.map qj)[i.toNat]?=some (qj (ql m i)):=by rw [ql,zQ h1];exact yj h1
 refine zi zf Tryz.func80 rfl (by kernel_rfl) Tryz.ntmps80 (by simp) _ rfl (fun hw gB hgB=>?_)
 by_cases hop:1≤(ql m i).op∧(ql m i).op≤75
 ·have co:=zds (ql m i).op hop.1 hop.2
  have hw:WJ m i=(ofI (ql m i).op).2.2:=by rw [WJ,decide_eq_true hop.1,decide_eq_true hop.2];rfl
  repeat' (first|(refine shC ?_;first|refine qC co ?_)|(refine shX ?_;first|refine zx rfl (zq zf rfl rfl rfl rfl rfl rfl h0 hei) rfl rfl ?_|refine AD.step _ _ _ _ _ rfl (zq zf rfl rfl rfl rfl rfl rfl h0 hei) rfl rfl ?_)|refine sK ?_|refine sC (fun _=>?_) (fun _=>?_)|fail)
  exact retq rfl (by rw [hw];rfl)
 ·have co:=zfu (ql m i).op (by omega)
  have hw:WJ m i=0:=by
   rw [WJ]
   split
   ·rename_i h;simp at h;omega
   ·rfl
  repeat' (first|(refine shC ?_;first|refine qC co ?_)|(refine shX ?_;first|refine zx rfl (zq zf rfl rfl rfl rfl rfl rfl h0 hei) rfl rfl ?_|refine AD.step _ _ _ _ _ rfl (zq zf rfl rfl rfl rfl rfl rfl h0 hei) rfl rfl ?_)|refine sK ?_|refine sC (fun _=>?_) (fun _=>?_)|fail)
  exact retq rfl (by rw [hw];rfl)
theorem zcp (g:Img) (m:Me) (i:Int):ACall Tryz.prog 55 [Qr g m,pi i] (pi (opV m i)):=by
 refine zi zf Tryz.func55 rfl (by kernel_rfl) Tryz.ntmps55 (by simp) _ rfl (fun hw gB hgB=>?_)
 by_cases h0:i < 0
 ·have hd:=decide_eq_true h0
  repeat' (first|refine sK ?_|refine sC (fun _=>?_) (fun _=>?_)|fail)
  all_goals (refine retq rfl ?_;simp [zy,opV,h0])
 ·have hd:=decide_eq_false h0
  by_cases h1:(((m.code.map qj).length:Nat):Int)≤i
  ·have hd1:=decide_eq_true h1
   have hl:(m.code.length:Int)≤i:=by simpa using h1
   repeat' (first|refine sK ?_|refine sC (fun _=>?_) (fun _=>?_)|fail)
   all_goals (refine retq rfl ?_;simp [zy,opV,hl])
  ·have hd1:=decide_eq_false h1
   have hl:¬ (m.code.length:Int)≤i:=by simpa using h1
   have h2:i.toNat < m.code.length:=by omega
   have hei:(m.code.map qj)[i.toNat]?=some (qj (ql m i)):=by rw [ql,zQ h2];exact yj h2
   repeat' (first|(refine shX ?_;first|refine qX hei ?_)|refine sK ?_|refine sC (fun _=>?_) (fun _=>?_)|fail)
   all_goals (refine retq rfl ?_;simp [zy,opV,h0,hl])
theorem zdq (g:Img) (m:Me) (r:Pt) (a b:Int) (h0:0≤r.c) (h1:r.c.toNat < m.clauses.length):ACall Tryz.prog 99 [Qr g m,za5 r,pi a,pi b] (pb (QI m r a b)):=by
 have hec:(m.clauses.map ZX)[r.c.toNat]?=some (ZX (clV m r)):=zcl h1
 rw [QI]
 generalize clV m r=c at hec ⊢
 refine zi zf Tryz.func99 rfl (by kernel_rfl) Tryz.ntmps99 (by simp) _ rfl (fun hw gB hgB=>?_)
 rcases Bool.eq_false_or_eq_true (r.p==2) with hp|hp <;> rcases Bool.eq_false_or_eq_true (c.kind==a) with ka|ka <;> rcases Bool.eq_false_or_eq_true (c.kind==b) with kb|kb <;> (
  repeat' (first|(refine shX ?_;first|refine zx rfl (zq zf rfl rfl rfl rfl rfl rfl h0 hec) rfl rfl ?_|refine AD.step _ _ _ _ _ rfl (zq zf rfl rfl rfl rfl rfl rfl h0 hec) rfl rfl ?_)|refine sK ?_|refine sC (fun _=>?_) (fun _=>?_)|fail)
  all_goals (refine retq rfl ?_;simp [zy,hp,ka,kb]))
theorem ziM (r:Pt):ACall Tryz.prog 98 [za5 r] (pb (r.p != 1)):=by
 refine zi zf Tryz.func98 rfl (by kernel_rfl) Tryz.ntmps98 (by simp) _ rfl (fun hw gB hgB=>?_)
 repeat' (first|refine sA ?_|refine sC (fun _=>?_) (fun _=>?_)|fail)
 exact retq rfl rfl
theorem zmx (t:Ty):ACall Tryz.prog 101 [yM t] (pb t.ref):=by
 refine zi zf Tryz.func101 rfl (by kernel_rfl) Tryz.ntmps101 (by simp) _ rfl (fun hw gB hgB=>?_)
 repeat' (first|refine sA ?_|refine sC (fun _=>?_) (fun _=>?_)|fail)
 exact retq rfl rfl
theorem zi2 (g:Img) (m:Me) (r:Pt) (h0:0≤r.c) (h1:r.c.toNat < m.clauses.length):ACall Tryz.prog 58 [za5 r,.ptr (Qr g m) 0] (pb (r.p != 1||(clV m r).tf != 0)):=by
 have hec:(m.clauses.map ZX)[r.c.toNat]?=some (ZX (clV m r)):=zcl h1
 generalize clV m r=c at hec ⊢
 refine zi zf Tryz.func58 rfl (by kernel_rfl) Tryz.ntmps58 (by simp) _ rfl (fun hw gB hgB=>?_)
 rcases Bool.eq_false_or_eq_true (r.p != 1) with hp|hp <;> (
  repeat' (first|(refine shX ?_;first|refine zx rfl (zq zf rfl rfl rfl rfl rfl rfl h0 hec) rfl rfl ?_|refine AD.step _ _ _ _ _ rfl (zq zf rfl rfl rfl rfl rfl rfl h0 hec) rfl rfl ?_)|refine sK ?_|refine sC (fun _=>?_) (fun _=>?_)|fail)
  all_goals (refine retq rfl ?_;simp [zy,hp]))
theorem zm4 (g:Img) (k:Int):ACall Tryz.prog 19 [zT g,pi k] (pb (decide (0≤k)&&decide (k < g.methods.length)&&decide (0 < (mAt g k).code.length))):=by
 refine zi zf Tryz.func19 rfl (by kernel_rfl) Tryz.ntmps19 (by simp) _ rfl (fun hw gB hgB=>?_)
 by_cases h0:0≤k
 ·have hd:=decide_eq_true h0
  by_cases h1:k < (((g.methods.map yB).length:Nat):Int)
  ·have hd1:=decide_eq_true h1
   have hl:k < g.methods.length:=by simpa using h1
   have h2:k.toNat < g.methods.length:=by omega
   have hem:(g.methods.map yB)[k.toNat]?=some (yB (mAt g k)):=by rw [mAt,zQ h2];exact yj h2
   repeat' (first|(refine shX ?_;first|refine zx rfl (zq zf rfl rfl rfl rfl rfl rfl h0 hem) rfl rfl ?_|refine AD.step _ _ _ _ _ rfl (zq zf rfl rfl rfl rfl rfl rfl h0 hem) rfl rfl ?_)|refine sK ?_|refine sC (fun _=>?_) (fun _=>?_)|fail)
   all_goals (refine retq rfl ?_;simp [zy,h0,hl])
  ·have hd1:=decide_eq_false h1
   have hl:¬ k < g.methods.length:=by simpa using h1
   repeat' (first|refine sK ?_|refine sC (fun _=>?_) (fun _=>?_)|fail)
   all_goals (refine retq rfl ?_;simp [zy,hl])
 ·have hd:=decide_eq_false h0
  repeat' (first|refine sK ?_|refine sC (fun _=>?_) (fun _=>?_)|fail)
  all_goals (refine retq rfl ?_;simp [zy,h0])
def zdV (e:Int):Out:=if e=0 then .ret (.pv (.tup [])) [] else .pan (zfY e)
theorem Zy {tb:Tab} {e:Int} {ex:Exit} {env:Env} {H:HEnv} (h:e=0) (he:ex=.normal∨ex=.ret):zjw tb [] (zdV e) ex env H:=by
 rw [zdV,if_pos h];exact ⟨he,.inl ⟨[],rfl,rfl,zG,rfl⟩⟩
theorem qR {tb:Tab} {rs:List ResultVar} {e k:Int} {env:Env} {H:HEnv} (h:e=k) (hk:k≠0):zjw tb rs (zdV e) (.panic [{ v:=zfY k,recovered:=false }]) env H:=by
 rw [zdV,if_neg (by rw [h];exact hk),h];rfl
structure ClOk (m:Me):Prop where
 n:m.clauses.length≤6
 s:∀ (at_:Int),∀ x∈zcG at_ m.clauses,SmP x
 code:m.code.length≤1000
theorem ziU {l:List Cl} {at_:Int} {x:Pt} (h:x∈qK l at_):0≤x.c∧x.c.toNat < l.length:=by
 obtain ⟨j,h1,h2,_⟩:=zgz h
 have:x.c=(j:Int):=by
  unfold yG at h2
  split at h2 <;> simp at h2 <;> (rcases h2 with h|h|h <;> first|rfl|(rw [h])|skip) <;> simp_all
 omega
set_option maxHeartbeats 8000000 in
theorem zrC (g:Img) (m:Me) (hm:ClOk m) (i:Int) (h0:0≤i) (h1:i.toNat < m.code.length):YQ Tryz.prog 51 [.pv (Qr g m),.pv (pi i)] [] (zdV (onV m i)):=by
 have hei:(m.code.map qj)[i.toNat]?=some (qj (ql m i)):=by rw [ql,zQ h1];exact yj h1
 have cw:=zkK g m i h0 h1
 have cg:=goes_call (WJ m i)
 have hmc:=hm.code
 have hw1:IntKind.i64.wrap (i + 1)=i + 1:=wrap_in (by omega) (by omega)
 have c1:=ziq m.clauses i (i + 1) hm.n (hm.s i) (hm.s (i + 1))
 have c2:=ziq m.clauses i (ql m i).arg hm.n (hm.s i) (hm.s _)
 have c3:=zmA m.clauses i (ql m i).arg hm.n (hm.s i) (hm.s _)
 rw [←hw1] at c1
 have hon:onV m i=if zcO (WJ m i)&&!decide (IntKind.i64.wrap (i + 1) < (((m.code.map qj).length:Nat):Int)) then 11
   else if zcO (WJ m i)&&!zfq m.clauses i (IntKind.i64.wrap (i + 1)) then 12
   else if !WR (WJ m i) then 0
   else if WJ m i==4 then (if zgF m.clauses i (ql m i).arg then 0 else 12)
   else if zfq m.clauses i (ql m i).arg then 0 else 12:=by rw [hw1,List.length_map];rfl
 rw [hon]
 generalize ql m i=x at *
 generalize WJ m i=w at *
 generalize zfq m.clauses i (IntKind.i64.wrap (i + 1))=p1 at *
 generalize zfq m.clauses i x.arg=p2 at *
 generalize zgF m.clauses i x.arg=p3 at *
 generalize zcO w=nx at *
 generalize WR w=pl at *
 refine zH zf Tryz.func51 rfl (by kernel_rfl) Tryz.ntmps51 (by simp) _ rfl (fun gB hw1=>?_)
 cases nx
 ·cases pl
  ·repeat' (first|(refine shC ?_;first|refine qC cw ?_|refine qC cg ?_)|refine sK ?_|refine sC (fun _=>?_) (fun _=>?_)|fail)
   all_goals first|exact Zy (by first|rfl|(simp only [hd,h4];rfl)|(simp only [h4];rfl)|(simp only [hd];rfl)) (.inr rfl)|exact Zy (by first|rfl|(simp only [hd,h4];rfl)|(simp only [h4];rfl)|(simp only [hd];rfl)) (.inl rfl)
  ·rcases Bool.eq_false_or_eq_true (w==4) with h4|h4
   ·cases p3
    ·repeat' (first|refine zl 9 4 rfl rfl rfl ?_|refine zA ([]) zh rfl rfl rfl tH (yX rfl 12) ?_|(refine shC ?_;first|refine qC cw ?_|refine qC cg ?_|refine qC c3 ?_)|(refine shX ?_;first|refine zx rfl (zq zf rfl rfl rfl rfl rfl rfl h0 hei) rfl rfl ?_|refine AD.step _ _ _ _ _ rfl (zq zf rfl rfl rfl rfl rfl rfl h0 hei) rfl rfl ?_)|refine sK ?_|refine sC (fun _=>?_) (fun _=>?_)|fail)
     all_goals exact qR (k:=12) (by first|rfl|(simp only [hd,h4];rfl)|(simp only [h4];rfl)|(simp only [hd];rfl)) (by decide)
    ·repeat' (first|(refine shC ?_;first|refine qC cw ?_|refine qC cg ?_|refine qC c3 ?_|refine qC (yC rfl 12) ?_)|(refine shX ?_;first|refine zx rfl (zq zf rfl rfl rfl rfl rfl rfl h0 hei) rfl rfl ?_|refine AD.step _ _ _ _ _ rfl (zq zf rfl rfl rfl rfl rfl rfl h0 hei) rfl rfl ?_)|refine sK ?_|refine sC (fun _=>?_) (fun _=>?_)|fail)
     all_goals first|exact Zy (by first|rfl|(simp only [hd,h4];rfl)|(simp only [h4];rfl)|(simp only [hd];rfl)) (.inr rfl)|exact Zy (by first|rfl|(simp only [hd,h4];rfl)|(simp only [h4];rfl)|(simp only [hd];rfl)) (.inl rfl)
   ·cases p2
    ·repeat' (first|refine zl 10 4 rfl rfl rfl ?_|refine zA ([]) zh rfl rfl rfl tH (yX rfl 12) ?_|(refine shC ?_;first|refine qC cw ?_|refine qC cg ?_|refine qC c2 ?_)|(refine shX ?_;first|refine zx rfl (zq zf rfl rfl rfl rfl rfl rfl h0 hei) rfl rfl ?_|refine AD.step _ _ _ _ _ rfl (zq zf rfl rfl rfl rfl rfl rfl h0 hei) rfl rfl ?_)|refine sK ?_|refine sC (fun _=>?_) (fun _=>?_)|fail)
     all_goals exact qR (k:=12) (by first|rfl|(simp only [hd,h4];rfl)|(simp only [h4];rfl)|(simp only [hd];rfl)) (by decide)
    ·repeat' (first|(refine shC ?_;first|refine qC cw ?_|refine qC cg ?_|refine qC c2 ?_|refine qC (yC rfl 12) ?_)|(refine shX ?_;first|refine zx rfl (zq zf rfl rfl rfl rfl rfl rfl h0 hei) rfl rfl ?_|refine AD.step _ _ _ _ _ rfl (zq zf rfl rfl rfl rfl rfl rfl h0 hei) rfl rfl ?_)|refine sK ?_|refine sC (fun _=>?_) (fun _=>?_)|fail)
     all_goals first|exact Zy (by first|rfl|(simp only [hd,h4];rfl)|(simp only [h4];rfl)|(simp only [hd];rfl)) (.inr rfl)|exact Zy (by first|rfl|(simp only [hd,h4];rfl)|(simp only [h4];rfl)|(simp only [hd];rfl)) (.inl rfl)
 ·rcases Bool.eq_false_or_eq_true (decide (IntKind.i64.wrap (i + 1) < (((m.code.map qj).length:Nat):Int))) with hd|hd
  ·cases p1
   ·repeat' (first|refine zl 5 5 rfl rfl rfl ?_|refine zA ([]) zh rfl rfl rfl tH (yX rfl 12) ?_|(refine shC ?_;first|refine qC cw ?_|refine qC cg ?_|refine qC (yC hd 11) ?_|refine qC c1 ?_)|refine sK ?_|refine sC (fun _=>?_) (fun _=>?_)|fail)
    all_goals exact qR (k:=12) (by first|rfl|(simp only [hd,h4];rfl)|(simp only [h4];rfl)|(simp only [hd];rfl)) (by decide)
   ·cases pl
    ·repeat' (first|(refine shC ?_;first|refine qC cw ?_|refine qC cg ?_|refine qC (yC hd 11) ?_|refine qC c1 ?_|refine qC (yC rfl 12) ?_)|refine sK ?_|refine sC (fun _=>?_) (fun _=>?_)|fail)
     all_goals first|exact Zy (by first|rfl|(simp only [hd,h4];rfl)|(simp only [h4];rfl)|(simp only [hd];rfl)) (.inr rfl)|exact Zy (by first|rfl|(simp only [hd,h4];rfl)|(simp only [h4];rfl)|(simp only [hd];rfl)) (.inl rfl)
    ·rcases Bool.eq_false_or_eq_true (w==4) with h4|h4
     ·cases p3
      ·repeat' (first|refine zl 9 4 rfl rfl rfl ?_|refine zA ([]) zh rfl rfl rfl tH (yX rfl 12) ?_|(refine shC ?_;first|refine qC cw ?_|refine qC cg ?_|refine qC (yC hd 11) ?_|refine qC c1 ?_|refine qC (yC rfl 12) ?_|refine qC c3 ?_)|(refine shX ?_;first|refine zx rfl (zq zf rfl rfl rfl rfl rfl rfl h0 hei) rfl rfl ?_|refine AD.step _ _ _ _ _ rfl (zq zf rfl rfl rfl rfl rfl rfl h0 hei) rfl rfl ?_)|refine sK ?_|refine sC (fun _=>?_) (fun _=>?_)|fail)
       all_goals exact qR (k:=12) (by first|rfl|(simp only [hd,h4];rfl)|(simp only [h4];rfl)|(simp only [hd];rfl)) (by decide)
      ·repeat' (first|(refine shC ?_;first|refine qC cw ?_|refine qC cg ?_|refine qC (yC hd 11) ?_|refine qC c1 ?_|refine qC (yC rfl 12) ?_|refine qC c3 ?_|refine qC (yC rfl 12) ?_)|(refine shX ?_;first|refine zx rfl (zq zf rfl rfl rfl rfl rfl rfl h0 hei) rfl rfl ?_|refine AD.step _ _ _ _ _ rfl (zq zf rfl rfl rfl rfl rfl rfl h0 hei) rfl rfl ?_)|refine sK ?_|refine sC (fun _=>?_) (fun _=>?_)|fail)
       all_goals first|exact Zy (by first|rfl|(simp only [hd,h4];rfl)|(simp only [h4];rfl)|(simp only [hd];rfl)) (.inr rfl)|exact Zy (by first|rfl|(simp only [hd,h4];rfl)|(simp only [h4];rfl)|(simp only [hd];rfl)) (.inl rfl)
     ·cases p2
      ·repeat' (first|refine zl 10 4 rfl rfl rfl ?_|refine zA ([]) zh rfl rfl rfl tH (yX rfl 12) ?_|(refine shC ?_;first|refine qC cw ?_|refine qC cg ?_|refine qC (yC hd 11) ?_|refine qC c1 ?_|refine qC (yC rfl 12) ?_|refine qC c2 ?_)|(refine shX ?_;first|refine zx rfl (zq zf rfl rfl rfl rfl rfl rfl h0 hei) rfl rfl ?_|refine AD.step _ _ _ _ _ rfl (zq zf rfl rfl rfl rfl rfl rfl h0 hei) rfl rfl ?_)|refine sK ?_|refine sC (fun _=>?_) (fun _=>?_)|fail)
       all_goals exact qR (k:=12) (by first|rfl|(simp only [hd,h4];rfl)|(simp only [h4];rfl)|(simp only [hd];rfl)) (by decide)
      ·repeat' (first|(refine shC ?_;first|refine qC cw ?_|refine qC cg ?_|refine qC (yC hd 11) ?_|refine qC c1 ?_|refine qC (yC rfl 12) ?_|refine qC c2 ?_|refine qC (yC rfl 12) ?_)|(refine shX ?_;first|refine zx rfl (zq zf rfl rfl rfl rfl rfl rfl h0 hei) rfl rfl ?_|refine AD.step _ _ _ _ _ rfl (zq zf rfl rfl rfl rfl rfl rfl h0 hei) rfl rfl ?_)|refine sK ?_|refine sC (fun _=>?_) (fun _=>?_)|fail)
       all_goals first|exact Zy (by first|rfl|(simp only [hd,h4];rfl)|(simp only [h4];rfl)|(simp only [hd];rfl)) (.inr rfl)|exact Zy (by first|rfl|(simp only [hd,h4];rfl)|(simp only [h4];rfl)|(simp only [hd];rfl)) (.inl rfl)
  ·repeat' (first|refine zl 4 7 rfl rfl rfl ?_|refine zA ([]) zh rfl rfl rfl tH (yX hd 11) ?_|(refine shC ?_;first|refine qC cw ?_|refine qC cg ?_)|refine sK ?_|refine sC (fun _=>?_) (fun _=>?_)|fail)
   all_goals exact qR (k:=11) (by first|rfl|(simp only [hd,h4];rfl)|(simp only [h4];rfl)|(simp only [hd];rfl)) (by decide)
theorem QK {f:FuncId} {args:List AV} {P:Program} {e:Int} (h:YQ P f args [] (zdV e)) (he:e=0):ACallM P f args [] (.pv (.tup [])) []:=by
 rw [zdV,if_pos he] at h;exact h
theorem zgc {f:FuncId} {args:List AV} {P:Program} {e:Int} (h:YQ P f args [] (zdV e)) (he:e≠0):ACallPan P f args [] (zfY e):=by
 rw [zdV,if_neg he] at h;exact h
set_option maxHeartbeats 8000000 in
theorem zoy (g:Img) (m:Me) (hm:ClOk m) (i:Int) (h0:0≤i) (h1:i.toNat < m.code.length)
  (hc:opV m i=47→opV m (i + 1)=43∨opV m (i + 1)=44→(0≤(ql m (i + 1)).arg∧(ql m (i + 1)).arg.toNat < g.methods.length)∧(XY g m i).params.length≤100):YQ Tryz.prog 53 [.pv (Qr g m),.pv (pi i)] [] (zdV (tailV g m i)):=by
 have hmc:=hm.code
 have hwr:IntKind.i64.wrap (i + 1)=i + 1:=wrap_in (by omega) (by omega)
 have hw2:IntKind.i64.wrap (i + 2)=i + 2:=wrap_in (by omega) (by omega)
 have c0:=zcp g m i
 have c1:ACall Tryz.prog 55 [Qr g m,pi (IntKind.i64.wrap (i + 1))] (pi (opV m (i + 1))):=by rw [hwr];exact zcp g m (i + 1)
 have c2:ACall Tryz.prog 55 [Qr g m,pi (IntKind.i64.wrap (i + 2))] (pi (opV m (i + 2))):=by rw [hw2];exact zcp g m (i + 2)
 have cc:=zc1 m.clauses i hm.n (hm.s i)
 refine zH zf Tryz.func53 rfl (by kernel_rfl) Tryz.ntmps53 (by simp) _ rfl (fun gB hw1=>?_)
 have cc:ACall Tryz.prog 57 [cls m.clauses,pi i] (rgs (qK m.clauses i)):=cc
 cases h47:(opV m i != 47)
 ·have hwb:(opV m i==47)=true:=by simpa using h47
  cases hb:((opV m (i + 1)==43||opV m (i + 1)==44)&&opV m (i + 2)==46&&(qK m.clauses i).isEmpty)
  ·have hz:tailV g m i=11:=by rw [tailV,h47,hb];rfl
   have hle:(((((qK m.clauses i).map za5).length:Nat):Int)==0)=(qK m.clauses i).isEmpty:=by cases qK m.clauses i <;> simp;omega
   rcases Bool.eq_false_or_eq_true (opV m (i + 1)==43) with k1|k1
   ·rcases Bool.eq_false_or_eq_true (opV m (i + 2)==46) with k3|k3
    ·rw [k1,k3] at hb
     have hle2:(((((qK m.clauses i).map za5).length:Nat):Int)==0)=false:=by rw [hle];simpa using hb
     repeat' (first|refine zl 3 22 rfl rfl rfl ?_|refine zA ([]) zh rfl rfl rfl tH (yX hle2 11) ?_|(refine shC ?_;first|refine qC c0 ?_|refine qC c1 ?_|refine qC c2 ?_|refine qC cc ?_)|refine sK ?_|refine sC (fun _=>?_) (fun _=>?_)|fail)
     exact qR hz (by decide)
    ·repeat' (first|refine zl 3 22 rfl rfl rfl ?_|refine zA ([]) zh rfl rfl rfl tH (yX rfl 11) ?_|(refine shC ?_;first|refine qC c0 ?_|refine qC c1 ?_|refine qC c2 ?_|refine qC cc ?_)|refine sK ?_|refine sC (fun _=>?_) (fun _=>?_)|fail)
     exact qR hz (by decide)
   ·rcases Bool.eq_false_or_eq_true (opV m (i + 1)==44) with k2|k2
    ·rcases Bool.eq_false_or_eq_true (opV m (i + 2)==46) with k3|k3
     ·rw [k1,k2,k3] at hb
      have hle2:(((((qK m.clauses i).map za5).length:Nat):Int)==0)=false:=by rw [hle];simpa using hb
      repeat' (first|refine zl 3 22 rfl rfl rfl ?_|refine zA ([]) zh rfl rfl rfl tH (yX hle2 11) ?_|(refine shC ?_;first|refine qC c0 ?_|refine qC c1 ?_|refine qC c2 ?_|refine qC cc ?_)|refine sK ?_|refine sC (fun _=>?_) (fun _=>?_)|fail)
      exact qR hz (by decide)
     ·repeat' (first|refine zl 3 22 rfl rfl rfl ?_|refine zA ([]) zh rfl rfl rfl tH (yX rfl 11) ?_|(refine shC ?_;first|refine qC c0 ?_|refine qC c1 ?_|refine qC c2 ?_|refine qC cc ?_)|refine sK ?_|refine sC (fun _=>?_) (fun _=>?_)|fail)
      exact qR hz (by decide)
    ·repeat' (first|refine zl 3 22 rfl rfl rfl ?_|refine zA ([]) zh rfl rfl rfl tH (yX rfl 11) ?_|(refine shC ?_;first|refine qC c0 ?_|refine qC c1 ?_|refine qC c2 ?_|refine qC cc ?_)|refine sK ?_|refine sC (fun _=>?_) (fun _=>?_)|fail)
     exact qR hz (by decide)
  ·simp only [Bool.and_eq_true,Bool.or_eq_true] at hb
   obtain ⟨⟨hb1,hb2⟩,hb3⟩:=hb
   have hin:(i + 1).toNat < m.code.length:=by
    rcases Nat.lt_or_ge (i + 1).toNat m.code.length with h|h
    ·exact h
    ·have:opV m (i + 1)=0:=by rw [opV];simp;omega
     rw [this] at hb1;simp at hb1
   obtain ⟨⟨ha0,ha1⟩,hpl⟩:=hc (by simpa using hwb) (by simpa using hb1)
   have hei:(m.code.map qj)[(IntKind.i64.wrap (i + 1)).toNat]?=some (qj (ql m (i + 1))):=by rw [hwr,ql,zQ hin];exact yj hin
   have hem:(g.methods.map yB)[(ql m (i + 1)).arg.toNat]?=some (yB (XY g m i)):=by rw [XY,mAt,zQ ha1];exact yj ha1
   have hle:(((((qK m.clauses i).map za5).length:Nat):Int)==0)=true:=by
    have:qK m.clauses i=[]:=by simpa using hb3
    rw [this];rfl
   have hbb:((opV m (i + 1)==43||opV m (i + 1)==44)&&opV m (i + 2)==46&&(qK m.clauses i).isEmpty)=true:=by simp only [hb2,hb3,Bool.and_true];simpa using hb1
   have hz:tailV g m i=if !tyB (XY g m i).ret m.ret then 10 else if (QB g (XY g m i)).any (fun t=>t.ref) then 13 else 0:=by rw [tailV,h47,hbb];rfl
   have cA:=zaT g (XY g m i) (by omega)
   have cF:=YA (QB g (XY g m i)) (fun t=>t.ref) 101 [] [] (fun t _=>zmx t)
   have hix:(0:Int)≤IntKind.i64.wrap (i + 1):=by omega
   generalize ql m (i + 1)=x at *
   generalize XY g m i=c at *
   cases ht:tyB c.ret m.ret
   ·have hz2:tailV g m i=10:=by rw [hz,ht];rfl
    rcases Bool.eq_false_or_eq_true (opV m (i + 1)==43) with k1|k1
    ·repeat' (first|refine zN 1 13 14 0 12 zf (by kernel_rfl) (by kernel_rfl) rfl rfl rfl rfl rfl rfl rfl rfl rfl rfl rfl rfl rfl rfl rfl rfl rfl rfl rfl rfl rfl rfl ?_|refine yg rfl rfl ?_|refine ⟨_,_,rfl,rfl,?_⟩|refine zl 5 6 rfl rfl rfl ?_|refine zA ([]) zh rfl rfl rfl tH (yX ht 10) ?_|(refine shC ?_;first|refine qC c0 ?_|refine qC c1 ?_|refine qC c2 ?_|refine qC cc ?_|refine qC (yC hle 11) ?_)|(refine shX ?_;first|refine zx rfl (zq zf rfl rfl rfl rfl rfl rfl hix hei) rfl rfl ?_|refine AD.step _ _ _ _ _ rfl (zq zf rfl rfl rfl rfl rfl rfl hix hei) rfl rfl ?_|refine zx rfl (zq zf rfl rfl rfl rfl rfl rfl ha0 hem) rfl rfl ?_|refine AD.step _ _ _ _ _ rfl (zq zf rfl rfl rfl rfl rfl rfl ha0 hem) rfl rfl ?_)|refine sK ?_|refine sC (fun _=>?_) (fun _=>?_)|fail)
     exact qR hz2 (by decide)
    ·have k2:(opV m (i + 1)==44)=true:=by rw [k1] at hb1;simpa using hb1
     repeat' (first|refine zN 1 13 14 0 12 zf (by kernel_rfl) (by kernel_rfl) rfl rfl rfl rfl rfl rfl rfl rfl rfl rfl rfl rfl rfl rfl rfl rfl rfl rfl rfl rfl rfl rfl ?_|refine yg rfl rfl ?_|refine ⟨_,_,rfl,rfl,?_⟩|refine zl 5 6 rfl rfl rfl ?_|refine zA ([]) zh rfl rfl rfl tH (yX ht 10) ?_|(refine shC ?_;first|refine qC c0 ?_|refine qC c1 ?_|refine qC c2 ?_|refine qC cc ?_|refine qC (yC hle 11) ?_)|(refine shX ?_;first|refine zx rfl (zq zf rfl rfl rfl rfl rfl rfl hix hei) rfl rfl ?_|refine AD.step _ _ _ _ _ rfl (zq zf rfl rfl rfl rfl rfl rfl hix hei) rfl rfl ?_|refine zx rfl (zq zf rfl rfl rfl rfl rfl rfl ha0 hem) rfl rfl ?_|refine AD.step _ _ _ _ _ rfl (zq zf rfl rfl rfl rfl rfl rfl ha0 hem) rfl rfl ?_)|refine sK ?_|refine sC (fun _=>?_) (fun _=>?_)|fail)
     exact qR hz2 (by decide)
   ·cases ha:(QB g c).any fun t=>t.ref
    ·have hz2:tailV g m i=0:=by rw [hz,ht,ha];rfl
     rw [ha] at cF
     rcases Bool.eq_false_or_eq_true (opV m (i + 1)==43) with k1|k1
     ·repeat' (first|refine zN 1 13 14 0 12 zf (by kernel_rfl) (by kernel_rfl) rfl rfl rfl rfl rfl rfl rfl rfl rfl rfl rfl rfl rfl rfl rfl rfl rfl rfl rfl rfl rfl rfl ?_|refine yg rfl rfl ?_|refine ⟨_,_,rfl,rfl,?_⟩|(refine shC ?_;first|refine qC c0 ?_|refine qC c1 ?_|refine qC c2 ?_|refine qC cc ?_|refine qC (yC hle 11) ?_|refine qC (yC ht 10) ?_|refine qC cA ?_|refine qC cF ?_|refine qC (yC rfl 13) ?_)|(refine shX ?_;first|refine zx rfl (zq zf rfl rfl rfl rfl rfl rfl hix hei) rfl rfl ?_|refine AD.step _ _ _ _ _ rfl (zq zf rfl rfl rfl rfl rfl rfl hix hei) rfl rfl ?_|refine zx rfl (zq zf rfl rfl rfl rfl rfl rfl ha0 hem) rfl rfl ?_|refine AD.step _ _ _ _ _ rfl (zq zf rfl rfl rfl rfl rfl rfl ha0 hem) rfl rfl ?_)|refine sK ?_|refine sC (fun _=>?_) (fun _=>?_)|fail)
      exact Zy hz2 (.inl rfl)
     ·have k2:(opV m (i + 1)==44)=true:=by rw [k1] at hb1;simpa using hb1
      repeat' (first|refine zN 1 13 14 0 12 zf (by kernel_rfl) (by kernel_rfl) rfl rfl rfl rfl rfl rfl rfl rfl rfl rfl rfl rfl rfl rfl rfl rfl rfl rfl rfl rfl rfl rfl ?_|refine yg rfl rfl ?_|refine ⟨_,_,rfl,rfl,?_⟩|(refine shC ?_;first|refine qC c0 ?_|refine qC c1 ?_|refine qC c2 ?_|refine qC cc ?_|refine qC (yC hle 11) ?_|refine qC (yC ht 10) ?_|refine qC cA ?_|refine qC cF ?_|refine qC (yC rfl 13) ?_)|(refine shX ?_;first|refine zx rfl (zq zf rfl rfl rfl rfl rfl rfl hix hei) rfl rfl ?_|refine AD.step _ _ _ _ _ rfl (zq zf rfl rfl rfl rfl rfl rfl hix hei) rfl rfl ?_|refine zx rfl (zq zf rfl rfl rfl rfl rfl rfl ha0 hem) rfl rfl ?_|refine AD.step _ _ _ _ _ rfl (zq zf rfl rfl rfl rfl rfl rfl ha0 hem) rfl rfl ?_)|refine sK ?_|refine sC (fun _=>?_) (fun _=>?_)|fail)
      exact Zy hz2 (.inl rfl)
    ·have hz2:tailV g m i=13:=by rw [hz,ht,ha];rfl
     rw [ha] at cF
     rcases Bool.eq_false_or_eq_true (opV m (i + 1)==43) with k1|k1
     ·repeat' (first|refine zN 1 13 14 0 12 zf (by kernel_rfl) (by kernel_rfl) rfl rfl rfl rfl rfl rfl rfl rfl rfl rfl rfl rfl rfl rfl rfl rfl rfl rfl rfl rfl rfl rfl ?_|refine yg rfl rfl ?_|refine ⟨_,_,rfl,rfl,?_⟩|refine zl 6 6 rfl rfl rfl ?_|refine zA ([]) zh rfl rfl rfl tH (yX rfl 13) ?_|(refine shC ?_;first|refine qC c0 ?_|refine qC c1 ?_|refine qC c2 ?_|refine qC cc ?_|refine qC (yC hle 11) ?_|refine qC (yC ht 10) ?_|refine qC cA ?_|refine qC cF ?_)|(refine shX ?_;first|refine zx rfl (zq zf rfl rfl rfl rfl rfl rfl hix hei) rfl rfl ?_|refine AD.step _ _ _ _ _ rfl (zq zf rfl rfl rfl rfl rfl rfl hix hei) rfl rfl ?_|refine zx rfl (zq zf rfl rfl rfl rfl rfl rfl ha0 hem) rfl rfl ?_|refine AD.step _ _ _ _ _ rfl (zq zf rfl rfl rfl rfl rfl rfl ha0 hem) rfl rfl ?_)|refine sK ?_|refine sC (fun _=>?_) (fun _=>?_)|fail)
      exact qR hz2 (by decide)
     ·have k2:(opV m (i + 1)==44)=true:=by rw [k1] at hb1;simpa using hb1
      repeat' (first|refine zN 1 13 14 0 12 zf (by kernel_rfl) (by kernel_rfl) rfl rfl rfl rfl rfl rfl rfl rfl rfl rfl rfl rfl rfl rfl rfl rfl rfl rfl rfl rfl rfl rfl ?_|refine yg rfl rfl ?_|refine ⟨_,_,rfl,rfl,?_⟩|refine zl 6 6 rfl rfl rfl ?_|refine zA ([]) zh rfl rfl rfl tH (yX rfl 13) ?_|(refine shC ?_;first|refine qC c0 ?_|refine qC c1 ?_|refine qC c2 ?_|refine qC cc ?_|refine qC (yC hle 11) ?_|refine qC (yC ht 10) ?_|refine qC cA ?_|refine qC cF ?_)|(refine shX ?_;first|refine zx rfl (zq zf rfl rfl rfl rfl rfl rfl hix hei) rfl rfl ?_|refine AD.step _ _ _ _ _ rfl (zq zf rfl rfl rfl rfl rfl rfl hix hei) rfl rfl ?_|refine zx rfl (zq zf rfl rfl rfl rfl rfl rfl ha0 hem) rfl rfl ?_|refine AD.step _ _ _ _ _ rfl (zq zf rfl rfl rfl rfl rfl rfl ha0 hem) rfl rfl ?_)|refine sK ?_|refine sC (fun _=>?_) (fun _=>?_)|fail)
      exact qR hz2 (by decide)
 ·have hz:tailV g m i=0:=by rw [tailV,h47];rfl
  repeat' (first|(refine shC ?_;first|refine qC c0 ?_)|refine sK ?_|refine sC (fun _=>?_) (fun _=>?_)|fail)
  exact Zy hz (.inr rfl)
set_option maxHeartbeats 8000000 in
theorem zkN (g:Img) (m:Me) (hm:ClOk m) (i:Int) (h0:0≤i) (h1:i.toNat < m.code.length):YQ Tryz.prog 52 [.pv (Qr g m),.pv (pi i)] [] (zdV (Zz m i)):=by
 have hmc:=hm.code
 have c0:=zcp g m i
 have cc:ACall Tryz.prog 57 [cls m.clauses,pi i] (rgs (qK m.clauses i)):=zc1 m.clauses i hm.n (hm.s i)
 have hcc:=fun x (hx:x∈qK m.clauses i)=>ziU hx
 have hiv:Zz m i=Zz m i:=rfl
 conv at hiv=>rhs;rw [Zz]
 generalize qK m.clauses i=c at *
 refine zH zf Tryz.func52 rfl (by kernel_rfl) Tryz.ntmps52 (by simp) _ rfl (fun gB hw1=>?_)
 rcases Bool.eq_false_or_eq_true (opV m i==46) with k1|k1
 ·rw [k1,if_pos rfl] at hiv
  have hle:((((c.map za5).length:Nat):Int)==0)=c.isEmpty:=by cases c <;> simp;omega
  cases he:c.isEmpty
  ·rw [he] at hle hiv
   repeat' (first|refine zl 4 3 rfl rfl rfl ?_|refine zA ([]) zh rfl rfl rfl tH (yX hle 12) ?_|(refine shC ?_;first|refine qC cc ?_|refine qC c0 ?_)|refine sK ?_|refine sC (fun _=>?_) (fun _=>?_)|fail)
   exact qR hiv (by decide)
  ·rw [he] at hle hiv
   repeat' (first|(refine shC ?_;first|refine qC cc ?_|refine qC c0 ?_|refine qC (yC hle 12) ?_)|refine sK ?_|refine sC (fun _=>?_) (fun _=>?_)|fail)
   exact Zy hiv (.inl rfl)
 ·rw [k1,if_neg (by simp)] at hiv
  rcases Bool.eq_false_or_eq_true (opV m i==70) with k2|k2
  ·rw [k2,if_pos rfl] at hiv
   have ci:=zbx c (fun r=>r.p != 1) 98 [] [] (fun r _=>ziM r)
   cases ha:c.any (fun r=>r.p != 1)
   ·have e:zjG c (fun r=>r.p != 1) = -1:=by rw [zjG,ha];rfl
    have hz:Zz m i=12:=by
     have:c.find? (fun r=>r.p != 1)=none:=by rw [List.find?_eq_none];rw [List.any_eq_false] at ha;exact ha
     rw [hiv,this]
    rw [e] at ci
    repeat' (first|refine yU 11 10 rfl (by kernel_rfl) (by kernel_rfl) (by kernel_rfl) (by kernel_rfl) (by kernel_rfl) ?_|refine zA ([]) zh rfl rfl rfl tH (yX rfl 12) ?_|(refine shC ?_;first|refine qC cc ?_|refine qC c0 ?_|refine qC ci ?_)|refine sK ?_|refine sC (fun _=>?_) (fun _=>?_)|fail)
    exact qR hz (by decide)
   ·have e:zjG c (fun r=>r.p != 1)=((c.findIdx (fun r=>r.p != 1):Nat):Int):=by rw [zjG,ha];rfl
    have hlt:c.findIdx (fun r=>r.p != 1) < c.length:=List.findIdx_lt_length.2 (by simpa using ha)
    have hf:c.find? (fun r=>r.p != 1)=some c[c.findIdx (fun r=>r.p != 1)]:=by rw [List.find?_eq_getElem?_findIdx,List.getElem?_eq_getElem hlt]
    have he:=yj (f:=za5) hlt
    have hr:=hcc _ (List.getElem_mem hlt)
    rw [hf] at hiv
    rw [e] at ci
    generalize c[c.findIdx (fun r=>r.p != 1)]=r at *
    generalize c.findIdx (fun r=>r.p != 1)=k at *
    have ch:=zdq g m r 1 2 hr.1 hr.2
    have hd:decide ((0:Int)≤((k:Nat):Int))=true:=decide_eq_true (by omega)
    cases hh:QI m r 1 2
    ·rw [hh] at ch
     have hz:Zz m i=12:=by rw [hiv];show (if QI m r 1 2=true then 0 else 12)=(12:Int);rw [hh];rfl
     repeat' (first|refine yU 11 10 rfl (by kernel_rfl) (by kernel_rfl) (by kernel_rfl) (by kernel_rfl) (by kernel_rfl) ?_|refine zA ([]) zh rfl rfl rfl tH (yX rfl 12) ?_|(refine shC ?_;first|refine qC cc ?_|refine qC c0 ?_|refine qC ci ?_|refine qC ch ?_)|(refine shX ?_;first|refine qX he ?_)|refine sK ?_|refine sC (fun _=>?_) (fun _=>?_)|fail)
     exact qR hz (by decide)
    ·rw [hh] at ch
     have hz:Zz m i=0:=by rw [hiv];show (if QI m r 1 2=true then 0 else 12)=(0:Int);rw [hh];rfl
     repeat' (first|(refine shC ?_;first|refine qC cc ?_|refine qC c0 ?_|refine qC ci ?_|refine qC ch ?_|refine qC (yC rfl 12) ?_)|(refine shX ?_;first|refine qX he ?_)|refine sK ?_|refine sC (fun _=>?_) (fun _=>?_)|fail)
     exact Zy hz (.inl rfl)
  ·rw [k2,if_neg (by simp)] at hiv
   rcases Bool.eq_false_or_eq_true (opV m i==72) with k3|k3
   ·rw [k3,if_pos rfl] at hiv
    cases c with
    | nil =>
     repeat' (first|refine yU 11 10 rfl (by kernel_rfl) (by kernel_rfl) (by kernel_rfl) (by kernel_rfl) (by kernel_rfl) ?_|refine zA ([]) zh rfl rfl rfl tH (yX rfl 12) ?_|(refine shC ?_;first|refine qC cc ?_|refine qC c0 ?_)|refine sK ?_|refine sC (fun _=>?_) (fun _=>?_)|fail)
     exact qR hiv (by decide)
    | cons r c =>
     have hr:=hcc r (by simp)
     have ch:=zdq g m r 3 4 hr.1 hr.2
     have hd:decide ((0:Int) < ((((r::c).map za5).length:Nat):Int))=true:=decide_eq_true (by simp)
     have he:((r::c).map za5)[(0:Int).toNat]?=some (za5 r):=rfl
     cases hh:QI m r 3 4
     ·rw [hh] at ch
      have hz:Zz m i=12:=by rw [hiv];show (if QI m r 3 4=true then 0 else 12)=(12:Int);rw [hh];rfl
      repeat' (first|refine yU 11 10 rfl (by kernel_rfl) (by kernel_rfl) (by kernel_rfl) (by kernel_rfl) (by kernel_rfl) ?_|refine zA ([]) zh rfl rfl rfl tH (yX rfl 12) ?_|(refine shC ?_;first|refine qC cc ?_|refine qC c0 ?_|refine qC ch ?_)|(refine shX ?_;first|refine qX he ?_)|refine sK ?_|refine sC (fun _=>?_) (fun _=>?_)|fail)
      exact qR hz (by decide)
     ·rw [hh] at ch
      have hz:Zz m i=0:=by rw [hiv];show (if QI m r 3 4=true then 0 else 12)=(0:Int);rw [hh];rfl
      repeat' (first|(refine shC ?_;first|refine qC cc ?_|refine qC c0 ?_|refine qC ch ?_|refine qC (yC rfl 12) ?_)|(refine shX ?_;first|refine qX he ?_)|refine sK ?_|refine sC (fun _=>?_) (fun _=>?_)|fail)
      exact Zy hz (.inl rfl)
   ·rw [k3,if_neg (by simp)] at hiv
    rcases Bool.eq_false_or_eq_true (opV m i==73) with k4|k4
    ·rw [k4,if_pos rfl] at hiv
     cases c with
     | nil =>
      repeat' (first|refine yU 26 25 rfl (by kernel_rfl) (by kernel_rfl) (by kernel_rfl) (by kernel_rfl) (by kernel_rfl) ?_|refine zA ([]) zh rfl rfl rfl tH (yX rfl 12) ?_|(refine shC ?_;first|refine qC cc ?_|refine qC c0 ?_)|refine sK ?_|refine sC (fun _=>?_) (fun _=>?_)|fail)
      exact qR hiv (by decide)
     | cons r c =>
      have hr:=hcc r (by simp)
      have hwr:IntKind.i64.wrap (i + 1)=i + 1:=wrap_in (by omega) (by omega)
      have hd:decide ((0:Int) < ((((r::c).map za5).length:Nat):Int))=true:=decide_eq_true (by simp)
      have he:((r::c).map za5)[(0:Int).toNat]?=some (za5 r):=rfl
      have hec:(m.clauses.map ZX)[r.c.toNat]?=some (ZX (clV m r)):=zcl hr.2
      have hiv2:Zz m i=if r.p==3&&(clV m r).hf==IntKind.i64.wrap (i + 1) then 0 else 12:=by rw [hiv,hwr]
      generalize clV m r=cl at *
      have hrc:=hr.1
      cases h3:(r.p==3)
      ·have hz:Zz m i=12:=by rw [hiv2,h3];rfl
       repeat' (first|refine yU 26 25 rfl (by kernel_rfl) (by kernel_rfl) (by kernel_rfl) (by kernel_rfl) (by kernel_rfl) ?_|refine zA ([]) zh rfl rfl rfl tH (yX rfl 12) ?_|(refine shC ?_;first|refine qC cc ?_|refine qC c0 ?_)|(refine shX ?_;first|refine qX he ?_)|refine sK ?_|refine sC (fun _=>?_) (fun _=>?_)|fail)
       exact qR hz (by decide)
      ·cases hh:(cl.hf==IntKind.i64.wrap (i + 1))
       ·have hz:Zz m i=12:=by rw [hiv2,h3,hh];rfl
        repeat' (first|refine yU 26 25 rfl (by kernel_rfl) (by kernel_rfl) (by kernel_rfl) (by kernel_rfl) (by kernel_rfl) ?_|refine zA ([]) zh rfl rfl rfl tH (yX hh 12) ?_|(refine shC ?_;first|refine qC cc ?_|refine qC c0 ?_)|(refine shX ?_;first|refine qX he ?_|refine zx rfl (zq zf rfl rfl rfl rfl rfl rfl hrc hec) rfl rfl ?_|refine AD.step _ _ _ _ _ rfl (zq zf rfl rfl rfl rfl rfl rfl hrc hec) rfl rfl ?_)|refine sK ?_|refine sC (fun _=>?_) (fun _=>?_)|fail)
        exact qR hz (by decide)
       ·have hz:Zz m i=0:=by rw [hiv2,h3,hh];rfl
        repeat' (first|(refine shC ?_;first|refine qC cc ?_|refine qC c0 ?_|refine qC (yC hh 12) ?_)|(refine shX ?_;first|refine qX he ?_|refine zx rfl (zq zf rfl rfl rfl rfl rfl rfl hrc hec) rfl rfl ?_|refine AD.step _ _ _ _ _ rfl (zq zf rfl rfl rfl rfl rfl rfl hrc hec) rfl rfl ?_)|refine sK ?_|refine sC (fun _=>?_) (fun _=>?_)|fail)
        exact Zy hz (.inl rfl)
    ·rw [k4,if_neg (by simp)] at hiv
     repeat' (first|(refine shC ?_;first|refine qC cc ?_|refine qC c0 ?_)|refine sK ?_|refine sC (fun _=>?_) (fun _=>?_)|fail)
     exact Zy hiv (.inl rfl)
set_option maxHeartbeats 1000000 in
theorem zkH (g:Img) (m:Me) (hm:ClOk m):ACall Tryz.prog 28 [Qr g m] (pb (zdD m)):=by
 have cc:ACall Tryz.prog 57 [cls m.clauses,pi 0] (rgs (qK m.clauses 0)):=zc1 m.clauses 0 hm.n (hm.s 0)
 have cf:=zdh (qK m.clauses 0) (fun r=>r.p != 1||(clV m r).tf != 0) 58 [] [.ptr (Qr g m) 0] (fun r hr=>zi2 g m r (ziU hr).1 (ziU hr).2)
 refine zi zf Tryz.func28 rfl (by kernel_rfl) Tryz.ntmps28 (by simp) _ rfl (fun hw gB hgB=>?_)
 rw [zdD]
 generalize (qK m.clauses 0).any (fun r=>r.p != 1||(clV m r).tf != 0)=b at cf ⊢
 repeat' (first|(refine shC ?_;first|refine qC cc ?_|refine qC cf ?_)|refine sK ?_|refine sC (fun _=>?_) (fun _=>?_)|fail)
 exact retq rfl rfl
set_option maxHeartbeats 20000000
abbrev lbH (e:PV) (p1:Value):HEnv:=[(1,.cell (.pv e)),(2001,.pin (.box 1 0) p1)]
theorem zeb (p1:Value) (e:Int):DCall Tryz.prog 50 (lbH (pi 0) p1) [.box 1 0] (.panicking [{ v:=zfY e,recovered:=false }]) (.panicking [{ v:=zfY e,recovered:=true }]) (lbH (pi e) p1):=by
 refine Xd Tryz.func50 rfl (by kernel_rfl) rfl (fun g K ρ w vs hds hf hv c₀ cs hu=>?_)
 obtain ⟨v1,rfl⟩:=List.length_eq_one_iff.1 hv.1
 have r1:=hv.2 0 _ v1 rfl rfl
 refine wpS_seq ?_
 refine wpS_region ?_
 have h1:=VG (P:=Tryz.prog) (xt:=20) (v:=.int .i64 e) (w:=w) Tryz.underlying93
 simp [wpOpsS,go_sem,recoverD,hu,Tryz.ntmps50,Exit.thenS,zfY,h1]
 refine zeu (n:=10) (g:=g) (env:=[(0,.box 1 0),(1,.pv (pi e)),(2,.pv (pb true))]) (H:=lbH (pi 0) p1) (QQ:=zpi (lbH (pi e) p1)) ?_
  ⟨by simp,by rw [hds],K,ρ,hf,ZR (v:=v1) (by simp) r1 (ZR (v:=.int .i64 e) (by simp) (.pv _ _ (.base _ rfl)) (ZR (v:=.bool true) (by simp) (.pv _ _ (.base _ rfl)) zaP))⟩
  (fun ex a' w' env' H' hi hq=>⟨hq.1,hi.defers.trans hds,rfl,zen hi hq.2⟩)
 repeat' (first|refine sK ?_|refine sC (fun _=>?_) (fun _=>?_)|fail)
 exact ⟨.inl rfl,tH⟩
theorem zim (e:PV) (p1:Value):DCall Tryz.prog 50 (lbH e p1) [.box 1 0] .returning .returning (lbH e p1):=by
 refine Xd Tryz.func50 rfl (by kernel_rfl) rfl (fun g K ρ w vs hds hf hv c₀ cs hu=>?_)
 obtain ⟨v1,rfl⟩:=List.length_eq_one_iff.1 hv.1
 refine wpS_seq ?_
 refine wpS_region ?_
 have hz:=zg8 (P:=Tryz.prog) (w:=w) (z:=.int .i64 0) zf (ty:=93) rfl
 have h1:=WG (P:=Tryz.prog) (xt:=20) (w:=w) Tryz.underlying93 hz
 simp [wpOpsS,go_sem,recoverD,hu,Tryz.ntmps50,Exit.thenS,h1]
 refine zeu (n:=10) (g:=g) (env:=[(2,.pv (pb false))]) (H:=lbH e p1) (QQ:=zpi (lbH e p1)) ?_
  ⟨by simp,by rw [hds],K,ρ,hf,ZR (v:=.bool false) (by simp) (.pv _ _ (.base _ rfl)) zaP⟩
  (fun ex a' w' env' H' hi hq=>⟨hq.1,hi.defers.trans hds,by cases c₀;simp_all,zen hi hq.2⟩)
 repeat' (first|refine sK ?_|refine sC (fun _=>?_) (fun _=>?_)|fail)
 exact ⟨.inl rfl,tH⟩
set_option maxHeartbeats 4000000 in
theorem zoJ (g:Img) (m:Me) (i:Int) (h0:0≤i) (h1:i≤1000) (co:YQ Tryz.prog 51 [.pv (Qr g m),.pv (pi i)] [] (zdV (onV m i)))
  (ci:YQ Tryz.prog 52 [.pv (Qr g m),.pv (pi i)] [] (zdV (Zz m i))) (ct:YQ Tryz.prog 53 [.pv (Qr g m),.pv (pi i)] [] (zdV (tailV g m i))) :
  ACall Tryz.prog 27 [Qr g m,pi i] (pi (Wy g m i)):=by
 have hwr:IntKind.i64.wrap (i - 1)=i - 1:=wrap_in (by omega) (by omega)
 have c0:=zcp g m i
 have c1:ACall Tryz.prog 55 [Qr g m,pi (IntKind.i64.wrap (i - 1))] (pi (opV m (i - 1))):=by rw [hwr];exact zcp g m (i - 1)
 refine zie zf Tryz.func27 rfl (by kernel_rfl) Tryz.ntmps27 (by simp) _ rfl (fun hw=>?_)
 refine VZ (zan fun gB=>?_)
 repeat' (first|refine Zo zf 1 rfl rfl rfl rfl rfl rfl rfl ?_|refine sK ?_|refine sC (fun _=>?_) (fun _=>?_)|fail)
 refine zf6 1 2001 rfl rfl fun p1=>?_
 refine VZ (zeQ (k:=1) rfl rfl rfl rfl rfl fun gB=>?_)
 repeat' (first|refine sK ?_|refine sC (fun _=>?_) (fun _=>?_)|fail)
 refine ⟨_,_,[p1],rfl,⟨⟨2001,rfl⟩,trivial⟩,?_⟩
 refine zan fun gB=>?_
 by_cases ho:onV m i=0
 ·by_cases hi:Zz m i=0
  ·by_cases ht:tailV g m i=0
   ·have hl:Wy g m i=zao m i:=by rw [Wy,if_neg (by simpa using ho),if_neg (by simpa using hi),if_neg (by simpa using ht)]
    cases h68:(opV m i != 68)
    ·cases h67:(opV m (i - 1)==67)
     ·have hn:zao m i=11:=by rw [zao];simp_all
      repeat' (first|refine zl 5 11 rfl rfl rfl ?_|refine zaH [] (lbH (pi 0) p1) zh rfl rfl rfl (by repeat (first|exact zG|refine zD rfl ?_)) rfl (yX h67 11) ?_|(refine shC ?_;first|refine qC c0 ?_|refine qC c1 ?_)|(refine zn ?_;first|(refine yD ([]) ([]) (lbH (pi 0) p1) [(1,.pv (pi i)),(2,.pv (.ptr (Qr g m) 0)),(4,.box 1 0)] [] zh rfl rfl rfl ?_ tS rfl rfl rfl (fun _=>QK co ho) ?_;· (repeat (first|exact zG|refine zD rfl ?_)))|(refine yD ([]) ([]) (lbH (pi 0) p1) [(1,.pv (pi i)),(2,.pv (.ptr (Qr g m) 0)),(4,.box 1 0)] [] zh rfl rfl rfl ?_ tS rfl rfl rfl (fun _=>QK ci hi) ?_;· (repeat (first|exact zG|refine zD rfl ?_)))|(refine yD ([]) ([]) (lbH (pi 0) p1) [(1,.pv (pi i)),(2,.pv (.ptr (Qr g m) 0)),(4,.box 1 0)] [] zh rfl rfl rfl ?_ tS rfl rfl rfl (fun _=>QK ct ht) ?_;· (repeat (first|exact zG|refine zD rfl ?_))))|refine sK ?_|refine sC (fun _=>?_) (fun _=>?_)|fail)
      exact ⟨_,_,_,[4],[.box 1 0],[p1],lbH (pi 0) p1,lbH (pi 11) p1,[pi 11],rfl,rfl,tH,⟨⟨2001,rfl⟩,trivial⟩,⟨⟨2001,rfl⟩,trivial⟩,zeb p1 _,rfl,rfl,by decide,tS,rfl,by rw [hl,hn];rfl⟩
     ·have hn:zao m i=0:=by rw [zao];simp_all
      repeat' (first|(refine shC ?_;first|refine qC c0 ?_|refine qC c1 ?_|refine qC (yC h67 11) ?_)|(refine zn ?_;first|(refine yD ([]) ([]) (lbH (pi 0) p1) [(1,.pv (pi i)),(2,.pv (.ptr (Qr g m) 0)),(4,.box 1 0)] [] zh rfl rfl rfl ?_ tS rfl rfl rfl (fun _=>QK co ho) ?_;· (repeat (first|exact zG|refine zD rfl ?_)))|(refine yD ([]) ([]) (lbH (pi 0) p1) [(1,.pv (pi i)),(2,.pv (.ptr (Qr g m) 0)),(4,.box 1 0)] [] zh rfl rfl rfl ?_ tS rfl rfl rfl (fun _=>QK ci hi) ?_;· (repeat (first|exact zG|refine zD rfl ?_)))|(refine yD ([]) ([]) (lbH (pi 0) p1) [(1,.pv (pi i)),(2,.pv (.ptr (Qr g m) 0)),(4,.box 1 0)] [] zh rfl rfl rfl ?_ tS rfl rfl rfl (fun _=>QK ct ht) ?_;· (repeat (first|exact zG|refine zD rfl ?_))))|refine sK ?_|refine sC (fun _=>?_) (fun _=>?_)|fail)
      exact ⟨_,_,_,[4],[.box 1 0],[p1],lbH (pi 0) p1,lbH (pi 0) p1,[pi 0],rfl,rfl,tH,⟨⟨2001,rfl⟩,trivial⟩,⟨⟨2001,rfl⟩,trivial⟩,zim _ p1,rfl,rfl,by decide,tS,rfl,by rw [hl,hn];rfl⟩
    ·have hn:zao m i=0:=by rw [zao];simp_all
     repeat' (first|(refine shC ?_;first|refine qC c0 ?_|refine qC c1 ?_|refine qC (yC rfl 11) ?_)|(refine zn ?_;first|(refine yD ([]) ([]) (lbH (pi 0) p1) [(1,.pv (pi i)),(2,.pv (.ptr (Qr g m) 0)),(4,.box 1 0)] [] zh rfl rfl rfl ?_ tS rfl rfl rfl (fun _=>QK co ho) ?_;· (repeat (first|exact zG|refine zD rfl ?_)))|(refine yD ([]) ([]) (lbH (pi 0) p1) [(1,.pv (pi i)),(2,.pv (.ptr (Qr g m) 0)),(4,.box 1 0)] [] zh rfl rfl rfl ?_ tS rfl rfl rfl (fun _=>QK ci hi) ?_;· (repeat (first|exact zG|refine zD rfl ?_)))|(refine yD ([]) ([]) (lbH (pi 0) p1) [(1,.pv (pi i)),(2,.pv (.ptr (Qr g m) 0)),(4,.box 1 0)] [] zh rfl rfl rfl ?_ tS rfl rfl rfl (fun _=>QK ct ht) ?_;· (repeat (first|exact zG|refine zD rfl ?_))))|refine sK ?_|refine sC (fun _=>?_) (fun _=>?_)|fail)
     exact ⟨_,_,_,[4],[.box 1 0],[p1],lbH (pi 0) p1,lbH (pi 0) p1,[pi 0],rfl,rfl,tH,⟨⟨2001,rfl⟩,trivial⟩,⟨⟨2001,rfl⟩,trivial⟩,zim _ p1,rfl,rfl,by decide,tS,rfl,by rw [hl,hn];rfl⟩
   ·have hl:Wy g m i=tailV g m i:=by rw [Wy,if_neg (by simpa using ho),if_neg (by simpa using hi),if_pos (by simpa using ht)]
    repeat' (first|refine zl 4 2 rfl rfl rfl ?_|refine zaH [] (lbH (pi 0) p1) zh rfl rfl rfl (by repeat (first|exact zG|refine zD rfl ?_)) rfl (zgc ct ht) ?_|(refine zn ?_;first|(refine yD ([]) ([]) (lbH (pi 0) p1) [(1,.pv (pi i)),(2,.pv (.ptr (Qr g m) 0)),(4,.box 1 0)] [] zh rfl rfl rfl ?_ tS rfl rfl rfl (fun _=>QK co ho) ?_;· (repeat (first|exact zG|refine zD rfl ?_)))|(refine yD ([]) ([]) (lbH (pi 0) p1) [(1,.pv (pi i)),(2,.pv (.ptr (Qr g m) 0)),(4,.box 1 0)] [] zh rfl rfl rfl ?_ tS rfl rfl rfl (fun _=>QK ci hi) ?_;· (repeat (first|exact zG|refine zD rfl ?_))))|refine sK ?_|refine sC (fun _=>?_) (fun _=>?_)|fail)
    exact ⟨_,_,_,[4],[.box 1 0],[p1],lbH (pi 0) p1,lbH (pi (tailV g m i)) p1,[pi (tailV g m i)],rfl,rfl,tH,⟨⟨2001,rfl⟩,trivial⟩,⟨⟨2001,rfl⟩,trivial⟩,zeb p1 _,rfl,rfl,by decide,tS,rfl,by rw [hl];rfl⟩
  ·have hl:Wy g m i=Zz m i:=by rw [Wy,if_neg (by simpa using ho),if_pos (by simpa using hi)]
   repeat' (first|refine zl 3 2 rfl rfl rfl ?_|refine zaH [] (lbH (pi 0) p1) zh rfl rfl rfl (by repeat (first|exact zG|refine zD rfl ?_)) rfl (zgc ci hi) ?_|(refine zn ?_;first|(refine yD ([]) ([]) (lbH (pi 0) p1) [(1,.pv (pi i)),(2,.pv (.ptr (Qr g m) 0)),(4,.box 1 0)] [] zh rfl rfl rfl ?_ tS rfl rfl rfl (fun _=>QK co ho) ?_;· (repeat (first|exact zG|refine zD rfl ?_))))|refine sK ?_|refine sC (fun _=>?_) (fun _=>?_)|fail)
   exact ⟨_,_,_,[4],[.box 1 0],[p1],lbH (pi 0) p1,lbH (pi (Zz m i)) p1,[pi (Zz m i)],rfl,rfl,tH,⟨⟨2001,rfl⟩,trivial⟩,⟨⟨2001,rfl⟩,trivial⟩,zeb p1 _,rfl,rfl,by decide,tS,rfl,by rw [hl];rfl⟩
 ·have hl:Wy g m i=onV m i:=by rw [Wy,if_pos (by simpa using ho)]
  repeat' (first|refine zl 2 2 rfl rfl rfl ?_|refine zaH [] (lbH (pi 0) p1) zh rfl rfl rfl (by repeat (first|exact zG|refine zD rfl ?_)) rfl (zgc co ho) ?_|refine sK ?_|refine sC (fun _=>?_) (fun _=>?_)|fail)
  exact ⟨_,_,_,[4],[.box 1 0],[p1],lbH (pi 0) p1,lbH (pi (onV m i)) p1,[pi (onV m i)],rfl,rfl,tH,⟨⟨2001,rfl⟩,trivial⟩,⟨⟨2001,rfl⟩,trivial⟩,zeb p1 _,rfl,rfl,by decide,tS,rfl,by rw [hl];rfl⟩
theorem zqx {p:Nat→Bool} {n k:Nat} (hk:k < n) (hp:p k=true) (hno:∀ j,j < k→p j=false):(List.range n).find? p=some k:=by
 rw [List.find?_range_eq_some]
 exact ⟨hp,by simpa using hk,fun j hj=>by simp [hno j hj]⟩
theorem zpR {p:Nat→Bool} {n:Nat} (hno:∀ j,j < n→p j=false):(List.range n).find? p=none:=by
 rw [List.find?_eq_none]
 intro j hj
 simp [hno j (List.mem_range.1 hj)]
set_option maxHeartbeats 4000000 in
theorem zqZ (g:Img) (m:Me) (hm:ClOk m) (hlk:∀ i:Nat,i < m.code.length→ACall Tryz.prog 27 [Qr g m,pi i] (pi (Wy g m i))):ACall Tryz.prog 20 [Qr g m] (.tup [pi (zcH g m).1,pi (zcH g m).2]):=by
 have cb:=zkH g m hm
 have hmc:=hm.code
 refine zi zf Tryz.func20 rfl (by kernel_rfl) Tryz.ntmps20 (by simp) _ rfl (fun hw gB hgB=>?_)
 repeat' (first|refine sA ?_|refine sC (fun _=>?_) (fun _=>?_)|fail)
 refine zW (fun k:Nat=>[(1,.pv (.ptr (Qr g m) 0)),(9,.pv (pi m.code.length)),(10,.pv (pi k))]) (fun _=>[]) (fun k=>k≤m.code.length∧∀ j,j < k→(Wy g m (j:Nat) != 0)=false) (fun k=>m.code.length - k) 0 ⟨by omega,fun j hj=>absurd hj (Nat.not_lt_zero j)⟩ (tS) tH ?_
 rintro k ⟨hk,hno⟩
 by_cases hlt:k < m.code.length
 ·have cl:=hlk k hlt
  cases he:(Wy g m (k:Nat) != 0)
  ·repeat' (first|(refine shC ?_;first|refine qC cl ?_)|refine sK ?_|refine sC (fun _=>?_) (fun _=>?_)|fail)
   exact ⟨k + 1,⟨hlt,fun j hj=>by
    by_cases e:j=k
    ·subst e;exact he
    ·exact hno j (by omega)⟩,tD,tS,tH⟩
  ·have ha:zcH g m=(((k:Nat):Int),Wy g m k):=by rw [zcH,zqx hlt he hno]
   repeat' (first|(refine shC ?_;first|refine qC cl ?_)|refine sK ?_|refine sC (fun _=>?_) (fun _=>?_)|fail)
   exact retq rfl (by rw [ha];rfl)
 ·have ha:zcH g m=if zdD m then (0,0) else (0,12):=by rw [zcH,zpR fun j hj=>hno j (by omega)]
  cases hb:zdD m
  ·rw [hb] at cb ha
   repeat' (first|(refine shC ?_;first|refine qC cb ?_)|refine sK ?_|refine sC (fun _=>?_) (fun _=>?_)|fail)
   exact retq rfl (by rw [ha];rfl)
  ·rw [hb] at cb ha
   repeat' (first|(refine shC ?_;first|refine qC cb ?_)|refine sK ?_|refine sC (fun _=>?_) (fun _=>?_)|fail)
   exact retq rfl (by rw [ha];rfl)
end Go.Cg
