/- A part of the walks by abstract values: no statement of its own. -/
import Derived.Test.YtemhfmmhkimhmaaGreatV29
import Derived.Test.YtemhfmmhkimhmaaGreatV28
import Derived.Test.YtemhfmmhkimhmaaGreatV27
import Derived.Test.YtemhfmmhkimhmaaGreatV19
import Derived.Test.YtemhfmmhkimhmaaGreatV20
import Derived.Test.YtemhfmmhkimhmaaGreatV21
import Derived.Test.YtemhfmmhkimhmaaGreatV23
import Derived.Test.YtemhfmmhkimhmaaGreatV10
set_option linter.unusedVariables false
set_option linter.unusedSimpArgs false
namespace Go.Cg
open Go.Proofs
set_option maxHeartbeats 20000000
theorem zgT (c:List Pt) (at_:Int):Zf c at_<=c.length:=by
 unfold Zf;induction c with
 | nil=>simp
 | cons x c ih=>rw [List.takeWhile_cons];split <;> simp;omega
theorem zjv (x:Pt) (c:List Pt) (at_:Int):Zf (x::c) at_=if x.p==1&&x.f==at_ then Zf c at_ + 1 else 0:=by
 unfold Zf;rw [List.takeWhile_cons];split <;> simp
theorem zfq (c:List Pt) (at_:Int) (hl:c.length<=1000):ACall Tryz.prog 159 [pts c,pi at_] (pi (Zf c at_)):=by
 refine zh zf Tryz.func159 rfl zws Tryz.ntmps159 zwy63 _ rfl (fun hw gB hgB=>?_)
 repeat' (first|refine sA ?_|refine sC (fun _=>?_) (fun _=>?_)|fail)
 refine zL (fun k:Nat=>[(0,.pv (pts c)),(1,.pv (pi at_)),(5,.pv (pi k))]) (fun _=>[]) (fun k=>k<=c.length/\Zf c at_=k + Zf (c.drop k) at_) (fun k=>c.length - k) 0 ⟨by omega,by simp⟩ (tS) tH ?_;rintro k ⟨hk,hr⟩;by_cases hlt:k < c.length
 ·have he:=zT (f:=yT) hlt;have hd:decide (((k:Nat):Int) < (((c.map yT).length:Nat):Int))=true:=decide_eq_true zwy64;rw [drop_cons hlt,zjv] at hr;generalize c[k]=x at he hr;cases h1:(x.p==1)
  ·rw [h1] at hr
   repeat' (first|(refine shX ?_;first|refine qX he ?_)|refine sK ?_|refine sC (fun _=>?_) (fun _=>?_)|fail)
   all_goals (refine ak ?_;simp [zn,hr])
  ·cases h2:(x.f==at_)
   ·rw [h1,h2] at hr
    repeat' (first|(refine shX ?_;first|refine qX he ?_)|refine sK ?_|refine sC (fun _=>?_) (fun _=>?_)|fail)
    all_goals (refine ak ?_;simp [zn,hr])
   ·rw [h1,h2] at hr
    repeat' (first|(refine shX ?_;first|refine qX he ?_)|refine sK ?_|refine sC (fun _=>?_) (fun _=>?_)|fail)
    all_goals exact ⟨k + 1,⟨hlt,by rw [hr];simp;omega⟩,tD,tS,tH⟩
 ·have hd:decide (((k:Nat):Int) < (((c.map yT).length:Nat):Int))=false:=decide_eq_false zwy64;rw [drop_end zwy62] at hr
  repeat' (first|refine sK ?_|refine sC (fun _=>?_) (fun _=>?_)|fail)
  have hz:Zf c at_=k:=hr;all_goals (refine ak ?_;rw [hz];rfl)
theorem zo6 (x y:Pt):ACall Tryz.prog 212 [yT x,yT y] (pb (zwt x y)):=by
 refine zh zf Tryz.func212 rfl zws Tryz.ntmps212 zwy63 _ rfl (fun hw gB hgB=>?_)
 repeat' (first|refine sA ?_|refine sC (fun _=>?_) (fun _=>?_)|fail)
 exact retq rfl rfl
theorem zjO:∀ {a b:List Pt},a.length≠b.length->zbj a b=false
 | [],[],h=>by simp at h
 | [],_::_,_=>rfl
 | _::_,[],_=>rfl
 | x::a,y::b,h=>by rw [zbj,zjO (a:=a) (b:=b) zwy103,Bool.and_false]
theorem zpq (a b:List Pt) (hl:a.length<=1000):ACall Tryz.prog 211 [pts a,pts b,.fn (.func 212) [] []] (pb (zbj a b)):=by
 refine zh zf Tryz.func211 rfl zws Tryz.ntmps211 zwy63 _ rfl (fun hw gB hgB=>?_);by_cases hlen:a.length=b.length
 ·have hc:((((a.map yT).length:Nat):Int) != (((b.map yT).length:Nat):Int))=false:=by simp [hlen]
  repeat' (first|refine sA ?_|refine sC (fun _=>?_) (fun _=>?_)|fail)
  refine zL (fun k:Nat=>[(1,.pv (pts b)),(2,.pv (.fn (.func 212) [] [])),(15,.pv (pts a)),(16,.pv (pi a.length)),(17,.pv (pi k))]) (fun _=>[]) (fun k=>k<=a.length/\zbj a b=zbj (a.drop k) (b.drop k)) (fun k=>a.length - k) 0 ⟨by omega,rfl⟩ (tS) tH ?_;rintro k ⟨hk,hr⟩;by_cases hlt:k < a.length
  ·have he:=zT (f:=yT) hlt;have he2:=zT (f:=yT) (show k < b.length by omega);rw [drop_cons hlt,drop_cons (show k < b.length by omega),zbj] at hr;generalize a[k]=x at he hr;generalize b[k]=y at he2 hr;have cs:=zo6 x y;cases hs:zwt x y
   ·rw [hs] at cs hr
    repeat' (first|(refine shC ?_;first|refine qV (cs) ?_)|(refine shX ?_;first|refine qX he ?_|refine qX he2 ?_)|refine sK ?_|refine sC (fun _=>?_) (fun _=>?_)|fail)
    all_goals (refine ak ?_;simp [zn,hr])
   ·rw [hs] at cs hr
    repeat' (first|(refine shC ?_;first|refine qV (cs) ?_)|(refine shX ?_;first|refine qX he ?_|refine qX he2 ?_)|refine sK ?_|refine sC (fun _=>?_) (fun _=>?_)|fail)
    exact ⟨k + 1,⟨hlt,hr⟩,tD,tS,tH⟩
  ·rw [drop_end zwy62,drop_end zwy62] at hr
   repeat' (first|refine sK ?_|refine sC (fun _=>?_) (fun _=>?_)|fail)
   all_goals (refine ak ?_;rw [hr];rfl)
 ·have hc:((((a.map yT).length:Nat):Int) != (((b.map yT).length:Nat):Int))=true:=by simp;omega
  have hr:=zjO hlen
  repeat' (first|refine sA ?_|refine sC (fun _=>?_) (fun _=>?_)|fail)
  all_goals (refine ak ?_;rw [hr];rfl)
theorem zkn (a b:List Pt) (hl:a.length<=1000):ACall Tryz.prog 160 [pts a,pts b] (pb (zbj a b)):=by
 have c:=zpq a b hl;refine zh zf Tryz.func160 rfl zws Tryz.ntmps160 zwy63 _ rfl (fun hw gB hgB=>?_)
 repeat' (first|(refine shC ?_;first|refine qC c ?_)|refine sA ?_|refine sC (fun _=>?_) (fun _=>?_)|fail)
 exact retq rfl rfl
theorem zmg {b a:List Pt} {to:Int} {k:Nat} (hk:k<=Zf b to) (h:zbj (b.drop k) a=true):zlo b to a=true:=by
 rw [zlo,List.any_eq_true];exact ⟨k,List.mem_range.2 zwy62,h⟩
theorem zpZ {b a:List Pt} {to:Int} (h:∀ j,j < Zf b to + 1->zbj (b.drop j) a=false):zlo b to a=false:=by
 rw [zlo,List.any_eq_false];intro k hk;rw [h k (List.mem_range.1 hk)];simp
set_option maxHeartbeats 20000000
theorem zb1 {l:List Cl} {at_:Int} (hl:l.length<=6):(qW l at_).length<=18:=by have:=zol l at_;omega
theorem zeG (l:List Cl) (at_:Int) (hl:l.length<=6) (hs:∀ x∈zd1 at_ l,SmP x):ACall Tryz.prog 84 [cls l,pi at_] (.slc 2 ((qW l at_).map fun x=>.agg [pi x.c,pi x.p]) false):=by
 have cc:=zbb l at_ hl hs;have hcl:=zb1 (at_:=at_) hl;obtain ⟨c,hc⟩:∃ c,c=qW l at_:=⟨_,rfl⟩
 rw [<-hc] at cc hcl ⊢;refine zh zf Tryz.func84 rfl zws Tryz.ntmps84 zwy63 _ rfl (fun hw gB hgB=>?_)
 repeat' (first|refine Za (t:=5) 20 122 2 zwy69 rfl rfl ?_|(refine shC ?_;first|refine qC cc ?_)|refine sA ?_|refine sC (fun _=>?_) (fun _=>?_)|fail)
 refine zL (fun k:Nat=>[(5,.own 20),(10,.pv (pts c)),(11,.pv (pi c.length)),(12,.pv (pi k))]) (fun k=>[(20,.row 122 2 ((c.take k).map fun x=>.agg [pi x.c,pi x.p]))]) (fun k=>k<=c.length) (fun k=>c.length - k) 0 zwy62 (tS) ⟨aB zB,rfl⟩ ?_;rintro k hk;by_cases hlt:k < c.length
 ·have he:=zT (f:=yT) hlt;have hst:(c.take (k + 1)).map (fun x=>PV.agg [pi x.c,pi x.p])=(c.take k).map (fun x=>PV.agg [pi x.c,pi x.p])++[.agg [pi c[k].c,pi c[k].p]]:=by rw [List.take_succ_eq_append_getElem hlt,List.map_append];rfl
  generalize c[k]=x at he hst;have htl:(c.take k).length<=18:=by simp;omega
  repeat' (first|(refine shX ?_;first|refine qX he ?_)|(refine yw ?_;first|refine yV zf rfl rfl rfl rfl rfl rfl rfl (by show _ * 16<=_;simp;omega) zwy64 rfl rfl ?_)|refine sK ?_|refine sC (fun _=>?_) (fun _=>?_)|fail)
  exact ⟨k + 1,hlt,tD,tS,⟨zC (by rw [hst];rfl) zB,rfl⟩⟩
 ·have hk2:k=c.length:=by omega
  subst hk2
  repeat' (first|refine sK ?_|refine sC (fun _=>?_) (fun _=>?_)|fail)
  exact retq rfl (by rw [List.take_length];rfl)
theorem zkg (l:List Cl) (i to:Int) (hl:l.length<=6) (hs:∀ x∈zd1 i l,SmP x) (hs2:∀ x∈zd1 to l,SmP x):ACall Tryz.prog 116 [cls l,pi i,pi to] (pb (zgJ l i to)):=by
 have c1:=zbb l i hl hs;have c2:=zbb l to hl hs2;have ha:=zb1 (at_:=i) hl;have hb:=zb1 (at_:=to) hl;rw [zgJ];obtain ⟨a,haa⟩:∃ a,a=qW l i:=⟨_,rfl⟩
 obtain ⟨b,hbb⟩:∃ b,b=qW l to:=⟨_,rfl⟩
 rw [<-haa] at c1 ha ⊢;rw [<-hbb] at c2 hb ⊢;have ce:=zfq b to zwy62;have hel:=zgT b to;refine zh zf Tryz.func116 rfl zws Tryz.ntmps116 zwy63 _ rfl (fun hw gB hgB=>?_)
 repeat' (first|(refine shC ?_;first|refine qC c1 ?_|refine qC c2 ?_)|refine sA ?_|refine sC (fun _=>?_) (fun _=>?_)|fail)
 refine zL (fun k:Nat=>[(2,.pv (pi to)),(7,.pv (pts a)),(8,.pv (pts b)),(9,.pv (pi k))]) (fun _=>[]) (fun k=>k<=Zf b to + 1/\∀ j,j < k->zbj (b.drop j) a=false) (fun k=>Zf b to + 1 - k) 0 ⟨by omega,fun j hj=>absurd hj (Nat.not_lt_zero j)⟩ (tS) tH ?_;rintro k ⟨hk,hno⟩;by_cases hlt:k < Zf b to + 1
 ·have hd:decide (((k:Nat):Int)<=((Zf b to:Nat):Int))=true:=decide_eq_true zwy62;have cs:=zkn ((b.take b.length).drop k) a zwy64;have ht:(b.take b.length).drop k=b.drop k:=by rw [List.take_length]
  cases hsm:zbj (b.drop k) a
  ·rw [ht,hsm,<-ht] at cs
   repeat' (first|refine zy rfl (ZM (xs:=b) (f:=yT) k b.length zf rfl rfl rfl rfl rfl rfl (by simp [QZ]) zwy62 zwy62) rfl rfl ?_|(refine shC ?_;first|refine qC ce ?_|refine qC cs ?_)|refine sK ?_|refine sC (fun _=>?_) (fun _=>?_)|fail)
   exact ⟨k + 1,⟨hlt,fun j hj=>by
    by_cases e:j=k
    ·subst e;exact hsm
    ·exact hno j zwy62⟩,tD,tS,tH⟩
  ·rw [ht,hsm,<-ht] at cs
   repeat' (first|refine zy rfl (ZM (xs:=b) (f:=yT) k b.length zf rfl rfl rfl rfl rfl rfl (by simp [QZ]) zwy62 zwy62) rfl rfl ?_|(refine shC ?_;first|refine qC ce ?_|refine qC cs ?_)|refine sK ?_|refine sC (fun _=>?_) (fun _=>?_)|fail)
   exact retq rfl (by rw [zmg (by omega) hsm];rfl)
 ·have hd:decide (((k:Nat):Int)<=((Zf b to:Nat):Int))=false:=decide_eq_false zwy62
  repeat' (first|(refine shC ?_;first|refine qC ce ?_)|refine sK ?_|refine sC (fun _=>?_) (fun _=>?_)|fail)
  exact retq rfl (by rw [zpZ fun j hj=>hno j (by omega)];rfl)
theorem zk3 {l:List Cl} {a b:List Pt} {to:Int} {k:Nat} (h:k < a.length) (hn:zlo b to (a.drop k)=false):VD l b to (a.drop k)=if zvV l a[k] then false else VD l b to (a.drop (k + 1)):=by
 rw [drop_cons h] at hn ⊢;rw [VD,hn];simp
theorem zoB (l:List Cl) (i to:Int) (hl:l.length<=6) (hs:∀ x∈zd1 i l,SmP x) (hs2:∀ x∈zd1 to l,SmP x):ACall Tryz.prog 117 [cls l,pi i,pi to] (pb (zin l i to)):=by
 have c1:=zbb l i hl hs;have c2:=zbb l to hl hs2;have ha:=zb1 (at_:=i) hl;have hb:=zb1 (at_:=to) hl;have hmem:∀ x∈qW l i,∃ j,j < l.length/\x.c=(j:Int):=by
  intro x hx;obtain ⟨j,h1,h2,_⟩:=zhX hx;refine ⟨j,h1,?_⟩;unfold yL at h2;split at h2 <;> simp at h2 <;> (rcases h2 with h|h|h <;> first|rfl|(rw [h])|skip) <;> simp_all
 rw [zin];obtain ⟨a,haa⟩:∃ a,a=qW l i:=⟨_,rfl⟩
 obtain ⟨b,hbb⟩:∃ b,b=qW l to:=⟨_,rfl⟩
 rw [<-haa] at c1 ha hmem ⊢;rw [<-hbb] at c2 hb ⊢;have ce:=zfq b to zwy62;have hel:=zgT b to;refine zh zf Tryz.func117 rfl zws Tryz.ntmps117 zwy63 _ rfl (fun hw gB hgB=>?_)
 repeat' (first|(refine shC ?_;first|refine qC c1 ?_|refine qC c2 ?_)|refine sA ?_|refine sC (fun _=>?_) (fun _=>?_)|fail)
 refine zL (fun o:Nat=>[(0,.pv (cls l)),(2,.pv (pi to)),(7,.pv (pts a)),(8,.pv (pts b)),(9,.pv (pi o))]) (fun _=>[]) (fun o=>o<=a.length/\VD l b to a=VD l b to (a.drop o)) (fun o=>a.length + 1 - o) 0 ⟨by omega,rfl⟩ (tS) tH ?_;rintro o ⟨ho,hr⟩;have hdo:decide (((o:Nat):Int)<=(((a.map yT).length:Nat):Int))=true:=decide_eq_true zwy64
 repeat' (first|refine sK ?_|refine sC (fun _=>?_) (fun _=>?_)|fail)
 refine zL (fun k:Nat=>[(0,.pv (cls l)),(2,.pv (pi to)),(7,.pv (pts a)),(8,.pv (pts b)),(9,.pv (pi o)),(10,.pv (pi k))]) (fun _=>[]) (fun k=>k<=Zf b to + 1/\∀ j,j < k->zbj (b.drop j) (a.drop o)=false) (fun k=>Zf b to + 1 - k) 0 ⟨by omega,fun j hj=>absurd hj (Nat.not_lt_zero j)⟩ (tS) tH ?_;rintro k ⟨hk,hno⟩;have hda:(a.take a.length).drop o=a.drop o:=by rw [List.take_length]
 by_cases hlt:k < Zf b to + 1
 ·have hd:decide (((k:Nat):Int)<=((Zf b to:Nat):Int))=true:=decide_eq_true zwy62;have cs:=zkn ((b.take b.length).drop k) ((a.take a.length).drop o) zwy64;have ht:(b.take b.length).drop k=b.drop k:=by rw [List.take_length]
  cases hsm:zbj (b.drop k) (a.drop o)
  ·rw [ht,hda,hsm,<-ht,<-hda] at cs
   repeat' (first|refine zq rfl (ZM (xs:=b) (f:=yT) k b.length zf rfl rfl rfl rfl rfl rfl (by simp [QZ]) zwy62 zwy62) rfl rfl ?_|refine zq rfl (ZM (xs:=a) (f:=yT) o a.length zf rfl rfl rfl rfl rfl rfl (by simp [QZ]) zwy62 zwy62) rfl rfl ?_|(refine shC ?_;first|refine qC ce ?_|refine qC cs ?_)|refine sK ?_|refine sC (fun _=>?_) (fun _=>?_)|fail)
   exact ⟨k + 1,⟨hlt,fun j hj=>by
    by_cases e:j=k
    ·subst e;exact hsm
    ·exact hno j zwy62⟩,tD,tS,tH⟩
  ·rw [ht,hda,hsm,<-ht,<-hda] at cs;have hy:VD l b to (a.drop o)=true:=by
    have:=zmg (show k<=Zf b to by omega) hsm;generalize a.drop o=A at this;cases A with
    | nil=>exact this
    | cons r A=>rw [VD,if_pos this]
   repeat' (first|refine zq rfl (ZM (xs:=b) (f:=yT) k b.length zf rfl rfl rfl rfl rfl rfl (by simp [QZ]) zwy62 zwy62) rfl rfl ?_|refine zq rfl (ZM (xs:=a) (f:=yT) o a.length zf rfl rfl rfl rfl rfl rfl (by simp [QZ]) zwy62 zwy62) rfl rfl ?_|(refine shC ?_;first|refine qC ce ?_|refine qC cs ?_)|refine sK ?_|refine sC (fun _=>?_) (fun _=>?_)|fail)
   exact retq rfl (by rw [hr,hy];rfl)
 ·have hd:decide (((k:Nat):Int)<=((Zf b to:Nat):Int))=false:=decide_eq_false zwy62;have hn:zlo b to (a.drop o)=false:=zpZ fun j hj=>hno j zwy62
  by_cases hoe:o < a.length
  ·have hoq:(((o:Nat):Int)==(((a.map yT).length:Nat):Int))=false:=by simp;omega
   have hst:=zk3 (l:=l) hoe hn;have he:=zT (f:=yT) hoe;obtain ⟨j,hj,hxc⟩:=hmem a[o] (List.getElem_mem hoe);generalize a[o]=x at he hst hxc;have hec:=zbI hj;have hec':(l.map qN)[x.c.toNat]?=some (qN (l.getD x.c.toNat default)):=by rw [hxc];exact hec
   have h0:0<=x.c:=by omega
   rw [hst] at hr;obtain ⟨cl,hcl⟩:∃ cl,cl=l.getD x.c.toNat default:=⟨_,rfl⟩
   rw [zvV] at hr;rw [<-hcl] at hec' hr;rcases Bool.eq_false_or_eq_true (x.p==3) with h3|h3 <;> rcases Bool.eq_false_or_eq_true (x.p==2) with h2|h2 <;> rcases Bool.eq_false_or_eq_true (cl.kind==1) with k1|k1 <;> rcases Bool.eq_false_or_eq_true (cl.kind==2) with k2|k2 <;> (
    have k1':(cl.kind != 1)=!(cl.kind==1):=rfl;have k2':(cl.kind != 2)=!(cl.kind==2):=rfl;rw [k1] at k1';rw [k2] at k2'
    repeat' (first|(refine shC ?_;first|refine qC ce ?_)|(refine shX ?_;first|refine qX he ?_|refine zy rfl (ah h0 hec') rfl rfl ?_|refine zq rfl (ah h0 hec') rfl rfl ?_)|refine sK ?_|refine sC (fun _=>?_) (fun _=>?_)|fail)
    all_goals first|exact retq rfl (by rw [hr];simp_all [zn];done)|exact ⟨o + 1,⟨hoe,by rw [hr];simp_all⟩,tD,tS,tH⟩)
  ·have hoq:(((o:Nat):Int)==(((a.map yT).length:Nat):Int))=true:=by simp;omega
   rw [drop_end zwy62] at hr hn;have hf:VD l b to []=false:=hn
   repeat' (first|(refine shC ?_;first|refine qC ce ?_)|refine sK ?_|refine sC (fun _=>?_) (fun _=>?_)|fail)
   exact retq rfl (by rw [hr,hf];rfl)
set_option maxHeartbeats 20000000
def zcI (x:Pt):PV:=.agg [pi x.c,pi x.p]
def rgs (l:List Pt):PV:=.slc 2 (l.map zcI) false
def Xw (g:Img) (m:Me):PV:=.agg [.slc 4 (g.types.map Zx) false,.slc 7 (g.fields.map ZI) false,.slc 12 (g.methods.map zY) false,pi g.entry,ps m.name,pi m.owner,pi m.flags,tys m.params,pi m.ret.kind,pi m.ret.index,pi m.ret.dims,pb m.ret.ref,tys m.locals,pi m.max,.slc 6 (m.code.map ql) false,.slc 10 (m.clauses.map qN) false]
def zlj (l:List Pt) (p:Pt->Bool):Int:=if l.any p then ((l.findIdx p:Nat):Int) else -1
theorem zcY (l:List Pt) (p:Pt->Bool) (f:FuncId) (first cap:List PV) (hp:∀ x∈l,ACall Tryz.prog f (first++[zcI x]++cap) (pb (p x))):ACall Tryz.prog 118 [rgs l,.fn (.func f) first cap] (pi (zlj l p)):=by
 refine zh zf Tryz.func118 rfl zws Tryz.ntmps118 zwy63 _ rfl (fun hw gB hgB=>?_);have hl:l.length<=9223372036854775807:=by have:=hw.1;simp [rgs,PV.lenOk,maxLen] at this;exact this.1
 repeat' (first|refine sA ?_|refine sC (fun _=>?_) (fun _=>?_)|fail)
 refine zL (fun k:Nat=>[(0,.pv (rgs l)),(1,.pv (.fn (.func f) first cap)),(7,.pv (pi l.length)),(8,.pv (pi k))]) (fun _=>[]) (fun k=>k<=l.length/\∀ j (h:j < k) (h2:j < l.length),p l[j]=false) (fun k=>l.length - k) 0 ⟨by omega,fun j h=>by omega⟩ (tS) tH ?_;rintro k ⟨hk,hno⟩;by_cases hlt:k < l.length
 ·have he:=zT (f:=zcI) hlt;have c1:=hp _ (List.getElem_mem hlt);cases hpx:p l[k]
  ·rw [hpx] at c1
   repeat' (first|(refine shC ?_;first|refine qV (c1) ?_)|(refine shX ?_;first|refine qX he ?_)|refine sK ?_|refine sC (fun _=>?_) (fun _=>?_)|fail)
   exact ⟨k + 1,⟨hlt,fun j hj h2=>by
    by_cases e:j=k
    ·subst e;exact hpx
    ·exact hno j zwy62 h2⟩,tD,tS,tH⟩
  ·rw [hpx] at c1;have hi:l.findIdx p=k:=by
    rw [List.findIdx_eq hlt];exact ⟨hpx,fun j hj=>hno j hj zwy62⟩
   have ha:l.any p=true:=List.any_eq_true.2 ⟨_,List.getElem_mem hlt,hpx⟩
   repeat' (first|(refine shC ?_;first|refine qV (c1) ?_)|(refine shX ?_;first|refine qX he ?_)|refine sK ?_|refine sC (fun _=>?_) (fun _=>?_)|fail)
   exact retq rfl (by simp [zn,zlj,ha,hi])
 ·have ha:l.any p=false:=by
   rw [List.any_eq_false];intro x hx;obtain ⟨j,hj,rfl⟩:=List.getElem_of_mem hx;simp [hno j zwy62 hj]
  repeat' (first|refine sK ?_|refine sC (fun _=>?_) (fun _=>?_)|fail)
  exact retq rfl (by simp [zn,zlj,ha])
theorem zeA (l:List Pt) (p:Pt->Bool) (f:FuncId) (first cap:List PV) (hp:∀ x∈l,ACall Tryz.prog f (first++[zcI x]++cap) (pb (p x))):ACall Tryz.prog 83 [rgs l,.fn (.func f) first cap] (pb (l.any p)):=by
 refine zh zf Tryz.func83 rfl zws Tryz.ntmps83 zwy63 _ rfl (fun hw gB hgB=>?_);have c1:=zcY l p f first cap hp
 repeat' (first|(refine shC ?_;first|refine qC c1 ?_)|refine sA ?_|refine sC (fun _=>?_) (fun _=>?_)|fail)
 refine ak ?_;have:decide (0<=zlj l p)=l.any p:=by
  unfold zlj;cases h:l.any p <;> simp
 simp [zn,this]
abbrev zhy (e:Int):Value:=.iface 91 (.int .i64 e)
theorem yF {b:Bool} (h:b=true) (e:Int):ACall Tryz.prog 51 [pb b,pi e] (.tup []):=by
 subst h;refine zh zf Tryz.func51 rfl zws Tryz.ntmps51 zwy63 _ rfl (fun hw gB hgB=>?_)
 repeat' (first|refine sK ?_|refine sC (fun _=>?_) (fun _=>?_)|fail)
 exact Yf rfl rfl
theorem qh {b:Bool} (h:b=false) (e:Int):ACallPan Tryz.prog 51 [.pv (pb b),.pv (pi e)] [] (zhy e):=by
 subst h;refine zaU Tryz.func51 rfl zws Tryz.ntmps51 zwy63 (fun gB hw1=>?_)
 repeat' (first|refine zo 1 2 rfl rfl rfl ?_|refine zy rfl (zka rfl Tryz.underlying91 rfl) rfl rfl ?_|refine zkd rfl rfl rfl ?_|refine sK ?_|refine sC (fun _=>?_) (fun _=>?_)|fail)
 exact rfl
theorem goes_call (w:Int):ACall Tryz.prog 53 [pi w] (.tup [pb (zea w),pb (zao w)]):=by
 refine zh zf Tryz.func53 rfl zws Tryz.ntmps53 zwy63 _ rfl (fun hw gB hgB=>?_);rcases Bool.eq_false_or_eq_true (w==0) with h0|h0 <;> rcases Bool.eq_false_or_eq_true (w==1) with h1|h1 <;> rcases Bool.eq_false_or_eq_true (w==2) with h2|h2 <;> rcases Bool.eq_false_or_eq_true (w==4) with h4|h4 <;> (
  repeat' (first|refine sK ?_|refine sC (fun _=>?_) (fun _=>?_)|fail)
  all_goals (refine ak ?_;simp [zn,zea,zao,h0,h1,h2,h4]))
theorem zwk12 {G:Prop} (h:G:=by repeat' (first|(refine shC ?_;first|refine qC co ?_)|(refine shX ?_;first|refine zy rfl (ah h0 hei) rfl rfl ?_|refine zq rfl (ah h0 hei) rfl rfl ?_)|refine sK ?_|refine sC (fun _=>?_) (fun _=>?_)|exact retq rfl (by rw [hw];rfl)|fail)):G:=h
theorem zlS (g:Img) (m:Me) (i:Int) (h0:0<=i) (h1:i.toNat < m.code.length):ACall Tryz.prog 54 [Xw g m,pi i] (pi (zal m i)):=by
 have hei:(m.code.map ql)[i.toNat]?=some (ql (qy m i)):=by rw [qy,zQ h1];exact zT h1
 refine zh zf Tryz.func54 rfl zws Tryz.ntmps54 zwy63 _ rfl (fun hw gB hgB=>?_);by_cases hop:1<=(qy m i).op/\(qy m i).op<=75
 ·have co:=ze1 (qy m i).op hop.1 hop.2;have hw:zal m i=(ofI (qy m i).op).2.2:=by rw [zal,decide_eq_true hop.1,decide_eq_true hop.2];rfl
  exact zwk12
 ·have co:=zgO (qy m i).op zwy62;have hw:zal m i=0:=by
   rw [zal];split
   ·rename_i h;simp at h;omega
   ·rfl
  exact zwk12
theorem zdS (g:Img) (m:Me) (i:Int):ACall Tryz.prog 82 [Xw g m,pi i] (pi (opV m i)):=by
 refine zh zf Tryz.func82 rfl zws Tryz.ntmps82 zwy63 _ rfl (fun hw gB hgB=>?_);by_cases h0:i < 0
 ·have hd:=decide_eq_true h0
  repeat' (first|refine sK ?_|refine sC (fun _=>?_) (fun _=>?_)|fail)
  all_goals (refine ak ?_;simp [zn,opV,h0])
 ·have hd:=decide_eq_false h0;by_cases h1:(((m.code.map ql).length:Nat):Int)<=i
  ·have hd1:=decide_eq_true h1;have hl:(m.code.length:Int)<=i:=by simpa using h1
   repeat' (first|refine sK ?_|refine sC (fun _=>?_) (fun _=>?_)|fail)
   all_goals (refine ak ?_;simp [zn,opV,hl])
  ·have hd1:=decide_eq_false h1;have hl:¬ (m.code.length:Int)<=i:=by simpa using h1
   have h2:i.toNat < m.code.length:=by omega
   have hei:(m.code.map ql)[i.toNat]?=some (ql (qy m i)):=by rw [qy,zQ h2];exact zT h2
   repeat' (first|(refine shX ?_;first|refine qX hei ?_)|refine sK ?_|refine sC (fun _=>?_) (fun _=>?_)|fail)
   all_goals (refine ak ?_;simp [zn,opV,h0,hl])
theorem zeS (g:Img) (m:Me) (r:Pt) (a b:Int) (h0:0<=r.c) (h1:r.c.toNat < m.clauses.length):ACall Tryz.prog 120 [Xw g m,zcI r,pi a,pi b] (pb (XR m r a b)):=by
 have hec:(m.clauses.map qN)[r.c.toNat]?=some (qN (clV m r)):=zbI h1;rw [XR];generalize clV m r=c at hec ⊢;refine zh zf Tryz.func120 rfl zws Tryz.ntmps120 zwy63 _ rfl (fun hw gB hgB=>?_);rcases Bool.eq_false_or_eq_true (r.p==2) with hp|hp <;> rcases Bool.eq_false_or_eq_true (c.kind==a) with ka|ka <;> rcases Bool.eq_false_or_eq_true (c.kind==b) with kb|kb <;> (
  repeat' (first|(refine shX ?_;first|refine zy rfl (ah h0 hec) rfl rfl ?_|refine zq rfl (ah h0 hec) rfl rfl ?_)|refine sK ?_|refine sC (fun _=>?_) (fun _=>?_)|fail)
  all_goals (refine ak ?_;simp [zn,hp,ka,kb]))
theorem zkQ (r:Pt):ACall Tryz.prog 119 [zcI r] (pb (r.p != 1)):=by
 refine zh zf Tryz.func119 rfl zws Tryz.ntmps119 zwy63 _ rfl (fun hw gB hgB=>?_)
 repeat' (first|refine sA ?_|refine sC (fun _=>?_) (fun _=>?_)|fail)
 exact retq rfl rfl
theorem zo1 (t:Ty):ACall Tryz.prog 121 [yJ t] (pb t.ref):=by
 refine zh zf Tryz.func121 rfl zws Tryz.ntmps121 zwy63 _ rfl (fun hw gB hgB=>?_)
 repeat' (first|refine sA ?_|refine sC (fun _=>?_) (fun _=>?_)|fail)
 exact retq rfl rfl
theorem zlD (g:Img) (m:Me) (r:Pt) (h0:0<=r.c) (h1:r.c.toNat < m.clauses.length):ACall Tryz.prog 85 [zcI r,.ptr (Xw g m) 0] (pb (r.p != 1||(clV m r).tf != 0)):=by
 have hec:(m.clauses.map qN)[r.c.toNat]?=some (qN (clV m r)):=zbI h1;generalize clV m r=c at hec ⊢;refine zh zf Tryz.func85 rfl zws Tryz.ntmps85 zwy63 _ rfl (fun hw gB hgB=>?_);rcases Bool.eq_false_or_eq_true (r.p != 1) with hp|hp <;> (
  repeat' (first|(refine shX ?_;first|refine zy rfl (ah h0 hec) rfl rfl ?_|refine zq rfl (ah h0 hec) rfl rfl ?_)|refine sK ?_|refine sC (fun _=>?_) (fun _=>?_)|fail)
  all_goals (refine ak ?_;simp [zn,hp]))
theorem zo8 (g:Img) (k:Int):ACall Tryz.prog 16 [zK g,pi k] (pb (decide (0<=k)&&decide (k < g.methods.length)&&decide (0 < (mAt g k).code.length))):=by
 refine zh zf Tryz.func16 rfl zws Tryz.ntmps16 zwy63 _ rfl (fun hw gB hgB=>?_);by_cases h0:0<=k
 ·have hd:=decide_eq_true h0;by_cases h1:k < (((g.methods.map zY).length:Nat):Int)
  ·have hd1:=decide_eq_true h1;have hl:k < g.methods.length:=by simpa using h1
   have h2:k.toNat < g.methods.length:=by omega
   have hem:(g.methods.map zY)[k.toNat]?=some (zY (mAt g k)):=by rw [mAt,zQ h2];exact zT h2
   repeat' (first|(refine shX ?_;first|refine zy rfl (ah h0 hem) rfl rfl ?_|refine zq rfl (ah h0 hem) rfl rfl ?_)|refine sK ?_|refine sC (fun _=>?_) (fun _=>?_)|fail)
   all_goals (refine ak ?_;simp [zn,h0,hl])
  ·have hd1:=decide_eq_false h1;have hl:¬ k < g.methods.length:=by simpa using h1
   repeat' (first|refine sK ?_|refine sC (fun _=>?_) (fun _=>?_)|fail)
   all_goals (refine ak ?_;simp [zn,hl])
 ·have hd:=decide_eq_false h0
  repeat' (first|refine sK ?_|refine sC (fun _=>?_) (fun _=>?_)|fail)
  all_goals (refine ak ?_;simp [zn,h0])
def zfC (e:Int):Out:=if e=0 then .ret (.pv (.tup [])) [] else .pan (zhy e)
theorem Yd {tb:Tab} {e:Int} {ex:Exit} {env:Env} {H:HEnv} (h:e=0) (he:ex=.normal\/ex=.ret):zkS tb [] (zfC e) ex env H:=by
 rw [zfC,if_pos h];exact ⟨he,.inl ⟨[],rfl,rfl,zB,rfl⟩⟩
theorem Ze {tb:Tab} {rs:List ResultVar} {e k:Int} {env:Env} {H:HEnv} (h:e=k) (hk:k≠0):zkS tb rs (zfC e) (.panic [{ v:=zhy k,recovered:=false }]) env H:=by
 rw [zfC,if_neg (by rw [h];exact hk),h];rfl
structure ClOk (m:Me):Prop where
 n:m.clauses.length<=6
 s:∀ (at_:Int),∀ x∈zd1 at_ m.clauses,SmP x
 code:m.code.length<=1000
theorem zlg {l:List Cl} {at_:Int} {x:Pt} (h:x∈qW l at_):0<=x.c/\x.c.toNat < l.length:=by
 obtain ⟨j,h1,h2,_⟩:=zhX h;have:x.c=(j:Int):=by
  unfold yL at h2;split at h2 <;> simp at h2 <;> (rcases h2 with h|h|h <;> first|rfl|(rw [h])|skip) <;> simp_all
 omega
set_option maxHeartbeats 8000000 in
theorem zvb (g:Img) (m:Me) (hm:ClOk m) (i:Int) (h0:0<=i) (h1:i.toNat < m.code.length):QF Tryz.prog 79 [.pv (Xw g m),.pv (pi i)] [] (zfC (onV m i)):=by
 have hei:(m.code.map ql)[i.toNat]?=some (ql (qy m i)):=by rw [qy,zQ h1];exact zT h1
 have cw:=zlS g m i h0 h1;have cg:=goes_call (zal m i);have hmc:=hm.code;have hw1:IntKind.i64.wrap (i + 1)=i + 1:=wrap_in zwy62 zwy62;have c1:=zkg m.clauses i (i + 1) hm.n (hm.s i) (hm.s (i + 1));have c2:=zkg m.clauses i (qy m i).arg hm.n (hm.s i) (hm.s _);have c3:=zoB m.clauses i (qy m i).arg hm.n (hm.s i) (hm.s _);rw [<-hw1] at c1;have hon:onV m i=if zea (zal m i)&&!decide (IntKind.i64.wrap (i + 1) < (((m.code.map ql).length:Nat):Int)) then 11
   else if zea (zal m i)&&!zgJ m.clauses i (IntKind.i64.wrap (i + 1)) then 12
   else if !zao (zal m i) then 0
   else if zal m i==4 then (if zin m.clauses i (qy m i).arg then 0 else 12)
   else if zgJ m.clauses i (qy m i).arg then 0 else 12:=by rw [hw1,List.length_map];rfl
 rw [hon];generalize qy m i=x at *;generalize zal m i=w at *;generalize zgJ m.clauses i (IntKind.i64.wrap (i + 1))=p1 at *;generalize zgJ m.clauses i x.arg=p2 at *;generalize zin m.clauses i x.arg=p3 at *;generalize zea w=nx at *;generalize zao w=pl at *;refine zI zf Tryz.func79 rfl zws Tryz.ntmps79 zwy63 _ rfl (fun gB hw1=>?_);cases nx
 ·cases pl
  ·repeat' (first|(refine shC ?_;first|refine qC cw ?_|refine qC cg ?_)|refine sK ?_|refine sC (fun _=>?_) (fun _=>?_)|fail)
   all_goals first|exact Yd zwy65 (.inr rfl)|exact Yd zwy65 (.inl rfl)
  ·rcases Bool.eq_false_or_eq_true (w==4) with h4|h4
   ·cases p3
    ·repeat' (first|refine zo 9 4 rfl rfl rfl ?_|refine zD ([]) zi rfl rfl rfl tH (qh rfl 12) ?_|(refine shC ?_;first|refine qC cw ?_|refine qC cg ?_|refine qC c3 ?_)|(refine shX ?_;first|refine zy rfl (ah h0 hei) rfl rfl ?_|refine zq rfl (ah h0 hei) rfl rfl ?_)|refine sK ?_|refine sC (fun _=>?_) (fun _=>?_)|fail)
     all_goals exact Ze (k:=12) zwy65 zwy69
    ·repeat' (first|(refine shC ?_;first|refine qC cw ?_|refine qC cg ?_|refine qC c3 ?_|refine qC (yF rfl 12) ?_)|(refine shX ?_;first|refine zy rfl (ah h0 hei) rfl rfl ?_|refine zq rfl (ah h0 hei) rfl rfl ?_)|refine sK ?_|refine sC (fun _=>?_) (fun _=>?_)|fail)
     all_goals first|exact Yd zwy65 (.inr rfl)|exact Yd zwy65 (.inl rfl)
   ·cases p2
    ·repeat' (first|refine zo 10 4 rfl rfl rfl ?_|refine zD ([]) zi rfl rfl rfl tH (qh rfl 12) ?_|(refine shC ?_;first|refine qC cw ?_|refine qC cg ?_|refine qC c2 ?_)|(refine shX ?_;first|refine zy rfl (ah h0 hei) rfl rfl ?_|refine zq rfl (ah h0 hei) rfl rfl ?_)|refine sK ?_|refine sC (fun _=>?_) (fun _=>?_)|fail)
     all_goals exact Ze (k:=12) zwy65 zwy69
    ·repeat' (first|(refine shC ?_;first|refine qC cw ?_|refine qC cg ?_|refine qC c2 ?_|refine qC (yF rfl 12) ?_)|(refine shX ?_;first|refine zy rfl (ah h0 hei) rfl rfl ?_|refine zq rfl (ah h0 hei) rfl rfl ?_)|refine sK ?_|refine sC (fun _=>?_) (fun _=>?_)|fail)
     all_goals first|exact Yd zwy65 (.inr rfl)|exact Yd zwy65 (.inl rfl)
 ·rcases Bool.eq_false_or_eq_true (decide (IntKind.i64.wrap (i + 1) < (((m.code.map ql).length:Nat):Int))) with hd|hd
  ·cases p1
   ·repeat' (first|refine zo 5 5 rfl rfl rfl ?_|refine zD ([]) zi rfl rfl rfl tH (qh rfl 12) ?_|(refine shC ?_;first|refine qC cw ?_|refine qC cg ?_|refine qC (yF hd 11) ?_|refine qC c1 ?_)|refine sK ?_|refine sC (fun _=>?_) (fun _=>?_)|fail)
    all_goals exact Ze (k:=12) zwy65 zwy69
   ·cases pl
    ·repeat' (first|(refine shC ?_;first|refine qC cw ?_|refine qC cg ?_|refine qC (yF hd 11) ?_|refine qC c1 ?_|refine qC (yF rfl 12) ?_)|refine sK ?_|refine sC (fun _=>?_) (fun _=>?_)|fail)
     all_goals first|exact Yd zwy65 (.inr rfl)|exact Yd zwy65 (.inl rfl)
    ·rcases Bool.eq_false_or_eq_true (w==4) with h4|h4
     ·cases p3
      ·repeat' (first|refine zo 9 4 rfl rfl rfl ?_|refine zD ([]) zi rfl rfl rfl tH (qh rfl 12) ?_|(refine shC ?_;first|refine qC cw ?_|refine qC cg ?_|refine qC (yF hd 11) ?_|refine qC c1 ?_|refine qC (yF rfl 12) ?_|refine qC c3 ?_)|(refine shX ?_;first|refine zy rfl (ah h0 hei) rfl rfl ?_|refine zq rfl (ah h0 hei) rfl rfl ?_)|refine sK ?_|refine sC (fun _=>?_) (fun _=>?_)|fail)
       all_goals exact Ze (k:=12) zwy65 zwy69
      ·repeat' (first|(refine shC ?_;first|refine qC cw ?_|refine qC cg ?_|refine qC (yF hd 11) ?_|refine qC c1 ?_|refine qC (yF rfl 12) ?_|refine qC c3 ?_|refine qC (yF rfl 12) ?_)|(refine shX ?_;first|refine zy rfl (ah h0 hei) rfl rfl ?_|refine zq rfl (ah h0 hei) rfl rfl ?_)|refine sK ?_|refine sC (fun _=>?_) (fun _=>?_)|fail)
       all_goals first|exact Yd zwy65 (.inr rfl)|exact Yd zwy65 (.inl rfl)
     ·cases p2
      ·repeat' (first|refine zo 10 4 rfl rfl rfl ?_|refine zD ([]) zi rfl rfl rfl tH (qh rfl 12) ?_|(refine shC ?_;first|refine qC cw ?_|refine qC cg ?_|refine qC (yF hd 11) ?_|refine qC c1 ?_|refine qC (yF rfl 12) ?_|refine qC c2 ?_)|(refine shX ?_;first|refine zy rfl (ah h0 hei) rfl rfl ?_|refine zq rfl (ah h0 hei) rfl rfl ?_)|refine sK ?_|refine sC (fun _=>?_) (fun _=>?_)|fail)
       all_goals exact Ze (k:=12) zwy65 zwy69
      ·repeat' (first|(refine shC ?_;first|refine qC cw ?_|refine qC cg ?_|refine qC (yF hd 11) ?_|refine qC c1 ?_|refine qC (yF rfl 12) ?_|refine qC c2 ?_|refine qC (yF rfl 12) ?_)|(refine shX ?_;first|refine zy rfl (ah h0 hei) rfl rfl ?_|refine zq rfl (ah h0 hei) rfl rfl ?_)|refine sK ?_|refine sC (fun _=>?_) (fun _=>?_)|fail)
       all_goals first|exact Yd zwy65 (.inr rfl)|exact Yd zwy65 (.inl rfl)
  ·repeat' (first|refine zo 4 7 rfl rfl rfl ?_|refine zD ([]) zi rfl rfl rfl tH (qh hd 11) ?_|(refine shC ?_;first|refine qC cw ?_|refine qC cg ?_)|refine sK ?_|refine sC (fun _=>?_) (fun _=>?_)|fail)
   all_goals exact Ze (k:=11) zwy65 zwy69
theorem XT {f:FuncId} {args:List AV} {P:Program} {e:Int} (h:QF P f args [] (zfC e)) (he:e=0):ACallM P f args [] (.pv (.tup [])) []:=by
 rw [zfC,if_pos he] at h;exact h
theorem zio {f:FuncId} {args:List AV} {P:Program} {e:Int} (h:QF P f args [] (zfC e)) (he:e≠0):ACallPan P f args [] (zhy e):=by
 rw [zfC,if_neg he] at h;exact h
theorem zwk13 {G:Prop} (h:G:=by repeat' (first|(have:=b0;refine zo 3 22 rfl rfl rfl ?_)|(have:=b1;refine zD ([]) zi rfl rfl rfl tH (qh hle2 11) ?_)|(have:=b2;refine zD ([]) zi rfl rfl rfl tH (qh rfl 11) ?_)|(have:=b3;refine zN 1 13 0 zf rfl zws zws zws rfl rfl rfl rfl rfl rfl rfl rfl rfl rfl rfl rfl rfl rfl (fun _=>rfl) rfl rfl rfl ?_)|(have:=b3;refine ⟨_,_,rfl,rfl,rfl,?_⟩)|(have:=b4;refine zo 5 6 rfl rfl rfl ?_)|(have:=b4;refine zD ([]) zi rfl rfl rfl tH (qh ht 10) ?_)|(have:=b5;refine zo 6 6 rfl rfl rfl ?_)|(have:=b5;refine zD ([]) zi rfl rfl rfl tH (qh rfl 13) ?_)|(refine shC ?_;first|refine qC c0 ?_|(have:=b6;refine qC c1 ?_)|(have:=b6;refine qC c2 ?_)|(have:=b6;refine qC cc ?_)|(have:=b3;refine qC (yF hle 11) ?_)|(have:=b7;refine qC (yF ht 10) ?_)|(have:=b7;refine qC cA ?_)|(have:=b7;refine qC cF ?_)|(have:=b8;refine qC (yF rfl 13) ?_))|(refine shX ?_;first|(have:=b3;refine zy rfl (ah hix hei) rfl rfl ?_)|(have:=b3;refine zq rfl (ah hix hei) rfl rfl ?_)|(have:=b3;refine zy rfl (ah ha0 hem) rfl rfl ?_)|(have:=b3;refine zq rfl (ah ha0 hem) rfl rfl ?_))|refine sK ?_|refine sC (fun _=>?_) (fun _=>?_)|(have:=b0;exact Ze hz zwy69)|(have:=b9;exact Ze hz2 zwy69)|exact Yd hz2 (.inl rfl)|exact Yd hz (.inr rfl)|fail)):G:=h
set_option maxHeartbeats 8000000 in
theorem zrb (g:Img) (m:Me) (hm:ClOk m) (i:Int) (h0:0<=i) (h1:i.toNat < m.code.length)
  (hc:opV m i=47->opV m (i + 1)=43\/opV m (i + 1)=44->(0<=(qy m (i + 1)).arg/\(qy m (i + 1)).arg.toNat < g.methods.length)/\(WC g m i).params.length<=100):QF Tryz.prog 81 [.pv (Xw g m),.pv (pi i)] [] (zfC (tailV g m i)):=by
 have hmc:=hm.code;have hwr:IntKind.i64.wrap (i + 1)=i + 1:=wrap_in zwy62 zwy62;have hw2:IntKind.i64.wrap (i + 2)=i + 2:=wrap_in zwy62 zwy62;have c0:=zdS g m i;have c1:ACall Tryz.prog 82 [Xw g m,pi (IntKind.i64.wrap (i + 1))] (pi (opV m (i + 1))):=by rw [hwr];exact zdS g m (i + 1)
 have c2:ACall Tryz.prog 82 [Xw g m,pi (IntKind.i64.wrap (i + 2))] (pi (opV m (i + 2))):=by rw [hw2];exact zdS g m (i + 2)
 have cc:=zeG m.clauses i hm.n (hm.s i);refine zI zf Tryz.func81 rfl zws Tryz.ntmps81 zwy63 _ rfl (fun gB hw1=>?_);have cc:ACall Tryz.prog 84 [cls m.clauses,pi i] (rgs (qW m.clauses i)):=cc;cases h47:(opV m i != 47)
 ·have hwb:(opV m i==47)=true:=by simpa using h47
  cases hb:((opV m (i + 1)==43||opV m (i + 1)==44)&&opV m (i + 2)==46&&(qW m.clauses i).isEmpty)
  ·have hz:tailV g m i=11:=by rw [tailV,h47,hb];rfl
   have hle:(((((qW m.clauses i).map zcI).length:Nat):Int)==0)=(qW m.clauses i).isEmpty:=by cases qW m.clauses i <;> simp;omega
   rcases Bool.eq_false_or_eq_true (opV m (i + 1)==43) with k1|k1
   ·rcases Bool.eq_false_or_eq_true (opV m (i + 2)==46) with k3|k3
    ·rw [k1,k3] at hb;have hle2:(((((qW m.clauses i).map zcI).length:Nat):Int)==0)=false:=by rw [hle];simpa using hb
     have b0:=();have b1:=();have b6:=();exact zwk13
    ·have b0:=();have b2:=();have b6:=();exact zwk13
   ·rcases Bool.eq_false_or_eq_true (opV m (i + 1)==44) with k2|k2
    ·rcases Bool.eq_false_or_eq_true (opV m (i + 2)==46) with k3|k3
     ·rw [k1,k2,k3] at hb;have hle2:(((((qW m.clauses i).map zcI).length:Nat):Int)==0)=false:=by rw [hle];simpa using hb
      have b0:=();have b1:=();have b6:=();exact zwk13
     ·have b0:=();have b2:=();have b6:=();exact zwk13
    ·have b0:=();have b2:=();have b6:=();exact zwk13
  ·simp only [Bool.and_eq_true,Bool.or_eq_true] at hb;obtain ⟨⟨hb1,hb2⟩,hb3⟩:=hb;have hin:(i + 1).toNat < m.code.length:=by
    rcases Nat.lt_or_ge (i + 1).toNat m.code.length with h|h
    ·exact h
    ·have:opV m (i + 1)=0:=by rw [opV];simp;omega
     rw [this] at hb1;simp at hb1
   obtain ⟨⟨ha0,ha1⟩,hpl⟩:=hc (by simpa using hwb) (by simpa using hb1);have hei:(m.code.map ql)[(IntKind.i64.wrap (i + 1)).toNat]?=some (ql (qy m (i + 1))):=by rw [hwr,qy,zQ hin];exact zT hin
   have hem:(g.methods.map zY)[(qy m (i + 1)).arg.toNat]?=some (zY (WC g m i)):=by rw [WC,mAt,zQ ha1];exact zT ha1
   have hle:(((((qW m.clauses i).map zcI).length:Nat):Int)==0)=true:=by
    have:qW m.clauses i=[]:=by simpa using hb3
    rw [this];rfl
   have hbb:((opV m (i + 1)==43||opV m (i + 1)==44)&&opV m (i + 2)==46&&(qW m.clauses i).isEmpty)=true:=by simp only [hb2,hb3,Bool.and_true];simpa using hb1
   have hz:tailV g m i=if !tyB (WC g m i).ret m.ret then 10 else if (Qr g (WC g m i)).any (fun t=>t.ref) then 13 else 0:=by rw [tailV,h47,hbb];rfl
   have cA:=zca g (WC g m i) zwy62;have cF:=Qg (Qr g (WC g m i)) (fun t=>t.ref) 121 [] [] (fun t _=>zo1 t);have hix:(0:Int)<=IntKind.i64.wrap (i + 1):=by omega
   generalize qy m (i + 1)=x at *;generalize WC g m i=c at *;cases ht:tyB c.ret m.ret
   ·have hz2:tailV g m i=10:=by rw [hz,ht];rfl
    rcases Bool.eq_false_or_eq_true (opV m (i + 1)==43) with k1|k1
    ·have b3:=();have b4:=();have b6:=();have b9:=();exact zwk13
    ·have k2:(opV m (i + 1)==44)=true:=by rw [k1] at hb1;simpa using hb1
     have b3:=();have b4:=();have b6:=();have b9:=();exact zwk13
   ·cases ha:(Qr g c).any fun t=>t.ref
    ·have hz2:tailV g m i=0:=by rw [hz,ht,ha];rfl
     rw [ha] at cF;rcases Bool.eq_false_or_eq_true (opV m (i + 1)==43) with k1|k1
     ·have b3:=();have b6:=();have b7:=();have b8:=();exact zwk13
     ·have k2:(opV m (i + 1)==44)=true:=by rw [k1] at hb1;simpa using hb1
      have b3:=();have b6:=();have b7:=();have b8:=();exact zwk13
    ·have hz2:tailV g m i=13:=by rw [hz,ht,ha];rfl
     rw [ha] at cF;rcases Bool.eq_false_or_eq_true (opV m (i + 1)==43) with k1|k1
     ·have b3:=();have b5:=();have b6:=();have b7:=();have b9:=();exact zwk13
     ·have k2:(opV m (i + 1)==44)=true:=by rw [k1] at hb1;simpa using hb1
      have b3:=();have b5:=();have b6:=();have b7:=();have b9:=();exact zwk13
 ·have hz:tailV g m i=0:=by rw [tailV,h47];rfl
  exact zwk13
theorem zwk16 {G:Prop} (h:G:=by repeat' (first|(have:=b0;refine zo 4 3 rfl rfl rfl ?_)|(have:=b0;refine zD ([]) zi rfl rfl rfl tH (qh hle 12) ?_)|(have:=b1;refine yZ 11 10 rfl zws zws zws zws zws ?_)|(have:=b2;refine yZ 26 25 rfl zws zws zws zws zws ?_)|(have:=b3;refine zD ([]) zi rfl rfl rfl tH (qh rfl 12) ?_)|(have:=b4;refine zD ([]) zi rfl rfl rfl tH (qh hh 12) ?_)|(refine shC ?_;first|refine qC cc ?_|refine qC c0 ?_|(have:=b5;refine qC (yF hle 12) ?_)|(have:=b6;refine qC ci ?_)|(have:=b7;refine qC ch ?_)|(have:=b8;refine qC (yF rfl 12) ?_)|(have:=b9;refine qC (yF hh 12) ?_))|(refine shX ?_;first|(have:=b10;refine qX he ?_)|(have:=b11;refine zy rfl (ah hrc hec) rfl rfl ?_)|(have:=b11;refine zq rfl (ah hrc hec) rfl rfl ?_))|refine sK ?_|refine sC (fun _=>?_) (fun _=>?_)|(have:=b12;exact Ze hiv zwy69)|(have:=b13;exact Ze hz zwy69)|exact Yd hiv (.inl rfl)|exact Yd hz (.inl rfl)|fail)):G:=h
set_option maxHeartbeats 8000000 in
theorem znr (g:Img) (m:Me) (hm:ClOk m) (i:Int) (h0:0<=i) (h1:i.toNat < m.code.length):QF Tryz.prog 80 [.pv (Xw g m),.pv (pi i)] [] (zfC (Yc m i)):=by
 have hmc:=hm.code;have c0:=zdS g m i;have cc:ACall Tryz.prog 84 [cls m.clauses,pi i] (rgs (qW m.clauses i)):=zeG m.clauses i hm.n (hm.s i);have hcc:=fun x (hx:x∈qW m.clauses i)=>zlg hx
 have hiv:Yc m i=Yc m i:=rfl
 conv at hiv=>rhs;rw [Yc]
 generalize qW m.clauses i=c at *;refine zI zf Tryz.func80 rfl zws Tryz.ntmps80 zwy63 _ rfl (fun gB hw1=>?_);rcases Bool.eq_false_or_eq_true (opV m i==46) with k1|k1
 ·rw [k1,if_pos rfl] at hiv;have hle:((((c.map zcI).length:Nat):Int)==0)=c.isEmpty:=by cases c <;> simp;omega
  cases he:c.isEmpty
  ·rw [he] at hle hiv;have b0:=();have b12:=();exact zwk16
  ·rw [he] at hle hiv;have b5:=();exact zwk16
 ·rw [k1,if_neg zwy63] at hiv;rcases Bool.eq_false_or_eq_true (opV m i==70) with k2|k2
  ·rw [k2,if_pos rfl] at hiv;have ci:=zcY c (fun r=>r.p != 1) 119 [] [] (fun r _=>zkQ r);cases ha:c.any (fun r=>r.p != 1)
   ·have e:zlj c (fun r=>r.p != 1) = -1:=by rw [zlj,ha];rfl
    have hz:Yc m i=12:=by
     have:c.find? (fun r=>r.p != 1)=none:=by rw [List.find?_eq_none];rw [List.any_eq_false] at ha;exact ha
     rw [hiv,this]
    rw [e] at ci;have b1:=();have b3:=();have b6:=();have b13:=();exact zwk16
   ·have e:zlj c (fun r=>r.p != 1)=((c.findIdx (fun r=>r.p != 1):Nat):Int):=by rw [zlj,ha];rfl
    have hlt:c.findIdx (fun r=>r.p != 1) < c.length:=List.findIdx_lt_length.2 (by simpa using ha);have hf:c.find? (fun r=>r.p != 1)=some c[c.findIdx (fun r=>r.p != 1)]:=by rw [List.find?_eq_getElem?_findIdx,List.getElem?_eq_getElem hlt]
    have he:=zT (f:=zcI) hlt;have hr:=hcc _ (List.getElem_mem hlt);rw [hf] at hiv;rw [e] at ci;generalize c[c.findIdx (fun r=>r.p != 1)]=r at *;generalize c.findIdx (fun r=>r.p != 1)=k at *;have ch:=zeS g m r 1 2 hr.1 hr.2;have hd:decide ((0:Int)<=((k:Nat):Int))=true:=decide_eq_true zwy62;cases hh:XR m r 1 2
    ·rw [hh] at ch;have hz:Yc m i=12:=by rw [hiv];show (if XR m r 1 2=true then 0 else 12)=(12:Int);rw [hh];rfl
     have b1:=();have b3:=();have b6:=();have b7:=();have b10:=();have b13:=();exact zwk16
    ·rw [hh] at ch;have hz:Yc m i=0:=by rw [hiv];show (if XR m r 1 2=true then 0 else 12)=(0:Int);rw [hh];rfl
     have b6:=();have b7:=();have b8:=();have b10:=();exact zwk16
  ·rw [k2,if_neg zwy63] at hiv;rcases Bool.eq_false_or_eq_true (opV m i==72) with k3|k3
   ·rw [k3,if_pos rfl] at hiv;cases c with
    | nil =>
     have b1:=();have b3:=();have b12:=();exact zwk16
    | cons r c =>
     have hr:=hcc r zwy63;have ch:=zeS g m r 3 4 hr.1 hr.2;have hd:decide ((0:Int) < ((((r::c).map zcI).length:Nat):Int))=true:=decide_eq_true zwy63;have he:((r::c).map zcI)[(0:Int).toNat]?=some (zcI r):=rfl;cases hh:XR m r 3 4
     ·rw [hh] at ch;have hz:Yc m i=12:=by rw [hiv];show (if XR m r 3 4=true then 0 else 12)=(12:Int);rw [hh];rfl
      have b1:=();have b3:=();have b7:=();have b10:=();have b13:=();exact zwk16
     ·rw [hh] at ch;have hz:Yc m i=0:=by rw [hiv];show (if XR m r 3 4=true then 0 else 12)=(0:Int);rw [hh];rfl
      have b7:=();have b8:=();have b10:=();exact zwk16
   ·rw [k3,if_neg zwy63] at hiv;rcases Bool.eq_false_or_eq_true (opV m i==73) with k4|k4
    ·rw [k4,if_pos rfl] at hiv;cases c with
     | nil =>
      have b2:=();have b3:=();have b12:=();exact zwk16
     | cons r c =>
      have hr:=hcc r zwy63;have hwr:IntKind.i64.wrap (i + 1)=i + 1:=wrap_in zwy62 zwy62;have hd:decide ((0:Int) < ((((r::c).map zcI).length:Nat):Int))=true:=decide_eq_true zwy63;have he:((r::c).map zcI)[(0:Int).toNat]?=some (zcI r):=rfl;have hec:(m.clauses.map qN)[r.c.toNat]?=some (qN (clV m r)):=zbI hr.2;have hiv2:Yc m i=if r.p==3&&(clV m r).hf==IntKind.i64.wrap (i + 1) then 0 else 12:=by rw [hiv,hwr]
      generalize clV m r=cl at *;have hrc:=hr.1;cases h3:(r.p==3)
      ·have hz:Yc m i=12:=by rw [hiv2,h3];rfl
       have b2:=();have b3:=();have b10:=();have b13:=();exact zwk16
      ·cases hh:(cl.hf==IntKind.i64.wrap (i + 1))
       ·have hz:Yc m i=12:=by rw [hiv2,h3,hh];rfl
        have b2:=();have b4:=();have b10:=();have b11:=();have b13:=();exact zwk16
       ·have hz:Yc m i=0:=by rw [hiv2,h3,hh];rfl
        have b9:=();have b10:=();have b11:=();exact zwk16
    ·rw [k4,if_neg zwy63] at hiv;exact zwk16
set_option maxHeartbeats 20000000
abbrev lbH (e:PV) (p1:Value):HEnv:=[(1,.cell (.pv e)),(2001,.pin (.box 1 0) p1)]
theorem zfw (p1:Value) (e:Int):DCall Tryz.prog 78 (lbH (pi 0) p1) [.box 1 0] (.panicking [{ v:=zhy e,recovered:=false }]) (.panicking [{ v:=zhy e,recovered:=true }]) (lbH (pi e) p1):=by
 refine WA Tryz.func78 rfl zws rfl (fun g K ρ w vs hds hf hv c₀ cs hu=>?_);obtain ⟨v1,rfl⟩:=List.length_eq_one_iff.1 hv.1;have r1:=hv.2 0 _ v1 rfl rfl;refine wpS_seq ?_;refine wpS_region ?_;have h1:=zbf (P:=Tryz.prog) (xt:=20) (v:=.int .i64 e) (w:=w) Tryz.underlying91;simp [wpOpsS,go_sem,recoverD,hu,Tryz.ntmps78,Exit.thenS,zhy,h1];refine zfU (n:=10) (g:=g) (env:=[(0,.box 1 0),(1,.pv (pi e)),(2,.pv (pb true))]) (H:=lbH (pi 0) p1) (QQ:=zrh (lbH (pi e) p1)) ?_
  ⟨by simp,by rw [hds],K,ρ,hf,YD (v:=v1) zwy63 r1 (YD (v:=.int .i64 e) zwy63 (.pv _ _ (.base _ rfl)) (YD (v:=.bool true) zwy63 (.pv _ _ (.base _ rfl)) zcj))⟩
  (fun ex a' w' env' H' hi hq=>⟨hq.1,hi.defers.trans hds,rfl,zgr hi hq.2⟩)
 repeat' (first|refine sK ?_|refine sC (fun _=>?_) (fun _=>?_)|fail)
 exact ⟨.inl rfl,tH⟩
theorem zkc (e:PV) (p1:Value):DCall Tryz.prog 78 (lbH e p1) [.box 1 0] .returning .returning (lbH e p1):=by
 refine WA Tryz.func78 rfl zws rfl (fun g K ρ w vs hds hf hv c₀ cs hu=>?_);obtain ⟨v1,rfl⟩:=List.length_eq_one_iff.1 hv.1;refine wpS_seq ?_;refine wpS_region ?_;have hz:=ziE (P:=Tryz.prog) (w:=w) (z:=.int .i64 0) zf (ty:=91) rfl;have h1:=zaj (P:=Tryz.prog) (xt:=20) (w:=w) Tryz.underlying91 hz;simp [wpOpsS,go_sem,recoverD,hu,Tryz.ntmps78,Exit.thenS,h1];refine zfU (n:=10) (g:=g) (env:=[(2,.pv (pb false))]) (H:=lbH e p1) (QQ:=zrh (lbH e p1)) ?_
  ⟨by simp,by rw [hds],K,ρ,hf,YD (v:=.bool false) zwy63 (.pv _ _ (.base _ rfl)) zcj⟩
  (fun ex a' w' env' H' hi hq=>⟨hq.1,hi.defers.trans hds,by cases c₀;simp_all,zgr hi hq.2⟩)
 repeat' (first|refine sK ?_|refine sC (fun _=>?_) (fun _=>?_)|fail)
 exact ⟨.inl rfl,tH⟩
theorem zwk14 {G:Prop} (h:G:=by repeat' (first|(have:=b0;refine zo 5 11 rfl rfl rfl ?_)|(have:=b0;refine zb2 [] (lbH (pi 0) p1) zi rfl rfl rfl zwy67 rfl (qh h67 11) ?_)|(refine shC ?_;first|(have:=b1;refine qC c0 ?_)|(have:=b1;refine qC c1 ?_)|(have:=b2;refine qC (yF h67 11) ?_)|(have:=b3;refine qC (yF rfl 11) ?_))|(have:=b1;refine zu ?_;first|(refine yH ([]) ([]) (lbH (pi 0) p1) [(1,.pv (pi i)),(2,.pv (.ptr (Xw g m) 0)),(4,.box 1 0)] [] zi rfl rfl rfl ?_ tS rfl rfl rfl (fun _=>XT co ho) ?_;· (repeat (first|exact zB|refine aB ?_)))|(refine yH ([]) ([]) (lbH (pi 0) p1) [(1,.pv (pi i)),(2,.pv (.ptr (Xw g m) 0)),(4,.box 1 0)] [] zi rfl rfl rfl ?_ tS rfl rfl rfl (fun _=>XT ci hi) ?_;· (repeat (first|exact zB|refine aB ?_)))|(refine yH ([]) ([]) (lbH (pi 0) p1) [(1,.pv (pi i)),(2,.pv (.ptr (Xw g m) 0)),(4,.box 1 0)] [] zi rfl rfl rfl ?_ tS rfl rfl rfl (fun _=>XT ct ht) ?_;· (repeat (first|exact zB|refine aB ?_))))|(have:=b4;refine zo 4 2 rfl rfl rfl ?_)|(have:=b4;refine zb2 [] (lbH (pi 0) p1) zi rfl rfl rfl zwy67 rfl (zio ct ht) ?_)|(have:=b4;refine zu ?_;first|(refine yH ([]) ([]) (lbH (pi 0) p1) [(1,.pv (pi i)),(2,.pv (.ptr (Xw g m) 0)),(4,.box 1 0)] [] zi rfl rfl rfl ?_ tS rfl rfl rfl (fun _=>XT co ho) ?_;· (repeat (first|exact zB|refine aB ?_)))|(refine yH ([]) ([]) (lbH (pi 0) p1) [(1,.pv (pi i)),(2,.pv (.ptr (Xw g m) 0)),(4,.box 1 0)] [] zi rfl rfl rfl ?_ tS rfl rfl rfl (fun _=>XT ci hi) ?_;· (repeat (first|exact zB|refine aB ?_))))|(have:=b5;refine zo 3 2 rfl rfl rfl ?_)|(have:=b5;refine zb2 [] (lbH (pi 0) p1) zi rfl rfl rfl zwy67 rfl (zio ci hi) ?_)|(have:=b5;refine zu ?_;first|(refine yH ([]) ([]) (lbH (pi 0) p1) [(1,.pv (pi i)),(2,.pv (.ptr (Xw g m) 0)),(4,.box 1 0)] [] zi rfl rfl rfl ?_ tS rfl rfl rfl (fun _=>XT co ho) ?_;· (repeat (first|exact zB|refine aB ?_))))|(have:=b6;refine zo 2 2 rfl rfl rfl ?_)|(have:=b6;refine zb2 [] (lbH (pi 0) p1) zi rfl rfl rfl zwy67 rfl (zio co ho) ?_)|refine sK ?_|refine sC (fun _=>?_) (fun _=>?_)|(have:=b0;exact ⟨_,_,_,[4],[.box 1 0],[p1],lbH (pi 0) p1,lbH (pi 11) p1,[pi 11],rfl,rfl,tH,⟨⟨2001,rfl⟩,trivial⟩,⟨⟨2001,rfl⟩,trivial⟩,zfw p1 _,rfl,rfl,by decide,tS,rfl,by rw [hl,hn];rfl⟩)|(have:=b7;exact ⟨_,_,_,[4],[.box 1 0],[p1],lbH (pi 0) p1,lbH (pi 0) p1,[pi 0],rfl,rfl,tH,⟨⟨2001,rfl⟩,trivial⟩,⟨⟨2001,rfl⟩,trivial⟩,zkc _ p1,rfl,rfl,by decide,tS,rfl,by rw [hl,hn];rfl⟩)|(have:=b4;exact ⟨_,_,_,[4],[.box 1 0],[p1],lbH (pi 0) p1,lbH (pi (tailV g m i)) p1,[pi (tailV g m i)],rfl,rfl,tH,⟨⟨2001,rfl⟩,trivial⟩,⟨⟨2001,rfl⟩,trivial⟩,zfw p1 _,rfl,rfl,by decide,tS,rfl,by rw [hl];rfl⟩)|(have:=b5;exact ⟨_,_,_,[4],[.box 1 0],[p1],lbH (pi 0) p1,lbH (pi (Yc m i)) p1,[pi (Yc m i)],rfl,rfl,tH,⟨⟨2001,rfl⟩,trivial⟩,⟨⟨2001,rfl⟩,trivial⟩,zfw p1 _,rfl,rfl,by decide,tS,rfl,by rw [hl];rfl⟩)|(have:=b6;exact ⟨_,_,_,[4],[.box 1 0],[p1],lbH (pi 0) p1,lbH (pi (onV m i)) p1,[pi (onV m i)],rfl,rfl,tH,⟨⟨2001,rfl⟩,trivial⟩,⟨⟨2001,rfl⟩,trivial⟩,zfw p1 _,rfl,rfl,by decide,tS,rfl,by rw [hl];rfl⟩)|fail)):G:=h
set_option maxHeartbeats 4000000 in
theorem zrX (g:Img) (m:Me) (i:Int) (h0:0<=i) (h1:i<=1000) (co:QF Tryz.prog 79 [.pv (Xw g m),.pv (pi i)] [] (zfC (onV m i)))
  (ci:QF Tryz.prog 80 [.pv (Xw g m),.pv (pi i)] [] (zfC (Yc m i))) (ct:QF Tryz.prog 81 [.pv (Xw g m),.pv (pi i)] [] (zfC (tailV g m i))) :
  ACall Tryz.prog 47 [Xw g m,pi i] (pi (XH g m i)):=by
 have hwr:IntKind.i64.wrap (i - 1)=i - 1:=wrap_in zwy62 zwy62;have c0:=zdS g m i;have c1:ACall Tryz.prog 82 [Xw g m,pi (IntKind.i64.wrap (i - 1))] (pi (opV m (i - 1))):=by rw [hwr];exact zdS g m (i - 1)
 refine zku zf Tryz.func47 rfl zws Tryz.ntmps47 zwy63 _ rfl (fun hw=>?_);refine zbL (zbD fun gB=>?_)
 repeat' (first|refine ZQ zf 1 rfl rfl rfl rfl rfl rfl rfl ?_|refine sK ?_|refine sC (fun _=>?_) (fun _=>?_)|fail)
 refine zhN 1 2001 rfl rfl fun p1=>?_
 refine zbL (zgw (k:=1) rfl rfl rfl rfl rfl fun gB=>?_)
 repeat' (first|refine sK ?_|refine sC (fun _=>?_) (fun _=>?_)|fail)
 refine ⟨_,_,[p1],rfl,⟨⟨2001,rfl⟩,trivial⟩,?_⟩;refine zbD fun gB=>?_
 by_cases ho:onV m i=0
 ·by_cases hi:Yc m i=0
  ·by_cases ht:tailV g m i=0
   ·have hl:XH g m i=zbp m i:=by rw [XH,if_neg zwy79,if_neg (by simpa using hi),if_neg (by simpa using ht)]
    cases h68:(opV m i != 68)
    ·cases h67:(opV m (i - 1)==67)
     ·have hn:zbp m i=11:=by rw [zbp];simp_all
      have b0:=();have b1:=();exact zwk14
     ·have hn:zbp m i=0:=by rw [zbp];simp_all
      have b1:=();have b2:=();have b7:=();exact zwk14
    ·have hn:zbp m i=0:=by rw [zbp];simp_all
     have b1:=();have b3:=();have b7:=();exact zwk14
   ·have hl:XH g m i=tailV g m i:=by rw [XH,if_neg zwy79,if_neg (by simpa using hi),if_pos (by simpa using ht)]
    have b4:=();exact zwk14
  ·have hl:XH g m i=Yc m i:=by rw [XH,if_neg zwy79,if_pos (by simpa using hi)]
   have b5:=();exact zwk14
 ·have hl:XH g m i=onV m i:=by rw [XH,if_pos zwy79]
  have b6:=();exact zwk14
set_option maxHeartbeats 1000000 in
theorem znf (g:Img) (m:Me) (hm:ClOk m):ACall Tryz.prog 48 [Xw g m] (pb (zeX m)):=by
 have cc:ACall Tryz.prog 84 [cls m.clauses,pi 0] (rgs (qW m.clauses 0)):=zeG m.clauses 0 hm.n (hm.s 0);have cf:=zeA (qW m.clauses 0) (fun r=>r.p != 1||(clV m r).tf != 0) 85 [] [.ptr (Xw g m) 0] (fun r hr=>zlD g m r (zlg hr).1 (zlg hr).2);refine zh zf Tryz.func48 rfl zws Tryz.ntmps48 zwy63 _ rfl (fun hw gB hgB=>?_);rw [zeX];generalize (qW m.clauses 0).any (fun r=>r.p != 1||(clV m r).tf != 0)=b at cf ⊢
 repeat' (first|(refine shC ?_;first|refine qC cc ?_|refine qC cf ?_)|refine sK ?_|refine sC (fun _=>?_) (fun _=>?_)|fail)
 exact retq rfl rfl
theorem ztR {p:Nat->Bool} {n k:Nat} (hk:k < n) (hp:p k=true) (hno:∀ j,j < k->p j=false):(List.range n).find? p=some k:=by
 rw [List.find?_range_eq_some];exact ⟨hp,by simpa using hk,fun j hj=>by simp [hno j hj]⟩
theorem zsd {p:Nat->Bool} {n:Nat} (hno:∀ j,j < n->p j=false):(List.range n).find? p=none:=by
 rw [List.find?_eq_none];intro j hj;simp [hno j (List.mem_range.1 hj)]
theorem zwk15 {G:Prop} (h:G:=by repeat' (first|(refine shC ?_;first|(have:=b0;refine qC cl ?_)|(have:=b1;refine qC cb ?_))|refine sK ?_|refine sC (fun _=>?_) (fun _=>?_)|exact retq rfl (by rw [ha];rfl)|fail)):G:=h
set_option maxHeartbeats 4000000 in
theorem zsS (g:Img) (m:Me) (hm:ClOk m) (hlk:∀ i:Nat,i < m.code.length->ACall Tryz.prog 47 [Xw g m,pi i] (pi (XH g m i))):ACall Tryz.prog 21 [Xw g m] (.tup [pi (zcw g m).1,pi (zcw g m).2]):=by
 have cb:=znf g m hm;have hmc:=hm.code;refine zh zf Tryz.func21 rfl zws Tryz.ntmps21 zwy63 _ rfl (fun hw gB hgB=>?_)
 repeat' (first|refine sA ?_|refine sC (fun _=>?_) (fun _=>?_)|fail)
 refine zL (fun k:Nat=>[(1,.pv (.ptr (Xw g m) 0)),(9,.pv (pi m.code.length)),(10,.pv (pi k))]) (fun _=>[]) (fun k=>k<=m.code.length/\∀ j,j < k->(XH g m (j:Nat) != 0)=false) (fun k=>m.code.length - k) 0 ⟨by omega,fun j hj=>absurd hj (Nat.not_lt_zero j)⟩ (tS) tH ?_;rintro k ⟨hk,hno⟩;by_cases hlt:k < m.code.length
 ·have cl:=hlk k hlt;cases he:(XH g m (k:Nat) != 0)
  ·repeat' (first|(refine shC ?_;first|refine qC cl ?_)|refine sK ?_|refine sC (fun _=>?_) (fun _=>?_)|fail)
   exact ⟨k + 1,⟨hlt,fun j hj=>by
    by_cases e:j=k
    ·subst e;exact he
    ·exact hno j zwy62⟩,tD,tS,tH⟩
  ·have ha:zcw g m=(((k:Nat):Int),XH g m k):=by rw [zcw,ztR hlt he hno]
   have b0:=();exact zwk15
 ·have ha:zcw g m=if zeX m then (0,0) else (0,12):=by rw [zcw,zsd fun j hj=>hno j zwy62]
  cases hb:zeX m
  ·rw [hb] at cb ha;have b1:=();exact zwk15
  ·rw [hb] at cb ha;have b1:=();exact zwk15
end Go.Cg
