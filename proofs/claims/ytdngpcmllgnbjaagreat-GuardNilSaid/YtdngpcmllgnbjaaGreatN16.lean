/- A part of the walks by abstract values: no statement of its own. -/
import Derived.Test.YtdngpcmllgnbjaaGreatN13
import Derived.Test.YtdngpcmllgnbjaaGreatN14
set_option linter.unusedVariables false
set_option linter.unusedSimpArgs false
namespace Go.Cg
open Go.Proofs
set_option maxHeartbeats 20000000
def Wj (k:Int) (st:Bool) (o:Int):Ty × Bool:=if k < 0||st then (ty0,false) else if k==1 then (⟨6,o,0,true⟩,true) else (⟨5,o,0,false⟩,true)
theorem zlZ (g:Img) (m:Me):ACall Tryz.prog 151 [zu g,zM m] (.tup [yA (Wj (Qe g m.owner) (yY m.flags 1) m.owner).1,pb (Wj (Qe g m.owner) (yY m.flags 1) m.owner).2]):=by
 refine zf zh Tryz.func151 rfl (by kernel_rfl) Tryz.ntmps151 (by simp) _ rfl (fun hw gB hgB=>?_)
 repeat' (first|(refine shC ?_;first|refine qC (zab _ _) ?_)|refine sA ?_|refine sC (fun _=>?_) (fun _=>?_)|fail)
 ·rename_i h1
  have hs:Wj (Qe g m.owner) (yY m.flags 1) m.owner=(ty0,false):=by simp_all [Wj]
  rw [hs];exact retq rfl rfl
 ·rename_i h1 h2
  have h3:(yY m.flags 1)=true:=h2
  have hs:Wj (Qe g m.owner) (yY m.flags 1) m.owner=(ty0,false):=by simp [Wj,h3]
  rw [hs];exact retq rfl rfl
 ·rename_i h1 h2 h4
  have h3:(yY m.flags 1)=false:=h2
  have hs:Wj (Qe g m.owner) (yY m.flags 1) m.owner=(⟨6,m.owner,0,true⟩,true):=by rw [Wj,h3];simp_all
  rw [hs];exact retq rfl rfl
 ·rename_i h1 h2 h4
  have h3:(yY m.flags 1)=false:=h2
  have hs:Wj (Qe g m.owner) (yY m.flags 1) m.owner=(⟨5,m.owner,0,false⟩,true):=by rw [Wj,h3];simp_all
  rw [hs];exact retq rfl rfl
def zlx (x:Ty × Bool) (l:List Ty):List Ty:=(if x.2 then [x.1] else [])++l
theorem zgs (g:Img) (m:Me) (hp:m.params.length≤1000):ACall Tryz.prog 78 [zu g,zM m] (tys (zlx (Wj (Qe g m.owner) (yY m.flags 1) m.owner) m.params)):=by
 refine zf zh Tryz.func78 rfl (by kernel_rfl) Tryz.ntmps78 (by simp) _ rfl (fun hw gB hgB=>?_)
 have c1:=zlZ g m
 generalize Wj (Qe g m.owner) (yY m.flags 1) m.owner=x at c1 ⊢
 obtain ⟨t,b⟩:=x
 cases b
 ·repeat' (first|refine qZ (t:=5) 0 44 4 (by decide) rfl rfl ?_|(refine shC ?_;first|refine qC c1 ?_)|(refine zI ?_;first|refine yg zh rfl rfl rfl rfl rfl rfl rfl (by show _ * 32≤_;simp;omega) (by simp;omega) rfl rfl ?_)|refine sA ?_|refine sC (fun _=>?_) (fun _=>?_)|fail)
  exact retq rfl rfl
 ·repeat' (first|refine qZ (t:=5) 0 44 4 (by decide) rfl rfl ?_|(refine shC ?_;first|refine qC c1 ?_)|(refine zI ?_;first|refine yg zh rfl rfl rfl rfl rfl rfl rfl (by show _ * 32≤_;simp;try omega) (by simp;try omega) rfl rfl ?_)|refine sA ?_|refine sC (fun _=>?_) (fun _=>?_)|fail)
  exact retq rfl rfl
theorem zof {n:Int}:yY n 1=(n.tmod 2 != 0):=by
 have h1:(BitVec.ofInt 64 n &&& BitVec.ofInt 64 1).toNat=(n % 2).toNat:=by
  rw [BitVec.toNat_and]
  have:(BitVec.ofInt 64 1).toNat=1:=by decide
  rw [this,Nat.and_one_is_mod,BitVec.toNat_ofInt]
  omega
 have h2:n.tmod 2=0↔n % 2=0:=by
  constructor
  ·intro h;have:=Int.dvd_of_tmod_eq_zero h;omega
  ·intro h;exact Int.tmod_eq_zero_of_dvd (by omega)
 have h3:yY n 1=(IntKind.i64.wrap (((n % 2).toNat:Nat):Int) != 0):=by
  unfold yY
  have:(BitVec.ofInt IntKind.i64.bits n &&& BitVec.ofInt IntKind.i64.bits 1).toNat=(n % 2).toNat:=h1
  rw [this]
 rw [h3,wrap_in (by omega) (by omega)]
 by_cases h:n % 2=0
 ·simp [h,h2.2 h]
 ·have:¬ n.tmod 2=0:=fun e=>h (h2.1 e)
  have h5:((n % 2).toNat:Int)≠0:=by omega
  rw [show ((((n % 2).toNat:Nat):Int) != 0)=true from bne_iff_ne.2 h5,show (n.tmod 2 != 0)=true from bne_iff_ne.2 this]
theorem zm2:∀ n:Fin 32,zdY (n.val:Int)=Xf (n.val:Int):=by decide +kernel
theorem zeo {f:Int} (h0:0≤f) (h1:f≤31):zdY f=Xf f:=by
 have:=zm2 ⟨f.toNat,by omega⟩
 simpa [Int.toNat_of_nonneg h0] using this
theorem Zl {g:Img} (h:ZE g=true):zK g=true:=by
 cases hf:zK g with
 | true=>rfl
 | false=>simp [ZE,Xb,hf] at h
theorem zb4 {g:Img} (h:zK g=true) (t:Int):Qe g t=zB g t:=by
 unfold Qe zB
 cases ht:typeAt g t with
 | none=>rfl
 | some td =>
  have hm:td∈g.types:=by
   unfold typeAt at ht
   split at ht
   ·exact List.mem_of_getElem? ht
   ·cases ht
  obtain ⟨h1,h2,_⟩:=Yz ((zG h).2.2.2 td hm)
  exact zeo h1 h2
set_option maxHeartbeats 20000000
theorem ZO (g:Img) (t:Int) (hg:g.types.length≤1000):ACall Tryz.prog 269 [zu g,pi t] (ints (up g t)):=by
 refine zf zh Tryz.func269 rfl (by kernel_rfl) Tryz.ntmps269 (by simp) _ rfl (fun hw gB hgB=>?_)
 repeat' (first|refine sA ?_|refine sC (fun _=>?_) (fun _=>?_)|fail)
 refine qZ (t:=5) 0 3 1 (by decide) rfl rfl ?_
 refine zA (fun x:Int × List Int=>[(1,.pv (pi x.1)),(2,.pv (.ptr (zu g) 0)),(5,.own 0)]) (fun x=>[(0,.row 3 1 (x.2.map pi))]) (UpInv g t) (fun x=>g.types.length + 1 - x.2.length) (t,[]) ⟨rfl,by simp,by simp⟩ (tS) ⟨zi rfl zk,rfl⟩ ?_
 rintro ⟨t',out⟩ hi
 have hlen:=hi.len
 simp only at hlen
 cases ht:typeAt g t' with
 | none =>
  have hth:there g t'=false:=by
   cases hh:there g t' with
   | false=>rfl
   | true=>obtain ⟨td,h⟩:=(YN g t').1 hh;rw [ht] at h;cases h
  have c1:ACall Tryz.prog 247 [zu g,pi t'] (pb false):=by rw [←hth];exact ZG g t'
  repeat' (first|(refine shC ?_;first|refine qC c1 ?_)|refine sK ?_|refine sC (fun _=>?_) (fun _=>?_)|fail)
  exact retq rfl (by rw [←hi.stop (.inl ht)];rfl)
 | some td =>
  have hth:there g t'=true:=(YN g t').2 ⟨td,ht⟩
  have c1:ACall Tryz.prog 247 [zu g,pi t'] (pb true):=by rw [←hth];exact ZG g t'
  obtain ⟨h0,he⟩:=ZK ht
  by_cases hm:t'∈out
  ·have c2:ACall Tryz.prog 268 [ints out,pi t'] (pb true):=by have:=Yv out t';rwa [decide_eq_true hm] at this
   repeat' (first|(refine shC ?_;first|refine qC c1 ?_|refine qC c2 ?_)|refine sK ?_|refine sC (fun _=>?_) (fun _=>?_)|fail)
   exact retq rfl (by rw [←hi.stop (.inr hm)];rfl)
  ·have c2:ACall Tryz.prog 268 [ints out,pi t'] (pb false):=by have:=Yv out t';rwa [decide_eq_false hm] at this
   have hnx:=hi.next ht hm
   repeat' (first|(refine shC ?_;first|refine qC c1 ?_|refine qC c2 ?_)|(refine shX ?_;first|refine zq rfl (zn zh rfl rfl rfl rfl rfl rfl h0 he) rfl rfl ?_|refine AD.step _ _ _ _ _ rfl (zn zh rfl rfl rfl rfl rfl rfl h0 he) rfl rfl ?_)|(refine zI ?_;first|refine yg zh rfl rfl rfl rfl rfl rfl rfl (by show _ * 8≤_;simp;omega) (by simp;omega) rfl rfl ?_)|refine sK ?_|refine sC (fun _=>?_) (fun _=>?_)|fail)
   refine ⟨(td.ext,out++[t']),hnx,by simp;omega,tS,⟨yS rfl (by simp) zk,rfl⟩⟩
theorem zdT (l:List Int) (hb:l.length≤100000):ACall Tryz.prog 137 [ints l] (ints l):=by
 refine zf zh Tryz.func137 rfl (by kernel_rfl) Tryz.ntmps137 (by simp) _ rfl (fun hw gB hgB=>?_)
 repeat' (first|refine Yw zh rfl rfl rfl rfl rfl rfl rfl (fun bb hbb=>?_)|refine zq rfl (QT zh rfl rfl rfl rfl rfl) rfl rfl ?_|(refine zI ?_;first|refine zq rfl (YA zh rfl rfl (.inl rfl) rfl rfl (by show _ * 8≤_;simp;omega) (by simp;omega)) rfl rfl ?_)|refine sA ?_|refine sC (fun _=>?_) (fun _=>?_)|fail)
 ·rename_i h
  have:l=[]:=by have:=hbb h;simpa using this
  subst this
  exact Zz (t:=2) (ps:=[ints []]) rfl (qo 1 false) rfl rfl
 ·exact retq rfl rfl
def zbj (l:List Int) (p:Int→Bool):Int:=if l.any p then ((l.findIdx p:Nat):Int) else -1
theorem XT (l:List Int) (p:Int→Bool) (f:FuncId) (first cap:List PV) (hp:∀ x∈l,ACall Tryz.prog f (first++[pi x]++cap) (pb (p x))):ACall Tryz.prog 343 [ints l,.fn (.func f) first cap] (pi (zbj l p)):=by
 refine zf zh Tryz.func343 rfl (by kernel_rfl) Tryz.ntmps343 (by simp) _ rfl (fun hw gB hgB=>?_)
 have hl:=zfJ hw.1
 repeat' (first|refine sA ?_|refine sC (fun _=>?_) (fun _=>?_)|fail)
 refine zA (fun k:Nat=>[(0,.pv (ints l)),(1,.pv (.fn (.func f) first cap)),(7,.pv (pi l.length)),(8,.pv (pi k))]) (fun _=>[]) (fun k=>k≤l.length∧∀ j (h:j < k) (h2:j < l.length),p l[j]=false) (fun k=>l.length - k) 0 ⟨by omega,fun j h=>by omega⟩ (tS) tH ?_
 rintro k ⟨hk,hno⟩
 by_cases hlt:k < l.length
 ·have he:=Yd hlt
  have c1:=hp _ (List.getElem_mem hlt)
  cases hpx:p l[k]
  ·rw [hpx] at c1
   repeat' (first|(refine shC ?_;first|refine qV (c1) ?_)|(refine shX ?_;first|refine qX he ?_)|refine sK ?_|refine sC (fun _=>?_) (fun _=>?_)|fail)
   exact ⟨k + 1,⟨hlt,fun j hj h2=>by
    by_cases e:j=k
    ·subst e;exact hpx
    ·exact hno j (by omega) h2⟩,tD,tS,tH⟩
  ·rw [hpx] at c1
   have hi:l.findIdx p=k:=by
    rw [List.findIdx_eq hlt]
    exact ⟨hpx,fun j hj=>hno j hj (by omega)⟩
   have ha:l.any p=true:=List.any_eq_true.2 ⟨_,List.getElem_mem hlt,hpx⟩
   repeat' (first|(refine shC ?_;first|refine qV (c1) ?_)|(refine shX ?_;first|refine qX he ?_)|refine sK ?_|refine sC (fun _=>?_) (fun _=>?_)|fail)
   exact retq rfl (by simp [zl,zbj,ha,hi])
 ·have ha:l.any p=false:=by
   rw [List.any_eq_false]
   intro x hx
   obtain ⟨j,hj,rfl⟩:=List.getElem_of_mem hx
   simp [hno j (by omega) hj]
  repeat' (first|refine sK ?_|refine sC (fun _=>?_) (fun _=>?_)|fail)
  exact retq rfl (by simp [zl,zbj,ha])
theorem zcb (l:List Int) (f:FuncId) (first cap:List PV) (hp:∀ x∈l,ACall Tryz.prog f (first++[pi x]++cap) (pb false)):ACall Tryz.prog 391 [ints l,.fn (.func f) first cap] (ints l):=by
 refine zf zh Tryz.func391 rfl (by kernel_rfl) Tryz.ntmps391 (by simp) _ rfl (fun hw gB hgB=>?_)
 have c1:=XT l (fun _=>false) f first cap hp
 rw [show zbj l (fun _=>false) = -1 by simp [zbj]] at c1
 repeat' (first|(refine shC ?_;first|refine qC c1 ?_)|refine sA ?_|refine sC (fun _=>?_) (fun _=>?_)|fail)
 exact retq rfl rfl
theorem ziw (g:Img) (x:Int):ACall Tryz.prog 392 [pi x,.ptr (zu g) 0] (pb (!there g x)):=by
 refine zf zh Tryz.func392 rfl (by kernel_rfl) Tryz.ntmps392 (by simp) _ rfl (fun hw gB hgB=>?_)
 repeat' (first|(refine shC ?_;first|refine qC (ZG g x) ?_)|refine sA ?_|refine sC (fun _=>?_) (fun _=>?_)|fail)
 all_goals first|(refine retq rfl ?_;first|(simp only [zl,BL,List.length_map] at *;simp only [*,BL,List.length_map];done)|(simp_all [zl];done)|(simp_all [zl];omega)|(simp_all [zl];intros;omega))|(refine zcp rfl ?_;first|(simp only [zl,BL,List.length_map] at *;simp only [*,BL,List.length_map];done)|(simp_all [zl];done)|(simp_all [zl];omega)|(simp_all [zl];intros;omega))|skip
theorem QM (g:Img) (t:Int) (hfc:(zT g t).length≤1000) (hin:∀ f∈zT g t,there g f=true):ACall Tryz.prog 345 [zu g,pi t] (ints (zT g t)):=by
 refine zf zh Tryz.func345 rfl (by kernel_rfl) Tryz.ntmps345 (by simp) _ rfl (fun hw gB hgB=>?_)
 cases ht:typeAt g t with
 | none =>
  have hth:there g t=false:=by
   cases hh:there g t with
   | false=>rfl
   | true=>obtain ⟨td,h⟩:=(YN g t).1 hh;rw [ht] at h;cases h
  have c1:ACall Tryz.prog 247 [zu g,pi t] (pb false):=by rw [←hth];exact ZG g t
  repeat' (first|(refine shC ?_;first|refine qC c1 ?_)|refine sK ?_|refine sC (fun _=>?_) (fun _=>?_)|fail)
  rw [zT,ht]
  exact Zz (t:=4) (ps:=[ints []]) rfl (qo 1 false) rfl rfl
 | some td =>
  have hth:there g t=true:=(YN g t).2 ⟨td,ht⟩
  have c1:ACall Tryz.prog 247 [zu g,pi t] (pb true):=by rw [←hth];exact ZG g t
  obtain ⟨h0,he⟩:=ZK ht
  have hfa:zT g t=td.faces:=by rw [zT,ht]
  rw [hfa] at hin hfc ⊢
  have c2:=zcb td.faces 392 [] [.ptr (zu g) 0] (fun x hx=>by have:=ziw g x;rw [hin x hx] at this;exact this)
  repeat' (first|(refine shC ?_;first|refine qC c1 ?_|refine zq rfl (ZB rfl rfl (zdT _ (by omega))) rfl rfl ?_|refine AD.step _ _ _ _ _ rfl (ZB rfl rfl (zdT _ (by omega))) rfl rfl ?_|refine qC c2 ?_)|(refine shX ?_;first|refine zq rfl (zn zh rfl rfl rfl rfl rfl rfl h0 he) rfl rfl ?_|refine AD.step _ _ _ _ _ rfl (zn zh rfl rfl rfl rfl rfl rfl h0 he) rfl rfl ?_)|refine sK ?_|refine sC (fun _=>?_) (fun _=>?_)|fail)
  exact retq rfl rfl
theorem ziN (g:Img) (t:Int) (hfc:(zT g t).length≤1000) (hin:∀ f∈zT g t,there g f=true):ACall Tryz.prog 347 [pi t,.ptr (zu g) 0] (ints (zT g t)):=by
 refine zf zh Tryz.func347 rfl (by kernel_rfl) Tryz.ntmps347 (by simp) _ rfl (fun hw gB hgB=>?_)
 repeat' (first|(refine shC ?_;first|refine qC (QM g t hfc hin) ?_)|refine sA ?_|refine sC (fun _=>?_) (fun _=>?_)|fail)
 exact retq rfl rfl
end Go.Cg
