/- A part of the walks by abstract values: no statement of its own. -/
import Derived.Test.YtmgdpkcmbnlklaaGreatA13
import Derived.Test.YtmgdpkcmbnlklaaGreatA14
set_option linter.unusedVariables false
set_option linter.unusedSimpArgs false
namespace Go.Cg
open Go.Proofs
theorem zjI:∀ n:Fin 32,zcr (n.val:Int)=zco (n.val:Int):=by decide +kernel
theorem zd9 {f:Int} (h0:0≤f) (h1:f≤31):zcr f=zco f:=by
 have:=zjI ⟨f.toNat,by omega⟩
 simpa [Int.toNat_of_nonneg h0] using this
theorem Zg {g:Img} (h:ZL g=true):zW g=true:=by
 cases hf:zW g with
 | true=>rfl
 | false=>simp [ZL,Qg,hf] at h
theorem zhY {g:Img} (h:zW g=true) (t:Int):zaR g t=zY g t:=by
 unfold zaR zY
 cases ht:typeAt g t with
 | none=>rfl
 | some td =>
  have hm:td∈g.types:=by
   unfold typeAt at ht
   split at ht
   ·exact List.mem_of_getElem? ht
   ·cases ht
  obtain ⟨h1,h2,_⟩:=Xv ((zS h).2.2.2 td hm)
  exact zd9 h1 h2
set_option maxHeartbeats 20000000
theorem za5 (g:Img) (t:Int) (hg:g.types.length≤1000):ACall Tryz.prog 58 [zO g,pi t] (ints (up g t)):=by
 refine zf zk Tryz.func58 rfl (by kernel_rfl) Tryz.ntmps58 (by simp) _ rfl (fun hw gB hgB=>?_)
 repeat' (first|refine sA ?_|refine sC (fun _=>?_) (fun _=>?_)|fail)
 refine Ye (t:=5) 0 3 1 (by decide) rfl rfl ?_
 refine zI (fun x:Int × List Int=>[(1,.pv (pi x.1)),(2,.pv (.ptr (zO g) 0)),(5,.own 0)]) (fun x=>[(0,.row 3 1 (x.2.map pi))]) (UpInv g t) (fun x=>g.types.length + 1 - x.2.length) (t,[]) ⟨rfl,by simp,by simp⟩ (tS) ⟨zh rfl zi,rfl⟩ ?_
 rintro ⟨t',out⟩ hi
 have hlen:=hi.len
 simp only at hlen
 cases ht:typeAt g t' with
 | none =>
  have hth:there g t'=false:=by
   cases hh:there g t' with
   | false=>rfl
   | true=>obtain ⟨td,h⟩:=(Yg g t').1 hh;rw [ht] at h;cases h
  have c1:ACall Tryz.prog 49 [zO g,pi t'] (pb false):=by rw [←hth];exact Zh g t'
  repeat' (first|(refine shC ?_;first|refine qC c1 ?_)|refine sK ?_|refine sC (fun _=>?_) (fun _=>?_)|fail)
  exact retq rfl (by rw [←hi.stop (.inl ht)];rfl)
 | some td =>
  have hth:there g t'=true:=(Yg g t').2 ⟨td,ht⟩
  have c1:ACall Tryz.prog 49 [zO g,pi t'] (pb true):=by rw [←hth];exact Zh g t'
  obtain ⟨h0,he⟩:=Zk ht
  by_cases hm:t'∈out
  ·have c2:ACall Tryz.prog 69 [ints out,pi t'] (pb true):=by have:=ZO out t';rwa [decide_eq_true hm] at this
   repeat' (first|(refine shC ?_;first|refine qC c1 ?_|refine qC c2 ?_)|refine sK ?_|refine sC (fun _=>?_) (fun _=>?_)|fail)
   exact retq rfl (by rw [←hi.stop (.inr hm)];rfl)
  ·have c2:ACall Tryz.prog 69 [ints out,pi t'] (pb false):=by have:=ZO out t';rwa [decide_eq_false hm] at this
   have hnx:=hi.next ht hm
   repeat' (first|(refine shC ?_;first|refine qC c1 ?_|refine qC c2 ?_)|(refine shX ?_;first|refine zy rfl (zL zk rfl rfl rfl rfl rfl rfl h0 he) rfl rfl ?_|refine AD.step _ _ _ _ _ rfl (zL zk rfl rfl rfl rfl rfl rfl h0 he) rfl rfl ?_)|(refine yC ?_;first|refine qw zk rfl rfl rfl rfl rfl rfl rfl (by show _ * 8≤_;simp;omega) (by simp;omega) rfl rfl ?_)|refine sK ?_|refine sC (fun _=>?_) (fun _=>?_)|fail)
   refine ⟨(td.ext,out++[t']),hnx,by simp;omega,tS,⟨Zv rfl (by simp) zi,rfl⟩⟩
theorem zcA (l:List Int) (hb:l.length≤100000):ACall Tryz.prog 95 [ints l] (ints l):=by
 refine zf zk Tryz.func95 rfl (by kernel_rfl) Tryz.ntmps95 (by simp) _ rfl (fun hw gB hgB=>?_)
 repeat' (first|refine zg1 zk rfl rfl rfl rfl rfl rfl rfl (fun bb hbb=>?_)|refine zy rfl (zg7 zk rfl rfl rfl rfl rfl) rfl rfl ?_|(refine yC ?_;first|refine zy rfl (zbt zk rfl rfl (.inl rfl) rfl rfl (by show _ * 8≤_;simp;omega) (by simp;omega)) rfl rfl ?_)|refine sA ?_|refine sC (fun _=>?_) (fun _=>?_)|fail)
 ·rename_i h
  have:l=[]:=by have:=hbb h;simpa using this
  subst this
  exact Wq (t:=2) (ps:=[ints []]) rfl (XL 1 false) rfl rfl
 ·exact retq rfl rfl
def zh5 (l:List Int) (p:Int→Bool):Int:=if l.any p then ((l.findIdx p:Nat):Int) else -1
theorem VH (l:List Int) (p:Int→Bool) (f:FuncId) (first cap:List PV) (hp:∀ x∈l,ACall Tryz.prog f (first++[pi x]++cap) (pb (p x))):ACall Tryz.prog 101 [ints l,.fn (.func f) first cap] (pi (zh5 l p)):=by
 refine zf zk Tryz.func101 rfl (by kernel_rfl) Tryz.ntmps101 (by simp) _ rfl (fun hw gB hgB=>?_)
 have hl:=zew hw.1
 repeat' (first|refine sA ?_|refine sC (fun _=>?_) (fun _=>?_)|fail)
 refine zI (fun k:Nat=>[(0,.pv (ints l)),(1,.pv (.fn (.func f) first cap)),(7,.pv (pi l.length)),(8,.pv (pi k))]) (fun _=>[]) (fun k=>k≤l.length∧∀ j (h:j < k) (h2:j < l.length),p l[j]=false) (fun k=>l.length - k) 0 ⟨by omega,fun j h=>by omega⟩ (tS) tH ?_
 rintro k ⟨hk,hno⟩
 by_cases hlt:k < l.length
 ·have he:=ZR hlt
  have c1:=hp _ (List.getElem_mem hlt)
  cases hpx:p l[k]
  ·rw [hpx] at c1
   repeat' (first|(refine shC ?_;first|refine qV (c1) ?_)|(refine shX ?_;first|refine qX he ?_)|refine sK ?_|refine sC (fun _=>?_) (fun _=>?_)|fail)
   exact ⟨k + 1,⟨hlt,fun j hj h2=>by
    by_cases e:j=k
    ·subst e;exact hpx
    ·exact hno j (by omega) h2⟩,tD,tS,tH⟩
  ·rw [hpx] at c1
   have hi:l.findIdx p=k:=by
    rw [List.findIdx_eq hlt]
    exact ⟨hpx,fun j hj=>hno j hj (by omega)⟩
   have ha:l.any p=true:=List.any_eq_true.2 ⟨_,List.getElem_mem hlt,hpx⟩
   repeat' (first|(refine shC ?_;first|refine qV (c1) ?_)|(refine shX ?_;first|refine qX he ?_)|refine sK ?_|refine sC (fun _=>?_) (fun _=>?_)|fail)
   exact retq rfl (by simp [zl,zh5,ha,hi])
 ·have ha:l.any p=false:=by
   rw [List.any_eq_false]
   intro x hx
   obtain ⟨j,hj,rfl⟩:=List.getElem_of_mem hx
   simp [hno j (by omega) hj]
  repeat' (first|refine sK ?_|refine sC (fun _=>?_) (fun _=>?_)|fail)
  exact retq rfl (by simp [zl,zh5,ha])
theorem za3 (l:List Int) (f:FuncId) (first cap:List PV) (hp:∀ x∈l,ACall Tryz.prog f (first++[pi x]++cap) (pb false)):ACall Tryz.prog 94 [ints l,.fn (.func f) first cap] (ints l):=by
 refine zf zk Tryz.func94 rfl (by kernel_rfl) Tryz.ntmps94 (by simp) _ rfl (fun hw gB hgB=>?_)
 have c1:=VH l (fun _=>false) f first cap hp
 rw [show zh5 l (fun _=>false) = -1 by simp [zh5]] at c1
 repeat' (first|(refine shC ?_;first|refine qC c1 ?_)|refine sA ?_|refine sC (fun _=>?_) (fun _=>?_)|fail)
 exact retq rfl rfl
theorem zgJ (g:Img) (x:Int):ACall Tryz.prog 96 [pi x,.ptr (zO g) 0] (pb (!there g x)):=by
 refine zf zk Tryz.func96 rfl (by kernel_rfl) Tryz.ntmps96 (by simp) _ rfl (fun hw gB hgB=>?_)
 repeat' (first|(refine shC ?_;first|refine qC (Zh g x) ?_)|refine sA ?_|refine sC (fun _=>?_) (fun _=>?_)|fail)
 all_goals first|(refine retq rfl ?_;first|(simp only [zl,BL,List.length_map] at *;simp only [*,BL,List.length_map];done)|(simp_all [zl];done)|(simp_all [zl];omega)|(simp_all [zl];intros;omega))|(refine retn rfl ?_;first|(simp only [zl,BL,List.length_map] at *;simp only [*,BL,List.length_map];done)|(simp_all [zl];done)|(simp_all [zl];omega)|(simp_all [zl];intros;omega))|skip
theorem zcw (g:Img) (t:Int) (hfc:(zX g t).length≤1000) (hin:∀ f∈zX g t,there g f=true):ACall Tryz.prog 77 [zO g,pi t] (ints (zX g t)):=by
 refine zf zk Tryz.func77 rfl (by kernel_rfl) Tryz.ntmps77 (by simp) _ rfl (fun hw gB hgB=>?_)
 cases ht:typeAt g t with
 | none =>
  have hth:there g t=false:=by
   cases hh:there g t with
   | false=>rfl
   | true=>obtain ⟨td,h⟩:=(Yg g t).1 hh;rw [ht] at h;cases h
  have c1:ACall Tryz.prog 49 [zO g,pi t] (pb false):=by rw [←hth];exact Zh g t
  repeat' (first|(refine shC ?_;first|refine qC c1 ?_)|refine sK ?_|refine sC (fun _=>?_) (fun _=>?_)|fail)
  rw [zX,ht]
  exact Wq (t:=4) (ps:=[ints []]) rfl (XL 1 false) rfl rfl
 | some td =>
  have hth:there g t=true:=(Yg g t).2 ⟨td,ht⟩
  have c1:ACall Tryz.prog 49 [zO g,pi t] (pb true):=by rw [←hth];exact Zh g t
  obtain ⟨h0,he⟩:=Zk ht
  have hfa:zX g t=td.faces:=by rw [zX,ht]
  rw [hfa] at hin hfc ⊢
  have c2:=za3 td.faces 96 [] [.ptr (zO g) 0] (fun x hx=>by have:=zgJ g x;rw [hin x hx] at this;exact this)
  repeat' (first|(refine shC ?_;first|refine qC c1 ?_|refine zy rfl (Qd rfl rfl (zcA _ (by omega))) rfl rfl ?_|refine AD.step _ _ _ _ _ rfl (Qd rfl rfl (zcA _ (by omega))) rfl rfl ?_|refine qC c2 ?_)|(refine shX ?_;first|refine zy rfl (zL zk rfl rfl rfl rfl rfl rfl h0 he) rfl rfl ?_|refine AD.step _ _ _ _ _ rfl (zL zk rfl rfl rfl rfl rfl rfl h0 he) rfl rfl ?_)|refine sK ?_|refine sC (fun _=>?_) (fun _=>?_)|fail)
  exact retq rfl rfl
end Go.Cg
