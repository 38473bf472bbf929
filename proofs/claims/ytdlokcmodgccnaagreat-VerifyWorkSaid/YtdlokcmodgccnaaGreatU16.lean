/- A part of the walks by abstract values: no statement of its own. -/
import Derived.Test.YtdlokcmodgccnaaGreatU14
import Derived.Test.YtdlokcmodgccnaaGreatU12
set_option linter.unusedVariables false
set_option linter.unusedSimpArgs false
namespace Go.Cg
open Go.Proofs
set_option maxHeartbeats 20000000
def WW (k:Int) (st:Bool) (o:Int):Ty × Bool:=if k < 0||st then (ty0,false) else if k==1 then (⟨6,o,0,true⟩,true) else (⟨5,o,0,false⟩,true)
theorem ziF (g:Img) (m:Me):ACall Tryz.prog 138 [zT g,yB m] (.tup [yM (WW (ZY g m.owner) (qJ m.flags 1) m.owner).1,pb (WW (ZY g m.owner) (qJ m.flags 1) m.owner).2]):=by
 refine zi zf Tryz.func138 rfl (by kernel_rfl) Tryz.ntmps138 (by simp) _ rfl (fun hw gB hgB=>?_)
 repeat' (first|(refine shC ?_;first|refine qC (YR _ _) ?_)|refine sA ?_|refine sC (fun _=>?_) (fun _=>?_)|fail)
 ·rename_i h1
  have hs:WW (ZY g m.owner) (qJ m.flags 1) m.owner=(ty0,false):=by simp_all [WW]
  rw [hs];exact retq rfl rfl
 ·rename_i h1 h2
  have h3:(qJ m.flags 1)=true:=h2
  have hs:WW (ZY g m.owner) (qJ m.flags 1) m.owner=(ty0,false):=by simp [WW,h3]
  rw [hs];exact retq rfl rfl
 ·rename_i h1 h2 h4
  have h3:(qJ m.flags 1)=false:=h2
  have hs:WW (ZY g m.owner) (qJ m.flags 1) m.owner=(⟨6,m.owner,0,true⟩,true):=by rw [WW,h3];simp_all
  rw [hs];exact retq rfl rfl
 ·rename_i h1 h2 h4
  have h3:(qJ m.flags 1)=false:=h2
  have hs:WW (ZY g m.owner) (qJ m.flags 1) m.owner=(⟨5,m.owner,0,false⟩,true):=by rw [WW,h3];simp_all
  rw [hs];exact retq rfl rfl
def zsJ (x:Ty × Bool) (l:List Ty):List Ty:=(if x.2 then [x.1] else [])++l
theorem zaT (g:Img) (m:Me) (hp:m.params.length≤1000):ACall Tryz.prog 100 [zT g,yB m] (tys (zsJ (WW (ZY g m.owner) (qJ m.flags 1) m.owner) m.params)):=by
 refine zi zf Tryz.func100 rfl (by kernel_rfl) Tryz.ntmps100 (by simp) _ rfl (fun hw gB hgB=>?_)
 have c1:=ziF g m
 generalize WW (ZY g m.owner) (qJ m.flags 1) m.owner=x at c1 ⊢
 obtain ⟨t,b⟩:=x
 cases b
 ·repeat' (first|refine Yr (t:=5) 0 42 4 (by decide) rfl rfl ?_|(refine shC ?_;first|refine qC c1 ?_)|(refine yK ?_;first|refine qG zf rfl rfl rfl rfl rfl rfl rfl (by show _ * 32≤_;simp;omega) (by simp;omega) rfl rfl ?_)|refine sA ?_|refine sC (fun _=>?_) (fun _=>?_)|fail)
  exact retq rfl rfl
 ·repeat' (first|refine Yr (t:=5) 0 42 4 (by decide) rfl rfl ?_|(refine shC ?_;first|refine qC c1 ?_)|(refine yK ?_;first|refine qG zf rfl rfl rfl rfl rfl rfl rfl (by show _ * 32≤_;simp;try omega) (by simp;try omega) rfl rfl ?_)|refine sA ?_|refine sC (fun _=>?_) (fun _=>?_)|fail)
  exact retq rfl rfl
theorem zoC:∀ n:Fin 32,zfz (n.val:Int)=WU (n.val:Int):=by decide +kernel
theorem zhe {f:Int} (h0:0≤f) (h1:f≤31):zfz f=WU f:=by
 have:=zoC ⟨f.toNat,by omega⟩
 simpa [Int.toNat_of_nonneg h0] using this
theorem YL {g:Img} (h:YZ g=true):yJ g=true:=by
 cases hf:yJ g with
 | true=>rfl
 | false=>simp [YZ,WH,hf] at h
theorem zhM {g:Img} (h:yJ g=true) (t:Int):ZY g t=yt g t:=by
 unfold ZY yt
 cases ht:typeAt g t with
 | none=>rfl
 | some td =>
  have hm:td∈g.types:=by
   unfold typeAt at ht
   split at ht
   ·exact List.mem_of_getElem? ht
   ·cases ht
  obtain ⟨h1,h2,_⟩:=QJ ((yH h).2.2.2 td hm)
  exact zhe h1 h2
set_option maxHeartbeats 20000000
theorem Yp (g:Img) (t:Int) (hg:g.types.length≤1000):ACall Tryz.prog 129 [zT g,pi t] (ints (up g t)):=by
 refine zi zf Tryz.func129 rfl (by kernel_rfl) Tryz.ntmps129 (by simp) _ rfl (fun hw gB hgB=>?_)
 repeat' (first|refine sA ?_|refine sC (fun _=>?_) (fun _=>?_)|fail)
 refine Yr (t:=5) 0 3 1 (by decide) rfl rfl ?_
 refine zW (fun x:Int × List Int=>[(1,.pv (pi x.1)),(2,.pv (.ptr (zT g) 0)),(5,.own 0)]) (fun x=>[(0,.row 3 1 (x.2.map pi))]) (UpInv g t) (fun x=>g.types.length + 1 - x.2.length) (t,[]) ⟨rfl,by simp,by simp⟩ (tS) ⟨zD rfl zG,rfl⟩ ?_
 rintro ⟨t',out⟩ hi
 have hlen:=hi.len
 simp only at hlen
 cases ht:typeAt g t' with
 | none =>
  have hth:there g t'=false:=by
   cases hh:there g t' with
   | false=>rfl
   | true=>obtain ⟨td,h⟩:=(Xe g t').1 hh;rw [ht] at h;cases h
  have c1:ACall Tryz.prog 88 [zT g,pi t'] (pb false):=by rw [←hth];exact YS g t'
  repeat' (first|(refine shC ?_;first|refine qC c1 ?_)|refine sK ?_|refine sC (fun _=>?_) (fun _=>?_)|fail)
  exact retq rfl (by rw [←hi.stop (.inl ht)];rfl)
 | some td =>
  have hth:there g t'=true:=(Xe g t').2 ⟨td,ht⟩
  have c1:ACall Tryz.prog 88 [zT g,pi t'] (pb true):=by rw [←hth];exact YS g t'
  obtain ⟨h0,he⟩:=YT ht
  by_cases hm:t'∈out
  ·have c2:ACall Tryz.prog 175 [ints out,pi t'] (pb true):=by have:=Yw out t';rwa [decide_eq_true hm] at this
   repeat' (first|(refine shC ?_;first|refine qC c1 ?_|refine qC c2 ?_)|refine sK ?_|refine sC (fun _=>?_) (fun _=>?_)|fail)
   exact retq rfl (by rw [←hi.stop (.inr hm)];rfl)
  ·have c2:ACall Tryz.prog 175 [ints out,pi t'] (pb false):=by have:=Yw out t';rwa [decide_eq_false hm] at this
   have hnx:=hi.next ht hm
   repeat' (first|(refine shC ?_;first|refine qC c1 ?_|refine qC c2 ?_)|(refine shX ?_;first|refine zx rfl (zq zf rfl rfl rfl rfl rfl rfl h0 he) rfl rfl ?_|refine AD.step _ _ _ _ _ rfl (zq zf rfl rfl rfl rfl rfl rfl h0 he) rfl rfl ?_)|(refine yK ?_;first|refine qG zf rfl rfl rfl rfl rfl rfl rfl (by show _ * 8≤_;simp;omega) (by simp;omega) rfl rfl ?_)|refine sK ?_|refine sC (fun _=>?_) (fun _=>?_)|fail)
   refine ⟨(td.ext,out++[t']),hnx,by simp;omega,tS,⟨ZW rfl (by simp) zG,rfl⟩⟩
theorem ze7 (l:List Int) (hb:l.length≤100000):ACall Tryz.prog 72 [ints l] (ints l):=by
 refine zi zf Tryz.func72 rfl (by kernel_rfl) Tryz.ntmps72 (by simp) _ rfl (fun hw gB hgB=>?_)
 repeat' (first|refine Xo zf rfl rfl rfl rfl rfl rfl rfl (fun bb hbb=>?_)|refine zx rfl (XA zf rfl rfl rfl rfl rfl) rfl rfl ?_|(refine yK ?_;first|refine zx rfl (Xu zf rfl rfl (.inl rfl) rfl rfl (by show _ * 8≤_;simp;omega) (by simp;omega)) rfl rfl ?_)|refine sA ?_|refine sC (fun _=>?_) (fun _=>?_)|fail)
 ·rename_i h
  have:l=[]:=by have:=hbb h;simpa using this
  subst this
  exact zaz (t:=2) (ps:=[ints []]) rfl (Qb 1 false) rfl rfl
 ·exact retq rfl rfl
def zcF (l:List Int) (p:Int→Bool):Int:=if l.any p then ((l.findIdx p:Nat):Int) else -1
theorem VF (l:List Int) (p:Int→Bool) (f:FuncId) (first cap:List PV) (hp:∀ x∈l,ACall Tryz.prog f (first++[pi x]++cap) (pb (p x))):ACall Tryz.prog 127 [ints l,.fn (.func f) first cap] (pi (zcF l p)):=by
 refine zi zf Tryz.func127 rfl (by kernel_rfl) Tryz.ntmps127 (by simp) _ rfl (fun hw gB hgB=>?_)
 have hl:=zdC hw.1
 repeat' (first|refine sA ?_|refine sC (fun _=>?_) (fun _=>?_)|fail)
 refine zW (fun k:Nat=>[(0,.pv (ints l)),(1,.pv (.fn (.func f) first cap)),(7,.pv (pi l.length)),(8,.pv (pi k))]) (fun _=>[]) (fun k=>k≤l.length∧∀ j (h:j < k) (h2:j < l.length),p l[j]=false) (fun k=>l.length - k) 0 ⟨by omega,fun j h=>by omega⟩ (tS) tH ?_
 rintro k ⟨hk,hno⟩
 by_cases hlt:k < l.length
 ·have he:=YD hlt
  have c1:=hp _ (List.getElem_mem hlt)
  cases hpx:p l[k]
  ·rw [hpx] at c1
   repeat' (first|(refine shC ?_;first|refine qV (c1) ?_)|(refine shX ?_;first|refine qX he ?_)|refine sK ?_|refine sC (fun _=>?_) (fun _=>?_)|fail)
   exact ⟨k + 1,⟨hlt,fun j hj h2=>by
    by_cases e:j=k
    ·subst e;exact hpx
    ·exact hno j (by omega) h2⟩,tD,tS,tH⟩
  ·rw [hpx] at c1
   have hi:l.findIdx p=k:=by
    rw [List.findIdx_eq hlt]
    exact ⟨hpx,fun j hj=>hno j hj (by omega)⟩
   have ha:l.any p=true:=List.any_eq_true.2 ⟨_,List.getElem_mem hlt,hpx⟩
   repeat' (first|(refine shC ?_;first|refine qV (c1) ?_)|(refine shX ?_;first|refine qX he ?_)|refine sK ?_|refine sC (fun _=>?_) (fun _=>?_)|fail)
   exact retq rfl (by simp [zy,zcF,ha,hi])
 ·have ha:l.any p=false:=by
   rw [List.any_eq_false]
   intro x hx
   obtain ⟨j,hj,rfl⟩:=List.getElem_of_mem hx
   simp [hno j (by omega) hj]
  repeat' (first|refine sK ?_|refine sC (fun _=>?_) (fun _=>?_)|fail)
  exact retq rfl (by simp [zy,zcF,ha])
theorem zdZ (l:List Int) (f:FuncId) (first cap:List PV) (hp:∀ x∈l,ACall Tryz.prog f (first++[pi x]++cap) (pb false)):ACall Tryz.prog 178 [ints l,.fn (.func f) first cap] (ints l):=by
 refine zi zf Tryz.func178 rfl (by kernel_rfl) Tryz.ntmps178 (by simp) _ rfl (fun hw gB hgB=>?_)
 have c1:=VF l (fun _=>false) f first cap hp
 rw [show zcF l (fun _=>false) = -1 by simp [zcF]] at c1
 repeat' (first|(refine shC ?_;first|refine qC c1 ?_)|refine sA ?_|refine sC (fun _=>?_) (fun _=>?_)|fail)
 exact retq rfl rfl
theorem zlg (g:Img) (x:Int):ACall Tryz.prog 179 [pi x,.ptr (zT g) 0] (pb (!there g x)):=by
 refine zi zf Tryz.func179 rfl (by kernel_rfl) Tryz.ntmps179 (by simp) _ rfl (fun hw gB hgB=>?_)
 repeat' (first|(refine shC ?_;first|refine qC (YS g x) ?_)|refine sA ?_|refine sC (fun _=>?_) (fun _=>?_)|fail)
 all_goals first|(refine retq rfl ?_;first|(simp only [zy,BL,List.length_map] at *;simp only [*,BL,List.length_map];done)|(simp_all [zy];done)|(simp_all [zy];omega)|(simp_all [zy];intros;omega))|(refine VX rfl ?_;first|(simp only [zy,BL,List.length_map] at *;simp only [*,BL,List.length_map];done)|(simp_all [zy];done)|(simp_all [zy];omega)|(simp_all [zy];intros;omega))|skip
theorem WA (g:Img) (t:Int) (hfc:(yT g t).length≤1000) (hin:∀ f∈yT g t,there g f=true):ACall Tryz.prog 131 [zT g,pi t] (ints (yT g t)):=by
 refine zi zf Tryz.func131 rfl (by kernel_rfl) Tryz.ntmps131 (by simp) _ rfl (fun hw gB hgB=>?_)
 cases ht:typeAt g t with
 | none =>
  have hth:there g t=false:=by
   cases hh:there g t with
   | false=>rfl
   | true=>obtain ⟨td,h⟩:=(Xe g t).1 hh;rw [ht] at h;cases h
  have c1:ACall Tryz.prog 88 [zT g,pi t] (pb false):=by rw [←hth];exact YS g t
  repeat' (first|(refine shC ?_;first|refine qC c1 ?_)|refine sK ?_|refine sC (fun _=>?_) (fun _=>?_)|fail)
  rw [yT,ht]
  exact zaz (t:=4) (ps:=[ints []]) rfl (Qb 1 false) rfl rfl
 | some td =>
  have hth:there g t=true:=(Xe g t).2 ⟨td,ht⟩
  have c1:ACall Tryz.prog 88 [zT g,pi t] (pb true):=by rw [←hth];exact YS g t
  obtain ⟨h0,he⟩:=YT ht
  have hfa:yT g t=td.faces:=by rw [yT,ht]
  rw [hfa] at hin hfc ⊢
  have c2:=zdZ td.faces 179 [] [.ptr (zT g) 0] (fun x hx=>by have:=zlg g x;rw [hin x hx] at this;exact this)
  repeat' (first|(refine shC ?_;first|refine qC c1 ?_|refine zx rfl (zI rfl rfl (ze7 _ (by omega))) rfl rfl ?_|refine AD.step _ _ _ _ _ rfl (zI rfl rfl (ze7 _ (by omega))) rfl rfl ?_|refine qC c2 ?_)|(refine shX ?_;first|refine zx rfl (zq zf rfl rfl rfl rfl rfl rfl h0 he) rfl rfl ?_|refine AD.step _ _ _ _ _ rfl (zq zf rfl rfl rfl rfl rfl rfl h0 he) rfl rfl ?_)|refine sK ?_|refine sC (fun _=>?_) (fun _=>?_)|fail)
  exact retq rfl rfl
theorem zkt (g:Img) (t:Int) (hfc:(yT g t).length≤1000) (hin:∀ f∈yT g t,there g f=true):ACall Tryz.prog 133 [pi t,.ptr (zT g) 0] (ints (yT g t)):=by
 refine zi zf Tryz.func133 rfl (by kernel_rfl) Tryz.ntmps133 (by simp) _ rfl (fun hw gB hgB=>?_)
 repeat' (first|(refine shC ?_;first|refine qC (WA g t hfc hin) ?_)|refine sA ?_|refine sC (fun _=>?_) (fun _=>?_)|fail)
 exact retq rfl rfl
end Go.Cg
