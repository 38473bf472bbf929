/- A part of the walks by abstract values: no statement of its own. -/
import Derived.Test.YtdlokcmodgccnaaGreatF32
import Derived.Test.YtdlokcmodgccnaaGreatF17
import Derived.Test.YtdlokcmodgccnaaGreatF8
set_option linter.unusedVariables false
set_option linter.unusedSimpArgs false
namespace Go.Cg
open Go.Proofs
set_option maxHeartbeats 20000000
def zae (g:Img) (t m:Int):Int:=if ZV g m < 0 then m else (tbl g t).getD (ZV g m).toNat 0
def does (g:Img) (m k:Int):Bool:=Vd g k&&alk g k m
def zi3 (g:Img) (t m:Int):Option Int:=((up g t).flatMap (methodsOf g)).find? (does g m)
def XG (g:Img) (t m:Int):Int:=match zi3 g t m with|some k=>zae g t k|none => -1
def QB (g:Img) (t m:Int):Int:=if zB g (Qw g m)==2&&Vd g m then XG g t m else zae g t m
theorem zmq {g:Img} (hW:Wl g):∀ (l:List Int) (t b:Int),up g t=l→b∈l→(tbl g b).length≤(tbl g t).length
 | [],t,b,h,hb=>by cases hb
 | x::l,t,b,h,hb=>by
  cases ht:typeAt g t with
  | none=>rw [up_nil ht] at h;cases h
  | some td =>
   rw [hW.up_cons ht] at h
   simp only [List.cons.injEq] at h
   obtain ⟨rfl,h⟩:=h
   rcases List.mem_cons.1 hb with rfl|hb
   ·exact Nat.le_refl _
   ·have h1:=zmq hW l td.ext b h hb
    have h2:=(WG g (methodsOf g t) (tbl g td.ext)).1
    rw [zkU hW ht];omega
theorem idx_range {l:List Int} {v:Int}:idx l v = -1∨(0≤idx l v∧(idx l v).toNat < l.length):=by
 rw [idx]
 split
 ·rename_i h
  right
  have:=List.findIdx_lt_length_of_exists (p:=(· == v)) ⟨v,h,by simp⟩
  omega
 ·exact .inl rfl
theorem zkL {g:Img} (hW:Wl g) {t m:Int} (hb:zB g (Qw g m)=0→Qw g m∈up g t) (h:¬ ZV g m < 0):(ZV g m).toNat < (tbl g t).length:=by
 rw [ZV] at h ⊢
 split at h
 ·rename_i hh
  rw [if_pos hh]
  simp only [Bool.and_eq_true,beq_iff_eq] at hh
  have h1:=zmq hW _ t _ rfl (hb hh.2)
  rcases idx_range (l:=tbl g (Qw g m)) (v:=m) with h2|h2
  ·omega
  ·omega
 ·omega
theorem Wj {g:Img} {u k:Int} (h:k∈methodsOf g u):Qw g k=u:=by
 simp only [methodsOf,List.mem_filter,Bool.and_eq_true,beq_iff_eq] at h
 exact h.2.2
theorem znX (g:Img) (hF:Fine g) (t m:Int) (hm:mOk g m) (hn:(zB g (Qw g m)==2&&Vd g m)=false) (hb:zB g (Qw g m)=0→Qw g m∈up g t):ACall Tryz.prog 135 [zq g,pi t,pi m] (pi (zae g t m)):=by
 have hW:=zao hF.well
 have hem:=ZR hm
 have c1:=Zr g hF.formed (mAt g m).owner
 have c2:=zuk hF hm
 have c3:=znl g hF m hm
 have c4:=zhF g hF t
 have hsi:=zkL hW hb
 rw [Qw] at hn
 refine zf zh Tryz.func135 rfl (by kernel_rfl) Tryz.ntmps135 (by simp) _ rfl (fun hw gB hgB=>?_)
 by_cases hk:zB g (mAt g m).owner=2
 ·rw [hk] at c1 hn
  have hv:Vd g m=false:=by simpa using hn
  rw [hv] at c2
  by_cases hs:ZV g m < 0
  ·repeat' (first|(refine shC ?_;first|refine qC c1 ?_|refine qC c2 ?_|refine qC c3 ?_)|(refine shX ?_;first|refine zu rfl (zk zh rfl rfl rfl rfl rfl rfl hm.1 hem) rfl rfl ?_|refine AD.step _ _ _ _ _ rfl (zk zh rfl rfl rfl rfl rfl rfl hm.1 hem) rfl rfl ?_)|refine sK ?_|refine sC (fun _=>?_) (fun _=>?_)|fail)
   exact retq rfl (by simp [zi,zae,hs])
  ·have he:((tbl g t).map pi)[(ZV g m).toNat]?=some (pi ((tbl g t).getD (ZV g m).toNat 0)):=by rw [zx (hsi hs)];exact qE (hsi hs)
   have hd:decide (ZV g m < 0)=false:=decide_eq_false hs
   repeat' (first|(refine shC ?_;first|refine qC c1 ?_|refine qC c2 ?_|refine qC c3 ?_|refine qC c4 ?_)|(refine shX ?_;first|refine zu rfl (zk zh rfl rfl rfl rfl rfl rfl hm.1 hem) rfl rfl ?_|refine AD.step _ _ _ _ _ rfl (zk zh rfl rfl rfl rfl rfl rfl hm.1 hem) rfl rfl ?_|refine qX he ?_)|refine sK ?_|refine sC (fun _=>?_) (fun _=>?_)|fail)
   exact retq rfl (by rw [zae,if_neg hs];rfl)
 ·have hkb:(zB g (mAt g m).owner==2)=false:=by simp [hk]
  by_cases hs:ZV g m < 0
  ·repeat' (first|(refine shC ?_;first|refine qC c1 ?_|refine qC c2 ?_|refine qC c3 ?_)|(refine shX ?_;first|refine zu rfl (zk zh rfl rfl rfl rfl rfl rfl hm.1 hem) rfl rfl ?_|refine AD.step _ _ _ _ _ rfl (zk zh rfl rfl rfl rfl rfl rfl hm.1 hem) rfl rfl ?_)|refine sK ?_|refine sC (fun _=>?_) (fun _=>?_)|fail)
   exact retq rfl (by simp [zi,zae,hs])
  ·have he:((tbl g t).map pi)[(ZV g m).toNat]?=some (pi ((tbl g t).getD (ZV g m).toNat 0)):=by rw [zx (hsi hs)];exact qE (hsi hs)
   have hd:decide (ZV g m < 0)=false:=decide_eq_false hs
   repeat' (first|(refine shC ?_;first|refine qC c1 ?_|refine qC c2 ?_|refine qC c3 ?_|refine qC c4 ?_)|(refine shX ?_;first|refine zu rfl (zk zh rfl rfl rfl rfl rfl rfl hm.1 hem) rfl rfl ?_|refine AD.step _ _ _ _ _ rfl (zk zh rfl rfl rfl rfl rfl rfl hm.1 hem) rfl rfl ?_|refine qX he ?_)|refine sK ?_|refine sC (fun _=>?_) (fun _=>?_)|fail)
   exact retq rfl (by rw [zae,if_neg hs];rfl)
theorem zi1 {α:Type} {l:List α} {f:α→List Int} {i:Nat} (h:i < l.length):(l.drop i).flatMap f=f l[i]++(l.drop (i + 1)).flatMap f:=by
 rw [List.drop_eq_getElem_cons h,List.flatMap_cons]
theorem up0 {g:Img} (hW:Wl g) {t u k:Int} (hk:zB g t=0) (hu:u∈up g t) (h:k∈methodsOf g u):mOk g k∧(zB g (Qw g k)==2&&Vd g k)=false∧(zB g (Qw g k)=0→Qw g k∈up g t):=by
 have h1:=zmH hW _ t rfl hk _ hu
 refine ⟨yx h,?_,fun _=>by rw [Wj h];exact hu⟩
 rw [Wj h,h1];rfl
theorem zp9 (g:Img) (hF:Fine g) (t m:Int) (hm:mOk g m) (hk:zB g t=0):ACall Tryz.prog 94 [zq g,pi t,pi m] (pi (XG g t m)):=by
 have hW:=zao hF.well
 obtain ⟨hgt,_,hgm,_⟩:=zF hF.formed
 have hem:=ZR hm
 have hui:=XR g t
 have hul:=qR _ _ hui.1 hui.2
 refine zf zh Tryz.func94 rfl (by kernel_rfl) Tryz.ntmps94 (by simp) _ rfl (fun hw gB hgB=>?_)
 repeat' (first|(refine shC ?_;first|refine zu rfl (qw rfl rfl (YM g t (by omega))) rfl rfl ?_|refine AD.step _ _ _ _ _ rfl (qw rfl rfl (YM g t (by omega))) rfl rfl ?_)|refine sA ?_|refine sC (fun _=>?_) (fun _=>?_)|fail)
 refine zo (fun i:Nat=>[(1,.pv (pi t)),(2,.pv (pi m)),(3,.pv (.ptr (zq g) 0)),(13,.pv (ints (up g t))),(14,.pv (pi (up g t).length)),(15,.pv (pi i))]) (fun _=>[]) (fun i=>i≤(up g t).length∧zi3 g t m=(((up g t).drop i).flatMap (methodsOf g)).find? (does g m)) (fun i=>(up g t).length - i) 0 ⟨by omega,rfl⟩ (tS) tH ?_
 rintro i ⟨hi,hr⟩
 by_cases hlt:i < (up g t).length
 ·obtain ⟨u,hu⟩:∃ u,u=(up g t)[i]:=⟨_,rfl⟩
  have hum:u∈up g t:=by rw [hu];exact List.getElem_mem hlt
  have heu:((up g t).map pi)[i]?=some (pi u):=by rw [hu];exact zA (f:=pi) hlt
  have c1:=YR g u (by omega)
  have hml:=qP g u
  rw [zi1 hlt,←hu] at hr
  repeat' (first|(refine shC ?_;first|refine qC c1 ?_)|(refine shX ?_;first|refine qX heu ?_)|refine sK ?_|refine sC (fun _=>?_) (fun _=>?_)|fail)
  refine zo (fun j:Nat=>[(1,.pv (pi t)),(2,.pv (pi m)),(3,.pv (.ptr (zq g) 0)),(13,.pv (ints (up g t))),(14,.pv (pi (up g t).length)),(15,.pv (pi i)),(21,.pv (ints (methodsOf g u))),(22,.pv (pi (methodsOf g u).length)),(23,.pv (pi j))]) (fun _=>[])
   (fun j=>j≤(methodsOf g u).length∧zi3 g t m=((methodsOf g u).drop j++((up g t).drop (i + 1)).flatMap (methodsOf g)).find? (does g m)) (fun j=>(methodsOf g u).length - j) 0 ⟨by omega,hr⟩ (tS) tH ?_
  clear hr
  rintro j ⟨hj,hr⟩
  by_cases hjl:j < (methodsOf g u).length
  ·obtain ⟨k,hk2⟩:∃ k,k=(methodsOf g u)[j]:=⟨_,rfl⟩
   have hkm:k∈methodsOf g u:=by rw [hk2];exact List.getElem_mem hjl
   have hek:((methodsOf g u).map pi)[j]?=some (pi k):=by rw [hk2];exact zA (f:=pi) hjl
   obtain ⟨q1,q2,q3⟩:=up0 hW hk hum hkm
   have hekm:=ZR q1
   have c2:=zuk hF q1
   have c3:=zgj (mAt g k) (mAt g m)
   rw [zoO hF.formed q1 hm] at c3
   rw [List.drop_eq_getElem_cons hjl,←hk2,List.cons_append,List.find?_cons] at hr
   cases hv:Vd g k
   ·rw [hv] at c2
    rw [show does g m k=false by rw [does,hv];rfl] at hr
    repeat' (first|(refine shC ?_;first|refine qC c2 ?_)|(refine shX ?_;first|refine qX hek ?_|refine zu rfl (zk zh rfl rfl rfl rfl rfl rfl q1.1 hekm) rfl rfl ?_|refine AD.step _ _ _ _ _ rfl (zk zh rfl rfl rfl rfl rfl rfl q1.1 hekm) rfl rfl ?_)|refine sK ?_|refine sC (fun _=>?_) (fun _=>?_)|fail)
    exact ⟨j + 1,⟨hjl,hr⟩,tD,tS,tH⟩
   ·rw [hv] at c2
    cases ha:alk g k m
    ·rw [ha] at c3
     rw [show does g m k=false by rw [does,hv,ha];rfl] at hr
     repeat' (first|(refine shC ?_;first|refine qC c2 ?_|refine qC c3 ?_)|(refine shX ?_;first|refine qX hek ?_|refine zu rfl (zk zh rfl rfl rfl rfl rfl rfl q1.1 hekm) rfl rfl ?_|refine AD.step _ _ _ _ _ rfl (zk zh rfl rfl rfl rfl rfl rfl q1.1 hekm) rfl rfl ?_|refine zu rfl (zk zh rfl rfl rfl rfl rfl rfl hm.1 hem) rfl rfl ?_|refine AD.step _ _ _ _ _ rfl (zk zh rfl rfl rfl rfl rfl rfl hm.1 hem) rfl rfl ?_)|refine sK ?_|refine sC (fun _=>?_) (fun _=>?_)|fail)
     exact ⟨j + 1,⟨hjl,hr⟩,tD,tS,tH⟩
    ·rw [ha] at c3
     rw [show does g m k=true by rw [does,hv,ha];rfl] at hr
     repeat' (first|(refine shC ?_;first|refine qC c2 ?_|refine qC c3 ?_|refine qC (znX g hF t k q1 q2 q3) ?_)|(refine shX ?_;first|refine qX hek ?_|refine zu rfl (zk zh rfl rfl rfl rfl rfl rfl q1.1 hekm) rfl rfl ?_|refine AD.step _ _ _ _ _ rfl (zk zh rfl rfl rfl rfl rfl rfl q1.1 hekm) rfl rfl ?_|refine zu rfl (zk zh rfl rfl rfl rfl rfl rfl hm.1 hem) rfl rfl ?_|refine AD.step _ _ _ _ _ rfl (zk zh rfl rfl rfl rfl rfl rfl hm.1 hem) rfl rfl ?_)|refine sK ?_|refine sC (fun _=>?_) (fun _=>?_)|fail)
     exact retq rfl (by rw [XG,hr];rfl)
  ·rw [List.drop_eq_nil_of_le (by omega),List.nil_append] at hr
   repeat' (first|refine sK ?_|refine sC (fun _=>?_) (fun _=>?_)|fail)
   exact ⟨i + 1,⟨hlt,hr⟩,tD,tS,tH⟩
 ·rw [List.drop_eq_nil_of_le (by omega)] at hr
  repeat' (first|refine sK ?_|refine sC (fun _=>?_) (fun _=>?_)|fail)
  exact retq rfl (by rw [XG,hr];rfl)
set_option maxHeartbeats 20000000
theorem zfW (g:Img) (hF:Fine g) (t m:Int) (hm:mOk g m) (hn:(zB g (Qw g m)==2&&Vd g m)=false) (hb:zB g (Qw g m)=0→Qw g m∈up g t):ACall Tryz.prog 110 [zq g,pi t,pi m] (pi (zae g t m)):=by
 have hW:=zao hF.well
 have hem:=ZR hm
 have c1:=qh g (mAt g m).owner
 have c2:=Vq (mAt g m)
 rw [show zW (mAt g m).flags 2=Vd g m from rfl] at c2
 have c3:=znQ g hF m hm
 have c4:=zdD g hF _ t (Nat.le_refl _)
 have hsi:=zkL hW hb
 rw [Qw] at hn
 refine zf zh Tryz.func110 rfl (by kernel_rfl) Tryz.ntmps110 (by simp) _ rfl (fun hw gB hgB=>?_)
 by_cases hk:zB g (mAt g m).owner=2
 ·rw [hk] at c1 hn
  have hv:Vd g m=false:=by simpa using hn
  rw [hv] at c2
  by_cases hs:ZV g m < 0
  ·repeat' (first|refine yE 0 5 0 zh rfl (by kernel_rfl) (by kernel_rfl) (by kernel_rfl) rfl rfl rfl rfl rfl rfl rfl rfl rfl rfl rfl rfl rfl rfl (fun _=>rfl) rfl rfl rfl ?_|refine ⟨_,_,rfl,rfl,rfl,?_⟩|(refine shC ?_;first|refine qC c1 ?_|refine qC c2 ?_|refine qC c3 ?_)|(refine shX ?_;first|refine zu rfl (zk zh rfl rfl rfl rfl rfl rfl hm.1 hem) rfl rfl ?_|refine AD.step _ _ _ _ _ rfl (zk zh rfl rfl rfl rfl rfl rfl hm.1 hem) rfl rfl ?_)|refine sK ?_|refine sC (fun _=>?_) (fun _=>?_)|fail)
   exact retq rfl (by simp [zi,zae,hs])
  ·have he:((tbl g t).map pi)[(ZV g m).toNat]?=some (pi ((tbl g t).getD (ZV g m).toNat 0)):=by rw [zx (hsi hs)];exact qE (hsi hs)
   have hd:decide (ZV g m < 0)=false:=decide_eq_false hs
   repeat' (first|refine yE 0 5 0 zh rfl (by kernel_rfl) (by kernel_rfl) (by kernel_rfl) rfl rfl rfl rfl rfl rfl rfl rfl rfl rfl rfl rfl rfl rfl (fun _=>rfl) rfl rfl rfl ?_|refine ⟨_,_,rfl,rfl,rfl,?_⟩|(refine shC ?_;first|refine qC c1 ?_|refine qC c2 ?_|refine qC c3 ?_|refine qC c4 ?_)|(refine shX ?_;first|refine zu rfl (zk zh rfl rfl rfl rfl rfl rfl hm.1 hem) rfl rfl ?_|refine AD.step _ _ _ _ _ rfl (zk zh rfl rfl rfl rfl rfl rfl hm.1 hem) rfl rfl ?_|refine qX he ?_)|refine sK ?_|refine sC (fun _=>?_) (fun _=>?_)|fail)
   exact retq rfl (by rw [zae,if_neg hs];rfl)
 ·have hkb:(zB g (mAt g m).owner==2)=false:=by simp [hk]
  by_cases hs:ZV g m < 0
  ·repeat' (first|refine yE 0 5 0 zh rfl (by kernel_rfl) (by kernel_rfl) (by kernel_rfl) rfl rfl rfl rfl rfl rfl rfl rfl rfl rfl rfl rfl rfl rfl (fun _=>rfl) rfl rfl rfl ?_|refine ⟨_,_,rfl,rfl,rfl,?_⟩|(refine shC ?_;first|refine qC c1 ?_|refine qC c2 ?_|refine qC c3 ?_)|(refine shX ?_;first|refine zu rfl (zk zh rfl rfl rfl rfl rfl rfl hm.1 hem) rfl rfl ?_|refine AD.step _ _ _ _ _ rfl (zk zh rfl rfl rfl rfl rfl rfl hm.1 hem) rfl rfl ?_)|refine sK ?_|refine sC (fun _=>?_) (fun _=>?_)|fail)
   exact retq rfl (by simp [zi,zae,hs])
  ·have he:((tbl g t).map pi)[(ZV g m).toNat]?=some (pi ((tbl g t).getD (ZV g m).toNat 0)):=by rw [zx (hsi hs)];exact qE (hsi hs)
   have hd:decide (ZV g m < 0)=false:=decide_eq_false hs
   repeat' (first|refine yE 0 5 0 zh rfl (by kernel_rfl) (by kernel_rfl) (by kernel_rfl) rfl rfl rfl rfl rfl rfl rfl rfl rfl rfl rfl rfl rfl rfl (fun _=>rfl) rfl rfl rfl ?_|refine ⟨_,_,rfl,rfl,rfl,?_⟩|(refine shC ?_;first|refine qC c1 ?_|refine qC c2 ?_|refine qC c3 ?_|refine qC c4 ?_)|(refine shX ?_;first|refine zu rfl (zk zh rfl rfl rfl rfl rfl rfl hm.1 hem) rfl rfl ?_|refine AD.step _ _ _ _ _ rfl (zk zh rfl rfl rfl rfl rfl rfl hm.1 hem) rfl rfl ?_|refine qX he ?_)|refine sK ?_|refine sC (fun _=>?_) (fun _=>?_)|fail)
   exact retq rfl (by rw [zae,if_neg hs];rfl)
theorem zow (g:Img) (hF:Fine g) (t m:Int) (hm:mOk g m) (hk:zB g t=0) (hb:zB g (Qw g m)=0→Qw g m∈up g t):ACall Tryz.prog 110 [zq g,pi t,pi m] (pi (QB g t m)):=by
 cases hc:(zB g (Qw g m)==2&&Vd g m)
 ·rw [show QB g t m=zae g t m by rw [QB,hc];rfl]
  exact zfW g hF t m hm hc hb
 ·have hW:=zao hF.well
  obtain ⟨hgt,_,hgm,_⟩:=zF hF.formed
  have hui:=XR g t
  have hul:=qR _ _ hui.1 hui.2
  have hem:=ZR hm
  have c1:=qh g (mAt g m).owner
  have c2:=Vq (mAt g m)
  rw [show zW (mAt g m).flags 2=Vd g m from rfl] at c2
  rw [show QB g t m=XG g t m by rw [QB,hc];rfl]
  rw [Bool.and_eq_true,Qw,beq_iff_eq] at hc
  rw [hc.1] at c1
  rw [hc.2] at c2
  refine zf zh Tryz.func110 rfl (by kernel_rfl) Tryz.ntmps110 (by simp) _ rfl (fun hw gB hgB=>?_)
  repeat' (first|refine yE 0 5 0 zh rfl (by kernel_rfl) (by kernel_rfl) (by kernel_rfl) rfl rfl rfl rfl rfl rfl rfl rfl rfl rfl rfl rfl rfl rfl (fun _=>rfl) rfl rfl rfl ?_|refine ⟨_,_,rfl,rfl,rfl,?_⟩|(refine shC ?_;first|refine qC c1 ?_|refine qC c2 ?_|refine zu rfl (qw rfl rfl (VH g t (by omega))) rfl rfl ?_|refine AD.step _ _ _ _ _ rfl (qw rfl rfl (VH g t (by omega))) rfl rfl ?_)|(refine shX ?_;first|refine zu rfl (zk zh rfl rfl rfl rfl rfl rfl hm.1 hem) rfl rfl ?_|refine AD.step _ _ _ _ _ rfl (zk zh rfl rfl rfl rfl rfl rfl hm.1 hem) rfl rfl ?_)|refine sK ?_|refine sC (fun _=>?_) (fun _=>?_)|fail)
  refine zo (fun i:Nat=>[(1,.pv (pi t)),(3,.pv (.ptr (zq g) 0)),(7,.box 0 0),(8,.pv (ints (up g t))),(9,.pv (pi i))]) (fun _=>[(0,.cell (.pv (zG (mAt g m))))]) (fun i=>i≤(up g t).length∧zi3 g t m=(((up g t).drop i).flatMap (methodsOf g)).find? (does g m)) (fun i=>(up g t).length - i) 0 ⟨by omega,rfl⟩ (tS) tH ?_
  rintro i ⟨hi,hr⟩
  by_cases hlt:i < (up g t).length
  ·obtain ⟨u,hu⟩:∃ u,u=(up g t)[i]:=⟨_,rfl⟩
   have hum:u∈up g t:=by rw [hu];exact List.getElem_mem hlt
   have heu:((up g t).map pi)[i]?=some (pi u):=by rw [hu];exact zA (f:=pi) hlt
   have c3:=YS g u (by omega)
   have hml:=qP g u
   rw [zi1 hlt,←hu] at hr
   repeat' (first|(refine shC ?_;first|refine qC c3 ?_)|(refine shX ?_;first|refine qX heu ?_)|refine sK ?_|refine sC (fun _=>?_) (fun _=>?_)|fail)
   refine zo (fun j:Nat=>[(1,.pv (pi t)),(3,.pv (.ptr (zq g) 0)),(7,.box 0 0),(8,.pv (ints (up g t))),(9,.pv (pi i)),(10,.pv (ints (methodsOf g u))),(11,.pv (pi j))]) (fun _=>[(0,.cell (.pv (zG (mAt g m))))])
    (fun j=>j≤(methodsOf g u).length∧zi3 g t m=((methodsOf g u).drop j++((up g t).drop (i + 1)).flatMap (methodsOf g)).find? (does g m)) (fun j=>(methodsOf g u).length - j) 0 ⟨by omega,hr⟩ (tS) tH ?_
   clear hr
   rintro j ⟨hj,hr⟩
   by_cases hjl:j < (methodsOf g u).length
   ·obtain ⟨k,hk2⟩:∃ k,k=(methodsOf g u)[j]:=⟨_,rfl⟩
    have hkm:k∈methodsOf g u:=by rw [hk2];exact List.getElem_mem hjl
    have hek:((methodsOf g u).map pi)[j]?=some (pi k):=by rw [hk2];exact zA (f:=pi) hjl
    obtain ⟨q1,q2,q3⟩:=up0 hW hk hum hkm
    have hekm:=ZR q1
    have c4:=Vq (mAt g k)
    rw [show zW (mAt g k).flags 2=Vd g k from rfl] at c4
    have c5:=zf6 (mAt g k) (mAt g m)
    rw [show zbC (mAt g k) (mAt g m)=alk g k m from rfl] at c5
    rw [List.drop_eq_getElem_cons hjl,←hk2,List.cons_append,List.find?_cons] at hr
    cases hv:Vd g k
    ·rw [hv] at c4
     rw [show does g m k=false by rw [does,hv];rfl] at hr
     repeat' (first|(refine shC ?_;first|refine qC c4 ?_)|(refine shX ?_;first|refine qX hek ?_|refine zu rfl (zk zh rfl rfl rfl rfl rfl rfl q1.1 hekm) rfl rfl ?_|refine AD.step _ _ _ _ _ rfl (zk zh rfl rfl rfl rfl rfl rfl q1.1 hekm) rfl rfl ?_)|refine sK ?_|refine sC (fun _=>?_) (fun _=>?_)|fail)
     exact ⟨j + 1,⟨hjl,hr⟩,tD,tS,tH⟩
    ·rw [hv] at c4
     cases ha:alk g k m
     ·rw [ha] at c5
      rw [show does g m k=false by rw [does,hv,ha];rfl] at hr
      repeat' (first|(refine shC ?_;first|refine qC c4 ?_|refine qC c5 ?_)|(refine shX ?_;first|refine qX hek ?_|refine zu rfl (zk zh rfl rfl rfl rfl rfl rfl q1.1 hekm) rfl rfl ?_|refine AD.step _ _ _ _ _ rfl (zk zh rfl rfl rfl rfl rfl rfl q1.1 hekm) rfl rfl ?_)|refine sK ?_|refine sC (fun _=>?_) (fun _=>?_)|fail)
      exact ⟨j + 1,⟨hjl,hr⟩,tD,tS,tH⟩
     ·rw [ha] at c5
      rw [show does g m k=true by rw [does,hv,ha];rfl] at hr
      repeat' (first|(refine shC ?_;first|refine qC c4 ?_|refine qC c5 ?_|refine qC (zfW g hF t k q1 q2 q3) ?_)|(refine shX ?_;first|refine qX hek ?_|refine zu rfl (zk zh rfl rfl rfl rfl rfl rfl q1.1 hekm) rfl rfl ?_|refine AD.step _ _ _ _ _ rfl (zk zh rfl rfl rfl rfl rfl rfl q1.1 hekm) rfl rfl ?_)|refine sK ?_|refine sC (fun _=>?_) (fun _=>?_)|fail)
      exact retq rfl (by rw [XG,hr];rfl)
   ·rw [List.drop_eq_nil_of_le (by omega),List.nil_append] at hr
    repeat' (first|refine sK ?_|refine sC (fun _=>?_) (fun _=>?_)|fail)
    exact ⟨i + 1,⟨hlt,hr⟩,tD,tS,tH⟩
  ·rw [List.drop_eq_nil_of_le (by omega)] at hr
   repeat' (first|refine sK ?_|refine sC (fun _=>?_) (fun _=>?_)|fail)
   exact retq rfl (by rw [XG,hr];rfl)
def zb7 (m:Me):Bool:=m.code.length==0&&m.locals.length==0&&m.clauses.length==0&&m.max==0
def zhO (k:Int) (b1 b2 b4 b8 b16 rv f16 em nc:Bool):Bool:=!(b16&&(k != 0||rv||f16))&&!(b2&&(b1||k==1))&&!((b4||b8)&&!b2)&&(if b4 then em else nc)
def znc (k:Int) (b4 m1 ab:Bool):Bool:=if k==2 then b4 else if k==3 then b4&&m1 else !b4||ab
def YG (k:Int) (b1 b2 b4 b8 b16 rv f16 em nc m1 ab:Bool):Bool :=
 !(b16&&(k != 0||rv||f16))&&!(b2&&(b1||k==1))&&!(!b2&&(b4||b8))&&!(b4&&!em)&&!(!b4&&(!nc||decide (2≤k)))&&!(k==3&&!m1)&&(!b4||decide (2≤k)||ab)
theorem zro (b1 b2 b4 b8 b16 rv f16 em nc m1 ab:Bool) {k:Int} (hk:k=0∨k=1∨k=2∨k=3):(zhO k b1 b2 b4 b8 b16 rv f16 em nc&&znc k b4 m1 ab)=YG k b1 b2 b4 b8 b16 rv f16 em nc m1 ab:=by
 simp only [zhO,znc,YG]
 generalize (b16&&(k != 0||rv||f16))=x
 generalize (b2&&(b1||k==1))=y
 rcases hk with rfl|rfl|rfl|rfl <;> cases x <;> cases y <;> cases b2 <;> cases b4 <;> cases b8 <;> cases em <;> cases nc <;> cases m1 <;> cases ab <;> rfl
def zoN (g:Img) (m:Me):Bool:=zhO (zB g m.owner) (zW m.flags 1) (zW m.flags 2) (zW m.flags 4) (zW m.flags 8) (zW m.flags 16) (m.ret.kind != 1) (m.flags != 16) (zb7 m) (decide (0 < m.code.length))
def zka (g:Img) (m:Me):Bool:=znc (zB g m.owner) (zW m.flags 4) ((methodsOf g m.owner).length==1) (zW (g.types.getD m.owner.toNat default).flags 4)
def zgf (g:Img) (m:Me):Bool:=YG (zB g m.owner) (zW m.flags 1) (zW m.flags 2) (zW m.flags 4) (zW m.flags 8) (zW m.flags 16) (m.ret.kind != 1) (m.flags != 16) (zb7 m) (decide (0 < m.code.length)) ((methodsOf g m.owner).length==1) (zW (g.types.getD m.owner.toNat default).flags 4)
structure MeOk (g:Img) (m:Me):Prop where
 f0:0≤m.flags
 f1:m.flags≤31
 o0:0≤m.owner
 o1:m.owner.toNat < g.types.length
 formed:yV g m=true
theorem YV {g:Img} (hf:zJ g=true) {x:Int} (h:mOk g x):MeOk g (mAt g x):=by
 have h1:=Vs hf h
 have h2:=zcU hf h.2
 simp only [zJ,Bool.and_eq_true,List.all_eq_true] at hf
 have:=hf.2 x.toNat (by simpa using h.2)
 rw [zb2] at this
 simp only [Bool.and_eq_true,decide_eq_true_eq] at this
 have e:g.methods.getD x.toNat default=mAt g x:=rfl
 rw [e] at this h2
 obtain ⟨⟨⟨t1,t2⟩,_⟩,_⟩:=this
 exact ⟨h1.1,h1.2,t1,by omega,h2⟩
theorem MeOk.kind {g:Img} {m:Me} (h:MeOk g m):zB g m.owner=0∨zB g m.owner=1∨zB g m.owner=2∨zB g m.owner=3:=by
 have h1:=zcy g m.owner
 obtain ⟨td,htd⟩:=ZF (g:=g) (t:=m.owner) ⟨h.o0,by have:=h.o1;have:=h.o0;omega⟩
 have h2:zB g m.owner=XF td.flags:=by rw [zB,htd]
 have h3:=zfU td.flags
 omega
theorem zsM {g:Img} {m:Me} (h:MeOk g m):(zoN g m&&zka g m)=zgf g m:=zro _ _ _ _ _ _ _ _ _ _ _ h.kind
theorem MeOk.small {g:Img} {m:Me} (h:MeOk g m):m.code.length≤160∧m.locals.length≤12∧m.params.length≤6∧m.clauses.length≤6∧0≤m.max∧m.max≤12:=by
 have:=h.formed
 simp only [yV,Zf,Wq,Bool.and_eq_true,decide_eq_true_eq] at this
 obtain ⟨⟨⟨⟨⟨⟨⟨⟨⟨⟨_,_⟩,_⟩,h3⟩,h4⟩,h5⟩,h6⟩,_⟩,_⟩,_⟩,⟨⟨h7,_⟩,_⟩,h8⟩:=this
 refine ⟨by omega,by omega,by omega,?_,h3,h4⟩
 by_cases hc:6 < m.clauses.length
 ·rw [ZE,if_pos hc] at h8;simp at h8
 ·omega
theorem zqs {m:Me} (h1:m.code.length≤160) (h2:m.locals.length≤12) (h3:m.clauses.length≤6) (h4:0≤m.max) (h5:m.max≤12) :
  (IntKind.i64.wrap (IntKind.i64.wrap (IntKind.i64.wrap ((((m.code.map zY).length:Nat):Int) + (((m.locals.map yK).length:Nat):Int)) + (((m.clauses.map yI).length:Nat):Int)) + m.max)==0)=zb7 m:=by
 simp only [List.length_map]
 rw [wrap_in (a:=(m.code.length:Int) + (m.locals.length:Int)) (by omega) (by omega),wrap_in (a:=(m.code.length:Int) + (m.locals.length:Int) + (m.clauses.length:Int)) (by omega) (by omega),wrap_in (by omega) (by omega),zb7,Bool.eq_iff_iff]
 simp only [beq_iff_eq,Bool.and_eq_true]
 omega
theorem zt4 {g:Img} {m:Me} (h:MeOk g m):ACall Tryz.prog 82 [zG m,pi 1] (pb (zW m.flags 1))∧ACall Tryz.prog 82 [zG m,pi 2] (pb (zW m.flags 2))∧ACall Tryz.prog 82 [zG m,pi 4] (pb (zW m.flags 4))∧ACall Tryz.prog 82 [zG m,pi 8] (pb (zW m.flags 8))∧ACall Tryz.prog 82 [zG m,pi 16] (pb (zW m.flags 16)):=by
 obtain ⟨e1,e2,e4,e8,e16⟩:=za2 h.f0 h.f1
 exact ⟨e1 ▸ QH m 1,e2 ▸ QH m 2,e4 ▸ QH m 4,e8 ▸ QH m 8,e16 ▸ QH m 16⟩
set_option maxHeartbeats 4000000 in
theorem ziP (g:Img) (hf:zJ g=true) (m:Me) (h:MeOk g m):ACall Tryz.prog 43 [zq g,zG m] (pb (zoN g m)):=by
 obtain ⟨h1,h2,h4,h8,h16⟩:=zt4 h
 have ck:=Zr g hf m.owner
 have hk:=h.kind
 obtain ⟨s1,s2,_,s4,s5,s6⟩:=h.small
 have he:=zqs s1 s2 s4 s5 s6
 refine zf zh Tryz.func43 rfl (by kernel_rfl) Tryz.ntmps43 (by simp) _ rfl (fun hw gB hgB=>?_)
 rw [zoN]
 generalize zW m.flags 1=b1 at h1 ⊢
 generalize zW m.flags 2=b2 at h2 ⊢
 generalize zW m.flags 4=b4 at h4 ⊢
 generalize zW m.flags 8=b8 at h8 ⊢
 generalize zW m.flags 16=b16 at h16 ⊢
 generalize zb7 m=em at he ⊢
 rcases hk with hk|hk|hk|hk <;> rw [hk] at ck ⊢ <;> clear hk
 all_goals repeat' (first|(refine shC ?_;first|refine qC ck ?_|refine qC h1 ?_|refine qC h2 ?_|refine qC h4 ?_|refine qC h8 ?_|refine qC h16 ?_)|refine sA ?_|refine sC (fun _=>?_) (fun _=>?_)|fail)
 all_goals (refine retq rfl ?_;first|(simp_all [zi,zhO];done)|(rename_i hx;simp_all [zi,zhO];omega)|(trace_state))
set_option maxHeartbeats 20000000
theorem zm3 {g:Img} {m:Me} (h:MeOk g m):(g.types.map Zb)[m.owner.toNat]?=some (Zb (g.types.getD m.owner.toNat default)):=by
 rw [zx h.o1];exact qE h.o1
theorem zlv {g:Img} (hf:zJ g=true) {t:Int} (h0:0≤t) (h1:t.toNat < g.types.length):0≤(g.types.getD t.toNat default).flags∧(g.types.getD t.toNat default).flags≤31:=by
 have:typeAt g t=some (g.types.getD t.toNat default):=by
  rw [typeAt,if_pos h0,zx h1];exact List.getElem?_eq_getElem h1
 have:=Vr hf this
 exact ⟨this.1,this.2.1⟩
theorem zm2 (g:Img) (hf:zJ g=true) (m:Me) (h:MeOk g m):ACall Tryz.prog 44 [zq g,zG m] (pb (zka g m)):=by
 obtain ⟨h1,h2,h4,h8,h16⟩:=zt4 h
 have ck:=Zr g hf m.owner
 have hk:=h.kind
 have hgm:g.methods.length≤64:=(zF hf).2.2.1
 have cm:=YR g m.owner (by omega)
 have hml:=qP g m.owner
 have hto:=zm3 h
 have hfl:=zlv hf h.o0 h.o1
 have hfe:qB (g.types.getD m.owner.toNat default).flags 4=zW (g.types.getD m.owner.toNat default).flags 4:=(za2 hfl.1 hfl.2).2.2.1
 have hms:(((((methodsOf g m.owner).map pi).length:Nat):Int)==1)=((methodsOf g m.owner).length==1):=by
  rw [List.length_map,Bool.eq_iff_iff];simp only [beq_iff_eq];omega
 refine zf zh Tryz.func44 rfl (by kernel_rfl) Tryz.ntmps44 (by simp) _ rfl (fun hw gB hgB=>?_)
 rw [zka]
 generalize zW m.flags 4=b4 at h4 ⊢
 rw [←hfe,qB]
 rcases hk with hk|hk|hk|hk <;> rw [hk] at ck ⊢ <;> clear hk
 all_goals repeat' (first|(refine shC ?_;first|refine qC ck ?_|refine qC h4 ?_|refine qC cm ?_)|(refine shX ?_;first|refine zu rfl (zk zh rfl rfl rfl rfl rfl rfl h.o0 hto) rfl rfl ?_|refine AD.step _ _ _ _ _ rfl (zk zh rfl rfl rfl rfl rfl rfl h.o0 hto) rfl rfl ?_)|refine sA ?_|refine sC (fun _=>?_) (fun _=>?_)|fail)
 all_goals (refine retq rfl ?_;first|(simp_all [zi,znc];done)|(simp_all [zi,znc];omega))
def zsz (QQ:QC):QC
 | .normal,_,_=>False
 | e,env,H=>QQ e env H
theorem zcR {P:Program} {n:Nat} {g:Base} {x y:Code} {env:Env} {H:HEnv} {QQ:QC} (h1:AW P n g x env H (zsz QQ)):AW P n g (.seq x y) env H QQ :=
 zil (h1.mono fun e env' H' hq=>by
  cases e <;> first
   | exact hq.elim
   | exact hq)
theorem zgA (g:Img) (hf:zJ g=true) (m:Me) (h:MeOk g m):ACall Tryz.prog 60 [zq g,zG m] (pb (zgf g m)):=by
 have h1:=zju m
 have h2:=Vq m
 have h4:=zfw m
 have h8:=zjs m
 have h16:=zny m
 have ck:=qh g m.owner
 have hgm:g.methods.length≤64:=(zF hf).2.2.1
 obtain ⟨s1,s2,_,s4,s5,s6⟩:=h.small
 have cm:=YS g m.owner (by omega)
 have hml:=qP g m.owner
 have hto:=zm3 h
 have hms:(((((methodsOf g m.owner).map pi).length:Nat):Int)==1)=((methodsOf g m.owner).length==1):=by
  rw [List.length_map,Bool.eq_iff_iff];simp only [beq_iff_eq];omega
 have he:zb7 m=(!(decide (0 < (((m.code.map zY).length:Nat):Int))||decide (0 < (((m.locals.map yK).length:Nat):Int))||decide (0 < (((m.clauses.map yI).length:Nat):Int))||decide (0 < m.max))):=by
  rw [zb7,Bool.eq_iff_iff]
  simp only [List.length_map,Bool.and_eq_true,beq_iff_eq,Bool.not_eq_true',Bool.or_eq_false_iff,decide_eq_false_iff_not]
  omega
 have hc:decide (0 < m.code.length)=!((((m.code.map zY).length:Nat):Int)==0):=by
  rw [List.length_map,Bool.eq_iff_iff]
  simp only [decide_eq_true_eq,Bool.not_eq_true',beq_eq_false_iff_ne]
  omega
 refine zf zh Tryz.func60 rfl (by kernel_rfl) Tryz.ntmps60 (by simp) _ rfl (fun hw gB hgB=>?_)
 rw [zgf]
 generalize zW m.flags 1=b1 at h1 ⊢
 generalize zW m.flags 2=b2 at h2 ⊢
 generalize zW m.flags 4=b4 at h4 ⊢
 generalize zW m.flags 8=b8 at h8 ⊢
 generalize zW m.flags 16=b16 at h16 ⊢
 generalize hab:zW (g.types.getD m.owner.toNat default).flags 4=ab
 rw [zW] at hab
 generalize zb7 m=em at he ⊢
 generalize decide (0 < m.code.length)=nc at hc ⊢
 generalize hm1:((methodsOf g m.owner).length==1)=m1 at hms ⊢
 generalize zB g m.owner=k at ck ⊢
 refine Qg [(2,.pv (.ptr (zq g) 0)),(3,.pv (.ptr (zG m) 0))] [] ?_ ?_
 ·repeat' (first|refine sA ?_|refine sC (fun _=>?_) (fun _=>?_)|fail)
  exact ⟨tS,tH⟩
 refine Qg [(2,.pv (.ptr (zq g) 0)),(3,.pv (.ptr (zG m) 0)),(5,.pv (pi k))] [] ?_ ?_
 ·repeat' (first|(refine shC ?_;first|refine qC ck ?_)|refine sA ?_|refine sC (fun _=>?_) (fun _=>?_)|fail)
  exact ⟨tS,tH⟩
 cases hA:(b16&&(k != 0||(m.ret.kind != 1)||(m.flags != 16)))
 ·refine Qg [(2,.pv (.ptr (zq g) 0)),(3,.pv (.ptr (zG m) 0)),(5,.pv (pi k))] [] ?_ ?_
  ·clear he hc hms hm1
   repeat' (first|(refine shC ?_;first|refine qC h16 ?_)|refine sA ?_|refine sC (fun _=>?_) (fun _=>?_)|fail)
   all_goals first|exact ⟨tS,tH⟩|(exfalso;simp_all;done)
  cases hB:(b2&&(b1||k==1))
  ·refine Qg [(2,.pv (.ptr (zq g) 0)),(3,.pv (.ptr (zG m) 0)),(5,.pv (pi k))] [] ?_ ?_
   ·clear he hc hms hm1
    repeat' (first|(refine shC ?_;first|refine qC h1 ?_|refine qC h2 ?_)|refine sA ?_|refine sC (fun _=>?_) (fun _=>?_)|fail)
    all_goals first|exact ⟨tS,tH⟩|(exfalso;simp_all;done)
   cases hC:(!b2&&(b4||b8))
   ·refine Qg [(2,.pv (.ptr (zq g) 0)),(3,.pv (.ptr (zG m) 0)),(5,.pv (pi k))] [] ?_ ?_
    ·clear he hc hms hm1
     repeat' (first|(refine shC ?_;first|refine qC h2 ?_|refine qC h4 ?_|refine qC h8 ?_)|refine sA ?_|refine sC (fun _=>?_) (fun _=>?_)|fail)
     all_goals first|exact ⟨tS,tH⟩|(exfalso;simp_all;done)
    cases hD:(b4&&!em)
    ·refine Qg [(2,.pv (.ptr (zq g) 0)),(3,.pv (.ptr (zG m) 0)),(5,.pv (pi k))] [] ?_ ?_
     ·clear hc hms hm1 hA hB hC
      repeat' (first|(refine shC ?_;first|refine qC h4 ?_)|refine sA ?_|refine sC (fun _=>?_) (fun _=>?_)|fail)
      all_goals first|exact ⟨tS,tH⟩|(exfalso;simp_all;done)
     cases hE:(!b4&&(!nc||decide (2≤k)))
     ·refine Qg [(2,.pv (.ptr (zq g) 0)),(3,.pv (.ptr (zG m) 0)),(5,.pv (pi k))] [] ?_ ?_
      ·clear he hms hm1 hA hB hC hD
       repeat' (first|(refine shC ?_;first|refine qC h4 ?_)|refine sA ?_|refine sC (fun _=>?_) (fun _=>?_)|fail)
       all_goals first|exact ⟨tS,tH⟩|(exfalso;simp_all;done)
      cases hG:(k==3&&!m1)
      ·refine Qg [(2,.pv (.ptr (zq g) 0)),(3,.pv (.ptr (zG m) 0)),(5,.pv (pi k))] [] ?_ ?_
       ·clear he hc hA hB hC hD hE hm1
        repeat' (first|(refine shC ?_;first|refine qC cm ?_)|refine sA ?_|refine sC (fun _=>?_) (fun _=>?_)|fail)
        all_goals first|exact ⟨tS,tH⟩|(exfalso;simp_all;done)
       rw [YG,hA,hB,hC,hD,hE,hG]
       clear hA hB hC hD hE hG he hc hms hm1
       repeat' (first|(refine shC ?_;first|refine qC h4 ?_)|(refine shX ?_;first|refine zu rfl (zk zh rfl rfl rfl rfl rfl rfl h.o0 hto) rfl rfl ?_|refine AD.step _ _ _ _ _ rfl (zk zh rfl rfl rfl rfl rfl rfl h.o0 hto) rfl rfl ?_)|refine sA ?_|refine sC (fun _=>?_) (fun _=>?_)|fail)
       all_goals (refine retq rfl ?_;first|(simp_all [zi];done)|(simp_all [zi];intros;omega))
      ·have hv:YG k b1 b2 b4 b8 b16 (m.ret.kind != 1) (m.flags != 16) em nc m1 ab=false:=by rw [YG,hG];simp
       rw [hv]
       refine zcR ?_
       clear he hc hA hB hC hD hE hm1 hv
       repeat' (first|(refine shC ?_;first|refine qC cm ?_)|refine sA ?_|refine sC (fun _=>?_) (fun _=>?_)|fail)
       all_goals first|exact retq rfl rfl|(exfalso;simp_all;done)
     ·have hv:YG k b1 b2 b4 b8 b16 (m.ret.kind != 1) (m.flags != 16) em nc m1 ab=false:=by rw [YG,hE];simp
      rw [hv]
      refine zcR ?_
      clear he hms hm1 hA hB hC hD hv
      repeat' (first|(refine shC ?_;first|refine qC h4 ?_)|refine sA ?_|refine sC (fun _=>?_) (fun _=>?_)|fail)
      all_goals first|exact retq rfl rfl|(exfalso;simp_all;done)
    ·have hv:YG k b1 b2 b4 b8 b16 (m.ret.kind != 1) (m.flags != 16) em nc m1 ab=false:=by rw [YG,hD];simp
     rw [hv]
     refine zcR ?_
     clear hc hms hm1 hA hB hC hv
     repeat' (first|(refine shC ?_;first|refine qC h4 ?_)|refine sA ?_|refine sC (fun _=>?_) (fun _=>?_)|fail)
     all_goals first|exact retq rfl rfl|(exfalso;simp_all;done)
   ·have hv:YG k b1 b2 b4 b8 b16 (m.ret.kind != 1) (m.flags != 16) em nc m1 ab=false:=by rw [YG,hC];simp
    rw [hv]
    refine zcR ?_
    clear he hc hms hm1 hA hB hv
    repeat' (first|(refine shC ?_;first|refine qC h2 ?_|refine qC h4 ?_|refine qC h8 ?_)|refine sA ?_|refine sC (fun _=>?_) (fun _=>?_)|fail)
    all_goals first|exact retq rfl rfl|(exfalso;simp_all;done)
  ·have hv:YG k b1 b2 b4 b8 b16 (m.ret.kind != 1) (m.flags != 16) em nc m1 ab=false:=by rw [YG,hB];simp
   rw [hv]
   refine zcR ?_
   clear he hc hms hm1 hA hv
   repeat' (first|(refine shC ?_;first|refine qC h1 ?_|refine qC h2 ?_)|refine sA ?_|refine sC (fun _=>?_) (fun _=>?_)|fail)
   all_goals first|exact retq rfl rfl|(exfalso;simp_all;done)
 ·have hv:YG k b1 b2 b4 b8 b16 (m.ret.kind != 1) (m.flags != 16) em nc m1 ab=false:=by rw [YG,hA];simp
  rw [hv]
  refine zcR ?_
  clear he hc hms hm1 hv
  repeat' (first|(refine shC ?_;first|refine qC h16 ?_)|refine sA ?_|refine sC (fun _=>?_) (fun _=>?_)|fail)
  all_goals first|exact retq rfl rfl|(exfalso;simp_all;done)
set_option maxHeartbeats 20000000
theorem zpM (g:Img) (hf:zJ g=true) (t:Ty):ACall Tryz.prog 87 [zq g,yK t] (pb (zix g t)):=by
 have ck:=Zr g hf t.index
 refine zf zh Tryz.func87 rfl (by kernel_rfl) Tryz.ntmps87 (by simp) _ rfl (fun hw gB hgB=>?_)
 rw [zix]
 generalize zB g t.index=k at ck ⊢
 repeat' (first|(refine shC ?_;first|refine qC ck ?_)|refine sA ?_|refine sC (fun _=>?_) (fun _=>?_)|fail)
 all_goals (refine retq rfl ?_;simp_all [zi])
theorem zkX (g:Img) (hf:zJ g=true) (t:Ty):ACall Tryz.prog 86 ([]++[yK t]++[.ptr (zq g) 0]) (pb (!zix g t)):=by
 show ACall Tryz.prog 86 [yK t,.ptr (zq g) 0] (pb (!zix g t))
 refine zf zh Tryz.func86 rfl (by kernel_rfl) Tryz.ntmps86 (by simp) _ rfl (fun hw gB hgB=>?_)
 repeat' (first|(refine shC ?_;first|refine qC (zpM g hf t) ?_)|refine sA ?_|refine sC (fun _=>?_) (fun _=>?_)|fail)
 exact retq rfl rfl
def QG (a b c:List Ty):Nat→Int
 | 0=>0
 | 1=>a.length
 | 2=>a.length + b.length
 | _=>a.length + b.length + c.length
def zdR (a b c:List Ty):Nat→List Ty
 | 0=>[]
 | 1=>a
 | 2=>a++b
 | _=>a++b++c
theorem zjE (a b c:List Ty) (ha:a.length≤100) (hb:b.length≤100) (hc:c.length≤100):ACallR Tryz.prog 83 [.slc 1 [tys a,tys b,tys c] true] 42 4 ((a++b++c).map yK):=by
 refine zeC Tryz.func83 rfl (by kernel_rfl) Tryz.ntmps83 (by simp) rfl (fun hw gB hgB=>?_)
 repeat' (first|refine sK ?_|refine sC (fun _=>?_) (fun _=>?_)|fail)
 refine zo (fun k:Nat=>[(0,.pv (.slc 1 [tys a,tys b,tys c] true)),(9,.pv (.slc 1 [tys a,tys b,tys c] true)),(10,.pv (pi 3)),(11,.pv (pi k)),(3,.pv (pi (QG a b c k)))]) (fun _=>[]) (fun k=>k≤3) (fun k=>3 - k) 0 (by omega) (tS) tH ?_
 intro k hk
 have hk3:k=0∨k=1∨k=2∨k=3:=by omega
 rcases hk3 with rfl|rfl|rfl|rfl
 ·repeat' (first|refine zu rfl (zdg zh rfl (by first|omega|(simp [QG] <;> omega)) (by first|omega|(simp [QG] <;> omega))) rfl rfl ?_|(refine shX ?_;first|refine zu rfl (zk zh rfl rfl rfl rfl rfl rfl (by decide) rfl) rfl rfl ?_|refine AD.step _ _ _ _ _ rfl (zk zh rfl rfl rfl rfl rfl rfl (by decide) rfl) rfl rfl ?_)|refine sK ?_|refine sC (fun _=>?_) (fun _=>?_)|fail)
  exact ⟨1,by omega,tD,by repeat (first|exact zT|refine zM rfl ?_|(refine qg rfl ?_ ?_;· (first|(simp [QG];done)|(simp [QG];omega)|omega))),tH⟩
 ·repeat' (first|refine zu rfl (zdg zh rfl (by first|omega|(simp [QG] <;> omega)) (by first|omega|(simp [QG] <;> omega))) rfl rfl ?_|(refine shX ?_;first|refine zu rfl (zk zh rfl rfl rfl rfl rfl rfl (by decide) rfl) rfl rfl ?_|refine AD.step _ _ _ _ _ rfl (zk zh rfl rfl rfl rfl rfl rfl (by decide) rfl) rfl rfl ?_)|refine sK ?_|refine sC (fun _=>?_) (fun _=>?_)|fail)
  exact ⟨2,by omega,tD,by repeat (first|exact zT|refine zM rfl ?_|(refine qg rfl ?_ ?_;· (first|(simp [QG];done)|(simp [QG];omega)|omega))),tH⟩
 ·repeat' (first|refine zu rfl (zdg zh rfl (by first|omega|(simp [QG] <;> omega)) (by first|omega|(simp [QG] <;> omega))) rfl rfl ?_|(refine shX ?_;first|refine zu rfl (zk zh rfl rfl rfl rfl rfl rfl (by decide) rfl) rfl rfl ?_|refine AD.step _ _ _ _ _ rfl (zk zh rfl rfl rfl rfl rfl rfl (by decide) rfl) rfl rfl ?_)|refine sK ?_|refine sC (fun _=>?_) (fun _=>?_)|fail)
  exact ⟨3,by omega,tD,by repeat (first|exact zT|refine zM rfl ?_|(refine qg rfl ?_ ?_;· (first|(simp [QG];done)|(simp [QG];omega)|omega))),tH⟩
 ·repeat' (first|(refine zL ?_;first|refine zcd 0 rfl rfl rfl (zjA _ (by simp [QG];omega) (by simp [QG];omega)) (by decide) rfl rfl rfl ?_)|refine sK ?_|refine sC (fun _=>?_) (fun _=>?_)|fail)
  refine zo (fun k:Nat=>[(6,.own 0),(25,.pv (.slc 1 [tys a,tys b,tys c] true)),(26,.pv (pi 3)),(27,.pv (pi k))]) (fun k=>[(0,.row 42 4 ((zdR a b c k).map yK))]) (fun k=>k≤3) (fun k=>3 - k) 0 (by omega) (tS) tH ?_
  intro k hk
  have hk3:k=0∨k=1∨k=2∨k=3:=by omega
  rcases hk3 with rfl|rfl|rfl|rfl
  ·repeat' (first|refine zu rfl (zdg zh rfl (by first|omega|(simp [QG] <;> omega)) (by first|omega|(simp [QG] <;> omega))) rfl rfl ?_|(refine shX ?_;first|refine zu rfl (zk zh rfl rfl rfl rfl rfl rfl (by decide) rfl) rfl rfl ?_|refine AD.step _ _ _ _ _ rfl (zk zh rfl rfl rfl rfl rfl rfl (by decide) rfl) rfl rfl ?_)|(refine zI ?_;first|refine yc zh rfl rfl rfl rfl rfl rfl rfl (by show _ * 32≤_;simp [zdR];omega) (by simp [zdR];omega) rfl rfl ?_)|refine sK ?_|refine sC (fun _=>?_) (fun _=>?_)|fail)
   exact ⟨1,by omega,tD,by repeat (first|exact zT|refine zM rfl ?_|(refine qg rfl ?_ ?_;· omega)),⟨zn rfl zl,rfl⟩⟩
  ·repeat' (first|refine zu rfl (zdg zh rfl (by first|omega|(simp [QG] <;> omega)) (by first|omega|(simp [QG] <;> omega))) rfl rfl ?_|(refine shX ?_;first|refine zu rfl (zk zh rfl rfl rfl rfl rfl rfl (by decide) rfl) rfl rfl ?_|refine AD.step _ _ _ _ _ rfl (zk zh rfl rfl rfl rfl rfl rfl (by decide) rfl) rfl rfl ?_)|(refine zI ?_;first|refine yc zh rfl rfl rfl rfl rfl rfl rfl (by show _ * 32≤_;simp [zdR];omega) (by simp [zdR];omega) rfl rfl ?_)|refine sK ?_|refine sC (fun _=>?_) (fun _=>?_)|fail)
   exact ⟨2,by omega,tD,by repeat (first|exact zT|refine zM rfl ?_|(refine qg rfl ?_ ?_;· omega)),⟨zn (by show some (HE.row 42 4 (_++_))=_;simp [zdR]) zl,rfl⟩⟩
  ·repeat' (first|refine zu rfl (zdg zh rfl (by first|omega|(simp [QG] <;> omega)) (by first|omega|(simp [QG] <;> omega))) rfl rfl ?_|(refine shX ?_;first|refine zu rfl (zk zh rfl rfl rfl rfl rfl rfl (by decide) rfl) rfl rfl ?_|refine AD.step _ _ _ _ _ rfl (zk zh rfl rfl rfl rfl rfl rfl (by decide) rfl) rfl rfl ?_)|(refine zI ?_;first|refine yc zh rfl rfl rfl rfl rfl rfl rfl (by show _ * 32≤_;simp [zdR];omega) (by simp [zdR];omega) rfl rfl ?_)|refine sK ?_|refine sC (fun _=>?_) (fun _=>?_)|fail)
   exact ⟨3,by omega,tD,by repeat (first|exact zT|refine zM rfl ?_|(refine qg rfl ?_ ?_;· omega)),⟨zn (by show some (HE.row 42 4 (_++_))=_;simp [zdR]) zl,rfl⟩⟩
  ·repeat' (first|refine sK ?_|refine sC (fun _=>?_) (fun _=>?_)|fail)
   exact ⟨.inr rfl,0,rfl,rfl⟩
theorem zji {α β:Type} {l:List α} {p:α→Bool} {f:α→β} {k:Nat} (h:k < l.length):(((l.take (k + 1)).filter p).map f)=((l.take k).filter p).map f++(if p l[k] then [f l[k]] else []):=by
 rw [List.take_succ_eq_append_getElem h,List.filter_append,List.map_append]
 cases hp:p l[k] <;> simp [hp]
set_option maxHeartbeats 20000000
theorem ziZ {g:Img} {m:Me} (h:MeOk g m) {x:Ins} (hx:x∈m.code):1≤x.op∧x.op≤75:=by
 have:=h.formed
 simp only [yV,Zf,Bool.and_eq_true,List.all_eq_true,codeOk] at this
 have:=(this.2.1.1.2 x hx).1
 exact zeZ (by simpa using this)
def isT (x:Ins):Bool:=zN x.op==8
def isC (c:Cl):Bool:=c.kind==1
def zjt (m:Me):List Ty:=m.params++m.locals++[m.ret]
theorem zpo (m:Me):zcw m=zjt m++(m.code.filter isT).map (·.t)++(m.clauses.filter isC).map (·.t):=rfl
theorem zmg (g:Img) (hf:zJ g=true) (m:Me) (h:MeOk g m):ACall Tryz.prog 45 [zq g,zG m] (pb (XP g m)):=by
 obtain ⟨s1,s2,s3,s4,s5,s6⟩:=h.small
 have hc3:=zjE m.params m.locals [m.ret] (by omega) (by omega) (by simp)
 have ht:PTells (.slc 4 [yK m.ret] true) (tys [m.ret]):=zg4 (zbe (yJ (.refl _) (yJ (.refl _) (yJ (.refl _) (yJ (.refl _) zbm)))) zeF)
 have hh:(zjt m).length≤19:=by simp [zjt];omega
 have cu:=Yl (zcw m) (fun t=>!zix g t) 86 [] [.ptr (zq g) 0] (fun t _=>zkX g hf t)
 rw [←List.not_all_eq_any_not,zqS h.formed] at cu
 refine zf zh Tryz.func45 rfl (by kernel_rfl) Tryz.ntmps45 (by simp) _ rfl (fun hw gB hgB=>?_)
 repeat' (first|refine zd1 18 ht rfl ?_|(refine zL ?_;first|refine zcd 5 rfl rfl rfl hc3 (by decide) rfl rfl rfl ?_)|refine sK ?_|refine sC (fun _=>?_) (fun _=>?_)|fail)
 refine zo (fun k:Nat=>[(2,.pv (.ptr (zq g) 0)),(3,.pv (.ptr (zG m) 0)),(5,.own 5),(22,.pv (.slc 6 (m.code.map zY) false)),(23,.pv (pi m.code.length)),(24,.pv (pi k))])
  (fun k=>[(5,.row 42 4 ((zjt m++((m.code.take k).filter isT).map (·.t)).map yK))]) (fun k=>k≤m.code.length) (fun k=>m.code.length - k) 0 (by omega)
  (by repeat (first|exact zT|refine zM rfl ?_|(refine qg rfl ?_ ?_;· simp))) ⟨yX rfl (by simp [zjt]) zl,rfl⟩ ?_
 rintro k hk
 by_cases hlt:k < m.code.length
 ·have he:=zA (f:=zY) hlt
  obtain ⟨o1,o2⟩:=ziZ h (List.getElem_mem hlt)
  have co:=zdN m.code[k].op o1 o2
  rw [(zkA _ o1 o2).2] at co
  have hsl:((m.code.take k).filter isT).length≤160:=by
   have:=List.length_filter_le isT (m.code.take k)
   rw [List.length_take] at this;omega
  have hn:=zji (p:=isT) (f:=(·.t)) hlt
  cases hop:zN m.code[k].op==8
  ·rw [show isT m.code[k]=false from hop,if_neg (by simp),List.append_nil] at hn
   repeat' (first|(refine shC ?_;first|refine qC co ?_)|(refine shX ?_;first|refine qX he ?_)|refine sK ?_|refine sC (fun _=>?_) (fun _=>?_)|fail)
   exact ⟨k + 1,hlt,tD,tS,⟨yX rfl (by rw [hn]) zl,rfl⟩⟩
  ·rw [show isT m.code[k]=true from hop,if_pos rfl] at hn
   repeat' (first|(refine shC ?_;first|refine qC co ?_)|(refine shX ?_;first|refine qX he ?_)|(refine zI ?_;first|refine yc zh rfl rfl rfl rfl rfl rfl rfl (by show _ * 32≤_;simp only [List.length_map,List.length_append,List.length_cons,List.length_nil];omega) (by simp only [List.length_map,List.length_append,List.length_cons,List.length_nil];omega) rfl rfl ?_)|refine sK ?_|refine sC (fun _=>?_) (fun _=>?_)|fail)
   exact ⟨k + 1,hlt,tD,tS,⟨yX rfl (by rw [hn];simp;rfl) zl,rfl⟩⟩
 ·have hk2:k=m.code.length:=by omega
  subst hk2
  have hsl:(m.code.filter isT).length≤160:=by
   have:=List.length_filter_le isT m.code
   omega
  rw [List.take_length]
  repeat' (first|refine sK ?_|refine sC (fun _=>?_) (fun _=>?_)|fail)
  refine zo (fun k:Nat=>[(2,.pv (.ptr (zq g) 0)),(5,.own 5),(44,.pv (.slc 10 (m.clauses.map yI) false)),(45,.pv (pi m.clauses.length)),(46,.pv (pi k))])
   (fun k=>[(5,.row 42 4 ((zjt m++(m.code.filter isT).map (·.t)++((m.clauses.take k).filter isC).map (·.t)).map yK))]) (fun k=>k≤m.clauses.length) (fun k=>m.clauses.length - k) 0 (by omega)
   (by repeat (first|exact zT|refine zM rfl ?_|(refine qg rfl ?_ ?_;· simp))) ⟨yX rfl (by simp) zl,rfl⟩ ?_
  clear hk hlt
  rintro k hk
  by_cases hlt:k < m.clauses.length
  ·have he:=zA (f:=yI) hlt
   have hsl2:((m.clauses.take k).filter isC).length≤6:=by
    have:=List.length_filter_le isC (m.clauses.take k)
    rw [List.length_take] at this;omega
   have hn:=zji (p:=isC) (f:=(·.t)) hlt
   cases hop:m.clauses[k].kind==1
   ·rw [show isC m.clauses[k]=false from hop,if_neg (by simp),List.append_nil] at hn
    repeat' (first|(refine shX ?_;first|refine qX he ?_)|refine sK ?_|refine sC (fun _=>?_) (fun _=>?_)|fail)
    exact ⟨k + 1,hlt,tD,tS,⟨yX rfl (by rw [hn]) zl,rfl⟩⟩
   ·rw [show isC m.clauses[k]=true from hop,if_pos rfl] at hn
    repeat' (first|(refine shX ?_;first|refine qX he ?_)|(refine zI ?_;first|refine yc zh rfl rfl rfl rfl rfl rfl rfl (by show _ * 32≤_;simp only [List.length_map,List.length_append,List.length_cons,List.length_nil];omega) (by simp only [List.length_map,List.length_append,List.length_cons,List.length_nil];omega) rfl rfl ?_)|refine sK ?_|refine sC (fun _=>?_) (fun _=>?_)|fail)
    exact ⟨k + 1,hlt,tD,tS,⟨yX rfl (by rw [hn];simp;rfl) zl,rfl⟩⟩
  ·have hk2:k=m.clauses.length:=by omega
   subst hk2
   rw [List.take_length,←zpo]
   repeat' (first|(refine shC ?_;first|refine qC cu ?_)|refine sK ?_|refine sC (fun _=>?_) (fun _=>?_)|fail)
   exact retq rfl (by simp [zi])
theorem ziD (g:Img) (m:Me) (h:MeOk g m):ACall Tryz.prog 61 [zq g,zG m] (pb (XP g m)):=by
 obtain ⟨s1,s2,s3,s4,s5,s6⟩:=h.small
 have cr:=XM g m.ret
 refine zf zh Tryz.func61 rfl (by kernel_rfl) Tryz.ntmps61 (by simp) _ rfl (fun hw gB hgB=>?_)
 cases hr:yN g m.ret
 ·rw [hr] at cr
  repeat' (first|(refine shC ?_;first|refine qC cr ?_)|refine sK ?_|refine sC (fun _=>?_) (fun _=>?_)|fail)
  exact retq rfl (by simp [zi,XP,hr])
 ·rw [hr] at cr
  repeat' (first|(refine shC ?_;first|refine qC cr ?_)|refine sK ?_|refine sC (fun _=>?_) (fun _=>?_)|fail)
  refine zo (fun k:Nat=>[(2,.pv (.ptr (zq g) 0)),(3,.pv (.ptr (zG m) 0)),(5,.pv (pi k))]) (fun _=>[])
   (fun k=>k≤m.params.length∧XP g m=((m.params.drop k).all (yN g)&&m.locals.all (yN g)&&m.code.all (fun x=>zN x.op != 8||yN g x.t)&&m.clauses.all (fun c=>c.kind != 1||yN g c.t))) (fun k=>m.params.length - k) 0 ⟨by omega,by simp [XP,hr]⟩ (tS) tH ?_
  rintro k ⟨hk,hv⟩
  by_cases hlt:k < m.params.length
  ·have he:=zA (f:=yK) hlt
   have c1:=XM g m.params[k]
   rw [ZO hlt] at hv
   cases hu:yN g m.params[k]
   ·rw [hu] at c1 hv
    repeat' (first|(refine shC ?_;first|refine qC c1 ?_)|(refine shX ?_;first|refine qX he ?_)|refine sK ?_|refine sC (fun _=>?_) (fun _=>?_)|fail)
    exact retq rfl (by rw [hv];simp [zi])
   ·rw [hu] at c1 hv
    repeat' (first|(refine shC ?_;first|refine qC c1 ?_)|(refine shX ?_;first|refine qX he ?_)|refine sK ?_|refine sC (fun _=>?_) (fun _=>?_)|fail)
    exact ⟨k + 1,⟨hlt,by rw [hv];simp⟩,tD,tS,tH⟩
  ·rw [drop_end (by omega)] at hv
   repeat' (first|refine sK ?_|refine sC (fun _=>?_) (fun _=>?_)|fail)
   refine zo (fun k:Nat=>[(2,.pv (.ptr (zq g) 0)),(3,.pv (.ptr (zG m) 0)),(6,.pv (pi k))]) (fun _=>[])
    (fun k=>k≤m.locals.length∧XP g m=((m.locals.drop k).all (yN g)&&m.code.all (fun x=>zN x.op != 8||yN g x.t)&&m.clauses.all (fun c=>c.kind != 1||yN g c.t))) (fun k=>m.locals.length - k) 0 ⟨by omega,by rw [hv];simp⟩ (tS) tH ?_
   clear hk hv hlt
   rintro k ⟨hk,hv⟩
   by_cases hlt:k < m.locals.length
   ·have he:=zA (f:=yK) hlt
    have c1:=XM g m.locals[k]
    rw [ZO hlt] at hv
    cases hu:yN g m.locals[k]
    ·rw [hu] at c1 hv
     repeat' (first|(refine shC ?_;first|refine qC c1 ?_)|(refine shX ?_;first|refine qX he ?_)|refine sK ?_|refine sC (fun _=>?_) (fun _=>?_)|fail)
     exact retq rfl (by rw [hv];simp [zi])
    ·rw [hu] at c1 hv
     repeat' (first|(refine shC ?_;first|refine qC c1 ?_)|(refine shX ?_;first|refine qX he ?_)|refine sK ?_|refine sC (fun _=>?_) (fun _=>?_)|fail)
     exact ⟨k + 1,⟨hlt,by rw [hv];simp⟩,tD,tS,tH⟩
   ·rw [drop_end (by omega)] at hv
    repeat' (first|refine sK ?_|refine sC (fun _=>?_) (fun _=>?_)|fail)
    refine zo (fun k:Nat=>[(2,.pv (.ptr (zq g) 0)),(3,.pv (.ptr (zG m) 0)),(7,.pv (pi k))]) (fun _=>[])
     (fun k=>k≤m.code.length∧XP g m=((m.code.drop k).all (fun x=>zN x.op != 8||yN g x.t)&&m.clauses.all (fun c=>c.kind != 1||yN g c.t))) (fun k=>m.code.length - k) 0 ⟨by omega,by rw [hv];simp⟩ (tS) tH ?_
    clear hk hv hlt
    rintro k ⟨hk,hv⟩
    by_cases hlt:k < m.code.length
    ·have he:=zA (f:=zY) hlt
     obtain ⟨o1,o2⟩:=ziZ h (List.getElem_mem hlt)
     have co:=zeg m.code[k].op o1 o2
     have c1:=XM g m.code[k].t
     rw [ZO hlt] at hv
     cases hop:zN m.code[k].op==8
     ·rw [show (zN m.code[k].op != 8)=true by rw [bne,hop];rfl] at hv
      repeat' (first|(refine shC ?_;first|refine qC co ?_)|(refine shX ?_;first|refine qX he ?_)|refine sK ?_|refine sC (fun _=>?_) (fun _=>?_)|fail)
      exact ⟨k + 1,⟨hlt,by rw [hv];simp⟩,tD,tS,tH⟩
     ·rw [show (zN m.code[k].op != 8)=false by rw [bne,hop];rfl] at hv
      cases hu:yN g m.code[k].t
      ·rw [hu] at c1 hv
       repeat' (first|(refine shC ?_;first|refine qC co ?_|refine qC c1 ?_)|(refine shX ?_;first|refine qX he ?_)|refine sK ?_|refine sC (fun _=>?_) (fun _=>?_)|fail)
       exact retq rfl (by rw [hv];simp [zi])
      ·rw [hu] at c1 hv
       repeat' (first|(refine shC ?_;first|refine qC co ?_|refine qC c1 ?_)|(refine shX ?_;first|refine qX he ?_)|refine sK ?_|refine sC (fun _=>?_) (fun _=>?_)|fail)
       exact ⟨k + 1,⟨hlt,by rw [hv];simp⟩,tD,tS,tH⟩
    ·rw [drop_end (by omega)] at hv
     repeat' (first|refine sK ?_|refine sC (fun _=>?_) (fun _=>?_)|fail)
     refine zo (fun k:Nat=>[(2,.pv (.ptr (zq g) 0)),(3,.pv (.ptr (zG m) 0)),(10,.pv (pi k))]) (fun _=>[])
      (fun k=>k≤m.clauses.length∧XP g m=(m.clauses.drop k).all (fun c=>c.kind != 1||yN g c.t)) (fun k=>m.clauses.length - k) 0 ⟨by omega,by rw [hv];simp⟩ (tS) tH ?_
     clear hk hv hlt
     rintro k ⟨hk,hv⟩
     by_cases hlt:k < m.clauses.length
     ·have he:=zA (f:=yI) hlt
      have c1:=XM g m.clauses[k].t
      rw [ZO hlt] at hv
      cases hop:m.clauses[k].kind==1
      ·rw [show (m.clauses[k].kind != 1)=true by rw [bne,hop];rfl] at hv
       repeat' (first|(refine shX ?_;first|refine qX he ?_)|refine sK ?_|refine sC (fun _=>?_) (fun _=>?_)|fail)
       exact ⟨k + 1,⟨hlt,by rw [hv];simp⟩,tD,tS,tH⟩
      ·rw [show (m.clauses[k].kind != 1)=false by rw [bne,hop];rfl] at hv
       cases hu:yN g m.clauses[k].t
       ·rw [hu] at c1 hv
        repeat' (first|(refine shC ?_;first|refine qC c1 ?_)|(refine shX ?_;first|refine qX he ?_)|refine sK ?_|refine sC (fun _=>?_) (fun _=>?_)|fail)
        exact retq rfl (by rw [hv];simp [zi])
       ·rw [hu] at c1 hv
        repeat' (first|(refine shC ?_;first|refine qC c1 ?_)|(refine shX ?_;first|refine qX he ?_)|refine sK ?_|refine sC (fun _=>?_) (fun _=>?_)|fail)
        exact ⟨k + 1,⟨hlt,by rw [hv];simp⟩,tD,tS,tH⟩
     ·rw [drop_end (by omega)] at hv
      repeat' (first|refine sK ?_|refine sC (fun _=>?_) (fun _=>?_)|fail)
      exact retq rfl (by rw [hv];rfl)
set_option maxHeartbeats 20000000
def YK (g:Img) (m:Int):Bool:=decide (m < 0)||zW (mAt g m).flags 4
def XT (g:Img) (t:Int) (what:Int→Int) (fs:List Int):Bool:=!(tbl g t).any (YK g)&&!fs.any fun f=>(methodsOf g f).any fun m=>YK g (what m)
def okI (g:Img) (m:Int):Prop:=m < 0∨mOk g m
theorem zgg (g:Img) (hF:Fine g) (m:Int) (hm:okI g m):ACall Tryz.prog 90 ([]++[pi m]++[.ptr (zq g) 0]) (pb (YK g m)):=by
 show ACall Tryz.prog 90 [pi m,.ptr (zq g) 0] (pb (YK g m))
 refine zf zh Tryz.func90 rfl (by kernel_rfl) Tryz.ntmps90 (by simp) _ rfl (fun hw gB hgB=>?_)
 by_cases h0:m < 0
 ·repeat' (first|refine sK ?_|refine sC (fun _=>?_) (fun _=>?_)|fail)
  exact retq rfl (by rw [YK,decide_eq_true h0];rfl)
 ·have hm2:mOk g m:=hm.resolve_left h0
  have hem:=ZR hm2
  have h:=Vs hF.formed hm2
  have c:=QH (mAt g m) 4
  rw [(za2 h.1 h.2).2.2.1] at c
  have hd:decide (m < 0)=false:=decide_eq_false h0
  repeat' (first|(refine shC ?_;first|refine qC c ?_)|(refine shX ?_;first|refine zu rfl (zk zh rfl rfl rfl rfl rfl rfl hm2.1 hem) rfl rfl ?_|refine AD.step _ _ _ _ _ rfl (zk zh rfl rfl rfl rfl rfl rfl hm2.1 hem) rfl rfl ?_)|refine sK ?_|refine sC (fun _=>?_) (fun _=>?_)|fail)
  exact retq rfl (by rw [YK,hd];rfl)
theorem zh1 (g:Img) (m:Int) (hm:okI g m):ACall Tryz.prog 108 [zq g,pi m] (pb (YK g m)):=by
 refine zf zh Tryz.func108 rfl (by kernel_rfl) Tryz.ntmps108 (by simp) _ rfl (fun hw gB hgB=>?_)
 by_cases h0:m < 0
 ·repeat' (first|refine sK ?_|refine sC (fun _=>?_) (fun _=>?_)|fail)
  exact retq rfl (by rw [YK,decide_eq_true h0];rfl)
 ·have hm2:mOk g m:=hm.resolve_left h0
  have hem:=ZR hm2
  have hd:decide (m < 0)=false:=decide_eq_false h0
  repeat' (first|(refine shC ?_;first|refine qC (zfw _) ?_)|(refine shX ?_;first|refine zu rfl (zk zh rfl rfl rfl rfl rfl rfl hm2.1 hem) rfl rfl ?_|refine AD.step _ _ _ _ _ rfl (zk zh rfl rfl rfl rfl rfl rfl hm2.1 hem) rfl rfl ?_)|refine sK ?_|refine sC (fun _=>?_) (fun _=>?_)|fail)
  exact retq rfl (by rw [YK,hd];rfl)
theorem zlw {g:Img} (hW:Wl g) {t m:Int} (hm:mOk g m) (hb:zB g (Qw g m)=0→Qw g m∈up g t):mOk g (zae g t m):=by
 rw [zae]
 split
 ·exact hm
 ·rename_i h
  have:=zkL hW hb h
  rw [zx this]
  exact zgU (List.getElem_mem this)
theorem zlT {g:Img} (hW:Wl g) {t m:Int} (hk:zB g t=0):okI g (XG g t m):=by
 rw [XG]
 cases h:zi3 g t m with
 | none=>exact .inl (by show (-1:Int) < 0;omega)
 | some k =>
  have:=List.mem_of_find?_eq_some h
  obtain ⟨u,hu,hku⟩:=List.mem_flatMap.1 this
  obtain ⟨q1,q2,q3⟩:=up0 hW hk hu hku
  exact .inr (zlw hW q1 q3)
theorem zrg {g:Img} (hW:Wl g) {t m:Int} (hm:mOk g m) (hk:zB g t=0) (hb:zB g (Qw g m)=0→Qw g m∈up g t):okI g (QB g t m):=by
 rw [QB]
 split
 ·exact zlT hW hk
 ·exact .inr (zlw hW hm hb)
theorem zqy {g:Img} (hF:Fm g) (t:Int):(Yi g t).length≤g.types.length:=by
 have:=(zid hF t).2.len
 rw [Yi,sortL]
 simpa using this
theorem zlU (g:Img) (hF:Fine g) (t:Int) (hk:zB g t=0):ACall Tryz.prog 47 [zq g,pi t] (pb (XT g t (XG g t) (Yi g t))):=by
 have hW:=zao hF.well
 obtain ⟨hgt,_,hgm,_⟩:=zF hF.formed
 have c1:=zhF g hF t
 have c2:=QT (tbl g t) (YK g) 90 [] [.ptr (zq g) 0] (fun x hx=>zgg g hF x (.inr (zgU hx)))
 have c3:=zf0 g t (zdc hF.formed)
 have hfpl:=zqy (zdc hF.formed) t
 refine zf zh Tryz.func47 rfl (by kernel_rfl) Tryz.ntmps47 (by simp) _ rfl (fun hw gB hgB=>?_)
 rw [XT]
 cases ho:(tbl g t).any (YK g)
 ·rw [ho] at c2
  repeat' (first|(refine shC ?_;first|refine qC c1 ?_|refine qC c2 ?_|refine qC c3 ?_)|refine sK ?_|refine sC (fun _=>?_) (fun _=>?_)|fail)
  refine zo (fun i:Nat=>[(1,.pv (pi t)),(2,.pv (.ptr (zq g) 0)),(5,.pv (.fn (.func 90) [] [.ptr (zq g) 0])),(18,.pv (ints (Yi g t))),(19,.pv (pi (Yi g t).length)),(20,.pv (pi i))]) (fun _=>[])
   (fun i=>i≤(Yi g t).length∧((Yi g t).any fun f=>(methodsOf g f).any fun m=>YK g (XG g t m))=((Yi g t).drop i).any fun f=>(methodsOf g f).any fun m=>YK g (XG g t m)) (fun i=>(Yi g t).length - i) 0 ⟨by omega,rfl⟩
   (by repeat (first|exact zT|refine zM rfl ?_|(refine qg rfl ?_ ?_;· simp))) tH ?_
  rintro i ⟨hi,hr⟩
  by_cases hlt:i < (Yi g t).length
  ·obtain ⟨f,hf⟩:∃ f,f=(Yi g t)[i]:=⟨_,rfl⟩
   have hef:((Yi g t).map pi)[i]?=some (pi f):=by rw [hf];exact zA (f:=pi) hlt
   have cm:=YR g f (by omega)
   have hml:=qP g f
   rw [QF hlt,←hf] at hr
   repeat' (first|(refine shC ?_;first|refine qC cm ?_)|(refine shX ?_;first|refine qX hef ?_)|refine sK ?_|refine sC (fun _=>?_) (fun _=>?_)|fail)
   refine zo (fun j:Nat=>[(1,.pv (pi t)),(2,.pv (.ptr (zq g) 0)),(5,.pv (.fn (.func 90) [] [.ptr (zq g) 0])),(18,.pv (ints (Yi g t))),(19,.pv (pi (Yi g t).length)),(20,.pv (pi i)),(26,.pv (ints (methodsOf g f))),(27,.pv (pi (methodsOf g f).length)),(28,.pv (pi j))]) (fun _=>[])
    (fun j=>j≤(methodsOf g f).length∧((Yi g t).any fun f=>(methodsOf g f).any fun m=>YK g (XG g t m))=((((methodsOf g f).drop j).any fun m=>YK g (XG g t m))||((Yi g t).drop (i + 1)).any fun f=>(methodsOf g f).any fun m=>YK g (XG g t m))) (fun j=>(methodsOf g f).length - j) 0 ⟨by omega,hr⟩
    (by repeat (first|exact zT|refine zM rfl ?_|(refine qg rfl ?_ ?_;· simp))) tH ?_
   clear hr
   rintro j ⟨hj,hr⟩
   by_cases hjl:j < (methodsOf g f).length
   ·obtain ⟨m,hm⟩:∃ m,m=(methodsOf g f)[j]:=⟨_,rfl⟩
    have hem:((methodsOf g f).map pi)[j]?=some (pi m):=by rw [hm];exact zA (f:=pi) hjl
    have hmk:mOk g m:=by rw [hm];exact yx (List.getElem_mem hjl)
    have cf:=zp9 g hF t m hmk hk
    have cv:=zgg g hF (XG g t m) (zlT hW hk)
    rw [QF hjl,←hm] at hr
    cases hop:YK g (XG g t m)
    ·rw [hop] at cv hr
     repeat' (first|(refine shC ?_;first|refine qC cf ?_|refine qV (cv) ?_)|(refine shX ?_;first|refine qX hem ?_)|refine sK ?_|refine sC (fun _=>?_) (fun _=>?_)|fail)
     exact ⟨j + 1,⟨hjl,hr⟩,tD,tS,tH⟩
    ·rw [hop] at cv hr
     repeat' (first|(refine shC ?_;first|refine qC cf ?_|refine qV (cv) ?_)|(refine shX ?_;first|refine qX hem ?_)|refine sK ?_|refine sC (fun _=>?_) (fun _=>?_)|fail)
     exact retq rfl (by rw [hr];rfl)
   ·rw [drop_end (by omega)] at hr
    repeat' (first|refine sK ?_|refine sC (fun _=>?_) (fun _=>?_)|fail)
    exact ⟨i + 1,⟨hlt,hr⟩,tD,tS,tH⟩
  ·rw [drop_end (by omega)] at hr
   repeat' (first|refine sK ?_|refine sC (fun _=>?_) (fun _=>?_)|fail)
   exact retq rfl (by rw [hr];rfl)
 ·rw [ho] at c2
  repeat' (first|(refine shC ?_;first|refine qC c1 ?_|refine qC c2 ?_)|refine sK ?_|refine sC (fun _=>?_) (fun _=>?_)|fail)
  exact retq rfl rfl
theorem ziz (g:Img) (hF:Fine g) (t:Int) (hk:zB g t=0):ACall Tryz.prog 63 [zq g,pi t] (pb (XT g t (QB g t) (Zi g t))):=by
 have hW:=zao hF.well
 have hFm:=zdc hF.formed
 obtain ⟨hgt,_,hgm,hgf⟩:=zF hF.formed
 have c1:=zdD g hF _ t (Nat.le_refl _)
 have c3:=zfP g t (by omega) (fun td h=>by have:=(ZH (hgf td h)).2.2.2.2.1;omega)
 refine zf zh Tryz.func63 rfl (by kernel_rfl) Tryz.ntmps63 (by simp) _ rfl (fun hw gB hgB=>?_)
 rw [XT]
 obtain ⟨N,hN⟩:∃ N,N=(Zi g t).any fun f=>(methodsOf g f).any fun m=>YK g (QB g t m):=⟨_,rfl⟩
 rw [←hN]
 repeat' (first|(refine shC ?_;first|refine qC c1 ?_)|refine sK ?_|refine sC (fun _=>?_) (fun _=>?_)|fail)
 refine zo (fun i:Nat=>[(1,.pv (pi t)),(2,.pv (.ptr (zq g) 0)),(5,.pv (ints (tbl g t))),(6,.pv (pi i))]) (fun _=>[]) (fun i=>i≤(tbl g t).length∧(tbl g t).any (YK g)=((tbl g t).drop i).any (YK g)) (fun i=>(tbl g t).length - i) 0 ⟨by omega,rfl⟩ (tS) tH ?_
 have htl:=zkp hF t
 rintro i ⟨hi,hr⟩
 by_cases hlt:i < (tbl g t).length
 ·have he:((tbl g t).map pi)[i]?=some (pi (tbl g t)[i]):=zA (f:=pi) hlt
  have co:=zh1 g (tbl g t)[i] (.inr (zgU (List.getElem_mem hlt)))
  rw [QF hlt] at hr
  cases ho:YK g (tbl g t)[i]
  ·rw [ho] at co hr
   repeat' (first|(refine shC ?_;first|refine qC co ?_)|(refine shX ?_;first|refine qX he ?_)|refine sK ?_|refine sC (fun _=>?_) (fun _=>?_)|fail)
   exact ⟨i + 1,⟨hlt,hr⟩,tD,tS,tH⟩
  ·rw [ho] at co hr
   repeat' (first|(refine shC ?_;first|refine qC co ?_)|(refine shX ?_;first|refine qX he ?_)|refine sK ?_|refine sC (fun _=>?_) (fun _=>?_)|fail)
   exact retq rfl (by rw [hr];rfl)
 ·rw [drop_end (by omega)] at hr
  rw [hr]
  clear hr
  repeat' (first|(refine shC ?_;first|refine qC c3 ?_)|refine sK ?_|refine sC (fun _=>?_) (fun _=>?_)|fail)
  refine zo (fun i:Nat=>[(1,.pv (pi t)),(2,.pv (.ptr (zq g) 0)),(7,.pv (ints (Zi g t))),(8,.pv (pi i))]) (fun _=>[])
   (fun i=>i≤(Zi g t).length∧N=((Zi g t).drop i).any fun f=>(methodsOf g f).any fun m=>YK g (QB g t m)) (fun i=>(Zi g t).length - i) 0 ⟨by omega,hN⟩ (tS) tH ?_
  have hfl:(Zi g t).length≤1000:=by
   have:(Zi g t).length≤(nums g.types.length).length:=List.length_filter_le _ _
   simp [nums] at this;omega
  rintro i ⟨hi,hr⟩
  by_cases hlt:i < (Zi g t).length
  ·obtain ⟨f,hf⟩:∃ f,f=(Zi g t)[i]:=⟨_,rfl⟩
   have hfk:zB g f=2:=hW.rf_kind ((zdK hFm).1 (by rw [hf];exact List.getElem_mem hlt))
   have hef:((Zi g t).map pi)[i]?=some (pi f):=by rw [hf];exact zA (f:=pi) hlt
   have cm:=YS g f (by omega)
   have hml:=qP g f
   rw [QF hlt,←hf] at hr
   repeat' (first|(refine shC ?_;first|refine qC cm ?_)|(refine shX ?_;first|refine qX hef ?_)|refine sK ?_|refine sC (fun _=>?_) (fun _=>?_)|fail)
   refine zo (fun j:Nat=>[(1,.pv (pi t)),(2,.pv (.ptr (zq g) 0)),(7,.pv (ints (Zi g t))),(8,.pv (pi i)),(9,.pv (ints (methodsOf g f))),(10,.pv (pi j))]) (fun _=>[])
    (fun j=>j≤(methodsOf g f).length∧N=((((methodsOf g f).drop j).any fun m=>YK g (QB g t m))||((Zi g t).drop (i + 1)).any fun f=>(methodsOf g f).any fun m=>YK g (QB g t m))) (fun j=>(methodsOf g f).length - j) 0 ⟨by omega,hr⟩ (tS) tH ?_
   clear hr
   rintro j ⟨hj,hr⟩
   by_cases hjl:j < (methodsOf g f).length
   ·obtain ⟨m,hm⟩:∃ m,m=(methodsOf g f)[j]:=⟨_,rfl⟩
    have hmf:m∈methodsOf g f:=by rw [hm];exact List.getElem_mem hjl
    have hem:((methodsOf g f).map pi)[j]?=some (pi m):=by rw [hm];exact zA (f:=pi) hjl
    have hmk:mOk g m:=yx hmf
    have hb:zB g (Qw g m)=0→Qw g m∈up g t:=fun h=>by rw [Wj hmf,hfk] at h;omega
    have cd:=zow g hF t m hmk hk hb
    have cv:=zh1 g (QB g t m) (zrg hW hmk hk hb)
    rw [QF hjl,←hm] at hr
    cases hop:YK g (QB g t m)
    ·rw [hop] at cv hr
     repeat' (first|(refine shC ?_;first|refine qC cd ?_|refine qC cv ?_)|(refine shX ?_;first|refine qX hem ?_)|refine sK ?_|refine sC (fun _=>?_) (fun _=>?_)|fail)
     exact ⟨j + 1,⟨hjl,hr⟩,tD,tS,tH⟩
    ·rw [hop] at cv hr
     repeat' (first|(refine shC ?_;first|refine qC cd ?_|refine qC cv ?_)|(refine shX ?_;first|refine qX hem ?_)|refine sK ?_|refine sC (fun _=>?_) (fun _=>?_)|fail)
     exact retq rfl (by rw [hr];rfl)
   ·rw [drop_end (by omega)] at hr
    repeat' (first|refine sK ?_|refine sC (fun _=>?_) (fun _=>?_)|fail)
    exact ⟨i + 1,⟨hlt,hr⟩,tD,tS,tH⟩
  ·rw [drop_end (by omega)] at hr
   repeat' (first|refine sK ?_|refine sC (fun _=>?_) (fun _=>?_)|fail)
   exact retq rfl (by rw [hr];rfl)
end Go.Cg
