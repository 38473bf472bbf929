/- A part of the walks by abstract values: no statement of its own. -/
import Derived.Test.YtdbgicaoddibdaaGreatT15
import Derived.Test.YtdbgicaoddibdaaGreatT28
import Derived.Test.YtdbgicaoddibdaaGreatT16
set_option linter.unusedVariables false
set_option linter.unusedSimpArgs false

namespace Go.Cg
open Go.Proofs
set_option maxHeartbeats 20000000
theorem zeE {tb:Tab} {rs:List ResultVar} {i t:Nat} {H' H:HEnv} {env:Env} (hr:rs=[.tmp t]) (hg:env.get t=some (.own i)) (hf:Yj H H' [(t,.own i)]):zho tb rs (.own i) H' .ret env H:=⟨.inr rfl,.inr ⟨t,hr,hg,hf⟩⟩
theorem zkS (l:List TD) (hl:l.length≤1000):ACallM Tryz.prog 58 [.pv (.slc 4 (l.map ZB) false)] [] (.own 10) [(10,.mrow 43 4 (l.map ZB))]:=by
 refine yB zf Tryz.func58 rfl zws Tryz.ntmps58 zwy63 _ rfl (fun gB hw1=>?_)
 repeat' (first|refine zg8 (t:=2) 10 43 4 zwy67 rfl rfl ?_|refine XY zf rfl rfl rfl rfl rfl rfl rfl (fun bb hbb=>?_)|refine zj3 zf 10 rfl rfl rfl rfl rfl rfl rfl rfl rfl ?_|refine znC 10 rfl ?_|(refine yC ?_;first|refine XI zf rfl rfl rfl rfl rfl rfl rfl (by show _ * 56≤_;simp;omega) zwy64 rfl rfl ?_)|refine sA ?_|refine sC (fun _=>?_) (fun _=>?_)|fail)
 ·rename_i h;rw [hbb h];exact zeE rfl rfl tH
 ·exact zeE rfl rfl tH
theorem zle (l:List Me) (hl:l.length≤1000):ACallM Tryz.prog 60 [.pv (.slc 12 (l.map yh) false)] [] (.own 12) [(12,.mrow 50 12 (l.map yh))]:=by
 refine yB zf Tryz.func60 rfl zws Tryz.ntmps60 zwy63 _ rfl (fun gB hw1=>?_)
 repeat' (first|refine zg8 (t:=2) 12 50 12 zwy67 rfl rfl ?_|refine XY zf rfl rfl rfl rfl rfl rfl rfl (fun bb hbb=>?_)|refine zj3 zf 12 rfl rfl rfl rfl rfl rfl rfl rfl rfl ?_|refine znC 12 rfl ?_|(refine yC ?_;first|refine XI zf rfl rfl rfl rfl rfl rfl rfl (by show _ * 168≤_;simp;omega) zwy64 rfl rfl ?_)|refine sA ?_|refine sC (fun _=>?_) (fun _=>?_)|fail)
 ·rename_i h;rw [hbb h];exact zeE rfl rfl tH
 ·exact zeE rfl rfl tH
theorem zkN (l:List Fd) (hl:l.length≤1000):ACall Tryz.prog 59 [.slc 7 (l.map Yo) false] (.slc 7 (l.map Yo) false):=by
 refine zi zf Tryz.func59 rfl zws Tryz.ntmps59 zwy63 _ rfl (fun hw gB hgB=>?_)
 repeat' (first|refine XY zf rfl rfl rfl rfl rfl rfl rfl (fun bb hbb=>?_)|refine zy rfl (QH zf rfl rfl rfl rfl rfl) rfl rfl ?_|(refine yC ?_;first|refine zy rfl (Wu zf rfl rfl (.inl rfl) rfl rfl (by show _ * 64≤_;simp;omega) zwy64) rfl rfl ?_)|refine sA ?_|refine sC (fun _=>?_) (fun _=>?_)|fail)
 ·rename_i h;have:l=[]:=by have:=hbb h;simpa using this
  subst this;exact zbl (t:=2) (ps:=[.slc 7 [] false]) rfl (Qy 7 false) rfl rfl
 ·exact retq rfl rfl
theorem zkV (l:List Int) (hl:l.length≤1000):ACall Tryz.prog 61 [.slc 1 (l.map pi) false] (.slc 1 (l.map pi) false):=by
 refine zi zf Tryz.func61 rfl zws Tryz.ntmps61 zwy63 _ rfl (fun hw gB hgB=>?_)
 repeat' (first|refine XY zf rfl rfl rfl rfl rfl rfl rfl (fun bb hbb=>?_)|refine zy rfl (QH zf rfl rfl rfl rfl rfl) rfl rfl ?_|(refine yC ?_;first|refine zy rfl (Wu zf rfl rfl (.inl rfl) rfl rfl zwy81 zwy64) rfl rfl ?_)|refine sA ?_|refine sC (fun _=>?_) (fun _=>?_)|fail)
 ·rename_i h;have:l=[]:=by have:=hbb h;simpa using this
  subst this;exact zbl (t:=2) (ps:=[.slc 1 [] false]) rfl (Qy 1 false) rfl rfl
 ·exact retq rfl rfl
theorem zjN (l:List Ins) (hl:l.length≤1000):ACall Tryz.prog 63 [.slc 6 (l.map qx) false] (.slc 6 (l.map qx) false):=by
 refine zi zf Tryz.func63 rfl zws Tryz.ntmps63 zwy63 _ rfl (fun hw gB hgB=>?_)
 repeat' (first|refine XY zf rfl rfl rfl rfl rfl rfl rfl (fun bb hbb=>?_)|refine zy rfl (QH zf rfl rfl rfl rfl rfl) rfl rfl ?_|(refine yC ?_;first|refine zy rfl (Wu zf rfl rfl (.inl rfl) rfl rfl (by show _ * 48≤_;simp;omega) zwy64) rfl rfl ?_)|refine sA ?_|refine sC (fun _=>?_) (fun _=>?_)|fail)
 ·rename_i h;have:l=[]:=by have:=hbb h;simpa using this
  subst this;exact zbl (t:=2) (ps:=[.slc 6 [] false]) rfl (Qy 6 false) rfl rfl
 ·exact retq rfl rfl
theorem zlb (l:List Cl) (hl:l.length≤1000):ACall Tryz.prog 64 [.slc 10 (l.map Zg) false] (.slc 10 (l.map Zg) false):=by
 refine zi zf Tryz.func64 rfl zws Tryz.ntmps64 zwy63 _ rfl (fun hw gB hgB=>?_)
 repeat' (first|refine XY zf rfl rfl rfl rfl rfl rfl rfl (fun bb hbb=>?_)|refine zy rfl (QH zf rfl rfl rfl rfl rfl) rfl rfl ?_|(refine yC ?_;first|refine zy rfl (Wu zf rfl rfl (.inl rfl) rfl rfl (by show _ * 80≤_;simp;omega) zwy64) rfl rfl ?_)|refine sA ?_|refine sC (fun _=>?_) (fun _=>?_)|fail)
 ·rename_i h;have:l=[]:=by have:=hbb h;simpa using this
  subst this;exact zbl (t:=2) (ps:=[.slc 10 [] false]) rfl (Qy 10 false) rfl rfl
 ·exact retq rfl rfl
end Go.Cg
