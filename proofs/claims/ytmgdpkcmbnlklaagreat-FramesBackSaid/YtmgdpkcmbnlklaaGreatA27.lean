/- A part of the walks by abstract values: no statement of its own. -/
import Derived.Test.YtmgdpkcmbnlklaaGreatA26
import Derived.Test.YtmgdpkcmbnlklaaGreatA20
set_option linter.unusedVariables false
set_option linter.unusedSimpArgs false
namespace Go.Cg
open Go.Proofs
set_option maxHeartbeats 20000000
def YB (ws:List Int) (a x:Int):List Int:=if 0 < a∧a < ws.length then ws.set a.toNat x else ws
def Ze (ws:List Int) (a:Int):Int:=if a < ws.length then ws.getD a.toNat 0 else 0
theorem WR (ws:List Int) (a x:Int):(YB ws a x).length=ws.length:=by
 unfold YB;split <;> simp
theorem Vs (ws:List Int) (fr u a x:Int) (h0:0≤a) (hl:ws.length≤100000) (us:Nat→Value):ACallM Tryz.prog 30 [.box 0 0,.pv (u64 a),.pv (u64 x)] (Yd ws fr u++zu us [0]) (.pv (.tup [])) (Yd (YB ws a x) fr u++zu us [0]):=by
 have hw:IntKind.u64.wrap (((ws.map u64).length:Nat):Int)=ws.length:=by rw [List.length_map,zM (by omega) (by omega)]
 by_cases h:0 < a∧a < ws.length
 ·have hd1:decide (0 < a)=true:=decide_eq_true h.1
  have hd2:decide (a < IntKind.u64.wrap (((ws.map u64).length:Nat):Int))=true:=decide_eq_true (by rw [hw];exact h.2)
  have hil:a.toNat < (ws.map u64).length:=by rw [List.length_map];omega
  have hpp:(ws.map u64)[a.toNat]?=some (u64 (ws[a.toNat]'(by omega))):=by rw [List.getElem?_map,List.getElem?_eq_getElem (by omega)];rfl
  refine zn zk Tryz.func30 rfl (by kernel_rfl) Tryz.ntmps30 (by simp) _ rfl (fun gB hw1=>?_)
  repeat' (first|refine zy rfl (XD (b:=false) rfl Tryz.underlying25 rfl rfl) rfl rfl ?_|refine sM ?_|(refine shX ?_;first|refine zy rfl (zC (k:=a.toNat) zk rfl rfl rfl rfl rfl rfl rfl (by omega) hil) rfl rfl ?_|refine AD.step _ _ _ _ _ rfl (zC (k:=a.toNat) zk rfl rfl rfl rfl rfl rfl rfl (by omega) hil) rfl rfl ?_)|(refine yj ?_;first|refine yS (k:=a.toNat) (j:=0) zk rfl rfl rfl rfl rfl hpp rfl rfl rfl rfl rfl ?_)|refine sK ?_|refine sC (fun _=>?_) (fun _=>?_)|fail)
  exact ⟨.inl rfl,.inl ⟨[],rfl,rfl,⟨zh rfl (YF rfl (by rw [YB,if_pos h,List.map_set]) (by repeat (first|exact zi|refine zh rfl ?_))),rfl⟩⟩⟩
 ·have hp:YB ws a x=ws:=by rw [YB,if_neg h]
  rw [hp]
  by_cases h1:0 < a
  ·have hd1:decide (0 < a)=true:=decide_eq_true h1
   have hd2:decide (a < IntKind.u64.wrap (((ws.map u64).length:Nat):Int))=false:=decide_eq_false (by rw [hw];omega)
   refine zn zk Tryz.func30 rfl (by kernel_rfl) Tryz.ntmps30 (by simp) _ rfl (fun gB hw1=>?_)
   repeat' (first|refine zy rfl (XD (b:=false) rfl Tryz.underlying25 rfl rfl) rfl rfl ?_|refine sM ?_|refine sK ?_|refine sC (fun _=>?_) (fun _=>?_)|fail)
   exact ⟨.inl rfl,.inl ⟨[],rfl,rfl,⟨by repeat (first|exact zi|refine zh rfl ?_),rfl⟩⟩⟩
  ·have hd1:decide (0 < a)=false:=decide_eq_false h1
   refine zn zk Tryz.func30 rfl (by kernel_rfl) Tryz.ntmps30 (by simp) _ rfl (fun gB hw1=>?_)
   repeat' (first|refine zy rfl (XD (b:=false) rfl Tryz.underlying25 rfl rfl) rfl rfl ?_|refine sM ?_|refine sK ?_|refine sC (fun _=>?_) (fun _=>?_)|fail)
   exact ⟨.inl rfl,.inl ⟨[],rfl,rfl,⟨by repeat (first|exact zi|refine zh rfl ?_),rfl⟩⟩⟩
theorem zb2 (ws:List Int) (mv:Value) (fr u a:Int) (h0:0≤a) (hl:ws.length≤100000):ACall Tryz.prog 32 [.ptr (zan ws mv fr u) 0,u64 a] (u64 (Ze ws a)):=by
 have hw:IntKind.u64.wrap (((ws.map u64).length:Nat):Int)=ws.length:=by rw [List.length_map,zM (by omega) (by omega)]
 by_cases h:a < ws.length
 ·have:=zlj ws mv fr u a.toNat (by omega) hl
  rw [Ze,if_pos h,List.getD_eq_getElem?_getD,List.getElem?_eq_getElem (by omega)]
  rw [show ((a.toNat:Nat):Int)=a by omega] at this
  exact this
 ·rw [Ze,if_neg h]
  have hd:decide (IntKind.u64.wrap (((ws.map u64).length:Nat):Int)≤a)=true:=decide_eq_true (by rw [hw];omega)
  refine zf zk Tryz.func32 rfl (by kernel_rfl) Tryz.ntmps32 (by simp) _ rfl (fun hw gB hgB=>?_)
  repeat' (first|refine zy rfl (yF (b:=false) rfl Tryz.underlying25 rfl rfl) rfl rfl ?_|refine sK ?_|refine sC (fun _=>?_) (fun _=>?_)|fail)
  exact retq rfl rfl
structure Fr where
 method:Int
 at_:Int
 base:Int
 eval:Int
 size:Int
 deriving Inhabited
def ZM (f:Fr):PV:=.agg [pi f.method,pi f.at_,u64 f.base,u64 f.eval,pi f.size]
abbrev skH (ws:List Int) (fr lim:Int) (fs:List Fr):HEnv:=[(0,.cell (.agg [.own 7,.pv za1,.pv za1,.own 8,.pv (u64 1),.pv (u64 8),.pv (u64 fr),.pv (pi 0)])),(7,.mrow 33 1 (ws.map u64)),(8,.obj (MapSet Tryz.prog 86 3 [])),(30,.cell (.agg [.box 0 0,.pv (pi lim),.own 37])),(37,.mrow 71 5 (fs.map ZM))]
abbrev yQ (ws:List Int) (mv:Value) (fr lim:Int) (fs:List Fr):PV:=.agg [.ptr (zan ws mv fr 0) 0,pi lim,.slc 5 (fs.map ZM) false]
theorem yV (ws:List Int) (mv:Value) (fr lim:Int) (fs:List Fr):ACall Tryz.prog 18 [.ptr (yQ ws mv fr lim fs) 0] (pi fs.length):=by
 refine zf zk Tryz.func18 rfl (by kernel_rfl) Tryz.ntmps18 (by simp) _ rfl (fun hw gB hgB=>?_)
 repeat' (first|refine zy rfl (yF (b:=false) rfl Tryz.underlying27 rfl rfl) rfl rfl ?_|refine sA ?_|refine sC (fun _=>?_) (fun _=>?_)|fail)
 exact retq rfl (by rw [List.length_map];rfl)
theorem yU (ws:List Int) (mv:Value) (fr lim:Int) (fs:List Fr):ACall Tryz.prog 35 [.ptr (yQ ws mv fr lim fs) 0] (pb (decide (lim≤(fs.length:Int)))):=by
 refine zf zk Tryz.func35 rfl (by kernel_rfl) Tryz.ntmps35 (by simp) _ rfl (fun hw gB hgB=>?_)
 repeat' (first|refine AD.step _ _ _ _ _ rfl (yF (b:=false) rfl Tryz.underlying27 rfl rfl) rfl rfl ?_|refine sA ?_|refine sC (fun _=>?_) (fun _=>?_)|fail)
 exact retq rfl (by rw [List.length_map];rfl)
theorem ZF (ws:List Int) (mv:Value) (fr lim k:Int) (fs:List Fr):ACall Tryz.prog 37 [.ptr (yQ ws mv fr lim fs) 0,pi k] (pb (decide (0≤k∧k < (fs.length:Int)))):=by
 by_cases h0:0≤k
 ·have hd:decide (0≤k)=true:=decide_eq_true h0
  refine zf zk Tryz.func37 rfl (by kernel_rfl) Tryz.ntmps37 (by simp) _ rfl (fun hw gB hgB=>?_)
  repeat' (first|refine zy rfl (XD (b:=false) rfl Tryz.underlying27 rfl rfl) rfl rfl ?_|refine sK ?_|refine sC (fun _=>?_) (fun _=>?_)|fail)
  exact retq rfl (by simp only [List.length_map,h0,true_and];rfl)
 ·have hd:decide (0≤k)=false:=decide_eq_false h0
  refine zf zk Tryz.func37 rfl (by kernel_rfl) Tryz.ntmps37 (by simp) _ rfl (fun hw gB hgB=>?_)
  repeat' (first|refine zy rfl (XD (b:=false) rfl Tryz.underlying27 rfl rfl) rfl rfl ?_|refine sK ?_|refine sC (fun _=>?_) (fun _=>?_)|fail)
  exact retq rfl (by simp only [h0,false_and,decide_false];rfl)
theorem zeg (ws:List Int) (mv:Value) (fr lim:Int) (fs:List Fr) (h0:0≤fr) (h1:fr≤10000) (hf:fs.length≤64):ACall Tryz.prog 36 [.ptr (yQ ws mv fr lim fs) 0] (u64 (fr + 256 * fs.length)):=by
 refine zf zk Tryz.func36 rfl (by kernel_rfl) Tryz.ntmps36 (by simp) _ rfl (fun hw gB hgB=>?_)
 repeat' (first|(refine shC ?_;first|refine qC (zhM ws mv fr 0) ?_)|refine sA ?_|refine sC (fun _=>?_) (fun _=>?_)|fail)
 exact retq rfl (by
  simp only [zl,List.length_map]
  rw [zM (a:=(fs.length:Int)) (by omega) (by omega),zM (a:=(fs.length:Int) * 256) (by omega) (by omega),zM (by omega) (by omega)]
  congr 2;omega)
set_option maxHeartbeats 20000000
theorem Zj (x:Int):0≤IntKind.u64.wrap x:=by
 unfold IntKind.wrap
 simp only [IntKind.bits,IntKind.signed]
 simp
 omega
theorem Vm (us:Nat→Value):ACallM Tryz.prog 7 [] [] (.box 0 0) (Yd (ws0 4 7) 12 0):=by
 have cN:=fun (_:Nat→Value)=>zkR 4 (by decide) (by decide)
 rw [show (8 + (4:Int))=12 from rfl] at cN
 refine zn zk Tryz.func7 rfl (by kernel_rfl) Tryz.ntmps7 (by simp) _ rfl (fun gB hw1=>?_)
 repeat' (first|refine QJ 1 (zmr (za6 (Vx 4 false) (za6 (Vx 7 false) (za6 (Vx 12 false) (za6 (.refl _) zlY))))) rfl ?_|(refine zG ?_;first|refine yt [] (Yd (ws0 4 7) 12 0) [] [] [] yI rfl rfl rfl (by repeat (first|exact zi|refine zh rfl ?_)) tS rfl rfl rfl cN ?_)|refine sK ?_|refine sC (fun _=>?_) (fun _=>?_)|fail)
 exact ⟨.inr rfl,.inr ⟨0,rfl,rfl,⟨by repeat (first|exact zi|refine zh rfl ?_),rfl⟩⟩⟩
theorem zbF (ws:List Int) (fr lim:Int) (h1:1≤lim) (h2:lim≤64) (us:Nat→Value):ACallM Tryz.prog 8 [.box 0 0,.pv (pi lim)] (Yd ws fr 0++zu us [0]) (.box 30 0) (skH ws fr lim []++zu us [0]):=by
 have hd1:decide (lim < 1)=false:=decide_eq_false (by omega)
 have hd2:decide (64 < lim)=false:=decide_eq_false (by omega)
 refine zn zk Tryz.func8 rfl (by kernel_rfl) Tryz.ntmps8 (by simp) _ rfl (fun gB hw1=>?_)
 repeat' (first|refine zy rfl (yF (b:=false) rfl Tryz.underlying25 rfl rfl) rfl rfl ?_|refine AD.step _ _ _ _ _ rfl (yF (b:=false) rfl Tryz.underlying25 rfl rfl) rfl rfl ?_|refine Zx 30 37 2 71 5 (by decide) rfl rfl rfl rfl ?_|refine zy rfl (zg3 zk rfl ⟨_,rfl⟩ rfl rfl rfl rfl rfl rfl) rfl rfl ?_|(refine VX ?_;first|refine zc4 30 rfl rfl rfl rfl rfl rfl ?_)|refine sK ?_|refine sC (fun _=>?_) (fun _=>?_)|fail)
 exact ⟨.inr rfl,.inr ⟨4,rfl,rfl,⟨by repeat (first|exact zi|refine zh rfl ?_),rfl⟩⟩⟩
theorem zay (ws:List Int) (fr lim:Int) (us:Nat→Value):ACallM Tryz.prog 33 [.box 30 0] (skH ws fr lim []++zu us [0,30]) (.pv zlP) (skH ws fr lim []++zu us [0,30]):=by
 refine zn zk Tryz.func33 rfl (by kernel_rfl) Tryz.ntmps33 (by simp) _ rfl (fun gB hw1=>?_)
 repeat' (first|refine zy (r:=.pv (pi _)) rfl (zH (args:=fun ρ=>[.ptr (yQ ws (ρ 8) fr lim []) 0]) rfl (fun _=>rfl) (fun ρ=>yV ws (ρ 8) fr lim [])) rfl rfl ?_|refine AD.step _ _ _ (.pv (pi _)) _ rfl (zH (args:=fun ρ=>[.ptr (yQ ws (ρ 8) fr lim []) 0]) rfl (fun _=>rfl) (fun ρ=>yV ws (ρ 8) fr lim [])) rfl rfl ?_|refine sK ?_|refine sC (fun _=>?_) (fun _=>?_)|fail)
 exact ⟨.inr rfl,.inl ⟨_,rfl,rfl,⟨by repeat (first|exact zi|refine zh rfl ?_),rfl⟩⟩⟩
theorem XH (ws:List Int) (fr lim:Int) (l:List Fr) (f:Fr) (hf:l.length≤63) (us:Nat→Value):ACallM Tryz.prog 33 [.box 30 0] (skH ws fr lim (l++[f])++zu us [0,30]) (.ad 37 (l.length * 5)) (skH ws fr lim (l++[f])++zu us [0,30]):=by
 have hd:decide ((((l++[f]).length:Nat):Int)=0)=false:=decide_eq_false (by simp only [List.length_append,List.length_cons,List.length_nil];omega)
 have hm:IntKind.i64.wrap ((((l++[f]).map ZM).length:Int) - 1)=((l.length:Nat):Int):=by
  simp only [List.length_map,List.length_append,List.length_cons,List.length_nil]
  rw [wrap_in (by omega) (by omega)];omega
 have hl:l.length < ((l++[f]).map ZM).length:=by simp
 refine zn zk Tryz.func33 rfl (by kernel_rfl) Tryz.ntmps33 (by simp) _ rfl (fun gB hw1=>?_)
 repeat' (first|refine zy (r:=.pv (pi _)) rfl (zH (args:=fun ρ=>[.ptr (yQ ws (ρ 8) fr lim (l++[f])) 0]) rfl (fun _=>rfl) (fun ρ=>yV ws (ρ 8) fr lim (l++[f]))) rfl rfl ?_|refine AD.step _ _ _ (.pv (pi _)) _ rfl (zH (args:=fun ρ=>[.ptr (yQ ws (ρ 8) fr lim (l++[f])) 0]) rfl (fun _=>rfl) (fun ρ=>yV ws (ρ 8) fr lim (l++[f]))) rfl rfl ?_|refine sM ?_|(refine shX ?_;first|refine zy rfl (zC (k:=l.length) zk rfl rfl rfl rfl rfl rfl rfl hm hl) rfl rfl ?_|refine AD.step _ _ _ _ _ rfl (zC (k:=l.length) zk rfl rfl rfl rfl rfl rfl rfl hm hl) rfl rfl ?_)|refine sK ?_|refine sC (fun _=>?_) (fun _=>?_)|fail)
 exact ⟨.inr rfl,.inr ⟨2,rfl,rfl,⟨by repeat (first|exact zi|refine zh rfl ?_),rfl⟩⟩⟩
def zbc (ws:List Int) (a:Int) (k p:Nat):PV:=if p < k then u64 (Ze ws (IntKind.u64.wrap (a + IntKind.u64.wrap (p:Int)))) else u64 0
def Yx (ws:List Int) (a:Int) (n:Nat):List Int:=(List.range n).map fun p:Nat=>Ze ws (IntKind.u64.wrap (a + IntKind.u64.wrap (p:Int)))
theorem ziu (ws:List Int) (a:Int) (n:Nat):(List.range n).map (zbc ws a n)=(Yx ws a n).map u64:=by
 rw [Yx,List.map_map]
 refine List.map_congr_left fun p hp=>?_
 rw [zbc,if_pos (by simpa using hp)];rfl
theorem zaV (l:List Int):∀ p∈l.map u64,∃ u,p=.base u:=by
 intro p hp
 obtain ⟨x,_,rfl⟩:=List.mem_map.1 hp
 exact ⟨_,rfl⟩
theorem tSU {P:Prop} (h:P:=by repeat (first|exact qO|refine qE rfl ?_|(refine Xl rfl ?_ ?_;· (first|omega|(rw [wrap_in (by omega) (by omega)] <;> omega)|(rw [zM (by omega) (by omega)] <;> omega)|(dsimp only;rw [zM (by omega) (by omega)] <;> omega)|(simp;done))))):P:=h
theorem Wx (ws:List Int) (mv:Value) (fr lim a:Int) (n:Nat) (fs:List Fr) (hn:n≤200) (hl:ws.length≤100000):ACallR Tryz.prog 34 [.ptr (yQ ws mv fr lim fs) 0,u64 a,pi n] 33 1 ((Yx ws a n).map u64):=by
 have hmi:(n:Int)=((n:Nat):Int):=rfl
 refine za4 Tryz.func34 rfl (by kernel_rfl) Tryz.ntmps34 (by simp) rfl (fun hw gB hgB=>?_)
 repeat' (first|refine zdZ (m:=n) (sz:=1) zk 40 rfl rfl rfl rfl rfl hmi rfl rfl (by show 8 * _≤_;omega) (by simp [maxLen];omega) rfl rfl rfl ?_|refine sM ?_|refine sK ?_|refine sC (fun _=>?_) (fun _=>?_)|fail)
 refine zI (fun k:Nat=>[(0,.pv (.ptr (yQ ws mv fr lim fs) 0)),(1,.pv (u64 a)),(7,.own 40),(12,.pv (pi n)),(13,.pv (pi k))])
  (fun k=>[(40,.mrow 33 1 ((List.range n).map (zbc ws a k)))]) (fun k=>k≤n) (fun k=>n - k) 0 (by omega) tSU
  ⟨ZK rfl (zlC (fun p _=>by simp [zbc])) zi,rfl⟩ ?_
 rintro k hk
 by_cases hlt:k < n
 ·have hkl:k < ((List.range n).map (zbc ws a k)).length:=by simpa using hlt
  have hg:((List.range n).map (zbc ws a k))[k]?=some (u64 0):=by rw [zlA hlt,zbc,if_neg (by omega)]
  repeat' (first|(refine shC ?_;first|refine qC (zb2 ws mv fr 0 (IntKind.u64.wrap (a + IntKind.u64.wrap (k:Int))) (Zj _) hl) ?_)|(refine shX ?_;first|refine zy rfl (zC (k:=k) zk rfl rfl rfl rfl rfl rfl rfl rfl hkl) rfl rfl ?_|refine AD.step _ _ _ _ _ rfl (zC (k:=k) zk rfl rfl rfl rfl rfl rfl rfl rfl hkl) rfl rfl ?_)|(refine yj ?_;first|refine yS (k:=k) (j:=0) zk rfl rfl rfl rfl rfl hg rfl rfl rfl rfl rfl ?_)|refine sK ?_|refine sC (fun _=>?_) (fun _=>?_)|fail)
  refine ⟨k + 1,hlt,tD,tSU,⟨ZK rfl (zl2 fun p hp=>?_) zi,rfl⟩⟩
  by_cases e:p=k
  ·subst e;simp [zbc]
  ·simp only [zbc,if_neg e]
   by_cases h:p < k
   ·rw [if_pos h,if_pos (by omega)]
   ·rw [if_neg h,if_neg (by omega)]
 ·have hk2:k=n:=by omega
  subst hk2
  repeat' (first|refine Wn 40 rfl ?_|refine sK ?_|refine sC (fun _=>?_) (fun _=>?_)|fail)
  exact ⟨.inr rfl,40,rfl,by rw [←ziu];rfl⟩
set_option maxHeartbeats 20000000
def Zy (ws:List Int) (a:Int):Nat→List Int
 | 0=>ws
 | k + 1=>YB (Zy ws a k) (IntKind.u64.wrap (a + (k:Int))) 0
def VF (ws:List Int) (a:Int) (l:List Int):Nat→List Int
 | 0=>ws
 | k + 1=>YB (VF ws a l k) (IntKind.u64.wrap (a + IntKind.u64.wrap (k:Int))) (l.getD k 0)
theorem yT (ws:List Int) (a:Int):∀ k,(Zy ws a k).length=ws.length
 | 0=>rfl
 | k + 1=>by rw [Zy,WR,yT ws a k]
theorem VK (ws:List Int) (a:Int) (l:List Int):∀ k,(VF ws a l k).length=ws.length
 | 0=>rfl
 | k + 1=>by rw [VF,WR,VK ws a l k]
def Va (ws:List Int) (a:Int) (l:List Int):List Int:=VF (Zy ws a 256) a l l.length
theorem zaN (ws:List Int) (a:Int) (l:List Int):(Va ws a l).length=ws.length:=by rw [Va,VK,yT]
abbrev skR (lim:Int) (fs:List Fr) (us:Nat→Value):HEnv:=[(30,.cell (.agg [.box 0 0,.pv (pi lim),.own 37])),(37,.mrow 71 5 (fs.map ZM)),(1000,.pin (.own 0) (us 0)),(1030,.pin (.own 30) (us 30))]
def Yh (method at_ base a:Int):Fr:=⟨method,at_,base,a + 152,0⟩
theorem zbz (ws:List Int) (fr lim m n:Int) (l:List Int) (full:Bool) (fs:List Fr) (hno:lim≤fs.length∨n < l.length∨152 < n) (us:Nat→Value):ACallM Tryz.prog 16 [.box 30 0,.pv (pi m),.pv (pi n),.pv (.slc 1 (l.map u64) full)] (skH ws fr lim fs++zu us [0,30]) (.pv (pb false)) (skH ws fr lim fs++zu us [0,30]):=by
 by_cases h1:lim≤fs.length
 ·have hd1:decide (lim≤(fs.length:Int))=true:=decide_eq_true h1
  refine zn zk Tryz.func16 rfl (by kernel_rfl) Tryz.ntmps16 (by simp) _ rfl (fun gB hw1=>?_)
  repeat' (first|refine zy (r:=.pv (pb _)) rfl (zH (args:=fun ρ=>[.ptr (yQ ws (ρ 8) fr lim fs) 0]) rfl (fun _=>rfl) (fun ρ=>yU ws (ρ 8) fr lim fs)) rfl rfl ?_|refine AD.step _ _ _ (.pv (pb _)) _ rfl (zH (args:=fun ρ=>[.ptr (yQ ws (ρ 8) fr lim fs) 0]) rfl (fun _=>rfl) (fun ρ=>yU ws (ρ 8) fr lim fs)) rfl rfl ?_|refine sK ?_|refine sC (fun _=>?_) (fun _=>?_)|fail)
  exact ⟨.inr rfl,.inl ⟨_,rfl,rfl,⟨by repeat (first|exact zi|refine zh rfl ?_),rfl⟩⟩⟩
 ·have hd1:decide (lim≤(fs.length:Int))=false:=decide_eq_false h1
  by_cases h2:n < l.length
  ·have hd2:decide (n < (((l.map u64).length:Nat):Int))=true:=decide_eq_true (by rw [List.length_map];exact h2)
   refine zn zk Tryz.func16 rfl (by kernel_rfl) Tryz.ntmps16 (by simp) _ rfl (fun gB hw1=>?_)
   repeat' (first|refine zy (r:=.pv (pb _)) rfl (zH (args:=fun ρ=>[.ptr (yQ ws (ρ 8) fr lim fs) 0]) rfl (fun _=>rfl) (fun ρ=>yU ws (ρ 8) fr lim fs)) rfl rfl ?_|refine AD.step _ _ _ (.pv (pb _)) _ rfl (zH (args:=fun ρ=>[.ptr (yQ ws (ρ 8) fr lim fs) 0]) rfl (fun _=>rfl) (fun ρ=>yU ws (ρ 8) fr lim fs)) rfl rfl ?_|refine sK ?_|refine sC (fun _=>?_) (fun _=>?_)|fail)
   exact ⟨.inr rfl,.inl ⟨_,rfl,rfl,⟨by repeat (first|exact zi|refine zh rfl ?_),rfl⟩⟩⟩
  ·have hd2:decide (n < (((l.map u64).length:Nat):Int))=false:=decide_eq_false (by rw [List.length_map];exact h2)
   have hd3:decide (152 < n)=true:=decide_eq_true (by omega)
   refine zn zk Tryz.func16 rfl (by kernel_rfl) Tryz.ntmps16 (by simp) _ rfl (fun gB hw1=>?_)
   repeat' (first|refine zy (r:=.pv (pb _)) rfl (zH (args:=fun ρ=>[.ptr (yQ ws (ρ 8) fr lim fs) 0]) rfl (fun _=>rfl) (fun ρ=>yU ws (ρ 8) fr lim fs)) rfl rfl ?_|refine AD.step _ _ _ (.pv (pb _)) _ rfl (zH (args:=fun ρ=>[.ptr (yQ ws (ρ 8) fr lim fs) 0]) rfl (fun _=>rfl) (fun ρ=>yU ws (ρ 8) fr lim fs)) rfl rfl ?_|refine sK ?_|refine sC (fun _=>?_) (fun _=>?_)|fail)
   exact ⟨.inr rfl,.inl ⟨_,rfl,rfl,⟨by repeat (first|exact zi|refine zh rfl ?_),rfl⟩⟩⟩
theorem zaB (ws:List Int) (fr lim m n:Int) (l:List Int) (full:Bool) (fs:List Fr) (h1:fs.length < lim) (h64:lim≤64) (h2:l.length≤n) (h3:n≤152) (hf0:0≤fr) (hf1:fr≤10000) (hws:ws.length≤100000) (us:Nat→Value) :
  ACallM Tryz.prog 16 [.box 30 0,.pv (pi m),.pv (pi n),.pv (.slc 1 (l.map u64) full)] (skH ws fr lim fs++zu us [0,30]) (.pv (pb true)) (skH (Va ws (fr + 256 * fs.length) l) fr lim (fs++[Yh m 0 (fr + 256 * fs.length) (fr + 256 * fs.length)])++zu us [0,30]):=by
 have hd1:decide (lim≤(fs.length:Int))=false:=decide_eq_false (by omega)
 have hd2:decide (n < (((l.map u64).length:Nat):Int))=false:=decide_eq_false (by rw [List.length_map];omega)
 have hd3:decide (152 < n)=false:=decide_eq_false (by omega)
 obtain ⟨A,hA⟩:∃ A:Int,A=fr + 256 * fs.length:=⟨_,rfl⟩
 have cS:=fun mv=>zeg ws mv fr lim fs hf0 hf1 (by omega)
 rw [←hA] at cS
 have hE:(fs.map ZM)++[.agg [pi m,pi 0,u64 A,u64 (IntKind.u64.wrap (A + 152)),pi 0]]=(fs++[Yh m 0 A A]).map ZM:=by
  rw [zM (by omega) (by omega)];simp [Yh,ZM]
 refine zn zk Tryz.func16 rfl (by kernel_rfl) Tryz.ntmps16 (by simp) _ rfl (fun gB hw1=>?_)
 repeat' (first|refine zy (r:=.pv (pb _)) rfl (zH (args:=fun ρ=>[.ptr (yQ ws (ρ 8) fr lim fs) 0]) rfl (fun _=>rfl) (fun ρ=>yU ws (ρ 8) fr lim fs)) rfl rfl ?_|refine AD.step _ _ _ (.pv (pb _)) _ rfl (zH (args:=fun ρ=>[.ptr (yQ ws (ρ 8) fr lim fs) 0]) rfl (fun _=>rfl) (fun ρ=>yU ws (ρ 8) fr lim fs)) rfl rfl ?_|refine zy (r:=.pv (u64 _)) rfl (zH (args:=fun ρ=>[.ptr (yQ ws (ρ 8) fr lim fs) 0]) rfl (fun _=>rfl) (fun ρ=>cS (ρ 8))) rfl rfl ?_|refine AD.step _ _ _ (.pv (u64 _)) _ rfl (zH (args:=fun ρ=>[.ptr (yQ ws (ρ 8) fr lim fs) 0]) rfl (fun _=>rfl) (fun ρ=>cS (ρ 8))) rfl rfl ?_|refine sK ?_|refine sC (fun _=>?_) (fun _=>?_)|fail)
 refine zI (fun k:Nat=>[(0,.box 30 0),(1,.pv (pi m)),(3,.pv (.slc 1 (l.map u64) full)),(9,.pv (u64 A)),(27,.pv (u64 k))]) (fun k=>skH (Zy ws A k) fr lim fs++zu us [0,30]) (fun k=>k≤256) (fun k=>256 - k) 0 (by omega) tSU ⟨by repeat (first|exact zi|refine zh rfl ?_),rfl⟩ ?_
 rintro k hk
 by_cases hlt:k < 256
 ·have hdk:decide ((k:Int) < 256)=true:=decide_eq_true (by omega)
  have cP:=fun us'=>Vs (Zy ws A k) fr 0 (IntKind.u64.wrap (A + (k:Int))) 0 (Zj _) (by rw [yT];exact hws) us'
  repeat' (first|refine QN rfl hdk ?_|(refine zG ?_;first|refine yt (Yd (Zy ws A k) fr 0) (Yd (Zy ws A (k + 1)) fr 0) (skR lim fs us) [(0,.box 30 0),(1,.pv (pi m)),(3,.pv (.slc 1 (l.map u64) full)),(9,.pv (u64 A)),(27,.pv (u64 k))] [0] yI rfl rfl rfl (by repeat (first|exact zi|refine zh rfl ?_)) tS rfl rfl rfl cP ?_)|refine sK ?_|refine sC (fun _=>?_) (fun _=>?_)|fail)
  exact ⟨k + 1,hlt,tD,tSU,⟨by repeat (first|exact zi|refine zh rfl ?_),rfl⟩⟩
 ·have hk2:k=256:=by omega
  subst hk2
  have hdF:decide (((256:Nat):Int) < 256)=false:=rfl
  repeat' (first|refine YX rfl hdF ?_|refine sK ?_|refine sC (fun _=>?_) (fun _=>?_)|fail)
  refine zI (fun k:Nat=>[(0,.box 30 0),(1,.pv (pi m)),(9,.pv (u64 A)),(39,.pv (.slc 1 (l.map u64) full)),(40,.pv (pi l.length)),(41,.pv (pi k))]) (fun k=>skH (VF (Zy ws A 256) A l k) fr lim fs++zu us [0,30]) (fun k=>k≤l.length) (fun k=>l.length - k) 0 (by omega) tSU ⟨by repeat (first|exact zi|refine zh rfl ?_),rfl⟩ ?_
  rintro k hk
  by_cases hlt:k < l.length
  ·have hdk:decide ((k:Int) < (l.length:Int))=true:=decide_eq_true (by omega)
   have hx:(l.map u64)[k]?=some (u64 (l.getD k 0)):=by rw [List.getElem?_map,List.getD_eq_getElem?_getD,List.getElem?_eq_getElem hlt];rfl
   have cP:=fun us'=>Vs (VF (Zy ws A 256) A l k) fr 0 (IntKind.u64.wrap (A + IntKind.u64.wrap (k:Int))) (l.getD k 0) (Zj _) (by rw [VK,yT];exact hws) us'
   repeat' (first|(refine shX ?_;first|refine qX hx ?_)|(refine zG ?_;first|refine yt (Yd (VF (Zy ws A 256) A l k) fr 0) (Yd (VF (Zy ws A 256) A l (k + 1)) fr 0) (skR lim fs us) [(0,.box 30 0),(1,.pv (pi m)),(9,.pv (u64 A)),(39,.pv (.slc 1 (l.map u64) full)),(40,.pv (pi l.length)),(41,.pv (pi k))] [0] yI rfl rfl rfl (by repeat (first|exact zi|refine zh rfl ?_)) tS rfl rfl rfl cP ?_)|refine sK ?_|refine sC (fun _=>?_) (fun _=>?_)|fail)
   exact ⟨k + 1,hlt,tD,tSU,⟨by repeat (first|exact zi|refine zh rfl ?_),rfl⟩⟩
  ·have hk2:k=l.length:=by omega
   subst hk2
   have hdk:decide ((l.length:Int) < (l.length:Int))=false:=decide_eq_false (by omega)
   rw [←hA]
   repeat' (first|(refine yC ?_;first|refine Ws zk rfl rfl rfl rfl rfl rfl rfl (by show _ * 40≤_;simp only [List.length_map,List.length_cons,List.length_nil];omega) (by simp only [List.length_map,List.length_cons,List.length_nil];omega) rfl rfl ?_)|refine sK ?_|refine sC (fun _=>?_) (fun _=>?_)|fail)
   exact ⟨.inr rfl,.inl ⟨_,rfl,rfl,⟨by repeat (first|exact zi|refine zh rfl ?_|refine ZK rfl hE ?_),rfl⟩⟩⟩
set_option maxHeartbeats 20000000
def ZN (ws:List Int) (e s:Int) (l:List Int):Nat→List Int
 | 0=>ws
 | k + 1=>YB (ZN ws e s l k) (IntKind.u64.wrap (e + IntKind.u64.wrap (s + (k:Int)))) (l.getD k 0)
theorem Yk (ws:List Int) (e s:Int) (l:List Int):∀ k,(ZN ws e s l k).length=ws.length
 | 0=>rfl
 | k + 1=>by rw [ZN,WR,Yk ws e s l k]
def sized (f:Fr) (n:Int):Fr:=⟨f.method,f.at_,f.base,f.eval,n⟩
theorem QT (l:List Fr) (f:Fr):((l++[f]).map ZM)[l.length]?=some (.agg [pi f.method,pi f.at_,u64 f.base,u64 f.eval,pi f.size]):=by simp [ZM]
theorem zhk (l:List Fr) (f f':Fr) (n:Int) (h:f'=sized f n):((l++[f]).map ZM).set l.length (.agg [pi f.method,pi f.at_,u64 f.base,u64 f.eval,pi n])=(l++[f']).map ZM:=by subst h;simp [ZM,sized]
theorem za0 (ws:List Int) (fr lim:Int) (l:List Int) (full:Bool) (us:Nat→Value):ACallM Tryz.prog 11 [.box 30 0,.pv (.slc 1 (l.map u64) full)] (skH ws fr lim []++zu us [0,30]) (.pv (pb false)) (skH ws fr lim []++zu us [0,30]):=by
 have cT:=fun us'=>zay ws fr lim us'
 refine zn zk Tryz.func11 rfl (by kernel_rfl) Tryz.ntmps11 (by simp) _ rfl (fun gB hw1=>?_)
 repeat' (first|refine zy rfl (yF (b:=true) rfl Tryz.underlying68 rfl rfl) rfl rfl ?_|refine AD.step _ _ _ _ _ rfl (yF (b:=true) rfl Tryz.underlying68 rfl rfl) rfl rfl ?_|(refine zG ?_;first|refine yt (skH ws fr lim []) (skH ws fr lim []) [(1000,.pin (.own 0) (us 0)),(1030,.pin (.own 30) (us 30))] [(0,.box 30 0),(1,.pv (.slc 1 (l.map u64) full))] [0,30] yI rfl rfl rfl (by repeat (first|exact zi|refine zh rfl ?_)) tS rfl rfl rfl cT ?_)|refine sK ?_|refine sC (fun _=>?_) (fun _=>?_)|fail)
 exact ⟨.inr rfl,.inl ⟨_,rfl,rfl,⟨by repeat (first|exact zi|refine zh rfl ?_),rfl⟩⟩⟩
theorem zcs (ws:List Int) (fr lim:Int) (l:List Int) (full:Bool) (fs:List Fr) (f:Fr) (hf:fs.length≤63) (hs0:0≤f.size) (hs1:f.size≤96) (hno:96 < f.size + l.length) (us:Nat→Value):ACallM Tryz.prog 11 [.box 30 0,.pv (.slc 1 (l.map u64) full)] (skH ws fr lim (fs++[f])++zu us [0,30]) (.pv (pb false)) (skH ws fr lim (fs++[f])++zu us [0,30]):=by
 have cT:=fun us'=>XH ws fr lim fs f hf us'
 have hp:=QT fs f
 have hd:decide (IntKind.i64.wrap (96 - f.size) < (((l.map u64).length:Nat):Int))=true:=decide_eq_true (by rw [List.length_map,wrap_in (by omega) (by omega)];omega)
 refine zn zk Tryz.func11 rfl (by kernel_rfl) Tryz.ntmps11 (by simp) _ rfl (fun gB hw1=>?_)
 repeat' (first|refine zy rfl (Yj rfl Tryz.underlying68 rfl) rfl rfl ?_|refine sM ?_|refine zy rfl (zB (k:=fs.length) (j:=4) zk rfl rfl rfl rfl hp rfl) rfl rfl ?_|refine AD.step _ _ _ _ _ rfl (zB (k:=fs.length) (j:=4) zk rfl rfl rfl rfl hp rfl) rfl rfl ?_|(refine zG ?_;first|refine yt (skH ws fr lim (fs++[f])) (skH ws fr lim (fs++[f])) [(1000,.pin (.own 0) (us 0)),(1030,.pin (.own 30) (us 30))] [(0,.box 30 0),(1,.pv (.slc 1 (l.map u64) full))] [0,30] yI rfl rfl rfl (by repeat (first|exact zi|refine zh rfl ?_)) tS rfl rfl rfl cT ?_)|refine sK ?_|refine sC (fun _=>?_) (fun _=>?_)|fail)
 exact ⟨.inr rfl,.inl ⟨_,rfl,rfl,⟨by repeat (first|exact zi|refine zh rfl ?_),rfl⟩⟩⟩
theorem QM (ws:List Int) (fr lim:Int) (l:List Int) (full:Bool) (fs:List Fr) (f:Fr) (hf:fs.length≤63) (hs0:0≤f.size) (hyes:f.size + l.length≤96) (hws:ws.length≤100000) (us:Nat→Value) :
  ACallM Tryz.prog 11 [.box 30 0,.pv (.slc 1 (l.map u64) full)] (skH ws fr lim (fs++[f])++zu us [0,30]) (.pv (pb true)) (skH (ZN ws f.eval f.size l l.length) fr lim (fs++[sized f (f.size + l.length)])++zu us [0,30]):=by
 have cT:=fun us'=>XH ws fr lim fs f hf us'
 have hp:=QT fs f
 have hd:decide (IntKind.i64.wrap (96 - f.size) < (((l.map u64).length:Nat):Int))=false:=decide_eq_false (by rw [List.length_map,wrap_in (by omega) (by omega)];omega)
 refine zn zk Tryz.func11 rfl (by kernel_rfl) Tryz.ntmps11 (by simp) _ rfl (fun gB hw1=>?_)
 repeat' (first|refine zy rfl (Yj rfl Tryz.underlying68 rfl) rfl rfl ?_|refine sM ?_|refine zy rfl (zB (k:=fs.length) (j:=4) zk rfl rfl rfl rfl hp rfl) rfl rfl ?_|refine AD.step _ _ _ _ _ rfl (zB (k:=fs.length) (j:=4) zk rfl rfl rfl rfl hp rfl) rfl rfl ?_|(refine zG ?_;first|refine yt (skH ws fr lim (fs++[f])) (skH ws fr lim (fs++[f])) [(1000,.pin (.own 0) (us 0)),(1030,.pin (.own 30) (us 30))] [(0,.box 30 0),(1,.pv (.slc 1 (l.map u64) full))] [0,30] yI rfl rfl rfl (by repeat (first|exact zi|refine zh rfl ?_)) tS rfl rfl rfl cT ?_)|refine sK ?_|refine sC (fun _=>?_) (fun _=>?_)|fail)
 refine zI (fun k:Nat=>[(0,.box 30 0),(5,.ad 37 (fs.length * 5)),(22,.pv (.slc 1 (l.map u64) full)),(23,.pv (pi l.length)),(24,.pv (pi k))]) (fun k=>skH (ZN ws f.eval f.size l k) fr lim (fs++[sized f (f.size + k)])++zu us [0,30]) (fun k=>k≤l.length) (fun k=>l.length - k) 0 (by omega) tSU
  ⟨by repeat (first|exact zi|refine zh rfl ?_|refine ZK rfl (by simp [ZM,sized]) ?_),rfl⟩ ?_
 rintro k hk
 by_cases hlt:k < l.length
 ·have hdk:decide ((k:Int) < (l.length:Int))=true:=decide_eq_true (by omega)
  have hx:(l.map u64)[k]?=some (u64 (l.getD k 0)):=by rw [List.getElem?_map,List.getD_eq_getElem?_getD,List.getElem?_eq_getElem hlt];rfl
  have hp2:=QT fs (sized f (f.size + k))
  obtain ⟨W,hW⟩:∃ W,W=ZN ws f.eval f.size l k:=⟨_,rfl⟩
  have hWl:W.length≤100000:=by rw [hW,Yk];exact hws
  have cP:=fun us'=>Vs W fr 0 (IntKind.u64.wrap (f.eval + IntKind.u64.wrap (f.size + (k:Int)))) (l.getD k 0) (Zj _) hWl us'
  rw [show YB W (IntKind.u64.wrap (f.eval + IntKind.u64.wrap (f.size + (k:Int)))) (l.getD k 0)=ZN ws f.eval f.size l (k + 1) by rw [ZN,hW]] at cP
  rw [←hW]
  repeat' (first|refine qj 16 15 rfl (by kernel_rfl) (by kernel_rfl) (by kernel_rfl) (by kernel_rfl) (by kernel_rfl) ?_|refine sM ?_|refine zy rfl (zB (k:=fs.length) (j:=3) zk rfl rfl rfl rfl hp2 rfl) rfl rfl ?_|refine AD.step _ _ _ _ _ rfl (zB (k:=fs.length) (j:=3) zk rfl rfl rfl rfl hp2 rfl) rfl rfl ?_|refine zy rfl (zB (k:=fs.length) (j:=4) zk rfl rfl rfl rfl hp2 rfl) rfl rfl ?_|refine AD.step _ _ _ _ _ rfl (zB (k:=fs.length) (j:=4) zk rfl rfl rfl rfl hp2 rfl) rfl rfl ?_|(refine shX ?_;first|refine qX hx ?_)|(refine zG ?_;first|refine yt (Yd W fr 0) (Yd (ZN ws f.eval f.size l (k + 1)) fr 0) (skR lim (fs++[sized f (f.size + k)]) us) [(0,.box 30 0),(5,.ad 37 (fs.length * 5)),(22,.pv (.slc 1 (l.map u64) full)),(23,.pv (pi l.length)),(24,.pv (pi k))] [0] yI rfl rfl rfl (by repeat (first|exact zi|refine zh rfl ?_)) tS rfl rfl rfl cP ?_)|(refine yj ?_;first|refine yS (k:=fs.length) (j:=4) zk rfl rfl rfl rfl rfl hp2 rfl rfl rfl rfl rfl ?_)|refine sK ?_|refine sC (fun _=>?_) (fun _=>?_)|fail)
  refine ⟨k + 1,hlt,tD,tSU,⟨by repeat (first|exact zi|refine zh rfl ?_|refine ZK rfl (zhk fs (sized f (f.size + k)) (sized f (f.size + ((k + 1:Nat):Int))) _ (by show sized f (f.size + ((k + 1:Nat):Int))=sized f (IntKind.i64.wrap (f.size + k + 1));rw [wrap_in (by omega) (by omega)];congr 1;omega)) ?_),rfl⟩⟩
 ·have hk2:k=l.length:=by omega
  subst hk2
  have hdk:decide ((l.length:Int) < (l.length:Int))=false:=decide_eq_false (by omega)
  repeat' (first|refine sK ?_|refine sC (fun _=>?_) (fun _=>?_)|fail)
  exact ⟨.inr rfl,.inl ⟨_,rfl,rfl,⟨by repeat (first|exact zi|refine zh rfl ?_),rfl⟩⟩⟩
theorem zfy (ws:List Int) (fr lim:Int) (us:Nat→Value):ACallM Tryz.prog 17 [.box 30 0] (skH ws fr lim []++zu us [0,30]) (.pv (pb false)) (skH ws fr lim []++zu us [0,30]):=by
 refine zn zk Tryz.func17 rfl (by kernel_rfl) Tryz.ntmps17 (by simp) _ rfl (fun gB hw1=>?_)
 repeat' (first|refine zy (r:=.pv (pi _)) rfl (zH (args:=fun ρ=>[.ptr (yQ ws (ρ 8) fr lim []) 0]) rfl (fun _=>rfl) (fun ρ=>yV ws (ρ 8) fr lim [])) rfl rfl ?_|refine AD.step _ _ _ (.pv (pi _)) _ rfl (zH (args:=fun ρ=>[.ptr (yQ ws (ρ 8) fr lim []) 0]) rfl (fun _=>rfl) (fun ρ=>yV ws (ρ 8) fr lim [])) rfl rfl ?_|refine sK ?_|refine sC (fun _=>?_) (fun _=>?_)|fail)
 exact ⟨.inr rfl,.inl ⟨_,rfl,rfl,⟨by repeat (first|exact zi|refine zh rfl ?_),rfl⟩⟩⟩
theorem zdo (ws:List Int) (fr lim:Int) (l:List Fr) (f:Fr) (hf:l.length≤63) (us:Nat→Value):ACallM Tryz.prog 17 [.box 30 0] (skH ws fr lim (l++[f])++zu us [0,30]) (.pv (pb true)) (skH ws fr lim l++zu us [0,30]):=by
 have hd:decide ((((l++[f]).length:Nat):Int)=0)=false:=decide_eq_false (by simp only [List.length_append,List.length_cons,List.length_nil];omega)
 have hm:IntKind.i64.wrap ((((l++[f]).map ZM).length:Int) - 1)=((l.length:Nat):Int):=by
  simp only [List.length_map,List.length_append,List.length_cons,List.length_nil]
  rw [wrap_in (by omega) (by omega)];omega
 have hm':some (IntKind.i64.wrap ((((l++[f]).map ZM).length:Int) - 1))=some ((l.length:Nat):Int):=by rw [hm]
 have hE:((l++[f]).map ZM).take l.length=l.map ZM:=by simp
 refine zn zk Tryz.func17 rfl (by kernel_rfl) Tryz.ntmps17 (by simp) _ rfl (fun gB hw1=>?_)
 repeat' (first|refine zy (r:=.pv (pi _)) rfl (zH (args:=fun ρ=>[.ptr (yQ ws (ρ 8) fr lim (l++[f])) 0]) rfl (fun _=>rfl) (fun ρ=>yV ws (ρ 8) fr lim (l++[f]))) rfl rfl ?_|refine AD.step _ _ _ (.pv (pi _)) _ rfl (zH (args:=fun ρ=>[.ptr (yQ ws (ρ 8) fr lim (l++[f])) 0]) rfl (fun _=>rfl) (fun ρ=>yV ws (ρ 8) fr lim (l++[f]))) rfl rfl ?_|refine zjO 30 37 45 2 (h:=l.length) rfl rfl rfl rfl (by simp) (by simp) ?_|refine zmC 37 45 rfl rfl (fun uu=>?_)|refine sM ?_|refine qj 15 14 rfl (by kernel_rfl) (by kernel_rfl) (by kernel_rfl) (by kernel_rfl) (by kernel_rfl) ?_|refine AD.step _ _ _ _ _ rfl (zlX zk 37 45 rfl rfl rfl rfl rfl rfl rfl hm' (by omega) (by simp;omega) (by simp)) rfl rfl ?_|refine sK ?_|refine sC (fun _=>?_) (fun _=>?_)|fail)
 exact ⟨.inr rfl,.inl ⟨_,rfl,rfl,⟨by repeat (first|exact zi|refine zh rfl ?_|refine ZK rfl hE ?_),rfl⟩⟩⟩
set_option maxHeartbeats 20000000
theorem QX (a b:List Int) (fa fb:Bool) (ha:a.length≤100000) (hb:b.length≤100000):ACall Tryz.prog 13 [.slc 1 (a.map u64) fa,.slc 1 (b.map u64) fb] (pb (decide (a=b))):=by
 refine zf zk Tryz.func13 rfl (by kernel_rfl) Tryz.ntmps13 (by simp) _ rfl (fun hw gB hgB=>?_)
 by_cases hlen:a.length=b.length
 ·have hd:(decide ((((a.map u64).length:Nat):Int)=(((b.map u64).length:Nat):Int)))=true:=decide_eq_true (by simp [hlen])
  repeat' (first|refine sK ?_|refine sC (fun _=>?_) (fun _=>?_)|fail)
  refine zI (fun k:Nat=>[(0,.pv (.slc 1 (a.map u64) fa)),(1,.pv (.slc 1 (b.map u64) fb)),(5,.pv (pi k))]) (fun _=>[]) (fun k=>k≤a.length∧a.take k=b.take k) (fun k=>a.length - k) 0 ⟨by simp,by simp⟩ (tS) tH ?_
  rintro k ⟨hk,hno⟩
  by_cases hlt:k < a.length
  ·have he:(a.map u64)[k]?=some (u64 a[k]):=by rw [List.getElem?_map,List.getElem?_eq_getElem hlt];rfl
   have hltb:k < b.length:=by omega
   have he':(b.map u64)[k]?=some (u64 b[k]):=by rw [List.getElem?_map,List.getElem?_eq_getElem hltb];rfl
   have hdk:decide ((k:Int) < (((a.map u64).length:Nat):Int))=true:=decide_eq_true (by rw [List.length_map];omega)
   repeat' (first|(refine shX ?_;first|refine qX he ?_|refine qX he' ?_)|refine sK ?_|refine sC (fun _=>?_) (fun _=>?_)|fail)
   ·rename_i h
    refine retq rfl ?_
    have:a≠b:=by
     rintro rfl
     simp at h
    simp [zl,this]
   ·rename_i h
    have e:a[k]=b[k]:=by simpa using h
    exact ⟨k + 1,⟨by omega,by rw [List.take_succ_eq_append_getElem hlt,List.take_succ_eq_append_getElem hltb,hno,e]⟩,tD,tS,tH⟩
  ·have hdk:decide ((k:Int) < (((a.map u64).length:Nat):Int))=false:=decide_eq_false (by rw [List.length_map];omega)
   repeat' (first|refine sK ?_|refine sC (fun _=>?_) (fun _=>?_)|fail)
   have e:a=b:=by
    have h1:=hno
    rw [List.take_of_length_le (by omega),List.take_of_length_le (by omega)] at h1
    exact h1
   exact retq rfl (by simp [zl,e])
 ·have hd:(decide ((((a.map u64).length:Nat):Int)=(((b.map u64).length:Nat):Int)))=false:=decide_eq_false (by simp;omega)
  repeat' (first|refine sK ?_|refine sC (fun _=>?_) (fun _=>?_)|fail)
  exact retq rfl (by
    have:a≠b:=by rintro rfl;exact hlen rfl
    simp [zl,this])
theorem zbX (ws:List Int) (fr lim m at_ ba e:Int) (s n:Nat) (fs:List Fr) (hf:fs.length≤63) (hs:s≤96) (hn:n≤s) (hws:ws.length≤100000) (us:Nat→Value) :
  ACallM Tryz.prog 14 [.box 30 0,.pv (pi n)] (skH ws fr lim (fs++[⟨m,at_,ba,e,s⟩])++zu us [0,30]) (.pv (.slc 1 ((Yx ws (IntKind.u64.wrap (e + IntKind.u64.wrap ((s - n:Nat):Int))) n).map u64) false)) (skH ws fr lim (fs++[⟨m,at_,ba,e,((s - n:Nat):Int)⟩])++zu us [0,30]):=by
 have cT:=fun us'=>XH ws fr lim fs ⟨m,at_,ba,e,s⟩ hf us'
 have hp:=QT fs ⟨m,at_,ba,e,s⟩
 have hp2:=QT fs ⟨m,at_,ba,e,((s - n:Nat):Int)⟩
 have hd1:decide ((n:Int) < 0)=false:=decide_eq_false (by omega)
 have hd2:decide ((s:Int) < (n:Int))=false:=decide_eq_false (by omega)
 have hE:=zhk fs ⟨m,at_,ba,e,s⟩ ⟨m,at_,ba,e,((s - n:Nat):Int)⟩ (IntKind.i64.wrap ((s:Int) - n)) (by rw [wrap_in (by omega) (by omega)];simp only [sized];congr 1;omega)
 refine zn zk Tryz.func14 rfl (by kernel_rfl) Tryz.ntmps14 (by simp) _ rfl (fun gB hw1=>?_)
 repeat' (first|refine zy rfl (Yj rfl Tryz.underlying68 rfl) rfl rfl ?_|refine zlf 37 rfl hE ?_|refine sM ?_|refine zy rfl (zba (args:=fun ρ=>[.ptr (yQ ws (ρ 8) fr lim (fs++[⟨m,at_,ba,e,((s - n:Nat):Int)⟩])) 0,u64 (IntKind.u64.wrap (e + IntKind.u64.wrap ((s - n:Nat):Int))),pi n]) rfl (fun _=>rfl) (fun ρ=>Wx ws (ρ 8) fr lim (IntKind.u64.wrap (e + IntKind.u64.wrap ((s - n:Nat):Int))) n (fs++[⟨m,at_,ba,e,((s - n:Nat):Int)⟩]) (by omega) hws) (by decide) (zaV _)) rfl rfl ?_|refine AD.step _ _ _ _ _ rfl (zba (args:=fun ρ=>[.ptr (yQ ws (ρ 8) fr lim (fs++[⟨m,at_,ba,e,((s - n:Nat):Int)⟩])) 0,u64 (IntKind.u64.wrap (e + IntKind.u64.wrap ((s - n:Nat):Int))),pi n]) rfl (fun _=>rfl) (fun ρ=>Wx ws (ρ 8) fr lim (IntKind.u64.wrap (e + IntKind.u64.wrap ((s - n:Nat):Int))) n (fs++[⟨m,at_,ba,e,((s - n:Nat):Int)⟩]) (by omega) hws) (by decide) (zaV _)) rfl rfl ?_|refine zy rfl (zB (k:=fs.length) (j:=4) zk rfl rfl rfl rfl hp rfl) rfl rfl ?_|refine AD.step _ _ _ _ _ rfl (zB (k:=fs.length) (j:=4) zk rfl rfl rfl rfl hp rfl) rfl rfl ?_|refine zy rfl (zB (k:=fs.length) (j:=4) zk rfl rfl rfl rfl hp2 rfl) rfl rfl ?_|refine AD.step _ _ _ _ _ rfl (zB (k:=fs.length) (j:=4) zk rfl rfl rfl rfl hp2 rfl) rfl rfl ?_|refine zy rfl (zB (k:=fs.length) (j:=3) zk rfl rfl rfl rfl hp2 rfl) rfl rfl ?_|refine AD.step _ _ _ _ _ rfl (zB (k:=fs.length) (j:=3) zk rfl rfl rfl rfl hp2 rfl) rfl rfl ?_|(refine yj ?_;first|refine yS (k:=fs.length) (j:=4) zk rfl rfl rfl rfl rfl hp rfl rfl rfl rfl rfl ?_)|(refine zG ?_;first|refine yt (skH ws fr lim (fs++[⟨m,at_,ba,e,s⟩])) (skH ws fr lim (fs++[⟨m,at_,ba,e,s⟩])) [(1000,.pin (.own 0) (us 0)),(1030,.pin (.own 30) (us 30))] [(0,.box 30 0),(1,.pv (pi n))] [0,30] yI rfl rfl rfl (by repeat (first|exact zi|refine zh rfl ?_)) tS rfl rfl rfl cT ?_)|refine sK ?_|refine sC (fun _=>?_) (fun _=>?_)|fail)
 exact ⟨.inr rfl,.inl ⟨_,rfl,rfl,⟨by repeat (first|exact zi|refine zh rfl ?_),rfl⟩⟩⟩
theorem zek (ws:List Int) (fr lim m at_ ba e:Int) (s k:Nat) (fs:List Fr) (hf:fs.length≤64) (hs:s≤96) (hk:fs[k]?=some ⟨m,at_,ba,e,s⟩) (hws:ws.length≤100000) (us:Nat→Value) :
  ACallM Tryz.prog 19 [.box 30 0,.pv (pi k)] (skH ws fr lim fs++zu us [0,30]) (.pv (.agg [pi m,pi at_,u64 ba,.slc 1 ((Yx ws e s).map u64) false])) (skH ws fr lim fs++zu us [0,30]):=by
 have hlt:=(List.getElem?_eq_some_iff.1 hk).1
 have cH:=fun mv=>ZF ws mv fr lim k fs
 rw [decide_eq_true (show (0:Int)≤(k:Int)∧(k:Int) < (fs.length:Int) by omega)] at cH
 have hp:(fs.map ZM)[k]?=some (.agg [pi m,pi at_,u64 ba,u64 e,pi s]):=by rw [List.getElem?_map,hk];rfl
 have hl:k < (fs.map ZM).length:=by simpa using hlt
 refine zn zk Tryz.func19 rfl (by kernel_rfl) Tryz.ntmps19 (by simp) _ rfl (fun gB hw1=>?_)
 repeat' (first|refine zy (r:=.pv (pb _)) rfl (zH (args:=fun ρ=>[.ptr (yQ ws (ρ 8) fr lim fs) 0,pi k]) rfl (fun _=>rfl) (fun ρ=>cH (ρ 8))) rfl rfl ?_|refine AD.step _ _ _ (.pv (pb _)) _ rfl (zH (args:=fun ρ=>[.ptr (yQ ws (ρ 8) fr lim fs) 0,pi k]) rfl (fun _=>rfl) (fun ρ=>cH (ρ 8))) rfl rfl ?_|refine sM ?_|refine zy rfl (zB (k:=k) (j:=0) zk rfl rfl rfl rfl hp rfl) rfl rfl ?_|refine AD.step _ _ _ _ _ rfl (zB (k:=k) (j:=0) zk rfl rfl rfl rfl hp rfl) rfl rfl ?_|refine zy rfl (zba (args:=fun ρ=>[.ptr (yQ ws (ρ 8) fr lim fs) 0,u64 e,pi s]) rfl (fun _=>rfl) (fun ρ=>Wx ws (ρ 8) fr lim e s fs (by omega) hws) (by decide) (zaV _)) rfl rfl ?_|refine AD.step _ _ _ _ _ rfl (zba (args:=fun ρ=>[.ptr (yQ ws (ρ 8) fr lim fs) 0,u64 e,pi s]) rfl (fun _=>rfl) (fun ρ=>Wx ws (ρ 8) fr lim e s fs (by omega) hws) (by decide) (zaV _)) rfl rfl ?_|refine qj 14 13 rfl (by kernel_rfl) (by kernel_rfl) (by kernel_rfl) (by kernel_rfl) (by kernel_rfl) ?_|(refine shX ?_;first|refine zy rfl (zC (k:=k) zk rfl rfl rfl rfl rfl rfl rfl rfl hl) rfl rfl ?_|refine AD.step _ _ _ _ _ rfl (zC (k:=k) zk rfl rfl rfl rfl rfl rfl rfl rfl hl) rfl rfl ?_)|refine sK ?_|refine sC (fun _=>?_) (fun _=>?_)|fail)
 exact ⟨.inr rfl,.inl ⟨_,rfl,rfl,⟨by repeat (first|exact zi|refine zh rfl ?_),rfl⟩⟩⟩
theorem zeJ (ws:List Int) (fr lim k x:Int) (fs:List Fr) (hno:lim≤fs.length∨k < 0∨(fs.length:Int)≤k) (us:Nat→Value):ACallM Tryz.prog 22 [.box 30 0,.pv (pi k),.pv (u64 x)] (skH ws fr lim fs++zu us [0,30]) (.pv (pb false)) (skH ws fr lim fs++zu us [0,30]):=by
 by_cases h1:lim≤fs.length
 ·have hd1:decide (lim≤(fs.length:Int))=true:=decide_eq_true h1
  refine zn zk Tryz.func22 rfl (by kernel_rfl) Tryz.ntmps22 (by simp) _ rfl (fun gB hw1=>?_)
  repeat' (first|refine zy (r:=.pv (pb _)) rfl (zH (args:=fun ρ=>[.ptr (yQ ws (ρ 8) fr lim fs) 0]) rfl (fun _=>rfl) (fun ρ=>yU ws (ρ 8) fr lim fs)) rfl rfl ?_|refine AD.step _ _ _ (.pv (pb _)) _ rfl (zH (args:=fun ρ=>[.ptr (yQ ws (ρ 8) fr lim fs) 0]) rfl (fun _=>rfl) (fun ρ=>yU ws (ρ 8) fr lim fs)) rfl rfl ?_|refine sK ?_|refine sC (fun _=>?_) (fun _=>?_)|fail)
  exact ⟨.inr rfl,.inl ⟨_,rfl,rfl,⟨by repeat (first|exact zi|refine zh rfl ?_),rfl⟩⟩⟩
 ·have hd1:decide (lim≤(fs.length:Int))=false:=decide_eq_false h1
  have cH:=fun mv=>ZF ws mv fr lim k fs
  rw [decide_eq_false (show ¬((0:Int)≤k∧k < (fs.length:Int)) by omega)] at cH
  refine zn zk Tryz.func22 rfl (by kernel_rfl) Tryz.ntmps22 (by simp) _ rfl (fun gB hw1=>?_)
  repeat' (first|refine zy (r:=.pv (pb _)) rfl (zH (args:=fun ρ=>[.ptr (yQ ws (ρ 8) fr lim fs) 0]) rfl (fun _=>rfl) (fun ρ=>yU ws (ρ 8) fr lim fs)) rfl rfl ?_|refine AD.step _ _ _ (.pv (pb _)) _ rfl (zH (args:=fun ρ=>[.ptr (yQ ws (ρ 8) fr lim fs) 0]) rfl (fun _=>rfl) (fun ρ=>yU ws (ρ 8) fr lim fs)) rfl rfl ?_|refine zy (r:=.pv (pb _)) rfl (zH (args:=fun ρ=>[.ptr (yQ ws (ρ 8) fr lim fs) 0,pi k]) rfl (fun _=>rfl) (fun ρ=>cH (ρ 8))) rfl rfl ?_|refine AD.step _ _ _ (.pv (pb _)) _ rfl (zH (args:=fun ρ=>[.ptr (yQ ws (ρ 8) fr lim fs) 0,pi k]) rfl (fun _=>rfl) (fun ρ=>cH (ρ 8))) rfl rfl ?_|refine sK ?_|refine sC (fun _=>?_) (fun _=>?_)|fail)
  exact ⟨.inr rfl,.inl ⟨_,rfl,rfl,⟨by repeat (first|exact zi|refine zh rfl ?_),rfl⟩⟩⟩
theorem zgN (ws:List Int) (fr lim x:Int) (k:Nat) (fs:List Fr) (f:Fr) (h1:fs.length < lim) (h64:lim≤64) (hk:fs[k]?=some f) (hf0:0≤fr) (hf1:fr≤10000) (hws:ws.length≤100000) (us:Nat→Value) :
  ACallM Tryz.prog 22 [.box 30 0,.pv (pi k),.pv (u64 x)] (skH ws fr lim fs++zu us [0,30]) (.pv (pb true))
   (skH (ZN (Zy ws (fr + 256 * fs.length) 256) (fr + 256 * fs.length + 152) 0 [x] 1) fr lim (fs++[sized (Yh f.method f.at_ f.base (fr + 256 * fs.length)) 1])++zu us [0,30]):=by
 have hlt:=(List.getElem?_eq_some_iff.1 hk).1
 have hd1:decide (lim≤(fs.length:Int))=false:=decide_eq_false (by omega)
 have cH:=fun mv=>ZF ws mv fr lim k fs
 rw [decide_eq_true (show (0:Int)≤(k:Int)∧(k:Int) < (fs.length:Int) by omega)] at cH
 obtain ⟨A,hA⟩:∃ A:Int,A=fr + 256 * fs.length:=⟨_,rfl⟩
 have cS:=fun mv=>zeg ws mv fr lim fs hf0 hf1 (by omega)
 rw [←hA] at cS ⊢
 have hE:(fs.map ZM)++[.agg [pi f.method,pi f.at_,u64 f.base,u64 (IntKind.u64.wrap (A + 152)),pi 0]]=(fs++[Yh f.method f.at_ f.base A]).map ZM:=by
  rw [zM (by omega) (by omega)];simp [Yh,ZM]
 have hp:(fs.map ZM)[k]?=some (.agg [pi f.method,pi f.at_,u64 f.base,u64 f.eval,pi f.size]):=by rw [List.getElem?_map,hk];rfl
 have hl:k < (fs.map ZM).length:=by simpa using hlt
 refine zn zk Tryz.func22 rfl (by kernel_rfl) Tryz.ntmps22 (by simp) _ rfl (fun gB hw1=>?_)
 repeat' (first|refine zy (r:=.pv (pb _)) rfl (zH (args:=fun ρ=>[.ptr (yQ ws (ρ 8) fr lim fs) 0]) rfl (fun _=>rfl) (fun ρ=>yU ws (ρ 8) fr lim fs)) rfl rfl ?_|refine AD.step _ _ _ (.pv (pb _)) _ rfl (zH (args:=fun ρ=>[.ptr (yQ ws (ρ 8) fr lim fs) 0]) rfl (fun _=>rfl) (fun ρ=>yU ws (ρ 8) fr lim fs)) rfl rfl ?_|refine zy (r:=.pv (pb _)) rfl (zH (args:=fun ρ=>[.ptr (yQ ws (ρ 8) fr lim fs) 0,pi k]) rfl (fun _=>rfl) (fun ρ=>cH (ρ 8))) rfl rfl ?_|refine AD.step _ _ _ (.pv (pb _)) _ rfl (zH (args:=fun ρ=>[.ptr (yQ ws (ρ 8) fr lim fs) 0,pi k]) rfl (fun _=>rfl) (fun ρ=>cH (ρ 8))) rfl rfl ?_|refine zy (r:=.pv (u64 _)) rfl (zH (args:=fun ρ=>[.ptr (yQ ws (ρ 8) fr lim fs) 0]) rfl (fun _=>rfl) (fun ρ=>cS (ρ 8))) rfl rfl ?_|refine AD.step _ _ _ (.pv (u64 _)) _ rfl (zH (args:=fun ρ=>[.ptr (yQ ws (ρ 8) fr lim fs) 0]) rfl (fun _=>rfl) (fun ρ=>cS (ρ 8))) rfl rfl ?_|refine sK ?_|refine sC (fun _=>?_) (fun _=>?_)|fail)
 refine zI (fun j:Nat=>[(0,.box 30 0),(1,.pv (pi k)),(2,.pv (u64 x)),(7,.pv (u64 A)),(20,.pv (u64 j))]) (fun j=>skH (Zy ws A j) fr lim fs++zu us [0,30]) (fun j=>j≤256) (fun j=>256 - j) 0 (by omega) tSU ⟨by repeat (first|exact zi|refine zh rfl ?_),rfl⟩ ?_
 rintro j hj
 by_cases hltj:j < 256
 ·have hdk:decide ((j:Int) < 256)=true:=decide_eq_true (by omega)
  have cP:=fun us'=>Vs (Zy ws A j) fr 0 (IntKind.u64.wrap (A + (j:Int))) 0 (Zj _) (by rw [yT];exact hws) us'
  repeat' (first|refine QN rfl hdk ?_|(refine zG ?_;first|refine yt (Yd (Zy ws A j) fr 0) (Yd (Zy ws A (j + 1)) fr 0) (skR lim fs us) [(0,.box 30 0),(1,.pv (pi k)),(2,.pv (u64 x)),(7,.pv (u64 A)),(20,.pv (u64 j))] [0] yI rfl rfl rfl (by repeat (first|exact zi|refine zh rfl ?_)) tS rfl rfl rfl cP ?_)|refine sK ?_|refine sC (fun _=>?_) (fun _=>?_)|fail)
  exact ⟨j + 1,hltj,tD,tSU,⟨by repeat (first|exact zi|refine zh rfl ?_),rfl⟩⟩
 ·have hk2:j=256:=by omega
  subst hk2
  have hdF:decide (((256:Nat):Int) < 256)=false:=rfl
  have cP:=fun us'=>QM (Zy ws A 256) fr lim [x] true fs (Yh f.method f.at_ f.base A) (by omega) (by simp [Yh]) (by simp [Yh]) (by rw [yT];exact hws) us'
  have e1:(Yh f.method f.at_ f.base A).size + (([x]:List Int).length:Int)=1:=by simp [Yh]
  rw [e1] at cP
  repeat' (first|refine YX rfl hdF ?_|refine zlf 37 rfl hE ?_|refine sM ?_|refine zy rfl (zB (k:=k) (j:=0) zk rfl rfl rfl rfl hp rfl) rfl rfl ?_|refine AD.step _ _ _ _ _ rfl (zB (k:=k) (j:=0) zk rfl rfl rfl rfl hp rfl) rfl rfl ?_|refine zgi 15 0 (by kernel_rfl) (by kernel_rfl) rfl rfl rfl rfl rfl rfl rfl (zfU rfl rfl rfl) (by kernel_rfl) ?_|(refine shX ?_;first|refine zy rfl (zC (k:=k) zk rfl rfl rfl rfl rfl rfl rfl rfl hl) rfl rfl ?_|refine AD.step _ _ _ _ _ rfl (zC (k:=k) zk rfl rfl rfl rfl rfl rfl rfl rfl hl) rfl rfl ?_)|(refine yC ?_;first|refine Ws zk rfl rfl rfl rfl rfl rfl rfl (by show _ * 40≤_;simp only [List.length_map,List.length_cons,List.length_nil];omega) (by simp only [List.length_map,List.length_cons,List.length_nil];omega) rfl rfl ?_)|(refine zG ?_;first|refine yt (skH (Zy ws A 256) fr lim (fs++[Yh f.method f.at_ f.base A])) (skH (ZN (Zy ws A 256) (A + 152) 0 [x] 1) fr lim (fs++[sized (Yh f.method f.at_ f.base A) 1])) [(1000,.pin (.own 0) (us 0)),(1030,.pin (.own 30) (us 30))] [] [0,30] yI rfl rfl rfl (by repeat (first|exact zi|refine zh rfl ?_)) tS rfl rfl rfl cP ?_)|refine sK ?_|refine sC (fun _=>?_) (fun _=>?_)|fail)
  exact ⟨.inr rfl,.inl ⟨_,rfl,rfl,⟨by repeat (first|exact zi|refine zh rfl ?_),rfl⟩⟩⟩
theorem QL {ws:List Int} {a x b:Int} (hb:0≤b) (h:0 < a∧a < ws.length):Ze (YB ws a x) b=if b=a then x else Ze ws b:=by
 unfold YB
 rw [if_pos h]
 unfold Ze
 rw [List.length_set]
 by_cases hlt:b < ws.length
 ·rw [if_pos hlt,if_pos hlt]
  simp only [List.getD_eq_getElem?_getD,List.getElem?_set]
  by_cases e:b=a
  ·subst e
   have:b.toNat < ws.length:=by omega
   simp [this]
  ·rw [if_neg e,if_neg (by omega)]
 ·rw [if_neg hlt,if_neg hlt,if_neg (by omega)]
theorem zjY (W1:List Int) (h:W1.length=16396):Yx (ZN W1 164 0 [8,9] 2) 164 2=[8,9]∧Yx (ZN W1 164 0 [8,9] 2) 165 1=[9]:=by
 have h2:(YB W1 164 8).length=16396:=by rw [WR,h]
 have g1:Ze (YB (YB W1 164 8) 165 9) 164=8:=by rw [QL (by omega) (by rw [h2];omega),if_neg (by omega),QL (by omega) (by rw [h];omega),if_pos rfl]
 have g2:Ze (YB (YB W1 164 8) 165 9) 165=9:=by rw [QL (by omega) (by rw [h2];omega),if_pos rfl]
 refine ⟨?_,?_⟩
 ·show [Ze (YB (YB W1 164 8) 165 9) 164,Ze (YB (YB W1 164 8) 165 9) 165]=_
  rw [g1,g2]
 ·show [Ze (YB (YB W1 164 8) 165 9) 165]=_
  rw [g2]
set_option maxHeartbeats 4000000 in
theorem Zm:ACall Tryz.prog 5 [] (pb true):=by
 have cM:=fun us=>Vm us
 have hW0:(ws0 4 7).length=16396:=by rw [zbh];rfl
 generalize ws0 4 7=W0 at *
 obtain ⟨W1,hW1⟩:∃ W1,W1=Va W0 12 [7]:=⟨_,rfl⟩
 have hl1:W1.length=16396:=by rw [hW1,zaN,hW0]
 obtain ⟨W2,hW2⟩:∃ W2,W2=ZN W1 164 0 [8,9] 2:=⟨_,rfl⟩
 have hl2:W2.length=16396:=by rw [hW2,Yk,hl1]
 have hw:=zjY W1 hl1
 rw [←hW2] at hw
 have cN:=fun us=>zbF W0 12 2 (by decide) (by decide) us
 have cE:∀ us,ACallM Tryz.prog 16 [.box 30 0,.pv (pi 3),.pv (pi 2),.pv (.slc 1 [u64 7] true)] (skH W0 12 2 []++zu us [0,30]) (.pv (pb true)) (skH W1 12 2 [⟨3,0,12,164,0⟩]++zu us [0,30]):=fun us=>by
  rw [hW1];exact zaB W0 12 2 3 2 [7] true [] (by decide) (by decide) (by decide) (by decide) (by decide) (by decide) (by omega) us
 have cP:∀ us,ACallM Tryz.prog 11 [.box 30 0,.pv (.slc 1 [u64 8,u64 9] true)] (skH W1 12 2 [⟨3,0,12,164,0⟩]++zu us [0,30]) (.pv (pb true)) (skH W2 12 2 [⟨3,0,12,164,2⟩]++zu us [0,30]):=fun us=>by
  rw [hW2];exact QM W1 12 2 [8,9] true [] ⟨3,0,12,164,0⟩ (by decide) (by decide) (by decide) (by omega) us
 have cF:∀ us,ACallM Tryz.prog 19 [.box 30 0,.pv (pi 0)] (skH W2 12 2 [⟨3,0,12,164,2⟩]++zu us [0,30]) (.pv (.agg [pi 3,pi 0,u64 12,.slc 1 ([8,9].map u64) false])) (skH W2 12 2 [⟨3,0,12,164,2⟩]++zu us [0,30]):=fun us=>by
  rw [←hw.1];exact zek W2 12 2 3 0 12 164 2 0 [⟨3,0,12,164,2⟩] (by decide) (by decide) rfl (by omega) us
 have cO:∀ us,ACallM Tryz.prog 14 [.box 30 0,.pv (pi 1)] (skH W2 12 2 [⟨3,0,12,164,2⟩]++zu us [0,30]) (.pv (.slc 1 ([9].map u64) false)) (skH W2 12 2 [⟨3,0,12,164,1⟩]++zu us [0,30]):=fun us=>by
  have:=zbX W2 12 2 3 0 12 164 2 1 [] (by decide) (by decide) (by decide) (by omega) us
  rw [show IntKind.u64.wrap (164 + IntKind.u64.wrap ((2 - 1:Nat):Int))=165 from by decide,hw.2] at this
  exact this
 have s1:=QX [8,9] [8,9] false true (by decide) (by decide)
 have s2:=QX [9] [9] false true (by decide) (by decide)
 rw [decide_eq_true rfl] at s1 s2
 clear hW1 hW2 hl1 hl2 hw hW0
 refine zf zk Tryz.func5 rfl (by kernel_rfl) Tryz.ntmps5 (by simp) _ rfl (fun hw gB hgB=>?_)
 repeat' (first|refine zy (r:=.pv (pi 1)) rfl (zH (args:=fun ρ=>[.ptr (yQ W2 (ρ 8) 12 2 [⟨3,0,12,164,2⟩]) 0]) rfl (fun _=>rfl) (fun ρ=>yV W2 (ρ 8) 12 2 [⟨3,0,12,164,2⟩])) rfl rfl ?_|refine AD.step _ _ _ (.pv (pi 1)) _ rfl (zH (args:=fun ρ=>[.ptr (yQ W2 (ρ 8) 12 2 [⟨3,0,12,164,2⟩]) 0]) rfl (fun _=>rfl) (fun ρ=>yV W2 (ρ 8) 12 2 [⟨3,0,12,164,2⟩])) rfl rfl ?_|(refine shC ?_;first|refine qC s1 ?_|refine qC s2 ?_)|(refine zG ?_;first|refine yt [] (Yd W0 12 0) [] [] [] yI rfl rfl rfl (by repeat (first|exact zi|refine zh rfl ?_)) tS rfl rfl rfl cM ?_|refine yt (Yd W0 12 0) (skH W0 12 2 []) [] [] [0] yI rfl rfl rfl (by repeat (first|exact zi|refine zh rfl ?_)) tS rfl rfl rfl cN ?_|refine yt (skH W0 12 2 []) (skH W1 12 2 [⟨3,0,12,164,0⟩]) [] [(1,.box 30 0)] [0,30] yI rfl rfl rfl (by repeat (first|exact zi|refine zh rfl ?_)) tS rfl rfl rfl cE ?_|refine yt (skH W1 12 2 [⟨3,0,12,164,0⟩]) (skH W2 12 2 [⟨3,0,12,164,2⟩]) [] [(1,.box 30 0),(8,.pv (pb true))] [0,30] yI rfl rfl rfl (by repeat (first|exact zi|refine zh rfl ?_)) tS rfl rfl rfl cP ?_|refine yt (skH W2 12 2 [⟨3,0,12,164,2⟩]) (skH W2 12 2 [⟨3,0,12,164,2⟩]) [] [(1,.box 30 0),(19,.pv (pb true))] [0,30] yI rfl rfl rfl (by repeat (first|exact zi|refine zh rfl ?_)) tS rfl rfl rfl cF ?_|refine yt (skH W2 12 2 [⟨3,0,12,164,2⟩]) (skH W2 12 2 [⟨3,0,12,164,1⟩]) [] [(1,.box 30 0),(26,.pv (pb true))] [0,30] yI rfl rfl rfl (by repeat (first|exact zi|refine zh rfl ?_)) tS rfl rfl rfl cO ?_)|refine sK ?_|refine sC (fun _=>?_) (fun _=>?_)|fail)
 exact retq rfl rfl
end Go.Cg
