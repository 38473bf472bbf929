/- A part of the walks by abstract values: no statement of its own. -/
import Derived.Test.YtdngpcmllgnbjaaGreatE46
import Derived.Test.YtdngpcmllgnbjaaGreatE36
set_option linter.unusedVariables false
set_option linter.unusedSimpArgs false
namespace Go.Cg
open Go.Proofs
set_option maxHeartbeats 20000000
abbrev roE (at_ op arg:Int) (z:PV):AV:=.agg [.box 50 0,.pv (pi 0),.pv (.ptr mdS 0),.pv (pi at_),.pv (pi op),.pv (pi arg),.pv (pi 0),.pv (pi 0),.pv (pi 0),.pv (pb false),.pv z,.pv (pb false)]
abbrev r0E:AV:=roE 0 8 7 yt
abbrev r1E:AV:=roE 1 46 0 (.slc 1 [pi 1] false)
abbrev fE (a s:Int):Fr:=⟨0,a,18,170,s⟩
abbrev yE (W:List Int) (a s:Int):HEnv:=exH ObE KdE XE W [fE a s] zf5 0 yt
abbrev w7E:PV:=.slc 1 [u64 7] false
abbrev zE (W:List Int):HEnv:=exH ObE KdE XE W [] (.slc 10 [] false) 1 w7E
abbrev oRE (r:AV) (us:Nat→Value):HEnv:=(70,.cell r)::(50,.cell (mcE (.box 30 0) zf5 0 yt))::prE::zJ us [50,70]
abbrev oTE (r:AV) (us:Nat→Value):HEnv:=(0,.dead)::(30,.dead)::oRE r us
theorem zrj (W:List Int) (h:W.length=16402):zdm (Xj W 170 0 [7] 1) 170 1=[7]:=by
 have g1:zim (zeq W 170 7) 170=7:=by rw [zrn (by omega) (by rw [h];omega),if_pos rfl]
 show [zim (zeq W 170 7) 170]=_
 rw [g1]
theorem zrT (W:List Int) (us:Nat→Value):ACallM Tryz.prog 231 [.box 70 0] ((70,.cell r0E)::yE W 0 1++zJ us [50,70]) (.pv (.tup [])) ((70,.cell r0E)::yE W 1 1++zJ us [50,70]):=by
 have cM:=fun us=>zoU (e1:=ObE) (e2:=KdE) (fa:=1) (hq0:=8) (X8:=XE) W 18 2 1 [] (fE 0 1) us
 refine zC zh Tryz.func231 rfl (by kernel_rfl) Tryz.ntmps231 (by simp) _ rfl (fun gB hw1=>?_)
 repeat' (first|refine XW 17 17 16 ((70,.cell r0E)::yE W 0 1++zJ us [50,70]) (skX (.slc 1 ObE false) (.slc 1 KdE false) 1 8 XE W 18 2 [fE 1 1]++oRE r0E us) (oTE r0E us) (.pv (.tup [])) none rfl (by kernel_rfl) (by kernel_rfl) (by kernel_rfl) (by kernel_rfl) (by kernel_rfl) rfl (by kernel_rfl) rfl rfl (fun _ _ _ h=>((h.kill 30).kill 0).narrow (e:=[]) tH) (fun _ _ _ h=>((h.kill 30).kill 0).narrow (e:=[]) tH) rfl tH rfl rfl (fun v hv=>by cases hv) ?_|refine ⟨⟨rfl,XU (skX (.slc 1 ObE false) (.slc 1 KdE false) 1 8 XE W 18 2 [fE 0 1]) (skX (.slc 1 ObE false) (.slc 1 KdE false) 1 8 XE W 18 2 [fE 1 1]) (oRE r0E us) [0,30] zq rfl rfl tHX rfl rfl rfl rfl cM⟩,?_⟩|intro _|refine YE ?_|refine sK ?_|refine sC (fun _=>?_) (fun _=>?_)|fail)
 exact ⟨.inl rfl,.inl ⟨[],rfl,rfl,⟨by repeat (first|exact zk|refine zi rfl ?_),rfl⟩⟩⟩
theorem zky (W V:List Int) (hW:W.length=16402) (hV:V=Xj W 170 0 [7] 1) (us:Nat→Value):ACallM Tryz.prog 122 [.box 70 0] ((70,.cell r0E)::yE W 0 0++zJ us [50,70]) (.pv (.tup [])) ((70,.cell r0E)::yE V 1 1++zJ us [50,70]):=by
 have cP:∀ us,ACallM Tryz.prog 230 [.box 30 0,.pv (.slc 1 [u64 7] true)] (skX (.slc 1 ObE false) (.slc 1 KdE false) 1 8 XE W 18 2 [fE 0 0]++zJ us [0,30]) (.pv (pb true)) (skX (.slc 1 ObE false) (.slc 1 KdE false) 1 8 XE V 18 2 [fE 0 1]++zJ us [0,30]):=fun us=>by
  rw [hV];exact zm9 (e1:=ObE) (e2:=KdE) (fa:=1) (hq0:=8) (X8:=XE) W 18 2 [7] true [] (fE 0 0) (by decide) (by decide) (by decide) (by omega) us
 have cO:=zrT V
 refine zC zh Tryz.func122 rfl (by kernel_rfl) Tryz.ntmps122 (by simp) _ rfl (fun gB hw1=>?_)
 repeat' (first|refine XW 15 15 14 ((70,.cell r0E)::yE W 0 0++zJ us [50,70]) (skX (.slc 1 ObE false) (.slc 1 KdE false) 1 8 XE V 18 2 [fE 0 1]++oRE r0E us) (oTE r0E us) (.pv (pb true)) none rfl (by kernel_rfl) (by kernel_rfl) (by kernel_rfl) (by kernel_rfl) (by kernel_rfl) rfl (by kernel_rfl) rfl rfl (fun _ _ _ h=>((h.kill 30).kill 0).narrow (e:=[]) tH) (fun _ _ _ h=>((h.kill 30).kill 0).narrow (e:=[]) tH) rfl tH rfl rfl (fun v hv=>by cases hv) ?_|refine ⟨⟨rfl,XU (skX (.slc 1 ObE false) (.slc 1 KdE false) 1 8 XE W 18 2 [fE 0 0]) (skX (.slc 1 ObE false) (.slc 1 KdE false) 1 8 XE V 18 2 [fE 0 1]) (oRE r0E us) [0,30] zq rfl rfl tHX rfl rfl rfl rfl cP⟩,?_⟩|intro _|refine YE ?_|(refine zy ?_;first|(refine qQ ((70,.cell r0E)::yE V 0 1) ((70,.cell r0E)::yE V 1 1) (zJ us [50,70]) ([50,70]) zq rfl rfl rfl ?_ rfl rfl rfl cO ?_;· (repeat (first|exact zk|refine zi rfl ?_))))|refine sK ?_|refine sC (fun _=>?_) (fun _=>?_)|fail)
 exact ⟨.inl rfl,.inl ⟨[],rfl,rfl,⟨by repeat (first|exact zk|refine zi rfl ?_),rfl⟩⟩⟩
theorem zqr (W V:List Int) (hW:W.length=16402) (hV:V=Xj W 170 0 [7] 1) (us:Nat→Value):ACallM Tryz.prog 242 [.box 70 0] ((70,.cell r1E)::yE V 1 1++zJ us [50,70]) (.pv (.tup [])) ((70,.cell r1E)::zE V++zJ us [50,70]):=by
 have hl:V.length=16402:=by rw [hV,zaH,hW]
 have cP:∀ us,ACallM Tryz.prog 233 [.box 30 0,.pv (pi 1)] (skX (.slc 1 ObE false) (.slc 1 KdE false) 1 8 XE V 18 2 [fE 1 1]++zJ us [0,30]) (.pv w7E) (skX (.slc 1 ObE false) (.slc 1 KdE false) 1 8 XE V 18 2 [fE 1 0]++zJ us [0,30]):=fun us=>by
  have h:=zoJ (e1:=ObE) (e2:=KdE) (fa:=1) (hq0:=8) (X8:=XE) V 18 2 0 1 18 170 1 1 [] (by decide) (by decide) (by decide) (by omega) us
  have hw:=zrj W hW
  rw [←hV] at hw
  rw [show (zdm V (IntKind.u64.wrap (170 + IntKind.u64.wrap ((1 - 1:Nat):Int))) 1)=[7] from hw] at h
  exact h
 have cL:=fun us=>zlR (e1:=ObE) (e2:=KdE) (X8:=XE) V 0 yt (fE 1 0) us
 refine zC zh Tryz.func242 rfl (by kernel_rfl) Tryz.ntmps242 (by simp) _ rfl (fun gB hw1=>?_)
 repeat' (first|refine XW 16 16 14 ((70,.cell r1E)::yE V 1 1++zJ us [50,70]) (skX (.slc 1 ObE false) (.slc 1 KdE false) 1 8 XE V 18 2 [fE 1 0]++oRE r1E us) (oTE r1E us) (.pv w7E) none rfl (by kernel_rfl) (by kernel_rfl) (by kernel_rfl) (by kernel_rfl) (by kernel_rfl) rfl (by kernel_rfl) rfl rfl (fun _ _ _ h=>((h.kill 30).kill 0).narrow (e:=[]) tH) (fun _ _ _ h=>((h.kill 30).kill 0).narrow (e:=[]) tH) rfl tH rfl rfl (fun v hv=>by cases hv) ?_|refine ⟨⟨rfl,XU (skX (.slc 1 ObE false) (.slc 1 KdE false) 1 8 XE V 18 2 [fE 1 1]) (skX (.slc 1 ObE false) (.slc 1 KdE false) 1 8 XE V 18 2 [fE 1 0]) (oRE r1E us) [0,30] zq rfl rfl tHX rfl rfl rfl rfl cP⟩,?_⟩|intro _|refine YE ?_|refine zo (r:=.pv (pi _)) rfl (Yf (args:=fun ρ=>[.ptr (stX (.slc 1 ObE false) (.slc 1 KdE false) 1 8 V (ρ 8) 18 2 []) 0]) rfl (fun _=>rfl) (fun ρ=>Ym V (ρ 8) 18 2 [])) rfl rfl ?_|refine AD.step _ _ _ (.pv (pi _)) _ rfl (Yf (args:=fun ρ=>[.ptr (stX (.slc 1 ObE false) (.slc 1 KdE false) 1 8 V (ρ 8) 18 2 []) 0]) rfl (fun _=>rfl) (fun ρ=>Ym V (ρ 8) 18 2 [])) rfl rfl ?_|(refine zy ?_;first|(refine qQ (yE V 1 0) (exH ObE KdE XE V [] (.slc 10 [] false) 0 yt) ((70,.cell r1E)::zJ us [50,70]) ([50]) zq rfl rfl rfl ?_ rfl rfl rfl cL ?_;· (repeat (first|exact zk|refine zi rfl ?_))))|refine sK ?_|refine sC (fun _=>?_) (fun _=>?_)|fail)
 exact ⟨.inr rfl,.inl ⟨[],rfl,rfl,⟨by repeat (first|exact zk|refine zi rfl ?_),rfl⟩⟩⟩
theorem znI (W V:List Int) (hW:W.length=16402) (hV:V=Xj W 170 0 [7] 1) (us:Nat→Value):ACallM Tryz.prog 121 [.box 70 0] ((70,.cell r1E)::yE V 1 1++zJ us [50,70]) (.pv (.tup [])) ((70,.cell r1E)::zE V++zJ us [50,70]):=by
 have cR:=zqr W V hW hV
 refine zC zh Tryz.func121 rfl (by kernel_rfl) Tryz.ntmps121 (by simp) _ rfl (fun gB hw1=>?_)
 repeat' (first|(refine zy ?_;first|(refine qQ ((70,.cell r1E)::yE V 1 1) ((70,.cell r1E)::zE V) (zJ us [50,70]) ([50,70]) zq rfl rfl rfl ?_ rfl rfl rfl cR ?_;· (repeat (first|exact zk|refine zi rfl ?_))))|refine sK ?_|refine sC (fun _=>?_) (fun _=>?_)|fail)
 exact ⟨.inl rfl,.inl ⟨[],rfl,rfl,⟨by repeat (first|exact zk|refine zi rfl ?_),rfl⟩⟩⟩
theorem zpS (W V:List Int) (hW:W.length=16402) (hV:V=Xj W 170 0 [7] 1) (us:Nat→Value):ACallM Tryz.prog 59 [.box 70 0] ((70,.cell r0E)::yE W 0 0++zJ us [50,70]) (.pv (.tup [])) ((70,.cell r0E)::yE V 1 1++zJ us [50,70]):=by
 have cS:=zky W V hW hV
 refine zC zh Tryz.func59 rfl (by kernel_rfl) Tryz.ntmps59 (by simp) _ rfl (fun gB hw1=>?_)
 repeat' (first|(refine zy ?_;first|(refine qQ ((70,.cell r0E)::yE W 0 0) ((70,.cell r0E)::yE V 1 1) (zJ us [50,70]) ([50,70]) zq rfl rfl rfl ?_ rfl rfl rfl cS ?_;· (repeat (first|exact zk|refine zi rfl ?_))))|refine sK ?_|refine sC (fun _=>?_) (fun _=>?_)|fail)
 exact ⟨.inl rfl,.inl ⟨[],rfl,rfl,⟨by repeat (first|exact zk|refine zi rfl ?_),rfl⟩⟩⟩
theorem zpO (W V:List Int) (hW:W.length=16402) (hV:V=Xj W 170 0 [7] 1) (us:Nat→Value):ACallM Tryz.prog 59 [.box 70 0] ((70,.cell r1E)::yE V 1 1++zJ us [50,70]) (.pv (.tup [])) ((70,.cell r1E)::zE V++zJ us [50,70]):=by
 have cS:=znI W V hW hV
 refine zC zh Tryz.func59 rfl (by kernel_rfl) Tryz.ntmps59 (by simp) _ rfl (fun gB hw1=>?_)
 repeat' (first|(refine zy ?_;first|(refine qQ ((70,.cell r1E)::yE V 1 1) ((70,.cell r1E)::zE V) (zJ us [50,70]) ([50,70]) zq rfl rfl rfl ?_ rfl rfl rfl cS ?_;· (repeat (first|exact zk|refine zi rfl ?_))))|refine sK ?_|refine sC (fun _=>?_) (fun _=>?_)|fail)
 exact ⟨.inl rfl,.inl ⟨[],rfl,rfl,⟨by repeat (first|exact zk|refine zi rfl ?_),rfl⟩⟩⟩
set_option maxHeartbeats 20000000
theorem znd (W V:List Int) (hW:W.length=16402) (hV:V=Xj W 170 0 [7] 1) (us:Nat→Value):ACallM Tryz.prog 21 [.box 50 0] (yE W 0 0++zJ us [50]) (.pv (pb true)) (yE V 1 1++zJ us [50]):=by
 have hl:V.length=16402:=by rw [hV,zaH,hW]
 have cT:=fun us=>ziS (e1:=ObE) (e2:=KdE) (X8:=XE) W zf5 0 yt 0 18 170 0 (by decide) (by omega) us
 have cD:=fun us=>zpS W V hW hV us
 refine zC zh Tryz.func21 rfl (by kernel_rfl) Tryz.ntmps21 (by simp) _ rfl (fun gB hw1=>?_)
 repeat' (first|refine zo rfl (yI (b:=false) rfl Tryz.underlying58 rfl rfl) rfl rfl ?_|refine AD.step _ _ _ _ _ rfl (yI (b:=false) rfl Tryz.underlying58 rfl rfl) rfl rfl ?_|refine yG 22 19 rfl (by kernel_rfl) (by kernel_rfl) (by kernel_rfl) (by kernel_rfl) (by kernel_rfl) ?_|refine zo rfl (Yi zh rfl ⟨_,rfl⟩ rfl rfl rfl rfl rfl rfl) rfl rfl ?_|(refine shX ?_;first|refine zo rfl (zl zh rfl rfl rfl rfl rfl rfl (show (0:Int)≤0 by decide) rfl) rfl rfl ?_|refine AD.step _ _ _ _ _ rfl (zl zh rfl rfl rfl rfl rfl rfl (show (0:Int)≤0 by decide) rfl) rfl rfl ?_)|(refine zy ?_;first|(refine qQ (yE W 0 0) (yE W 0 0) (zJ us [50]) ([50]) zq rfl rfl rfl ?_ rfl rfl rfl cT ?_;· (repeat (first|exact zk|refine zi rfl ?_)))|(refine qQ ((70,.cell r0E)::yE W 0 0) ((70,.cell r0E)::yE V 1 1) (zJ us [50]) ([50,70]) zq rfl rfl rfl ?_ rfl rfl rfl cD ?_;· (repeat (first|exact zk|refine zi rfl ?_))))|(refine Zb ?_;first|refine Yt 70 rfl rfl rfl rfl rfl rfl ?_)|refine sK ?_|refine sC (fun _=>?_) (fun _=>?_)|fail)
 exact ⟨.inr rfl,.inl ⟨[pb true],rfl,rfl,⟨by repeat (first|exact zk|refine zi rfl ?_),rfl⟩⟩⟩
theorem zmr (W V:List Int) (hW:W.length=16402) (hV:V=Xj W 170 0 [7] 1) (us:Nat→Value):ACallM Tryz.prog 21 [.box 50 0] (yE V 1 1++zJ us [50]) (.pv (pb true)) (zE V++zJ us [50]):=by
 have hl:V.length=16402:=by rw [hV,zaH,hW]
 have cT:=fun us=>ziS (e1:=ObE) (e2:=KdE) (X8:=XE) V zf5 0 yt 1 18 170 1 (by decide) (by omega) us
 have cD:=fun us=>zpO W V hW hV us
 refine zC zh Tryz.func21 rfl (by kernel_rfl) Tryz.ntmps21 (by simp) _ rfl (fun gB hw1=>?_)
 repeat' (first|refine zo rfl (yI (b:=false) rfl Tryz.underlying58 rfl rfl) rfl rfl ?_|refine AD.step _ _ _ _ _ rfl (yI (b:=false) rfl Tryz.underlying58 rfl rfl) rfl rfl ?_|refine yG 22 19 rfl (by kernel_rfl) (by kernel_rfl) (by kernel_rfl) (by kernel_rfl) (by kernel_rfl) ?_|refine zo rfl (Yi zh rfl ⟨_,rfl⟩ rfl rfl rfl rfl rfl rfl) rfl rfl ?_|(refine shX ?_;first|refine zo rfl (zl zh rfl rfl rfl rfl rfl rfl (show (0:Int)≤1 by decide) rfl) rfl rfl ?_|refine AD.step _ _ _ _ _ rfl (zl zh rfl rfl rfl rfl rfl rfl (show (0:Int)≤1 by decide) rfl) rfl rfl ?_)|(refine zy ?_;first|(refine qQ (yE V 1 1) (yE V 1 1) (zJ us [50]) ([50]) zq rfl rfl rfl ?_ rfl rfl rfl cT ?_;· (repeat (first|exact zk|refine zi rfl ?_)))|(refine qQ ((70,.cell r1E)::yE V 1 1) ((70,.cell r1E)::zE V) (zJ us [50]) ([50,70]) zq rfl rfl rfl ?_ rfl rfl rfl cD ?_;· (repeat (first|exact zk|refine zi rfl ?_))))|(refine Zb ?_;first|refine Yt 70 rfl rfl rfl rfl rfl rfl ?_)|refine sK ?_|refine sC (fun _=>?_) (fun _=>?_)|fail)
 exact ⟨.inr rfl,.inl ⟨[pb true],rfl,rfl,⟨by repeat (first|exact zk|refine zi rfl ?_),rfl⟩⟩⟩
theorem zlQ (V:List Int) (us:Nat→Value):ACallM Tryz.prog 21 [.box 50 0] (zE V++zJ us [50]) (.pv (pb false)) (zE V++zJ us [50]):=by
 refine zC zh Tryz.func21 rfl (by kernel_rfl) Tryz.ntmps21 (by simp) _ rfl (fun gB hw1=>?_)
 repeat' (first|refine zo rfl (yI (b:=false) rfl Tryz.underlying58 rfl rfl) rfl rfl ?_|refine AD.step _ _ _ _ _ rfl (yI (b:=false) rfl Tryz.underlying58 rfl rfl) rfl rfl ?_|refine sK ?_|refine sC (fun _=>?_) (fun _=>?_)|fail)
 exact ⟨.inr rfl,.inl ⟨[pb false],rfl,rfl,⟨by repeat (first|exact zk|refine zi rfl ?_),rfl⟩⟩⟩
theorem zp8 (W V:List Int) (hW:W.length=16402) (hV:V=Xj W 170 0 [7] 1) (us:Nat→Value):ACallM Tryz.prog 22 [.box 50 0,.pv (pi 9)] (yE W 0 0++zJ us [50]) (.pv (pi 2)) (zE V++zJ us [50]):=by
 have c1:=znd W V hW hV
 have c2:=zmr W V hW hV
 have c3:=zlQ V
 refine zC zh Tryz.func22 rfl (by kernel_rfl) Tryz.ntmps22 (by simp) _ rfl (fun gB hw1=>?_)
 repeat' (first|refine zaA 3 ?_|refine zh9 ?_|(refine zy ?_;first|(refine qQ (yE W 0 0) (yE V 1 1) (zJ us [50]) ([50]) zq rfl rfl rfl ?_ rfl rfl rfl c1 ?_;· (repeat (first|exact zk|refine zi rfl ?_)))|(refine qQ (yE V 1 1) (zE V) (zJ us [50]) ([50]) zq rfl rfl rfl ?_ rfl rfl rfl c2 ?_;· (repeat (first|exact zk|refine zi rfl ?_)))|(refine qQ (zE V) (zE V) (zJ us [50]) ([50]) zq rfl rfl rfl ?_ rfl rfl rfl c3 ?_;· (repeat (first|exact zk|refine zi rfl ?_))))|refine sK ?_|refine sC (fun _=>?_) (fun _=>?_)|fail)
 exact ⟨.inr rfl,.inl ⟨[pi 2],rfl,rfl,⟨by repeat (first|exact zk|refine zi rfl ?_),rfl⟩⟩⟩
theorem zit (V:List Int) (us:Nat→Value):ACallM Tryz.prog 23 [.box 50 0] (zE V++zJ us [50]) (.pv (zhe 1 w7E)) (zE V++zJ us [50]):=by
 have c1:=zlp [7] (by decide)
 refine zC zh Tryz.func23 rfl (by kernel_rfl) Tryz.ntmps23 (by simp) _ rfl (fun gB hw1=>?_)
 repeat' (first|refine zo rfl (yI (b:=false) rfl Tryz.underlying58 rfl rfl) rfl rfl ?_|refine AD.step _ _ _ _ _ rfl (yI (b:=false) rfl Tryz.underlying58 rfl rfl) rfl rfl ?_|refine zo rfl (zS (ps:=[pi 1,pi 0,pi 0,pi 0,pb false,w7E]) zh rfl rfl rfl rfl rfl) rfl rfl ?_|refine AD.step _ _ _ _ _ rfl (zS (ps:=[pi 1,pi 0,pi 0,pi 0,pb false,w7E]) zh rfl rfl rfl rfl rfl) rfl rfl ?_|(refine shC ?_;first|refine qC c1 ?_)|refine sK ?_|refine sC (fun _=>?_) (fun _=>?_)|fail)
 exact ⟨.inr rfl,.inl ⟨[zhe 1 w7E],rfl,rfl,⟨by repeat (first|exact zk|refine zi rfl ?_),rfl⟩⟩⟩
set_option maxHeartbeats 20000000
abbrev zvD:PV:=.agg [.slc 4 [wTD 65 (-1)] true,.base (.slice none 0 0),.slc 12 [.agg [.base (.string ⟨#[109]⟩),pi 0,pi 1,.base (.slice none 0 0),pi 2,pi 0,pi 0,pb false,.base (.slice none 0 0),pi 1,.slc 6 (codeS.map yR) true,.base (.slice none 0 0)]] true,pi 0]
theorem zov:ACall Tryz.prog 57 [] zvD:=by
 refine zf zh Tryz.func57 rfl (by kernel_rfl) Tryz.ntmps57 (by simp) _ rfl (fun hw gB hgB=>?_)
 repeat' (first|refine sK ?_|refine sC (fun _=>?_) (fun _=>?_)|fail)
 exact retq rfl rfl
theorem zjP:∀ l:List PV,PTL l l
 | []=>Xz
 | _::l=>zQ (.refl _) (zjP l)
theorem znG:PTells zvD (zx gS) :=
 zkH (zQ (zkW (zbF (zqQ 65 (-1)) zgx)) (zQ (Qc 7 false) (zQ (zkW (zbF
  (zQ (.refl _) (zQ (.refl _) (zQ (.refl _) (zQ (Qc 4 false) (zQ (.refl _) (zQ (.refl _) (zQ (.refl _) (zQ (.refl _) (zQ (Qc 4 false) (zQ (.refl _)
   (zQ (zkW (zbF (zjP _) (zbF (zjP _) zgx))) (zQ (Qc 10 false) Xz))))))))))))
  zgx)) (zQ (.refl _) Xz))))
abbrev xuE (W:List Int) (u:Value):HEnv:=xE W++[(162,.pin (.box 50 0) u)]
theorem zkt:ACallM Tryz.prog 20 [] [] (.pv (pb true)) [] true:=by
 have cN:=zqE
 have hl:wsE.length=16402:=by rw [znY,zgB]
 generalize wsE=W at cN hl
 have cN:ACallU Tryz.prog 56 [.pv (zx gS),.pv zrx,.pv yt] [] (fun u:Value=>.pv (.tup [.base u,.agg [pi 0,pi 0],pi 0])) (fun u=>xuE W u) true:=cN
 obtain ⟨V,hV⟩:∃ V,V=Xj W 170 0 [7] 1:=⟨_,rfl⟩
 have cR:=zp8 W V hl hV
 have cO:=zit V
 have o1:=zov
 have cs:=Xw 1 [7] (by decide)
 refine zC zh Tryz.func20 rfl (by kernel_rfl) Tryz.ntmps20 (by simp) _ rfl (fun gB hw1=>?_)
 repeat' (first|refine Vh 5 znG rfl ?_|refine zl5 [] (fun u=>xuE W u) [] [(0,.pv (pb false))] [] hw1 rfl rfl rfl tHX tS rfl rfl (fun _=>rfl) (fun _=>cN) (fun u=>?_)|refine qx zh 1 rfl rfl rfl rfl rfl rfl rfl ?_|refine zlx 1 162 rfl rfl (zkT [(0,.pv (pb false)),(1,.box 50 0),(3,.pv (pi 0))] ((1,.cell (.pv (.agg [pi 0,pi 0])))::(162,.pin (.box 50 0) u)::yE W 0 0) tS tH ?_)|refine Vh 22 (zkH (zQ (.refl _) (zQ (.refl _) (zQ (.refl _) (zQ (.refl _) (zQ (.refl _) (zQ (zpm 1 [u64 7] true) Xz))))))) rfl ?_|(refine shC ?_;first|refine qC o1 ?_|refine qC cs ?_)|(refine zy ?_;first|(refine qQ (yE W 0 0) (zE V) ([(1,.cell (.pv (.agg [pi 0,pi 0]))),(162,.pin (.box 50 0) u)]) ([50]) zq rfl rfl rfl ?_ rfl rfl rfl cR ?_;· (repeat (first|exact zk|refine zi rfl ?_)))|(refine qQ (zE V) (zE V) ([(1,.cell (.pv (.agg [pi 0,pi 0]))),(162,.pin (.box 50 0) u)]) ([50]) zq rfl rfl rfl ?_ rfl rfl rfl cO ?_;· (repeat (first|exact zk|refine zi rfl ?_))))|refine sK ?_|refine sC (fun _=>?_) (fun _=>?_)|fail)
 exact ⟨.inr rfl,.inl ⟨[pb true],rfl,rfl,⟨by repeat (first|exact zk|refine zi rfl ?_),rfl⟩⟩⟩
theorem zfJ:PTells (zhe 0 zed) (zhe 0 (.slc 1 (([]:List Int).map u64) false)):=zkH (zQ (.refl _) (zQ (.refl _) (zQ (.refl _) (zQ (.refl _) (zQ (.refl _) (zQ (Qc 1 false) Xz))))))
theorem zdG:PTells zsU zrl:=zkH (zQ (Qc 4 false) (zQ (Qc 1 false) (zQ (Qc 1 false) (zQ (Qc 1 false) (zQ (.refl _) (zQ (.refl _) (zQ (.refl _) (zQ (.refl _) (zQ (.refl _) (zQ (Qc 1 false) Xz))))))))))
theorem zkD (n:Int):ACall Tryz.prog 5 [.base (.int .i8 n)] (pb true):=by
 have c1:=zjl
 have c2:=zto (IntKind.i64.wrap n)
 have c4:=zjS
 have c5:=Xw 0 [] (by decide)
 have c6:=zsJ
 have c7:=zqX
 have c8:=zkN
 refine zf zh Tryz.func5 rfl (by kernel_rfl) Tryz.ntmps5 (by simp) _ rfl (fun hw gB hgB=>?_)
 repeat' (first|refine Vh 19 zfJ rfl ?_|refine Vh 20 zfJ rfl ?_|refine Vh 31 zdG rfl ?_|refine Vh 32 zdG rfl ?_|(refine shC ?_;first|refine qC c1 ?_|refine qC c2 ?_|refine qC c4 ?_|refine qC c5 ?_|refine qC c6 ?_|refine qC c7 ?_|refine qC c8 ?_)|(refine zy ?_;first|refine qQ [] [] [] [] (fun _=>hgB.1) rfl rfl rfl tHX rfl rfl rfl (fun _=>zkt) ?_)|refine sK ?_|refine sC (fun _=>?_) (fun _=>?_)|fail)
 exact retq rfl rfl
end Go.Cg
