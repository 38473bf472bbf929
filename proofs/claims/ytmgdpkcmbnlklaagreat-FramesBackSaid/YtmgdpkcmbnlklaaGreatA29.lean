/- A part of the walks by abstract values: no statement of its own. -/
import Derived.Test.YtmgdpkcmbnlklaaGreatA27
import Derived.Test.YtmgdpkcmbnlklaaGreatA23
set_option linter.unusedVariables false
set_option linter.unusedSimpArgs false
namespace Go.Cg
open Go.Proofs
set_option maxHeartbeats 20000000
theorem zkT {fs:List Fr} {k:Nat} {f:Fr} (h:fs[k]?=some f):(fs.map ZM)[k]?=some (.agg [pi f.method,pi f.at_,u64 f.base,u64 f.eval,pi f.size]):=by rw [List.getElem?_map,h];rfl
theorem zhS (ws:List Int) (fr lim k x:Int) (fs:List Fr) (hk:¬ (0≤k∧k < (fs.length:Int))) (us:Nat→Value):ACallM Tryz.prog 27 [.box 30 0,.pv (pi k),.pv (pi x)] (skH ws fr lim fs++zu us [0,30]) (.pv (.tup [])) (skH ws fr lim fs++zu us [0,30]):=by
 have cH:=fun mv=>ZF ws mv fr lim k fs
 rw [decide_eq_false hk] at cH
 refine zn zk Tryz.func27 rfl (by kernel_rfl) Tryz.ntmps27 (by simp) _ rfl (fun gB hw1=>?_)
 repeat' (first|refine zy (r:=.pv (pb _)) rfl (zH (args:=fun ρ=>[.ptr (yQ ws (ρ 8) fr lim fs) 0,pi k]) rfl (fun _=>rfl) (fun ρ=>cH (ρ 8))) rfl rfl ?_|refine AD.step _ _ _ (.pv (pb _)) _ rfl (zH (args:=fun ρ=>[.ptr (yQ ws (ρ 8) fr lim fs) 0,pi k]) rfl (fun _=>rfl) (fun ρ=>cH (ρ 8))) rfl rfl ?_|refine sK ?_|refine sC (fun _=>?_) (fun _=>?_)|fail)
 exact ⟨.inl rfl,.inl ⟨[],rfl,rfl,⟨by repeat (first|exact zi|refine zh rfl ?_),rfl⟩⟩⟩
theorem zim (ws:List Int) (fr lim x:Int) (k:Nat) (fs:List Fr) (f:Fr) (hk:fs[k]?=some f) (us:Nat→Value):ACallM Tryz.prog 27 [.box 30 0,.pv (pi k),.pv (pi x)] (skH ws fr lim fs++zu us [0,30]) (.pv (.tup [])) (skH ws fr lim (fs.set k ⟨f.method,x,f.base,f.eval,f.size⟩)++zu us [0,30]):=by
 have hlt:=(List.getElem?_eq_some_iff.1 hk).1
 have cH:=fun mv=>ZF ws mv fr lim k fs
 rw [decide_eq_true (show (0:Int)≤(k:Int)∧(k:Int) < (fs.length:Int) by omega)] at cH
 have hp:=zkT hk
 have hl:k < (fs.map ZM).length:=by simpa using hlt
 have hE:(fs.map ZM).set k (.agg [pi f.method,pi x,u64 f.base,u64 f.eval,pi f.size])=(fs.set k ⟨f.method,x,f.base,f.eval,f.size⟩).map ZM:=by rw [List.map_set];rfl
 refine zn zk Tryz.func27 rfl (by kernel_rfl) Tryz.ntmps27 (by simp) _ rfl (fun gB hw1=>?_)
 repeat' (first|refine zy (r:=.pv (pb _)) rfl (zH (args:=fun ρ=>[.ptr (yQ ws (ρ 8) fr lim fs) 0,pi k]) rfl (fun _=>rfl) (fun ρ=>cH (ρ 8))) rfl rfl ?_|refine AD.step _ _ _ (.pv (pb _)) _ rfl (zH (args:=fun ρ=>[.ptr (yQ ws (ρ 8) fr lim fs) 0,pi k]) rfl (fun _=>rfl) (fun ρ=>cH (ρ 8))) rfl rfl ?_|refine sM ?_|(refine shX ?_;first|refine zy rfl (zC (k:=k) zk rfl rfl rfl rfl rfl rfl rfl rfl hl) rfl rfl ?_|refine AD.step _ _ _ _ _ rfl (zC (k:=k) zk rfl rfl rfl rfl rfl rfl rfl rfl hl) rfl rfl ?_)|(refine yj ?_;first|refine yS (k:=k) (j:=1) zk rfl rfl rfl rfl rfl hp rfl rfl rfl rfl rfl ?_)|refine sK ?_|refine sC (fun _=>?_) (fun _=>?_)|fail)
 exact ⟨.inl rfl,.inl ⟨[],rfl,rfl,⟨by repeat (first|exact zi|refine zh rfl ?_|refine ZK rfl hE ?_),rfl⟩⟩⟩
theorem zfS (ws:List Int) (fr lim k:Int) (fs:List Fr) (hk:¬ (0≤k∧k < (fs.length:Int))) (us:Nat→Value):ACallM Tryz.prog 25 [.box 30 0,.pv (pi k)] (skH ws fr lim fs++zu us [0,30]) (.pv (.tup [])) (skH ws fr lim fs++zu us [0,30]):=by
 have cH:=fun mv=>ZF ws mv fr lim k fs
 rw [decide_eq_false hk] at cH
 refine zn zk Tryz.func25 rfl (by kernel_rfl) Tryz.ntmps25 (by simp) _ rfl (fun gB hw1=>?_)
 repeat' (first|refine zy (r:=.pv (pb _)) rfl (zH (args:=fun ρ=>[.ptr (yQ ws (ρ 8) fr lim fs) 0,pi k]) rfl (fun _=>rfl) (fun ρ=>cH (ρ 8))) rfl rfl ?_|refine AD.step _ _ _ (.pv (pb _)) _ rfl (zH (args:=fun ρ=>[.ptr (yQ ws (ρ 8) fr lim fs) 0,pi k]) rfl (fun _=>rfl) (fun ρ=>cH (ρ 8))) rfl rfl ?_|refine sK ?_|refine sC (fun _=>?_) (fun _=>?_)|fail)
 exact ⟨.inl rfl,.inl ⟨[],rfl,rfl,⟨by repeat (first|exact zi|refine zh rfl ?_),rfl⟩⟩⟩
theorem zgF (ws:List Int) (fr lim:Int) (k:Nat) (fs:List Fr) (f:Fr) (hk:fs[k]?=some f) (us:Nat→Value):ACallM Tryz.prog 25 [.box 30 0,.pv (pi k)] (skH ws fr lim fs++zu us [0,30]) (.pv (.tup [])) (skH ws fr lim (fs.set k ⟨f.method,f.at_,f.base,f.eval,0⟩)++zu us [0,30]):=by
 have hlt:=(List.getElem?_eq_some_iff.1 hk).1
 have cH:=fun mv=>ZF ws mv fr lim k fs
 rw [decide_eq_true (show (0:Int)≤(k:Int)∧(k:Int) < (fs.length:Int) by omega)] at cH
 have hp:=zkT hk
 have hl:k < (fs.map ZM).length:=by simpa using hlt
 have hE:(fs.map ZM).set k (.agg [pi f.method,pi f.at_,u64 f.base,u64 f.eval,pi 0])=(fs.set k ⟨f.method,f.at_,f.base,f.eval,0⟩).map ZM:=by rw [List.map_set];rfl
 refine zn zk Tryz.func25 rfl (by kernel_rfl) Tryz.ntmps25 (by simp) _ rfl (fun gB hw1=>?_)
 repeat' (first|refine zy (r:=.pv (pb _)) rfl (zH (args:=fun ρ=>[.ptr (yQ ws (ρ 8) fr lim fs) 0,pi k]) rfl (fun _=>rfl) (fun ρ=>cH (ρ 8))) rfl rfl ?_|refine AD.step _ _ _ (.pv (pb _)) _ rfl (zH (args:=fun ρ=>[.ptr (yQ ws (ρ 8) fr lim fs) 0,pi k]) rfl (fun _=>rfl) (fun ρ=>cH (ρ 8))) rfl rfl ?_|refine sM ?_|(refine shX ?_;first|refine zy rfl (zC (k:=k) zk rfl rfl rfl rfl rfl rfl rfl rfl hl) rfl rfl ?_|refine AD.step _ _ _ _ _ rfl (zC (k:=k) zk rfl rfl rfl rfl rfl rfl rfl rfl hl) rfl rfl ?_)|(refine yj ?_;first|refine yS (k:=k) (j:=4) zk rfl rfl rfl rfl rfl hp rfl rfl rfl rfl rfl ?_)|refine sK ?_|refine sC (fun _=>?_) (fun _=>?_)|fail)
 exact ⟨.inl rfl,.inl ⟨[],rfl,rfl,⟨by repeat (first|exact zi|refine zh rfl ?_|refine ZK rfl hE ?_),rfl⟩⟩⟩
theorem zhe (ws:List Int) (fr lim n:Int) (us:Nat→Value):ACallM Tryz.prog 29 [.box 30 0,.pv (pi n)] (skH ws fr lim []++zu us [0,30]) (.pv (u64 0)) (skH ws fr lim []++zu us [0,30]):=by
 have cT:=fun us'=>zay ws fr lim us'
 refine zn zk Tryz.func29 rfl (by kernel_rfl) Tryz.ntmps29 (by simp) _ rfl (fun gB hw1=>?_)
 repeat' (first|refine zy rfl (yF (b:=true) rfl Tryz.underlying68 rfl rfl) rfl rfl ?_|refine AD.step _ _ _ _ _ rfl (yF (b:=true) rfl Tryz.underlying68 rfl rfl) rfl rfl ?_|(refine zG ?_;first|(refine yH (skH ws fr lim []) (skH ws fr lim []) ([(1000,.pin (.own 0) (us 0)),(1030,.pin (.own 30) (us 30))]) ([0,30]) zU rfl rfl rfl ?_ rfl rfl rfl cT ?_;· (repeat (first|exact zi|refine zh rfl ?_))))|refine sK ?_|refine sC (fun _=>?_) (fun _=>?_)|fail)
 exact ⟨.inr rfl,.inl ⟨_,rfl,rfl,⟨by repeat (first|exact zi|refine zh rfl ?_),rfl⟩⟩⟩
theorem zix (ws:List Int) (fr lim n:Int) (l:List Fr) (f:Fr) (hf:l.length≤63) (hn:n < 0∨152≤n) (us:Nat→Value):ACallM Tryz.prog 29 [.box 30 0,.pv (pi n)] (skH ws fr lim (l++[f])++zu us [0,30]) (.pv (u64 0)) (skH ws fr lim (l++[f])++zu us [0,30]):=by
 have cT:=fun us'=>XH ws fr lim l f hf us'
 by_cases h:n < 0
 ·have hd1:decide (n < 0)=true:=decide_eq_true h
  refine zn zk Tryz.func29 rfl (by kernel_rfl) Tryz.ntmps29 (by simp) _ rfl (fun gB hw1=>?_)
  repeat' (first|refine zy rfl (Yj rfl Tryz.underlying68 rfl) rfl rfl ?_|(refine zG ?_;first|(refine yH (skH ws fr lim (l++[f])) (skH ws fr lim (l++[f])) ([(1000,.pin (.own 0) (us 0)),(1030,.pin (.own 30) (us 30))]) ([0,30]) zU rfl rfl rfl ?_ rfl rfl rfl cT ?_;· (repeat (first|exact zi|refine zh rfl ?_))))|refine sK ?_|refine sC (fun _=>?_) (fun _=>?_)|fail)
  exact ⟨.inr rfl,.inl ⟨_,rfl,rfl,⟨by repeat (first|exact zi|refine zh rfl ?_),rfl⟩⟩⟩
 ·have hd1:decide (n < 0)=false:=decide_eq_false h
  have hd2:decide (152≤n)=true:=decide_eq_true (by omega)
  refine zn zk Tryz.func29 rfl (by kernel_rfl) Tryz.ntmps29 (by simp) _ rfl (fun gB hw1=>?_)
  repeat' (first|refine zy rfl (Yj rfl Tryz.underlying68 rfl) rfl rfl ?_|(refine zG ?_;first|(refine yH (skH ws fr lim (l++[f])) (skH ws fr lim (l++[f])) ([(1000,.pin (.own 0) (us 0)),(1030,.pin (.own 30) (us 30))]) ([0,30]) zU rfl rfl rfl ?_ rfl rfl rfl cT ?_;· (repeat (first|exact zi|refine zh rfl ?_))))|refine sK ?_|refine sC (fun _=>?_) (fun _=>?_)|fail)
  exact ⟨.inr rfl,.inl ⟨_,rfl,rfl,⟨by repeat (first|exact zi|refine zh rfl ?_),rfl⟩⟩⟩
theorem zkk (ws:List Int) (fr lim n:Int) (l:List Fr) (f:Fr) (hf:l.length≤63) (h0:0≤n) (h1:n < 152) (hb:0≤f.base) (hb2:f.base≤100000) (us:Nat→Value):ACallM Tryz.prog 29 [.box 30 0,.pv (pi n)] (skH ws fr lim (l++[f])++zu us [0,30]) (.pv (u64 (f.base + n))) (skH ws fr lim (l++[f])++zu us [0,30]):=by
 have cT:=fun us'=>XH ws fr lim l f hf us'
 have hd1:decide (n < 0)=false:=decide_eq_false (by omega)
 have hd2:decide (152≤n)=false:=decide_eq_false (by omega)
 have hr:IntKind.u64.wrap (f.base + IntKind.u64.wrap n)=f.base + n:=by rw [zM (a:=n) (by omega) (by omega),zM (by omega) (by omega)]
 have hp:=QT l f
 rw [←hr]
 refine zn zk Tryz.func29 rfl (by kernel_rfl) Tryz.ntmps29 (by simp) _ rfl (fun gB hw1=>?_)
 repeat' (first|refine zy rfl (Yj rfl Tryz.underlying68 rfl) rfl rfl ?_|refine sM ?_|refine zy rfl (zB (k:=l.length) (j:=2) zk rfl rfl rfl rfl hp rfl) rfl rfl ?_|refine AD.step _ _ _ _ _ rfl (zB (k:=l.length) (j:=2) zk rfl rfl rfl rfl hp rfl) rfl rfl ?_|(refine zG ?_;first|(refine yH (skH ws fr lim (l++[f])) (skH ws fr lim (l++[f])) ([(1000,.pin (.own 0) (us 0)),(1030,.pin (.own 30) (us 30))]) ([0,30]) zU rfl rfl rfl ?_ rfl rfl rfl cT ?_;· (repeat (first|exact zi|refine zh rfl ?_))))|refine sK ?_|refine sC (fun _=>?_) (fun _=>?_)|fail)
 exact ⟨.inr rfl,.inl ⟨_,rfl,rfl,⟨by repeat (first|exact zi|refine zh rfl ?_),rfl⟩⟩⟩
theorem zhJ (ws:List Int) (fr lim n:Int) (us:Nat→Value):ACallM Tryz.prog 14 [.box 30 0,.pv (pi n)] (skH ws fr lim []++zu us [0,30]) (.pv (.base (.slice none 0 0))) (skH ws fr lim []++zu us [0,30]):=by
 have cT:=fun us'=>zay ws fr lim us'
 refine zn zk Tryz.func14 rfl (by kernel_rfl) Tryz.ntmps14 (by simp) _ rfl (fun gB hw1=>?_)
 repeat' (first|refine zy rfl (yF (b:=true) rfl Tryz.underlying68 rfl rfl) rfl rfl ?_|refine AD.step _ _ _ _ _ rfl (yF (b:=true) rfl Tryz.underlying68 rfl rfl) rfl rfl ?_|(refine zG ?_;first|(refine yH (skH ws fr lim []) (skH ws fr lim []) ([(1000,.pin (.own 0) (us 0)),(1030,.pin (.own 30) (us 30))]) ([0,30]) zU rfl rfl rfl ?_ rfl rfl rfl cT ?_;· (repeat (first|exact zi|refine zh rfl ?_))))|refine sK ?_|refine sC (fun _=>?_) (fun _=>?_)|fail)
 exact ⟨.inr rfl,.inl ⟨_,rfl,rfl,⟨by repeat (first|exact zi|refine zh rfl ?_),rfl⟩⟩⟩
theorem zie (ws:List Int) (fr lim n:Int) (l:List Fr) (f:Fr) (hf:l.length≤63) (hn:n < 0∨f.size < n) (us:Nat→Value):ACallM Tryz.prog 14 [.box 30 0,.pv (pi n)] (skH ws fr lim (l++[f])++zu us [0,30]) (.pv (.base (.slice none 0 0))) (skH ws fr lim (l++[f])++zu us [0,30]):=by
 have cT:=fun us'=>XH ws fr lim l f hf us'
 have hp:=QT l f
 by_cases h:n < 0
 ·have hd1:decide (n < 0)=true:=decide_eq_true h
  refine zn zk Tryz.func14 rfl (by kernel_rfl) Tryz.ntmps14 (by simp) _ rfl (fun gB hw1=>?_)
  repeat' (first|refine zy rfl (Yj rfl Tryz.underlying68 rfl) rfl rfl ?_|refine sM ?_|refine zy rfl (zB (k:=l.length) (j:=4) zk rfl rfl rfl rfl hp rfl) rfl rfl ?_|refine AD.step _ _ _ _ _ rfl (zB (k:=l.length) (j:=4) zk rfl rfl rfl rfl hp rfl) rfl rfl ?_|(refine zG ?_;first|(refine yH (skH ws fr lim (l++[f])) (skH ws fr lim (l++[f])) ([(1000,.pin (.own 0) (us 0)),(1030,.pin (.own 30) (us 30))]) ([0,30]) zU rfl rfl rfl ?_ rfl rfl rfl cT ?_;· (repeat (first|exact zi|refine zh rfl ?_))))|refine sK ?_|refine sC (fun _=>?_) (fun _=>?_)|fail)
  exact ⟨.inr rfl,.inl ⟨_,rfl,rfl,⟨by repeat (first|exact zi|refine zh rfl ?_),rfl⟩⟩⟩
 ·have hd1:decide (n < 0)=false:=decide_eq_false h
  have hd2:decide (f.size < n)=true:=decide_eq_true (by omega)
  refine zn zk Tryz.func14 rfl (by kernel_rfl) Tryz.ntmps14 (by simp) _ rfl (fun gB hw1=>?_)
  repeat' (first|refine zy rfl (Yj rfl Tryz.underlying68 rfl) rfl rfl ?_|refine sM ?_|refine zy rfl (zB (k:=l.length) (j:=4) zk rfl rfl rfl rfl hp rfl) rfl rfl ?_|refine AD.step _ _ _ _ _ rfl (zB (k:=l.length) (j:=4) zk rfl rfl rfl rfl hp rfl) rfl rfl ?_|(refine zG ?_;first|(refine yH (skH ws fr lim (l++[f])) (skH ws fr lim (l++[f])) ([(1000,.pin (.own 0) (us 0)),(1030,.pin (.own 30) (us 30))]) ([0,30]) zU rfl rfl rfl ?_ rfl rfl rfl cT ?_;· (repeat (first|exact zi|refine zh rfl ?_))))|refine sK ?_|refine sC (fun _=>?_) (fun _=>?_)|fail)
  exact ⟨.inr rfl,.inl ⟨_,rfl,rfl,⟨by repeat (first|exact zi|refine zh rfl ?_),rfl⟩⟩⟩
end Go.Cg
