/- A part of the walks by abstract values: no statement of its own. -/
import Derived.Test.YtmgdpkcmbnlklaaGreatA27
import Derived.Test.YtmgdpkcmbnlklaaGreatA11
import Derived.Test.YtmgdpkcmbnlklaaGreatA25
import Derived.Test.YtmgdpkcmbnlklaaGreatA23
set_option linter.unusedVariables false
set_option linter.unusedSimpArgs false
namespace Go.Cg
open Go.Proofs
set_option maxHeartbeats 20000000
structure DE where
 m:Int
 a:Int
 o:Int
 v:Value
 s:Value
abbrev dP (e:DE):PV:=.agg [pi e.m,pi e.a,pi e.o,.base e.v,.base e.s]
abbrev dH (N:Int) (L:List DE):HEnv:=[(60,.cell (.agg [.pv (pi N),.own 61])),(61,.mrow 65 5 (L.map dP))]
theorem Vh {L:List DE} {k:Nat} {e:DE} (h:L[k]?=some e):(L.map dP)[k]?=some (.agg [pi e.m,pi e.a,pi e.o,.base e.v,.base e.s]):=by rw [List.getElem?_map,h];rfl
theorem ziN (N:Int) (L:List DE) (k:Nat) (x:Int) (e:DE) (hk:L[k]?=some e) (us:Nat→Value):ACallM Tryz.prog 28 [.box 60 0,.pv (pi k),.pv (pi x)] (dH N L++zu us [60]) (.pv (.tup [])) (dH N (L.set k ⟨e.m,x,e.o,e.v,e.s⟩)++zu us [60]):=by
 have hp:=Vh hk
 have hl:k < (L.map dP).length:=by rw [List.length_map];exact (List.getElem?_eq_some_iff.1 hk).1
 have h0:decide ((0:Int)≤(k:Int))=true:=decide_eq_true (by omega)
 have h1:decide ((k:Int) < (((L.map dP).length:Nat):Int))=true:=decide_eq_true (by omega)
 have hE:(L.map dP).set k (.agg [pi e.m,pi x,pi e.o,.base e.v,.base e.s])=(L.set k ⟨e.m,x,e.o,e.v,e.s⟩).map dP:=by rw [List.map_set]
 refine zn zk Tryz.func28 rfl (by kernel_rfl) Tryz.ntmps28 (by simp) _ rfl (fun gB hw1=>?_)
 repeat' (first|refine sM ?_|(refine shX ?_;first|refine zy rfl (zC (k:=k) zk rfl rfl rfl rfl rfl rfl rfl rfl hl) rfl rfl ?_|refine AD.step _ _ _ _ _ rfl (zC (k:=k) zk rfl rfl rfl rfl rfl rfl rfl rfl hl) rfl rfl ?_)|(refine yj ?_;first|refine yS (k:=k) (j:=1) zk rfl rfl rfl rfl rfl hp rfl rfl rfl rfl rfl ?_)|refine sK ?_|refine sC (fun _=>?_) (fun _=>?_)|fail)
 exact ⟨.inl rfl,.inl ⟨[],rfl,rfl,⟨by repeat (first|exact zi|refine zh rfl ?_|refine ZK rfl hE ?_),rfl⟩⟩⟩
theorem zgc (N:Int) (L:List DE) (k x:Int) (hk:¬ (0≤k∧k < L.length)) (us:Nat→Value):ACallM Tryz.prog 28 [.box 60 0,.pv (pi k),.pv (pi x)] (dH N L++zu us [60]) (.pv (.tup [])) (dH N L++zu us [60]):=by
 by_cases h:0≤k
 ·have h0:decide (0≤k)=true:=decide_eq_true h
  have h1:decide (k < (((L.map dP).length:Nat):Int))=false:=decide_eq_false (by rw [List.length_map];omega)
  refine zn zk Tryz.func28 rfl (by kernel_rfl) Tryz.ntmps28 (by simp) _ rfl (fun gB hw1=>?_)
  repeat' (first|refine sM ?_|refine sK ?_|refine sC (fun _=>?_) (fun _=>?_)|fail)
  exact ⟨.inl rfl,.inl ⟨[],rfl,rfl,⟨by repeat (first|exact zi|refine zh rfl ?_),rfl⟩⟩⟩
 ·have h0:decide (0≤k)=false:=decide_eq_false h
  refine zn zk Tryz.func28 rfl (by kernel_rfl) Tryz.ntmps28 (by simp) _ rfl (fun gB hw1=>?_)
  repeat' (first|refine sM ?_|refine sK ?_|refine sC (fun _=>?_) (fun _=>?_)|fail)
  exact ⟨.inl rfl,.inl ⟨[],rfl,rfl,⟨by repeat (first|exact zi|refine zh rfl ?_),rfl⟩⟩⟩
theorem zg5 (N:Int) (L:List DE) (k:Nat) (e:DE) (hk:L[k]?=some e) (us:Nat→Value):ACallM Tryz.prog 26 [.box 60 0,.pv (pi k)] (dH N L++zu us [60]) (.pv (.tup [])) (dH N (L.set k ⟨e.m,e.a,e.o,e.v,.slice none 0 0⟩)++zu us [60]):=by
 have hp:=Vh hk
 have hl:k < (L.map dP).length:=by rw [List.length_map];exact (List.getElem?_eq_some_iff.1 hk).1
 have h0:decide ((0:Int)≤(k:Int))=true:=decide_eq_true (by omega)
 have h1:decide ((k:Int) < (((L.map dP).length:Nat):Int))=true:=decide_eq_true (by omega)
 have hE:(L.map dP).set k (.agg [pi e.m,pi e.a,pi e.o,.base e.v,.base (.slice none 0 0)])=(L.set k ⟨e.m,e.a,e.o,e.v,.slice none 0 0⟩).map dP:=by rw [List.map_set]
 refine zn zk Tryz.func26 rfl (by kernel_rfl) Tryz.ntmps26 (by simp) _ rfl (fun gB hw1=>?_)
 repeat' (first|refine sM ?_|(refine shX ?_;first|refine zy rfl (zC (k:=k) zk rfl rfl rfl rfl rfl rfl rfl rfl hl) rfl rfl ?_|refine AD.step _ _ _ _ _ rfl (zC (k:=k) zk rfl rfl rfl rfl rfl rfl rfl rfl hl) rfl rfl ?_)|(refine yj ?_;first|refine yS (k:=k) (j:=4) zk rfl rfl rfl rfl rfl hp rfl rfl rfl rfl rfl ?_)|refine sK ?_|refine sC (fun _=>?_) (fun _=>?_)|fail)
 exact ⟨.inl rfl,.inl ⟨[],rfl,rfl,⟨by repeat (first|exact zi|refine zh rfl ?_|refine ZK rfl hE ?_),rfl⟩⟩⟩
theorem zeW (N:Int) (L:List DE) (k:Int) (hk:¬ (0≤k∧k < L.length)) (us:Nat→Value):ACallM Tryz.prog 26 [.box 60 0,.pv (pi k)] (dH N L++zu us [60]) (.pv (.tup [])) (dH N L++zu us [60]):=by
 by_cases h:0≤k
 ·have h0:decide (0≤k)=true:=decide_eq_true h
  have h1:decide (k < (((L.map dP).length:Nat):Int))=false:=decide_eq_false (by rw [List.length_map];omega)
  refine zn zk Tryz.func26 rfl (by kernel_rfl) Tryz.ntmps26 (by simp) _ rfl (fun gB hw1=>?_)
  repeat' (first|refine sM ?_|refine sK ?_|refine sC (fun _=>?_) (fun _=>?_)|fail)
  exact ⟨.inl rfl,.inl ⟨[],rfl,rfl,⟨by repeat (first|exact zi|refine zh rfl ?_),rfl⟩⟩⟩
 ·have h0:decide (0≤k)=false:=decide_eq_false h
  refine zn zk Tryz.func26 rfl (by kernel_rfl) Tryz.ntmps26 (by simp) _ rfl (fun gB hw1=>?_)
  repeat' (first|refine sM ?_|refine sK ?_|refine sC (fun _=>?_) (fun _=>?_)|fail)
  exact ⟨.inl rfl,.inl ⟨[],rfl,rfl,⟨by repeat (first|exact zi|refine zh rfl ?_),rfl⟩⟩⟩
set_option maxHeartbeats 20000000
theorem zeR (N:Int) (us:Nat→Value):ACallM Tryz.prog 24 [.box 60 0] (dH N []++zu us [60]) (.pv (pb false)) (dH N []++zu us [60]):=by
 refine zn zk Tryz.func24 rfl (by kernel_rfl) Tryz.ntmps24 (by simp) _ rfl (fun gB hw1=>?_)
 repeat' (first|refine sM ?_|refine sK ?_|refine sC (fun _=>?_) (fun _=>?_)|fail)
 exact ⟨.inr rfl,.inl ⟨_,rfl,rfl,⟨by repeat (first|exact zi|refine zh rfl ?_),rfl⟩⟩⟩
theorem zgz (N:Int) (A:List DE) (e:DE) (hA:A.length≤63) (us:Nat→Value):ACallM Tryz.prog 24 [.box 60 0] (dH N (A++[e])++zu us [60]) (.pv (pb true)) (dH N A++zu us [60]):=by
 obtain ⟨S,hS⟩:∃ S,S=(A++[e]).map dP:=⟨_,rfl⟩
 have hl:S.length=A.length + 1:=by rw [hS];simp
 have hd:decide (((S.length:Nat):Int)=0)=false:=decide_eq_false (by omega)
 have hw:some (IntKind.i64.wrap (((S.length:Nat):Int) - 1))=some ((A.length:Nat):Int):=by
  rw [hl,wrap_in (by omega) (by omega)];congr 1;omega
 have h2:((A.length:Nat):Int)≤((S.length:Nat):Int):=by omega
 have hE:(S.take ((A.length:Nat):Int).toNat).drop (0:Int).toNat=A.map dP:=by rw [hS];simp
 rw [dH,←hS]
 cases A with
 | nil =>
  refine zn zk Tryz.func24 rfl (by kernel_rfl) Tryz.ntmps24 (by simp) _ rfl (fun gB hw1=>?_)
  refine Wn 61 rfl (Vu 60 61 1 rfl rfl rfl (zcX [(0,.box 60 0)] ((60,.cell (.agg [.pv (pi N),.pv (.slc 5 S false)]))::zu us [60]) tS tH ?_))
  repeat' (first|refine qj 14 12 rfl (by kernel_rfl) (by kernel_rfl) (by kernel_rfl) (by kernel_rfl) (by kernel_rfl) ?_|refine AD.step _ _ _ _ _ rfl (WH zk rfl rfl rfl rfl rfl rfl hw (Int.le_refl 0) (Int.natCast_nonneg _) h2) rfl rfl ?_|refine zy rfl (zah zk rfl rfl rfl (by show some (PV.slc 5 _ false)=some (PV.slc 5 [] false);rw [hE];rfl) rfl) rfl rfl ?_|refine Zx 60 61 1 65 5 (by decide) rfl rfl rfl rfl ?_|refine sK ?_|refine sC (fun _=>?_) (fun _=>?_)|fail)
  exact ⟨.inr rfl,.inl ⟨_,rfl,rfl,⟨by repeat (first|exact zi|refine zh rfl ?_),rfl⟩⟩⟩
 | cons a A =>
  refine zn zk Tryz.func24 rfl (by kernel_rfl) Tryz.ntmps24 (by simp) _ rfl (fun gB hw1=>?_)
  refine Wn 61 rfl (Vu 60 61 1 rfl rfl rfl (zcX [(0,.box 60 0)] ((60,.cell (.agg [.pv (pi N),.pv (.slc 5 S false)]))::zu us [60]) tS tH ?_))
  repeat' (first|refine qj 14 12 rfl (by kernel_rfl) (by kernel_rfl) (by kernel_rfl) (by kernel_rfl) (by kernel_rfl) ?_|refine AD.step _ _ _ _ _ rfl (WH zk rfl rfl rfl rfl rfl rfl hw (Int.le_refl 0) (Int.natCast_nonneg _) h2) rfl rfl ?_|refine QW 61 zk rfl rfl rfl (.inr ⟨rfl,rfl⟩) rfl (by rw [hE];simp) rfl (by rw [hE];show _ * 72≤_;simp at *;omega) (by rw [hE];simp at *;omega) rfl rfl rfl ?_|refine sK ?_|refine sC (fun _=>?_) (fun _=>?_)|fail)
  exact ⟨.inr rfl,.inl ⟨_,rfl,rfl,⟨by repeat (first|exact zi|refine zh rfl ?_|refine YF rfl hE ?_),rfl⟩⟩⟩
set_option maxHeartbeats 20000000
abbrev ZH:Value:=.slice none 0 0
def Wv (l:List Int) (k:Nat):List Int:=(List.range 152).map fun p=>if p < k then l.getD p 0 else 0
abbrev vsH (vars:List Int) (v:Value):HEnv:=[(70,.mrow 33 1 (vars.map u64)),(71,.pin (.own 70) v)]
abbrev ssH (st:List Int) (s:Value):HEnv:=[(72,.mrow 33 1 (st.map u64)),(73,.pin (.own 72) s)]
theorem Xz (l:List Int) (k:Nat):(Wv l k).length=152:=by simp [Wv]
theorem zbu (l:List Int) {k p:Nat} (h:p < 152):((Wv l k).map u64)[p]?=some (u64 (if p < k then l.getD p 0 else 0)):=by simp [Wv,h]
theorem zkZ (l:List Int) {k:Nat} (hk:k < 152):((Wv l k).map u64).set k (u64 (l.getD k 0))=(Wv l (k + 1)).map u64:=by
 apply List.ext_getElem?
 intro p
 rw [List.getElem?_set]
 by_cases hp:p < 152
 ·rw [zbu l hp,zbu l hp,List.length_map,Xz]
  by_cases e:k=p
  ·subst e;rw [if_pos rfl,if_pos hk,if_pos (by omega)]
  ·rw [if_neg e]
   by_cases h:p < k
   ·rw [if_pos h,if_pos (by omega)]
   ·rw [if_neg h,if_neg (by omega)]
 ·have e:k≠p:=by omega
  rw [if_neg e,List.getElem?_eq_none (by rw [List.length_map,Xz];omega),List.getElem?_eq_none (by rw [List.length_map,Xz];omega)]
theorem zjV (l:List Int):(Wv l 0).map u64=List.replicate 152 (u64 0):=by
 apply List.ext_getElem?
 intro p
 by_cases hp:p < 152
 ·rw [zbu l hp,if_neg (by omega),List.getElem?_replicate,if_pos hp]
 ·rw [List.getElem?_eq_none (by rw [List.length_map,Xz];omega),List.getElem?_eq_none (by simp;omega)]
theorem zeS (N:Int) (L:List DE) (m w:Int) (l:List Int) (full:Bool) (hno:N≤L.length∨w < l.length∨152 < w) (us:Nat→Value):ACallM Tryz.prog 21 [.box 60 0,.pv (pi m),.pv (pi w),.pv (.slc 1 (l.map u64) full)] (dH N L++zu us [60]) (.pv (pb false)) (dH N L++zu us [60]):=by
 by_cases h1:N≤L.length
 ·have hd1:decide (N≤(((L.map dP).length:Nat):Int))=true:=decide_eq_true (by rw [List.length_map];exact h1)
  refine zn zk Tryz.func21 rfl (by kernel_rfl) Tryz.ntmps21 (by simp) _ rfl (fun gB hw1=>?_)
  repeat' (first|refine sM ?_|refine sK ?_|refine sC (fun _=>?_) (fun _=>?_)|fail)
  exact ⟨.inr rfl,.inl ⟨_,rfl,rfl,⟨by repeat (first|exact zi|refine zh rfl ?_),rfl⟩⟩⟩
 ·have hd1:decide (N≤(((L.map dP).length:Nat):Int))=false:=decide_eq_false (by rw [List.length_map];exact h1)
  by_cases h2:w < l.length
  ·have hd2:decide (w < (((l.map u64).length:Nat):Int))=true:=decide_eq_true (by rw [List.length_map];exact h2)
   refine zn zk Tryz.func21 rfl (by kernel_rfl) Tryz.ntmps21 (by simp) _ rfl (fun gB hw1=>?_)
   repeat' (first|refine sM ?_|refine sK ?_|refine sC (fun _=>?_) (fun _=>?_)|fail)
   exact ⟨.inr rfl,.inl ⟨_,rfl,rfl,⟨by repeat (first|exact zi|refine zh rfl ?_),rfl⟩⟩⟩
  ·have hd2:decide (w < (((l.map u64).length:Nat):Int))=false:=decide_eq_false (by rw [List.length_map];exact h2)
   have hd3:decide (152 < w)=true:=decide_eq_true (by omega)
   refine zn zk Tryz.func21 rfl (by kernel_rfl) Tryz.ntmps21 (by simp) _ rfl (fun gB hw1=>?_)
   repeat' (first|refine sM ?_|refine sK ?_|refine sC (fun _=>?_) (fun _=>?_)|fail)
   exact ⟨.inr rfl,.inl ⟨_,rfl,rfl,⟨by repeat (first|exact zi|refine zh rfl ?_),rfl⟩⟩⟩
abbrev efH (N:Int) (S:List PV) (m n:Int) (v:Value) (vars:List Int) (us:Nat→Value):HEnv:=ssH [] ZH++vsH vars v++[(64,.cell (.agg [.pv (pi m),.pv (pi 0),.pv (pi n),.pv (.base v),.pv (.base ZH)])),(60,.cell (.agg [.pv (pi N),.own 61])),(61,.mrow 65 5 S)]++zu us [60]
abbrev enH (N:Int) (S:List PV) (m n:Int) (a:AV) (es:List PV) (us:Nat→Value):HEnv:=(64,.cell (.agg [.pv (pi m),.pv (pi 0),.pv (pi n),a,.pv (.base ZH)]))::(70,.mrow 33 1 es)::(60,.cell (.agg [.pv (pi N),.own 61]))::(61,.mrow 65 5 S)::zu us [60]
theorem zgY (N:Int) (L:List DE) (m w:Int) (l:List Int) (full:Bool) (h1:L.length < N) (h64:N≤64) (h2:l.length≤w) (h3:w≤152) (us:Nat→Value):ACallU Tryz.prog 21 [.box 60 0,.pv (pi m),.pv (pi w),.pv (.slc 1 (l.map u64) full)] (dH N L++zu us [60]) (fun _:Value=>.pv (pb true)) (fun v=>dH N (L++[⟨m,0,L.length,v,ZH⟩])++vsH (Wv l l.length) v++ssH [] ZH++zu us [60]):=by
 have hd1:decide (N≤(((L.map dP).length:Nat):Int))=false:=decide_eq_false (by rw [List.length_map];omega)
 have hd2:decide (w < (((l.map u64).length:Nat):Int))=false:=decide_eq_false (by rw [List.length_map];omega)
 have hd3:decide (152 < w)=false:=decide_eq_false (by omega)
 obtain ⟨M,hM⟩:∃ M:Nat,M=152:=⟨_,rfl⟩
 have hmi:(152:Int)=((M:Nat):Int):=by rw [hM];rfl
 obtain ⟨S,hS⟩:∃ S,S=L.map dP:=⟨_,rfl⟩
 have hSl:S.length=L.length:=by rw [hS,List.length_map]
 rw [←hS] at hd1
 have hap:∀ v,S++[dP (⟨m,0,S.length,v,ZH⟩:DE)]=(L++[(⟨m,0,L.length,v,ZH⟩:DE)]).map dP:=fun v=>by rw [hSl,hS,List.map_append];rfl
 have hz:List.replicate M (u64 0)=(Wv l 0).map u64:=by rw [hM,zjV]
 refine zK zk Tryz.func21 rfl (by kernel_rfl) Tryz.ntmps21 (by simp) _ rfl (fun gB hw1=>?_)
 rw [dH,←hS]
 repeat' (first|refine sM ?_|refine yX zk 64 rfl rfl rfl rfl rfl rfl rfl ?_|refine zdZ (m:=M) (sz:=1) zk 70 rfl rfl rfl rfl rfl hmi rfl rfl (by show 8 * _≤_;omega) (by simp [maxLen];omega) rfl rfl rfl ?_|refine sK ?_|refine sC (fun _=>?_) (fun _=>?_)|fail)
 refine zI (fun k:Nat=>[(0,.box 60 0),(3,.pv (.slc 1 (l.map u64) full)),(9,.box 64 0),(10,.pv (pi k))]) (fun k=>enH N S m S.length (.own 70) ((Wv l k).map u64) us) (fun k=>k≤l.length) (fun k=>l.length - k) 0 (by omega) tSU ⟨zh rfl (ZK rfl hz (by repeat (first|exact zi|refine zh rfl ?_))),rfl⟩ ?_
 rintro k hk
 by_cases hlt:k < l.length
 ·have hdk:decide ((k:Int) < (((l.map u64).length:Nat):Int))=true:=decide_eq_true (by rw [List.length_map];omega)
  have hx:(l.map u64)[k]?=some (u64 (l.getD k 0)):=by rw [List.getElem?_map,List.getD_eq_getElem?_getD,List.getElem?_eq_getElem hlt];rfl
  have hp:((Wv l k).map u64)[k]?=some (u64 0):=by rw [zbu l (by omega),if_neg (by omega)]
  have hkl:k < ((Wv l k).map u64).length:=by rw [List.length_map,Xz];omega
  repeat' (first|refine qj 9 7 rfl (by kernel_rfl) (by kernel_rfl) (by kernel_rfl) (by kernel_rfl) (by kernel_rfl) ?_|refine sM ?_|(refine shX ?_;first|refine qX hx ?_|refine zy rfl (zC (k:=k) zk rfl rfl rfl rfl rfl rfl rfl rfl hkl) rfl rfl ?_|refine AD.step _ _ _ _ _ rfl (zC (k:=k) zk rfl rfl rfl rfl rfl rfl rfl rfl hkl) rfl rfl ?_)|(refine yj ?_;first|refine yS (k:=k) (j:=0) zk rfl rfl rfl rfl rfl hp rfl rfl rfl rfl rfl ?_)|refine sK ?_|refine sC (fun _=>?_) (fun _=>?_)|fail)
  exact ⟨k + 1,hlt,tD,tSU,⟨by repeat (first|exact zi|refine zh rfl ?_|refine ZK rfl (zkZ l (by omega)) ?_),rfl⟩⟩
 ·have hk2:k=l.length:=by omega
  subst hk2
  have hdk:decide ((l.length:Int) < (((l.map u64).length:Nat):Int))=false:=decide_eq_false (by rw [List.length_map];omega)
  refine zcJ 64 3 71 rfl rfl rfl rfl (fun v=>VL 72 73 33 1 (by decide) rfl rfl (by decide) ?_)
  repeat' (first|refine zbB 9 [(0,.box 60 0),(9,.box 64 0)] (efH N S m S.length v (Wv l l.length) us) rfl rfl tS tH ?_|refine sK ?_|refine sC (fun _=>?_) (fun _=>?_)|fail)
  refine zbK 0 7 [0,1,2,3,4,5,6,7,8,9,10] [0,1,2,3,4,5,6,7,8,9,10] [1,2,3,4,5,6,7,0,8,9,10] [7,0,1,2,3,4,5,6,8,9,10] rfl (by kernel_rfl) (by kernel_rfl) (zdY (by kernel_rfl) ?_) (zdY (by kernel_rfl) ?_)
  focus refine zc1 11 7 rfl (by kernel_rfl) (by kernel_rfl) (by kernel_rfl) (by kernel_rfl) ?_
  rotate_left
  focus refine zc1 11 6 rfl (by kernel_rfl) (by kernel_rfl) (by kernel_rfl) (by kernel_rfl) ?_
  rotate_left
  all_goals
   repeat' (first|(refine yC ?_;first|refine Ws zk rfl rfl rfl rfl rfl rfl rfl (by show _ * 72≤_;simp;omega) (by simp;omega) rfl rfl ?_)|refine sK ?_|refine sC (fun _=>?_) (fun _=>?_)|fail)
   exact ⟨v,.inr rfl,.inl ⟨_,rfl,rfl,⟨by repeat (first|exact zi|refine zh rfl ?_|refine YF rfl (hap v) ?_),rfl⟩⟩⟩
set_option maxHeartbeats 20000000
theorem zd2 (N:Int) (L:List DE) (k x:Int) (hno:N≤L.length∨k < 0∨(L.length:Int)≤k) (us:Nat→Value):ACallM Tryz.prog 23 [.box 60 0,.pv (pi k),.pv (u64 x)] (dH N L++zu us [60]) (.pv (pb false)) (dH N L++zu us [60]):=by
 by_cases h1:N≤L.length
 ·have hd1:decide (N≤(((L.map dP).length:Nat):Int))=true:=decide_eq_true (by rw [List.length_map];exact h1)
  refine zn zk Tryz.func23 rfl (by kernel_rfl) Tryz.ntmps23 (by simp) _ rfl (fun gB hw1=>?_)
  repeat' (first|refine sM ?_|refine sK ?_|refine sC (fun _=>?_) (fun _=>?_)|fail)
  exact ⟨.inr rfl,.inl ⟨_,rfl,rfl,⟨by repeat (first|exact zi|refine zh rfl ?_),rfl⟩⟩⟩
 ·have hd1:decide (N≤(((L.map dP).length:Nat):Int))=false:=decide_eq_false (by rw [List.length_map];exact h1)
  by_cases h2:k < 0
  ·have hd2:decide (k < 0)=true:=decide_eq_true h2
   refine zn zk Tryz.func23 rfl (by kernel_rfl) Tryz.ntmps23 (by simp) _ rfl (fun gB hw1=>?_)
   repeat' (first|refine sM ?_|refine sK ?_|refine sC (fun _=>?_) (fun _=>?_)|fail)
   exact ⟨.inr rfl,.inl ⟨_,rfl,rfl,⟨by repeat (first|exact zi|refine zh rfl ?_),rfl⟩⟩⟩
  ·have hd2:decide (k < 0)=false:=decide_eq_false h2
   have hd3:decide ((((L.map dP).length:Nat):Int)≤k)=true:=decide_eq_true (by rw [List.length_map];omega)
   refine zn zk Tryz.func23 rfl (by kernel_rfl) Tryz.ntmps23 (by simp) _ rfl (fun gB hw1=>?_)
   repeat' (first|refine sM ?_|refine sK ?_|refine sC (fun _=>?_) (fun _=>?_)|fail)
   exact ⟨.inr rfl,.inl ⟨_,rfl,rfl,⟨by repeat (first|exact zi|refine zh rfl ?_),rfl⟩⟩⟩
abbrev fiH (N:Int) (S:List PV) (m a n x:Int) (s:Value) (us:Nat→Value):HEnv:=vsH [] ZH++[(73,.pin (.own 72) s),(72,.mrow 33 1 [u64 x])]++[(64,.cell (.agg [.pv (pi m),.pv (pi a),.pv (pi n),.pv (.base ZH),.pv (.base s)])),(60,.cell (.agg [.pv (pi N),.own 61])),(61,.mrow 65 5 S)]++zu us [60]
theorem zfI (N:Int) (L:List DE) (k:Nat) (x:Int) (e:DE) (h1:L.length < N) (h64:N≤64) (hk:L[k]?=some e) (us:Nat→Value):ACallU Tryz.prog 23 [.box 60 0,.pv (pi k),.pv (u64 x)] (dH N L++zu us [60]) (fun _:Value=>.pv (pb true)) (fun s=>dH N (L++[⟨e.m,e.a,e.o,ZH,s⟩])++vsH [] ZH++ssH [x] s++zu us [60]):=by
 have hp:=Vh hk
 have hkl:=(List.getElem?_eq_some_iff.1 hk).1
 have hd1:decide (N≤(((L.map dP).length:Nat):Int))=false:=decide_eq_false (by rw [List.length_map];omega)
 have hd2:decide ((k:Int) < 0)=false:=decide_eq_false (by omega)
 have hd3:decide ((((L.map dP).length:Nat):Int)≤(k:Int))=false:=decide_eq_false (by rw [List.length_map];omega)
 obtain ⟨S,hS⟩:∃ S,S=L.map dP:=⟨_,rfl⟩
 have hSl:S.length=L.length:=by rw [hS,List.length_map]
 rw [←hS] at hd1 hd3 hp
 have hl:k < S.length:=by omega
 have hap:∀ s,S++[dP (⟨e.m,e.a,e.o,ZH,s⟩:DE)]=(L++[(⟨e.m,e.a,e.o,ZH,s⟩:DE)]).map dP:=fun s=>by rw [hS,List.map_append];rfl
 refine zK zk Tryz.func23 rfl (by kernel_rfl) Tryz.ntmps23 (by simp) _ rfl (fun gB hw1=>?_)
 rw [dH,←hS]
 repeat' (first|refine zhx 64 25 26 8 24 zk (by kernel_rfl) (by kernel_rfl) rfl rfl rfl rfl rfl rfl rfl rfl rfl rfl rfl rfl rfl rfl rfl rfl rfl rfl rfl rfl rfl rfl ?_|refine zj5 rfl rfl ?_|refine ⟨_,_,rfl,rfl,?_⟩|refine sM ?_|refine zy rfl (zB (k:=k) (j:=0) zk rfl rfl rfl rfl hp rfl) rfl rfl ?_|refine AD.step _ _ _ _ _ rfl (zB (k:=k) (j:=0) zk rfl rfl rfl rfl hp rfl) rfl rfl ?_|refine zy rfl (zB (k:=k) (j:=1) zk rfl rfl rfl rfl hp rfl) rfl rfl ?_|refine AD.step _ _ _ _ _ rfl (zB (k:=k) (j:=1) zk rfl rfl rfl rfl hp rfl) rfl rfl ?_|refine zy rfl (zB (k:=k) (j:=2) zk rfl rfl rfl rfl hp rfl) rfl rfl ?_|refine AD.step _ _ _ _ _ rfl (zB (k:=k) (j:=2) zk rfl rfl rfl rfl hp rfl) rfl rfl ?_|refine QW 72 zk rfl rfl rfl (.inr ⟨rfl,rfl⟩) rfl (Nat.zero_lt_one) rfl (by show _ * 8≤_;simp) (by simp) rfl rfl rfl ?_|refine zcJ 64 4 73 rfl rfl rfl rfl (fun s=>VL 70 71 33 1 (by decide) rfl rfl (by decide) ?_)|refine zbB 5 [(0,.box 60 0),(7,.box 64 0)] (fiH N S e.m e.a e.o x s us) rfl rfl tS tH ?_|(refine shX ?_;first|refine zy rfl (zC (k:=k) zk rfl rfl rfl rfl rfl rfl rfl rfl hl) rfl rfl ?_|refine AD.step _ _ _ _ _ rfl (zC (k:=k) zk rfl rfl rfl rfl rfl rfl rfl rfl hl) rfl rfl ?_)|refine sK ?_|refine sC (fun _=>?_) (fun _=>?_)|fail)
 refine zbK 0 7 [0,1,2,3,4,5,6,7,8,9,10] [0,1,2,3,4,5,6,7,8,9,10] [1,2,3,4,5,6,7,0,8,9,10] [7,0,1,2,3,4,5,6,8,9,10] rfl (by kernel_rfl) (by kernel_rfl) (zdY (by kernel_rfl) ?_) (zdY (by kernel_rfl) ?_)
 focus refine zc1 11 7 rfl (by kernel_rfl) (by kernel_rfl) (by kernel_rfl) (by kernel_rfl) ?_
 rotate_left
 focus refine zc1 11 6 rfl (by kernel_rfl) (by kernel_rfl) (by kernel_rfl) (by kernel_rfl) ?_
 rotate_left
 all_goals
  repeat' (first|(refine yC ?_;first|refine Ws zk rfl rfl rfl rfl rfl rfl rfl (by show _ * 72≤_;simp;omega) (by simp;omega) rfl rfl ?_)|refine sK ?_|refine sC (fun _=>?_) (fun _=>?_)|fail)
  exact ⟨s,.inr rfl,.inl ⟨_,rfl,rfl,⟨by repeat (first|exact zi|refine zh rfl ?_|refine YF rfl (hap s) ?_),rfl⟩⟩⟩
theorem zdg (A:List DE) (e:DE):(A++[e])[A.length]?=some e:=by simp
theorem zbo {S:List PV} {n:Nat} (hl:S.length=n + 1) (h:n≤1000):IntKind.i64.wrap (((S.length:Nat):Int) - 1)=((n:Nat):Int):=by rw [hl,wrap_in (by omega) (by omega)];omega
abbrev dSH (N:Int) (S:List PV) (us:Nat→Value):HEnv:=(60,.cell (.agg [.pv (pi N),.own 61]))::(61,.mrow 65 5 S)::zu us [60]
set_option maxHeartbeats 20000000
def swP (i:Nat):Nat:=if i=72 then 74 else if i=74 then 72 else if i=73 then 75 else if i=75 then 73 else i
theorem zlG:Inj swP:=by
 intro i j h
 unfold swP at h
 split at h <;> split at h <;> (try split at h) <;> (try split at h) <;> (try split at h) <;> (try split at h) <;> (try split at h) <;> (try split at h) <;> omega
theorem zeN (N:Int) (l:List Int) (full:Bool) (us:Nat→Value):ACallM Tryz.prog 12 [.box 60 0,.pv (.slc 1 (l.map u64) full)] (dH N []++zu us [60]) (.pv (pb false)) (dH N []++zu us [60]):=by
 refine zn zk Tryz.func12 rfl (by kernel_rfl) Tryz.ntmps12 (by simp) _ rfl (fun gB hw1=>?_)
 repeat' (first|refine sM ?_|refine sK ?_|refine sC (fun _=>?_) (fun _=>?_)|fail)
 exact ⟨.inr rfl,.inl ⟨_,rfl,rfl,⟨by repeat (first|exact zi|refine zh rfl ?_),rfl⟩⟩⟩
abbrev puH (N:Int) (S:List PV) (a:HE) (s:Value) (us:Nat→Value):HEnv:=(72,a)::(73,.pin (.own 72) s)::(60,.cell (.agg [.pv (pi N),.own 61]))::(61,.mrow 65 5 S)::zu us [60]
theorem zfO (N:Int) (A:List DE) (e:DE) (st l:List Int) (full:Bool) (hA:A.length≤63) (hs:st.length≤96) (hno:96 < st.length + l.length) (us:Nat→Value):ACallM Tryz.prog 12 [.box 60 0,.pv (.slc 1 (l.map u64) full)] (dH N (A++[e])++ssH st e.s++zu us [60]) (.pv (pb false)) (dH N (A++[e])++ssH st e.s++zu us [60]):=by
 have hp:=Vh (zdg A e)
 obtain ⟨S,hS⟩:∃ S,S=(A++[e]).map dP:=⟨_,rfl⟩
 have hl:S.length=A.length + 1:=by rw [hS];simp
 rw [←hS] at hp
 have hi:=zbo hl (by omega)
 have hlt:A.length < S.length:=by omega
 have hd0:decide ((A.length:Int) < 0)=false:=decide_eq_false (by omega)
 obtain ⟨q,hq⟩:∃ q:Int,q=(((st.map u64).length:Nat):Int):=⟨_,rfl⟩
 have hq2:q=st.length:=by rw [hq,List.length_map]
 have hqt:PTells (pi (((st.map u64).length:Nat):Int)) (pi q):=by rw [←hq];exact .refl _
 have hd1:decide (IntKind.i64.wrap (96 - q) < (((l.map u64).length:Nat):Int))=true:=decide_eq_true (by rw [List.length_map,wrap_in (by omega) (by omega)];omega)
 rw [dH,←hS]
 refine zn zk Tryz.func12 rfl (by kernel_rfl) Tryz.ntmps12 (by simp) _ rfl (fun gB hw1=>?_)
 repeat' (first|refine qK 10 rfl [(0,.box 60 0),(1,.pv (.slc 1 (l.map u64) full)),(5,.pv (pi (A.length:Nat)))] (puH N S (.mrow 33 1 (st.map u64)) e.s us) tSU tH ?_|refine qy 24 73 rfl rfl ?_|refine QJ 25 hqt rfl ?_|refine sM ?_|refine zy rfl (zB (k:=A.length) (j:=4) zk rfl rfl rfl rfl hp rfl) rfl rfl ?_|refine AD.step _ _ _ _ _ rfl (zB (k:=A.length) (j:=4) zk rfl rfl rfl rfl hp rfl) rfl rfl ?_|(refine shX ?_;first|refine zy rfl (zC (k:=A.length) zk rfl rfl rfl rfl rfl rfl rfl rfl hlt) rfl rfl ?_|refine AD.step _ _ _ _ _ rfl (zC (k:=A.length) zk rfl rfl rfl rfl rfl rfl rfl rfl hlt) rfl rfl ?_)|refine sK ?_|refine sC (fun _=>?_) (fun _=>?_)|fail)
 exact ⟨.inr rfl,.inl ⟨_,rfl,rfl,⟨by repeat (first|exact zi|refine zh rfl ?_),rfl⟩⟩⟩
abbrev ssP (st:List PV) (s:Value):HEnv:=[(72,.mrow 33 1 st),(73,.pin (.own 72) s)]
theorem zeb (N:Int) (A:List DE) (e:DE) (st l:List Int) (full:Bool) (hA:A.length≤63) (hyes:st.length + l.length≤96) (us:Nat→Value):ACallU Tryz.prog 12 [.box 60 0,.pv (.slc 1 (l.map u64) full)] (dH N (A++[e])++ssH st e.s++zu us [60]) (fun _:Value=>.pv (pb true)) (fun s=>dH N (A++[⟨e.m,e.a,e.o,e.v,s⟩])++ssH (st++l) s++zu us [60]):=by
 have hp:=Vh (zdg A e)
 obtain ⟨S,hS⟩:∃ S,S=(A++[e]).map dP:=⟨_,rfl⟩
 have hl:S.length=A.length + 1:=by rw [hS];simp
 rw [←hS] at hp
 have hi:=zbo hl (by omega)
 have hlt:A.length < S.length:=by omega
 have hd0:decide ((A.length:Int) < 0)=false:=decide_eq_false (by omega)
 obtain ⟨q,hq⟩:∃ q:Int,q=(((st.map u64).length:Nat):Int):=⟨_,rfl⟩
 have hq2:q=st.length:=by rw [hq,List.length_map]
 have hqt:PTells (pi (((st.map u64).length:Nat):Int)) (pi q):=by rw [←hq];exact .refl _
 have hd1:decide (IntKind.i64.wrap (96 - q) < (((l.map u64).length:Nat):Int))=false:=decide_eq_false (by rw [List.length_map,wrap_in (by omega) (by omega)];omega)
 have hE:∀ s:Value,S.set A.length (.agg [pi e.m,pi e.a,pi e.o,.base e.v,.base s])=(A++[(⟨e.m,e.a,e.o,e.v,s⟩:DE)]).map dP:=fun s=>by rw [hS];simp
 have hM:st.map u64++l.map u64=(st++l).map u64:=by rw [List.map_append]
 have hln:(st.map u64).length + (l.map u64).length≤96:=by simpa using hyes
 rw [dH,←hS,ssH]
 refine zK zk Tryz.func12 rfl (by kernel_rfl) Tryz.ntmps12 (by simp) _ rfl (fun gB hw1=>?_)
 generalize st.map u64=B at *
 generalize l.map u64=C at *
 repeat' (first|refine qK 10 rfl [(0,.box 60 0),(1,.pv (.slc 1 C full)),(5,.pv (pi (A.length:Nat)))] (puH N S (.mrow 33 1 B) e.s us) tSU tH ?_|refine qy 24 73 rfl rfl ?_|refine QJ 25 hqt rfl ?_|refine sM ?_|refine zy rfl (zB (k:=A.length) (j:=4) zk rfl rfl rfl rfl hp rfl) rfl rfl ?_|refine AD.step _ _ _ _ _ rfl (zB (k:=A.length) (j:=4) zk rfl rfl rfl rfl hp rfl) rfl rfl ?_|refine zbB 4 [(0,.box 60 0),(1,.pv (.slc 1 C full)),(5,.pv (pi (A.length:Nat)))] (puH N S (.mrow 33 1 B) e.s us) rfl rfl tS tH ?_|(refine shX ?_;first|refine zy rfl (zC (k:=A.length) zk rfl rfl rfl rfl rfl rfl rfl rfl hlt) rfl rfl ?_|refine AD.step _ _ _ _ _ rfl (zC (k:=A.length) zk rfl rfl rfl rfl rfl rfl rfl rfl hlt) rfl rfl ?_)|refine sK ?_|refine sC (fun _=>?_) (fun _=>?_)|fail)
 refine zdY (by kernel_rfl) ?_
 refine zcY 18 15 [14] [] (mkL [puH N S (.mrow 33 1 B) e.s us,(74,.mrow 33 1 (B++C))::(72,.dead)::puH N S (.mrow 33 1 B) e.s us]) (mkL [puH N S .dead e.s us,(74,.dead)::puH N S .dead e.s us]) (puH N S .dead e.s us) none rfl (by kernel_rfl) (by kernel_rfl) (by kernel_rfl) (by kernel_rfl) (by kernel_rfl) (by kernel_rfl) (fun p hp=>by simp at hp) rfl (zfc (i:=72) rfl ⟨tH,tH,trivial⟩) rfl (XE rfl rfl) (fun q h=>by have:q=0∨q=1:=(by simp at h;omega);rcases this with rfl|rfl <;> rfl) tH rfl (fun v hv=>by cases hv) ?_
 repeat' (first|refine VP 14 [] (.own 74) rfl rfl rfl rfl rfl ?_|refine ⟨⟨rfl,zfQ (zf6 41 73 rfl rfl rfl (zdf (es:=B) (xs:=C) zk 74 rfl rfl rfl rfl rfl rfl rfl (by show (B.length + C.length) * 8≤140737488355328;omega) (by omega))) rfl rfl,.inr (by kernel_rfl)⟩,?_⟩|refine zbm ?_|intro _|refine Qa ?_|refine zkl 43 75 rfl rfl rfl (fun s=>?_)|refine zy rfl (zB (k:=A.length) (j:=4) zk rfl rfl rfl rfl hp rfl) rfl rfl ?_|refine AD.step _ _ _ _ _ rfl (zB (k:=A.length) (j:=4) zk rfl rfl rfl rfl hp rfl) rfl rfl ?_|refine sM ?_|refine zgE 45 rfl swP zlG [(0,.box 60 0)] (ssP (B++C) s++dSH N (S.set A.length (.agg [pi e.m,pi e.a,pi e.o,.base e.v,.base s])) us) (zkE rfl zlJ) rfl (XB rfl (XB rfl (XB rfl (XB rfl (XB rfl zkr))))) rfl ?_|(refine shX ?_;first|refine zy rfl (zC (k:=A.length) zk rfl rfl rfl rfl rfl rfl rfl rfl hlt) rfl rfl ?_|refine AD.step _ _ _ _ _ rfl (zC (k:=A.length) zk rfl rfl rfl rfl rfl rfl rfl rfl hlt) rfl rfl ?_)|(refine yj ?_;first|refine yS (k:=A.length) (j:=4) zk rfl rfl rfl rfl rfl hp rfl rfl rfl rfl rfl ?_)|refine sK ?_|refine sC (fun _=>?_) (fun _=>?_)|fail)
 exact ⟨s,.inr rfl,.inl ⟨_,rfl,rfl,⟨by repeat (first|exact zi|refine zh rfl ?_|refine YF rfl (hE s) ?_|refine YF rfl hM ?_),rfl⟩⟩⟩
set_option maxHeartbeats 20000000
theorem zfv (N n:Int) (us:Nat→Value):ACallM Tryz.prog 15 [.box 60 0,.pv (pi n)] (dH N []++zu us [60]) (.pv (.base ZH)) (dH N []++zu us [60]):=by
 refine zn zk Tryz.func15 rfl (by kernel_rfl) Tryz.ntmps15 (by simp) _ rfl (fun gB hw1=>?_)
 repeat' (first|refine sM ?_|refine sK ?_|refine sC (fun _=>?_) (fun _=>?_)|fail)
 exact ⟨.inr rfl,.inl ⟨_,rfl,rfl,⟨by repeat (first|exact zi|refine zh rfl ?_),rfl⟩⟩⟩
theorem zhd (N n:Int) (A:List DE) (e:DE) (st:List Int) (hA:A.length≤63) (hno:n < 0∨(st.length:Int) < n) (us:Nat→Value):ACallM Tryz.prog 15 [.box 60 0,.pv (pi n)] (dH N (A++[e])++ssH st e.s++zu us [60]) (.pv (.base ZH)) (dH N (A++[e])++ssH st e.s++zu us [60]):=by
 have hp:=Vh (zdg A e)
 obtain ⟨S,hS⟩:∃ S,S=(A++[e]).map dP:=⟨_,rfl⟩
 have hl:S.length=A.length + 1:=by rw [hS];simp
 rw [←hS] at hp
 have hi:=zbo hl (by omega)
 have hlt:A.length < S.length:=by omega
 have hd0:decide ((A.length:Int) < 0)=false:=decide_eq_false (by omega)
 rw [dH,←hS]
 by_cases h:n < 0
 ·have hd1:decide (n < 0)=true:=decide_eq_true h
  refine zn zk Tryz.func15 rfl (by kernel_rfl) Tryz.ntmps15 (by simp) _ rfl (fun gB hw1=>?_)
  repeat' (first|refine qK 13 rfl [(0,.box 60 0),(1,.pv (pi n)),(5,.pv (pi (A.length:Nat)))] (dSH N S us++ssH st e.s) tSU tH ?_|refine qy 30 73 rfl rfl ?_|refine sM ?_|refine zy rfl (zB (k:=A.length) (j:=4) zk rfl rfl rfl rfl hp rfl) rfl rfl ?_|refine AD.step _ _ _ _ _ rfl (zB (k:=A.length) (j:=4) zk rfl rfl rfl rfl hp rfl) rfl rfl ?_|(refine shX ?_;first|refine zy rfl (zC (k:=A.length) zk rfl rfl rfl rfl rfl rfl rfl rfl hlt) rfl rfl ?_|refine AD.step _ _ _ _ _ rfl (zC (k:=A.length) zk rfl rfl rfl rfl rfl rfl rfl rfl hlt) rfl rfl ?_)|refine sK ?_|refine sC (fun _=>?_) (fun _=>?_)|fail)
  exact ⟨.inr rfl,.inl ⟨_,rfl,rfl,⟨by repeat (first|exact zi|refine zh rfl ?_),rfl⟩⟩⟩
 ·have hd1:decide (n < 0)=false:=decide_eq_false h
  have hd2:decide ((((st.map u64).length:Nat):Int) < n)=true:=decide_eq_true (by rw [List.length_map];omega)
  refine zn zk Tryz.func15 rfl (by kernel_rfl) Tryz.ntmps15 (by simp) _ rfl (fun gB hw1=>?_)
  repeat' (first|refine qK 13 rfl [(0,.box 60 0),(1,.pv (pi n)),(5,.pv (pi (A.length:Nat)))] (dSH N S us++ssH st e.s) tSU tH ?_|refine qy 30 73 rfl rfl ?_|refine sM ?_|refine zy rfl (zB (k:=A.length) (j:=4) zk rfl rfl rfl rfl hp rfl) rfl rfl ?_|refine AD.step _ _ _ _ _ rfl (zB (k:=A.length) (j:=4) zk rfl rfl rfl rfl hp rfl) rfl rfl ?_|(refine shX ?_;first|refine zy rfl (zC (k:=A.length) zk rfl rfl rfl rfl rfl rfl rfl rfl hlt) rfl rfl ?_|refine AD.step _ _ _ _ _ rfl (zC (k:=A.length) zk rfl rfl rfl rfl rfl rfl rfl rfl hlt) rfl rfl ?_)|refine sK ?_|refine sC (fun _=>?_) (fun _=>?_)|fail)
  exact ⟨.inr rfl,.inl ⟨_,rfl,rfl,⟨by repeat (first|exact zi|refine zh rfl ?_),rfl⟩⟩⟩
abbrev poH (N:Int) (S B:List PV) (s:Value) (us:Nat→Value):HEnv:=(73,.pin (.pv (.slc 1 B false)) s)::(60,.cell (.agg [.pv (pi N),.own 61]))::(61,.mrow 65 5 S)::zu us [60]
theorem ze8 (N:Int) (A:List DE) (e:DE) (st:List Int) (n k:Nat) (hA:A.length≤63) (hst:st.length≤96) (hn:n + k=st.length) (us:Nat→Value):ACallU Tryz.prog 15 [.box 60 0,.pv (pi n)] (dH N (A++[e])++ssH st e.s++zu us [60]) (fun _:Value=>.pv (.slc 1 ((st.drop k).map u64) false)) (fun s=>dH N (A++[⟨e.m,e.a,e.o,e.v,s⟩])++ssH (st.take k) s++zu us [60]):=by
 have hp:=Vh (zdg A e)
 obtain ⟨S,hS⟩:∃ S,S=(A++[e]).map dP:=⟨_,rfl⟩
 have hl:S.length=A.length + 1:=by rw [hS];simp
 rw [←hS] at hp
 have hi:=zbo hl (by omega)
 have hlt:A.length < S.length:=by omega
 have hd0:decide ((A.length:Int) < 0)=false:=decide_eq_false (by omega)
 have hd1:decide ((n:Int) < 0)=false:=decide_eq_false (by omega)
 have hE:∀ s:Value,S.set A.length (.agg [pi e.m,pi e.a,pi e.o,.base e.v,.base s])=(A++[(⟨e.m,e.a,e.o,e.v,s⟩:DE)]).map dP:=fun s=>by rw [hS];simp
 obtain ⟨B,hB⟩:∃ B,B=st.map u64:=⟨_,rfl⟩
 have hBl:B.length=n + k:=by rw [hB,List.length_map,hn]
 have hd2:decide (((B.length:Nat):Int) < (n:Int))=false:=decide_eq_false (by omega)
 have hk0:IntKind.i64.wrap (((B.length:Nat):Int) - (n:Int))=((k:Nat):Int):=by rw [hBl,wrap_in (by omega) (by omega)];omega
 have hk1:some (IntKind.i64.wrap (((B.length:Nat):Int) - (n:Int)))=some ((k:Nat):Int):=by rw [hk0]
 have hb1:(0:Int)≤((k:Nat):Int):=by omega
 have hb2:((k:Nat):Int)≤((B.length:Nat):Int):=by omega
 have hT:(B.take ((k:Nat):Int).toNat).drop (0:Int).toNat=(st.take k).map u64:=by rw [hB];simp
 have hD:(B.take ((B.length:Nat):Int).toNat).drop ((k:Nat):Int).toNat=(st.drop k).map u64:=by rw [Int.toNat_natCast,Int.toNat_natCast,List.take_length,hB,List.map_drop]
 have hlen:∀ j,((st.drop j).map u64).length≤96:=fun j=>by simp;omega
 have hlen2:∀ j,((st.take j).map u64).length≤96:=fun j=>by simp;omega
 rw [dH,←hS]
 refine zK zk Tryz.func15 rfl (by kernel_rfl) Tryz.ntmps15 (by simp) _ rfl (fun gB hw1=>?_)
 rw [ssH,←hB]
 refine Wn 72 rfl (zgI 72 73 rfl rfl (zcX [(0,.box 60 0),(1,.pv (pi n))] (poH N S B e.s us) tS tH ?_))
 cases k with
 | zero =>
  repeat' (first|refine qK 13 rfl [(0,.box 60 0),(1,.pv (pi n)),(5,.pv (pi (A.length:Nat)))] (poH N S B e.s us) tSU tH ?_|refine qK 42 rfl [(0,.box 60 0),(5,.pv (pi (A.length:Nat))),(6,.pv (pi (0:Nat)))] (poH N S B e.s us) tSU tH ?_|refine qy 30 73 rfl rfl ?_|refine qy 41 73 rfl rfl ?_|refine qy 53 73 rfl rfl ?_|refine qy 65 73 rfl rfl ?_|refine sM ?_|refine zy rfl (zB (k:=A.length) (j:=4) zk rfl rfl rfl rfl hp rfl) rfl rfl ?_|refine AD.step _ _ _ _ _ rfl (zB (k:=A.length) (j:=4) zk rfl rfl rfl rfl hp rfl) rfl rfl ?_|refine zy rfl (WH (l:=((0:Nat):Int)) (h:=((B.length:Nat):Int)) zk rfl rfl rfl rfl rfl rfl rfl hb1 hb2 (Int.le_refl _)) rfl rfl ?_|refine zy rfl (WH (l:=0) (h:=((0:Nat):Int)) zk rfl rfl rfl rfl rfl rfl rfl (Int.le_refl 0) hb1 hb2) rfl rfl ?_|refine zy rfl (zah zk rfl rfl rfl (by show some (PV.slc 1 _ false)=some (PV.slc 1 [] false);rw [hT];rfl) rfl) rfl rfl ?_|refine qK 68 rfl [(0,.box 60 0),(5,.pv (pi (A.length:Nat))),(7,.pv (.slc 1 ([]++(B.take ((B.length:Nat):Int).toNat).drop ((0:Nat):Int).toNat) false)),(8,.pv (.base ZH))] (dSH N S us) tS tH (VL 72 73 33 1 (by decide) rfl rfl (by decide) ?_)|(refine shX ?_;first|refine zy rfl (zC (k:=A.length) zk rfl rfl rfl rfl rfl rfl rfl rfl hlt) rfl rfl ?_|refine AD.step _ _ _ _ _ rfl (zC (k:=A.length) zk rfl rfl rfl rfl rfl rfl rfl rfl hlt) rfl rfl ?_)|(refine yC ?_;first|refine zy rfl (zbt zk rfl rfl (.inr ⟨rfl,rfl⟩) rfl rfl (by show _ * 8≤_;simp;omega) (by simp;omega)) rfl rfl ?_)|(refine yj ?_;first|refine yS (k:=A.length) (j:=4) zk rfl rfl rfl rfl rfl hp rfl rfl rfl rfl rfl ?_)|refine sK ?_|refine sC (fun _=>?_) (fun _=>?_)|fail)
  exact ⟨ZH,.inr rfl,.inl ⟨[.slc 1 ((st.drop 0).map u64) false],by (show some [PV.slc 1 _ false]=some [PV.slc 1 _ false];rw [←hD];rfl),rfl,⟨by repeat (first|exact zi|refine zh rfl ?_|refine YF rfl (hE _) ?_|refine YF rfl hT ?_),rfl⟩⟩⟩
 | succ k =>
  repeat' (first|refine qK 13 rfl [(0,.box 60 0),(1,.pv (pi n)),(5,.pv (pi (A.length:Nat)))] (poH N S B e.s us) tSU tH ?_|refine qK 42 rfl [(0,.box 60 0),(5,.pv (pi (A.length:Nat))),(6,.pv (pi (k + 1:Nat)))] (poH N S B e.s us) tSU tH ?_|refine qy 30 73 rfl rfl ?_|refine qy 41 73 rfl rfl ?_|refine qy 53 73 rfl rfl ?_|refine qy 65 73 rfl rfl ?_|refine sM ?_|refine zy rfl (zB (k:=A.length) (j:=4) zk rfl rfl rfl rfl hp rfl) rfl rfl ?_|refine AD.step _ _ _ _ _ rfl (zB (k:=A.length) (j:=4) zk rfl rfl rfl rfl hp rfl) rfl rfl ?_|refine zy rfl (WH (l:=((k + 1:Nat):Int)) (h:=((B.length:Nat):Int)) zk rfl rfl rfl rfl rfl rfl rfl hb1 hb2 (Int.le_refl _)) rfl rfl ?_|refine zy rfl (WH (l:=0) (h:=((k + 1:Nat):Int)) zk rfl rfl rfl rfl rfl rfl rfl (Int.le_refl 0) hb1 hb2) rfl rfl ?_|refine QW 72 zk rfl rfl rfl (.inr ⟨rfl,rfl⟩) rfl (by rw [hT];simp;omega) rfl (by show _ * 8≤_;simp;omega) (by simp;omega) rfl rfl rfl ?_|refine qK 68 rfl [(0,.box 60 0),(5,.pv (pi (A.length:Nat))),(7,.pv (.slc 1 ([]++(B.take ((B.length:Nat):Int).toNat).drop ((k + 1:Nat):Int).toNat) false)),(8,.own 72)] (dSH N S us++[(72,.mrow 33 1 ([]++(B.take ((k + 1:Nat):Int).toNat).drop (0:Int).toNat))]) tS tH (zjZ 8 73 rfl rfl rfl (fun s=>?_))|(refine shX ?_;first|refine zy rfl (zC (k:=A.length) zk rfl rfl rfl rfl rfl rfl rfl rfl hlt) rfl rfl ?_|refine AD.step _ _ _ _ _ rfl (zC (k:=A.length) zk rfl rfl rfl rfl rfl rfl rfl rfl hlt) rfl rfl ?_)|(refine yC ?_;first|refine zy rfl (zbt zk rfl rfl (.inr ⟨rfl,rfl⟩) rfl rfl (by show _ * 8≤_;simp;omega) (by simp;omega)) rfl rfl ?_)|(refine yj ?_;first|refine yS (k:=A.length) (j:=4) zk rfl rfl rfl rfl rfl hp rfl rfl rfl rfl rfl ?_)|refine sK ?_|refine sC (fun _=>?_) (fun _=>?_)|fail)
  exact ⟨s,.inr rfl,.inl ⟨[.slc 1 ((st.drop (k + 1)).map u64) false],by (show some [PV.slc 1 _ false]=some [PV.slc 1 _ false];rw [←hD];rfl),rfl,⟨by repeat (first|exact zi|refine zh rfl ?_|refine YF rfl (hE _) ?_|refine YF rfl hT ?_),rfl⟩⟩⟩
structure DX where
 e:DE
 vars:List Int
 st:List Int
def row4 (b:Nat) (x:DX):Nat→HE
 | 0=>.mrow 33 1 (x.vars.map u64)
 | 1=>.pin (.own b) x.e.v
 | 2=>.mrow 33 1 (x.st.map u64)
 | _=>.pin (.own (b + 2)) x.e.s
def Qh (b:Nat):List DX→HEnv
 | []=>[]
 | x::l=>(b,row4 b x 0)::(b + 1,row4 b x 1)::(b + 2,row4 b x 2)::(b + 3,row4 b x 3)::Qh (b + 4) l
theorem Zc:∀ (l:List DX) (b j:Nat) (y:HE),(Qh b l).get j=some y↔∃ k r x,r < 4∧j=b + 4 * k + r∧l[k]?=some x∧y=row4 (b + 4 * k) x r
 | [],b,j,y=>by
  constructor
  ·intro h;simp [Qh,HEnv.get_nil] at h
  ·rintro ⟨k,r,x,_,_,h,_⟩;simp at h
 | x::l,b,j,y=>by
  have ih:=Zc l (b + 4) j y
  simp only [Qh,HEnv.get_cons]
  by_cases h0:b=j
  ·rw [if_pos h0]
   constructor
   ·intro h;simp only [Option.some.injEq] at h;exact ⟨0,0,x,by omega,by omega,rfl,h.symm⟩
   ·rintro ⟨k,r,x',hr,e,hx,rfl⟩
    have hk:k=0:=by omega
    have hr0:r=0:=by omega
    subst hk hr0;simp at hx;subst hx;rfl
  ·rw [if_neg h0]
   by_cases h1:b + 1=j
   ·rw [if_pos h1]
    constructor
    ·intro h;simp only [Option.some.injEq] at h;exact ⟨0,1,x,by omega,by omega,rfl,h.symm⟩
    ·rintro ⟨k,r,x',hr,e,hx,rfl⟩
     have hk:k=0:=by omega
     have hr0:r=1:=by omega
     subst hk hr0;simp at hx;subst hx;rfl
   ·rw [if_neg h1]
    by_cases h2:b + 2=j
    ·rw [if_pos h2]
     constructor
     ·intro h;simp only [Option.some.injEq] at h;exact ⟨0,2,x,by omega,by omega,rfl,h.symm⟩
     ·rintro ⟨k,r,x',hr,e,hx,rfl⟩
      have hk:k=0:=by omega
      have hr0:r=2:=by omega
      subst hk hr0;simp at hx;subst hx;rfl
    ·rw [if_neg h2]
     by_cases h3:b + 3=j
     ·rw [if_pos h3]
      constructor
      ·intro h;simp only [Option.some.injEq] at h;exact ⟨0,3,x,by omega,by omega,rfl,h.symm⟩
      ·rintro ⟨k,r,x',hr,e,hx,rfl⟩
       have hk:k=0:=by omega
       have hr0:r=3:=by omega
       subst hk hr0;simp at hx;subst hx;rfl
     ·rw [if_neg h3,ih]
      constructor
      ·rintro ⟨k,r,x',hr,e,hx,rfl⟩
       exact ⟨k + 1,r,x',hr,by omega,by simpa using hx,by rw [show b + 4 + 4 * k=b + 4 * (k + 1) by omega]⟩
      ·rintro ⟨k,r,x',hr,e,hx,rfl⟩
       cases k with
       | zero=>omega
       | succ k=>exact ⟨k,r,x',hr,by omega,by simpa using hx,by rw [show b + 4 * (k + 1)=b + 4 + 4 * k by omega]⟩
def sg (t:Nat) (i:Nat):Nat:=if i < 70 then i else if i < 74 then t + (i - 70) else if i < 2000 then i else i + t + 4
theorem zbD {t:Nat} (ht:2000≤t):Inj (sg t):=by
 intro i j h
 unfold sg at h
 by_cases a1:i < 70 <;> by_cases b1:j < 70 <;> simp only [a1,b1,if_true,if_false] at h
 ·exact h
 ·by_cases b2:j < 74 <;> simp only [b2,if_true,if_false] at h
  ·omega
  ·by_cases b3:j < 2000 <;> simp only [b3,if_true,if_false] at h <;> omega
 ·by_cases a2:i < 74 <;> simp only [a2,if_true,if_false] at h
  ·omega
  ·by_cases a3:i < 2000 <;> simp only [a3,if_true,if_false] at h <;> omega
 ·by_cases a2:i < 74 <;> by_cases b2:j < 74 <;> simp only [a2,b2,if_true,if_false] at h
  ·omega
  ·by_cases b3:j < 2000 <;> simp only [b3,if_true,if_false] at h <;> omega
  ·by_cases a3:i < 2000 <;> simp only [a3,if_true,if_false] at h <;> omega
  ·by_cases a3:i < 2000 <;> by_cases b3:j < 2000 <;> simp only [a3,b3,if_true,if_false] at h <;> omega
abbrev LoI (i:Nat):Prop:=i < 70∨74≤i∧i < 2000
theorem zjj {t i:Nat} (h:LoI i):sg t i=i:=by
 rcases h with h|⟨h1,h2⟩
 ·rw [sg,if_pos h]
 ·rw [sg,if_neg (by omega),if_neg (by omega),if_pos h2]
theorem zbU {t r:Nat} (h:r < 4):sg t (70 + r)=t + r:=by rw [sg,if_neg (by omega),if_pos (by omega)];omega
theorem zjf {t r:Nat} (x:DX):(row4 70 x r).rn (sg t)=row4 t x r:=by
 match r with
 | 0=>rfl
 | 1=>show HE.pin (.own (sg t 70)) _=HE.pin (.own t) _;rw [show sg t 70=t from (zbU (r:=0) (by omega)).trans (by omega)]
 | 2=>rfl
 | r + 3=>show HE.pin (.own (sg t 72)) _=HE.pin (.own (t + 2)) _;rw [show sg t 72=t + 2 from zbU (r:=2) (by omega)]
def YQ:Option DX→HEnv
 | none=>[]
 | some x=>Qh 70 [x]
theorem VN {o:Option DX} {j:Nat} {y:HE}:(YQ o).get j=some y↔∃ r x,r < 4∧j=70 + r∧o=some x∧y=row4 70 x r:=by
 cases o with
 | none =>
  constructor
  ·intro h;simp [YQ,HEnv.get_nil] at h
  ·rintro ⟨r,x,_,_,h,_⟩;cases h
 | some x =>
  rw [YQ,Zc]
  constructor
  ·rintro ⟨k,r,x',hr,e,hx,rfl⟩
   cases k with
   | zero=>simp at hx;subst hx;exact ⟨r,x,hr,by omega,rfl,rfl⟩
   | succ k=>simp at hx
  ·rintro ⟨r,x',hr,e,hx,rfl⟩
   simp only [Option.some.injEq] at hx;subst hx
   exact ⟨0,r,x,hr,by omega,rfl,rfl⟩
def zdx (B:HEnv):Prop:=∀ i h,B.get i=some h→LoI i∧∀ t,h.rn (sg t)=h
theorem zi3:zdx []:=fun i h e=>by simp [HEnv.get_nil] at e
theorem zh0 {B:HEnv} {i:Nat} {h:HE} (hi:LoI i) (hh:∀ t,h.rn (sg t)=h) (hb:zdx B):zdx ((i,h)::B):=fun j x e=>by
 rw [HEnv.get_cons] at e
 split at e
 ·rename_i q;subst q;simp only [Option.some.injEq] at e;subst e;exact ⟨hi,hh⟩
 ·exact hb j x e
section
variable {B B':HEnv} {D D':List DX} {o o':Option DX} {k:Nat}
theorem XG (hB:zdx B) (ho:∀ x,o=some x→D[k]?=some x):PartOf (sg (2000 + 4 * k)) (B++YQ o) (B++Qh 2000 D):=by
 intro i h hi
 rw [get_append] at hi
 cases hb:B.get i with
 | some y =>
  rw [hb] at hi;simp only [Option.some.injEq] at hi;subst hi
  obtain ⟨h1,h2⟩:=hB i y hb
  rw [zjj h1,get_append,hb,h2]
 | none =>
  rw [hb] at hi
  obtain ⟨r,x,hr,rfl,ho',rfl⟩:=VN.1 hi
  rw [zbU hr,zjf,get_append]
  have hn:B.get (2000 + 4 * k + r)=none:=by
   cases hq:B.get (2000 + 4 * k + r) with
   | none=>rfl
   | some y=>have:=(hB _ _ hq).1;simp only [LoI] at this;omega
  rw [hn]
  exact (Zc D 2000 _ _).2 ⟨k,r,x,hr,rfl,ho x ho',rfl⟩
theorem XJ (hB:zdx B) (hB':zdx B') (h:∀ k' y,D'[k']?=some y→(k'=k∧o'=some y)∨(k'≠k∧∃ z,D[k']?=some z∧∀ b r,row4 b y r=row4 b z r)) (hup:∀ y,o'=some y→D'[k]?=some y) :
  Whole (sg (2000 + 4 * k)) (B++YQ o) (B++Qh 2000 D) (B'++YQ o') (B'++Qh 2000 D'):=by
 have hn:∀ {A:HEnv},zdx A→∀ j,¬ LoI j→A.get j=none:=fun {A} hA j hj=>by
  cases hq:A.get j with
  | none=>rfl
  | some y=>exact absurd (hA _ _ hq).1 hj
 have away:∀ {A:HEnv} {q:Option DX},zdx A→∀ j,(∃ k' r,r < 4∧j=2000 + 4 * k' + r∧k'≠k)→∀ i,j=sg (2000 + 4 * k) i→HEnv.get (A++YQ q) i=none:=by
  rintro A q hA j ⟨k',r,hr,rfl,hne⟩ i hi
  by_cases h1:LoI i
  ·rw [zjj h1] at hi;simp only [LoI] at h1;omega
  ·rw [get_append,hn hA i h1]
   cases hq:(YQ q).get i with
   | none=>rfl
   | some y =>
    obtain ⟨r2,x,hr2,rfl,_,_⟩:=VN.1 hq
    rw [zbU hr2] at hi;omega
 refine ⟨fun i hi=>?_,fun j y hj=>?_⟩
 ·rw [get_append] at hi
  cases hb:B'.get i with
  | some y=>rw [zjj (hB' i y hb).1,get_append,hb];rfl
  | none =>
   rw [hb] at hi
   cases hq:(YQ o').get i with
   | none=>simp only [hq] at hi;cases hi
   | some y =>
    obtain ⟨r,x,hr,rfl,ho,rfl⟩:=VN.1 hq
    rw [zbU hr,get_append,hn hB' _ (by simp only [LoI];omega),(Zc D' 2000 _ _).2 ⟨k,r,x,hr,rfl,hup x ho,rfl⟩];rfl
 ·rw [get_append] at hj
  cases hb:B'.get j with
  | some z =>
   rw [hb] at hj;simp only [Option.some.injEq] at hj;subst hj
   obtain ⟨h1,h2⟩:=hB' j z hb
   exact .inl ⟨j,z,(zjj h1).symm,by rw [get_append,hb],(h2 _).symm⟩
  | none =>
   rw [hb] at hj
   obtain ⟨k',r,x,hr,rfl,hx,rfl⟩:=(Zc D' 2000 _ _).1 hj
   rcases h k' x hx with ⟨rfl,ho⟩|⟨hne,z,hz,hrow⟩
   ·refine .inl ⟨70 + r,row4 70 x r,(zbU hr).symm,?_,(zjf x).symm⟩
    rw [get_append,hn hB' _ (by simp only [LoI];omega)]
    exact VN.2 ⟨r,x,hr,rfl,ho,rfl⟩
   ·refine .inr ⟨?_,fun i hi=>⟨away hB _ ⟨k',r,hr,rfl,hne⟩ i hi,away hB' _ ⟨k',r,hr,rfl,hne⟩ i hi⟩,?_⟩
    ·rw [get_append,hn hB _ (by simp only [LoI];omega)]
     exact (Zc D 2000 _ _).2 ⟨k',r,z,hr,rfl,hz,hrow _ _⟩
    ·have own:∀ q,q < 4→(HEnv.get (B'++Qh 2000 D') (2000 + 4 * k' + q)).isSome=true∧∀ i,2000 + 4 * k' + q=sg (2000 + 4 * k) i→HEnv.get (B'++YQ o') i=none:=fun q hq=>by
      refine ⟨?_,away hB' _ ⟨k',q,hq,rfl,hne⟩⟩
      rw [get_append,hn hB' _ (by simp only [LoI];omega),(Zc D' 2000 _ _).2 ⟨k',q,x,hq,rfl,hx,rfl⟩];rfl
     match r,hr with
     | 0,_=>trivial
     | 1,_=>exact own 0 (by omega)
     | 2,_=>trivial
     | 3,_=>exact own 2 (by omega)
end
end Go.Cg
