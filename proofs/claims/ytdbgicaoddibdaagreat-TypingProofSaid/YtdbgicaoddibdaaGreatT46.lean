/- A part of the walks by abstract values: no statement of its own. -/
import Derived.Test.YtdbgicaoddibdaaGreatT37
import Derived.Test.YtdbgicaoddibdaaGreatT19
import Derived.Test.YtdbgicaoddibdaaGreatT12
import Derived.Test.YtdbgicaoddibdaaGreatT20
set_option linter.unusedVariables false
set_option linter.unusedSimpArgs false
namespace Go.Cg
open Go.Proofs
abbrev zvq:PV:=.agg [.base (.slice none 0 0),.base (.slice none 0 0),.base (.slice none 0 0),pi 0]
abbrev oB (g:Img):HEnv:=[(1,.cell (.pv zvq)),(0,.cell (.pv (zO g)))]
abbrev mrT (g:Img):HE:=.mrow 43 4 (g.types.map ZB)
abbrev mrM (g:Img):HE:=.mrow 50 12 (g.methods.map yh)
abbrev oHs (g:Img):Nat→HEnv:=fun p=>match p with
 | 0=>oB g
 | 1=>(10,mrT g)::oB g
 | 2=>(10,mrT g)::oB g
 | _=>(12,mrM g)::(10,mrT g)::oB g
theorem zm7 (g:Img):∀ q p,q≤p→p≤3→qg (oHs g q) (oHs g p)=true:=by
 intro q p h1 h2;have hp:p=0∨p=1∨p=2∨p=3:=by omega
 have hq:q=0∨q=1∨q=2∨q=3:=by omega
 rcases hp with rfl|rfl|rfl|rfl <;> rcases hq with rfl|rfl|rfl|rfl <;> first|rfl|omega
theorem zsO (g:Img) {gB:Base}:∀ p,p≤3→∀ K ρ w,FS gB K ρ (oHs g p) w→FS gB K ρ (oB g) w:=by
 intro p hp K ρ w h;have hp:p=0∨p=1∨p=2∨p=3:=by omega
 rcases hp with rfl|rfl|rfl|rfl
 ·exact h
 ·exact h.narrow (e:=[]) tH
 ·exact h.narrow (e:=[]) tH
 ·exact h.narrow (e:=[]) tH
abbrev oL (g:Img):HEnv:=[(0,.cell (.agg [.own 10,.pv (.slc 7 (g.fields.map Yo) false),.own 12,.pv (pi g.entry)])),(1,.cell (.pv zvq)),(10,mrT g),(12,mrM g)]
abbrev oT (g:Img):HEnv:=[(0,.cell (.agg [.own 10,.pv (.slc 7 (g.fields.map Yo) false),.own 12,.pv (pi g.entry)])),(1,.cell (.pv zvq)),(10,mrT g),(12,.dead)]
abbrev oR (g:Img) (A:List PV):HEnv:=[(12,.mrow 50 12 A),(0,.cell (.agg [.own 10,.pv (.slc 7 (g.fields.map Yo) false),.own 12,.pv (pi g.entry)])),(1,.cell (.pv zvq)),(10,mrT g)]
structure OwnOk (g:Img):Prop where
 t:g.types.length≤1000
 f:g.fields.length≤1000
 m:g.methods.length≤1000
 tf:∀ td∈g.types,td.faces.length≤1000
 mm:∀ m∈g.methods,m.params.length≤1000∧m.locals.length≤1000∧m.code.length≤1000∧m.clauses.length≤1000
theorem Vp {α:Type} {l:List α} {k:Nat} {x:α} (h:l[k]?=some x):l.set k x=l:=by
 obtain ⟨h1,h2⟩:=List.getElem?_eq_some_iff.1 h;rw [←h2];exact List.set_getElem_self h1
set_option maxHeartbeats 8000000 in
theorem zsb (g:Img) (hg:OwnOk g):ACall Tryz.prog 31 [zO g] (zO g):=by
 obtain ⟨ht,hf,hm,htf,hmm⟩:=hg;refine zi zf Tryz.func31 rfl zws Tryz.ntmps31 zwy63 _ rfl (fun hw gB hgB=>?_)
 repeat' (first|refine zfu 15 10 [2,5,8] (oHs g) (oHs g) (oB g) none rfl zws zws zws zws zws zws rfl (zsO g) rfl (zm7 g) (fun q h=>zm7 g q 3 h (Nat.le_refl 3)) tH rfl (fun v hv=>by cases hv) ?_|refine Yp 2 [2,5] (.own 10) rfl rfl rfl rfl rfl ?_|refine Yp 2 [2] (.pv (.slc 7 (g.fields.map Yo) false)) rfl rfl rfl rfl rfl ?_|refine Yp 2 [] (.own 12) rfl rfl rfl rfl rfl ?_|refine ZV ?_|refine ⟨⟨rfl,ze2 [] [(10,mrT g)] (oB g) [] zh rfl rfl (fun _ _ h=>h) rfl rfl rfl rfl (fun us=>zkS _ ht),.inr zws⟩,?_⟩|refine ⟨⟨rfl,zmp rfl rfl (fun _ _ _ h=>h.narrow (e:=[]) tH) (zkN _ hf),.inl rfl⟩,?_⟩|refine ⟨⟨rfl,ze2 [] [(12,mrM g)] ((10,mrT g)::oB g) [] zh rfl rfl (fun _ _ h=>h) rfl rfl rfl rfl (fun us=>zle _ hm),.inr zws⟩,?_⟩|intro _|refine QL ?_|refine sM ?_|(refine Qx ?_;first|refine WX 0 rfl rfl rfl rfl rfl rfl ?_)|refine sK ?_|refine sC (fun _=>?_) (fun _=>?_)|fail)
 refine zW (fun k:Nat=>[(1,.box 0 0),(2,.box 1 0),(20,.pv (pi g.types.length)),(21,.pv (pi k))]) (fun _=>oL g) (fun k=>k≤g.types.length) (fun k=>g.types.length - k) 0 zwy62 zwy71 tH ?_;intro k hk;by_cases hlt:k < g.types.length
 ·have hp:(g.types.map ZB)[k]?=some (ZB g.types[k]):=by simp [hlt]
  have hkl:k < (g.types.map ZB).length:=by simpa using hlt
  have hfc:=htf _ (List.getElem_mem hlt)
  repeat' (first|refine zV 13 10 rfl zws zws zws zws zws ?_|refine sM ?_|refine zy rfl (au (k:=k) (j:=3) hp) rfl rfl ?_|refine zq rfl (au (k:=k) (j:=3) hp) rfl rfl ?_|(refine shC ?_;first|refine qC (zkV _ hfc) ?_)|(refine shX ?_;first|refine zy rfl (ak (k:=k) hkl) rfl rfl ?_|refine zq rfl (ak (k:=k) hkl) rfl rfl ?_)|(refine Yd ?_;first|refine XP (k:=k) (j:=3) zf rfl rfl rfl rfl rfl hp rfl rfl rfl rfl rfl ?_)|refine sK ?_|refine sC (fun _=>?_) (fun _=>?_)|fail)
  exact ⟨k + 1,hlt,tD,tS,⟨zx rfl (zx rfl (Zh rfl (Vp hp) (aB zA))),rfl⟩⟩
 ·repeat' (first|refine sM ?_|refine sK ?_|refine sC (fun _=>?_) (fun _=>?_)|fail)
  refine zW (fun k:Nat=>[(1,.box 0 0),(2,.box 1 0),(39,.pv (pi g.methods.length)),(40,.pv (pi k))]) (fun _=>oL g) (fun k=>k≤g.methods.length) (fun k=>g.methods.length - k) 0 zwy62 zwy71 tH ?_;clear hlt hk;clear k;intro k hk;by_cases hlt:k < g.methods.length
  ·have hpA:(g.methods.map yh)[k]?=some (yh g.methods[k]):=by simp [hlt]
   have hkl:k < (g.methods.map yh).length:=by simpa using hlt
   have hpB:((g.methods.map yh).set k (yh g.methods[k]))[k]?=some (yh g.methods[k]):=by rw [Vp hpA];exact hpA
   have hpC:(((g.methods.map yh).set k (yh g.methods[k])).set k (yh g.methods[k]))[k]?=some (yh g.methods[k]):=by rw [Vp hpA];exact hpB
   have hpD:((((g.methods.map yh).set k (yh g.methods[k])).set k (yh g.methods[k])).set k (yh g.methods[k]))[k]?=some (yh g.methods[k]):=by rw [Vp hpA];exact hpC
   have hpE:(((((g.methods.map yh).set k (yh g.methods[k])).set k (yh g.methods[k])).set k (yh g.methods[k])).set k (yh g.methods[k]))=g.methods.map yh:=by rw [Vp hpA,Vp hpA,Vp hpA,Vp hpA]
   obtain ⟨q1,q2,q3,q4⟩:=hmm _ (List.getElem_mem hlt)
   repeat' (first|refine Zr (id:=11) 18 18 [14,17] [[52,57]] (mkL [oL g,(12,(.mrow 50 12 ((g.methods.map yh).set k (yh g.methods[k]))))::oL g,(12,(.mrow 50 12 (((g.methods.map yh).set k (yh g.methods[k])).set k (yh g.methods[k]))))::(12,(.mrow 50 12 ((g.methods.map yh).set k (yh g.methods[k]))))::oL g]) (fun _=>oT g) (oT g) none rfl zws zws zws zws zws zws zws (fun p hp=>by obtain rfl:p=0:=(by simp at hp;omega);exact ⟨rfl,rfl⟩) rfl (zde (i:=12) rfl ⟨tH,tH,tH,trivial⟩) rfl (fun _ _ _ _=>rfl) (fun q h=>by have:q=0∨q=1∨q=2:=(by simp at h;omega);rcases this with rfl|rfl|rfl <;> rfl) tH rfl (fun v hv=>by cases hv) ?_|refine Zr (id:=12) 18 18 [14,17] [[68,73]] (mkL [oR g (((g.methods.map yh).set k (yh g.methods[k])).set k (yh g.methods[k])),(12,(.mrow 50 12 ((((g.methods.map yh).set k (yh g.methods[k])).set k (yh g.methods[k])).set k (yh g.methods[k]))))::oR g (((g.methods.map yh).set k (yh g.methods[k])).set k (yh g.methods[k])),(12,(.mrow 50 12 (((((g.methods.map yh).set k (yh g.methods[k])).set k (yh g.methods[k])).set k (yh g.methods[k])).set k (yh g.methods[k]))))::(12,(.mrow 50 12 ((((g.methods.map yh).set k (yh g.methods[k])).set k (yh g.methods[k])).set k (yh g.methods[k]))))::oR g (((g.methods.map yh).set k (yh g.methods[k])).set k (yh g.methods[k]))]) (fun _=>oT g) (oT g) none rfl zws zws zws zws zws zws zws (fun p hp=>by obtain rfl:p=0:=(by simp at hp;omega);exact ⟨rfl,rfl⟩) rfl (zde (i:=12) rfl ⟨tH,tH,tH,trivial⟩) rfl (fun _ _ _ _=>rfl) (fun q h=>by have:q=0∨q=1∨q=2:=(by simp at h;omega);rcases this with rfl|rfl|rfl <;> rfl) tH rfl (fun v hv=>by cases hv) ?_|refine QF 0 1 [8,11] rfl rfl zws ?_|refine QF 0 1 [3,6] rfl rfl zws ?_|refine Qp 5 [9,12] rfl rfl ?_|refine Qp 4 [4,7] rfl rfl ?_|refine Qp 3 [0,3] rfl rfl ?_|refine Qp 2 [0] rfl rfl ?_|refine Zt [2] (.pv (.tup [])) rfl rfl rfl ?_|refine Zt [] (.pv (.tup [])) rfl rfl rfl ?_|refine ZV ?_|intro _|refine QL ?_|refine ⟨⟨rfl,qB (k:=k) (j:=3) zf rfl rfl rfl rfl hpA rfl rfl rfl rfl,.inl rfl⟩,?_⟩|refine ⟨⟨rfl,qB (k:=k) (j:=8) zf rfl rfl rfl rfl hpB rfl rfl rfl rfl,.inl rfl⟩,?_⟩|refine ⟨⟨rfl,qB (k:=k) (j:=10) zf rfl rfl rfl rfl hpC rfl rfl rfl rfl,.inl rfl⟩,?_⟩|refine ⟨⟨rfl,qB (k:=k) (j:=11) zf rfl rfl rfl rfl hpD rfl rfl rfl rfl,.inl rfl⟩,?_⟩|refine sM ?_|refine zy rfl (au (k:=k) (j:=3) hpA) rfl rfl ?_|refine zq rfl (au (k:=k) (j:=3) hpA) rfl rfl ?_|refine zy rfl (au (k:=k) (j:=8) hpA) rfl rfl ?_|refine zq rfl (au (k:=k) (j:=8) hpA) rfl rfl ?_|refine zy rfl (au (k:=k) (j:=10) hpC) rfl rfl ?_|refine zq rfl (au (k:=k) (j:=10) hpC) rfl rfl ?_|refine zy rfl (au (k:=k) (j:=11) hpC) rfl rfl ?_|refine zq rfl (au (k:=k) (j:=11) hpC) rfl rfl ?_|(refine shC ?_;first|refine qC (zb8 _ q1) ?_|refine qC (zb8 _ q2) ?_|refine qC (zjN _ q3) ?_|refine qC (zlb _ q4) ?_)|(refine shX ?_;first|refine zy rfl (ak (k:=k) hkl) rfl rfl ?_|refine zq rfl (ak (k:=k) hkl) rfl rfl ?_)|refine sK ?_|refine sC (fun _=>?_) (fun _=>?_)|fail)
   exact ⟨k + 1,hlt,tD,tS,⟨zx rfl (zx rfl (zx rfl (Zh rfl hpE zA))),rfl⟩⟩
  ·repeat' (first|refine WG 10 rfl ?_|refine WG 12 rfl ?_|refine sK ?_|refine sC (fun _=>?_) (fun _=>?_)|fail)
   exact retq rfl rfl
end Go.Cg
