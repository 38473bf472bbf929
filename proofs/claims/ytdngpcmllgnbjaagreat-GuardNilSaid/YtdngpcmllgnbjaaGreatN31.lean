/- A part of the walks by abstract values: no statement of its own. -/
import Derived.Test.YtdngpcmllgnbjaaGreatN26
import Derived.Test.YtdngpcmllgnbjaaGreatN24
import Derived.Test.YtdngpcmllgnbjaaGreatN9
import Derived.Test.YtdngpcmllgnbjaaGreatN27
set_option linter.unusedVariables false
set_option linter.unusedSimpArgs false
namespace Go.Cg
open Go.Proofs
abbrev zo7:PV:=.agg [.base (.slice none 0 0),.base (.slice none 0 0),.base (.slice none 0 0),pi 0]
abbrev oB (g:Img):HEnv:=[(1,.cell (.pv zo7)),(0,.cell (.pv (zu g)))]
abbrev mrT (g:Img):HE:=.mrow 61 4 (g.types.map qx)
abbrev mrM (g:Img):HE:=.mrow 68 12 (g.methods.map zM)
abbrev oHs (g:Img):Nat→HEnv:=fun p=>match p with
 | 0=>oB g
 | 1=>(10,mrT g)::oB g
 | 2=>(10,mrT g)::oB g
 | _=>(12,mrM g)::(10,mrT g)::oB g
theorem zia (g:Img):∀ q p,q≤p→p≤3→yV (oHs g q) (oHs g p)=true:=by
 intro q p h1 h2
 have hp:p=0∨p=1∨p=2∨p=3:=by omega
 have hq:q=0∨q=1∨q=2∨q=3:=by omega
 rcases hp with rfl|rfl|rfl|rfl <;> rcases hq with rfl|rfl|rfl|rfl <;> first|rfl|omega
theorem zoi (g:Img) {gB:Base}:∀ p,p≤3→∀ K ρ w,FS gB K ρ (oHs g p) w→FS gB K ρ (oB g) w:=by
 intro p hp K ρ w h
 have hp:p=0∨p=1∨p=2∨p=3:=by omega
 rcases hp with rfl|rfl|rfl|rfl
 ·exact h
 ·exact h.narrow (e:=[]) tH
 ·exact h.narrow (e:=[]) tH
 ·exact h.narrow (e:=[]) tH
abbrev oL (g:Img):HEnv:=[(0,.cell (.agg [.own 10,.pv (.slc 7 (g.fields.map Zc) false),.own 12,.pv (pi g.entry)])),(1,.cell (.pv zo7)),(10,mrT g),(12,mrM g)]
abbrev oT (g:Img):HEnv:=[(0,.cell (.agg [.own 10,.pv (.slc 7 (g.fields.map Zc) false),.own 12,.pv (pi g.entry)])),(1,.cell (.pv zo7)),(10,mrT g),(12,.dead)]
abbrev oR (g:Img) (A:List PV):HEnv:=[(12,.mrow 68 12 A),(0,.cell (.agg [.own 10,.pv (.slc 7 (g.fields.map Zc) false),.own 12,.pv (pi g.entry)])),(1,.cell (.pv zo7)),(10,mrT g)]
structure OwnOk (g:Img):Prop where
 t:g.types.length≤1000
 f:g.fields.length≤1000
 m:g.methods.length≤1000
 tf:∀ td∈g.types,td.faces.length≤1000
 mm:∀ m∈g.methods,m.params.length≤1000∧m.locals.length≤1000∧m.code.length≤1000∧m.clauses.length≤1000
theorem QV {α:Type} {l:List α} {k:Nat} {x:α} (h:l[k]?=some x):l.set k x=l:=by
 obtain ⟨h1,h2⟩:=List.getElem?_eq_some_iff.1 h
 rw [←h2];exact List.set_getElem_self h1
set_option maxHeartbeats 8000000 in
theorem zmj (g:Img) (hg:OwnOk g):ACall Tryz.prog 85 [zu g] (zu g):=by
 obtain ⟨ht,hf,hm,htf,hmm⟩:=hg
 refine zf zh Tryz.func85 rfl (by kernel_rfl) Tryz.ntmps85 (by simp) _ rfl (fun hw gB hgB=>?_)
 repeat' (first|refine zcm 15 10 [2,5,8] (oHs g) (oHs g) (oB g) none rfl (by kernel_rfl) (by kernel_rfl) (by kernel_rfl) (by kernel_rfl) (by kernel_rfl) (by kernel_rfl) rfl (zoi g) rfl (zia g) (fun q h=>zia g q 3 h (Nat.le_refl 3)) tH rfl (fun v hv=>by cases hv) ?_|refine Ya 2 [2,5] (.own 10) rfl rfl rfl rfl rfl ?_|refine Ya 2 [2] (.pv (.slc 7 (g.fields.map Zc) false)) rfl rfl rfl rfl rfl ?_|refine Ya 2 [] (.own 12) rfl rfl rfl rfl rfl ?_|refine Yx ?_|refine ⟨⟨rfl,Xr [] [(10,mrT g)] (oB g) [] yc rfl rfl (fun _ _ h=>h) rfl rfl rfl rfl (fun us=>zhB _ ht),.inr (by kernel_rfl)⟩,?_⟩|refine ⟨⟨rfl,zaI rfl rfl (fun _ _ _ h=>h.narrow (e:=[]) tH) (zhv _ hf),.inl rfl⟩,?_⟩|refine ⟨⟨rfl,Xr [] [(12,mrM g)] ((10,mrT g)::oB g) [] yc rfl rfl (fun _ _ h=>h) rfl rfl rfl rfl (fun us=>zhe _ hm),.inr (by kernel_rfl)⟩,?_⟩|intro _|refine Xd ?_|refine sM ?_|(refine Zt ?_;first|refine YP 0 rfl rfl rfl rfl rfl rfl ?_)|refine sK ?_|refine sC (fun _=>?_) (fun _=>?_)|fail)
 refine zA (fun k:Nat=>[(1,.box 0 0),(2,.box 1 0),(20,.pv (pi g.types.length)),(21,.pv (pi k))]) (fun _=>oL g) (fun k=>k≤g.types.length) (fun k=>g.types.length - k) 0 (by omega) (by repeat (first|exact yj|refine zY rfl ?_|(refine qL rfl ?_ ?_;· simp))) tH ?_
 intro k hk
 by_cases hlt:k < g.types.length
 ·have hp:(g.types.map qx)[k]?=some (qx g.types[k]):=by simp [hlt]
  have hkl:k < (g.types.map qx).length:=by simpa using hlt
  have hfc:=htf _ (List.getElem_mem hlt)
  repeat' (first|refine yP 13 10 rfl (by kernel_rfl) (by kernel_rfl) (by kernel_rfl) (by kernel_rfl) (by kernel_rfl) ?_|refine sM ?_|refine zq rfl (yB (k:=k) (j:=3) zh rfl rfl rfl rfl hp rfl) rfl rfl ?_|refine AD.step _ _ _ _ _ rfl (yB (k:=k) (j:=3) zh rfl rfl rfl rfl hp rfl) rfl rfl ?_|(refine shC ?_;first|refine qC (zhc _ hfc) ?_)|(refine shX ?_;first|refine zq rfl (yw (k:=k) zh rfl rfl rfl rfl rfl rfl rfl rfl hkl) rfl rfl ?_|refine AD.step _ _ _ _ _ rfl (yw (k:=k) zh rfl rfl rfl rfl rfl rfl rfl rfl hkl) rfl rfl ?_)|(refine Yh ?_;first|refine Vb (k:=k) (j:=3) zh rfl rfl rfl rfl rfl hp rfl rfl rfl rfl rfl ?_)|refine sK ?_|refine sC (fun _=>?_) (fun _=>?_)|fail)
  exact ⟨k + 1,hlt,tD,tS,⟨zi rfl (zi rfl (qJ rfl (QV hp) (zi rfl zk))),rfl⟩⟩
 ·repeat' (first|refine sM ?_|refine sK ?_|refine sC (fun _=>?_) (fun _=>?_)|fail)
  refine zA (fun k:Nat=>[(1,.box 0 0),(2,.box 1 0),(39,.pv (pi g.methods.length)),(40,.pv (pi k))]) (fun _=>oL g) (fun k=>k≤g.methods.length) (fun k=>g.methods.length - k) 0 (by omega) (by repeat (first|exact yj|refine zY rfl ?_|(refine qL rfl ?_ ?_;· simp))) tH ?_
  clear hlt hk
  clear k
  intro k hk
  by_cases hlt:k < g.methods.length
  ·have hpA:(g.methods.map zM)[k]?=some (zM g.methods[k]):=by simp [hlt]
   have hkl:k < (g.methods.map zM).length:=by simpa using hlt
   have hpB:((g.methods.map zM).set k (zM g.methods[k]))[k]?=some (zM g.methods[k]):=by rw [QV hpA];exact hpA
   have hpC:(((g.methods.map zM).set k (zM g.methods[k])).set k (zM g.methods[k]))[k]?=some (zM g.methods[k]):=by rw [QV hpA];exact hpB
   have hpD:((((g.methods.map zM).set k (zM g.methods[k])).set k (zM g.methods[k])).set k (zM g.methods[k]))[k]?=some (zM g.methods[k]):=by rw [QV hpA];exact hpC
   have hpE:(((((g.methods.map zM).set k (zM g.methods[k])).set k (zM g.methods[k])).set k (zM g.methods[k])).set k (zM g.methods[k]))=g.methods.map zM:=by rw [QV hpA,QV hpA,QV hpA,QV hpA]
   obtain ⟨q1,q2,q3,q4⟩:=hmm _ (List.getElem_mem hlt)
   repeat' (first|refine Xo (id:=11) 18 18 [14,17] [[52,57]] (mkL [oL g,(12,(.mrow 68 12 ((g.methods.map zM).set k (zM g.methods[k]))))::oL g,(12,(.mrow 68 12 (((g.methods.map zM).set k (zM g.methods[k])).set k (zM g.methods[k]))))::(12,(.mrow 68 12 ((g.methods.map zM).set k (zM g.methods[k]))))::oL g]) (fun _=>oT g) (oT g) none rfl (by kernel_rfl) (by kernel_rfl) (by kernel_rfl) (by kernel_rfl) (by kernel_rfl) (by kernel_rfl) (by kernel_rfl) (fun p hp=>by obtain rfl:p=0:=(by simp at hp;omega);exact ⟨rfl,rfl⟩) rfl (zdd (i:=12) rfl ⟨tH,tH,tH,trivial⟩) rfl (fun _ _ _ _=>rfl) (fun q h=>by have:q=0∨q=1∨q=2:=(by simp at h;omega);rcases this with rfl|rfl|rfl <;> rfl) tH rfl (fun v hv=>by cases hv) ?_|refine Xo (id:=12) 18 18 [14,17] [[68,73]] (mkL [oR g (((g.methods.map zM).set k (zM g.methods[k])).set k (zM g.methods[k])),(12,(.mrow 68 12 ((((g.methods.map zM).set k (zM g.methods[k])).set k (zM g.methods[k])).set k (zM g.methods[k]))))::oR g (((g.methods.map zM).set k (zM g.methods[k])).set k (zM g.methods[k])),(12,(.mrow 68 12 (((((g.methods.map zM).set k (zM g.methods[k])).set k (zM g.methods[k])).set k (zM g.methods[k])).set k (zM g.methods[k]))))::(12,(.mrow 68 12 ((((g.methods.map zM).set k (zM g.methods[k])).set k (zM g.methods[k])).set k (zM g.methods[k]))))::oR g (((g.methods.map zM).set k (zM g.methods[k])).set k (zM g.methods[k]))]) (fun _=>oT g) (oT g) none rfl (by kernel_rfl) (by kernel_rfl) (by kernel_rfl) (by kernel_rfl) (by kernel_rfl) (by kernel_rfl) (by kernel_rfl) (fun p hp=>by obtain rfl:p=0:=(by simp at hp;omega);exact ⟨rfl,rfl⟩) rfl (zdd (i:=12) rfl ⟨tH,tH,tH,trivial⟩) rfl (fun _ _ _ _=>rfl) (fun q h=>by have:q=0∨q=1∨q=2:=(by simp at h;omega);rcases this with rfl|rfl|rfl <;> rfl) tH rfl (fun v hv=>by cases hv) ?_|refine zcG 0 1 [8,11] rfl rfl (by kernel_rfl) ?_|refine zcG 0 1 [3,6] rfl rfl (by kernel_rfl) ?_|refine zaP 5 [9,12] rfl rfl ?_|refine zaP 4 [4,7] rfl rfl ?_|refine zaP 3 [0,3] rfl rfl ?_|refine zaP 2 [0] rfl rfl ?_|refine QX [2] (.pv (.tup [])) rfl rfl rfl ?_|refine QX [] (.pv (.tup [])) rfl rfl rfl ?_|refine Yx ?_|intro _|refine Xd ?_|refine ⟨⟨rfl,ZU (k:=k) (j:=3) zh rfl rfl rfl rfl hpA rfl rfl rfl rfl,.inl rfl⟩,?_⟩|refine ⟨⟨rfl,ZU (k:=k) (j:=8) zh rfl rfl rfl rfl hpB rfl rfl rfl rfl,.inl rfl⟩,?_⟩|refine ⟨⟨rfl,ZU (k:=k) (j:=10) zh rfl rfl rfl rfl hpC rfl rfl rfl rfl,.inl rfl⟩,?_⟩|refine ⟨⟨rfl,ZU (k:=k) (j:=11) zh rfl rfl rfl rfl hpD rfl rfl rfl rfl,.inl rfl⟩,?_⟩|refine sM ?_|refine zq rfl (yB (k:=k) (j:=3) zh rfl rfl rfl rfl hpA rfl) rfl rfl ?_|refine AD.step _ _ _ _ _ rfl (yB (k:=k) (j:=3) zh rfl rfl rfl rfl hpA rfl) rfl rfl ?_|refine zq rfl (yB (k:=k) (j:=8) zh rfl rfl rfl rfl hpA rfl) rfl rfl ?_|refine AD.step _ _ _ _ _ rfl (yB (k:=k) (j:=8) zh rfl rfl rfl rfl hpA rfl) rfl rfl ?_|refine zq rfl (yB (k:=k) (j:=10) zh rfl rfl rfl rfl hpC rfl) rfl rfl ?_|refine AD.step _ _ _ _ _ rfl (yB (k:=k) (j:=10) zh rfl rfl rfl rfl hpC rfl) rfl rfl ?_|refine zq rfl (yB (k:=k) (j:=11) zh rfl rfl rfl rfl hpC rfl) rfl rfl ?_|refine AD.step _ _ _ _ _ rfl (yB (k:=k) (j:=11) zh rfl rfl rfl rfl hpC rfl) rfl rfl ?_|(refine shC ?_;first|refine qC (zeT _ q1) ?_|refine qC (zeT _ q2) ?_|refine qC (zfX _ q3) ?_|refine qC (zhC _ q4) ?_)|(refine shX ?_;first|refine zq rfl (yw (k:=k) zh rfl rfl rfl rfl rfl rfl rfl rfl hkl) rfl rfl ?_|refine AD.step _ _ _ _ _ rfl (yw (k:=k) zh rfl rfl rfl rfl rfl rfl rfl rfl hkl) rfl rfl ?_)|refine sK ?_|refine sC (fun _=>?_) (fun _=>?_)|fail)
   exact ⟨k + 1,hlt,tD,tS,⟨zi rfl (zi rfl (zi rfl (qJ rfl hpE zk))),rfl⟩⟩
  ·repeat' (first|refine zbQ 10 rfl ?_|refine zbQ 12 rfl ?_|refine sK ?_|refine sC (fun _=>?_) (fun _=>?_)|fail)
   exact retq rfl rfl
end Go.Cg
