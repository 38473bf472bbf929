/- A part of the walks by abstract values: no statement of its own. -/
import Derived.Test.YtemhfmmhkimhmaaGreatV28
import Derived.Test.YtemhfmmhkimhmaaGreatV17
import Derived.Test.YtemhfmmhkimhmaaGreatV8
import Derived.Test.YtemhfmmhkimhmaaGreatV18
set_option linter.unusedVariables false
set_option linter.unusedSimpArgs false
namespace Go.Cg
open Go.Proofs
abbrev zuU:PV:=.agg [.base (.slice none 0 0),.base (.slice none 0 0),.base (.slice none 0 0),pi 0]
abbrev oB (g:Img):HEnv:=[(1,.cell (.pv zuU)),(0,.cell (.pv (zK g)))]
abbrev mrT (g:Img):HE:=.mrow 55 4 (g.types.map Zx)
abbrev mrM (g:Img):HE:=.mrow 36 12 (g.methods.map zY)
abbrev oHs (g:Img):Nat->HEnv:=fun p=>match p with
 | 0=>oB g
 | 1=>(10,mrT g)::oB g
 | 2=>(10,mrT g)::oB g
 | _=>(12,mrM g)::(10,mrT g)::oB g
theorem znX (g:Img):∀ q p,q<=p->p<=3->qM (oHs g q) (oHs g p)=true:=by
 intro q p h1 h2;have hp:p=0\/p=1\/p=2\/p=3:=by omega
 have hq:q=0\/q=1\/q=2\/q=3:=by omega
 rcases hp with rfl|rfl|rfl|rfl <;> rcases hq with rfl|rfl|rfl|rfl <;> first|rfl|omega
theorem zsi (g:Img) {gB:Base}:∀ p,p<=3->∀ K ρ w,FS gB K ρ (oHs g p) w->FS gB K ρ (oB g) w:=by
 intro p hp K ρ w h;have hp:p=0\/p=1\/p=2\/p=3:=by omega
 rcases hp with rfl|rfl|rfl|rfl
 ·exact h
 ·exact h.narrow (e:=[]) tH
 ·exact h.narrow (e:=[]) tH
 ·exact h.narrow (e:=[]) tH
abbrev oL (g:Img):HEnv:=[(0,.cell (.agg [.own 10,.pv (.slc 7 (g.fields.map ZI) false),.own 12,.pv (pi g.entry)])),(1,.cell (.pv zuU)),(10,mrT g),(12,mrM g)]
abbrev oT (g:Img):HEnv:=[(0,.cell (.agg [.own 10,.pv (.slc 7 (g.fields.map ZI) false),.own 12,.pv (pi g.entry)])),(1,.cell (.pv zuU)),(10,mrT g),(12,.dead)]
abbrev oR (g:Img) (A:List PV):HEnv:=[(12,.mrow 36 12 A),(0,.cell (.agg [.own 10,.pv (.slc 7 (g.fields.map ZI) false),.own 12,.pv (pi g.entry)])),(1,.cell (.pv zuU)),(10,mrT g)]
structure OwnOk (g:Img):Prop where
 t:g.types.length<=1000
 f:g.fields.length<=1000
 m:g.methods.length<=1000
 tf:∀ td∈g.types,td.faces.length<=1000
 mm:∀ m∈g.methods,m.params.length<=1000/\m.locals.length<=1000/\m.code.length<=1000/\m.clauses.length<=1000
theorem VN {α:Type} {l:List α} {k:Nat} {x:α} (h:l[k]?=some x):l.set k x=l:=by
 obtain ⟨h1,h2⟩:=List.getElem?_eq_some_iff.1 h;rw [<-h2];exact List.set_getElem_self h1
set_option maxHeartbeats 8000000 in
theorem zqw (g:Img) (hg:OwnOk g):ACall Tryz.prog 20 [zK g] (zK g):=by
 obtain ⟨ht,hf,hm,htf,hmm⟩:=hg;refine zh zf Tryz.func20 rfl zws Tryz.ntmps20 zwy63 _ rfl (fun hw gB hgB=>?_)
 repeat' (first|refine zfk 15 10 [2,5,8] (oHs g) (oHs g) (oB g) none rfl zws zws zws zws zws zws rfl (zsi g) rfl (znX g) (fun q h=>znX g q 3 h (Nat.le_refl 3)) tH rfl (fun v hv=>by cases hv) ?_|refine YL 2 [2,5] (.own 10) rfl rfl rfl rfl rfl ?_|refine YL 2 [2] (.pv (.slc 7 (g.fields.map ZI) false)) rfl rfl rfl rfl rfl ?_|refine YL 2 [] (.own 12) rfl rfl rfl rfl rfl ?_|refine Xf ?_|refine ⟨⟨rfl,zfh [] [(10,mrT g)] (oB g) [] zi rfl rfl (fun _ _ h=>h) rfl rfl rfl rfl (fun us=>zlc _ ht),.inr zws⟩,?_⟩|refine ⟨⟨rfl,zm4 rfl rfl (fun _ _ _ h=>h.narrow (e:=[]) tH) (zlp _ hf),.inl rfl⟩,?_⟩|refine ⟨⟨rfl,zfh [] [(12,mrM g)] ((10,mrT g)::oB g) [] zi rfl rfl (fun _ _ h=>h) rfl rfl rfl rfl (fun us=>zlt _ hm),.inr zws⟩,?_⟩|intro _|refine Vy ?_|refine sM ?_|(refine XF ?_;first|refine zax 0 rfl rfl rfl rfl rfl rfl ?_)|refine sK ?_|refine sC (fun _=>?_) (fun _=>?_)|fail)
 refine zL (fun k:Nat=>[(1,.box 0 0),(2,.box 1 0),(20,.pv (pi g.types.length)),(21,.pv (pi k))]) (fun _=>oL g) (fun k=>k<=g.types.length) (fun k=>g.types.length - k) 0 zwy62 zwy71 tH ?_;intro k hk;by_cases hlt:k < g.types.length
 ·have hp:(g.types.map Zx)[k]?=some (Zx g.types[k]):=by simp [hlt]
  have hkl:k < (g.types.map Zx).length:=by simpa using hlt
  have hfc:=htf _ (List.getElem_mem hlt)
  repeat' (first|refine zZ 13 10 rfl zws zws zws zws zws ?_|refine sM ?_|refine zy rfl (au (k:=k) (j:=3) hp) rfl rfl ?_|refine zq rfl (au (k:=k) (j:=3) hp) rfl rfl ?_|(refine shC ?_;first|refine qC (zkP _ hfc) ?_)|(refine shX ?_;first|refine zy rfl (aA (k:=k) hkl) rfl rfl ?_|refine zq rfl (aA (k:=k) hkl) rfl rfl ?_)|(refine ZN ?_;first|refine YR (k:=k) (j:=3) zf rfl rfl rfl rfl rfl hp rfl rfl rfl rfl rfl ?_)|refine sK ?_|refine sC (fun _=>?_) (fun _=>?_)|fail)
  exact ⟨k + 1,hlt,tD,tS,⟨zC rfl (zC rfl (Zq rfl (VN hp) (aB zB))),rfl⟩⟩
 ·repeat' (first|refine sM ?_|refine sK ?_|refine sC (fun _=>?_) (fun _=>?_)|fail)
  refine zL (fun k:Nat=>[(1,.box 0 0),(2,.box 1 0),(39,.pv (pi g.methods.length)),(40,.pv (pi k))]) (fun _=>oL g) (fun k=>k<=g.methods.length) (fun k=>g.methods.length - k) 0 zwy62 zwy71 tH ?_;clear hlt hk;clear k;intro k hk;by_cases hlt:k < g.methods.length
  ·have hpA:(g.methods.map zY)[k]?=some (zY g.methods[k]):=by simp [hlt]
   have hkl:k < (g.methods.map zY).length:=by simpa using hlt
   have hpB:((g.methods.map zY).set k (zY g.methods[k]))[k]?=some (zY g.methods[k]):=by rw [VN hpA];exact hpA
   have hpC:(((g.methods.map zY).set k (zY g.methods[k])).set k (zY g.methods[k]))[k]?=some (zY g.methods[k]):=by rw [VN hpA];exact hpB
   have hpD:((((g.methods.map zY).set k (zY g.methods[k])).set k (zY g.methods[k])).set k (zY g.methods[k]))[k]?=some (zY g.methods[k]):=by rw [VN hpA];exact hpC
   have hpE:(((((g.methods.map zY).set k (zY g.methods[k])).set k (zY g.methods[k])).set k (zY g.methods[k])).set k (zY g.methods[k]))=g.methods.map zY:=by rw [VN hpA,VN hpA,VN hpA,VN hpA]
   obtain ⟨q1,q2,q3,q4⟩:=hmm _ (List.getElem_mem hlt)
   repeat' (first|refine XG (id:=11) 18 18 [14,17] [[52,57]] (mkL [oL g,(12,(.mrow 36 12 ((g.methods.map zY).set k (zY g.methods[k]))))::oL g,(12,(.mrow 36 12 (((g.methods.map zY).set k (zY g.methods[k])).set k (zY g.methods[k]))))::(12,(.mrow 36 12 ((g.methods.map zY).set k (zY g.methods[k]))))::oL g]) (fun _=>oT g) (oT g) none rfl zws zws zws zws zws zws zws (fun p hp=>by obtain rfl:p=0:=(by simp at hp;omega);exact ⟨rfl,rfl⟩) rfl (zfK (i:=12) rfl ⟨tH,tH,tH,trivial⟩) rfl (fun _ _ _ _=>rfl) (fun q h=>by have:q=0\/q=1\/q=2:=(by simp at h;omega);rcases this with rfl|rfl|rfl <;> rfl) tH rfl (fun v hv=>by cases hv) ?_|refine XG (id:=12) 18 18 [14,17] [[68,73]] (mkL [oR g (((g.methods.map zY).set k (zY g.methods[k])).set k (zY g.methods[k])),(12,(.mrow 36 12 ((((g.methods.map zY).set k (zY g.methods[k])).set k (zY g.methods[k])).set k (zY g.methods[k]))))::oR g (((g.methods.map zY).set k (zY g.methods[k])).set k (zY g.methods[k])),(12,(.mrow 36 12 (((((g.methods.map zY).set k (zY g.methods[k])).set k (zY g.methods[k])).set k (zY g.methods[k])).set k (zY g.methods[k]))))::(12,(.mrow 36 12 ((((g.methods.map zY).set k (zY g.methods[k])).set k (zY g.methods[k])).set k (zY g.methods[k]))))::oR g (((g.methods.map zY).set k (zY g.methods[k])).set k (zY g.methods[k]))]) (fun _=>oT g) (oT g) none rfl zws zws zws zws zws zws zws (fun p hp=>by obtain rfl:p=0:=(by simp at hp;omega);exact ⟨rfl,rfl⟩) rfl (zfK (i:=12) rfl ⟨tH,tH,tH,trivial⟩) rfl (fun _ _ _ _=>rfl) (fun q h=>by have:q=0\/q=1\/q=2:=(by simp at h;omega);rcases this with rfl|rfl|rfl <;> rfl) tH rfl (fun v hv=>by cases hv) ?_|refine zcv 0 1 [8,11] rfl rfl zws ?_|refine zcv 0 1 [3,6] rfl rfl zws ?_|refine zaY 5 [9,12] rfl rfl ?_|refine zaY 4 [4,7] rfl rfl ?_|refine zaY 3 [0,3] rfl rfl ?_|refine zaY 2 [0] rfl rfl ?_|refine Xn [2] (.pv (.tup [])) rfl rfl rfl ?_|refine Xn [] (.pv (.tup [])) rfl rfl rfl ?_|refine Xf ?_|intro _|refine Vy ?_|refine ⟨⟨rfl,Yu (k:=k) (j:=3) zf rfl rfl rfl rfl hpA rfl rfl rfl rfl,.inl rfl⟩,?_⟩|refine ⟨⟨rfl,Yu (k:=k) (j:=8) zf rfl rfl rfl rfl hpB rfl rfl rfl rfl,.inl rfl⟩,?_⟩|refine ⟨⟨rfl,Yu (k:=k) (j:=10) zf rfl rfl rfl rfl hpC rfl rfl rfl rfl,.inl rfl⟩,?_⟩|refine ⟨⟨rfl,Yu (k:=k) (j:=11) zf rfl rfl rfl rfl hpD rfl rfl rfl rfl,.inl rfl⟩,?_⟩|refine sM ?_|refine zy rfl (au (k:=k) (j:=3) hpA) rfl rfl ?_|refine zq rfl (au (k:=k) (j:=3) hpA) rfl rfl ?_|refine zy rfl (au (k:=k) (j:=8) hpA) rfl rfl ?_|refine zq rfl (au (k:=k) (j:=8) hpA) rfl rfl ?_|refine zy rfl (au (k:=k) (j:=10) hpC) rfl rfl ?_|refine zq rfl (au (k:=k) (j:=10) hpC) rfl rfl ?_|refine zy rfl (au (k:=k) (j:=11) hpC) rfl rfl ?_|refine zq rfl (au (k:=k) (j:=11) hpC) rfl rfl ?_|(refine shC ?_;first|refine qC (zco _ q1) ?_|refine qC (zco _ q2) ?_|refine qC (zjB _ q3) ?_|refine qC (zlR _ q4) ?_)|(refine shX ?_;first|refine zy rfl (aA (k:=k) hkl) rfl rfl ?_|refine zq rfl (aA (k:=k) hkl) rfl rfl ?_)|refine sK ?_|refine sC (fun _=>?_) (fun _=>?_)|fail)
   exact ⟨k + 1,hlt,tD,tS,⟨zC rfl (zC rfl (zC rfl (Zq rfl hpE zB))),rfl⟩⟩
  ·repeat' (first|refine Wx 10 rfl ?_|refine Wx 12 rfl ?_|refine sK ?_|refine sC (fun _=>?_) (fun _=>?_)|fail)
   exact retq rfl rfl
end Go.Cg
