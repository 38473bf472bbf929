/- A part of the walks by abstract values: no statement of its own. -/
import Derived.Test.YtdlokcmodgccnaaGreatF26
import Derived.Test.YtdlokcmodgccnaaGreatF13
import Derived.Test.YtdlokcmodgccnaaGreatF14
import Derived.Test.YtdlokcmodgccnaaGreatF7
import Derived.Test.YtdlokcmodgccnaaGreatF15
import Derived.Test.YtdlokcmodgccnaaGreatF16
set_option linter.unusedVariables false
set_option linter.unusedSimpArgs false
namespace Go.Cg
open Go.Proofs
set_option maxHeartbeats 20000000
theorem VX {P:Program} {t xt:TypeId} {k0:IntKind} {v:Value} {w:World} (hu:P.underlying t=some (.int k0)):(Instr.typeAssert (.iface t v) xt t true).run P w=.ok (.tuple #[v,.bool true]) w:=by
 simp [Instr.typeAssert,run_underlying hu]
theorem WW {P:Program} {t xt:TypeId} {k0:IntKind} {z:Value} {w:World} (hu:P.underlying t=some (.int k0)) (hz:(zeroValue t).run P w=.ok z w):(Instr.typeAssert .nilIface xt t true).run P w=.ok (.tuple #[z,.bool false]) w:=by
 simp [Instr.typeAssert,run_underlying hu,hz]
abbrev rbH (o e:PV) (p1 p2:Value):HEnv:=[(1,.cell (.pv o)),(2,.cell (.pv e)),(2001,.pin (.box 1 0) p1),(2002,.pin (.box 2 0) p2)]
theorem ZL {K:KK} {w:World} {ρ:Nat→Value} {H:HEnv} {env:Env} {tmps:Array Value} {t:Nat} {av:AV} {v:Value} (h1:tmps[t]?=some v) (h2:ARel K w ρ H av v) (h:EnvR K w ρ H env tmps):EnvR K w ρ H ((t,av)::env) tmps:=fun t' av' hg=>by
 rw [Env.get_cons] at hg
 split at hg
 ·rename_i e;subst e;simp only [Option.some.injEq] at hg;subst hg;exact ⟨v,h1,h2⟩
 ·exact h t' av' hg
theorem za1 {K:KK} {w:World} {ρ:Nat→Value} {H:HEnv} {tmps:Array Value}:EnvR K w ρ H [] tmps:=fun t av h=>by simp [Env.get_nil] at h
def zp3 (H2:HEnv):QC:=fun ex _ H=>(ex=.normal∨ex=.ret)∧Qa H H2 []
theorem zeR {n:Nat} {g:Base} {env:Env} {H H2:HEnv} {a:Act} {w:World} (hi:Inv n g env H a w) (hf:Qa H H2 []):∃ K ρ,FS g K ρ H2 w:=by
 obtain ⟨_,_,K,ρ,h,_⟩:=hi
 exact ⟨K,ρ,h.narrow hf⟩
theorem zkT {α:Type} {l:List α} (h:l.length=2):∃ a b,l=[a,b]:=by
 match l,h with
 | [a,b],_=>exact ⟨a,b,rfl⟩
theorem zp6 (p1 p2:Value) (e:Int):DCall Tryz.prog 115 (rbH (.base (.slice none 0 0)) (pi 0) p1 p2) [.box 1 0,.box 2 0] (.panicking [{ v:=flt e,recovered:=false }]) (.panicking [{ v:=flt e,recovered:=true }]) (rbH (.base (.slice none 0 0)) (pi e) p1 p2):=by
 refine QY Tryz.func115 rfl (by kernel_rfl) rfl (fun g K ρ w vs hds hf hv c₀ cs hu=>?_)
 obtain ⟨v1,v2,rfl⟩:=zkT hv.1
 have r1:=hv.2 0 _ v1 rfl rfl
 have r2:=hv.2 1 _ v2 rfl rfl
 refine wpS_seq ?_
 refine wpS_region ?_
 have h1:=VX (P:=Tryz.prog) (xt:=20) (v:=.int .i64 e) (w:=w) Tryz.underlying147
 simp [wpOpsS,go_sem,recoverD,hu,Tryz.ntmps115,Exit.thenS,flt,h1]
 refine zeV (n:=11) (g:=g) (env:=[(0,.box 1 0),(1,.box 2 0),(2,.pv (pi e)),(3,.pv (pb true))]) (H:=rbH (.base (.slice none 0 0)) (pi 0) p1 p2) (QQ:=zp3 (rbH (.base (.slice none 0 0)) (pi e) p1 p2)) ?_
  ⟨by simp,by rw [hds],K,ρ,hf,ZL (v:=v1) (by simp) r1 (ZL (v:=v2) (by simp) r2 (ZL (v:=.int .i64 e) (by simp) (.pv _ _ (.base _ rfl)) (ZL (v:=.bool true) (by simp) (.pv _ _ (.base _ rfl)) za1)))⟩
  (fun ex a' w' env' H' hi hq=>⟨hq.1,hi.defers.trans hds,rfl,zeR hi hq.2⟩)
 repeat' (first|refine sK ?_|refine sC (fun _=>?_) (fun _=>?_)|fail)
 exact ⟨.inl rfl,tH⟩
theorem zoi (o e:PV) (p1 p2:Value):DCall Tryz.prog 115 (rbH o e p1 p2) [.box 1 0,.box 2 0] .returning .returning (rbH o e p1 p2):=by
 refine QY Tryz.func115 rfl (by kernel_rfl) rfl (fun g K ρ w vs hds hf hv c₀ cs hu=>?_)
 obtain ⟨v1,v2,rfl⟩:=zkT hv.1
 refine wpS_seq ?_
 refine wpS_region ?_
 have hz:=zh9 (P:=Tryz.prog) (w:=w) (z:=.int .i64 0) zh (ty:=147) rfl
 have h1:=WW (P:=Tryz.prog) (xt:=20) (w:=w) Tryz.underlying147 hz
 simp [wpOpsS,go_sem,recoverD,hu,Tryz.ntmps115,Exit.thenS,h1]
 refine zeV (n:=11) (g:=g) (env:=[(3,.pv (pb false))]) (H:=rbH o e p1 p2) (QQ:=zp3 (rbH o e p1 p2)) ?_
  ⟨by simp,by rw [hds],K,ρ,hf,ZL (v:=.bool false) (by simp) (.pv _ _ (.base _ rfl)) za1⟩
  (fun ex a' w' env' H' hi hq=>⟨hq.1,hi.defers.trans hds,by cases c₀;simp_all,zeR hi hq.2⟩)
 repeat' (first|refine sK ?_|refine sC (fun _=>?_) (fun _=>?_)|fail)
 exact ⟨.inl rfl,tH⟩
set_option maxHeartbeats 20000000
theorem zes {tb:Tab} {rs:List ResultVar} {i t:Nat} {H' H:HEnv} {env:Env} (hr:rs=[.tmp t]) (hg:env.get t=some (.own i)) (hf:Qa H H' [(t,.own i)]):zke tb rs (.own i) H' .ret env H:=⟨.inr rfl,.inr ⟨t,hr,hg,hf⟩⟩
theorem zkt (l:List TD) (hl:l.length≤1000):ACallM Tryz.prog 69 [.pv (.slc 4 (l.map Zb) false)] [] (.own 10) [(10,.mrow 69 4 (l.map Zb))]:=by
 refine qA zh Tryz.func69 rfl (by kernel_rfl) Tryz.ntmps69 (by simp) _ rfl (fun gB hw1=>?_)
 repeat' (first|refine zf8 (t:=2) 10 69 4 (by decide) rfl rfl ?_|refine Xx zh rfl rfl rfl rfl rfl rfl rfl (fun bb hbb=>?_)|refine ziY zh 10 rfl rfl rfl rfl rfl rfl rfl rfl rfl ?_|refine zl4 10 rfl ?_|(refine zI ?_;first|refine Qj zh rfl rfl rfl rfl rfl rfl rfl (by show _ * 56≤_;simp;omega) (by simp;omega) rfl rfl ?_)|refine sA ?_|refine sC (fun _=>?_) (fun _=>?_)|fail)
 ·rename_i h
  rw [hbb h]
  exact zes rfl rfl tH
 ·exact zes rfl rfl tH
theorem zkz (l:List Me) (hl:l.length≤1000):ACallM Tryz.prog 71 [.pv (.slc 12 (l.map zG) false)] [] (.own 12) [(12,.mrow 46 12 (l.map zG))]:=by
 refine qA zh Tryz.func71 rfl (by kernel_rfl) Tryz.ntmps71 (by simp) _ rfl (fun gB hw1=>?_)
 repeat' (first|refine zf8 (t:=2) 12 46 12 (by decide) rfl rfl ?_|refine Xx zh rfl rfl rfl rfl rfl rfl rfl (fun bb hbb=>?_)|refine ziY zh 12 rfl rfl rfl rfl rfl rfl rfl rfl rfl ?_|refine zl4 12 rfl ?_|(refine zI ?_;first|refine Qj zh rfl rfl rfl rfl rfl rfl rfl (by show _ * 168≤_;simp;omega) (by simp;omega) rfl rfl ?_)|refine sA ?_|refine sC (fun _=>?_) (fun _=>?_)|fail)
 ·rename_i h
  rw [hbb h]
  exact zes rfl rfl tH
 ·exact zes rfl rfl tH
theorem zkM (l:List Fd) (hl:l.length≤1000):ACall Tryz.prog 70 [.slc 7 (l.map Yc) false] (.slc 7 (l.map Yc) false):=by
 refine zf zh Tryz.func70 rfl (by kernel_rfl) Tryz.ntmps70 (by simp) _ rfl (fun hw gB hgB=>?_)
 repeat' (first|refine Xx zh rfl rfl rfl rfl rfl rfl rfl (fun bb hbb=>?_)|refine zu rfl (Xl zh rfl rfl rfl rfl rfl) rfl rfl ?_|(refine zI ?_;first|refine zu rfl (XB zh rfl rfl (.inl rfl) rfl rfl (by show _ * 64≤_;simp;omega) (by simp;omega)) rfl rfl ?_)|refine sA ?_|refine sC (fun _=>?_) (fun _=>?_)|fail)
 ·rename_i h
  have:l=[]:=by have:=hbb h;simpa using this
  subst this
  exact zcA (t:=2) (ps:=[.slc 7 [] false]) rfl (Xb 7 false) rfl rfl
 ·exact retq rfl rfl
theorem zky (l:List Int) (hl:l.length≤1000):ACall Tryz.prog 72 [.slc 1 (l.map pi) false] (.slc 1 (l.map pi) false):=by
 refine zf zh Tryz.func72 rfl (by kernel_rfl) Tryz.ntmps72 (by simp) _ rfl (fun hw gB hgB=>?_)
 repeat' (first|refine Xx zh rfl rfl rfl rfl rfl rfl rfl (fun bb hbb=>?_)|refine zu rfl (Xl zh rfl rfl rfl rfl rfl) rfl rfl ?_|(refine zI ?_;first|refine zu rfl (XB zh rfl rfl (.inl rfl) rfl rfl (by show _ * 8≤_;simp;omega) (by simp;omega)) rfl rfl ?_)|refine sA ?_|refine sC (fun _=>?_) (fun _=>?_)|fail)
 ·rename_i h
  have:l=[]:=by have:=hbb h;simpa using this
  subst this
  exact zcA (t:=2) (ps:=[.slc 1 [] false]) rfl (Xb 1 false) rfl rfl
 ·exact retq rfl rfl
theorem ziw (l:List Ins) (hl:l.length≤1000):ACall Tryz.prog 74 [.slc 6 (l.map zY) false] (.slc 6 (l.map zY) false):=by
 refine zf zh Tryz.func74 rfl (by kernel_rfl) Tryz.ntmps74 (by simp) _ rfl (fun hw gB hgB=>?_)
 repeat' (first|refine Xx zh rfl rfl rfl rfl rfl rfl rfl (fun bb hbb=>?_)|refine zu rfl (Xl zh rfl rfl rfl rfl rfl) rfl rfl ?_|(refine zI ?_;first|refine zu rfl (XB zh rfl rfl (.inl rfl) rfl rfl (by show _ * 48≤_;simp;omega) (by simp;omega)) rfl rfl ?_)|refine sA ?_|refine sC (fun _=>?_) (fun _=>?_)|fail)
 ·rename_i h
  have:l=[]:=by have:=hbb h;simpa using this
  subst this
  exact zcA (t:=2) (ps:=[.slc 6 [] false]) rfl (Xb 6 false) rfl rfl
 ·exact retq rfl rfl
theorem zko (l:List Cl) (hl:l.length≤1000):ACall Tryz.prog 75 [.slc 10 (l.map yI) false] (.slc 10 (l.map yI) false):=by
 refine zf zh Tryz.func75 rfl (by kernel_rfl) Tryz.ntmps75 (by simp) _ rfl (fun hw gB hgB=>?_)
 repeat' (first|refine Xx zh rfl rfl rfl rfl rfl rfl rfl (fun bb hbb=>?_)|refine zu rfl (Xl zh rfl rfl rfl rfl rfl) rfl rfl ?_|(refine zI ?_;first|refine zu rfl (XB zh rfl rfl (.inl rfl) rfl rfl (by show _ * 80≤_;simp;omega) (by simp;omega)) rfl rfl ?_)|refine sA ?_|refine sC (fun _=>?_) (fun _=>?_)|fail)
 ·rename_i h
  have:l=[]:=by have:=hbb h;simpa using this
  subst this
  exact zcA (t:=2) (ps:=[.slc 10 [] false]) rfl (Xb 10 false) rfl rfl
 ·exact retq rfl rfl
abbrev ztM:PV:=.agg [.base (.slice none 0 0),.base (.slice none 0 0),.base (.slice none 0 0),pi 0]
abbrev oB (g:Img):HEnv:=[(1,.cell (.pv ztM)),(0,.cell (.pv (zq g)))]
abbrev mrT (g:Img):HE:=.mrow 69 4 (g.types.map Zb)
abbrev mrM (g:Img):HE:=.mrow 46 12 (g.methods.map zG)
abbrev oHs (g:Img):Nat→HEnv:=fun p=>match p with
 | 0=>oB g
 | 1=>(10,mrT g)::oB g
 | 2=>(10,mrT g)::oB g
 | _=>(12,mrM g)::(10,mrT g)::oB g
theorem zmY (g:Img):∀ q p,q≤p→p≤3→yR (oHs g q) (oHs g p)=true:=by
 intro q p h1 h2
 have hp:p=0∨p=1∨p=2∨p=3:=by omega
 have hq:q=0∨q=1∨q=2∨q=3:=by omega
 rcases hp with rfl|rfl|rfl|rfl <;> rcases hq with rfl|rfl|rfl|rfl <;> first|rfl|omega
theorem zsb (g:Img) {gB:Base}:∀ p,p≤3→∀ K ρ w,FS gB K ρ (oHs g p) w→FS gB K ρ (oB g) w:=by
 intro p hp K ρ w h
 have hp:p=0∨p=1∨p=2∨p=3:=by omega
 rcases hp with rfl|rfl|rfl|rfl
 ·exact h
 ·exact h.narrow (e:=[]) tH
 ·exact h.narrow (e:=[]) tH
 ·exact h.narrow (e:=[]) tH
abbrev oL (g:Img):HEnv:=[(0,.cell (.agg [.own 10,.pv (.slc 7 (g.fields.map Yc) false),.own 12,.pv (pi g.entry)])),(1,.cell (.pv ztM)),(10,mrT g),(12,mrM g)]
abbrev oT (g:Img):HEnv:=[(0,.cell (.agg [.own 10,.pv (.slc 7 (g.fields.map Yc) false),.own 12,.pv (pi g.entry)])),(1,.cell (.pv ztM)),(10,mrT g),(12,.dead)]
abbrev oR (g:Img) (A:List PV):HEnv:=[(12,.mrow 46 12 A),(0,.cell (.agg [.own 10,.pv (.slc 7 (g.fields.map Yc) false),.own 12,.pv (pi g.entry)])),(1,.cell (.pv ztM)),(10,mrT g)]
structure OwnOk (g:Img):Prop where
 t:g.types.length≤1000
 f:g.fields.length≤1000
 m:g.methods.length≤1000
 tf:∀ td∈g.types,td.faces.length≤1000
 mm:∀ m∈g.methods,m.params.length≤1000∧m.locals.length≤1000∧m.code.length≤1000∧m.clauses.length≤1000
theorem WL {α:Type} {l:List α} {k:Nat} {x:α} (h:l[k]?=some x):l.set k x=l:=by
 obtain ⟨h1,h2⟩:=List.getElem?_eq_some_iff.1 h
 rw [←h2];exact List.set_getElem_self h1
set_option maxHeartbeats 8000000 in
theorem zpq (g:Img) (hg:OwnOk g):ACall Tryz.prog 38 [zq g] (zq g):=by
 obtain ⟨ht,hf,hm,htf,hmm⟩:=hg
 refine zf zh Tryz.func38 rfl (by kernel_rfl) Tryz.ntmps38 (by simp) _ rfl (fun hw gB hgB=>?_)
 repeat' (first|refine zel 15 10 [2,5,8] (oHs g) (oHs g) (oB g) none rfl (by kernel_rfl) (by kernel_rfl) (by kernel_rfl) (by kernel_rfl) (by kernel_rfl) (by kernel_rfl) rfl (zsb g) rfl (zmY g) (fun q h=>zmY g q 3 h (Nat.le_refl 3)) tH rfl (fun v hv=>by cases hv) ?_|refine ZQ 2 [2,5] (.own 10) rfl rfl rfl rfl rfl ?_|refine ZQ 2 [2] (.pv (.slc 7 (g.fields.map Yc) false)) rfl rfl rfl rfl rfl ?_|refine ZQ 2 [] (.own 12) rfl rfl rfl rfl rfl ?_|refine Qc ?_|refine ⟨⟨rfl,zdO [] [(10,mrT g)] (oB g) [] zy rfl rfl (fun _ _ h=>h) rfl rfl rfl rfl (fun us=>zkt _ ht),.inr (by kernel_rfl)⟩,?_⟩|refine ⟨⟨rfl,zlg rfl rfl (fun _ _ _ h=>h.narrow (e:=[]) tH) (zkM _ hf),.inl rfl⟩,?_⟩|refine ⟨⟨rfl,zdO [] [(12,mrM g)] ((10,mrT g)::oB g) [] zy rfl rfl (fun _ _ h=>h) rfl rfl rfl rfl (fun us=>zkz _ hm),.inr (by kernel_rfl)⟩,?_⟩|intro _|refine zaS ?_|refine sM ?_|(refine Xg ?_;first|refine zar 0 rfl rfl rfl rfl rfl rfl ?_)|refine sK ?_|refine sC (fun _=>?_) (fun _=>?_)|fail)
 refine zo (fun k:Nat=>[(1,.box 0 0),(2,.box 1 0),(20,.pv (pi g.types.length)),(21,.pv (pi k))]) (fun _=>oL g) (fun k=>k≤g.types.length) (fun k=>g.types.length - k) 0 (by omega) (by repeat (first|exact zT|refine zM rfl ?_|(refine qg rfl ?_ ?_;· simp))) tH ?_
 intro k hk
 by_cases hlt:k < g.types.length
 ·have hp:(g.types.map Zb)[k]?=some (Zb g.types[k]):=by simp [hlt]
  have hkl:k < (g.types.map Zb).length:=by simpa using hlt
  have hfc:=htf _ (List.getElem_mem hlt)
  repeat' (first|refine YQ 13 10 rfl (by kernel_rfl) (by kernel_rfl) (by kernel_rfl) (by kernel_rfl) (by kernel_rfl) ?_|refine sM ?_|refine zu rfl (yj (k:=k) (j:=3) zh rfl rfl rfl rfl hp rfl) rfl rfl ?_|refine AD.step _ _ _ _ _ rfl (yj (k:=k) (j:=3) zh rfl rfl rfl rfl hp rfl) rfl rfl ?_|(refine shC ?_;first|refine qC (zky _ hfc) ?_)|(refine shX ?_;first|refine zu rfl (zQ (k:=k) zh rfl rfl rfl rfl rfl rfl rfl rfl hkl) rfl rfl ?_|refine AD.step _ _ _ _ _ rfl (zQ (k:=k) zh rfl rfl rfl rfl rfl rfl rfl rfl hkl) rfl rfl ?_)|(refine Yw ?_;first|refine VB (k:=k) (j:=3) zh rfl rfl rfl rfl rfl hp rfl rfl rfl rfl rfl ?_)|refine sK ?_|refine sC (fun _=>?_) (fun _=>?_)|fail)
  exact ⟨k + 1,hlt,tD,tS,⟨zn rfl (zn rfl (qO rfl (WL hp) (zn rfl zl))),rfl⟩⟩
 ·repeat' (first|refine sM ?_|refine sK ?_|refine sC (fun _=>?_) (fun _=>?_)|fail)
  refine zo (fun k:Nat=>[(1,.box 0 0),(2,.box 1 0),(39,.pv (pi g.methods.length)),(40,.pv (pi k))]) (fun _=>oL g) (fun k=>k≤g.methods.length) (fun k=>g.methods.length - k) 0 (by omega) (by repeat (first|exact zT|refine zM rfl ?_|(refine qg rfl ?_ ?_;· simp))) tH ?_
  clear hlt hk
  clear k
  intro k hk
  by_cases hlt:k < g.methods.length
  ·have hpA:(g.methods.map zG)[k]?=some (zG g.methods[k]):=by simp [hlt]
   have hkl:k < (g.methods.map zG).length:=by simpa using hlt
   have hpB:((g.methods.map zG).set k (zG g.methods[k]))[k]?=some (zG g.methods[k]):=by rw [WL hpA];exact hpA
   have hpC:(((g.methods.map zG).set k (zG g.methods[k])).set k (zG g.methods[k]))[k]?=some (zG g.methods[k]):=by rw [WL hpA];exact hpB
   have hpD:((((g.methods.map zG).set k (zG g.methods[k])).set k (zG g.methods[k])).set k (zG g.methods[k]))[k]?=some (zG g.methods[k]):=by rw [WL hpA];exact hpC
   have hpE:(((((g.methods.map zG).set k (zG g.methods[k])).set k (zG g.methods[k])).set k (zG g.methods[k])).set k (zG g.methods[k]))=g.methods.map zG:=by rw [WL hpA,WL hpA,WL hpA,WL hpA]
   obtain ⟨q1,q2,q3,q4⟩:=hmm _ (List.getElem_mem hlt)
   repeat' (first|refine Qr (id:=11) 18 18 [14,17] [[52,57]] (mkL [oL g,(12,(.mrow 46 12 ((g.methods.map zG).set k (zG g.methods[k]))))::oL g,(12,(.mrow 46 12 (((g.methods.map zG).set k (zG g.methods[k])).set k (zG g.methods[k]))))::(12,(.mrow 46 12 ((g.methods.map zG).set k (zG g.methods[k]))))::oL g]) (fun _=>oT g) (oT g) none rfl (by kernel_rfl) (by kernel_rfl) (by kernel_rfl) (by kernel_rfl) (by kernel_rfl) (by kernel_rfl) (by kernel_rfl) (fun p hp=>by obtain rfl:p=0:=(by simp at hp;omega);exact ⟨rfl,rfl⟩) rfl (ze0 (i:=12) rfl ⟨tH,tH,tH,trivial⟩) rfl (fun _ _ _ _=>rfl) (fun q h=>by have:q=0∨q=1∨q=2:=(by simp at h;omega);rcases this with rfl|rfl|rfl <;> rfl) tH rfl (fun v hv=>by cases hv) ?_|refine Qr (id:=12) 18 18 [14,17] [[68,73]] (mkL [oR g (((g.methods.map zG).set k (zG g.methods[k])).set k (zG g.methods[k])),(12,(.mrow 46 12 ((((g.methods.map zG).set k (zG g.methods[k])).set k (zG g.methods[k])).set k (zG g.methods[k]))))::oR g (((g.methods.map zG).set k (zG g.methods[k])).set k (zG g.methods[k])),(12,(.mrow 46 12 (((((g.methods.map zG).set k (zG g.methods[k])).set k (zG g.methods[k])).set k (zG g.methods[k])).set k (zG g.methods[k]))))::(12,(.mrow 46 12 ((((g.methods.map zG).set k (zG g.methods[k])).set k (zG g.methods[k])).set k (zG g.methods[k]))))::oR g (((g.methods.map zG).set k (zG g.methods[k])).set k (zG g.methods[k]))]) (fun _=>oT g) (oT g) none rfl (by kernel_rfl) (by kernel_rfl) (by kernel_rfl) (by kernel_rfl) (by kernel_rfl) (by kernel_rfl) (by kernel_rfl) (fun p hp=>by obtain rfl:p=0:=(by simp at hp;omega);exact ⟨rfl,rfl⟩) rfl (ze0 (i:=12) rfl ⟨tH,tH,tH,trivial⟩) rfl (fun _ _ _ _=>rfl) (fun q h=>by have:q=0∨q=1∨q=2:=(by simp at h;omega);rcases this with rfl|rfl|rfl <;> rfl) tH rfl (fun v hv=>by cases hv) ?_|refine zbz 0 1 [8,11] rfl rfl (by kernel_rfl) ?_|refine zbz 0 1 [3,6] rfl rfl (by kernel_rfl) ?_|refine VK 5 [9,12] rfl rfl ?_|refine VK 4 [4,7] rfl rfl ?_|refine VK 3 [0,3] rfl rfl ?_|refine VK 2 [0] rfl rfl ?_|refine Qd [2] (.pv (.tup [])) rfl rfl rfl ?_|refine Qd [] (.pv (.tup [])) rfl rfl rfl ?_|refine Qc ?_|intro _|refine zaS ?_|refine ⟨⟨rfl,ZG (k:=k) (j:=3) zh rfl rfl rfl rfl hpA rfl rfl rfl rfl,.inl rfl⟩,?_⟩|refine ⟨⟨rfl,ZG (k:=k) (j:=8) zh rfl rfl rfl rfl hpB rfl rfl rfl rfl,.inl rfl⟩,?_⟩|refine ⟨⟨rfl,ZG (k:=k) (j:=10) zh rfl rfl rfl rfl hpC rfl rfl rfl rfl,.inl rfl⟩,?_⟩|refine ⟨⟨rfl,ZG (k:=k) (j:=11) zh rfl rfl rfl rfl hpD rfl rfl rfl rfl,.inl rfl⟩,?_⟩|refine sM ?_|refine zu rfl (yj (k:=k) (j:=3) zh rfl rfl rfl rfl hpA rfl) rfl rfl ?_|refine AD.step _ _ _ _ _ rfl (yj (k:=k) (j:=3) zh rfl rfl rfl rfl hpA rfl) rfl rfl ?_|refine zu rfl (yj (k:=k) (j:=8) zh rfl rfl rfl rfl hpA rfl) rfl rfl ?_|refine AD.step _ _ _ _ _ rfl (yj (k:=k) (j:=8) zh rfl rfl rfl rfl hpA rfl) rfl rfl ?_|refine zu rfl (yj (k:=k) (j:=10) zh rfl rfl rfl rfl hpC rfl) rfl rfl ?_|refine AD.step _ _ _ _ _ rfl (yj (k:=k) (j:=10) zh rfl rfl rfl rfl hpC rfl) rfl rfl ?_|refine zu rfl (yj (k:=k) (j:=11) zh rfl rfl rfl rfl hpC rfl) rfl rfl ?_|refine AD.step _ _ _ _ _ rfl (yj (k:=k) (j:=11) zh rfl rfl rfl rfl hpC rfl) rfl rfl ?_|(refine shC ?_;first|refine qC (zbo _ q1) ?_|refine qC (zbo _ q2) ?_|refine qC (ziw _ q3) ?_|refine qC (zko _ q4) ?_)|(refine shX ?_;first|refine zu rfl (zQ (k:=k) zh rfl rfl rfl rfl rfl rfl rfl rfl hkl) rfl rfl ?_|refine AD.step _ _ _ _ _ rfl (zQ (k:=k) zh rfl rfl rfl rfl rfl rfl rfl rfl hkl) rfl rfl ?_)|refine sK ?_|refine sC (fun _=>?_) (fun _=>?_)|fail)
   exact ⟨k + 1,hlt,tD,tS,⟨zn rfl (zn rfl (zn rfl (qO rfl hpE zl))),rfl⟩⟩
  ·repeat' (first|refine zaa 10 rfl ?_|refine zaa 12 rfl ?_|refine sK ?_|refine sC (fun _=>?_) (fun _=>?_)|fail)
   exact retq rfl rfl
end Go.Cg
