/- A part of the walks by abstract values: no statement of its own. -/
import Derived.Test.YtdlokcmodgccnaaGreatU28
import Derived.Test.YtdlokcmodgccnaaGreatU15
set_option linter.unusedVariables false
set_option linter.unusedSimpArgs false
namespace Go.Cg
open Go.Proofs
theorem zjC {a b:List Ty} {k:Nat} (ha:k < a.length) (hb:k < b.length):sameAll (a.drop k) (b.drop k)=(tyB a[k] b[k]&&sameAll (a.drop (k + 1)) (b.drop (k + 1))):=by
 rw [List.drop_eq_getElem_cons ha,List.drop_eq_getElem_cons hb];rfl
theorem zkq {a b:List Ty} {k:Nat} (ha:a.length≤k):sameAll (a.drop k) (b.drop k)=true:=by
 rw [List.drop_eq_nil_of_le ha];rfl
set_option maxHeartbeats 4000000 in
theorem zlx (g:Img) (hF:Fm g) (m:Me) (ar:List Ty) (arg:Int) (t0:Ty) (l:List Ty) (hl:l.length≤100) (hgm:g.methods.length≤1000) (hpe:∀ i:Int,0≤i→i.toNat < g.methods.length→(mAt g i).params.length≤100) (hd:t0.kind=5→t0.dims=0→ZY g t0.index=3→methodsOf g t0.index≠[]):XC 160 [] (⟨g,m,ar,⟨68,arg,t0⟩⟩:RC) (yu g m ⟨68,arg,t0⟩) uV l:=by
 intro u;refine zH zf Tryz.func160 rfl (by kernel_rfl) Tryz.ntmps160 (by simp) _ rfl (fun gB hw1=>?_)
 have ck:=YR g t0.index
 cases hC1:(t0.kind==5)
 ·skip
  have hw:(yu g m ⟨68,arg,t0⟩) l=.error 8:=by simp [yu,zu,zC,hC1,zJ,emptyS]
  repeat' (first|refine qE 1 19 18 rfl rfl (by kernel_rfl) (by kernel_rfl) (by kernel_rfl) (by kernel_rfl) (by kernel_rfl) ?_|refine zA ([]) zh rfl rfl rfl tH (yc (by first|rfl|assumption|simp [hC1]) 8) ?_|refine zx rfl (zk (ps:=(yR t0)) zf rfl rfl rfl rfl rfl) rfl rfl ?_|refine AD.step _ _ _ _ _ rfl (zk (ps:=(yR t0)) zf rfl rfl rfl rfl rfl) rfl rfl ?_|refine zx rfl (zk (ps:=(zZ g)) zf rfl rfl rfl rfl rfl) rfl rfl ?_|refine AD.step _ _ _ _ _ rfl (zk (ps:=(zZ g)) zf rfl rfl rfl rfl rfl) rfl rfl ?_|(refine shC ?_;first|refine qC ck ?_)|refine sK ?_|refine sC (fun _=>?_) (fun _=>?_)|fail)
  exact zB hw
 ·skip
  cases hC2:(t0.dims==0)
  ·skip
   have hw:(yu g m ⟨68,arg,t0⟩) l=.error 8:=by simp [yu,zu,zC,hC1,hC2,zJ,emptyS]
   repeat' (first|refine qE 1 19 18 rfl rfl (by kernel_rfl) (by kernel_rfl) (by kernel_rfl) (by kernel_rfl) (by kernel_rfl) ?_|refine zA ([]) zh rfl rfl rfl tH (yc (by first|rfl|assumption|simp [hC1,hC2]) 8) ?_|refine zx rfl (zk (ps:=(yR t0)) zf rfl rfl rfl rfl rfl) rfl rfl ?_|refine AD.step _ _ _ _ _ rfl (zk (ps:=(yR t0)) zf rfl rfl rfl rfl rfl) rfl rfl ?_|refine zx rfl (zk (ps:=(zZ g)) zf rfl rfl rfl rfl rfl) rfl rfl ?_|refine AD.step _ _ _ _ _ rfl (zk (ps:=(zZ g)) zf rfl rfl rfl rfl rfl) rfl rfl ?_|(refine shC ?_;first|refine qC ck ?_)|refine sK ?_|refine sC (fun _=>?_) (fun _=>?_)|fail)
   exact zB hw
  ·skip
   cases hC3:(ZY g t0.index==3)
   ·skip
    have hw:(yu g m ⟨68,arg,t0⟩) l=.error 8:=by simp [yu,zu,zC,hC1,hC2,hC3,zJ,emptyS]
    repeat' (first|refine qE 1 19 18 rfl rfl (by kernel_rfl) (by kernel_rfl) (by kernel_rfl) (by kernel_rfl) (by kernel_rfl) ?_|refine zA ([]) zh rfl rfl rfl tH (yc (by first|rfl|assumption|simp [hC1,hC2,hC3]) 8) ?_|refine zx rfl (zk (ps:=(yR t0)) zf rfl rfl rfl rfl rfl) rfl rfl ?_|refine AD.step _ _ _ _ _ rfl (zk (ps:=(yR t0)) zf rfl rfl rfl rfl rfl) rfl rfl ?_|refine zx rfl (zk (ps:=(zZ g)) zf rfl rfl rfl rfl rfl) rfl rfl ?_|refine AD.step _ _ _ _ _ rfl (zk (ps:=(zZ g)) zf rfl rfl rfl rfl rfl) rfl rfl ?_|(refine shC ?_;first|refine qC ck ?_)|refine sK ?_|refine sC (fun _=>?_) (fun _=>?_)|fail)
    exact zB hw
   ·skip
    have hne:=hd (by simpa using hC1) (by simpa using hC2) (by simpa using hC3)
    obtain ⟨k0,ks,hms⟩:∃ k0 ks,methodsOf g t0.index=k0::ks:=by cases hm:methodsOf g t0.index with|nil=>exact absurd hm hne|cons a b=>exact ⟨a,b,rfl⟩
    have hk0:=qM (g:=g) (t:=t0.index) (i:=k0) (by rw [hms];simp)
    have cm:=Yu g t0.index (by omega)
    rw [hms] at cm
    have hm0:((k0::ks).map pi)[(0:Int).toNat]?=some (pi k0):=rfl
    have hek:(g.methods.map yB)[k0.toNat]?=some (yB (mAt g k0)):=by rw [mAt,zQ hk0.2];exact yj hk0.2
    obtain ⟨d,hdd⟩:∃ d,mAt g k0=d:=⟨_,rfl⟩
    rw [hdd] at hek
    cases hS8:(YC) l with
    | error e =>
     have hw:(yu g m ⟨68,arg,t0⟩) l=.error e:=by simp [yu,zu,zC,hC1,hC2,hC3,zJ,emptyS,hms,hdd,hS8]
     repeat' (first|refine zl 3 1 rfl rfl rfl ?_|refine zA ((yP u ⟨g,m,ar,⟨68,arg,t0⟩⟩ l)) zh rfl rfl rfl tH ((yh ⟨g,m,ar,⟨68,arg,t0⟩⟩ _ (by omega)).bad hS8 u) ?_|refine zV 19 18 rfl (by kernel_rfl) (by kernel_rfl) (by kernel_rfl) (by kernel_rfl) (by kernel_rfl) ?_|refine zN 2 16 17 1 15 zf (by kernel_rfl) (by kernel_rfl) rfl rfl rfl rfl rfl rfl rfl rfl rfl rfl rfl rfl rfl rfl rfl rfl rfl rfl rfl rfl rfl rfl ?_|refine yg rfl rfl ?_|refine ⟨_,_,rfl,rfl,?_⟩|refine zx rfl (zk (ps:=(yR t0)) zf rfl rfl rfl rfl rfl) rfl rfl ?_|refine AD.step _ _ _ _ _ rfl (zk (ps:=(yR t0)) zf rfl rfl rfl rfl rfl) rfl rfl ?_|refine zx rfl (zk (ps:=(zZ g)) zf rfl rfl rfl rfl rfl) rfl rfl ?_|refine AD.step _ _ _ _ _ rfl (zk (ps:=(zZ g)) zf rfl rfl rfl rfl rfl) rfl rfl ?_|(refine shC ?_;first|refine zx rfl (zI rfl rfl (zF (by first|rfl|assumption|simp [hC1,hC2,hC3]) 8)) rfl rfl ?_|refine AD.step _ _ _ _ _ rfl (zI rfl rfl (zF (by first|rfl|assumption|simp [hC1,hC2,hC3]) 8)) rfl rfl ?_|refine qC cm ?_|refine qC ck ?_)|(refine shX ?_;first|refine zx rfl (zq zf rfl rfl rfl rfl rfl rfl (by decide) hm0) rfl rfl ?_|refine AD.step _ _ _ _ _ rfl (zq zf rfl rfl rfl rfl rfl rfl (by decide) hm0) rfl rfl ?_|refine zx rfl (zq zf rfl rfl rfl rfl rfl rfl hk0.1 hek) rfl rfl ?_|refine AD.step _ _ _ _ _ rfl (zq zf rfl rfl rfl rfl rfl rfl hk0.1 hek) rfl rfl ?_)|refine sK ?_|refine sC (fun _=>?_) (fun _=>?_)|fail)
     exact zB hw
    | ok p =>
     obtain ⟨f,l8⟩:=p
     have hl8:l8.length≤100:=by have:=QU hS8;omega
     cases hS9:(YC) l8 with
     | error e =>
      have hw:(yu g m ⟨68,arg,t0⟩) l=.error e:=by simp [yu,zu,zC,hC1,hC2,hC3,zJ,emptyS,hms,hdd,hS8,hS9]
      repeat' (first|refine zl 3 3 rfl rfl rfl ?_|refine zA ((yP u ⟨g,m,ar,⟨68,arg,t0⟩⟩ l8)) zh rfl rfl rfl tH ((yh ⟨g,m,ar,⟨68,arg,t0⟩⟩ _ (by omega)).bad hS9 u) ?_|refine zV 19 18 rfl (by kernel_rfl) (by kernel_rfl) (by kernel_rfl) (by kernel_rfl) (by kernel_rfl) ?_|refine zN 2 16 17 1 15 zf (by kernel_rfl) (by kernel_rfl) rfl rfl rfl rfl rfl rfl rfl rfl rfl rfl rfl rfl rfl rfl rfl rfl rfl rfl rfl rfl rfl rfl ?_|refine yg rfl rfl ?_|refine ⟨_,_,rfl,rfl,?_⟩|refine zx rfl (zk (ps:=(yR t0)) zf rfl rfl rfl rfl rfl) rfl rfl ?_|refine AD.step _ _ _ _ _ rfl (zk (ps:=(yR t0)) zf rfl rfl rfl rfl rfl) rfl rfl ?_|refine zx rfl (zk (ps:=(zZ g)) zf rfl rfl rfl rfl rfl) rfl rfl ?_|refine AD.step _ _ _ _ _ rfl (zk (ps:=(zZ g)) zf rfl rfl rfl rfl rfl) rfl rfl ?_|(refine shC ?_;first|refine zx rfl (zI rfl rfl (zF (by first|rfl|assumption|simp [hC1,hC2,hC3]) 8)) rfl rfl ?_|refine AD.step _ _ _ _ _ rfl (zI rfl rfl (zF (by first|rfl|assumption|simp [hC1,hC2,hC3]) 8)) rfl rfl ?_|refine qC cm ?_|refine qC ck ?_)|(refine shX ?_;first|refine zx rfl (zq zf rfl rfl rfl rfl rfl rfl (by decide) hm0) rfl rfl ?_|refine AD.step _ _ _ _ _ rfl (zq zf rfl rfl rfl rfl rfl rfl (by decide) hm0) rfl rfl ?_|refine zx rfl (zq zf rfl rfl rfl rfl rfl rfl hk0.1 hek) rfl rfl ?_|refine AD.step _ _ _ _ _ rfl (zq zf rfl rfl rfl rfl rfl rfl hk0.1 hek) rfl rfl ?_)|(refine zn ?_;first|(refine zo 0 zh rfl rfl ((yh ⟨g,m,ar,⟨68,arg,t0⟩⟩ _ (by omega)).ok hS8) rfl rfl rfl rfl rfl ?_))|refine sK ?_|refine sC (fun _=>?_) (fun _=>?_)|fail)
      exact zB hw
     | ok p =>
      obtain ⟨ob,l9⟩:=p
      have hl9:l9.length≤100:=by have:=QU hS9;omega
      cases hC10:(tyB f ⟨9,f.index,0,false⟩)
      ·skip
       have hT:(f.kind==9&&(f.index==f.index&&(f.dims==0&&(f.ref==false&&true))))=false:=hC10
       have hw:(yu g m ⟨68,arg,t0⟩) l=.error 10:=by simp [yu,zu,zC,hC1,hC2,hC3,zJ,emptyS,hms,hdd,hS8,hS9,hC10,zJ,emptyS]
       repeat' (first|refine qE 4 22 21 rfl rfl (by kernel_rfl) (by kernel_rfl) (by kernel_rfl) (by kernel_rfl) (by kernel_rfl) ?_|refine zA ([]) zh rfl rfl rfl tH (yc (by first|rfl|assumption|simp [hC1,hC2,hC3,hC10]) 10) ?_|refine zV 19 18 rfl (by kernel_rfl) (by kernel_rfl) (by kernel_rfl) (by kernel_rfl) (by kernel_rfl) ?_|refine zN 2 16 17 1 15 zf (by kernel_rfl) (by kernel_rfl) rfl rfl rfl rfl rfl rfl rfl rfl rfl rfl rfl rfl rfl rfl rfl rfl rfl rfl rfl rfl rfl rfl ?_|refine yg rfl rfl ?_|refine ⟨_,_,rfl,rfl,?_⟩|refine zx rfl (zk (ps:=(yR t0)) zf rfl rfl rfl rfl rfl) rfl rfl ?_|refine AD.step _ _ _ _ _ rfl (zk (ps:=(yR t0)) zf rfl rfl rfl rfl rfl) rfl rfl ?_|refine zx rfl (zk (ps:=(zZ g)) zf rfl rfl rfl rfl rfl) rfl rfl ?_|refine AD.step _ _ _ _ _ rfl (zk (ps:=(zZ g)) zf rfl rfl rfl rfl rfl) rfl rfl ?_|(refine shC ?_;first|refine zx rfl (zI rfl rfl (zF (by first|rfl|assumption|simp [hC1,hC2,hC3]) 8)) rfl rfl ?_|refine AD.step _ _ _ _ _ rfl (zI rfl rfl (zF (by first|rfl|assumption|simp [hC1,hC2,hC3]) 8)) rfl rfl ?_|refine qC cm ?_|refine qC ck ?_)|(refine shX ?_;first|refine zx rfl (zq zf rfl rfl rfl rfl rfl rfl (by decide) hm0) rfl rfl ?_|refine AD.step _ _ _ _ _ rfl (zq zf rfl rfl rfl rfl rfl rfl (by decide) hm0) rfl rfl ?_|refine zx rfl (zq zf rfl rfl rfl rfl rfl rfl hk0.1 hek) rfl rfl ?_|refine AD.step _ _ _ _ _ rfl (zq zf rfl rfl rfl rfl rfl rfl hk0.1 hek) rfl rfl ?_)|(refine zn ?_;first|(refine zo 0 zh rfl rfl ((yh ⟨g,m,ar,⟨68,arg,t0⟩⟩ _ (by omega)).ok hS8) rfl rfl rfl rfl rfl ?_)|(refine zo 0 zh rfl rfl ((yh ⟨g,m,ar,⟨68,arg,t0⟩⟩ _ (by omega)).ok hS9) rfl rfl rfl rfl rfl ?_))|refine sK ?_|refine sC (fun _=>?_) (fun _=>?_)|fail)
       exact zB hw
      ·skip
       have hT:(f.kind==9&&(f.index==f.index&&(f.dims==0&&(f.ref==false&&true))))=true:=hC10
       cases hC11:(decide (0≤f.index))
       ·skip
        have hP:=hC11
        simp only [decide_eq_true_eq,decide_eq_false_iff_not] at hP
        have hw:(yu g m ⟨68,arg,t0⟩) l=.error 10:=by simp [yu,zu,zC,hC1,hC2,hC3,zJ,emptyS,hms,hdd,hS8,hS9,hC10,hC11,zJ,emptyS]
        repeat' (first|refine qE 4 22 21 rfl rfl (by kernel_rfl) (by kernel_rfl) (by kernel_rfl) (by kernel_rfl) (by kernel_rfl) ?_|refine zA ([]) zh rfl rfl rfl tH (yc (by first|rfl|assumption|simp [hC1,hC2,hC3,hC10,hC11]) 10) ?_|refine zV 19 18 rfl (by kernel_rfl) (by kernel_rfl) (by kernel_rfl) (by kernel_rfl) (by kernel_rfl) ?_|refine zN 2 16 17 1 15 zf (by kernel_rfl) (by kernel_rfl) rfl rfl rfl rfl rfl rfl rfl rfl rfl rfl rfl rfl rfl rfl rfl rfl rfl rfl rfl rfl rfl rfl ?_|refine yg rfl rfl ?_|refine ⟨_,_,rfl,rfl,?_⟩|refine zx rfl (zk (ps:=(yR t0)) zf rfl rfl rfl rfl rfl) rfl rfl ?_|refine AD.step _ _ _ _ _ rfl (zk (ps:=(yR t0)) zf rfl rfl rfl rfl rfl) rfl rfl ?_|refine zx rfl (zk (ps:=(zZ g)) zf rfl rfl rfl rfl rfl) rfl rfl ?_|refine AD.step _ _ _ _ _ rfl (zk (ps:=(zZ g)) zf rfl rfl rfl rfl rfl) rfl rfl ?_|(refine shC ?_;first|refine zx rfl (zI rfl rfl (zF (by first|rfl|assumption|simp [hC1,hC2,hC3]) 8)) rfl rfl ?_|refine AD.step _ _ _ _ _ rfl (zI rfl rfl (zF (by first|rfl|assumption|simp [hC1,hC2,hC3]) 8)) rfl rfl ?_|refine qC cm ?_|refine qC ck ?_)|(refine shX ?_;first|refine zx rfl (zq zf rfl rfl rfl rfl rfl rfl (by decide) hm0) rfl rfl ?_|refine AD.step _ _ _ _ _ rfl (zq zf rfl rfl rfl rfl rfl rfl (by decide) hm0) rfl rfl ?_|refine zx rfl (zq zf rfl rfl rfl rfl rfl rfl hk0.1 hek) rfl rfl ?_|refine AD.step _ _ _ _ _ rfl (zq zf rfl rfl rfl rfl rfl rfl hk0.1 hek) rfl rfl ?_)|(refine zn ?_;first|(refine zo 0 zh rfl rfl ((yh ⟨g,m,ar,⟨68,arg,t0⟩⟩ _ (by omega)).ok hS8) rfl rfl rfl rfl rfl ?_)|(refine zo 0 zh rfl rfl ((yh ⟨g,m,ar,⟨68,arg,t0⟩⟩ _ (by omega)).ok hS9) rfl rfl rfl rfl rfl ?_))|refine sK ?_|refine sC (fun _=>?_) (fun _=>?_)|fail)
        exact zB hw
       ·skip
        have hP:=hC11
        simp only [decide_eq_true_eq,decide_eq_false_iff_not] at hP
        cases hC12:(decide (f.index < g.methods.length))
        ·skip
         have hP:=hC12
         simp only [decide_eq_true_eq,decide_eq_false_iff_not] at hP
         have hw:(yu g m ⟨68,arg,t0⟩) l=.error 10:=by simp [yu,zu,zC,hC1,hC2,hC3,zJ,emptyS,hms,hdd,hS8,hS9,hC10,hC11,hC12,zJ,emptyS]
         repeat' (first|refine qE 4 22 21 rfl rfl (by kernel_rfl) (by kernel_rfl) (by kernel_rfl) (by kernel_rfl) (by kernel_rfl) ?_|refine zA ([]) zh rfl rfl rfl tH (yc (by first|rfl|assumption|simp [hC1,hC2,hC3,hC10,hC11,hC12]) 10) ?_|refine zV 19 18 rfl (by kernel_rfl) (by kernel_rfl) (by kernel_rfl) (by kernel_rfl) (by kernel_rfl) ?_|refine zN 2 16 17 1 15 zf (by kernel_rfl) (by kernel_rfl) rfl rfl rfl rfl rfl rfl rfl rfl rfl rfl rfl rfl rfl rfl rfl rfl rfl rfl rfl rfl rfl rfl ?_|refine yg rfl rfl ?_|refine ⟨_,_,rfl,rfl,?_⟩|refine zx rfl (zk (ps:=(yR t0)) zf rfl rfl rfl rfl rfl) rfl rfl ?_|refine AD.step _ _ _ _ _ rfl (zk (ps:=(yR t0)) zf rfl rfl rfl rfl rfl) rfl rfl ?_|refine zx rfl (zk (ps:=(zZ g)) zf rfl rfl rfl rfl rfl) rfl rfl ?_|refine AD.step _ _ _ _ _ rfl (zk (ps:=(zZ g)) zf rfl rfl rfl rfl rfl) rfl rfl ?_|(refine shC ?_;first|refine zx rfl (zI rfl rfl (zF (by first|rfl|assumption|simp [hC1,hC2,hC3]) 8)) rfl rfl ?_|refine AD.step _ _ _ _ _ rfl (zI rfl rfl (zF (by first|rfl|assumption|simp [hC1,hC2,hC3]) 8)) rfl rfl ?_|refine qC cm ?_|refine qC ck ?_)|(refine shX ?_;first|refine zx rfl (zq zf rfl rfl rfl rfl rfl rfl (by decide) hm0) rfl rfl ?_|refine AD.step _ _ _ _ _ rfl (zq zf rfl rfl rfl rfl rfl rfl (by decide) hm0) rfl rfl ?_|refine zx rfl (zq zf rfl rfl rfl rfl rfl rfl hk0.1 hek) rfl rfl ?_|refine AD.step _ _ _ _ _ rfl (zq zf rfl rfl rfl rfl rfl rfl hk0.1 hek) rfl rfl ?_)|(refine zn ?_;first|(refine zo 0 zh rfl rfl ((yh ⟨g,m,ar,⟨68,arg,t0⟩⟩ _ (by omega)).ok hS8) rfl rfl rfl rfl rfl ?_)|(refine zo 0 zh rfl rfl ((yh ⟨g,m,ar,⟨68,arg,t0⟩⟩ _ (by omega)).ok hS9) rfl rfl rfl rfl rfl ?_))|refine sK ?_|refine sC (fun _=>?_) (fun _=>?_)|fail)
         exact zB hw
        ·skip
         have hP:=hC12
         simp only [decide_eq_true_eq,decide_eq_false_iff_not] at hP
         have hf0:0≤f.index:=by assumption
         have hfl:f.index.toNat < g.methods.length:=by omega
         have hfe:(g.methods.map yB)[f.index.toNat]?=some (yB (mAt g f.index)):=by rw [mAt,zQ hfl];exact yj hfl
         obtain ⟨e,hee⟩:∃ e,mAt g f.index=e:=⟨_,rfl⟩
         have hpl:e.params.length≤100:=hee ▸ hpe f.index hf0 hfl
         rw [hee] at hfe
         cases hC17:(tyB e.ret d.ret)
         ·skip
          have hR:(e.ret.kind==d.ret.kind&&(e.ret.index==d.ret.index&&(e.ret.dims==d.ret.dims&&(e.ret.ref==d.ret.ref&&true))))=false:=hC17
          have hw:(yu g m ⟨68,arg,t0⟩) l=.error 10:=by simp [yu,zu,zC,hC1,hC2,hC3,zJ,emptyS,hms,hdd,hS8,hS9,hC10,hC11,hC12,zJ,emptyS,hee,hC17,zJ,emptyS]
          repeat' (first|refine zl 6 14 rfl rfl rfl ?_|refine zA ([]) zh rfl rfl rfl tH (yc (by first|rfl|assumption|simp [hC1,hC2,hC3,hC10,hC11,hC12,hC17]) 10) ?_|refine zV 19 18 rfl (by kernel_rfl) (by kernel_rfl) (by kernel_rfl) (by kernel_rfl) (by kernel_rfl) ?_|refine zN 2 16 17 1 15 zf (by kernel_rfl) (by kernel_rfl) rfl rfl rfl rfl rfl rfl rfl rfl rfl rfl rfl rfl rfl rfl rfl rfl rfl rfl rfl rfl rfl rfl ?_|refine yg rfl rfl ?_|refine ⟨_,_,rfl,rfl,?_⟩|refine zV 22 21 rfl (by kernel_rfl) (by kernel_rfl) (by kernel_rfl) (by kernel_rfl) (by kernel_rfl) ?_|refine zN 5 9 10 1 8 zf (by kernel_rfl) (by kernel_rfl) rfl rfl rfl rfl rfl rfl rfl rfl rfl rfl rfl rfl rfl rfl rfl rfl rfl rfl rfl rfl rfl rfl ?_|refine yg rfl rfl ?_|refine ⟨_,_,rfl,rfl,?_⟩|refine zx rfl (zk (ps:=(yR t0)) zf rfl rfl rfl rfl rfl) rfl rfl ?_|refine AD.step _ _ _ _ _ rfl (zk (ps:=(yR t0)) zf rfl rfl rfl rfl rfl) rfl rfl ?_|refine zx rfl (zk (ps:=(zZ g)) zf rfl rfl rfl rfl rfl) rfl rfl ?_|refine AD.step _ _ _ _ _ rfl (zk (ps:=(zZ g)) zf rfl rfl rfl rfl rfl) rfl rfl ?_|(refine shC ?_;first|refine zx rfl (zI rfl rfl (zF (by first|rfl|assumption|simp [hC1,hC2,hC3]) 8)) rfl rfl ?_|refine AD.step _ _ _ _ _ rfl (zI rfl rfl (zF (by first|rfl|assumption|simp [hC1,hC2,hC3]) 8)) rfl rfl ?_|refine qC cm ?_|refine zx rfl (zI rfl rfl (zF (by first|rfl|assumption|simp [hC1,hC2,hC3,hC10,hC11,hC12]) 10)) rfl rfl ?_|refine AD.step _ _ _ _ _ rfl (zI rfl rfl (zF (by first|rfl|assumption|simp [hC1,hC2,hC3,hC10,hC11,hC12]) 10)) rfl rfl ?_|refine qC ck ?_)|(refine shX ?_;first|refine zx rfl (zq zf rfl rfl rfl rfl rfl rfl (by decide) hm0) rfl rfl ?_|refine AD.step _ _ _ _ _ rfl (zq zf rfl rfl rfl rfl rfl rfl (by decide) hm0) rfl rfl ?_|refine zx rfl (zq zf rfl rfl rfl rfl rfl rfl hk0.1 hek) rfl rfl ?_|refine AD.step _ _ _ _ _ rfl (zq zf rfl rfl rfl rfl rfl rfl hk0.1 hek) rfl rfl ?_|refine zx rfl (zq zf rfl rfl rfl rfl rfl rfl hf0 hfe) rfl rfl ?_|refine AD.step _ _ _ _ _ rfl (zq zf rfl rfl rfl rfl rfl rfl hf0 hfe) rfl rfl ?_)|(refine zn ?_;first|(refine zo 0 zh rfl rfl ((yh ⟨g,m,ar,⟨68,arg,t0⟩⟩ _ (by omega)).ok hS8) rfl rfl rfl rfl rfl ?_)|(refine zo 0 zh rfl rfl ((yh ⟨g,m,ar,⟨68,arg,t0⟩⟩ _ (by omega)).ok hS9) rfl rfl rfl rfl rfl ?_))|refine sK ?_|refine sC (fun _=>?_) (fun _=>?_)|fail)
          exact zB hw
         ·skip
          have hR:(e.ret.kind==d.ret.kind&&(e.ret.index==d.ret.index&&(e.ret.dims==d.ret.dims&&(e.ret.ref==d.ret.ref&&true))))=true:=hC17
          cases hC18:(e.params.length==d.params.length)
          ·skip
           have hL:((((e.params.map yM).length:Nat):Int)==(((d.params.map yM).length:Nat):Int))=false:=by rw [←hC18,Bool.eq_iff_iff];simp only [List.length_map,beq_iff_eq];omega
           have hw:(yu g m ⟨68,arg,t0⟩) l=.error 10:=by simp [yu,zu,zC,hC1,hC2,hC3,zJ,emptyS,hms,hdd,hS8,hS9,hC10,hC11,hC12,zJ,emptyS,hee,hC17,hC18,zJ,emptyS]
           repeat' (first|refine zl 6 14 rfl rfl rfl ?_|refine zA ([]) zh rfl rfl rfl tH (yc (by first|rfl|assumption|simp [hC1,hC2,hC3,hC10,hC11,hC12,hC17,hC18]) 10) ?_|refine zV 19 18 rfl (by kernel_rfl) (by kernel_rfl) (by kernel_rfl) (by kernel_rfl) (by kernel_rfl) ?_|refine zN 2 16 17 1 15 zf (by kernel_rfl) (by kernel_rfl) rfl rfl rfl rfl rfl rfl rfl rfl rfl rfl rfl rfl rfl rfl rfl rfl rfl rfl rfl rfl rfl rfl ?_|refine yg rfl rfl ?_|refine ⟨_,_,rfl,rfl,?_⟩|refine zV 22 21 rfl (by kernel_rfl) (by kernel_rfl) (by kernel_rfl) (by kernel_rfl) (by kernel_rfl) ?_|refine zN 5 9 10 1 8 zf (by kernel_rfl) (by kernel_rfl) rfl rfl rfl rfl rfl rfl rfl rfl rfl rfl rfl rfl rfl rfl rfl rfl rfl rfl rfl rfl rfl rfl ?_|refine yg rfl rfl ?_|refine ⟨_,_,rfl,rfl,?_⟩|refine zx rfl (zk (ps:=(yR t0)) zf rfl rfl rfl rfl rfl) rfl rfl ?_|refine AD.step _ _ _ _ _ rfl (zk (ps:=(yR t0)) zf rfl rfl rfl rfl rfl) rfl rfl ?_|refine zx rfl (zk (ps:=(zZ g)) zf rfl rfl rfl rfl rfl) rfl rfl ?_|refine AD.step _ _ _ _ _ rfl (zk (ps:=(zZ g)) zf rfl rfl rfl rfl rfl) rfl rfl ?_|(refine shC ?_;first|refine zx rfl (zI rfl rfl (zF (by first|rfl|assumption|simp [hC1,hC2,hC3]) 8)) rfl rfl ?_|refine AD.step _ _ _ _ _ rfl (zI rfl rfl (zF (by first|rfl|assumption|simp [hC1,hC2,hC3]) 8)) rfl rfl ?_|refine qC cm ?_|refine zx rfl (zI rfl rfl (zF (by first|rfl|assumption|simp [hC1,hC2,hC3,hC10,hC11,hC12]) 10)) rfl rfl ?_|refine AD.step _ _ _ _ _ rfl (zI rfl rfl (zF (by first|rfl|assumption|simp [hC1,hC2,hC3,hC10,hC11,hC12]) 10)) rfl rfl ?_|refine qC ck ?_)|(refine shX ?_;first|refine zx rfl (zq zf rfl rfl rfl rfl rfl rfl (by decide) hm0) rfl rfl ?_|refine AD.step _ _ _ _ _ rfl (zq zf rfl rfl rfl rfl rfl rfl (by decide) hm0) rfl rfl ?_|refine zx rfl (zq zf rfl rfl rfl rfl rfl rfl hk0.1 hek) rfl rfl ?_|refine AD.step _ _ _ _ _ rfl (zq zf rfl rfl rfl rfl rfl rfl hk0.1 hek) rfl rfl ?_|refine zx rfl (zq zf rfl rfl rfl rfl rfl rfl hf0 hfe) rfl rfl ?_|refine AD.step _ _ _ _ _ rfl (zq zf rfl rfl rfl rfl rfl rfl hf0 hfe) rfl rfl ?_)|(refine zn ?_;first|(refine zo 0 zh rfl rfl ((yh ⟨g,m,ar,⟨68,arg,t0⟩⟩ _ (by omega)).ok hS8) rfl rfl rfl rfl rfl ?_)|(refine zo 0 zh rfl rfl ((yh ⟨g,m,ar,⟨68,arg,t0⟩⟩ _ (by omega)).ok hS9) rfl rfl rfl rfl rfl ?_))|refine sK ?_|refine sC (fun _=>?_) (fun _=>?_)|fail)
           exact zB hw
          ·skip
           have hL:((((e.params.map yM).length:Nat):Int)==(((d.params.map yM).length:Nat):Int))=true:=by rw [←hC18,Bool.eq_iff_iff];simp only [List.length_map,beq_iff_eq];omega
           have hlen:e.params.length=d.params.length:=by simpa using (by assumption:(e.params.length==d.params.length)=true)
           repeat' (first|refine zV 19 18 rfl (by kernel_rfl) (by kernel_rfl) (by kernel_rfl) (by kernel_rfl) (by kernel_rfl) ?_|refine zN 2 16 17 1 15 zf (by kernel_rfl) (by kernel_rfl) rfl rfl rfl rfl rfl rfl rfl rfl rfl rfl rfl rfl rfl rfl rfl rfl rfl rfl rfl rfl rfl rfl ?_|refine yg rfl rfl ?_|refine ⟨_,_,rfl,rfl,?_⟩|refine zV 22 21 rfl (by kernel_rfl) (by kernel_rfl) (by kernel_rfl) (by kernel_rfl) (by kernel_rfl) ?_|refine zN 5 9 10 1 8 zf (by kernel_rfl) (by kernel_rfl) rfl rfl rfl rfl rfl rfl rfl rfl rfl rfl rfl rfl rfl rfl rfl rfl rfl rfl rfl rfl rfl rfl ?_|refine yg rfl rfl ?_|refine ⟨_,_,rfl,rfl,?_⟩|refine zx rfl (zk (ps:=(yR t0)) zf rfl rfl rfl rfl rfl) rfl rfl ?_|refine AD.step _ _ _ _ _ rfl (zk (ps:=(yR t0)) zf rfl rfl rfl rfl rfl) rfl rfl ?_|refine zx rfl (zk (ps:=(zZ g)) zf rfl rfl rfl rfl rfl) rfl rfl ?_|refine AD.step _ _ _ _ _ rfl (zk (ps:=(zZ g)) zf rfl rfl rfl rfl rfl) rfl rfl ?_|(refine shC ?_;first|refine zx rfl (zI rfl rfl (zF (by first|rfl|assumption|simp [hC1,hC2,hC3]) 8)) rfl rfl ?_|refine AD.step _ _ _ _ _ rfl (zI rfl rfl (zF (by first|rfl|assumption|simp [hC1,hC2,hC3]) 8)) rfl rfl ?_|refine qC cm ?_|refine zx rfl (zI rfl rfl (zF (by first|rfl|assumption|simp [hC1,hC2,hC3,hC10,hC11,hC12]) 10)) rfl rfl ?_|refine AD.step _ _ _ _ _ rfl (zI rfl rfl (zF (by first|rfl|assumption|simp [hC1,hC2,hC3,hC10,hC11,hC12]) 10)) rfl rfl ?_|refine zx rfl (zI rfl rfl (zF (by first|rfl|assumption|simp [hC1,hC2,hC3,hC10,hC11,hC12,hC17,hC18]) 10)) rfl rfl ?_|refine AD.step _ _ _ _ _ rfl (zI rfl rfl (zF (by first|rfl|assumption|simp [hC1,hC2,hC3,hC10,hC11,hC12,hC17,hC18]) 10)) rfl rfl ?_|refine qC ck ?_)|(refine shX ?_;first|refine zx rfl (zq zf rfl rfl rfl rfl rfl rfl (by decide) hm0) rfl rfl ?_|refine AD.step _ _ _ _ _ rfl (zq zf rfl rfl rfl rfl rfl rfl (by decide) hm0) rfl rfl ?_|refine zx rfl (zq zf rfl rfl rfl rfl rfl rfl hk0.1 hek) rfl rfl ?_|refine AD.step _ _ _ _ _ rfl (zq zf rfl rfl rfl rfl rfl rfl hk0.1 hek) rfl rfl ?_|refine zx rfl (zq zf rfl rfl rfl rfl rfl rfl hf0 hfe) rfl rfl ?_|refine AD.step _ _ _ _ _ rfl (zq zf rfl rfl rfl rfl rfl rfl hf0 hfe) rfl rfl ?_)|(refine zn ?_;first|(refine zo 0 zh rfl rfl ((yh ⟨g,m,ar,⟨68,arg,t0⟩⟩ _ (by omega)).ok hS8) rfl rfl rfl rfl rfl ?_)|(refine zo 0 zh rfl rfl ((yh ⟨g,m,ar,⟨68,arg,t0⟩⟩ _ (by omega)).ok hS9) rfl rfl rfl rfl rfl ?_))|refine sK ?_|refine sC (fun _=>?_) (fun _=>?_)|fail)
           refine zW (fun k:Nat=>[(0,.box 0 0),(2,.box 1 0),(3,.box 2 0),(4,.box 3 0),(5,.box 4 0),(6,.box 5 0),(102,.pv (pi e.params.length)),(103,.pv (pi k))]) (fun _=>[(0,Xg ⟨g,m,ar,⟨68,arg,t0⟩⟩ l9),(1,.cell (.pv (yM t0))),(2,.cell (.pv (yB d))),(3,.cell (.pv (yM f))),(4,.cell (.pv (yM ob))),(5,.cell (.pv (yB e))),(1000,.pin (.own 0) u)]) (fun k=>k≤e.params.length∧sameAll e.params d.params=sameAll (e.params.drop k) (d.params.drop k)) (fun k=>e.params.length - k) 0 ⟨by omega,rfl⟩ (by repeat (first|exact yZ|refine yS rfl ?_|(refine Zn rfl ?_ ?_;· (simp)))) tH ?_
           rintro k ⟨hk,hr⟩
           by_cases hlt:k < e.params.length
           ·have hlt2:k < d.params.length:=by omega
            have he1:=yj (f:=yM) hlt
            have he2:=yj (f:=yM) hlt2
            rw [zjC hlt hlt2] at hr
            cases hb:tyB e.params[k] d.params[k]
            ·rw [hb,Bool.false_and] at hr
             have hw:(yu g m ⟨68,arg,t0⟩) l=.error 10:=by simp [yu,zu,zC,hC1,hC2,hC3,zJ,emptyS,hms,hdd,hS8,hS9,hC10,hC11,hC12,zJ,emptyS,hee,hC17,hC18,zJ,emptyS,hr]
             repeat' (first|refine qE 10 12 11 rfl rfl (by kernel_rfl) (by kernel_rfl) (by kernel_rfl) (by kernel_rfl) (by kernel_rfl) ?_|refine zA ([]) zh rfl rfl rfl tH (yc hb 10) ?_|(refine shX ?_;first|refine qX he1 ?_|refine qX he2 ?_)|refine sK ?_|refine sC (fun _=>?_) (fun _=>?_)|fail)
             exact zB hw
            ·rw [hb,Bool.true_and] at hr
             repeat' (first|refine zV 12 11 rfl (by kernel_rfl) (by kernel_rfl) (by kernel_rfl) (by kernel_rfl) (by kernel_rfl) ?_|(refine shC ?_;first|refine qC (zF hb 10) ?_)|(refine shX ?_;first|refine qX he1 ?_|refine qX he2 ?_)|refine sK ?_|refine sC (fun _=>?_) (fun _=>?_)|fail)
             exact ⟨k + 1,⟨hlt,hr⟩,tD,tS,tH⟩
           ·rw [zkq (by omega)] at hr
            have cT:=ziF g e
            have cfo:=QY g ob (WW (ZY g e.owner) (qJ e.flags 1) e.owner).1 hF
            obtain ⟨th,hth⟩:∃ th,WW (ZY g e.owner) (qJ e.flags 1) e.owner=th:=⟨_,rfl⟩
            rw [hth] at cT cfo
            obtain ⟨ty,isT⟩:=th
            have cp:=zO ⟨g,m,ar,⟨68,arg,t0⟩⟩ [t0] l9 (by omega) (by simp)
            cases isT
            ·cases hn:tyB ob (kTy 8)
             ·have hw:(yu g m ⟨68,arg,t0⟩) l=.error 10:=by simp [yu,zu,zC,hC1,hC2,hC3,zJ,emptyS,hms,hdd,hS8,hS9,hC10,hC11,hC12,zJ,emptyS,hee,hC17,hC18,zJ,emptyS,hr,hth,hn]
              repeat' (first|refine zN 6 9 10 1 7 zf (by kernel_rfl) (by kernel_rfl) rfl rfl rfl rfl rfl rfl rfl rfl rfl rfl rfl rfl rfl rfl rfl rfl rfl rfl rfl rfl rfl rfl ?_|refine yg rfl rfl ?_|refine ⟨_,_,rfl,rfl,?_⟩|refine zx rfl (zk (ps:=(zZ g)) zf rfl rfl rfl rfl rfl) rfl rfl ?_|refine AD.step _ _ _ _ _ rfl (zk (ps:=(zZ g)) zf rfl rfl rfl rfl rfl) rfl rfl ?_|refine qE 15 4 3 rfl rfl (by kernel_rfl) (by kernel_rfl) (by kernel_rfl) (by kernel_rfl) (by kernel_rfl) ?_|refine zA ([]) zh rfl rfl rfl tH (yc hn 10) ?_|(refine shC ?_;first|refine qC cT ?_|refine qC (zM 8) ?_)|refine sK ?_|refine sC (fun _=>?_) (fun _=>?_)|fail)
              exact zB hw
             ·cases hp:(yV m.max [t0]) l9 with
              | error er =>
               have hw:(yu g m ⟨68,arg,t0⟩) l=.error er:=by simp [yu,zu,zC,hC1,hC2,hC3,zJ,emptyS,hms,hdd,hS8,hS9,hC10,hC11,hC12,zJ,emptyS,hee,hC17,hC18,zJ,emptyS,hr,hth,hn,hp]
               repeat' (first|refine zl 16 3 rfl rfl rfl ?_|refine zA ((yP u ⟨g,m,ar,⟨68,arg,t0⟩⟩ l9)) zh rfl rfl rfl tH (cp.bad hp u) ?_|refine zN 6 9 10 1 7 zf (by kernel_rfl) (by kernel_rfl) rfl rfl rfl rfl rfl rfl rfl rfl rfl rfl rfl rfl rfl rfl rfl rfl rfl rfl rfl rfl rfl rfl ?_|refine yg rfl rfl ?_|refine ⟨_,_,rfl,rfl,?_⟩|refine zx rfl (zk (ps:=(zZ g)) zf rfl rfl rfl rfl rfl) rfl rfl ?_|refine AD.step _ _ _ _ _ rfl (zk (ps:=(zZ g)) zf rfl rfl rfl rfl rfl) rfl rfl ?_|refine zV 4 3 rfl (by kernel_rfl) (by kernel_rfl) (by kernel_rfl) (by kernel_rfl) (by kernel_rfl) ?_|(refine shC ?_;first|refine qC cT ?_|refine qC (zM 8) ?_|refine qC (zF hn 10) ?_)|refine sK ?_|refine sC (fun _=>?_) (fun _=>?_)|fail)
               exact zB hw
              | ok p =>
               obtain ⟨⟨⟩,lz⟩:=p
               have hw:(yu g m ⟨68,arg,t0⟩) l=.ok ((),lz):=by simp [yu,zu,zC,hC1,hC2,hC3,zJ,emptyS,hms,hdd,hS8,hS9,hC10,hC11,hC12,zJ,emptyS,hee,hC17,hC18,zJ,emptyS,hr,hth,hn,hp]
               repeat' (first|refine zN 6 9 10 1 7 zf (by kernel_rfl) (by kernel_rfl) rfl rfl rfl rfl rfl rfl rfl rfl rfl rfl rfl rfl rfl rfl rfl rfl rfl rfl rfl rfl rfl rfl ?_|refine yg rfl rfl ?_|refine ⟨_,_,rfl,rfl,?_⟩|refine zx rfl (zk (ps:=(zZ g)) zf rfl rfl rfl rfl rfl) rfl rfl ?_|refine AD.step _ _ _ _ _ rfl (zk (ps:=(zZ g)) zf rfl rfl rfl rfl rfl) rfl rfl ?_|refine zV 4 3 rfl (by kernel_rfl) (by kernel_rfl) (by kernel_rfl) (by kernel_rfl) (by kernel_rfl) ?_|(refine shC ?_;first|refine qC cT ?_|refine qC (zM 8) ?_|refine qC (zF hn 10) ?_)|(refine zn ?_;first|(refine zo 0 zh rfl rfl (cp.ok hp) rfl rfl rfl rfl rfl ?_))|refine sK ?_|refine sC (fun _=>?_) (fun _=>?_)|fail)
               exact zU hw (yw (.inl rfl) tH)
            ·cases hn:ty.ref
             ·cases hf:zah g ob ty
              ·rw [hf] at cfo
               have hw:(yu g m ⟨68,arg,t0⟩) l=.error 10:=by simp [yu,zu,zC,hC1,hC2,hC3,zJ,emptyS,hms,hdd,hS8,hS9,hC10,hC11,hC12,zJ,emptyS,hee,hC17,hC18,zJ,emptyS,hr,hth,hn,hf]
               repeat' (first|refine zN 6 9 10 1 7 zf (by kernel_rfl) (by kernel_rfl) rfl rfl rfl rfl rfl rfl rfl rfl rfl rfl rfl rfl rfl rfl rfl rfl rfl rfl rfl rfl rfl rfl ?_|refine yg rfl rfl ?_|refine ⟨_,_,rfl,rfl,?_⟩|refine zx rfl (zk (ps:=(zZ g)) zf rfl rfl rfl rfl rfl) rfl rfl ?_|refine AD.step _ _ _ _ _ rfl (zk (ps:=(zZ g)) zf rfl rfl rfl rfl rfl) rfl rfl ?_|refine qE 14 13 12 rfl rfl (by kernel_rfl) (by kernel_rfl) (by kernel_rfl) (by kernel_rfl) (by kernel_rfl) ?_|refine zA ([]) zh rfl rfl rfl tH (yc rfl 10) ?_|(refine shC ?_;first|refine qC cT ?_|refine qC cfo ?_)|refine sK ?_|refine sC (fun _=>?_) (fun _=>?_)|fail)
               exact zB hw
              ·rw [hf] at cfo
               cases hp:(yV m.max [t0]) l9 with
               | error er =>
                have hw:(yu g m ⟨68,arg,t0⟩) l=.error er:=by simp [yu,zu,zC,hC1,hC2,hC3,zJ,emptyS,hms,hdd,hS8,hS9,hC10,hC11,hC12,zJ,emptyS,hee,hC17,hC18,zJ,emptyS,hr,hth,hn,hf,hp]
                repeat' (first|refine zl 16 3 rfl rfl rfl ?_|refine zA ((yP u ⟨g,m,ar,⟨68,arg,t0⟩⟩ l9)) zh rfl rfl rfl tH (cp.bad hp u) ?_|refine zN 6 9 10 1 7 zf (by kernel_rfl) (by kernel_rfl) rfl rfl rfl rfl rfl rfl rfl rfl rfl rfl rfl rfl rfl rfl rfl rfl rfl rfl rfl rfl rfl rfl ?_|refine yg rfl rfl ?_|refine ⟨_,_,rfl,rfl,?_⟩|refine zx rfl (zk (ps:=(zZ g)) zf rfl rfl rfl rfl rfl) rfl rfl ?_|refine AD.step _ _ _ _ _ rfl (zk (ps:=(zZ g)) zf rfl rfl rfl rfl rfl) rfl rfl ?_|refine zV 13 12 rfl (by kernel_rfl) (by kernel_rfl) (by kernel_rfl) (by kernel_rfl) (by kernel_rfl) ?_|(refine shC ?_;first|refine qC cT ?_|refine qC cfo ?_|refine qC (zF rfl 10) ?_)|refine sK ?_|refine sC (fun _=>?_) (fun _=>?_)|fail)
                exact zB hw
               | ok p =>
                obtain ⟨⟨⟩,lz⟩:=p
                have hw:(yu g m ⟨68,arg,t0⟩) l=.ok ((),lz):=by simp [yu,zu,zC,hC1,hC2,hC3,zJ,emptyS,hms,hdd,hS8,hS9,hC10,hC11,hC12,zJ,emptyS,hee,hC17,hC18,zJ,emptyS,hr,hth,hn,hf,hp]
                repeat' (first|refine zN 6 9 10 1 7 zf (by kernel_rfl) (by kernel_rfl) rfl rfl rfl rfl rfl rfl rfl rfl rfl rfl rfl rfl rfl rfl rfl rfl rfl rfl rfl rfl rfl rfl ?_|refine yg rfl rfl ?_|refine ⟨_,_,rfl,rfl,?_⟩|refine zx rfl (zk (ps:=(zZ g)) zf rfl rfl rfl rfl rfl) rfl rfl ?_|refine AD.step _ _ _ _ _ rfl (zk (ps:=(zZ g)) zf rfl rfl rfl rfl rfl) rfl rfl ?_|refine zV 13 12 rfl (by kernel_rfl) (by kernel_rfl) (by kernel_rfl) (by kernel_rfl) (by kernel_rfl) ?_|(refine shC ?_;first|refine qC cT ?_|refine qC cfo ?_|refine qC (zF rfl 10) ?_)|(refine zn ?_;first|(refine zo 0 zh rfl rfl (cp.ok hp) rfl rfl rfl rfl rfl ?_))|refine sK ?_|refine sC (fun _=>?_) (fun _=>?_)|fail)
                exact zU hw (yw (.inl rfl) tH)
             ·have hw:(yu g m ⟨68,arg,t0⟩) l=.error 10:=by simp [yu,zu,zC,hC1,hC2,hC3,zJ,emptyS,hms,hdd,hS8,hS9,hC10,hC11,hC12,zJ,emptyS,hee,hC17,hC18,zJ,emptyS,hr,hth,hn]
              repeat' (first|refine zN 6 9 10 1 7 zf (by kernel_rfl) (by kernel_rfl) rfl rfl rfl rfl rfl rfl rfl rfl rfl rfl rfl rfl rfl rfl rfl rfl rfl rfl rfl rfl rfl rfl ?_|refine yg rfl rfl ?_|refine ⟨_,_,rfl,rfl,?_⟩|refine zx rfl (zk (ps:=(zZ g)) zf rfl rfl rfl rfl rfl) rfl rfl ?_|refine AD.step _ _ _ _ _ rfl (zk (ps:=(zZ g)) zf rfl rfl rfl rfl rfl) rfl rfl ?_|refine qE 14 13 12 rfl rfl (by kernel_rfl) (by kernel_rfl) (by kernel_rfl) (by kernel_rfl) (by kernel_rfl) ?_|refine zA ([]) zh rfl rfl rfl tH (yc (by simp [hn]) 10) ?_|(refine shC ?_;first|refine qC cT ?_)|refine sK ?_|refine sC (fun _=>?_) (fun _=>?_)|fail)
              exact zB hw
end Go.Cg
