/- A part of the walks by abstract values: no statement of its own. -/
import Derived.Test.YtoeplllgofpddaaGreatU13
import Derived.Test.YtoeplllgofpddaaGreatU15
import Derived.Test.YtoeplllgofpddaaGreatU14
set_option linter.unusedVariables false
set_option linter.unusedSimpArgs false
namespace Go.Cg
open Go.Proofs
theorem zi9 {a b:List Ty} {k:Nat} (ha:k < a.length) (hb:k < b.length):sameAll (a.drop k) (b.drop k)=(tyB a[k] b[k]&&sameAll (a.drop (k + 1)) (b.drop (k + 1))):=by
 rw [List.drop_eq_getElem_cons ha,List.drop_eq_getElem_cons hb];rfl
theorem zki {a b:List Ty} {k:Nat} (ha:a.length≤k):sameAll (a.drop k) (b.drop k)=true:=by
 rw [List.drop_eq_nil_of_le ha];rfl
set_option maxHeartbeats 4000000 in
theorem zlO (g:Img) (hF:Fm g) (m:Me) (ar:List Ty) (arg:Int) (t0:Ty) (l:List Ty) (hl:l.length≤100) (hgm:g.methods.length≤1000) (hpe:∀ i:Int,0≤i→i.toNat < g.methods.length→(mAt g i).params.length≤100) (hd:t0.kind=5→t0.dims=0→Yt g t0.index=3→methodsOf g t0.index≠[]):XC 90 [] (⟨g,m,ar,⟨68,arg,t0⟩⟩:RC) (yt g m ⟨68,arg,t0⟩) uV l:=by
 intro u;refine zF zf Tryz.func90 rfl (by kernel_rfl) Tryz.ntmps90 (by simp) _ rfl (fun gB hw1=>?_)
 have ck:=Qz g t0.index
 cases hC1:(t0.kind==5)
 ·skip
  have hw:(yt g m ⟨68,arg,t0⟩) l=.error 8:=by simp [yt,zx,zA,hC1,zI,emptyS]
  repeat' (first|refine qy 1 19 18 rfl rfl (by kernel_rfl) (by kernel_rfl) (by kernel_rfl) (by kernel_rfl) (by kernel_rfl) ?_|refine zD ([]) zi rfl rfl rfl tH (zZ (by first|rfl|assumption|simp [hC1]) 8) ?_|refine zB rfl (zn (ps:=(yO t0)) zf rfl rfl rfl rfl rfl) rfl rfl ?_|refine AD.step _ _ _ _ _ rfl (zn (ps:=(yO t0)) zf rfl rfl rfl rfl rfl) rfl rfl ?_|refine zB rfl (zn (ps:=(yA g)) zf rfl rfl rfl rfl rfl) rfl rfl ?_|refine AD.step _ _ _ _ _ rfl (zn (ps:=(yA g)) zf rfl rfl rfl rfl rfl) rfl rfl ?_|(refine shC ?_;first|refine qC ck ?_)|refine sK ?_|refine sC (fun _=>?_) (fun _=>?_)|fail)
  exact zy hw
 ·skip
  cases hC2:(t0.dims==0)
  ·skip
   have hw:(yt g m ⟨68,arg,t0⟩) l=.error 8:=by simp [yt,zx,zA,hC1,hC2,zI,emptyS]
   repeat' (first|refine qy 1 19 18 rfl rfl (by kernel_rfl) (by kernel_rfl) (by kernel_rfl) (by kernel_rfl) (by kernel_rfl) ?_|refine zD ([]) zi rfl rfl rfl tH (zZ (by first|rfl|assumption|simp [hC1,hC2]) 8) ?_|refine zB rfl (zn (ps:=(yO t0)) zf rfl rfl rfl rfl rfl) rfl rfl ?_|refine AD.step _ _ _ _ _ rfl (zn (ps:=(yO t0)) zf rfl rfl rfl rfl rfl) rfl rfl ?_|refine zB rfl (zn (ps:=(yA g)) zf rfl rfl rfl rfl rfl) rfl rfl ?_|refine AD.step _ _ _ _ _ rfl (zn (ps:=(yA g)) zf rfl rfl rfl rfl rfl) rfl rfl ?_|(refine shC ?_;first|refine qC ck ?_)|refine sK ?_|refine sC (fun _=>?_) (fun _=>?_)|fail)
   exact zy hw
  ·skip
   cases hC3:(Yt g t0.index==3)
   ·skip
    have hw:(yt g m ⟨68,arg,t0⟩) l=.error 8:=by simp [yt,zx,zA,hC1,hC2,hC3,zI,emptyS]
    repeat' (first|refine qy 1 19 18 rfl rfl (by kernel_rfl) (by kernel_rfl) (by kernel_rfl) (by kernel_rfl) (by kernel_rfl) ?_|refine zD ([]) zi rfl rfl rfl tH (zZ (by first|rfl|assumption|simp [hC1,hC2,hC3]) 8) ?_|refine zB rfl (zn (ps:=(yO t0)) zf rfl rfl rfl rfl rfl) rfl rfl ?_|refine AD.step _ _ _ _ _ rfl (zn (ps:=(yO t0)) zf rfl rfl rfl rfl rfl) rfl rfl ?_|refine zB rfl (zn (ps:=(yA g)) zf rfl rfl rfl rfl rfl) rfl rfl ?_|refine AD.step _ _ _ _ _ rfl (zn (ps:=(yA g)) zf rfl rfl rfl rfl rfl) rfl rfl ?_|(refine shC ?_;first|refine qC ck ?_)|refine sK ?_|refine sC (fun _=>?_) (fun _=>?_)|fail)
    exact zy hw
   ·skip
    have hne:=hd (by simpa using hC1) (by simpa using hC2) (by simpa using hC3)
    obtain ⟨k0,ks,hms⟩:∃ k0 ks,methodsOf g t0.index=k0::ks:=by cases hm:methodsOf g t0.index with|nil=>exact absurd hm hne|cons a b=>exact ⟨a,b,rfl⟩
    have hk0:=qc (g:=g) (t:=t0.index) (i:=k0) (by rw [hms];simp)
    have cm:=YD g t0.index (by omega)
    rw [hms] at cm
    have hm0:((k0::ks).map pi)[(0:Int).toNat]?=some (pi k0):=rfl
    have hek:(g.methods.map yL)[k0.toNat]?=some (yL (mAt g k0)):=by rw [mAt,zL hk0.2];exact yu hk0.2
    obtain ⟨d,hdd⟩:∃ d,mAt g k0=d:=⟨_,rfl⟩
    rw [hdd] at hek
    cases hS8:(Yk) l with
    | error e =>
     have hw:(yt g m ⟨68,arg,t0⟩) l=.error e:=by simp [yt,zx,zA,hC1,hC2,hC3,zI,emptyS,hms,hdd,hS8]
     repeat' (first|refine zq 3 1 rfl rfl rfl ?_|refine zD ((yN u ⟨g,m,ar,⟨68,arg,t0⟩⟩ l)) zi rfl rfl rfl tH ((yj ⟨g,m,ar,⟨68,arg,t0⟩⟩ _ (by omega)).bad hS8 u) ?_|refine zX 19 18 rfl (by kernel_rfl) (by kernel_rfl) (by kernel_rfl) (by kernel_rfl) (by kernel_rfl) ?_|refine zO 2 16 17 1 15 zf (by kernel_rfl) (by kernel_rfl) rfl rfl rfl rfl rfl rfl rfl rfl rfl rfl rfl rfl rfl rfl rfl rfl rfl rfl rfl rfl rfl rfl ?_|refine yh rfl rfl ?_|refine ⟨_,_,rfl,rfl,?_⟩|refine zB rfl (zn (ps:=(yO t0)) zf rfl rfl rfl rfl rfl) rfl rfl ?_|refine AD.step _ _ _ _ _ rfl (zn (ps:=(yO t0)) zf rfl rfl rfl rfl rfl) rfl rfl ?_|refine zB rfl (zn (ps:=(yA g)) zf rfl rfl rfl rfl rfl) rfl rfl ?_|refine AD.step _ _ _ _ _ rfl (zn (ps:=(yA g)) zf rfl rfl rfl rfl rfl) rfl rfl ?_|(refine shC ?_;first|refine zB rfl (zG rfl rfl (zC (by first|rfl|assumption|simp [hC1,hC2,hC3]) 8)) rfl rfl ?_|refine AD.step _ _ _ _ _ rfl (zG rfl rfl (zC (by first|rfl|assumption|simp [hC1,hC2,hC3]) 8)) rfl rfl ?_|refine qC cm ?_|refine qC ck ?_)|(refine shX ?_;first|refine zB rfl (zl zf rfl rfl rfl rfl rfl rfl (by decide) hm0) rfl rfl ?_|refine AD.step _ _ _ _ _ rfl (zl zf rfl rfl rfl rfl rfl rfl (by decide) hm0) rfl rfl ?_|refine zB rfl (zl zf rfl rfl rfl rfl rfl rfl hk0.1 hek) rfl rfl ?_|refine AD.step _ _ _ _ _ rfl (zl zf rfl rfl rfl rfl rfl rfl hk0.1 hek) rfl rfl ?_)|refine sK ?_|refine sC (fun _=>?_) (fun _=>?_)|fail)
     exact zy hw
    | ok p =>
     obtain ⟨f,l8⟩:=p
     have hl8:l8.length≤100:=by have:=Xb hS8;omega
     cases hS9:(Yk) l8 with
     | error e =>
      have hw:(yt g m ⟨68,arg,t0⟩) l=.error e:=by simp [yt,zx,zA,hC1,hC2,hC3,zI,emptyS,hms,hdd,hS8,hS9]
      repeat' (first|refine zq 3 3 rfl rfl rfl ?_|refine zD ((yN u ⟨g,m,ar,⟨68,arg,t0⟩⟩ l8)) zi rfl rfl rfl tH ((yj ⟨g,m,ar,⟨68,arg,t0⟩⟩ _ (by omega)).bad hS9 u) ?_|refine zX 19 18 rfl (by kernel_rfl) (by kernel_rfl) (by kernel_rfl) (by kernel_rfl) (by kernel_rfl) ?_|refine zO 2 16 17 1 15 zf (by kernel_rfl) (by kernel_rfl) rfl rfl rfl rfl rfl rfl rfl rfl rfl rfl rfl rfl rfl rfl rfl rfl rfl rfl rfl rfl rfl rfl ?_|refine yh rfl rfl ?_|refine ⟨_,_,rfl,rfl,?_⟩|refine zB rfl (zn (ps:=(yO t0)) zf rfl rfl rfl rfl rfl) rfl rfl ?_|refine AD.step _ _ _ _ _ rfl (zn (ps:=(yO t0)) zf rfl rfl rfl rfl rfl) rfl rfl ?_|refine zB rfl (zn (ps:=(yA g)) zf rfl rfl rfl rfl rfl) rfl rfl ?_|refine AD.step _ _ _ _ _ rfl (zn (ps:=(yA g)) zf rfl rfl rfl rfl rfl) rfl rfl ?_|(refine shC ?_;first|refine zB rfl (zG rfl rfl (zC (by first|rfl|assumption|simp [hC1,hC2,hC3]) 8)) rfl rfl ?_|refine AD.step _ _ _ _ _ rfl (zG rfl rfl (zC (by first|rfl|assumption|simp [hC1,hC2,hC3]) 8)) rfl rfl ?_|refine qC cm ?_|refine qC ck ?_)|(refine shX ?_;first|refine zB rfl (zl zf rfl rfl rfl rfl rfl rfl (by decide) hm0) rfl rfl ?_|refine AD.step _ _ _ _ _ rfl (zl zf rfl rfl rfl rfl rfl rfl (by decide) hm0) rfl rfl ?_|refine zB rfl (zl zf rfl rfl rfl rfl rfl rfl hk0.1 hek) rfl rfl ?_|refine AD.step _ _ _ _ _ rfl (zl zf rfl rfl rfl rfl rfl rfl hk0.1 hek) rfl rfl ?_)|(refine zu ?_;first|(refine zo 0 zi rfl rfl ((yj ⟨g,m,ar,⟨68,arg,t0⟩⟩ _ (by omega)).ok hS8) rfl rfl rfl rfl rfl ?_))|refine sK ?_|refine sC (fun _=>?_) (fun _=>?_)|fail)
      exact zy hw
     | ok p =>
      obtain ⟨ob,l9⟩:=p
      have hl9:l9.length≤100:=by have:=Xb hS9;omega
      cases hC10:(tyB f ⟨9,f.index,0,false⟩)
      ·skip
       have hT:(f.kind==9&&(f.index==f.index&&(f.dims==0&&(f.ref==false&&true))))=false:=hC10
       have hw:(yt g m ⟨68,arg,t0⟩) l=.error 10:=by simp [yt,zx,zA,hC1,hC2,hC3,zI,emptyS,hms,hdd,hS8,hS9,hC10,zI,emptyS]
       repeat' (first|refine qy 4 22 21 rfl rfl (by kernel_rfl) (by kernel_rfl) (by kernel_rfl) (by kernel_rfl) (by kernel_rfl) ?_|refine zD ([]) zi rfl rfl rfl tH (zZ (by first|rfl|assumption|simp [hC1,hC2,hC3,hC10]) 10) ?_|refine zX 19 18 rfl (by kernel_rfl) (by kernel_rfl) (by kernel_rfl) (by kernel_rfl) (by kernel_rfl) ?_|refine zO 2 16 17 1 15 zf (by kernel_rfl) (by kernel_rfl) rfl rfl rfl rfl rfl rfl rfl rfl rfl rfl rfl rfl rfl rfl rfl rfl rfl rfl rfl rfl rfl rfl ?_|refine yh rfl rfl ?_|refine ⟨_,_,rfl,rfl,?_⟩|refine zB rfl (zn (ps:=(yO t0)) zf rfl rfl rfl rfl rfl) rfl rfl ?_|refine AD.step _ _ _ _ _ rfl (zn (ps:=(yO t0)) zf rfl rfl rfl rfl rfl) rfl rfl ?_|refine zB rfl (zn (ps:=(yA g)) zf rfl rfl rfl rfl rfl) rfl rfl ?_|refine AD.step _ _ _ _ _ rfl (zn (ps:=(yA g)) zf rfl rfl rfl rfl rfl) rfl rfl ?_|(refine shC ?_;first|refine zB rfl (zG rfl rfl (zC (by first|rfl|assumption|simp [hC1,hC2,hC3]) 8)) rfl rfl ?_|refine AD.step _ _ _ _ _ rfl (zG rfl rfl (zC (by first|rfl|assumption|simp [hC1,hC2,hC3]) 8)) rfl rfl ?_|refine qC cm ?_|refine qC ck ?_)|(refine shX ?_;first|refine zB rfl (zl zf rfl rfl rfl rfl rfl rfl (by decide) hm0) rfl rfl ?_|refine AD.step _ _ _ _ _ rfl (zl zf rfl rfl rfl rfl rfl rfl (by decide) hm0) rfl rfl ?_|refine zB rfl (zl zf rfl rfl rfl rfl rfl rfl hk0.1 hek) rfl rfl ?_|refine AD.step _ _ _ _ _ rfl (zl zf rfl rfl rfl rfl rfl rfl hk0.1 hek) rfl rfl ?_)|(refine zu ?_;first|(refine zo 0 zi rfl rfl ((yj ⟨g,m,ar,⟨68,arg,t0⟩⟩ _ (by omega)).ok hS8) rfl rfl rfl rfl rfl ?_)|(refine zo 0 zi rfl rfl ((yj ⟨g,m,ar,⟨68,arg,t0⟩⟩ _ (by omega)).ok hS9) rfl rfl rfl rfl rfl ?_))|refine sK ?_|refine sC (fun _=>?_) (fun _=>?_)|fail)
       exact zy hw
      ·skip
       have hT:(f.kind==9&&(f.index==f.index&&(f.dims==0&&(f.ref==false&&true))))=true:=hC10
       cases hC11:(decide (0≤f.index))
       ·skip
        have hP:=hC11
        simp only [decide_eq_true_eq,decide_eq_false_iff_not] at hP
        have hw:(yt g m ⟨68,arg,t0⟩) l=.error 10:=by simp [yt,zx,zA,hC1,hC2,hC3,zI,emptyS,hms,hdd,hS8,hS9,hC10,hC11,zI,emptyS]
        repeat' (first|refine qy 4 22 21 rfl rfl (by kernel_rfl) (by kernel_rfl) (by kernel_rfl) (by kernel_rfl) (by kernel_rfl) ?_|refine zD ([]) zi rfl rfl rfl tH (zZ (by first|rfl|assumption|simp [hC1,hC2,hC3,hC10,hC11]) 10) ?_|refine zX 19 18 rfl (by kernel_rfl) (by kernel_rfl) (by kernel_rfl) (by kernel_rfl) (by kernel_rfl) ?_|refine zO 2 16 17 1 15 zf (by kernel_rfl) (by kernel_rfl) rfl rfl rfl rfl rfl rfl rfl rfl rfl rfl rfl rfl rfl rfl rfl rfl rfl rfl rfl rfl rfl rfl ?_|refine yh rfl rfl ?_|refine ⟨_,_,rfl,rfl,?_⟩|refine zB rfl (zn (ps:=(yO t0)) zf rfl rfl rfl rfl rfl) rfl rfl ?_|refine AD.step _ _ _ _ _ rfl (zn (ps:=(yO t0)) zf rfl rfl rfl rfl rfl) rfl rfl ?_|refine zB rfl (zn (ps:=(yA g)) zf rfl rfl rfl rfl rfl) rfl rfl ?_|refine AD.step _ _ _ _ _ rfl (zn (ps:=(yA g)) zf rfl rfl rfl rfl rfl) rfl rfl ?_|(refine shC ?_;first|refine zB rfl (zG rfl rfl (zC (by first|rfl|assumption|simp [hC1,hC2,hC3]) 8)) rfl rfl ?_|refine AD.step _ _ _ _ _ rfl (zG rfl rfl (zC (by first|rfl|assumption|simp [hC1,hC2,hC3]) 8)) rfl rfl ?_|refine qC cm ?_|refine qC ck ?_)|(refine shX ?_;first|refine zB rfl (zl zf rfl rfl rfl rfl rfl rfl (by decide) hm0) rfl rfl ?_|refine AD.step _ _ _ _ _ rfl (zl zf rfl rfl rfl rfl rfl rfl (by decide) hm0) rfl rfl ?_|refine zB rfl (zl zf rfl rfl rfl rfl rfl rfl hk0.1 hek) rfl rfl ?_|refine AD.step _ _ _ _ _ rfl (zl zf rfl rfl rfl rfl rfl rfl hk0.1 hek) rfl rfl ?_)|(refine zu ?_;first|(refine zo 0 zi rfl rfl ((yj ⟨g,m,ar,⟨68,arg,t0⟩⟩ _ (by omega)).ok hS8) rfl rfl rfl rfl rfl ?_)|(refine zo 0 zi rfl rfl ((yj ⟨g,m,ar,⟨68,arg,t0⟩⟩ _ (by omega)).ok hS9) rfl rfl rfl rfl rfl ?_))|refine sK ?_|refine sC (fun _=>?_) (fun _=>?_)|fail)
        exact zy hw
       ·skip
        have hP:=hC11
        simp only [decide_eq_true_eq,decide_eq_false_iff_not] at hP
        cases hC12:(decide (f.index < g.methods.length))
        ·skip
         have hP:=hC12
         simp only [decide_eq_true_eq,decide_eq_false_iff_not] at hP
         have hw:(yt g m ⟨68,arg,t0⟩) l=.error 10:=by simp [yt,zx,zA,hC1,hC2,hC3,zI,emptyS,hms,hdd,hS8,hS9,hC10,hC11,hC12,zI,emptyS]
         repeat' (first|refine qy 4 22 21 rfl rfl (by kernel_rfl) (by kernel_rfl) (by kernel_rfl) (by kernel_rfl) (by kernel_rfl) ?_|refine zD ([]) zi rfl rfl rfl tH (zZ (by first|rfl|assumption|simp [hC1,hC2,hC3,hC10,hC11,hC12]) 10) ?_|refine zX 19 18 rfl (by kernel_rfl) (by kernel_rfl) (by kernel_rfl) (by kernel_rfl) (by kernel_rfl) ?_|refine zO 2 16 17 1 15 zf (by kernel_rfl) (by kernel_rfl) rfl rfl rfl rfl rfl rfl rfl rfl rfl rfl rfl rfl rfl rfl rfl rfl rfl rfl rfl rfl rfl rfl ?_|refine yh rfl rfl ?_|refine ⟨_,_,rfl,rfl,?_⟩|refine zB rfl (zn (ps:=(yO t0)) zf rfl rfl rfl rfl rfl) rfl rfl ?_|refine AD.step _ _ _ _ _ rfl (zn (ps:=(yO t0)) zf rfl rfl rfl rfl rfl) rfl rfl ?_|refine zB rfl (zn (ps:=(yA g)) zf rfl rfl rfl rfl rfl) rfl rfl ?_|refine AD.step _ _ _ _ _ rfl (zn (ps:=(yA g)) zf rfl rfl rfl rfl rfl) rfl rfl ?_|(refine shC ?_;first|refine zB rfl (zG rfl rfl (zC (by first|rfl|assumption|simp [hC1,hC2,hC3]) 8)) rfl rfl ?_|refine AD.step _ _ _ _ _ rfl (zG rfl rfl (zC (by first|rfl|assumption|simp [hC1,hC2,hC3]) 8)) rfl rfl ?_|refine qC cm ?_|refine qC ck ?_)|(refine shX ?_;first|refine zB rfl (zl zf rfl rfl rfl rfl rfl rfl (by decide) hm0) rfl rfl ?_|refine AD.step _ _ _ _ _ rfl (zl zf rfl rfl rfl rfl rfl rfl (by decide) hm0) rfl rfl ?_|refine zB rfl (zl zf rfl rfl rfl rfl rfl rfl hk0.1 hek) rfl rfl ?_|refine AD.step _ _ _ _ _ rfl (zl zf rfl rfl rfl rfl rfl rfl hk0.1 hek) rfl rfl ?_)|(refine zu ?_;first|(refine zo 0 zi rfl rfl ((yj ⟨g,m,ar,⟨68,arg,t0⟩⟩ _ (by omega)).ok hS8) rfl rfl rfl rfl rfl ?_)|(refine zo 0 zi rfl rfl ((yj ⟨g,m,ar,⟨68,arg,t0⟩⟩ _ (by omega)).ok hS9) rfl rfl rfl rfl rfl ?_))|refine sK ?_|refine sC (fun _=>?_) (fun _=>?_)|fail)
         exact zy hw
        ·skip
         have hP:=hC12
         simp only [decide_eq_true_eq,decide_eq_false_iff_not] at hP
         have hf0:0≤f.index:=by assumption
         have hfl:f.index.toNat < g.methods.length:=by omega
         have hfe:(g.methods.map yL)[f.index.toNat]?=some (yL (mAt g f.index)):=by rw [mAt,zL hfl];exact yu hfl
         obtain ⟨e,hee⟩:∃ e,mAt g f.index=e:=⟨_,rfl⟩
         have hpl:e.params.length≤100:=hee ▸ hpe f.index hf0 hfl
         rw [hee] at hfe
         cases hC17:(tyB e.ret d.ret)
         ·skip
          have hR:(e.ret.kind==d.ret.kind&&(e.ret.index==d.ret.index&&(e.ret.dims==d.ret.dims&&(e.ret.ref==d.ret.ref&&true))))=false:=hC17
          have hw:(yt g m ⟨68,arg,t0⟩) l=.error 10:=by simp [yt,zx,zA,hC1,hC2,hC3,zI,emptyS,hms,hdd,hS8,hS9,hC10,hC11,hC12,zI,emptyS,hee,hC17,zI,emptyS]
          repeat' (first|refine zq 6 14 rfl rfl rfl ?_|refine zD ([]) zi rfl rfl rfl tH (zZ (by first|rfl|assumption|simp [hC1,hC2,hC3,hC10,hC11,hC12,hC17]) 10) ?_|refine zX 19 18 rfl (by kernel_rfl) (by kernel_rfl) (by kernel_rfl) (by kernel_rfl) (by kernel_rfl) ?_|refine zO 2 16 17 1 15 zf (by kernel_rfl) (by kernel_rfl) rfl rfl rfl rfl rfl rfl rfl rfl rfl rfl rfl rfl rfl rfl rfl rfl rfl rfl rfl rfl rfl rfl ?_|refine yh rfl rfl ?_|refine ⟨_,_,rfl,rfl,?_⟩|refine zX 22 21 rfl (by kernel_rfl) (by kernel_rfl) (by kernel_rfl) (by kernel_rfl) (by kernel_rfl) ?_|refine zO 5 9 10 1 8 zf (by kernel_rfl) (by kernel_rfl) rfl rfl rfl rfl rfl rfl rfl rfl rfl rfl rfl rfl rfl rfl rfl rfl rfl rfl rfl rfl rfl rfl ?_|refine yh rfl rfl ?_|refine ⟨_,_,rfl,rfl,?_⟩|refine zB rfl (zn (ps:=(yO t0)) zf rfl rfl rfl rfl rfl) rfl rfl ?_|refine AD.step _ _ _ _ _ rfl (zn (ps:=(yO t0)) zf rfl rfl rfl rfl rfl) rfl rfl ?_|refine zB rfl (zn (ps:=(yA g)) zf rfl rfl rfl rfl rfl) rfl rfl ?_|refine AD.step _ _ _ _ _ rfl (zn (ps:=(yA g)) zf rfl rfl rfl rfl rfl) rfl rfl ?_|(refine shC ?_;first|refine zB rfl (zG rfl rfl (zC (by first|rfl|assumption|simp [hC1,hC2,hC3]) 8)) rfl rfl ?_|refine AD.step _ _ _ _ _ rfl (zG rfl rfl (zC (by first|rfl|assumption|simp [hC1,hC2,hC3]) 8)) rfl rfl ?_|refine qC cm ?_|refine zB rfl (zG rfl rfl (zC (by first|rfl|assumption|simp [hC1,hC2,hC3,hC10,hC11,hC12]) 10)) rfl rfl ?_|refine AD.step _ _ _ _ _ rfl (zG rfl rfl (zC (by first|rfl|assumption|simp [hC1,hC2,hC3,hC10,hC11,hC12]) 10)) rfl rfl ?_|refine qC ck ?_)|(refine shX ?_;first|refine zB rfl (zl zf rfl rfl rfl rfl rfl rfl (by decide) hm0) rfl rfl ?_|refine AD.step _ _ _ _ _ rfl (zl zf rfl rfl rfl rfl rfl rfl (by decide) hm0) rfl rfl ?_|refine zB rfl (zl zf rfl rfl rfl rfl rfl rfl hk0.1 hek) rfl rfl ?_|refine AD.step _ _ _ _ _ rfl (zl zf rfl rfl rfl rfl rfl rfl hk0.1 hek) rfl rfl ?_|refine zB rfl (zl zf rfl rfl rfl rfl rfl rfl hf0 hfe) rfl rfl ?_|refine AD.step _ _ _ _ _ rfl (zl zf rfl rfl rfl rfl rfl rfl hf0 hfe) rfl rfl ?_)|(refine zu ?_;first|(refine zo 0 zi rfl rfl ((yj ⟨g,m,ar,⟨68,arg,t0⟩⟩ _ (by omega)).ok hS8) rfl rfl rfl rfl rfl ?_)|(refine zo 0 zi rfl rfl ((yj ⟨g,m,ar,⟨68,arg,t0⟩⟩ _ (by omega)).ok hS9) rfl rfl rfl rfl rfl ?_))|refine sK ?_|refine sC (fun _=>?_) (fun _=>?_)|fail)
          exact zy hw
         ·skip
          have hR:(e.ret.kind==d.ret.kind&&(e.ret.index==d.ret.index&&(e.ret.dims==d.ret.dims&&(e.ret.ref==d.ret.ref&&true))))=true:=hC17
          cases hC18:(e.params.length==d.params.length)
          ·skip
           have hL:((((e.params.map yJ).length:Nat):Int)==(((d.params.map yJ).length:Nat):Int))=false:=by rw [←hC18,Bool.eq_iff_iff];simp only [List.length_map,beq_iff_eq];omega
           have hw:(yt g m ⟨68,arg,t0⟩) l=.error 10:=by simp [yt,zx,zA,hC1,hC2,hC3,zI,emptyS,hms,hdd,hS8,hS9,hC10,hC11,hC12,zI,emptyS,hee,hC17,hC18,zI,emptyS]
           repeat' (first|refine zq 6 14 rfl rfl rfl ?_|refine zD ([]) zi rfl rfl rfl tH (zZ (by first|rfl|assumption|simp [hC1,hC2,hC3,hC10,hC11,hC12,hC17,hC18]) 10) ?_|refine zX 19 18 rfl (by kernel_rfl) (by kernel_rfl) (by kernel_rfl) (by kernel_rfl) (by kernel_rfl) ?_|refine zO 2 16 17 1 15 zf (by kernel_rfl) (by kernel_rfl) rfl rfl rfl rfl rfl rfl rfl rfl rfl rfl rfl rfl rfl rfl rfl rfl rfl rfl rfl rfl rfl rfl ?_|refine yh rfl rfl ?_|refine ⟨_,_,rfl,rfl,?_⟩|refine zX 22 21 rfl (by kernel_rfl) (by kernel_rfl) (by kernel_rfl) (by kernel_rfl) (by kernel_rfl) ?_|refine zO 5 9 10 1 8 zf (by kernel_rfl) (by kernel_rfl) rfl rfl rfl rfl rfl rfl rfl rfl rfl rfl rfl rfl rfl rfl rfl rfl rfl rfl rfl rfl rfl rfl ?_|refine yh rfl rfl ?_|refine ⟨_,_,rfl,rfl,?_⟩|refine zB rfl (zn (ps:=(yO t0)) zf rfl rfl rfl rfl rfl) rfl rfl ?_|refine AD.step _ _ _ _ _ rfl (zn (ps:=(yO t0)) zf rfl rfl rfl rfl rfl) rfl rfl ?_|refine zB rfl (zn (ps:=(yA g)) zf rfl rfl rfl rfl rfl) rfl rfl ?_|refine AD.step _ _ _ _ _ rfl (zn (ps:=(yA g)) zf rfl rfl rfl rfl rfl) rfl rfl ?_|(refine shC ?_;first|refine zB rfl (zG rfl rfl (zC (by first|rfl|assumption|simp [hC1,hC2,hC3]) 8)) rfl rfl ?_|refine AD.step _ _ _ _ _ rfl (zG rfl rfl (zC (by first|rfl|assumption|simp [hC1,hC2,hC3]) 8)) rfl rfl ?_|refine qC cm ?_|refine zB rfl (zG rfl rfl (zC (by first|rfl|assumption|simp [hC1,hC2,hC3,hC10,hC11,hC12]) 10)) rfl rfl ?_|refine AD.step _ _ _ _ _ rfl (zG rfl rfl (zC (by first|rfl|assumption|simp [hC1,hC2,hC3,hC10,hC11,hC12]) 10)) rfl rfl ?_|refine qC ck ?_)|(refine shX ?_;first|refine zB rfl (zl zf rfl rfl rfl rfl rfl rfl (by decide) hm0) rfl rfl ?_|refine AD.step _ _ _ _ _ rfl (zl zf rfl rfl rfl rfl rfl rfl (by decide) hm0) rfl rfl ?_|refine zB rfl (zl zf rfl rfl rfl rfl rfl rfl hk0.1 hek) rfl rfl ?_|refine AD.step _ _ _ _ _ rfl (zl zf rfl rfl rfl rfl rfl rfl hk0.1 hek) rfl rfl ?_|refine zB rfl (zl zf rfl rfl rfl rfl rfl rfl hf0 hfe) rfl rfl ?_|refine AD.step _ _ _ _ _ rfl (zl zf rfl rfl rfl rfl rfl rfl hf0 hfe) rfl rfl ?_)|(refine zu ?_;first|(refine zo 0 zi rfl rfl ((yj ⟨g,m,ar,⟨68,arg,t0⟩⟩ _ (by omega)).ok hS8) rfl rfl rfl rfl rfl ?_)|(refine zo 0 zi rfl rfl ((yj ⟨g,m,ar,⟨68,arg,t0⟩⟩ _ (by omega)).ok hS9) rfl rfl rfl rfl rfl ?_))|refine sK ?_|refine sC (fun _=>?_) (fun _=>?_)|fail)
           exact zy hw
          ·skip
           have hL:((((e.params.map yJ).length:Nat):Int)==(((d.params.map yJ).length:Nat):Int))=true:=by rw [←hC18,Bool.eq_iff_iff];simp only [List.length_map,beq_iff_eq];omega
           have hlen:e.params.length=d.params.length:=by simpa using (by assumption:(e.params.length==d.params.length)=true)
           repeat' (first|refine zX 19 18 rfl (by kernel_rfl) (by kernel_rfl) (by kernel_rfl) (by kernel_rfl) (by kernel_rfl) ?_|refine zO 2 16 17 1 15 zf (by kernel_rfl) (by kernel_rfl) rfl rfl rfl rfl rfl rfl rfl rfl rfl rfl rfl rfl rfl rfl rfl rfl rfl rfl rfl rfl rfl rfl ?_|refine yh rfl rfl ?_|refine ⟨_,_,rfl,rfl,?_⟩|refine zX 22 21 rfl (by kernel_rfl) (by kernel_rfl) (by kernel_rfl) (by kernel_rfl) (by kernel_rfl) ?_|refine zO 5 9 10 1 8 zf (by kernel_rfl) (by kernel_rfl) rfl rfl rfl rfl rfl rfl rfl rfl rfl rfl rfl rfl rfl rfl rfl rfl rfl rfl rfl rfl rfl rfl ?_|refine yh rfl rfl ?_|refine ⟨_,_,rfl,rfl,?_⟩|refine zB rfl (zn (ps:=(yO t0)) zf rfl rfl rfl rfl rfl) rfl rfl ?_|refine AD.step _ _ _ _ _ rfl (zn (ps:=(yO t0)) zf rfl rfl rfl rfl rfl) rfl rfl ?_|refine zB rfl (zn (ps:=(yA g)) zf rfl rfl rfl rfl rfl) rfl rfl ?_|refine AD.step _ _ _ _ _ rfl (zn (ps:=(yA g)) zf rfl rfl rfl rfl rfl) rfl rfl ?_|(refine shC ?_;first|refine zB rfl (zG rfl rfl (zC (by first|rfl|assumption|simp [hC1,hC2,hC3]) 8)) rfl rfl ?_|refine AD.step _ _ _ _ _ rfl (zG rfl rfl (zC (by first|rfl|assumption|simp [hC1,hC2,hC3]) 8)) rfl rfl ?_|refine qC cm ?_|refine zB rfl (zG rfl rfl (zC (by first|rfl|assumption|simp [hC1,hC2,hC3,hC10,hC11,hC12]) 10)) rfl rfl ?_|refine AD.step _ _ _ _ _ rfl (zG rfl rfl (zC (by first|rfl|assumption|simp [hC1,hC2,hC3,hC10,hC11,hC12]) 10)) rfl rfl ?_|refine zB rfl (zG rfl rfl (zC (by first|rfl|assumption|simp [hC1,hC2,hC3,hC10,hC11,hC12,hC17,hC18]) 10)) rfl rfl ?_|refine AD.step _ _ _ _ _ rfl (zG rfl rfl (zC (by first|rfl|assumption|simp [hC1,hC2,hC3,hC10,hC11,hC12,hC17,hC18]) 10)) rfl rfl ?_|refine qC ck ?_)|(refine shX ?_;first|refine zB rfl (zl zf rfl rfl rfl rfl rfl rfl (by decide) hm0) rfl rfl ?_|refine AD.step _ _ _ _ _ rfl (zl zf rfl rfl rfl rfl rfl rfl (by decide) hm0) rfl rfl ?_|refine zB rfl (zl zf rfl rfl rfl rfl rfl rfl hk0.1 hek) rfl rfl ?_|refine AD.step _ _ _ _ _ rfl (zl zf rfl rfl rfl rfl rfl rfl hk0.1 hek) rfl rfl ?_|refine zB rfl (zl zf rfl rfl rfl rfl rfl rfl hf0 hfe) rfl rfl ?_|refine AD.step _ _ _ _ _ rfl (zl zf rfl rfl rfl rfl rfl rfl hf0 hfe) rfl rfl ?_)|(refine zu ?_;first|(refine zo 0 zi rfl rfl ((yj ⟨g,m,ar,⟨68,arg,t0⟩⟩ _ (by omega)).ok hS8) rfl rfl rfl rfl rfl ?_)|(refine zo 0 zi rfl rfl ((yj ⟨g,m,ar,⟨68,arg,t0⟩⟩ _ (by omega)).ok hS9) rfl rfl rfl rfl rfl ?_))|refine sK ?_|refine sC (fun _=>?_) (fun _=>?_)|fail)
           refine zJ (fun k:Nat=>[(0,.box 0 0),(2,.box 1 0),(3,.box 2 0),(4,.box 3 0),(5,.box 4 0),(6,.box 5 0),(102,.pv (pi e.params.length)),(103,.pv (pi k))]) (fun _=>[(0,Xt ⟨g,m,ar,⟨68,arg,t0⟩⟩ l9),(1,.cell (.pv (yJ t0))),(2,.cell (.pv (yL d))),(3,.cell (.pv (yJ f))),(4,.cell (.pv (yJ ob))),(5,.cell (.pv (yL e))),(1000,.pin (.own 0) u)]) (fun k=>k≤e.params.length∧sameAll e.params d.params=sameAll (e.params.drop k) (d.params.drop k)) (fun k=>e.params.length - k) 0 ⟨by omega,rfl⟩ (by repeat (first|exact yS|refine yG rfl ?_|(refine Zc rfl ?_ ?_;· (simp)))) tH ?_
           rintro k ⟨hk,hr⟩
           by_cases hlt:k < e.params.length
           ·have hlt2:k < d.params.length:=by omega
            have he1:=yu (f:=yJ) hlt
            have he2:=yu (f:=yJ) hlt2
            rw [zi9 hlt hlt2] at hr
            cases hb:tyB e.params[k] d.params[k]
            ·rw [hb,Bool.false_and] at hr
             have hw:(yt g m ⟨68,arg,t0⟩) l=.error 10:=by simp [yt,zx,zA,hC1,hC2,hC3,zI,emptyS,hms,hdd,hS8,hS9,hC10,hC11,hC12,zI,emptyS,hee,hC17,hC18,zI,emptyS,hr]
             repeat' (first|refine qy 10 12 11 rfl rfl (by kernel_rfl) (by kernel_rfl) (by kernel_rfl) (by kernel_rfl) (by kernel_rfl) ?_|refine zD ([]) zi rfl rfl rfl tH (zZ hb 10) ?_|(refine shX ?_;first|refine qX he1 ?_|refine qX he2 ?_)|refine sK ?_|refine sC (fun _=>?_) (fun _=>?_)|fail)
             exact zy hw
            ·rw [hb,Bool.true_and] at hr
             repeat' (first|refine zX 12 11 rfl (by kernel_rfl) (by kernel_rfl) (by kernel_rfl) (by kernel_rfl) (by kernel_rfl) ?_|(refine shC ?_;first|refine qC (zC hb 10) ?_)|(refine shX ?_;first|refine qX he1 ?_|refine qX he2 ?_)|refine sK ?_|refine sC (fun _=>?_) (fun _=>?_)|fail)
             exact ⟨k + 1,⟨hlt,hr⟩,tD,tS,tH⟩
           ·rw [zki (by omega)] at hr
            have cT:=ziX g e
            have cfo:=zaa g ob (Vl (Yt g e.owner) (qK e.flags 1) e.owner).1 hF
            obtain ⟨th,hth⟩:∃ th,Vl (Yt g e.owner) (qK e.flags 1) e.owner=th:=⟨_,rfl⟩
            rw [hth] at cT cfo
            obtain ⟨ty,isT⟩:=th
            have cp:=zS ⟨g,m,ar,⟨68,arg,t0⟩⟩ [t0] l9 (by omega) (by simp)
            cases isT
            ·cases hn:tyB ob (kTy 8)
             ·have hw:(yt g m ⟨68,arg,t0⟩) l=.error 10:=by simp [yt,zx,zA,hC1,hC2,hC3,zI,emptyS,hms,hdd,hS8,hS9,hC10,hC11,hC12,zI,emptyS,hee,hC17,hC18,zI,emptyS,hr,hth,hn]
              repeat' (first|refine zO 6 9 10 1 7 zf (by kernel_rfl) (by kernel_rfl) rfl rfl rfl rfl rfl rfl rfl rfl rfl rfl rfl rfl rfl rfl rfl rfl rfl rfl rfl rfl rfl rfl ?_|refine yh rfl rfl ?_|refine ⟨_,_,rfl,rfl,?_⟩|refine zB rfl (zn (ps:=(yA g)) zf rfl rfl rfl rfl rfl) rfl rfl ?_|refine AD.step _ _ _ _ _ rfl (zn (ps:=(yA g)) zf rfl rfl rfl rfl rfl) rfl rfl ?_|refine qy 15 4 3 rfl rfl (by kernel_rfl) (by kernel_rfl) (by kernel_rfl) (by kernel_rfl) (by kernel_rfl) ?_|refine zD ([]) zi rfl rfl rfl tH (zZ hn 10) ?_|(refine shC ?_;first|refine qC cT ?_|refine qC (zM 8) ?_)|refine sK ?_|refine sC (fun _=>?_) (fun _=>?_)|fail)
              exact zy hw
             ·cases hp:(yR m.max [t0]) l9 with
              | error er =>
               have hw:(yt g m ⟨68,arg,t0⟩) l=.error er:=by simp [yt,zx,zA,hC1,hC2,hC3,zI,emptyS,hms,hdd,hS8,hS9,hC10,hC11,hC12,zI,emptyS,hee,hC17,hC18,zI,emptyS,hr,hth,hn,hp]
               repeat' (first|refine zq 16 3 rfl rfl rfl ?_|refine zD ((yN u ⟨g,m,ar,⟨68,arg,t0⟩⟩ l9)) zi rfl rfl rfl tH (cp.bad hp u) ?_|refine zO 6 9 10 1 7 zf (by kernel_rfl) (by kernel_rfl) rfl rfl rfl rfl rfl rfl rfl rfl rfl rfl rfl rfl rfl rfl rfl rfl rfl rfl rfl rfl rfl rfl ?_|refine yh rfl rfl ?_|refine ⟨_,_,rfl,rfl,?_⟩|refine zB rfl (zn (ps:=(yA g)) zf rfl rfl rfl rfl rfl) rfl rfl ?_|refine AD.step _ _ _ _ _ rfl (zn (ps:=(yA g)) zf rfl rfl rfl rfl rfl) rfl rfl ?_|refine zX 4 3 rfl (by kernel_rfl) (by kernel_rfl) (by kernel_rfl) (by kernel_rfl) (by kernel_rfl) ?_|(refine shC ?_;first|refine qC cT ?_|refine qC (zM 8) ?_|refine qC (zC hn 10) ?_)|refine sK ?_|refine sC (fun _=>?_) (fun _=>?_)|fail)
               exact zy hw
              | ok p =>
               obtain ⟨⟨⟩,lz⟩:=p
               have hw:(yt g m ⟨68,arg,t0⟩) l=.ok ((),lz):=by simp [yt,zx,zA,hC1,hC2,hC3,zI,emptyS,hms,hdd,hS8,hS9,hC10,hC11,hC12,zI,emptyS,hee,hC17,hC18,zI,emptyS,hr,hth,hn,hp]
               repeat' (first|refine zO 6 9 10 1 7 zf (by kernel_rfl) (by kernel_rfl) rfl rfl rfl rfl rfl rfl rfl rfl rfl rfl rfl rfl rfl rfl rfl rfl rfl rfl rfl rfl rfl rfl ?_|refine yh rfl rfl ?_|refine ⟨_,_,rfl,rfl,?_⟩|refine zB rfl (zn (ps:=(yA g)) zf rfl rfl rfl rfl rfl) rfl rfl ?_|refine AD.step _ _ _ _ _ rfl (zn (ps:=(yA g)) zf rfl rfl rfl rfl rfl) rfl rfl ?_|refine zX 4 3 rfl (by kernel_rfl) (by kernel_rfl) (by kernel_rfl) (by kernel_rfl) (by kernel_rfl) ?_|(refine shC ?_;first|refine qC cT ?_|refine qC (zM 8) ?_|refine qC (zC hn 10) ?_)|(refine zu ?_;first|(refine zo 0 zi rfl rfl (cp.ok hp) rfl rfl rfl rfl rfl ?_))|refine sK ?_|refine sC (fun _=>?_) (fun _=>?_)|fail)
               exact zV hw (yC (.inl rfl) tH)
            ·cases hn:ty.ref
             ·cases hf:Zx g ob ty
              ·rw [hf] at cfo
               have hw:(yt g m ⟨68,arg,t0⟩) l=.error 10:=by simp [yt,zx,zA,hC1,hC2,hC3,zI,emptyS,hms,hdd,hS8,hS9,hC10,hC11,hC12,zI,emptyS,hee,hC17,hC18,zI,emptyS,hr,hth,hn,hf]
               repeat' (first|refine zO 6 9 10 1 7 zf (by kernel_rfl) (by kernel_rfl) rfl rfl rfl rfl rfl rfl rfl rfl rfl rfl rfl rfl rfl rfl rfl rfl rfl rfl rfl rfl rfl rfl ?_|refine yh rfl rfl ?_|refine ⟨_,_,rfl,rfl,?_⟩|refine zB rfl (zn (ps:=(yA g)) zf rfl rfl rfl rfl rfl) rfl rfl ?_|refine AD.step _ _ _ _ _ rfl (zn (ps:=(yA g)) zf rfl rfl rfl rfl rfl) rfl rfl ?_|refine qy 14 13 12 rfl rfl (by kernel_rfl) (by kernel_rfl) (by kernel_rfl) (by kernel_rfl) (by kernel_rfl) ?_|refine zD ([]) zi rfl rfl rfl tH (zZ rfl 10) ?_|(refine shC ?_;first|refine qC cT ?_|refine qC cfo ?_)|refine sK ?_|refine sC (fun _=>?_) (fun _=>?_)|fail)
               exact zy hw
              ·rw [hf] at cfo
               cases hp:(yR m.max [t0]) l9 with
               | error er =>
                have hw:(yt g m ⟨68,arg,t0⟩) l=.error er:=by simp [yt,zx,zA,hC1,hC2,hC3,zI,emptyS,hms,hdd,hS8,hS9,hC10,hC11,hC12,zI,emptyS,hee,hC17,hC18,zI,emptyS,hr,hth,hn,hf,hp]
                repeat' (first|refine zq 16 3 rfl rfl rfl ?_|refine zD ((yN u ⟨g,m,ar,⟨68,arg,t0⟩⟩ l9)) zi rfl rfl rfl tH (cp.bad hp u) ?_|refine zO 6 9 10 1 7 zf (by kernel_rfl) (by kernel_rfl) rfl rfl rfl rfl rfl rfl rfl rfl rfl rfl rfl rfl rfl rfl rfl rfl rfl rfl rfl rfl rfl rfl ?_|refine yh rfl rfl ?_|refine ⟨_,_,rfl,rfl,?_⟩|refine zB rfl (zn (ps:=(yA g)) zf rfl rfl rfl rfl rfl) rfl rfl ?_|refine AD.step _ _ _ _ _ rfl (zn (ps:=(yA g)) zf rfl rfl rfl rfl rfl) rfl rfl ?_|refine zX 13 12 rfl (by kernel_rfl) (by kernel_rfl) (by kernel_rfl) (by kernel_rfl) (by kernel_rfl) ?_|(refine shC ?_;first|refine qC cT ?_|refine qC cfo ?_|refine qC (zC rfl 10) ?_)|refine sK ?_|refine sC (fun _=>?_) (fun _=>?_)|fail)
                exact zy hw
               | ok p =>
                obtain ⟨⟨⟩,lz⟩:=p
                have hw:(yt g m ⟨68,arg,t0⟩) l=.ok ((),lz):=by simp [yt,zx,zA,hC1,hC2,hC3,zI,emptyS,hms,hdd,hS8,hS9,hC10,hC11,hC12,zI,emptyS,hee,hC17,hC18,zI,emptyS,hr,hth,hn,hf,hp]
                repeat' (first|refine zO 6 9 10 1 7 zf (by kernel_rfl) (by kernel_rfl) rfl rfl rfl rfl rfl rfl rfl rfl rfl rfl rfl rfl rfl rfl rfl rfl rfl rfl rfl rfl rfl rfl ?_|refine yh rfl rfl ?_|refine ⟨_,_,rfl,rfl,?_⟩|refine zB rfl (zn (ps:=(yA g)) zf rfl rfl rfl rfl rfl) rfl rfl ?_|refine AD.step _ _ _ _ _ rfl (zn (ps:=(yA g)) zf rfl rfl rfl rfl rfl) rfl rfl ?_|refine zX 13 12 rfl (by kernel_rfl) (by kernel_rfl) (by kernel_rfl) (by kernel_rfl) (by kernel_rfl) ?_|(refine shC ?_;first|refine qC cT ?_|refine qC cfo ?_|refine qC (zC rfl 10) ?_)|(refine zu ?_;first|(refine zo 0 zi rfl rfl (cp.ok hp) rfl rfl rfl rfl rfl ?_))|refine sK ?_|refine sC (fun _=>?_) (fun _=>?_)|fail)
                exact zV hw (yC (.inl rfl) tH)
             ·have hw:(yt g m ⟨68,arg,t0⟩) l=.error 10:=by simp [yt,zx,zA,hC1,hC2,hC3,zI,emptyS,hms,hdd,hS8,hS9,hC10,hC11,hC12,zI,emptyS,hee,hC17,hC18,zI,emptyS,hr,hth,hn]
              repeat' (first|refine zO 6 9 10 1 7 zf (by kernel_rfl) (by kernel_rfl) rfl rfl rfl rfl rfl rfl rfl rfl rfl rfl rfl rfl rfl rfl rfl rfl rfl rfl rfl rfl rfl rfl ?_|refine yh rfl rfl ?_|refine ⟨_,_,rfl,rfl,?_⟩|refine zB rfl (zn (ps:=(yA g)) zf rfl rfl rfl rfl rfl) rfl rfl ?_|refine AD.step _ _ _ _ _ rfl (zn (ps:=(yA g)) zf rfl rfl rfl rfl rfl) rfl rfl ?_|refine qy 14 13 12 rfl rfl (by kernel_rfl) (by kernel_rfl) (by kernel_rfl) (by kernel_rfl) (by kernel_rfl) ?_|refine zD ([]) zi rfl rfl rfl tH (zZ (by simp [hn]) 10) ?_|(refine shC ?_;first|refine qC cT ?_)|refine sK ?_|refine sC (fun _=>?_) (fun _=>?_)|fail)
              exact zy hw
set_option maxHeartbeats 20000000
theorem zpZ (g:Img) (hF:Fm g) (m:Me) (ar:List Ty) (arg:Int) (t0:Ty) (l:List Ty) (hl:l.length≤100):XC 87 [] (⟨g,m,ar,⟨54,arg,t0⟩⟩:RC) (qI g m ⟨54,arg,t0⟩) uV l:=by
 intro u;refine zF zf Tryz.func87 rfl (by kernel_rfl) Tryz.ntmps87 (by simp) _ rfl (fun gB hw1=>?_)
 have cr:=ZR t0
 have cp:=yj ⟨g,m,ar,⟨54,arg,t0⟩⟩ l (by omega)
 rcases Zv l with hp|⟨t,l1,hp,_⟩
 ·have hw:(qI g m ⟨54,arg,t0⟩) l=.error 9:=by simp [qI,zx,hp]
  repeat' (first|refine Yd 6 5 1 ((1,.cell (.pv (yJ t0)))::zgd u) ⟨g,m,ar,⟨54,arg,t0⟩⟩ l l (tV t0) (some (flt 9)) rfl (by kernel_rfl) (by kernel_rfl) (by kernel_rfl) (by kernel_rfl) (by kernel_rfl) rfl (by kernel_rfl) rfl rfl tH rfl rfl (fun v hv=>by cases hv;exact zy hw) ?_|refine ⟨⟨rfl,zeL (u:=u) cp hp rfl rfl tH rfl⟩,?_⟩|refine zB rfl (zn (ps:=(yO t0)) zf rfl rfl rfl rfl rfl) rfl rfl ?_|refine AD.step _ _ _ _ _ rfl (zn (ps:=(yO t0)) zf rfl rfl rfl rfl rfl) rfl rfl ?_|(intro h;cases h)|(refine shC ?_;first|refine qC cr ?_)|refine sK ?_|refine sC (fun _=>?_) (fun _=>?_)|fail)
 ·have hl1:l1.length≤100:=by have:=Xb hp;omega
  cases hn:tyB t (rfT t0)
  ·have hw:(qI g m ⟨54,arg,t0⟩) l=.error 10:=by simp [qI,zx,hp,zI,hn]
   repeat' (first|refine Yd 6 5 1 ((1,.cell (.pv (yJ t0)))::zgd u) ⟨g,m,ar,⟨54,arg,t0⟩⟩ l l1 (tV t) none rfl (by kernel_rfl) (by kernel_rfl) (by kernel_rfl) (by kernel_rfl) (by kernel_rfl) rfl (by kernel_rfl) rfl rfl tH rfl rfl (fun v hv=>by cases hv) ?_|refine ⟨⟨rfl,VZ cp hp rfl rfl rfl rfl rfl rfl⟩,?_⟩|refine zB rfl (zn (ps:=(yO t0)) zf rfl rfl rfl rfl rfl) rfl rfl ?_|refine AD.step _ _ _ _ _ rfl (zn (ps:=(yO t0)) zf rfl rfl rfl rfl rfl) rfl rfl ?_|intro _|refine zD [] zi rfl rfl rfl tH (zZ hn 10) ?_|(refine shC ?_;first|refine qC cr ?_)|refine sK ?_|refine sC (fun _=>?_) (fun _=>?_)|fail)
   exact zy hw
  ·have cq:=zS ⟨g,m,ar,⟨54,arg,t0⟩⟩ [t0] l1 (by omega) (by simp)
   cases hq:(yR m.max [t0]) l1 with
   | error e =>
    have hw:(qI g m ⟨54,arg,t0⟩) l=.error e:=by simp [qI,zx,hp,zI,hn,hq]
    repeat' (first|refine zq 5 3 rfl rfl rfl ?_|refine zD ((yN u ⟨g,m,ar,⟨54,arg,t0⟩⟩ l1)) zi rfl rfl rfl tH (cq.bad hq u) ?_|refine Yd 6 5 1 ((1,.cell (.pv (yJ t0)))::zgd u) ⟨g,m,ar,⟨54,arg,t0⟩⟩ l l1 (tV t) none rfl (by kernel_rfl) (by kernel_rfl) (by kernel_rfl) (by kernel_rfl) (by kernel_rfl) rfl (by kernel_rfl) rfl rfl tH rfl rfl (fun v hv=>by cases hv) ?_|refine ⟨⟨rfl,VZ cp hp rfl rfl rfl rfl rfl rfl⟩,?_⟩|refine zB rfl (zn (ps:=(yO t0)) zf rfl rfl rfl rfl rfl) rfl rfl ?_|refine AD.step _ _ _ _ _ rfl (zn (ps:=(yO t0)) zf rfl rfl rfl rfl rfl) rfl rfl ?_|intro _|refine zfi ?_|(refine shC ?_;first|refine qC cr ?_|refine qC (zC hn 10) ?_)|refine sK ?_|refine sC (fun _=>?_) (fun _=>?_)|fail)
    exact zy hw
   | ok p =>
    obtain ⟨⟨⟩,l2⟩:=p
    have hw:(qI g m ⟨54,arg,t0⟩) l=.ok ((),l2):=by simp [qI,zx,hp,zI,hn,hq]
    repeat' (first|refine Yd 6 5 1 ((1,.cell (.pv (yJ t0)))::zgd u) ⟨g,m,ar,⟨54,arg,t0⟩⟩ l l1 (tV t) none rfl (by kernel_rfl) (by kernel_rfl) (by kernel_rfl) (by kernel_rfl) (by kernel_rfl) rfl (by kernel_rfl) rfl rfl tH rfl rfl (fun v hv=>by cases hv) ?_|refine ⟨⟨rfl,VZ cp hp rfl rfl rfl rfl rfl rfl⟩,?_⟩|refine zB rfl (zn (ps:=(yO t0)) zf rfl rfl rfl rfl rfl) rfl rfl ?_|refine AD.step _ _ _ _ _ rfl (zn (ps:=(yO t0)) zf rfl rfl rfl rfl rfl) rfl rfl ?_|intro _|refine zfi ?_|(refine shC ?_;first|refine qC cr ?_|refine qC (zC hn 10) ?_)|(refine zu ?_;first|(refine zo 0 zi rfl rfl (cq.ok hq) rfl rfl rfl rfl rfl ?_))|refine sK ?_|refine sC (fun _=>?_) (fun _=>?_)|fail)
    exact zV hw (yC (.inl rfl) tH)
theorem zpR (g:Img) (hF:Fm g) (m:Me) (ar:List Ty) (arg:Int) (t0:Ty) (l:List Ty) (hl:l.length≤100):XC 87 [] (⟨g,m,ar,⟨56,arg,t0⟩⟩:RC) (qI g m ⟨56,arg,t0⟩) uV l:=by
 intro u;refine zF zf Tryz.func87 rfl (by kernel_rfl) Tryz.ntmps87 (by simp) _ rfl (fun gB hw1=>?_)
 have cr:=ZR t0
 have cp:=yj ⟨g,m,ar,⟨56,arg,t0⟩⟩ l (by omega)
 rcases Zv l with hp|⟨t,l1,hp,_⟩
 ·have hw:(qI g m ⟨56,arg,t0⟩) l=.error 9:=by simp [qI,zx,hp]
  repeat' (first|refine Yd 6 5 1 ((1,.cell (.pv (yJ t0)))::zgd u) ⟨g,m,ar,⟨56,arg,t0⟩⟩ l l (tV t0) (some (flt 9)) rfl (by kernel_rfl) (by kernel_rfl) (by kernel_rfl) (by kernel_rfl) (by kernel_rfl) rfl (by kernel_rfl) rfl rfl tH rfl rfl (fun v hv=>by cases hv;exact zy hw) ?_|refine ⟨⟨rfl,zeL (u:=u) cp hp rfl rfl tH rfl⟩,?_⟩|refine zB rfl (zn (ps:=(yO t0)) zf rfl rfl rfl rfl rfl) rfl rfl ?_|refine AD.step _ _ _ _ _ rfl (zn (ps:=(yO t0)) zf rfl rfl rfl rfl rfl) rfl rfl ?_|(intro h;cases h)|(refine shC ?_;first|refine qC cr ?_)|refine sK ?_|refine sC (fun _=>?_) (fun _=>?_)|fail)
 ·have hl1:l1.length≤100:=by have:=Xb hp;omega
  cases hn:tyB t (rfT t0)
  ·have hw:(qI g m ⟨56,arg,t0⟩) l=.error 10:=by simp [qI,zx,hp,zI,hn]
   repeat' (first|refine Yd 6 5 1 ((1,.cell (.pv (yJ t0)))::zgd u) ⟨g,m,ar,⟨56,arg,t0⟩⟩ l l1 (tV t) none rfl (by kernel_rfl) (by kernel_rfl) (by kernel_rfl) (by kernel_rfl) (by kernel_rfl) rfl (by kernel_rfl) rfl rfl tH rfl rfl (fun v hv=>by cases hv) ?_|refine ⟨⟨rfl,VZ cp hp rfl rfl rfl rfl rfl rfl⟩,?_⟩|refine zB rfl (zn (ps:=(yO t0)) zf rfl rfl rfl rfl rfl) rfl rfl ?_|refine AD.step _ _ _ _ _ rfl (zn (ps:=(yO t0)) zf rfl rfl rfl rfl rfl) rfl rfl ?_|intro _|refine zD [] zi rfl rfl rfl tH (zZ hn 10) ?_|(refine shC ?_;first|refine qC cr ?_)|refine sK ?_|refine sC (fun _=>?_) (fun _=>?_)|fail)
   exact zy hw
  ·have hw:(qI g m ⟨56,arg,t0⟩) l=.ok ((),l1):=by simp [qI,zx,zA,hp,zI,hn]
   repeat' (first|refine Yd 6 5 1 ((1,.cell (.pv (yJ t0)))::zgd u) ⟨g,m,ar,⟨56,arg,t0⟩⟩ l l1 (tV t) none rfl (by kernel_rfl) (by kernel_rfl) (by kernel_rfl) (by kernel_rfl) (by kernel_rfl) rfl (by kernel_rfl) rfl rfl tH rfl rfl (fun v hv=>by cases hv) ?_|refine ⟨⟨rfl,VZ cp hp rfl rfl rfl rfl rfl rfl⟩,?_⟩|refine zB rfl (zn (ps:=(yO t0)) zf rfl rfl rfl rfl rfl) rfl rfl ?_|refine AD.step _ _ _ _ _ rfl (zn (ps:=(yO t0)) zf rfl rfl rfl rfl rfl) rfl rfl ?_|intro _|refine zfi ?_|(refine shC ?_;first|refine qC cr ?_|refine qC (zC hn 10) ?_)|refine sK ?_|refine sC (fun _=>?_) (fun _=>?_)|fail)
   exact zV hw (yC (.inl rfl) tH)
set_option maxHeartbeats 20000000
structure XOk (g:Img) (x:Ins):Prop where
 lo:1≤x.op
 hi:x.op≤75
 v:2≤x.op→x.op≤7→0≤x.arg
 m:(x.op=43∨x.op=44∨x.op=45∨x.op=67)→0≤x.arg∧x.arg.toNat < g.methods.length∧(mAt g x.arg).params.length≤100∧0≤(mAt g x.arg).owner∧(mAt g x.arg).owner.toNat < g.types.length
 f:48≤x.op→x.op≤53→0≤x.arg∧x.arg.toNat < g.fields.length
 a:57≤x.op→x.op≤61→0≤x.t.dims∧x.t.dims≤100
 p:∀ i:Int,0≤i→i.toNat < g.methods.length→(mAt g i).params.length≤100
 d:x.op=68→x.t.kind=5→x.t.dims=0→Yt g x.t.index=3→methodsOf g x.t.index≠[]
def zon {α:Type} (act:SM α):Prop:=∀ l p,act l=.ok p→p.2=[]
theorem VI {α β:Type} {x:SM α} {f:α→SM β} (h:∀ a,zon (f a)):zon (x >>= f):=fun l p hp=>by
 rw [zx] at hp
 split at hp
 ·cases hp
 ·exact h _ _ _ hp
theorem zby:zon zai:=fun l p h=>by cases h;rfl
theorem zm4 (g:Img) (m:Me) (op:Int):zon (Zm g m op):=by
 unfold Zm
 split
 ·exact VI fun _=>VI fun _=>zby
 ·split
  ·exact VI fun _=>VI fun _=>zby
  ·split
   ·exact VI fun _=>VI fun _=>zby
   ·exact zby
theorem zda {g:Img} {m:Me} {op:Int} {l:List Ty} {p:Unit × List Ty} (h:Zm g m op l=.ok p):p.2=[]:=zm4 g m op l p h
theorem zpn (c:RC) (hF:Fm c.g) (hgm:c.g.methods.length≤1000) (hx:XOk c.g c.x) (l:List Ty) (hl:l.length≤100) (h:2≤c.x.op∧c.x.op≤7):XC 82 [] c (qJ c.g c.ar c.m c.x) uV l:=by
 obtain ⟨g,m,ar,op,arg,t0⟩:=c
 have h:op=2∨op=3∨op=4∨op=5∨op=6∨op=7:=by simp only at h;omega
 rcases h with rfl|rfl|rfl|rfl|rfl|rfl
 ·exact zte g hF m ar arg t0 l hl (hx.v (by simp) (by simp))
 ·exact ztB g hF m ar arg t0 l hl (hx.v (by simp) (by simp))
 ·exact ztr g hF m ar arg t0 l hl (hx.v (by simp) (by simp))
 ·exact ztx g hF m ar arg t0 l hl (hx.v (by simp) (by simp))
 ·exact zts g hF m ar arg t0 l hl (hx.v (by simp) (by simp))
 ·exact ztl g hF m ar arg t0 l hl (hx.v (by simp) (by simp))
theorem zoI (c:RC) (hF:Fm c.g) (hgm:c.g.methods.length≤1000) (hx:XOk c.g c.x) (l:List Ty) (hl:l.length≤100) (h:13≤c.x.op∧c.x.op≤33):XC 83 [] c (qm c.g c.m c.x.op) uV l:=by
 obtain ⟨g,m,ar,op,arg,t0⟩:=c
 have h:(op=13∨op=14∨op=15∨op=16∨op=17∨op=18∨op=19∨op=20∨op=25∨op=26∨op=27)∨(op=21∨op=22)∨(op=23∨op=24)∨(op=28∨op=30)∨op=29∨op=31∨(op=32∨op=33):=by simp only at h;omega
 rcases h with h|h|h|h|rfl|rfl|h
 ·exact zso g hF m ar arg t0 l hl op h
 ·exact zsu g hF m ar arg t0 l hl op h
 ·exact zsp g hF m ar arg t0 l hl op h
 ·exact zsF g hF m ar arg t0 l hl op h
 ·exact zsq g hF m ar arg t0 l hl
 ·exact zsH g hF m ar arg t0 l hl
 ·exact zrX g hF m ar arg t0 l hl op h
theorem znk (c:RC) (hF:Fm c.g) (hgm:c.g.methods.length≤1000) (hx:XOk c.g c.x) (l:List Ty) (hl:l.length≤100) (h:34≤c.x.op∧c.x.op≤42):XC 84 [] c (Ze c.x.op) uV l:=by
 obtain ⟨g,m,ar,op,arg,t0⟩:=c
 have h:(op=35∨op=36)∨(op=37∨op=42)∨(op=38∨op=39∨op=40∨op=41)∨op=34:=by simp only at h;omega
 rcases h with h|h|h|rfl
 ·exact zq3 g hF m ar arg t0 l hl op h
 ·exact zrG g hF m ar arg t0 l hl op h
 ·exact zrD g hF m ar arg t0 l hl op h
 ·exact zqs g hF m ar arg t0 l hl
theorem zmY (c:RC) (hF:Fm c.g) (hgm:c.g.methods.length≤1000) (hx:XOk c.g c.x) (l:List Ty) (hl:l.length≤100) (h:43≤c.x.op∧c.x.op≤45):XC 85 [] c (qw c.g c.m c.x) uV l:=by
 obtain ⟨g,m,ar,op,arg,t0⟩:=c
 have h:op=43∨op=44∨op=45:=by simp only at h;omega
 rcases h with rfl|rfl|rfl
 ·exact zqL g hF m ar arg t0 l hl (hx.m (by simp)).1 (hx.m (by simp)).2.1 (hx.m (by simp)).2.2.1 (hx.m (by simp)).2.2.2.1 (hx.m (by simp)).2.2.2.2
 ·exact zqQ g hF m ar arg t0 l hl (hx.m (by simp)).1 (hx.m (by simp)).2.1 (hx.m (by simp)).2.2.1 (hx.m (by simp)).2.2.2.1 (hx.m (by simp)).2.2.2.2
 ·exact zq2 g hF m ar arg t0 l hl (hx.m (by simp)).1 (hx.m (by simp)).2.1 (hx.m (by simp)).2.2.1 (hx.m (by simp)).2.2.2.1 (hx.m (by simp)).2.2.2.2
theorem zll (c:RC) (hF:Fm c.g) (hgm:c.g.methods.length≤1000) (hx:XOk c.g c.x) (l:List Ty) (hl:l.length≤100) (h:48≤c.x.op∧c.x.op≤53):XC 86 [] c (yE c.g c.m c.x) uV l:=by
 obtain ⟨g,m,ar,op,arg,t0⟩:=c
 have h:op=48∨op=49∨op=50∨op=51∨op=52∨op=53:=by simp only at h;omega
 rcases h with rfl|rfl|rfl|rfl|rfl|rfl
 ·exact zpH g hF m ar arg t0 l hl (hx.f (by simp) (by simp)).1 (hx.f (by simp) (by simp)).2
 ·exact zpP g hF m ar arg t0 l hl (hx.f (by simp) (by simp)).1 (hx.f (by simp) (by simp)).2
 ·exact zp1 g hF m ar arg t0 l hl (hx.f (by simp) (by simp)).1 (hx.f (by simp) (by simp)).2
 ·exact zpT g hF m ar arg t0 l hl (hx.f (by simp) (by simp)).1 (hx.f (by simp) (by simp)).2
 ·exact zpL g hF m ar arg t0 l hl (hx.f (by simp) (by simp)).1 (hx.f (by simp) (by simp)).2
 ·exact zpw g hF m ar arg t0 l hl (hx.f (by simp) (by simp)).1 (hx.f (by simp) (by simp)).2
theorem zkn (c:RC) (hF:Fm c.g) (hgm:c.g.methods.length≤1000) (hx:XOk c.g c.x) (l:List Ty) (hl:l.length≤100) (h:57≤c.x.op∧c.x.op≤61):XC 88 [] c (yB c.g c.m c.x) uV l:=by
 obtain ⟨g,m,ar,op,arg,t0⟩:=c
 have h:op=57∨op=58∨op=59∨op=60∨op=61:=by simp only at h;omega
 rcases h with rfl|rfl|rfl|rfl|rfl
 ·exact zo1 g hF m ar arg t0 l hl (hx.a (by simp) (by simp)).1 (hx.a (by simp) (by simp)).2
 ·exact zpz g hF m ar arg t0 l hl
 ·exact zpM g hF m ar arg t0 l hl (hx.a (by simp) (by simp)).1 (hx.a (by simp) (by simp)).2
 ·exact zo6 g hF m ar arg t0 l hl (hx.a (by simp) (by simp)).1 (hx.a (by simp) (by simp)).2
 ·exact zph g hF m ar arg t0 l hl (hx.a (by simp) (by simp)).1 (hx.a (by simp) (by simp)).2
theorem zjS (c:RC) (hF:Fm c.g) (hgm:c.g.methods.length≤1000) (hx:XOk c.g c.x) (l:List Ty) (hl:l.length≤100) (h:62≤c.x.op∧c.x.op≤66):XC 89 [] c (yw c.g c.m c.x) uV l:=by
 obtain ⟨g,m,ar,op,arg,t0⟩:=c
 have h:op=62∨op=63∨op=64∨(op=65∨op=66):=by simp only at h;omega
 rcases h with rfl|rfl|rfl|h
 ·exact zmI g hF m ar arg t0 l hl
 ·exact znM g hF m ar arg t0 l hl
 ·exact zm5 g hF m ar arg t0 l hl
 ·exact znq g hF m ar arg t0 l hl op h
theorem zh9 (c:RC) (hF:Fm c.g) (hgm:c.g.methods.length≤1000) (hx:XOk c.g c.x) (l:List Ty) (hl:l.length≤100) (h:c.x.op=68):XC 90 [] c (yt c.g c.m c.x) uV l:=by
 obtain ⟨g,m,ar,op,arg,t0⟩:=c
 have h:op=68:=by simp only at h;omega
 subst h
 ·exact zlO g hF m ar arg t0 l hl hgm hx.p (hx.d rfl)
theorem zmm (c:RC) (hF:Fm c.g) (hgm:c.g.methods.length≤1000) (hx:XOk c.g c.x) (l:List Ty) (hl:l.length≤100) (h:c.x.op=1∨c.x.op=8∨c.x.op=9∨c.x.op=10∨c.x.op=11∨c.x.op=12∨c.x.op=47∨c.x.op=67∨c.x.op=74∨c.x.op=75):XC 92 [] c (yI c.g c.m c.x) uV l:=by
 obtain ⟨g,m,ar,op,arg,t0⟩:=c
 have h:op=8∨(op=9∨op=74)∨op=10∨op=11∨op=12∨op=75∨(op=1∨op=47)∨op=67:=by simp only at h;omega
 rcases h with rfl|h|rfl|rfl|rfl|rfl|h|rfl
 ·exact zp7 g hF m ar arg t0 l hl
 ·exact zqV g hF m ar arg t0 l hl op h
 ·exact zot g hF m ar arg t0 l hl
 ·exact zoL g hF m ar arg t0 l hl
 ·exact zoE g hF m ar arg t0 l hl
 ·exact zoT g hF m ar arg t0 l hl
 ·exact zqd g hF m ar arg t0 l hl op h
 ·exact zpa g hF m ar arg t0 l hl (hx.m (by simp)).1 (hx.m (by simp)).2.1
theorem zpA (c:RC) (hF:Fm c.g) (l:List Ty) (hl:l.length≤100) (h:c.x.op=46∨69≤c.x.op∧c.x.op≤73):XC 91 [] c (Zm c.g c.m c.x.op) uV l:=by
 obtain ⟨g,m,ar,op,arg,t0⟩:=c
 have h:op=46∨op=69∨op=73∨(op=70∨op=71∨op=72):=by simp only at h;omega
 rcases h with rfl|rfl|rfl|h
 ·exact zgt (fun _ h=>zda h) (zsc g hF m ar arg t0 l hl)
 ·exact zgt (fun _ h=>zda h) (zrY g hF m ar arg t0 l hl)
 ·exact zgt (fun _ h=>zda h) (zsz g hF m ar arg t0 l hl)
 ·exact zgt (fun _ h=>zda h) (zr8 g hF m ar arg t0 l hl op h)
theorem zk3 (c:RC) (hF:Fm c.g) (hgm:c.g.methods.length≤1000) (hx:XOk c.g c.x) (l:List Ty) (hl:l.length≤100) (h:54≤c.x.op∧c.x.op≤56):XC 87 [] c (qI c.g c.m c.x) uV l:=by
 obtain ⟨g,m,ar,op,arg,t0⟩:=c
 have h:op=54∨op=55∨op=56:=by simp only at h;omega
 rcases h with rfl|rfl|rfl
 ·exact zpZ g hF m ar arg t0 l hl
 ·exact zpf g hF m ar arg t0 l hl
 ·exact zpR g hF m ar arg t0 l hl
theorem zsw (c:RC) (hF:Fm c.g) (hgm:c.g.methods.length≤1000) (hx:XOk c.g c.x) (l:List Ty) (hl:l.length≤100) (h:2≤c.x.op∧c.x.op≤7):XC 55 [] c (doS c.g c.ar c.m c.x) uV l:=by
 intro u;refine zF zf Tryz.func55 rfl (by kernel_rfl) Tryz.ntmps55 (by simp) _ rfl (fun gB hw1=>?_)
 have cv:=zpn c hF hgm hx l hl h
 have hs:doS c.g c.ar c.m c.x l=(qJ c.g c.ar c.m c.x) l:=by
  unfold doS
  first
   | (rw [if_pos (by simp;omega)])
 cases hS:(qJ c.g c.ar c.m c.x) l with
 | error e =>
  repeat' (first|refine zq 3 1 rfl rfl rfl ?_|refine zD ((yN u c l)) zi rfl rfl rfl tH (cv.bad hS u) ?_|refine sK ?_|refine sC (fun _=>?_) (fun _=>?_)|fail)
  exact zy (hs.trans hS)
 | ok p =>
  obtain ⟨⟨⟩,l1⟩:=p
  repeat' (first|(refine zu ?_;first|(refine zo 0 zi rfl rfl (cv.ok hS) rfl rfl rfl rfl rfl ?_))|refine sK ?_|refine sC (fun _=>?_) (fun _=>?_)|fail)
  exact zV (hs.trans hS) (yC (.inl rfl) tH)
theorem zr0 (c:RC) (hF:Fm c.g) (hgm:c.g.methods.length≤1000) (hx:XOk c.g c.x) (l:List Ty) (hl:l.length≤100) (h:13≤c.x.op∧c.x.op≤33):XC 55 [] c (doS c.g c.ar c.m c.x) uV l:=by
 intro u;refine zF zf Tryz.func55 rfl (by kernel_rfl) Tryz.ntmps55 (by simp) _ rfl (fun gB hw1=>?_)
 have cv:=zoI c hF hgm hx l hl h
 have hs:doS c.g c.ar c.m c.x l=(qm c.g c.m c.x.op) l:=by
  unfold doS
  first
   | (rw [if_neg (by simp;omega)];rw [if_pos (by simp;omega)])
 cases hS:(qm c.g c.m c.x.op) l with
 | error e =>
  repeat' (first|refine zq 5 1 rfl rfl rfl ?_|refine zD ((yN u c l)) zi rfl rfl rfl tH (cv.bad hS u) ?_|refine sK ?_|refine sC (fun _=>?_) (fun _=>?_)|fail)
  exact zy (hs.trans hS)
 | ok p =>
  obtain ⟨⟨⟩,l1⟩:=p
  repeat' (first|(refine zu ?_;first|(refine zo 0 zi rfl rfl (cv.ok hS) rfl rfl rfl rfl rfl ?_))|refine sK ?_|refine sC (fun _=>?_) (fun _=>?_)|fail)
  exact zV (hs.trans hS) (yC (.inl rfl) tH)
theorem zqn (c:RC) (hF:Fm c.g) (hgm:c.g.methods.length≤1000) (hx:XOk c.g c.x) (l:List Ty) (hl:l.length≤100) (h:34≤c.x.op∧c.x.op≤42):XC 55 [] c (doS c.g c.ar c.m c.x) uV l:=by
 intro u;refine zF zf Tryz.func55 rfl (by kernel_rfl) Tryz.ntmps55 (by simp) _ rfl (fun gB hw1=>?_)
 have cv:=znk c hF hgm hx l hl h
 have hs:doS c.g c.ar c.m c.x l=(Ze c.x.op) l:=by
  unfold doS
  first
   | (rw [if_neg (by simp;omega)];rw [if_neg (by simp;omega)];rw [if_pos (by simp;omega)])
 cases hS:(Ze c.x.op) l with
 | error e =>
  repeat' (first|refine zq 7 1 rfl rfl rfl ?_|refine zD ((yN u c l)) zi rfl rfl rfl tH (cv.bad hS u) ?_|refine sK ?_|refine sC (fun _=>?_) (fun _=>?_)|fail)
  exact zy (hs.trans hS)
 | ok p =>
  obtain ⟨⟨⟩,l1⟩:=p
  repeat' (first|(refine zu ?_;first|(refine zo 0 zi rfl rfl (cv.ok hS) rfl rfl rfl rfl rfl ?_))|refine sK ?_|refine sC (fun _=>?_) (fun _=>?_)|fail)
  exact zV (hs.trans hS) (yC (.inl rfl) tH)
theorem zqT (c:RC) (hF:Fm c.g) (hgm:c.g.methods.length≤1000) (hx:XOk c.g c.x) (l:List Ty) (hl:l.length≤100) (h:43≤c.x.op∧c.x.op≤45):XC 55 [] c (doS c.g c.ar c.m c.x) uV l:=by
 intro u;refine zF zf Tryz.func55 rfl (by kernel_rfl) Tryz.ntmps55 (by simp) _ rfl (fun gB hw1=>?_)
 have cv:=zmY c hF hgm hx l hl h
 have hs:doS c.g c.ar c.m c.x l=(qw c.g c.m c.x) l:=by
  unfold doS
  first
   | (rw [if_neg (by simp;omega)];rw [if_neg (by simp;omega)];rw [if_neg (by simp;omega)];rw [if_pos (by simp;omega)])
 cases hS:(qw c.g c.m c.x) l with
 | error e =>
  repeat' (first|refine zq 9 1 rfl rfl rfl ?_|refine zD ((yN u c l)) zi rfl rfl rfl tH (cv.bad hS u) ?_|refine sK ?_|refine sC (fun _=>?_) (fun _=>?_)|fail)
  exact zy (hs.trans hS)
 | ok p =>
  obtain ⟨⟨⟩,l1⟩:=p
  repeat' (first|(refine zu ?_;first|(refine zo 0 zi rfl rfl (cv.ok hS) rfl rfl rfl rfl rfl ?_))|refine sK ?_|refine sC (fun _=>?_) (fun _=>?_)|fail)
  exact zV (hs.trans hS) (yC (.inl rfl) tH)
theorem zo2 (c:RC) (hF:Fm c.g) (hgm:c.g.methods.length≤1000) (hx:XOk c.g c.x) (l:List Ty) (hl:l.length≤100) (h:48≤c.x.op∧c.x.op≤53):XC 55 [] c (doS c.g c.ar c.m c.x) uV l:=by
 intro u;refine zF zf Tryz.func55 rfl (by kernel_rfl) Tryz.ntmps55 (by simp) _ rfl (fun gB hw1=>?_)
 have cv:=zll c hF hgm hx l hl h
 have hs:doS c.g c.ar c.m c.x l=(yE c.g c.m c.x) l:=by
  unfold doS
  first
   | (rw [if_neg (by simp;omega)];rw [if_neg (by simp;omega)];rw [if_neg (by simp;omega)];rw [if_neg (by simp;omega)];rw [if_pos (by simp;omega)])
 cases hS:(yE c.g c.m c.x) l with
 | error e =>
  repeat' (first|refine zq 11 1 rfl rfl rfl ?_|refine zD ((yN u c l)) zi rfl rfl rfl tH (cv.bad hS u) ?_|refine sK ?_|refine sC (fun _=>?_) (fun _=>?_)|fail)
  exact zy (hs.trans hS)
 | ok p =>
  obtain ⟨⟨⟩,l1⟩:=p
  repeat' (first|(refine zu ?_;first|(refine zo 0 zi rfl rfl (cv.ok hS) rfl rfl rfl rfl rfl ?_))|refine sK ?_|refine sC (fun _=>?_) (fun _=>?_)|fail)
  exact zV (hs.trans hS) (yC (.inl rfl) tH)
theorem zp2 (c:RC) (hF:Fm c.g) (hgm:c.g.methods.length≤1000) (hx:XOk c.g c.x) (l:List Ty) (hl:l.length≤100) (h:54≤c.x.op∧c.x.op≤56):XC 55 [] c (doS c.g c.ar c.m c.x) uV l:=by
 intro u;refine zF zf Tryz.func55 rfl (by kernel_rfl) Tryz.ntmps55 (by simp) _ rfl (fun gB hw1=>?_)
 have cv:=zk3 c hF hgm hx l hl h
 have hs:doS c.g c.ar c.m c.x l=(qI c.g c.m c.x) l:=by
  unfold doS
  first
   | (rw [if_neg (by simp;omega)];rw [if_neg (by simp;omega)];rw [if_neg (by simp;omega)];rw [if_neg (by simp;omega)];rw [if_neg (by simp;omega)];rw [if_pos (by simp;omega)])
 cases hS:(qI c.g c.m c.x) l with
 | error e =>
  repeat' (first|refine zq 13 1 rfl rfl rfl ?_|refine zD ((yN u c l)) zi rfl rfl rfl tH (cv.bad hS u) ?_|refine sK ?_|refine sC (fun _=>?_) (fun _=>?_)|fail)
  exact zy (hs.trans hS)
 | ok p =>
  obtain ⟨⟨⟩,l1⟩:=p
  repeat' (first|(refine zu ?_;first|(refine zo 0 zi rfl rfl (cv.ok hS) rfl rfl rfl rfl rfl ?_))|refine sK ?_|refine sC (fun _=>?_) (fun _=>?_)|fail)
  exact zV (hs.trans hS) (yC (.inl rfl) tH)
theorem zou (c:RC) (hF:Fm c.g) (hgm:c.g.methods.length≤1000) (hx:XOk c.g c.x) (l:List Ty) (hl:l.length≤100) (h:57≤c.x.op∧c.x.op≤61):XC 55 [] c (doS c.g c.ar c.m c.x) uV l:=by
 intro u;refine zF zf Tryz.func55 rfl (by kernel_rfl) Tryz.ntmps55 (by simp) _ rfl (fun gB hw1=>?_)
 have cv:=zkn c hF hgm hx l hl h
 have hs:doS c.g c.ar c.m c.x l=(yB c.g c.m c.x) l:=by
  unfold doS
  first
   | (rw [if_neg (by simp;omega)];rw [if_neg (by simp;omega)];rw [if_neg (by simp;omega)];rw [if_neg (by simp;omega)];rw [if_neg (by simp;omega)];rw [if_neg (by simp;omega)];rw [if_pos (by simp;omega)])
 cases hS:(yB c.g c.m c.x) l with
 | error e =>
  repeat' (first|refine zq 15 1 rfl rfl rfl ?_|refine zD ((yN u c l)) zi rfl rfl rfl tH (cv.bad hS u) ?_|refine sK ?_|refine sC (fun _=>?_) (fun _=>?_)|fail)
  exact zy (hs.trans hS)
 | ok p =>
  obtain ⟨⟨⟩,l1⟩:=p
  repeat' (first|(refine zu ?_;first|(refine zo 0 zi rfl rfl (cv.ok hS) rfl rfl rfl rfl rfl ?_))|refine sK ?_|refine sC (fun _=>?_) (fun _=>?_)|fail)
  exact zV (hs.trans hS) (yC (.inl rfl) tH)
theorem znm (c:RC) (hF:Fm c.g) (hgm:c.g.methods.length≤1000) (hx:XOk c.g c.x) (l:List Ty) (hl:l.length≤100) (h:62≤c.x.op∧c.x.op≤66):XC 55 [] c (doS c.g c.ar c.m c.x) uV l:=by
 intro u;refine zF zf Tryz.func55 rfl (by kernel_rfl) Tryz.ntmps55 (by simp) _ rfl (fun gB hw1=>?_)
 have cv:=zjS c hF hgm hx l hl h
 have hs:doS c.g c.ar c.m c.x l=(yw c.g c.m c.x) l:=by
  unfold doS
  first
   | (rw [if_neg (by simp;omega)];rw [if_neg (by simp;omega)];rw [if_neg (by simp;omega)];rw [if_neg (by simp;omega)];rw [if_neg (by simp;omega)];rw [if_neg (by simp;omega)];rw [if_neg (by simp;omega)];rw [if_pos (by simp;omega)])
 cases hS:(yw c.g c.m c.x) l with
 | error e =>
  repeat' (first|refine zq 17 1 rfl rfl rfl ?_|refine zD ((yN u c l)) zi rfl rfl rfl tH (cv.bad hS u) ?_|refine sK ?_|refine sC (fun _=>?_) (fun _=>?_)|fail)
  exact zy (hs.trans hS)
 | ok p =>
  obtain ⟨⟨⟩,l1⟩:=p
  repeat' (first|(refine zu ?_;first|(refine zo 0 zi rfl rfl (cv.ok hS) rfl rfl rfl rfl rfl ?_))|refine sK ?_|refine sC (fun _=>?_) (fun _=>?_)|fail)
  exact zV (hs.trans hS) (yC (.inl rfl) tH)
theorem zkF (c:RC) (hF:Fm c.g) (hgm:c.g.methods.length≤1000) (hx:XOk c.g c.x) (l:List Ty) (hl:l.length≤100) (h:c.x.op=68):XC 55 [] c (doS c.g c.ar c.m c.x) uV l:=by
 intro u;refine zF zf Tryz.func55 rfl (by kernel_rfl) Tryz.ntmps55 (by simp) _ rfl (fun gB hw1=>?_)
 have cv:=zh9 c hF hgm hx l hl h
 have hs:doS c.g c.ar c.m c.x l=(yt c.g c.m c.x) l:=by
  unfold doS
  first
   | (rw [if_neg (by simp;omega)];rw [if_neg (by simp;omega)];rw [if_neg (by simp;omega)];rw [if_neg (by simp;omega)];rw [if_neg (by simp;omega)];rw [if_neg (by simp;omega)];rw [if_neg (by simp;omega)];rw [if_neg (by simp;omega)];rw [if_pos (by simp;omega)])
 cases hS:(yt c.g c.m c.x) l with
 | error e =>
  repeat' (first|refine zq 19 1 rfl rfl rfl ?_|refine zD ((yN u c l)) zi rfl rfl rfl tH (cv.bad hS u) ?_|refine sK ?_|refine sC (fun _=>?_) (fun _=>?_)|fail)
  exact zy (hs.trans hS)
 | ok p =>
  obtain ⟨⟨⟩,l1⟩:=p
  repeat' (first|(refine zu ?_;first|(refine zo 0 zi rfl rfl (cv.ok hS) rfl rfl rfl rfl rfl ?_))|refine sK ?_|refine sC (fun _=>?_) (fun _=>?_)|fail)
  exact zV (hs.trans hS) (yC (.inl rfl) tH)
theorem zss (c:RC) (hF:Fm c.g) (hgm:c.g.methods.length≤1000) (hx:XOk c.g c.x) (l:List Ty) (hl:l.length≤100) (h:c.x.op=46∨69≤c.x.op∧c.x.op≤73):XC 55 [] c (doS c.g c.ar c.m c.x) uV l:=by
 intro u;refine zF zf Tryz.func55 rfl (by kernel_rfl) Tryz.ntmps55 (by simp) _ rfl (fun gB hw1=>?_)
 have cv:=zpA c hF l hl h
 rcases h with h|h
 all_goals
  skip
  have hs:doS c.g c.ar c.m c.x l=(Zm c.g c.m c.x.op) l:=by
   unfold doS
   first
    | (rw [if_neg (by simp;omega)];rw [if_neg (by simp;omega)];rw [if_neg (by simp;omega)];rw [if_neg (by simp;omega)];rw [if_neg (by simp;omega)];rw [if_neg (by simp;omega)];rw [if_neg (by simp;omega)];rw [if_neg (by simp;omega)];rw [if_neg (by simp;omega)];rw [if_pos (by simp;omega)])
  cases hS:(Zm c.g c.m c.x.op) l with
  | error e =>
   repeat' (first|refine zq 21 1 rfl rfl rfl ?_|refine zD ((yN u c l)) zi rfl rfl rfl tH (cv.bad hS u) ?_|refine sK ?_|refine sC (fun _=>?_) (fun _=>?_)|fail)
   exact zy (hs.trans hS)
  | ok p =>
   obtain ⟨⟨⟩,l1⟩:=p
   repeat' (first|(refine zu ?_;first|(refine zo 0 zi rfl rfl (cv.ok hS) rfl rfl rfl rfl rfl ?_))|refine sK ?_|refine sC (fun _=>?_) (fun _=>?_)|fail)
   exact zV (hs.trans hS) (yC (.inl rfl) tH)
theorem zpm (c:RC) (hF:Fm c.g) (hgm:c.g.methods.length≤1000) (hx:XOk c.g c.x) (l:List Ty) (hl:l.length≤100) (h:c.x.op=1∨c.x.op=8∨c.x.op=9∨c.x.op=10∨c.x.op=11∨c.x.op=12∨c.x.op=47∨c.x.op=67∨c.x.op=74∨c.x.op=75):XC 55 [] c (doS c.g c.ar c.m c.x) uV l:=by
 intro u;refine zF zf Tryz.func55 rfl (by kernel_rfl) Tryz.ntmps55 (by simp) _ rfl (fun gB hw1=>?_)
 have cv:=zmm c hF hgm hx l hl h
 have hs:doS c.g c.ar c.m c.x l=yI c.g c.m c.x l:=by
  unfold doS
  rcases h with h|h|h|h|h|h|h|h|h|h
  all_goals (rw [if_neg (by simp [h])];rw [if_neg (by simp [h])];rw [if_neg (by simp [h])];rw [if_neg (by simp [h])];rw [if_neg (by simp [h])];rw [if_neg (by simp [h])];rw [if_neg (by simp [h])];rw [if_neg (by simp [h])];rw [if_neg (by simp [h])];rw [if_neg (by simp [h])])
 cases hS:(yI c.g c.m c.x) l with
 | error e =>
  rcases h with h|h|h|h|h|h|h|h|h|h
  all_goals
   repeat' (first|refine zq 1 1 rfl rfl rfl ?_|refine zD ((yN u c l)) zi rfl rfl rfl tH (cv.bad hS u) ?_|refine sK ?_|refine sC (fun _=>?_) (fun _=>?_)|fail)
   exact zy (hs.trans hS)
 | ok p =>
  obtain ⟨⟨⟩,l1⟩:=p
  rcases h with h|h|h|h|h|h|h|h|h|h
  all_goals
   repeat' (first|(refine zu ?_;first|(refine zo 0 zi rfl rfl (cv.ok hS) rfl rfl rfl rfl rfl ?_))|refine sK ?_|refine sC (fun _=>?_) (fun _=>?_)|fail)
   exact zV (hs.trans hS) (yC (.inl rfl) tH)
theorem zr7 (c:RC) (hF:Fm c.g) (hgm:c.g.methods.length≤1000) (hx:XOk c.g c.x) (l:List Ty) (hl:l.length≤100):XC 55 [] c (doS c.g c.ar c.m c.x) uV l:=by
 have h1:=hx.lo
 have h2:=hx.hi
 by_cases h_vars:2≤c.x.op∧c.x.op≤7
 ·exact zsw c hF hgm hx l hl h_vars
 by_cases h_sums:13≤c.x.op∧c.x.op≤33
 ·exact zr0 c hF hgm hx l hl h_sums
 by_cases h_jumps:34≤c.x.op∧c.x.op≤42
 ·exact zqn c hF hgm hx l hl h_jumps
 by_cases h_calls:43≤c.x.op∧c.x.op≤45
 ·exact zqT c hF hgm hx l hl h_calls
 by_cases h_fields:48≤c.x.op∧c.x.op≤53
 ·exact zo2 c hF hgm hx l hl h_fields
 by_cases h_places:54≤c.x.op∧c.x.op≤56
 ·exact zp2 c hF hgm hx l hl h_places
 by_cases h_arrays:57≤c.x.op∧c.x.op≤61
 ·exact zou c hF hgm hx l hl h_arrays
 by_cases h_objects:62≤c.x.op∧c.x.op≤66
 ·exact znm c hF hgm hx l hl h_objects
 by_cases h_delegate:c.x.op=68
 ·exact zkF c hF hgm hx l hl h_delegate
 by_cases h_ends:c.x.op=46∨69≤c.x.op∧c.x.op≤73
 ·exact zss c hF hgm hx l hl h_ends
 exact zpm c hF hgm hx l hl (by omega)
end Go.Cg
