/- A part of the walks by abstract values: no statement of its own. -/
import Derived.Test.YtdbgicaoddibdaaGreatT28
import Derived.Test.YtdbgicaoddibdaaGreatT15
set_option linter.unusedVariables false
set_option linter.unusedSimpArgs false
namespace Go.Cg
open Go.Proofs
theorem zlD {a b:List Ty} {k:Nat} (ha:k < a.length) (hb:k < b.length):sameAll (a.drop k) (b.drop k)=(tyB a[k] b[k]&&sameAll (a.drop (k + 1)) (b.drop (k + 1))):=by
 rw [List.drop_eq_getElem_cons ha,List.drop_eq_getElem_cons hb];rfl
theorem zmn {a b:List Ty} {k:Nat} (ha:a.length≤k):sameAll (a.drop k) (b.drop k)=true:=by
 rw [List.drop_eq_nil_of_le ha];rfl
theorem zwk41 {G:Prop} (h:G:=by repeat' (first|(have:=b0;refine qH 1 19 18 rfl rfl zws zws zws zws zws ?_)|(have:=b1;refine zD ([]) zh rfl rfl rfl tH (yc zwy66 8) ?_)|(have:=b2;refine zD ([]) zh rfl rfl rfl tH (yc zwy95 8) ?_)|(have:=b3;refine zD ([]) zh rfl rfl rfl tH (yc zwy73 8) ?_)|(have:=b4;refine zl 3 1 rfl rfl rfl ?_)|(have:=b4;refine zD ((yN u ⟨g,m,ar,⟨68,arg,t0⟩⟩ l)) zh rfl rfl rfl tH ((yg ⟨g,m,ar,⟨68,arg,t0⟩⟩ _ zwy62).bad hS8 u) ?_)|(have:=b5;refine zl 3 3 rfl rfl rfl ?_)|(have:=b5;refine zD ((yN u ⟨g,m,ar,⟨68,arg,t0⟩⟩ l8)) zh rfl rfl rfl tH ((yg ⟨g,m,ar,⟨68,arg,t0⟩⟩ _ zwy62).bad hS9 u) ?_)|(have:=b6;refine qH 4 22 21 rfl rfl zws zws zws zws zws ?_)|(have:=b7;refine zD ([]) zh rfl rfl rfl tH (yc (by first|rfl|assumption|simp [hC1,hC2,hC3,hC10]) 10) ?_)|(have:=b8;refine zD ([]) zh rfl rfl rfl tH (yc (by first|rfl|assumption|simp [hC1,hC2,hC3,hC10,hC11]) 10) ?_)|(have:=b9;refine zD ([]) zh rfl rfl rfl tH (yc zwy76 10) ?_)|(have:=b10;refine zV 19 18 rfl zws zws zws zws zws ?_)|(have:=b10;refine zN 2 16 0 zf rfl zws zws zws rfl rfl rfl rfl rfl rfl rfl rfl rfl rfl rfl rfl rfl rfl (fun _=>rfl) rfl rfl rfl ?_)|(have:=b11;refine qH 10 12 11 rfl rfl zws zws zws zws zws ?_)|(have:=b11;refine zD ([]) zh rfl rfl rfl tH (yc hb 10) ?_)|(have:=b12;refine zV 12 11 rfl zws zws zws zws zws ?_)|(have:=b13;refine zl 16 3 rfl rfl rfl ?_)|(have:=b13;refine zD ((yN u ⟨g,m,ar,⟨68,arg,t0⟩⟩ l9)) zh rfl rfl rfl tH (cp.bad hp u) ?_)|(have:=b14;refine zN 6 9 0 zf rfl zws zws zws rfl rfl rfl rfl rfl rfl rfl rfl rfl rfl rfl rfl rfl rfl (fun _=>rfl) rfl rfl rfl ?_)|(have:=b15;refine ⟨_,_,rfl,rfl,rfl,?_⟩)|(have:=b16;refine zy rfl (aj (ps:=(yO t0))) rfl rfl ?_)|(have:=b16;refine zq rfl (aj (ps:=(yO t0))) rfl rfl ?_)|(have:=b17;refine zy rfl (aj (ps:=(zZ g))) rfl rfl ?_)|(have:=b17;refine zq rfl (aj (ps:=(zZ g))) rfl rfl ?_)|(have:=b18;refine qH 15 4 3 rfl rfl zws zws zws zws zws ?_)|(have:=b18;refine zD ([]) zh rfl rfl rfl tH (yc hn 10) ?_)|(have:=b19;refine zV 4 3 rfl zws zws zws zws zws ?_)|(have:=b20;refine qH 14 13 12 rfl rfl zws zws zws zws zws ?_)|(have:=b21;refine zD ([]) zh rfl rfl rfl tH (yc rfl 10) ?_)|(have:=b22;refine zV 13 12 rfl zws zws zws zws zws ?_)|(have:=b23;refine zD ([]) zh rfl rfl rfl tH (yc (by simp [hn]) 10) ?_)|(refine shC ?_;first|(have:=b10;refine zy rfl (zJ rfl rfl (zH zwy73 8)) rfl rfl ?_)|(have:=b10;refine zq rfl (zJ rfl rfl (zH zwy73 8)) rfl rfl ?_)|(have:=b10;refine qC cm ?_)|(have:=b16;refine qC ck ?_)|(have:=b12;refine qC (zH hb 10) ?_)|(have:=b14;refine qC cT ?_)|(have:=b24;refine qC (zQ 8) ?_)|(have:=b19;refine qC (zH hn 10) ?_)|(have:=b25;refine qC cfo ?_)|(have:=b22;refine qC (zH rfl 10) ?_))|(refine shX ?_;first|(have:=b10;refine zy rfl (zo zf rfl rfl rfl rfl rfl rfl zwy67 hm0) rfl rfl ?_)|(have:=b10;refine zq rfl (zo zf rfl rfl rfl rfl rfl rfl zwy67 hm0) rfl rfl ?_)|(have:=b10;refine zy rfl (ah hk0.1 hek) rfl rfl ?_)|(have:=b10;refine zq rfl (ah hk0.1 hek) rfl rfl ?_)|(have:=b26;refine qX he1 ?_)|(have:=b26;refine qX he2 ?_))|(have:=b5;refine zn ?_;first|(refine zu 0 zh rfl rfl ((yg ⟨g,m,ar,⟨68,arg,t0⟩⟩ _ zwy62).ok hS8) rfl rfl rfl rfl rfl ?_))|(have:=b6;refine zn ?_;first|(refine zu 0 zh rfl rfl ((yg ⟨g,m,ar,⟨68,arg,t0⟩⟩ _ zwy62).ok hS8) rfl rfl rfl rfl rfl ?_)|(refine zu 0 zh rfl rfl ((yg ⟨g,m,ar,⟨68,arg,t0⟩⟩ _ zwy62).ok hS9) rfl rfl rfl rfl rfl ?_))|(have:=b27;refine zn ?_;first|(refine aA 0 (cp.ok hp) ?_))|refine sK ?_|refine sC (fun _=>?_) (fun _=>?_)|exact zF hw|exact ⟨k + 1,⟨hlt,hr⟩,tD,tS,tH⟩|exact zX hw (yw (.inl rfl) tH)|fail)):G:=h
set_option maxHeartbeats 4000000 in
theorem znY (g:Img) (hF:Fm g) (m:Me) (ar:List Ty) (arg:Int) (t0:Ty) (l:List Ty) (hl:l.length≤100) (hgm:g.methods.length≤1000) (hpe:∀ i:Int,0≤i→i.toNat < g.methods.length→(mAt g i).params.length≤100) (hd:t0.kind=5→t0.dims=0→Yh g t0.index=3→methodsOf g t0.index≠[]):XC 84 [] (⟨g,m,ar,⟨68,arg,t0⟩⟩:RC) (yu g m ⟨68,arg,t0⟩) uV l:=by
 intro u;refine zI zf Tryz.func84 rfl zws Tryz.ntmps84 zwy63 _ rfl (fun gB hw1=>?_);have ck:=Qb g t0.index;cases hC1:(t0.kind==5)
 ·skip;have hw:(yu g m ⟨68,arg,t0⟩) l=.error 8:=by simp [yu,zB,zG,hC1,zL,emptyS]
  have b0:=();have b1:=();have b16:=();have b17:=();exact zwk41
 ·skip;cases hC2:(t0.dims==0)
  ·skip;have hw:(yu g m ⟨68,arg,t0⟩) l=.error 8:=by simp [yu,zB,zG,hC1,hC2,zL,emptyS]
   have b0:=();have b2:=();have b16:=();have b17:=();exact zwk41
  ·skip;cases hC3:(Yh g t0.index==3)
   ·skip;have hw:(yu g m ⟨68,arg,t0⟩) l=.error 8:=by simp [yu,zB,zG,hC1,hC2,hC3,zL,emptyS]
    have b0:=();have b3:=();have b16:=();have b17:=();exact zwk41
   ·skip;have hne:=hd (by simpa using hC1) (by simpa using hC2) (by simpa using hC3);obtain ⟨k0,ks,hms⟩:∃ k0 ks,methodsOf g t0.index=k0::ks:=by cases hm:methodsOf g t0.index with|nil=>exact absurd hm hne|cons a b=>exact ⟨a,b,rfl⟩
    have hk0:=qO (g:=g) (t:=t0.index) (i:=k0) (by rw [hms];simp);have cm:=YG g t0.index zwy62;rw [hms] at cm;have hm0:((k0::ks).map pi)[(0:Int).toNat]?=some (pi k0):=rfl;have hek:(g.methods.map yh)[k0.toNat]?=some (yh (mAt g k0)):=by rw [mAt,zT hk0.2];exact zY hk0.2
    obtain ⟨d,hdd⟩:∃ d,mAt g k0=d:=⟨_,rfl⟩
    rw [hdd] at hek;cases hS8:(YU) l with
    | error e =>
     have hw:(yu g m ⟨68,arg,t0⟩) l=.error e:=by simp [yu,zB,zG,hC1,hC2,hC3,zL,emptyS,hms,hdd,hS8]
     have b4:=();have b10:=();have b15:=();have b16:=();have b17:=();exact zwk41
    | ok p =>
     obtain ⟨f,l8⟩:=p;have hl8:l8.length≤100:=by have:=Xx hS8;omega
     cases hS9:(YU) l8 with
     | error e =>
      have hw:(yu g m ⟨68,arg,t0⟩) l=.error e:=by simp [yu,zB,zG,hC1,hC2,hC3,zL,emptyS,hms,hdd,hS8,hS9]
      have b5:=();have b10:=();have b15:=();have b16:=();have b17:=();exact zwk41
     | ok p =>
      obtain ⟨ob,l9⟩:=p;have hl9:l9.length≤100:=by have:=Xx hS9;omega
      cases hC10:(tyB f ⟨9,f.index,0,false⟩)
      ·skip;have hT:(f.kind==9&&(f.index==f.index&&(f.dims==0&&(f.ref==false&&true))))=false:=hC10;have hw:(yu g m ⟨68,arg,t0⟩) l=.error 10:=by simp [yu,zB,zG,hC1,hC2,hC3,zL,emptyS,hms,hdd,hS8,hS9,hC10,zL,emptyS]
       have b6:=();have b7:=();have b10:=();have b15:=();have b16:=();have b17:=();exact zwk41
      ·skip;have hT:(f.kind==9&&(f.index==f.index&&(f.dims==0&&(f.ref==false&&true))))=true:=hC10;cases hC11:(decide (0≤f.index))
       ·skip;have hP:=hC11;simp only [decide_eq_true_eq,decide_eq_false_iff_not] at hP;have hw:(yu g m ⟨68,arg,t0⟩) l=.error 10:=by simp [yu,zB,zG,hC1,hC2,hC3,zL,emptyS,hms,hdd,hS8,hS9,hC10,hC11,zL,emptyS]
        have b6:=();have b8:=();have b10:=();have b15:=();have b16:=();have b17:=();exact zwk41
       ·skip;have hP:=hC11;simp only [decide_eq_true_eq,decide_eq_false_iff_not] at hP;cases hC12:(decide (f.index < g.methods.length))
        ·skip;have hP:=hC12;simp only [decide_eq_true_eq,decide_eq_false_iff_not] at hP;have hw:(yu g m ⟨68,arg,t0⟩) l=.error 10:=by simp [yu,zB,zG,hC1,hC2,hC3,zL,emptyS,hms,hdd,hS8,hS9,hC10,hC11,hC12,zL,emptyS]
         have b6:=();have b9:=();have b10:=();have b15:=();have b16:=();have b17:=();exact zwk41
        ·skip;have hP:=hC12;simp only [decide_eq_true_eq,decide_eq_false_iff_not] at hP;have hf0:0≤f.index:=by assumption
         have hfl:f.index.toNat < g.methods.length:=by omega
         have hfe:(g.methods.map yh)[f.index.toNat]?=some (yh (mAt g f.index)):=by rw [mAt,zT hfl];exact zY hfl
         obtain ⟨e,hee⟩:∃ e,mAt g f.index=e:=⟨_,rfl⟩
         have hpl:e.params.length≤100:=hee ▸ hpe f.index hf0 hfl;rw [hee] at hfe;cases hC17:(tyB e.ret d.ret)
         ·skip;have hR:(e.ret.kind==d.ret.kind&&(e.ret.index==d.ret.index&&(e.ret.dims==d.ret.dims&&(e.ret.ref==d.ret.ref&&true))))=false:=hC17;have hw:(yu g m ⟨68,arg,t0⟩) l=.error 10:=by simp [yu,zB,zG,hC1,hC2,hC3,zL,emptyS,hms,hdd,hS8,hS9,hC10,hC11,hC12,zL,emptyS,hee,hC17,zL,emptyS]
          repeat' (first|refine zl 6 14 rfl rfl rfl ?_|refine zD ([]) zh rfl rfl rfl tH (yc (by first|rfl|assumption|simp [hC1,hC2,hC3,hC10,hC11,hC12,hC17]) 10) ?_|refine zV 19 18 rfl zws zws zws zws zws ?_|refine zN 2 16 0 zf rfl zws zws zws rfl rfl rfl rfl rfl rfl rfl rfl rfl rfl rfl rfl rfl rfl (fun _=>rfl) rfl rfl rfl ?_|refine ⟨_,_,rfl,rfl,rfl,?_⟩|refine zV 22 21 rfl zws zws zws zws zws ?_|refine zN 5 9 0 zf rfl zws zws zws rfl rfl rfl rfl rfl rfl rfl rfl rfl rfl rfl rfl rfl rfl (fun _=>rfl) rfl rfl rfl ?_|refine ⟨_,_,rfl,rfl,rfl,?_⟩|refine zy rfl (aj (ps:=(yO t0))) rfl rfl ?_|refine zq rfl (aj (ps:=(yO t0))) rfl rfl ?_|refine zy rfl (aj (ps:=(zZ g))) rfl rfl ?_|refine zq rfl (aj (ps:=(zZ g))) rfl rfl ?_|(refine shC ?_;first|refine zy rfl (zJ rfl rfl (zH zwy73 8)) rfl rfl ?_|refine zq rfl (zJ rfl rfl (zH zwy73 8)) rfl rfl ?_|refine qC cm ?_|refine zy rfl (zJ rfl rfl (zH zwy76 10)) rfl rfl ?_|refine zq rfl (zJ rfl rfl (zH zwy76 10)) rfl rfl ?_|refine qC ck ?_)|(refine shX ?_;first|refine zy rfl (zo zf rfl rfl rfl rfl rfl rfl zwy67 hm0) rfl rfl ?_|refine zq rfl (zo zf rfl rfl rfl rfl rfl rfl zwy67 hm0) rfl rfl ?_|refine zy rfl (ah hk0.1 hek) rfl rfl ?_|refine zq rfl (ah hk0.1 hek) rfl rfl ?_|refine zy rfl (ah hf0 hfe) rfl rfl ?_|refine zq rfl (ah hf0 hfe) rfl rfl ?_)|(refine zn ?_;first|(refine zu 0 zh rfl rfl ((yg ⟨g,m,ar,⟨68,arg,t0⟩⟩ _ zwy62).ok hS8) rfl rfl rfl rfl rfl ?_)|(refine zu 0 zh rfl rfl ((yg ⟨g,m,ar,⟨68,arg,t0⟩⟩ _ zwy62).ok hS9) rfl rfl rfl rfl rfl ?_))|refine sK ?_|refine sC (fun _=>?_) (fun _=>?_)|fail)
          exact zF hw
         ·skip;have hR:(e.ret.kind==d.ret.kind&&(e.ret.index==d.ret.index&&(e.ret.dims==d.ret.dims&&(e.ret.ref==d.ret.ref&&true))))=true:=hC17;cases hC18:(e.params.length==d.params.length)
          ·skip;have hL:((((e.params.map yJ).length:Nat):Int)==(((d.params.map yJ).length:Nat):Int))=false:=by rw [←hC18,Bool.eq_iff_iff];simp only [List.length_map,beq_iff_eq];omega
           have hw:(yu g m ⟨68,arg,t0⟩) l=.error 10:=by simp [yu,zB,zG,hC1,hC2,hC3,zL,emptyS,hms,hdd,hS8,hS9,hC10,hC11,hC12,zL,emptyS,hee,hC17,hC18,zL,emptyS]
           repeat' (first|refine zl 6 14 rfl rfl rfl ?_|refine zD ([]) zh rfl rfl rfl tH (yc zwy92 10) ?_|refine zV 19 18 rfl zws zws zws zws zws ?_|refine zN 2 16 0 zf rfl zws zws zws rfl rfl rfl rfl rfl rfl rfl rfl rfl rfl rfl rfl rfl rfl (fun _=>rfl) rfl rfl rfl ?_|refine ⟨_,_,rfl,rfl,rfl,?_⟩|refine zV 22 21 rfl zws zws zws zws zws ?_|refine zN 5 9 0 zf rfl zws zws zws rfl rfl rfl rfl rfl rfl rfl rfl rfl rfl rfl rfl rfl rfl (fun _=>rfl) rfl rfl rfl ?_|refine ⟨_,_,rfl,rfl,rfl,?_⟩|refine zy rfl (aj (ps:=(yO t0))) rfl rfl ?_|refine zq rfl (aj (ps:=(yO t0))) rfl rfl ?_|refine zy rfl (aj (ps:=(zZ g))) rfl rfl ?_|refine zq rfl (aj (ps:=(zZ g))) rfl rfl ?_|(refine shC ?_;first|refine zy rfl (zJ rfl rfl (zH zwy73 8)) rfl rfl ?_|refine zq rfl (zJ rfl rfl (zH zwy73 8)) rfl rfl ?_|refine qC cm ?_|refine zy rfl (zJ rfl rfl (zH zwy76 10)) rfl rfl ?_|refine zq rfl (zJ rfl rfl (zH zwy76 10)) rfl rfl ?_|refine qC ck ?_)|(refine shX ?_;first|refine zy rfl (zo zf rfl rfl rfl rfl rfl rfl zwy67 hm0) rfl rfl ?_|refine zq rfl (zo zf rfl rfl rfl rfl rfl rfl zwy67 hm0) rfl rfl ?_|refine zy rfl (ah hk0.1 hek) rfl rfl ?_|refine zq rfl (ah hk0.1 hek) rfl rfl ?_|refine zy rfl (ah hf0 hfe) rfl rfl ?_|refine zq rfl (ah hf0 hfe) rfl rfl ?_)|(refine zn ?_;first|(refine zu 0 zh rfl rfl ((yg ⟨g,m,ar,⟨68,arg,t0⟩⟩ _ zwy62).ok hS8) rfl rfl rfl rfl rfl ?_)|(refine zu 0 zh rfl rfl ((yg ⟨g,m,ar,⟨68,arg,t0⟩⟩ _ zwy62).ok hS9) rfl rfl rfl rfl rfl ?_))|refine sK ?_|refine sC (fun _=>?_) (fun _=>?_)|fail)
           exact zF hw
          ·skip;have hL:((((e.params.map yJ).length:Nat):Int)==(((d.params.map yJ).length:Nat):Int))=true:=by rw [←hC18,Bool.eq_iff_iff];simp only [List.length_map,beq_iff_eq];omega
           have hlen:e.params.length=d.params.length:=by simpa using (by assumption:(e.params.length==d.params.length)=true)
           repeat' (first|refine zV 19 18 rfl zws zws zws zws zws ?_|refine zN 2 16 0 zf rfl zws zws zws rfl rfl rfl rfl rfl rfl rfl rfl rfl rfl rfl rfl rfl rfl (fun _=>rfl) rfl rfl rfl ?_|refine ⟨_,_,rfl,rfl,rfl,?_⟩|refine zV 22 21 rfl zws zws zws zws zws ?_|refine zN 5 9 0 zf rfl zws zws zws rfl rfl rfl rfl rfl rfl rfl rfl rfl rfl rfl rfl rfl rfl (fun _=>rfl) rfl rfl rfl ?_|refine ⟨_,_,rfl,rfl,rfl,?_⟩|refine zy rfl (aj (ps:=(yO t0))) rfl rfl ?_|refine zq rfl (aj (ps:=(yO t0))) rfl rfl ?_|refine zy rfl (aj (ps:=(zZ g))) rfl rfl ?_|refine zq rfl (aj (ps:=(zZ g))) rfl rfl ?_|(refine shC ?_;first|refine zy rfl (zJ rfl rfl (zH zwy73 8)) rfl rfl ?_|refine zq rfl (zJ rfl rfl (zH zwy73 8)) rfl rfl ?_|refine qC cm ?_|refine zy rfl (zJ rfl rfl (zH zwy76 10)) rfl rfl ?_|refine zq rfl (zJ rfl rfl (zH zwy76 10)) rfl rfl ?_|refine zy rfl (zJ rfl rfl (zH zwy92 10)) rfl rfl ?_|refine zq rfl (zJ rfl rfl (zH zwy92 10)) rfl rfl ?_|refine qC ck ?_)|(refine shX ?_;first|refine zy rfl (zo zf rfl rfl rfl rfl rfl rfl zwy67 hm0) rfl rfl ?_|refine zq rfl (zo zf rfl rfl rfl rfl rfl rfl zwy67 hm0) rfl rfl ?_|refine zy rfl (ah hk0.1 hek) rfl rfl ?_|refine zq rfl (ah hk0.1 hek) rfl rfl ?_|refine zy rfl (ah hf0 hfe) rfl rfl ?_|refine zq rfl (ah hf0 hfe) rfl rfl ?_)|(refine zn ?_;first|(refine zu 0 zh rfl rfl ((yg ⟨g,m,ar,⟨68,arg,t0⟩⟩ _ zwy62).ok hS8) rfl rfl rfl rfl rfl ?_)|(refine zu 0 zh rfl rfl ((yg ⟨g,m,ar,⟨68,arg,t0⟩⟩ _ zwy62).ok hS9) rfl rfl rfl rfl rfl ?_))|refine sK ?_|refine sC (fun _=>?_) (fun _=>?_)|fail)
           refine zW (fun k:Nat=>[(0,.box 0 0),(2,.box 1 0),(3,.box 2 0),(4,.box 3 0),(5,.box 4 0),(6,.box 5 0),(102,.pv (pi e.params.length)),(103,.pv (pi k))]) (fun _=>[(0,XM ⟨g,m,ar,⟨68,arg,t0⟩⟩ l9),(1,.cell (.pv (yJ t0))),(2,.cell (.pv (yh d))),(3,.cell (.pv (yJ f))),(4,.cell (.pv (yJ ob))),(5,.cell (.pv (yh e))),(1000,.pin (.own 0) u)]) (fun k=>k≤e.params.length∧sameAll e.params d.params=sameAll (e.params.drop k) (d.params.drop k)) (fun k=>e.params.length - k) 0 ⟨by omega,rfl⟩ (by repeat (first|exact qh|refine yU rfl ?_|(refine ZF rfl ?_ ?_;· (simp)))) tH ?_;rintro k ⟨hk,hr⟩;by_cases hlt:k < e.params.length
           ·have hlt2:k < d.params.length:=by omega
            have he1:=zY (f:=yJ) hlt;have he2:=zY (f:=yJ) hlt2;rw [zlD hlt hlt2] at hr;cases hb:tyB e.params[k] d.params[k]
            ·rw [hb,Bool.false_and] at hr;have hw:(yu g m ⟨68,arg,t0⟩) l=.error 10:=by simp [yu,zB,zG,hC1,hC2,hC3,zL,emptyS,hms,hdd,hS8,hS9,hC10,hC11,hC12,zL,emptyS,hee,hC17,hC18,zL,emptyS,hr]
             have b11:=();have b26:=();exact zwk41
            ·rw [hb,Bool.true_and] at hr;have b12:=();have b26:=();exact zwk41
           ·rw [zmn zwy62] at hr;have cT:=zj6 g e;have cfo:=XF g ob (VK (Yh g e.owner) (qL e.flags 1) e.owner).1 hF;obtain ⟨th,hth⟩:∃ th,VK (Yh g e.owner) (qL e.flags 1) e.owner=th:=⟨_,rfl⟩
            rw [hth] at cT cfo;obtain ⟨ty,isT⟩:=th;have cp:=zU ⟨g,m,ar,⟨68,arg,t0⟩⟩ [t0] l9 zwy62 zwy63;cases isT
            ·cases hn:tyB ob (kTy 8)
             ·have hw:(yu g m ⟨68,arg,t0⟩) l=.error 10:=by simp [yu,zB,zG,hC1,hC2,hC3,zL,emptyS,hms,hdd,hS8,hS9,hC10,hC11,hC12,zL,emptyS,hee,hC17,hC18,zL,emptyS,hr,hth,hn]
              have b14:=();have b15:=();have b17:=();have b18:=();have b24:=();exact zwk41
             ·cases hp:(yX m.max [t0]) l9 with
              | error er =>
               have hw:(yu g m ⟨68,arg,t0⟩) l=.error er:=by simp [yu,zB,zG,hC1,hC2,hC3,zL,emptyS,hms,hdd,hS8,hS9,hC10,hC11,hC12,zL,emptyS,hee,hC17,hC18,zL,emptyS,hr,hth,hn,hp]
               have b13:=();have b14:=();have b15:=();have b17:=();have b19:=();have b24:=();exact zwk41
              | ok p =>
               obtain ⟨⟨⟩,lz⟩:=p;have hw:(yu g m ⟨68,arg,t0⟩) l=.ok ((),lz):=by simp [yu,zB,zG,hC1,hC2,hC3,zL,emptyS,hms,hdd,hS8,hS9,hC10,hC11,hC12,zL,emptyS,hee,hC17,hC18,zL,emptyS,hr,hth,hn,hp]
               have b14:=();have b15:=();have b17:=();have b19:=();have b24:=();have b27:=();exact zwk41
            ·cases hn:ty.ref
             ·cases hf:ZO g ob ty
              ·rw [hf] at cfo;have hw:(yu g m ⟨68,arg,t0⟩) l=.error 10:=by simp [yu,zB,zG,hC1,hC2,hC3,zL,emptyS,hms,hdd,hS8,hS9,hC10,hC11,hC12,zL,emptyS,hee,hC17,hC18,zL,emptyS,hr,hth,hn,hf]
               have b14:=();have b15:=();have b17:=();have b20:=();have b21:=();have b25:=();exact zwk41
              ·rw [hf] at cfo;cases hp:(yX m.max [t0]) l9 with
               | error er =>
                have hw:(yu g m ⟨68,arg,t0⟩) l=.error er:=by simp [yu,zB,zG,hC1,hC2,hC3,zL,emptyS,hms,hdd,hS8,hS9,hC10,hC11,hC12,zL,emptyS,hee,hC17,hC18,zL,emptyS,hr,hth,hn,hf,hp]
                have b13:=();have b14:=();have b15:=();have b17:=();have b22:=();have b25:=();exact zwk41
               | ok p =>
                obtain ⟨⟨⟩,lz⟩:=p;have hw:(yu g m ⟨68,arg,t0⟩) l=.ok ((),lz):=by simp [yu,zB,zG,hC1,hC2,hC3,zL,emptyS,hms,hdd,hS8,hS9,hC10,hC11,hC12,zL,emptyS,hee,hC17,hC18,zL,emptyS,hr,hth,hn,hf,hp]
                have b14:=();have b15:=();have b17:=();have b22:=();have b25:=();have b27:=();exact zwk41
             ·have hw:(yu g m ⟨68,arg,t0⟩) l=.error 10:=by simp [yu,zB,zG,hC1,hC2,hC3,zL,emptyS,hms,hdd,hS8,hS9,hC10,hC11,hC12,zL,emptyS,hee,hC17,hC18,zL,emptyS,hr,hth,hn]
              have b14:=();have b15:=();have b17:=();have b20:=();have b23:=();exact zwk41
end Go.Cg
