/- A part of the walks by abstract values: no statement of its own. -/
import Derived.Test.YtdbgicaoddibdaaGreatT28
import Derived.Test.YtdbgicaoddibdaaGreatT15
set_option linter.unusedVariables false
set_option linter.unusedSimpArgs false
namespace Go.Cg
open Go.Proofs
set_option maxHeartbeats 20000000
theorem zwk32 {G:Prop} (h:G:=by repeat' (first|(have:=b0;refine qH 10 8 7 rfl rfl zws zws zws zws zws ?_)|(have:=b0;refine zD ((yN u ⟨g,m,ar,⟨43,arg,t0⟩⟩ l)) zh rfl rfl rfl tH ((YH ⟨g,m,ar,⟨43,arg,t0⟩⟩ hF (Xp g d) _ zwy62).bad hS3 u) ?_)|(have:=b1;refine zl 11 2 rfl rfl rfl ?_)|(have:=b1;refine zD ((yN u ⟨g,m,ar,⟨43,arg,t0⟩⟩ l3)) zh rfl rfl rfl tH ((zaR ⟨g,m,ar,⟨43,arg,t0⟩⟩ d _ zwy62).bad hS4 u) ?_)|(have:=b2;refine zV 8 7 rfl zws zws zws zws zws ?_)|(have:=b3;refine zl 7 3 rfl rfl rfl ?_)|(have:=b3;refine zD ([]) zh rfl rfl rfl tH (yc zwy66 8) ?_)|refine zy rfl (aj (ps:=(zZ g))) rfl rfl ?_|refine zq rfl (aj (ps:=(zZ g))) rfl rfl ?_|(refine shC ?_;first|refine qC ca ?_|(have:=b4;refine zy rfl (zJ rfl rfl (zH zwy66 8)) rfl rfl ?_)|(have:=b4;refine zq rfl (zJ rfl rfl (zH zwy66 8)) rfl rfl ?_)|refine qC ck ?_|refine qC cA ?_)|(have:=b5;refine zn ?_;first|(refine aA 0 (cm.ok em) ?_))|(have:=b1;refine zn ?_;first|(refine zu 0 zh rfl rfl ((YH ⟨g,m,ar,⟨43,arg,t0⟩⟩ hF (Xp g d) _ zwy62).ok hS3) rfl rfl rfl rfl rfl ?_)|(refine aA 0 (cm.ok em) ?_))|(have:=b6;refine zn ?_;first|(refine zu 0 zh rfl rfl ((YH ⟨g,m,ar,⟨43,arg,t0⟩⟩ hF (Xp g d) _ zwy62).ok hS3) rfl rfl rfl rfl rfl ?_)|(refine zu 0 zh rfl rfl ((zaR ⟨g,m,ar,⟨43,arg,t0⟩⟩ d _ zwy62).ok hS4) rfl rfl rfl rfl rfl ?_)|(refine aA 0 (cm.ok em) ?_))|refine sK ?_|refine sC (fun _=>?_) (fun _=>?_)|exact zF hw|exact zX hw (yw (.inl rfl) tH)|fail)):G:=h
theorem zt7 (g:Img) (hF:Fm g) (m:Me) (ar:List Ty) (arg:Int) (t0:Ty) (l:List Ty) (hl:l.length≤100) (h0:0≤arg) (h1:arg.toNat < g.methods.length) (hp:(mAt g arg).params.length≤100) (hof:0≤(mAt g arg).owner) (hot:(mAt g arg).owner.toNat < g.types.length):XC 79 [] (⟨g,m,ar,⟨43,arg,t0⟩⟩:RC) (qK g m ⟨43,arg,t0⟩) uV l:=by
 intro u;refine zI zf Tryz.func79 rfl zws Tryz.ntmps79 zwy63 _ rfl (fun gB hw1=>?_);have cm:XC 125 [] (⟨g,m,ar,⟨43,arg,t0⟩⟩:RC) (pure (mAt g arg):SM Me) (fun d=>.pv (yh d)) l:=zaU _ l h0 h1;have em:(pure (mAt g arg):SM Me) l=.ok (mAt g arg,l):=rfl;obtain ⟨d,hd⟩:∃ d,mAt g arg=d:=⟨_,rfl⟩
 rw [hd] at cm em hp hot hof;have ca:=YQ d 4;have cb:=YQ d 16;have cc:=YQ d 1;have ck:=Qb g d.owner;have cA:=zbv g d zwy62;cases hC1:(qL d.flags 4)
 ·rw [hC1] at ca;cases hS3:(ZN g (Xp g d)) l with
  | error e =>
   have hw:(qK g m ⟨43,arg,t0⟩) l=.error e:=by simp [qK,hd,zB,zG,hC1,zL,emptyS,hS3]
   have b0:=();have b4:=();have b5:=();exact zwk32
  | ok p =>
   obtain ⟨⟨⟩,l3⟩:=p;have hl3:l3.length≤100:=by have:=WC hS3;omega
   cases hS4:(QE m.max d) l3 with
   | error e =>
    have hw:(qK g m ⟨43,arg,t0⟩) l=.error e:=by simp [qK,hd,zB,zG,hC1,zL,emptyS,hS3,hS4]
    have b1:=();have b2:=();have b4:=();exact zwk32
   | ok p =>
    obtain ⟨⟨⟩,l4⟩:=p;have hw:(qK g m ⟨43,arg,t0⟩) l=.ok ((),l4):=by simp [qK,hd,zB,zG,hC1,zL,emptyS,hS3,hS4]
    have b2:=();have b4:=();have b6:=();exact zwk32
 ·rw [hC1] at ca;have hw:(qK g m ⟨43,arg,t0⟩) l=.error 8:=by simp [qK,hd,zB,zG,hC1,zL,emptyS]
  have b3:=();have b5:=();exact zwk32
theorem zwk33 {G:Prop} (h:G:=by repeat' (first|(have:=b0;refine zl 9 12 rfl rfl rfl ?_)|(have:=b1;refine zD ([]) zh rfl rfl rfl tH (yc zwy73 8) ?_)|(have:=b2;refine qH 10 8 7 rfl rfl zws zws zws zws zws ?_)|(have:=b2;refine zD ((yN u ⟨g,m,ar,⟨44,arg,t0⟩⟩ l)) zh rfl rfl rfl tH ((YH ⟨g,m,ar,⟨44,arg,t0⟩⟩ hF (Xp g d) _ zwy62).bad hS5 u) ?_)|(have:=b3;refine zl 11 2 rfl rfl rfl ?_)|(have:=b3;refine zD ((yN u ⟨g,m,ar,⟨44,arg,t0⟩⟩ l5)) zh rfl rfl rfl tH ((zaR ⟨g,m,ar,⟨44,arg,t0⟩⟩ d _ zwy62).bad hS6 u) ?_)|(have:=b4;refine zV 8 7 rfl zws zws zws zws zws ?_)|(have:=b5;refine zD ([]) zh rfl rfl rfl tH (yc zwy95 8) ?_)|(have:=b6;refine zD ([]) zh rfl rfl rfl tH (yc zwy66 8) ?_)|refine zy rfl (aj (ps:=(zZ g))) rfl rfl ?_|refine zq rfl (aj (ps:=(zZ g))) rfl rfl ?_|(refine shC ?_;first|refine qC cc ?_|(have:=b7;refine qC cb ?_)|(have:=b8;refine zy rfl (zJ rfl rfl (zH zwy73 8)) rfl rfl ?_)|(have:=b8;refine zq rfl (zJ rfl rfl (zH zwy73 8)) rfl rfl ?_)|refine qC ck ?_|refine qC cA ?_)|(have:=b9;refine zn ?_;first|(refine aA 0 (cm.ok em) ?_))|(have:=b3;refine zn ?_;first|(refine zu 0 zh rfl rfl ((YH ⟨g,m,ar,⟨44,arg,t0⟩⟩ hF (Xp g d) _ zwy62).ok hS5) rfl rfl rfl rfl rfl ?_)|(refine aA 0 (cm.ok em) ?_))|(have:=b10;refine zn ?_;first|(refine zu 0 zh rfl rfl ((YH ⟨g,m,ar,⟨44,arg,t0⟩⟩ hF (Xp g d) _ zwy62).ok hS5) rfl rfl rfl rfl rfl ?_)|(refine zu 0 zh rfl rfl ((zaR ⟨g,m,ar,⟨44,arg,t0⟩⟩ d _ zwy62).ok hS6) rfl rfl rfl rfl rfl ?_)|(refine aA 0 (cm.ok em) ?_))|refine sK ?_|refine sC (fun _=>?_) (fun _=>?_)|exact zF hw|exact zX hw (yw (.inl rfl) tH)|fail)):G:=h
theorem zua (g:Img) (hF:Fm g) (m:Me) (ar:List Ty) (arg:Int) (t0:Ty) (l:List Ty) (hl:l.length≤100) (h0:0≤arg) (h1:arg.toNat < g.methods.length) (hp:(mAt g arg).params.length≤100) (hof:0≤(mAt g arg).owner) (hot:(mAt g arg).owner.toNat < g.types.length):XC 79 [] (⟨g,m,ar,⟨44,arg,t0⟩⟩:RC) (qK g m ⟨44,arg,t0⟩) uV l:=by
 intro u;refine zI zf Tryz.func79 rfl zws Tryz.ntmps79 zwy63 _ rfl (fun gB hw1=>?_);have cm:XC 125 [] (⟨g,m,ar,⟨44,arg,t0⟩⟩:RC) (pure (mAt g arg):SM Me) (fun d=>.pv (yh d)) l:=zaU _ l h0 h1;have em:(pure (mAt g arg):SM Me) l=.ok (mAt g arg,l):=rfl;obtain ⟨d,hd⟩:∃ d,mAt g arg=d:=⟨_,rfl⟩
 rw [hd] at cm em hp hot hof;have ca:=YQ d 4;have cb:=YQ d 16;have cc:=YQ d 1;have ck:=Qb g d.owner;have cA:=zbv g d zwy62;cases hC1:(qL d.flags 1)
 ·rw [hC1] at cc;cases hC2:(qL d.flags 16)
  ·rw [hC2] at cb;cases hC3:(Yh g d.owner != 1)
   ·skip;have hw:(qK g m ⟨44,arg,t0⟩) l=.error 8:=by simp [qK,hd,zB,zG,hC1,hC2,hC3,zL,emptyS]
    have b0:=();have b1:=();have b7:=();have b9:=();exact zwk33
   ·skip;cases hS5:(ZN g (Xp g d)) l with
    | error e =>
     have hw:(qK g m ⟨44,arg,t0⟩) l=.error e:=by simp [qK,hd,zB,zG,hC1,hC2,hC3,zL,emptyS,hS5]
     have b2:=();have b7:=();have b8:=();have b9:=();exact zwk33
    | ok p =>
     obtain ⟨⟨⟩,l5⟩:=p;have hl5:l5.length≤100:=by have:=WC hS5;omega
     cases hS6:(QE m.max d) l5 with
     | error e =>
      have hw:(qK g m ⟨44,arg,t0⟩) l=.error e:=by simp [qK,hd,zB,zG,hC1,hC2,hC3,zL,emptyS,hS5,hS6]
      have b3:=();have b4:=();have b7:=();have b8:=();exact zwk33
     | ok p =>
      obtain ⟨⟨⟩,l6⟩:=p;have hw:(qK g m ⟨44,arg,t0⟩) l=.ok ((),l6):=by simp [qK,hd,zB,zG,hC1,hC2,hC3,zL,emptyS,hS5,hS6]
      have b4:=();have b7:=();have b8:=();have b10:=();exact zwk33
  ·rw [hC2] at cb;have hw:(qK g m ⟨44,arg,t0⟩) l=.error 8:=by simp [qK,hd,zB,zG,hC1,hC2,zL,emptyS]
   have b0:=();have b5:=();have b7:=();have b9:=();exact zwk33
 ·rw [hC1] at cc;have hw:(qK g m ⟨44,arg,t0⟩) l=.error 8:=by simp [qK,hd,zB,zG,hC1,zL,emptyS]
  have b0:=();have b6:=();have b9:=();exact zwk33
theorem zwk34 {G:Prop} (h:G:=by repeat' (first|(have:=b0;refine yV 17 16 rfl zws zws zws zws zws ?_)|(have:=b1;refine zD ([]) zh rfl rfl rfl tH (yc zwy66 8) ?_)|(have:=b2;refine zl 4 3 rfl rfl rfl ?_)|(have:=b2;refine zD ((yN u ⟨g,m,ar,⟨45,arg,t0⟩⟩ l)) zh rfl rfl rfl tH ((YH ⟨g,m,ar,⟨45,arg,t0⟩⟩ hF d.params _ zwy62).bad hS7 u) ?_)|(have:=b3;refine zl 5 5 rfl rfl rfl ?_)|(have:=b3;refine zD ((yN u ⟨g,m,ar,⟨45,arg,t0⟩⟩ l7)) zh rfl rfl rfl tH ((zU ⟨g,m,ar,⟨45,arg,t0⟩⟩ [⟨5,d.owner,0,false⟩] _ zwy62 zwy63).bad hS8 u) ?_)|(have:=b4;refine zV 17 16 rfl zws zws zws zws zws ?_)|(have:=b5;refine zD ([]) zh rfl rfl rfl tH (yc (by first|rfl|assumption|simp [hC1,hC4]) 8) ?_)|refine zy rfl (aj (ps:=(zZ g))) rfl rfl ?_|refine zq rfl (aj (ps:=(zZ g))) rfl rfl ?_|(refine shC ?_;first|refine qC cb ?_|(have:=b4;refine zy rfl (zJ rfl rfl (zH (by first|rfl|assumption|simp [hC1,hC4]) 8)) rfl rfl ?_)|(have:=b4;refine zq rfl (zJ rfl rfl (zH (by first|rfl|assumption|simp [hC1,hC4]) 8)) rfl rfl ?_)|refine qC ck ?_|refine qC cA ?_)|(refine shX ?_;first|(have:=b6;refine zy rfl (ah hof hte) rfl rfl ?_)|(have:=b6;refine zq rfl (ah hof hte) rfl rfl ?_))|(have:=b7;refine zn ?_;first|(refine aA 0 (cm.ok em) ?_))|(have:=b3;refine zn ?_;first|(refine zu 0 zh rfl rfl ((YH ⟨g,m,ar,⟨45,arg,t0⟩⟩ hF d.params _ zwy62).ok hS7) rfl rfl rfl rfl rfl ?_)|(refine aA 0 (cm.ok em) ?_))|(have:=b8;refine zn ?_;first|(refine zu 0 zh rfl rfl ((YH ⟨g,m,ar,⟨45,arg,t0⟩⟩ hF d.params _ zwy62).ok hS7) rfl rfl rfl rfl rfl ?_)|(refine zu 0 zh rfl rfl ((zU ⟨g,m,ar,⟨45,arg,t0⟩⟩ [⟨5,d.owner,0,false⟩] _ zwy62 zwy63).ok hS8) rfl rfl rfl rfl rfl ?_)|(refine aA 0 (cm.ok em) ?_))|refine sK ?_|refine sC (fun _=>?_) (fun _=>?_)|exact zF hw|exact zX hw (yw (.inr rfl) tH)|fail)):G:=h
theorem ztq (g:Img) (hF:Fm g) (m:Me) (ar:List Ty) (arg:Int) (t0:Ty) (l:List Ty) (hl:l.length≤100) (h0:0≤arg) (h1:arg.toNat < g.methods.length) (hp:(mAt g arg).params.length≤100) (hof:0≤(mAt g arg).owner) (hot:(mAt g arg).owner.toNat < g.types.length):XC 79 [] (⟨g,m,ar,⟨45,arg,t0⟩⟩:RC) (qK g m ⟨45,arg,t0⟩) uV l:=by
 intro u;refine zI zf Tryz.func79 rfl zws Tryz.ntmps79 zwy63 _ rfl (fun gB hw1=>?_);have cm:XC 125 [] (⟨g,m,ar,⟨45,arg,t0⟩⟩:RC) (pure (mAt g arg):SM Me) (fun d=>.pv (yh d)) l:=zaU _ l h0 h1;have em:(pure (mAt g arg):SM Me) l=.ok (mAt g arg,l):=rfl;obtain ⟨d,hd⟩:∃ d,mAt g arg=d:=⟨_,rfl⟩
 rw [hd] at cm em hp hot hof;have ca:=YQ d 4;have cb:=YQ d 16;have cc:=YQ d 1;have ck:=Qb g d.owner;have cA:=zbv g d zwy62;cases hC1:(qL d.flags 16)
 ·rw [hC1] at cb;have hw:(qK g m ⟨45,arg,t0⟩) l=.error 8:=by simp [qK,hd,zB,zG,hC1,zL,emptyS]
  have b0:=();have b1:=();have b7:=();exact zwk34
 ·rw [hC1] at cb;have hte:(g.types.map ZB)[d.owner.toNat]?=some (ZB (tAt g d.owner)):=by rw [tAt,zT hot];exact zY hot
  cases hC4:(qL (tAt g d.owner).flags 4)
  ·skip;have hC':(IntKind.i64.wrap ((BitVec.ofInt IntKind.i64.bits (tAt g d.owner).flags &&& BitVec.ofInt IntKind.i64.bits 4).toNat:Int)==0)=!false:=by rw [←hC4,qL,bne,Bool.not_not]
   cases hS7:(ZN g d.params) l with
   | error e =>
    have hw:(qK g m ⟨45,arg,t0⟩) l=.error e:=by simp [qK,hd,zB,zG,hC1,hC4,zL,emptyS,hS7]
    have b2:=();have b4:=();have b6:=();have b7:=();exact zwk34
   | ok p =>
    obtain ⟨⟨⟩,l7⟩:=p;have hl7:l7.length≤100:=by have:=WC hS7;omega
    cases hS8:(yX m.max [⟨5,d.owner,0,false⟩]) l7 with
    | error e =>
     have hw:(qK g m ⟨45,arg,t0⟩) l=.error e:=by simp [qK,hd,zB,zG,hC1,hC4,zL,emptyS,hS7,hS8]
     have b3:=();have b4:=();have b6:=();exact zwk34
    | ok p =>
     obtain ⟨⟨⟩,l8⟩:=p;have hw:(qK g m ⟨45,arg,t0⟩) l=.ok ((),l8):=by simp [qK,hd,zB,zG,hC1,hC4,zL,emptyS,hS7,hS8]
     have b4:=();have b6:=();have b8:=();exact zwk34
  ·skip;have hC':(IntKind.i64.wrap ((BitVec.ofInt IntKind.i64.bits (tAt g d.owner).flags &&& BitVec.ofInt IntKind.i64.bits 4).toNat:Int)==0)=!true:=by rw [←hC4,qL,bne,Bool.not_not]
   have hw:(qK g m ⟨45,arg,t0⟩) l=.error 8:=by simp [qK,hd,zB,zG,hC1,hC4,zL,emptyS]
   have b0:=();have b5:=();have b6:=();have b7:=();exact zwk34
end Go.Cg
