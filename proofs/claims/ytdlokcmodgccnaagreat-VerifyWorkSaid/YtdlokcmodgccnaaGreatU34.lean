/- A part of the walks by abstract values: no statement of its own. -/
import Derived.Test.YtdlokcmodgccnaaGreatU28
import Derived.Test.YtdlokcmodgccnaaGreatU15
set_option linter.unusedVariables false
set_option linter.unusedSimpArgs false
namespace Go.Cg
open Go.Proofs
set_option maxHeartbeats 20000000
theorem zp3 (g:Img) (hF:Fm g) (m:Me) (ar:List Ty) (arg:Int) (t0:Ty) (l:List Ty) (hl:l.length≤100) (h0:0≤arg) (h1:arg.toNat < g.methods.length) (hp:(mAt g arg).params.length≤100) (hof:0≤(mAt g arg).owner) (hot:(mAt g arg).owner.toNat < g.types.length):XC 155 [] (⟨g,m,ar,⟨43,arg,t0⟩⟩:RC) (qI g m ⟨43,arg,t0⟩) uV l:=by
 intro u;refine zH zf Tryz.func155 rfl (by kernel_rfl) Tryz.ntmps155 (by simp) _ rfl (fun gB hw1=>?_)
 have cm:XC 202 [] (⟨g,m,ar,⟨43,arg,t0⟩⟩:RC) (pure (mAt g arg):SM Me) (fun d=>.pv (yB d)) l:=zam _ l h0 h1
 have em:(pure (mAt g arg):SM Me) l=.ok (mAt g arg,l):=rfl
 obtain ⟨d,hd⟩:∃ d,mAt g arg=d:=⟨_,rfl⟩
 rw [hd] at cm em hp hot hof
 have ca:=YI d 4
 have cb:=YI d 16
 have cc:=YI d 1
 have ck:=YR g d.owner
 have cA:=zaT g d (by omega)
 cases hC1:(qJ d.flags 4)
 ·rw [hC1] at ca
  cases hS3:(Zw g (QB g d)) l with
  | error e =>
   have hw:(qI g m ⟨43,arg,t0⟩) l=.error e:=by simp [qI,hd,zu,zC,hC1,zJ,emptyS,hS3]
   repeat' (first|refine qE 10 8 7 rfl rfl (by kernel_rfl) (by kernel_rfl) (by kernel_rfl) (by kernel_rfl) (by kernel_rfl) ?_|refine zA ((yP u ⟨g,m,ar,⟨43,arg,t0⟩⟩ l)) zh rfl rfl rfl tH ((Yq ⟨g,m,ar,⟨43,arg,t0⟩⟩ hF (QB g d) _ (by omega)).bad hS3 u) ?_|refine zx rfl (zk (ps:=(zZ g)) zf rfl rfl rfl rfl rfl) rfl rfl ?_|refine AD.step _ _ _ _ _ rfl (zk (ps:=(zZ g)) zf rfl rfl rfl rfl rfl) rfl rfl ?_|(refine shC ?_;first|refine qC ca ?_|refine zx rfl (zI rfl rfl (zF (by first|rfl|assumption|simp [hC1]) 8)) rfl rfl ?_|refine AD.step _ _ _ _ _ rfl (zI rfl rfl (zF (by first|rfl|assumption|simp [hC1]) 8)) rfl rfl ?_|refine qC ck ?_|refine qC cA ?_)|(refine zn ?_;first|(refine zo 0 zh rfl rfl (cm.ok em) rfl rfl rfl rfl rfl ?_))|refine sK ?_|refine sC (fun _=>?_) (fun _=>?_)|fail)
   exact zB hw
  | ok p =>
   obtain ⟨⟨⟩,l3⟩:=p
   have hl3:l3.length≤100:=by have:=XD hS3;omega
   cases hS4:(Qe m.max d) l3 with
   | error e =>
    have hw:(qI g m ⟨43,arg,t0⟩) l=.error e:=by simp [qI,hd,zu,zC,hC1,zJ,emptyS,hS3,hS4]
    repeat' (first|refine zl 11 2 rfl rfl rfl ?_|refine zA ((yP u ⟨g,m,ar,⟨43,arg,t0⟩⟩ l3)) zh rfl rfl rfl tH ((zaj ⟨g,m,ar,⟨43,arg,t0⟩⟩ d _ (by omega)).bad hS4 u) ?_|refine zV 8 7 rfl (by kernel_rfl) (by kernel_rfl) (by kernel_rfl) (by kernel_rfl) (by kernel_rfl) ?_|refine zx rfl (zk (ps:=(zZ g)) zf rfl rfl rfl rfl rfl) rfl rfl ?_|refine AD.step _ _ _ _ _ rfl (zk (ps:=(zZ g)) zf rfl rfl rfl rfl rfl) rfl rfl ?_|(refine shC ?_;first|refine qC ca ?_|refine zx rfl (zI rfl rfl (zF (by first|rfl|assumption|simp [hC1]) 8)) rfl rfl ?_|refine AD.step _ _ _ _ _ rfl (zI rfl rfl (zF (by first|rfl|assumption|simp [hC1]) 8)) rfl rfl ?_|refine qC ck ?_|refine qC cA ?_)|(refine zn ?_;first|(refine zo 0 zh rfl rfl ((Yq ⟨g,m,ar,⟨43,arg,t0⟩⟩ hF (QB g d) _ (by omega)).ok hS3) rfl rfl rfl rfl rfl ?_)|(refine zo 0 zh rfl rfl (cm.ok em) rfl rfl rfl rfl rfl ?_))|refine sK ?_|refine sC (fun _=>?_) (fun _=>?_)|fail)
    exact zB hw
   | ok p =>
    obtain ⟨⟨⟩,l4⟩:=p
    have hw:(qI g m ⟨43,arg,t0⟩) l=.ok ((),l4):=by simp [qI,hd,zu,zC,hC1,zJ,emptyS,hS3,hS4]
    repeat' (first|refine zV 8 7 rfl (by kernel_rfl) (by kernel_rfl) (by kernel_rfl) (by kernel_rfl) (by kernel_rfl) ?_|refine zx rfl (zk (ps:=(zZ g)) zf rfl rfl rfl rfl rfl) rfl rfl ?_|refine AD.step _ _ _ _ _ rfl (zk (ps:=(zZ g)) zf rfl rfl rfl rfl rfl) rfl rfl ?_|(refine shC ?_;first|refine qC ca ?_|refine zx rfl (zI rfl rfl (zF (by first|rfl|assumption|simp [hC1]) 8)) rfl rfl ?_|refine AD.step _ _ _ _ _ rfl (zI rfl rfl (zF (by first|rfl|assumption|simp [hC1]) 8)) rfl rfl ?_|refine qC ck ?_|refine qC cA ?_)|(refine zn ?_;first|(refine zo 0 zh rfl rfl ((Yq ⟨g,m,ar,⟨43,arg,t0⟩⟩ hF (QB g d) _ (by omega)).ok hS3) rfl rfl rfl rfl rfl ?_)|(refine zo 0 zh rfl rfl ((zaj ⟨g,m,ar,⟨43,arg,t0⟩⟩ d _ (by omega)).ok hS4) rfl rfl rfl rfl rfl ?_)|(refine zo 0 zh rfl rfl (cm.ok em) rfl rfl rfl rfl rfl ?_))|refine sK ?_|refine sC (fun _=>?_) (fun _=>?_)|fail)
    exact zU hw (yw (.inl rfl) tH)
 ·rw [hC1] at ca
  have hw:(qI g m ⟨43,arg,t0⟩) l=.error 8:=by simp [qI,hd,zu,zC,hC1,zJ,emptyS]
  repeat' (first|refine zl 7 3 rfl rfl rfl ?_|refine zA ([]) zh rfl rfl rfl tH (yc (by first|rfl|assumption|simp [hC1]) 8) ?_|refine zx rfl (zk (ps:=(zZ g)) zf rfl rfl rfl rfl rfl) rfl rfl ?_|refine AD.step _ _ _ _ _ rfl (zk (ps:=(zZ g)) zf rfl rfl rfl rfl rfl) rfl rfl ?_|(refine shC ?_;first|refine qC ca ?_|refine qC ck ?_|refine qC cA ?_)|(refine zn ?_;first|(refine zo 0 zh rfl rfl (cm.ok em) rfl rfl rfl rfl rfl ?_))|refine sK ?_|refine sC (fun _=>?_) (fun _=>?_)|fail)
  exact zB hw
theorem zqG (g:Img) (hF:Fm g) (m:Me) (ar:List Ty) (arg:Int) (t0:Ty) (l:List Ty) (hl:l.length≤100) (h0:0≤arg) (h1:arg.toNat < g.methods.length) (hp:(mAt g arg).params.length≤100) (hof:0≤(mAt g arg).owner) (hot:(mAt g arg).owner.toNat < g.types.length):XC 155 [] (⟨g,m,ar,⟨44,arg,t0⟩⟩:RC) (qI g m ⟨44,arg,t0⟩) uV l:=by
 intro u;refine zH zf Tryz.func155 rfl (by kernel_rfl) Tryz.ntmps155 (by simp) _ rfl (fun gB hw1=>?_)
 have cm:XC 202 [] (⟨g,m,ar,⟨44,arg,t0⟩⟩:RC) (pure (mAt g arg):SM Me) (fun d=>.pv (yB d)) l:=zam _ l h0 h1
 have em:(pure (mAt g arg):SM Me) l=.ok (mAt g arg,l):=rfl
 obtain ⟨d,hd⟩:∃ d,mAt g arg=d:=⟨_,rfl⟩
 rw [hd] at cm em hp hot hof
 have ca:=YI d 4
 have cb:=YI d 16
 have cc:=YI d 1
 have ck:=YR g d.owner
 have cA:=zaT g d (by omega)
 cases hC1:(qJ d.flags 1)
 ·rw [hC1] at cc
  cases hC2:(qJ d.flags 16)
  ·rw [hC2] at cb
   cases hC3:(ZY g d.owner != 1)
   ·skip
    have hw:(qI g m ⟨44,arg,t0⟩) l=.error 8:=by simp [qI,hd,zu,zC,hC1,hC2,hC3,zJ,emptyS]
    repeat' (first|refine zl 9 12 rfl rfl rfl ?_|refine zA ([]) zh rfl rfl rfl tH (yc (by first|rfl|assumption|simp [hC1,hC2,hC3]) 8) ?_|refine zx rfl (zk (ps:=(zZ g)) zf rfl rfl rfl rfl rfl) rfl rfl ?_|refine AD.step _ _ _ _ _ rfl (zk (ps:=(zZ g)) zf rfl rfl rfl rfl rfl) rfl rfl ?_|(refine shC ?_;first|refine qC cc ?_|refine qC cb ?_|refine qC ck ?_|refine qC cA ?_)|(refine zn ?_;first|(refine zo 0 zh rfl rfl (cm.ok em) rfl rfl rfl rfl rfl ?_))|refine sK ?_|refine sC (fun _=>?_) (fun _=>?_)|fail)
    exact zB hw
   ·skip
    cases hS5:(Zw g (QB g d)) l with
    | error e =>
     have hw:(qI g m ⟨44,arg,t0⟩) l=.error e:=by simp [qI,hd,zu,zC,hC1,hC2,hC3,zJ,emptyS,hS5]
     repeat' (first|refine qE 10 8 7 rfl rfl (by kernel_rfl) (by kernel_rfl) (by kernel_rfl) (by kernel_rfl) (by kernel_rfl) ?_|refine zA ((yP u ⟨g,m,ar,⟨44,arg,t0⟩⟩ l)) zh rfl rfl rfl tH ((Yq ⟨g,m,ar,⟨44,arg,t0⟩⟩ hF (QB g d) _ (by omega)).bad hS5 u) ?_|refine zx rfl (zk (ps:=(zZ g)) zf rfl rfl rfl rfl rfl) rfl rfl ?_|refine AD.step _ _ _ _ _ rfl (zk (ps:=(zZ g)) zf rfl rfl rfl rfl rfl) rfl rfl ?_|(refine shC ?_;first|refine qC cc ?_|refine qC cb ?_|refine zx rfl (zI rfl rfl (zF (by first|rfl|assumption|simp [hC1,hC2,hC3]) 8)) rfl rfl ?_|refine AD.step _ _ _ _ _ rfl (zI rfl rfl (zF (by first|rfl|assumption|simp [hC1,hC2,hC3]) 8)) rfl rfl ?_|refine qC ck ?_|refine qC cA ?_)|(refine zn ?_;first|(refine zo 0 zh rfl rfl (cm.ok em) rfl rfl rfl rfl rfl ?_))|refine sK ?_|refine sC (fun _=>?_) (fun _=>?_)|fail)
     exact zB hw
    | ok p =>
     obtain ⟨⟨⟩,l5⟩:=p
     have hl5:l5.length≤100:=by have:=XD hS5;omega
     cases hS6:(Qe m.max d) l5 with
     | error e =>
      have hw:(qI g m ⟨44,arg,t0⟩) l=.error e:=by simp [qI,hd,zu,zC,hC1,hC2,hC3,zJ,emptyS,hS5,hS6]
      repeat' (first|refine zl 11 2 rfl rfl rfl ?_|refine zA ((yP u ⟨g,m,ar,⟨44,arg,t0⟩⟩ l5)) zh rfl rfl rfl tH ((zaj ⟨g,m,ar,⟨44,arg,t0⟩⟩ d _ (by omega)).bad hS6 u) ?_|refine zV 8 7 rfl (by kernel_rfl) (by kernel_rfl) (by kernel_rfl) (by kernel_rfl) (by kernel_rfl) ?_|refine zx rfl (zk (ps:=(zZ g)) zf rfl rfl rfl rfl rfl) rfl rfl ?_|refine AD.step _ _ _ _ _ rfl (zk (ps:=(zZ g)) zf rfl rfl rfl rfl rfl) rfl rfl ?_|(refine shC ?_;first|refine qC cc ?_|refine qC cb ?_|refine zx rfl (zI rfl rfl (zF (by first|rfl|assumption|simp [hC1,hC2,hC3]) 8)) rfl rfl ?_|refine AD.step _ _ _ _ _ rfl (zI rfl rfl (zF (by first|rfl|assumption|simp [hC1,hC2,hC3]) 8)) rfl rfl ?_|refine qC ck ?_|refine qC cA ?_)|(refine zn ?_;first|(refine zo 0 zh rfl rfl ((Yq ⟨g,m,ar,⟨44,arg,t0⟩⟩ hF (QB g d) _ (by omega)).ok hS5) rfl rfl rfl rfl rfl ?_)|(refine zo 0 zh rfl rfl (cm.ok em) rfl rfl rfl rfl rfl ?_))|refine sK ?_|refine sC (fun _=>?_) (fun _=>?_)|fail)
      exact zB hw
     | ok p =>
      obtain ⟨⟨⟩,l6⟩:=p
      have hw:(qI g m ⟨44,arg,t0⟩) l=.ok ((),l6):=by simp [qI,hd,zu,zC,hC1,hC2,hC3,zJ,emptyS,hS5,hS6]
      repeat' (first|refine zV 8 7 rfl (by kernel_rfl) (by kernel_rfl) (by kernel_rfl) (by kernel_rfl) (by kernel_rfl) ?_|refine zx rfl (zk (ps:=(zZ g)) zf rfl rfl rfl rfl rfl) rfl rfl ?_|refine AD.step _ _ _ _ _ rfl (zk (ps:=(zZ g)) zf rfl rfl rfl rfl rfl) rfl rfl ?_|(refine shC ?_;first|refine qC cc ?_|refine qC cb ?_|refine zx rfl (zI rfl rfl (zF (by first|rfl|assumption|simp [hC1,hC2,hC3]) 8)) rfl rfl ?_|refine AD.step _ _ _ _ _ rfl (zI rfl rfl (zF (by first|rfl|assumption|simp [hC1,hC2,hC3]) 8)) rfl rfl ?_|refine qC ck ?_|refine qC cA ?_)|(refine zn ?_;first|(refine zo 0 zh rfl rfl ((Yq ⟨g,m,ar,⟨44,arg,t0⟩⟩ hF (QB g d) _ (by omega)).ok hS5) rfl rfl rfl rfl rfl ?_)|(refine zo 0 zh rfl rfl ((zaj ⟨g,m,ar,⟨44,arg,t0⟩⟩ d _ (by omega)).ok hS6) rfl rfl rfl rfl rfl ?_)|(refine zo 0 zh rfl rfl (cm.ok em) rfl rfl rfl rfl rfl ?_))|refine sK ?_|refine sC (fun _=>?_) (fun _=>?_)|fail)
      exact zU hw (yw (.inl rfl) tH)
  ·rw [hC2] at cb
   have hw:(qI g m ⟨44,arg,t0⟩) l=.error 8:=by simp [qI,hd,zu,zC,hC1,hC2,zJ,emptyS]
   repeat' (first|refine zl 9 12 rfl rfl rfl ?_|refine zA ([]) zh rfl rfl rfl tH (yc (by first|rfl|assumption|simp [hC1,hC2]) 8) ?_|refine zx rfl (zk (ps:=(zZ g)) zf rfl rfl rfl rfl rfl) rfl rfl ?_|refine AD.step _ _ _ _ _ rfl (zk (ps:=(zZ g)) zf rfl rfl rfl rfl rfl) rfl rfl ?_|(refine shC ?_;first|refine qC cc ?_|refine qC cb ?_|refine qC ck ?_|refine qC cA ?_)|(refine zn ?_;first|(refine zo 0 zh rfl rfl (cm.ok em) rfl rfl rfl rfl rfl ?_))|refine sK ?_|refine sC (fun _=>?_) (fun _=>?_)|fail)
   exact zB hw
 ·rw [hC1] at cc
  have hw:(qI g m ⟨44,arg,t0⟩) l=.error 8:=by simp [qI,hd,zu,zC,hC1,zJ,emptyS]
  repeat' (first|refine zl 9 12 rfl rfl rfl ?_|refine zA ([]) zh rfl rfl rfl tH (yc (by first|rfl|assumption|simp [hC1]) 8) ?_|refine zx rfl (zk (ps:=(zZ g)) zf rfl rfl rfl rfl rfl) rfl rfl ?_|refine AD.step _ _ _ _ _ rfl (zk (ps:=(zZ g)) zf rfl rfl rfl rfl rfl) rfl rfl ?_|(refine shC ?_;first|refine qC cc ?_|refine qC ck ?_|refine qC cA ?_)|(refine zn ?_;first|(refine zo 0 zh rfl rfl (cm.ok em) rfl rfl rfl rfl rfl ?_))|refine sK ?_|refine sC (fun _=>?_) (fun _=>?_)|fail)
  exact zB hw
theorem zq4 (g:Img) (hF:Fm g) (m:Me) (ar:List Ty) (arg:Int) (t0:Ty) (l:List Ty) (hl:l.length≤100) (h0:0≤arg) (h1:arg.toNat < g.methods.length) (hp:(mAt g arg).params.length≤100) (hof:0≤(mAt g arg).owner) (hot:(mAt g arg).owner.toNat < g.types.length):XC 155 [] (⟨g,m,ar,⟨45,arg,t0⟩⟩:RC) (qI g m ⟨45,arg,t0⟩) uV l:=by
 intro u;refine zH zf Tryz.func155 rfl (by kernel_rfl) Tryz.ntmps155 (by simp) _ rfl (fun gB hw1=>?_)
 have cm:XC 202 [] (⟨g,m,ar,⟨45,arg,t0⟩⟩:RC) (pure (mAt g arg):SM Me) (fun d=>.pv (yB d)) l:=zam _ l h0 h1
 have em:(pure (mAt g arg):SM Me) l=.ok (mAt g arg,l):=rfl
 obtain ⟨d,hd⟩:∃ d,mAt g arg=d:=⟨_,rfl⟩
 rw [hd] at cm em hp hot hof
 have ca:=YI d 4
 have cb:=YI d 16
 have cc:=YI d 1
 have ck:=YR g d.owner
 have cA:=zaT g d (by omega)
 cases hC1:(qJ d.flags 16)
 ·rw [hC1] at cb
  have hw:(qI g m ⟨45,arg,t0⟩) l=.error 8:=by simp [qI,hd,zu,zC,hC1,zJ,emptyS]
  repeat' (first|refine yU 17 16 rfl (by kernel_rfl) (by kernel_rfl) (by kernel_rfl) (by kernel_rfl) (by kernel_rfl) ?_|refine zA ([]) zh rfl rfl rfl tH (yc (by first|rfl|assumption|simp [hC1]) 8) ?_|refine zx rfl (zk (ps:=(zZ g)) zf rfl rfl rfl rfl rfl) rfl rfl ?_|refine AD.step _ _ _ _ _ rfl (zk (ps:=(zZ g)) zf rfl rfl rfl rfl rfl) rfl rfl ?_|(refine shC ?_;first|refine qC cb ?_|refine qC ck ?_|refine qC cA ?_)|(refine zn ?_;first|(refine zo 0 zh rfl rfl (cm.ok em) rfl rfl rfl rfl rfl ?_))|refine sK ?_|refine sC (fun _=>?_) (fun _=>?_)|fail)
  exact zB hw
 ·rw [hC1] at cb
  have hte:(g.types.map Zl)[d.owner.toNat]?=some (Zl (tAt g d.owner)):=by rw [tAt,zQ hot];exact yj hot
  cases hC4:(qJ (tAt g d.owner).flags 4)
  ·skip
   have hC':(IntKind.i64.wrap ((BitVec.ofInt IntKind.i64.bits (tAt g d.owner).flags &&& BitVec.ofInt IntKind.i64.bits 4).toNat:Int)==0)=!false:=by rw [←hC4,qJ,bne,Bool.not_not]
   cases hS7:(Zw g d.params) l with
   | error e =>
    have hw:(qI g m ⟨45,arg,t0⟩) l=.error e:=by simp [qI,hd,zu,zC,hC1,hC4,zJ,emptyS,hS7]
    repeat' (first|refine zl 4 3 rfl rfl rfl ?_|refine zA ((yP u ⟨g,m,ar,⟨45,arg,t0⟩⟩ l)) zh rfl rfl rfl tH ((Yq ⟨g,m,ar,⟨45,arg,t0⟩⟩ hF d.params _ (by omega)).bad hS7 u) ?_|refine zV 17 16 rfl (by kernel_rfl) (by kernel_rfl) (by kernel_rfl) (by kernel_rfl) (by kernel_rfl) ?_|refine zx rfl (zk (ps:=(zZ g)) zf rfl rfl rfl rfl rfl) rfl rfl ?_|refine AD.step _ _ _ _ _ rfl (zk (ps:=(zZ g)) zf rfl rfl rfl rfl rfl) rfl rfl ?_|(refine shC ?_;first|refine qC cb ?_|refine zx rfl (zI rfl rfl (zF (by first|rfl|assumption|simp [hC1,hC4]) 8)) rfl rfl ?_|refine AD.step _ _ _ _ _ rfl (zI rfl rfl (zF (by first|rfl|assumption|simp [hC1,hC4]) 8)) rfl rfl ?_|refine qC ck ?_|refine qC cA ?_)|(refine shX ?_;first|refine zx rfl (zq zf rfl rfl rfl rfl rfl rfl hof hte) rfl rfl ?_|refine AD.step _ _ _ _ _ rfl (zq zf rfl rfl rfl rfl rfl rfl hof hte) rfl rfl ?_)|(refine zn ?_;first|(refine zo 0 zh rfl rfl (cm.ok em) rfl rfl rfl rfl rfl ?_))|refine sK ?_|refine sC (fun _=>?_) (fun _=>?_)|fail)
    exact zB hw
   | ok p =>
    obtain ⟨⟨⟩,l7⟩:=p
    have hl7:l7.length≤100:=by have:=XD hS7;omega
    cases hS8:(yV m.max [⟨5,d.owner,0,false⟩]) l7 with
    | error e =>
     have hw:(qI g m ⟨45,arg,t0⟩) l=.error e:=by simp [qI,hd,zu,zC,hC1,hC4,zJ,emptyS,hS7,hS8]
     repeat' (first|refine zl 5 5 rfl rfl rfl ?_|refine zA ((yP u ⟨g,m,ar,⟨45,arg,t0⟩⟩ l7)) zh rfl rfl rfl tH ((zO ⟨g,m,ar,⟨45,arg,t0⟩⟩ [⟨5,d.owner,0,false⟩] _ (by omega) (by simp)).bad hS8 u) ?_|refine zV 17 16 rfl (by kernel_rfl) (by kernel_rfl) (by kernel_rfl) (by kernel_rfl) (by kernel_rfl) ?_|refine zx rfl (zk (ps:=(zZ g)) zf rfl rfl rfl rfl rfl) rfl rfl ?_|refine AD.step _ _ _ _ _ rfl (zk (ps:=(zZ g)) zf rfl rfl rfl rfl rfl) rfl rfl ?_|(refine shC ?_;first|refine qC cb ?_|refine zx rfl (zI rfl rfl (zF (by first|rfl|assumption|simp [hC1,hC4]) 8)) rfl rfl ?_|refine AD.step _ _ _ _ _ rfl (zI rfl rfl (zF (by first|rfl|assumption|simp [hC1,hC4]) 8)) rfl rfl ?_|refine qC ck ?_|refine qC cA ?_)|(refine shX ?_;first|refine zx rfl (zq zf rfl rfl rfl rfl rfl rfl hof hte) rfl rfl ?_|refine AD.step _ _ _ _ _ rfl (zq zf rfl rfl rfl rfl rfl rfl hof hte) rfl rfl ?_)|(refine zn ?_;first|(refine zo 0 zh rfl rfl ((Yq ⟨g,m,ar,⟨45,arg,t0⟩⟩ hF d.params _ (by omega)).ok hS7) rfl rfl rfl rfl rfl ?_)|(refine zo 0 zh rfl rfl (cm.ok em) rfl rfl rfl rfl rfl ?_))|refine sK ?_|refine sC (fun _=>?_) (fun _=>?_)|fail)
     exact zB hw
    | ok p =>
     obtain ⟨⟨⟩,l8⟩:=p
     have hw:(qI g m ⟨45,arg,t0⟩) l=.ok ((),l8):=by simp [qI,hd,zu,zC,hC1,hC4,zJ,emptyS,hS7,hS8]
     repeat' (first|refine zV 17 16 rfl (by kernel_rfl) (by kernel_rfl) (by kernel_rfl) (by kernel_rfl) (by kernel_rfl) ?_|refine zx rfl (zk (ps:=(zZ g)) zf rfl rfl rfl rfl rfl) rfl rfl ?_|refine AD.step _ _ _ _ _ rfl (zk (ps:=(zZ g)) zf rfl rfl rfl rfl rfl) rfl rfl ?_|(refine shC ?_;first|refine qC cb ?_|refine zx rfl (zI rfl rfl (zF (by first|rfl|assumption|simp [hC1,hC4]) 8)) rfl rfl ?_|refine AD.step _ _ _ _ _ rfl (zI rfl rfl (zF (by first|rfl|assumption|simp [hC1,hC4]) 8)) rfl rfl ?_|refine qC ck ?_|refine qC cA ?_)|(refine shX ?_;first|refine zx rfl (zq zf rfl rfl rfl rfl rfl rfl hof hte) rfl rfl ?_|refine AD.step _ _ _ _ _ rfl (zq zf rfl rfl rfl rfl rfl rfl hof hte) rfl rfl ?_)|(refine zn ?_;first|(refine zo 0 zh rfl rfl ((Yq ⟨g,m,ar,⟨45,arg,t0⟩⟩ hF d.params _ (by omega)).ok hS7) rfl rfl rfl rfl rfl ?_)|(refine zo 0 zh rfl rfl ((zO ⟨g,m,ar,⟨45,arg,t0⟩⟩ [⟨5,d.owner,0,false⟩] _ (by omega) (by simp)).ok hS8) rfl rfl rfl rfl rfl ?_)|(refine zo 0 zh rfl rfl (cm.ok em) rfl rfl rfl rfl rfl ?_))|refine sK ?_|refine sC (fun _=>?_) (fun _=>?_)|fail)
     exact zU hw (yw (.inr rfl) tH)
  ·skip
   have hC':(IntKind.i64.wrap ((BitVec.ofInt IntKind.i64.bits (tAt g d.owner).flags &&& BitVec.ofInt IntKind.i64.bits 4).toNat:Int)==0)=!true:=by rw [←hC4,qJ,bne,Bool.not_not]
   have hw:(qI g m ⟨45,arg,t0⟩) l=.error 8:=by simp [qI,hd,zu,zC,hC1,hC4,zJ,emptyS]
   repeat' (first|refine yU 17 16 rfl (by kernel_rfl) (by kernel_rfl) (by kernel_rfl) (by kernel_rfl) (by kernel_rfl) ?_|refine zA ([]) zh rfl rfl rfl tH (yc (by first|rfl|assumption|simp [hC1,hC4]) 8) ?_|refine zx rfl (zk (ps:=(zZ g)) zf rfl rfl rfl rfl rfl) rfl rfl ?_|refine AD.step _ _ _ _ _ rfl (zk (ps:=(zZ g)) zf rfl rfl rfl rfl rfl) rfl rfl ?_|(refine shC ?_;first|refine qC cb ?_|refine qC ck ?_|refine qC cA ?_)|(refine shX ?_;first|refine zx rfl (zq zf rfl rfl rfl rfl rfl rfl hof hte) rfl rfl ?_|refine AD.step _ _ _ _ _ rfl (zq zf rfl rfl rfl rfl rfl rfl hof hte) rfl rfl ?_)|(refine zn ?_;first|(refine zo 0 zh rfl rfl (cm.ok em) rfl rfl rfl rfl rfl ?_))|refine sK ?_|refine sC (fun _=>?_) (fun _=>?_)|fail)
   exact zB hw
set_option maxHeartbeats 20000000
theorem zqJ (g:Img) (hF:Fm g) (m:Me) (ar:List Ty) (arg:Int) (t0:Ty) (l:List Ty) (hl:l.length≤100):XC 162 [] (⟨g,m,ar,⟨8,arg,t0⟩⟩:RC) (yL g m ⟨8,arg,t0⟩) uV l:=by
 intro u;refine zH zf Tryz.func162 rfl (by kernel_rfl) Tryz.ntmps162 (by simp) _ rfl (fun gB hw1=>?_)
 cases hS1:(yV m.max [kTy 2]) l with
 | error e =>
  have hw:(yL g m ⟨8,arg,t0⟩) l=.error e:=by simp [yL,zu,zC,hS1]
  repeat' (first|refine zl 2 3 rfl rfl rfl ?_|refine zA ((yP u ⟨g,m,ar,⟨8,arg,t0⟩⟩ l)) zh rfl rfl rfl tH ((zO ⟨g,m,ar,⟨8,arg,t0⟩⟩ [kTy 2] _ (by omega) (by simp)).bad hS1 u) ?_|(refine shC ?_;first|refine qC (zM 2) ?_)|refine sK ?_|refine sC (fun _=>?_) (fun _=>?_)|fail)
  exact zB hw
 | ok p =>
  obtain ⟨⟨⟩,l1⟩:=p
  have hw:(yL g m ⟨8,arg,t0⟩) l=.ok ((),l1):=by simp [yL,zu,zC,hS1]
  repeat' (first|(refine shC ?_;first|refine qC (zM 2) ?_)|(refine zn ?_;first|(refine zo 0 zh rfl rfl ((zO ⟨g,m,ar,⟨8,arg,t0⟩⟩ [kTy 2] _ (by omega) (by simp)).ok hS1) rfl rfl rfl rfl rfl ?_))|refine sK ?_|refine sC (fun _=>?_) (fun _=>?_)|fail)
  exact zU hw (yw (.inl rfl) tH)
theorem zqX (g:Img) (hF:Fm g) (m:Me) (ar:List Ty) (arg:Int) (t0:Ty) (l:List Ty) (hl:l.length≤100) (op:Int) (ho:op=9∨op=74):XC 162 [] (⟨g,m,ar,⟨op,arg,t0⟩⟩:RC) (yL g m ⟨op,arg,t0⟩) uV l:=by
 let c:RC:=⟨g,m,ar,⟨op,arg,t0⟩⟩
 rcases ho with rfl|rfl
 all_goals
  intro u;refine zH zf Tryz.func162 rfl (by kernel_rfl) Tryz.ntmps162 (by simp) _ rfl (fun gB hw1=>?_)
  cases hS1:(yV m.max [kTy 3]) l with
  | error e =>
   have hw:(yL g m ⟨c.x.op,arg,t0⟩) l=.error e:=by simp [yL,c,zu,zC,hS1]
   repeat' (first|refine zl 5 3 rfl rfl rfl ?_|refine zA ((yP u c l)) zh rfl rfl rfl tH ((zO c [kTy 3] _ (by omega) (by simp)).bad hS1 u) ?_|(refine shC ?_;first|refine qC (zM 3) ?_)|refine sK ?_|refine sC (fun _=>?_) (fun _=>?_)|fail)
   exact zB hw
  | ok p =>
   obtain ⟨⟨⟩,l1⟩:=p
   have hw:(yL g m ⟨c.x.op,arg,t0⟩) l=.ok ((),l1):=by simp [yL,c,zu,zC,hS1]
   repeat' (first|(refine shC ?_;first|refine qC (zM 3) ?_)|(refine zn ?_;first|(refine zo 0 zh rfl rfl ((zO c [kTy 3] _ (by omega) (by simp)).ok hS1) rfl rfl rfl rfl rfl ?_))|refine sK ?_|refine sC (fun _=>?_) (fun _=>?_)|fail)
   exact zU hw (yw (.inl rfl) tH)
theorem zo4 (g:Img) (hF:Fm g) (m:Me) (ar:List Ty) (arg:Int) (t0:Ty) (l:List Ty) (hl:l.length≤100):XC 162 [] (⟨g,m,ar,⟨10,arg,t0⟩⟩:RC) (yL g m ⟨10,arg,t0⟩) uV l:=by
 intro u;refine zH zf Tryz.func162 rfl (by kernel_rfl) Tryz.ntmps162 (by simp) _ rfl (fun gB hw1=>?_)
 cases hS1:(yV m.max [kTy 8]) l with
 | error e =>
  have hw:(yL g m ⟨10,arg,t0⟩) l=.error e:=by simp [yL,zu,zC,hS1]
  repeat' (first|refine zl 7 3 rfl rfl rfl ?_|refine zA ((yP u ⟨g,m,ar,⟨10,arg,t0⟩⟩ l)) zh rfl rfl rfl tH ((zO ⟨g,m,ar,⟨10,arg,t0⟩⟩ [kTy 8] _ (by omega) (by simp)).bad hS1 u) ?_|(refine shC ?_;first|refine qC (zM 8) ?_)|refine sK ?_|refine sC (fun _=>?_) (fun _=>?_)|fail)
  exact zB hw
 | ok p =>
  obtain ⟨⟨⟩,l1⟩:=p
  have hw:(yL g m ⟨10,arg,t0⟩) l=.ok ((),l1):=by simp [yL,zu,zC,hS1]
  repeat' (first|(refine shC ?_;first|refine qC (zM 8) ?_)|(refine zn ?_;first|(refine zo 0 zh rfl rfl ((zO ⟨g,m,ar,⟨10,arg,t0⟩⟩ [kTy 8] _ (by omega) (by simp)).ok hS1) rfl rfl rfl rfl rfl ?_))|refine sK ?_|refine sC (fun _=>?_) (fun _=>?_)|fail)
  exact zU hw (yw (.inl rfl) tH)
theorem zoQ (g:Img) (hF:Fm g) (m:Me) (ar:List Ty) (arg:Int) (t0:Ty) (l:List Ty) (hl:l.length≤100):XC 162 [] (⟨g,m,ar,⟨11,arg,t0⟩⟩:RC) (yL g m ⟨11,arg,t0⟩) uV l:=by
 intro u;refine zH zf Tryz.func162 rfl (by kernel_rfl) Tryz.ntmps162 (by simp) _ rfl (fun gB hw1=>?_)
 cases hS1:(YC) l with
 | error e =>
  have hw:(yL g m ⟨11,arg,t0⟩) l=.error e:=by simp [yL,zu,zC,hS1]
  repeat' (first|refine zl 9 1 rfl rfl rfl ?_|refine zA ((yP u ⟨g,m,ar,⟨11,arg,t0⟩⟩ l)) zh rfl rfl rfl tH ((yh ⟨g,m,ar,⟨11,arg,t0⟩⟩ _ (by omega)).bad hS1 u) ?_|refine sK ?_|refine sC (fun _=>?_) (fun _=>?_)|fail)
  exact zB hw
 | ok p =>
  obtain ⟨t,l1⟩:=p
  have hl1:l1.length≤100:=by have:=QU hS1;omega
  cases hS2:(yV m.max [t,t]) l1 with
  | error e =>
   have hw:(yL g m ⟨11,arg,t0⟩) l=.error e:=by simp [yL,zu,zC,hS1,hS2]
   repeat' (first|refine zl 10 4 rfl rfl rfl ?_|refine zA ((yP u ⟨g,m,ar,⟨11,arg,t0⟩⟩ l1)) zh rfl rfl rfl tH ((zO ⟨g,m,ar,⟨11,arg,t0⟩⟩ [t,t] _ (by omega) (by simp)).bad hS2 u) ?_|(refine zn ?_;first|(refine zo 0 zh rfl rfl ((yh ⟨g,m,ar,⟨11,arg,t0⟩⟩ _ (by omega)).ok hS1) rfl rfl rfl rfl rfl ?_))|refine sK ?_|refine sC (fun _=>?_) (fun _=>?_)|fail)
   exact zB hw
  | ok p =>
   obtain ⟨⟨⟩,l2⟩:=p
   have hw:(yL g m ⟨11,arg,t0⟩) l=.ok ((),l2):=by simp [yL,zu,zC,hS1,hS2]
   repeat' (first|(refine zn ?_;first|(refine zo 0 zh rfl rfl ((yh ⟨g,m,ar,⟨11,arg,t0⟩⟩ _ (by omega)).ok hS1) rfl rfl rfl rfl rfl ?_)|(refine zo 0 zh rfl rfl ((zO ⟨g,m,ar,⟨11,arg,t0⟩⟩ [t,t] _ (by omega) (by simp)).ok hS2) rfl rfl rfl rfl rfl ?_))|refine sK ?_|refine sC (fun _=>?_) (fun _=>?_)|fail)
   exact zU hw (yw (.inl rfl) tH)
theorem zoY (g:Img) (hF:Fm g) (m:Me) (ar:List Ty) (arg:Int) (t0:Ty) (l:List Ty) (hl:l.length≤100):XC 162 [] (⟨g,m,ar,⟨12,arg,t0⟩⟩:RC) (yL g m ⟨12,arg,t0⟩) uV l:=by
 intro u;refine zH zf Tryz.func162 rfl (by kernel_rfl) Tryz.ntmps162 (by simp) _ rfl (fun gB hw1=>?_)
 cases hS1:(YC) l with
 | error e =>
  have hw:(yL g m ⟨12,arg,t0⟩) l=.error e:=by simp [yL,zu,zC,hS1]
  repeat' (first|refine zl 12 1 rfl rfl rfl ?_|refine zA ((yP u ⟨g,m,ar,⟨12,arg,t0⟩⟩ l)) zh rfl rfl rfl tH ((yh ⟨g,m,ar,⟨12,arg,t0⟩⟩ _ (by omega)).bad hS1 u) ?_|refine sK ?_|refine sC (fun _=>?_) (fun _=>?_)|fail)
  exact zB hw
 | ok p =>
  obtain ⟨t,l1⟩:=p
  have hl1:l1.length≤100:=by have:=QU hS1;omega
  have hw:(yL g m ⟨12,arg,t0⟩) l=.ok ((),l1):=by simp [yL,zu,zC,hS1]
  repeat' (first|(refine zn ?_;first|(refine zo 0 zh rfl rfl ((yh ⟨g,m,ar,⟨12,arg,t0⟩⟩ _ (by omega)).ok hS1) rfl rfl rfl rfl rfl ?_))|refine sK ?_|refine sC (fun _=>?_) (fun _=>?_)|fail)
  exact zU hw (yw (.inl rfl) tH)
theorem zoA (g:Img) (hF:Fm g) (m:Me) (ar:List Ty) (arg:Int) (t0:Ty) (l:List Ty) (hl:l.length≤100):XC 162 [] (⟨g,m,ar,⟨75,arg,t0⟩⟩:RC) (yL g m ⟨75,arg,t0⟩) uV l:=by
 intro u;refine zH zf Tryz.func162 rfl (by kernel_rfl) Tryz.ntmps162 (by simp) _ rfl (fun gB hw1=>?_)
 cases hS1:(Yy g (kTy 3)) l with
 | error e =>
  have hw:(yL g m ⟨75,arg,t0⟩) l=.error e:=by simp [yL,zu,zC,hS1]
  repeat' (first|refine zl 14 2 rfl rfl rfl ?_|refine zA ((yP u ⟨g,m,ar,⟨75,arg,t0⟩⟩ l)) zh rfl rfl rfl tH ((qg ⟨g,m,ar,⟨75,arg,t0⟩⟩ hF (kTy 3) _ (by omega)).bad hS1 u) ?_|(refine shC ?_;first|refine qC (zM 3) ?_)|refine sK ?_|refine sC (fun _=>?_) (fun _=>?_)|fail)
  exact zB hw
 | ok p =>
  obtain ⟨⟨⟩,l1⟩:=p
  have hl1:l1.length≤100:=by have:=XZ hS1;omega
  have hw:(yL g m ⟨75,arg,t0⟩) l=.ok ((),l1):=by simp [yL,zu,zC,hS1]
  repeat' (first|(refine shC ?_;first|refine qC (zM 3) ?_)|(refine zn ?_;first|(refine zo 0 zh rfl rfl ((qg ⟨g,m,ar,⟨75,arg,t0⟩⟩ hF (kTy 3) _ (by omega)).ok hS1) rfl rfl rfl rfl rfl ?_))|refine sK ?_|refine sC (fun _=>?_) (fun _=>?_)|fail)
  exact zU hw (yw (.inl rfl) tH)
theorem zrt (g:Img) (hF:Fm g) (m:Me) (ar:List Ty) (arg:Int) (t0:Ty) (l:List Ty) (hl:l.length≤100) (op:Int) (ho:op=1∨op=47):XC 162 [] (⟨g,m,ar,⟨op,arg,t0⟩⟩:RC) (yL g m ⟨op,arg,t0⟩) uV l:=by
 let c:RC:=⟨g,m,ar,⟨op,arg,t0⟩⟩
 rcases ho with rfl|rfl
 all_goals
  intro u;refine zH zf Tryz.func162 rfl (by kernel_rfl) Tryz.ntmps162 (by simp) _ rfl (fun gB hw1=>?_)
  have hw:(yL g m ⟨c.x.op,arg,t0⟩) l=.ok ((),l):=by simp [yL,c,zu,zC]
  repeat' (first|refine sK ?_|refine sC (fun _=>?_) (fun _=>?_)|fail)
  exact zU hw (yw (.inl rfl) tH)
theorem zpx (g:Img) (hF:Fm g) (m:Me) (ar:List Ty) (arg:Int) (t0:Ty) (l:List Ty) (hl:l.length≤100) (h0:0≤arg) (h1:arg.toNat < g.methods.length):XC 162 [] (⟨g,m,ar,⟨67,arg,t0⟩⟩:RC) (yL g m ⟨67,arg,t0⟩) uV l:=by
 intro u;refine zH zf Tryz.func162 rfl (by kernel_rfl) Tryz.ntmps162 (by simp) _ rfl (fun gB hw1=>?_)
 have cm:XC 202 [] (⟨g,m,ar,⟨67,arg,t0⟩⟩:RC) (pure (mAt g arg):SM Me) (fun d=>.pv (yB d)) l:=zam _ l h0 h1
 have em:(pure (mAt g arg):SM Me) l=.ok (mAt g arg,l):=rfl
 obtain ⟨d,hd⟩:∃ d,mAt g arg=d:=⟨_,rfl⟩
 rw [hd] at cm em
 have ca:=YI d 4
 have cb:=YI d 16
 cases hC1:(qJ d.flags 4)
 ·rw [hC1] at ca
  cases hC2:(qJ d.flags 16)
  ·rw [hC2] at cb
   cases hS4:(yV m.max [⟨9,arg,0,false⟩]) l with
   | error e =>
    have hw:(yL g m ⟨67,arg,t0⟩) l=.error e:=by simp [yL,hd,zu,zC,hC1,hC2,zJ,emptyS,hS4]
    repeat' (first|refine zl 17 8 rfl rfl rfl ?_|refine zA ((yP u ⟨g,m,ar,⟨67,arg,t0⟩⟩ l)) zh rfl rfl rfl tH ((zO ⟨g,m,ar,⟨67,arg,t0⟩⟩ [⟨9,arg,0,false⟩] _ (by omega) (by simp)).bad hS4 u) ?_|(refine shC ?_;first|refine qC ca ?_|refine qC cb ?_|refine zx rfl (zI rfl rfl (zF (by first|rfl|assumption|simp [hC1,hC2]) 8)) rfl rfl ?_|refine AD.step _ _ _ _ _ rfl (zI rfl rfl (zF (by first|rfl|assumption|simp [hC1,hC2]) 8)) rfl rfl ?_)|(refine zn ?_;first|(refine zo 0 zh rfl rfl (cm.ok em) rfl rfl rfl rfl rfl ?_))|refine sK ?_|refine sC (fun _=>?_) (fun _=>?_)|fail)
    exact zB hw
   | ok p =>
    obtain ⟨⟨⟩,l4⟩:=p
    have hw:(yL g m ⟨67,arg,t0⟩) l=.ok ((),l4):=by simp [yL,hd,zu,zC,hC1,hC2,zJ,emptyS,hS4]
    repeat' (first|(refine shC ?_;first|refine qC ca ?_|refine qC cb ?_|refine zx rfl (zI rfl rfl (zF (by first|rfl|assumption|simp [hC1,hC2]) 8)) rfl rfl ?_|refine AD.step _ _ _ _ _ rfl (zI rfl rfl (zF (by first|rfl|assumption|simp [hC1,hC2]) 8)) rfl rfl ?_)|(refine zn ?_;first|(refine zo 0 zh rfl rfl ((zO ⟨g,m,ar,⟨67,arg,t0⟩⟩ [⟨9,arg,0,false⟩] _ (by omega) (by simp)).ok hS4) rfl rfl rfl rfl rfl ?_)|(refine zo 0 zh rfl rfl (cm.ok em) rfl rfl rfl rfl rfl ?_))|refine sK ?_|refine sC (fun _=>?_) (fun _=>?_)|fail)
    exact zU hw (yw (.inl rfl) tH)
  ·rw [hC2] at cb
   have hw:(yL g m ⟨67,arg,t0⟩) l=.error 8:=by simp [yL,hd,zu,zC,hC1,hC2,zJ,emptyS]
   repeat' (first|refine zl 16 10 rfl rfl rfl ?_|refine zA ([]) zh rfl rfl rfl tH (yc (by first|rfl|assumption|simp [hC1,hC2]) 8) ?_|(refine shC ?_;first|refine qC ca ?_|refine qC cb ?_)|(refine zn ?_;first|(refine zo 0 zh rfl rfl (cm.ok em) rfl rfl rfl rfl rfl ?_))|refine sK ?_|refine sC (fun _=>?_) (fun _=>?_)|fail)
   exact zB hw
 ·rw [hC1] at ca
  have hw:(yL g m ⟨67,arg,t0⟩) l=.error 8:=by simp [yL,hd,zu,zC,hC1,zJ,emptyS]
  repeat' (first|refine zl 16 10 rfl rfl rfl ?_|refine zA ([]) zh rfl rfl rfl tH (yc (by first|rfl|assumption|simp [hC1]) 8) ?_|(refine shC ?_;first|refine qC ca ?_)|(refine zn ?_;first|(refine zo 0 zh rfl rfl (cm.ok em) rfl rfl rfl rfl rfl ?_))|refine sK ?_|refine sC (fun _=>?_) (fun _=>?_)|fail)
  exact zB hw
theorem zr0 (g:Img) (hF:Fm g) (m:Me) (ar:List Ty) (arg:Int) (t0:Ty) (l:List Ty) (hl:l.length≤100) (u:Value):YQ Tryz.prog 161 [.box 0 0] (yP u (⟨g,m,ar,⟨46,arg,t0⟩⟩:RC) l) (zmM u (⟨g,m,ar,⟨46,arg,t0⟩⟩:RC) ((Zm g m 46) l)):=by
 revert u
 intro u;refine zH zf Tryz.func161 rfl (by kernel_rfl) Tryz.ntmps161 (by simp) _ rfl (fun gB hw1=>?_)
 cases hC1:(m.ret.kind != 1)
 ·skip
  cases hN2:(l.length==0)
  ·have hw:(Zm g m 46) l=.error 9:=by simp [Zm,zu,zC,hC1,zJ,emptyS,hN2]
   repeat' (first|refine zl 4 6 rfl rfl rfl ?_|refine zA ([]) zh rfl rfl rfl tH (yc (by simpa using hN2) 9) ?_|refine zx rfl (zk (ps:=(yR m.ret)) zf rfl rfl rfl rfl rfl) rfl rfl ?_|refine AD.step _ _ _ _ _ rfl (zk (ps:=(yR m.ret)) zf rfl rfl rfl rfl rfl) rfl rfl ?_|refine sK ?_|refine sC (fun _=>?_) (fun _=>?_)|fail)
   exact VH hw
  ·skip
   have hw:(Zm g m 46) l=.ok ((),[]):=by simp [Zm,zu,zC,hC1,zJ,emptyS,hN2,zbn]
   repeat' (first|refine zx rfl (zk (ps:=(yR m.ret)) zf rfl rfl rfl rfl rfl) rfl rfl ?_|refine AD.step _ _ _ _ _ rfl (zk (ps:=(yR m.ret)) zf rfl rfl rfl rfl rfl) rfl rfl ?_|(refine shC ?_;first|refine zx rfl (zI rfl rfl (zF (by simpa using hN2) 9)) rfl rfl ?_|refine AD.step _ _ _ _ _ rfl (zI rfl rfl (zF (by simpa using hN2) 9)) rfl rfl ?_)|refine sK ?_|refine sC (fun _=>?_) (fun _=>?_)|fail)
   exact zd3 hw (zhJ (.inl rfl) tH)
 ·skip
  cases hS2:(Yy g (m.ret)) l with
  | error e =>
   have hw:(Zm g m 46) l=.error e:=by simp [Zm,zu,zC,hC1,hS2]
   repeat' (first|refine zl 3 6 rfl rfl rfl ?_|refine zA ((yP u ⟨g,m,ar,⟨46,arg,t0⟩⟩ l)) zh rfl rfl rfl tH ((qg ⟨g,m,ar,⟨46,arg,t0⟩⟩ hF (m.ret) _ (by omega)).bad hS2 u) ?_|refine zx rfl (zk (ps:=(yR m.ret)) zf rfl rfl rfl rfl rfl) rfl rfl ?_|refine AD.step _ _ _ _ _ rfl (zk (ps:=(yR m.ret)) zf rfl rfl rfl rfl rfl) rfl rfl ?_|refine sK ?_|refine sC (fun _=>?_) (fun _=>?_)|fail)
   exact VH hw
  | ok p =>
   obtain ⟨⟨⟩,l2⟩:=p
   have hl2:l2.length≤100:=by have:=XZ hS2;omega
   cases hN3:(l2.length==0)
   ·have hw:(Zm g m 46) l=.error 9:=by simp [Zm,zu,zC,hC1,hS2,zJ,emptyS,hN3]
    repeat' (first|refine zl 4 6 rfl rfl rfl ?_|refine zA ([]) zh rfl rfl rfl tH (yc (by simpa using hN3) 9) ?_|refine zx rfl (zk (ps:=(yR m.ret)) zf rfl rfl rfl rfl rfl) rfl rfl ?_|refine AD.step _ _ _ _ _ rfl (zk (ps:=(yR m.ret)) zf rfl rfl rfl rfl rfl) rfl rfl ?_|(refine zn ?_;first|(refine zo 0 zh rfl rfl ((qg ⟨g,m,ar,⟨46,arg,t0⟩⟩ hF (m.ret) _ (by omega)).ok hS2) rfl rfl rfl rfl rfl ?_))|refine sK ?_|refine sC (fun _=>?_) (fun _=>?_)|fail)
    exact VH hw
   ·skip
    have hw:(Zm g m 46) l=.ok ((),[]):=by simp [Zm,zu,zC,hC1,hS2,zJ,emptyS,hN3,zbn]
    repeat' (first|refine zx rfl (zk (ps:=(yR m.ret)) zf rfl rfl rfl rfl rfl) rfl rfl ?_|refine AD.step _ _ _ _ _ rfl (zk (ps:=(yR m.ret)) zf rfl rfl rfl rfl rfl) rfl rfl ?_|(refine shC ?_;first|refine zx rfl (zI rfl rfl (zF (by simpa using hN3) 9)) rfl rfl ?_|refine AD.step _ _ _ _ _ rfl (zI rfl rfl (zF (by simpa using hN3) 9)) rfl rfl ?_)|(refine zn ?_;first|(refine zo 0 zh rfl rfl ((qg ⟨g,m,ar,⟨46,arg,t0⟩⟩ hF (m.ret) _ (by omega)).ok hS2) rfl rfl rfl rfl rfl ?_))|refine sK ?_|refine sC (fun _=>?_) (fun _=>?_)|fail)
    exact zd3 hw (zhJ (.inl rfl) tH)
theorem zry (g:Img) (hF:Fm g) (m:Me) (ar:List Ty) (arg:Int) (t0:Ty) (l:List Ty) (hl:l.length≤100) (u:Value):YQ Tryz.prog 161 [.box 0 0] (yP u (⟨g,m,ar,⟨69,arg,t0⟩⟩:RC) l) (zmM u (⟨g,m,ar,⟨69,arg,t0⟩⟩:RC) ((Zm g m 69) l)):=by
 revert u
 intro u;refine zH zf Tryz.func161 rfl (by kernel_rfl) Tryz.ntmps161 (by simp) _ rfl (fun gB hw1=>?_)
 cases hS1:(YC) l with
 | error e =>
  have hw:(Zm g m 69) l=.error e:=by simp [Zm,zu,zC,hS1]
  repeat' (first|refine zl 6 1 rfl rfl rfl ?_|refine zA ((yP u ⟨g,m,ar,⟨69,arg,t0⟩⟩ l)) zh rfl rfl rfl tH ((yh ⟨g,m,ar,⟨69,arg,t0⟩⟩ _ (by omega)).bad hS1 u) ?_|refine sK ?_|refine sC (fun _=>?_) (fun _=>?_)|fail)
  exact VH hw
 | ok p =>
  obtain ⟨t,l1⟩:=p
  have hl1:l1.length≤100:=by have:=QU hS1;omega
  have cx:=qN t
  cases hC3:(object t)
  ·rw [hC3] at cx
   have hw:(Zm g m 69) l=.error 10:=by simp [Zm,zu,zC,hS1,hC3,zJ,emptyS]
   repeat' (first|refine zl 6 3 rfl rfl rfl ?_|refine zA ([]) zh rfl rfl rfl tH (yc (by first|rfl|assumption|simp [hC3]) 10) ?_|(refine shC ?_;first|refine qC cx ?_)|(refine zn ?_;first|(refine zo 0 zh rfl rfl ((yh ⟨g,m,ar,⟨69,arg,t0⟩⟩ _ (by omega)).ok hS1) rfl rfl rfl rfl rfl ?_))|refine sK ?_|refine sC (fun _=>?_) (fun _=>?_)|fail)
   exact VH hw
  ·rw [hC3] at cx
   have hw:(Zm g m 69) l=.ok ((),[]):=by simp [Zm,zu,zC,hS1,hC3,zJ,emptyS,zbn]
   repeat' (first|(refine shC ?_;first|refine qC cx ?_|refine zx rfl (zI rfl rfl (zF (by first|rfl|assumption|simp [hC3]) 10)) rfl rfl ?_|refine AD.step _ _ _ _ _ rfl (zI rfl rfl (zF (by first|rfl|assumption|simp [hC3]) 10)) rfl rfl ?_)|(refine zn ?_;first|(refine zo 0 zh rfl rfl ((yh ⟨g,m,ar,⟨69,arg,t0⟩⟩ _ (by omega)).ok hS1) rfl rfl rfl rfl rfl ?_))|refine sK ?_|refine sC (fun _=>?_) (fun _=>?_)|fail)
   exact zd3 hw (zhJ (.inl rfl) tH)
theorem zsi (g:Img) (hF:Fm g) (m:Me) (ar:List Ty) (arg:Int) (t0:Ty) (l:List Ty) (hl:l.length≤100) (u:Value):YQ Tryz.prog 161 [.box 0 0] (yP u (⟨g,m,ar,⟨73,arg,t0⟩⟩:RC) l) (zmM u (⟨g,m,ar,⟨73,arg,t0⟩⟩:RC) ((Zm g m 73) l)):=by
 revert u
 intro u;refine zH zf Tryz.func161 rfl (by kernel_rfl) Tryz.ntmps161 (by simp) _ rfl (fun gB hw1=>?_)
 cases hS1:(Yy g (kTy 2)) l with
 | error e =>
  have hw:(Zm g m 73) l=.error e:=by simp [Zm,zu,zC,hS1]
  repeat' (first|refine zl 8 2 rfl rfl rfl ?_|refine zA ((yP u ⟨g,m,ar,⟨73,arg,t0⟩⟩ l)) zh rfl rfl rfl tH ((qg ⟨g,m,ar,⟨73,arg,t0⟩⟩ hF (kTy 2) _ (by omega)).bad hS1 u) ?_|(refine shC ?_;first|refine qC (zM 2) ?_)|refine sK ?_|refine sC (fun _=>?_) (fun _=>?_)|fail)
  exact VH hw
 | ok p =>
  obtain ⟨⟨⟩,l1⟩:=p
  have hl1:l1.length≤100:=by have:=XZ hS1;omega
  cases hN2:(l1.length==0)
  ·have hw:(Zm g m 73) l=.error 9:=by simp [Zm,zu,zC,hS1,zJ,emptyS,hN2]
   repeat' (first|refine zl 9 6 rfl rfl rfl ?_|refine zA ([]) zh rfl rfl rfl tH (yc (by simpa using hN2) 9) ?_|(refine shC ?_;first|refine qC (zM 2) ?_)|(refine zn ?_;first|(refine zo 0 zh rfl rfl ((qg ⟨g,m,ar,⟨73,arg,t0⟩⟩ hF (kTy 2) _ (by omega)).ok hS1) rfl rfl rfl rfl rfl ?_))|refine sK ?_|refine sC (fun _=>?_) (fun _=>?_)|fail)
   exact VH hw
  ·skip
   have hw:(Zm g m 73) l=.ok ((),[]):=by simp [Zm,zu,zC,hS1,zJ,emptyS,hN2,zbn]
   repeat' (first|(refine shC ?_;first|refine zx rfl (zI rfl rfl (zF (by simpa using hN2) 9)) rfl rfl ?_|refine AD.step _ _ _ _ _ rfl (zI rfl rfl (zF (by simpa using hN2) 9)) rfl rfl ?_|refine qC (zM 2) ?_)|(refine zn ?_;first|(refine zo 0 zh rfl rfl ((qg ⟨g,m,ar,⟨73,arg,t0⟩⟩ hF (kTy 2) _ (by omega)).ok hS1) rfl rfl rfl rfl rfl ?_))|refine sK ?_|refine sC (fun _=>?_) (fun _=>?_)|fail)
   exact zd3 hw (zhJ (.inl rfl) tH)
theorem zr5 (g:Img) (hF:Fm g) (m:Me) (ar:List Ty) (arg:Int) (t0:Ty) (l:List Ty) (hl:l.length≤100) (op:Int) (ho:op=70∨op=71∨op=72) (u:Value):YQ Tryz.prog 161 [.box 0 0] (yP u (⟨g,m,ar,⟨op,arg,t0⟩⟩:RC) l) (zmM u (⟨g,m,ar,⟨op,arg,t0⟩⟩:RC) ((Zm g m op) l)):=by
 let c:RC:=⟨g,m,ar,⟨op,arg,t0⟩⟩
 rcases ho with rfl|rfl|rfl
 all_goals
  revert u
  intro u;refine zH zf Tryz.func161 rfl (by kernel_rfl) Tryz.ntmps161 (by simp) _ rfl (fun gB hw1=>?_)
  have hw:(Zm g m c.x.op) l=.ok ((),[]):=by simp [Zm,c,zu,zC,zbn]
  repeat' (first|refine sK ?_|refine sC (fun _=>?_) (fun _=>?_)|fail)
  exact zd3 hw (zhJ (.inl rfl) tH)
set_option maxHeartbeats 20000000
theorem zn7 (g:Img) (hF:Fm g) (m:Me) (ar:List Ty) (arg:Int) (t0:Ty) (l:List Ty) (hl:l.length≤100):XC 157 [] (⟨g,m,ar,⟨54,arg,t0⟩⟩:RC) (qY g m ⟨54,arg,t0⟩) uV l:=by
 intro u;refine zH zf Tryz.func157 rfl (by kernel_rfl) Tryz.ntmps157 (by simp) _ rfl (fun gB hw1=>?_)
 have cr:=ZF t0
 have cp:=yh ⟨g,m,ar,⟨54,arg,t0⟩⟩ l (by omega)
 rcases Yc l with hp|⟨t,l1,hp,_⟩
 ·have hw:(qY g m ⟨54,arg,t0⟩) l=.error 9:=by simp [qY,zu,hp]
  repeat' (first|refine ZO 6 5 1 ((1,.cell (.pv (yM t0)))::zfS u) ⟨g,m,ar,⟨54,arg,t0⟩⟩ l l (tV t0) (some (flt 9)) rfl (by kernel_rfl) (by kernel_rfl) (by kernel_rfl) (by kernel_rfl) (by kernel_rfl) rfl (by kernel_rfl) rfl rfl tH rfl rfl (fun v hv=>by cases hv;exact zB hw) ?_|refine ⟨⟨rfl,zev (u:=u) cp hp rfl rfl tH rfl⟩,?_⟩|refine zx rfl (zk (ps:=(yR t0)) zf rfl rfl rfl rfl rfl) rfl rfl ?_|refine AD.step _ _ _ _ _ rfl (zk (ps:=(yR t0)) zf rfl rfl rfl rfl rfl) rfl rfl ?_|(intro h;cases h)|(refine shC ?_;first|refine qC cr ?_)|refine sK ?_|refine sC (fun _=>?_) (fun _=>?_)|fail)
 ·have hl1:l1.length≤100:=by have:=QU hp;omega
  cases hn:tyB t (rfT t0)
  ·have hw:(qY g m ⟨54,arg,t0⟩) l=.error 10:=by simp [qY,zu,hp,zJ,hn]
   repeat' (first|refine ZO 6 5 1 ((1,.cell (.pv (yM t0)))::zfS u) ⟨g,m,ar,⟨54,arg,t0⟩⟩ l l1 (tV t) none rfl (by kernel_rfl) (by kernel_rfl) (by kernel_rfl) (by kernel_rfl) (by kernel_rfl) rfl (by kernel_rfl) rfl rfl tH rfl rfl (fun v hv=>by cases hv) ?_|refine ⟨⟨rfl,VB cp hp rfl rfl rfl rfl rfl rfl⟩,?_⟩|refine zx rfl (zk (ps:=(yR t0)) zf rfl rfl rfl rfl rfl) rfl rfl ?_|refine AD.step _ _ _ _ _ rfl (zk (ps:=(yR t0)) zf rfl rfl rfl rfl rfl) rfl rfl ?_|intro _|refine zA [] zh rfl rfl rfl tH (yc hn 10) ?_|(refine shC ?_;first|refine qC cr ?_)|refine sK ?_|refine sC (fun _=>?_) (fun _=>?_)|fail)
   exact zB hw
  ·have cq:=zO ⟨g,m,ar,⟨54,arg,t0⟩⟩ [t0] l1 (by omega) (by simp)
   cases hq:(yV m.max [t0]) l1 with
   | error e =>
    have hw:(qY g m ⟨54,arg,t0⟩) l=.error e:=by simp [qY,zu,hp,zJ,hn,hq]
    repeat' (first|refine zl 5 3 rfl rfl rfl ?_|refine zA ((yP u ⟨g,m,ar,⟨54,arg,t0⟩⟩ l1)) zh rfl rfl rfl tH (cq.bad hq u) ?_|refine ZO 6 5 1 ((1,.cell (.pv (yM t0)))::zfS u) ⟨g,m,ar,⟨54,arg,t0⟩⟩ l l1 (tV t) none rfl (by kernel_rfl) (by kernel_rfl) (by kernel_rfl) (by kernel_rfl) (by kernel_rfl) rfl (by kernel_rfl) rfl rfl tH rfl rfl (fun v hv=>by cases hv) ?_|refine ⟨⟨rfl,VB cp hp rfl rfl rfl rfl rfl rfl⟩,?_⟩|refine zx rfl (zk (ps:=(yR t0)) zf rfl rfl rfl rfl rfl) rfl rfl ?_|refine AD.step _ _ _ _ _ rfl (zk (ps:=(yR t0)) zf rfl rfl rfl rfl rfl) rfl rfl ?_|intro _|refine XO ?_|(refine shC ?_;first|refine qC cr ?_|refine qC (zF hn 10) ?_)|refine sK ?_|refine sC (fun _=>?_) (fun _=>?_)|fail)
    exact zB hw
   | ok p =>
    obtain ⟨⟨⟩,l2⟩:=p
    have hw:(qY g m ⟨54,arg,t0⟩) l=.ok ((),l2):=by simp [qY,zu,hp,zJ,hn,hq]
    repeat' (first|refine ZO 6 5 1 ((1,.cell (.pv (yM t0)))::zfS u) ⟨g,m,ar,⟨54,arg,t0⟩⟩ l l1 (tV t) none rfl (by kernel_rfl) (by kernel_rfl) (by kernel_rfl) (by kernel_rfl) (by kernel_rfl) rfl (by kernel_rfl) rfl rfl tH rfl rfl (fun v hv=>by cases hv) ?_|refine ⟨⟨rfl,VB cp hp rfl rfl rfl rfl rfl rfl⟩,?_⟩|refine zx rfl (zk (ps:=(yR t0)) zf rfl rfl rfl rfl rfl) rfl rfl ?_|refine AD.step _ _ _ _ _ rfl (zk (ps:=(yR t0)) zf rfl rfl rfl rfl rfl) rfl rfl ?_|intro _|refine XO ?_|(refine shC ?_;first|refine qC cr ?_|refine qC (zF hn 10) ?_)|(refine zn ?_;first|(refine zo 0 zh rfl rfl (cq.ok hq) rfl rfl rfl rfl rfl ?_))|refine sK ?_|refine sC (fun _=>?_) (fun _=>?_)|fail)
    exact zU hw (yw (.inl rfl) tH)
theorem zpf (g:Img) (hF:Fm g) (m:Me) (ar:List Ty) (arg:Int) (t0:Ty) (l:List Ty) (hl:l.length≤100):XC 157 [] (⟨g,m,ar,⟨56,arg,t0⟩⟩:RC) (qY g m ⟨56,arg,t0⟩) uV l:=by
 intro u;refine zH zf Tryz.func157 rfl (by kernel_rfl) Tryz.ntmps157 (by simp) _ rfl (fun gB hw1=>?_)
 have cr:=ZF t0
 have cp:=yh ⟨g,m,ar,⟨56,arg,t0⟩⟩ l (by omega)
 rcases Yc l with hp|⟨t,l1,hp,_⟩
 ·have hw:(qY g m ⟨56,arg,t0⟩) l=.error 9:=by simp [qY,zu,hp]
  repeat' (first|refine ZO 6 5 1 ((1,.cell (.pv (yM t0)))::zfS u) ⟨g,m,ar,⟨56,arg,t0⟩⟩ l l (tV t0) (some (flt 9)) rfl (by kernel_rfl) (by kernel_rfl) (by kernel_rfl) (by kernel_rfl) (by kernel_rfl) rfl (by kernel_rfl) rfl rfl tH rfl rfl (fun v hv=>by cases hv;exact zB hw) ?_|refine ⟨⟨rfl,zev (u:=u) cp hp rfl rfl tH rfl⟩,?_⟩|refine zx rfl (zk (ps:=(yR t0)) zf rfl rfl rfl rfl rfl) rfl rfl ?_|refine AD.step _ _ _ _ _ rfl (zk (ps:=(yR t0)) zf rfl rfl rfl rfl rfl) rfl rfl ?_|(intro h;cases h)|(refine shC ?_;first|refine qC cr ?_)|refine sK ?_|refine sC (fun _=>?_) (fun _=>?_)|fail)
 ·have hl1:l1.length≤100:=by have:=QU hp;omega
  cases hn:tyB t (rfT t0)
  ·have hw:(qY g m ⟨56,arg,t0⟩) l=.error 10:=by simp [qY,zu,hp,zJ,hn]
   repeat' (first|refine ZO 6 5 1 ((1,.cell (.pv (yM t0)))::zfS u) ⟨g,m,ar,⟨56,arg,t0⟩⟩ l l1 (tV t) none rfl (by kernel_rfl) (by kernel_rfl) (by kernel_rfl) (by kernel_rfl) (by kernel_rfl) rfl (by kernel_rfl) rfl rfl tH rfl rfl (fun v hv=>by cases hv) ?_|refine ⟨⟨rfl,VB cp hp rfl rfl rfl rfl rfl rfl⟩,?_⟩|refine zx rfl (zk (ps:=(yR t0)) zf rfl rfl rfl rfl rfl) rfl rfl ?_|refine AD.step _ _ _ _ _ rfl (zk (ps:=(yR t0)) zf rfl rfl rfl rfl rfl) rfl rfl ?_|intro _|refine zA [] zh rfl rfl rfl tH (yc hn 10) ?_|(refine shC ?_;first|refine qC cr ?_)|refine sK ?_|refine sC (fun _=>?_) (fun _=>?_)|fail)
   exact zB hw
  ·have hw:(qY g m ⟨56,arg,t0⟩) l=.ok ((),l1):=by simp [qY,zu,zC,hp,zJ,hn]
   repeat' (first|refine ZO 6 5 1 ((1,.cell (.pv (yM t0)))::zfS u) ⟨g,m,ar,⟨56,arg,t0⟩⟩ l l1 (tV t) none rfl (by kernel_rfl) (by kernel_rfl) (by kernel_rfl) (by kernel_rfl) (by kernel_rfl) rfl (by kernel_rfl) rfl rfl tH rfl rfl (fun v hv=>by cases hv) ?_|refine ⟨⟨rfl,VB cp hp rfl rfl rfl rfl rfl rfl⟩,?_⟩|refine zx rfl (zk (ps:=(yR t0)) zf rfl rfl rfl rfl rfl) rfl rfl ?_|refine AD.step _ _ _ _ _ rfl (zk (ps:=(yR t0)) zf rfl rfl rfl rfl rfl) rfl rfl ?_|intro _|refine XO ?_|(refine shC ?_;first|refine qC cr ?_|refine qC (zF hn 10) ?_)|refine sK ?_|refine sC (fun _=>?_) (fun _=>?_)|fail)
   exact zU hw (yw (.inl rfl) tH)
end Go.Cg
