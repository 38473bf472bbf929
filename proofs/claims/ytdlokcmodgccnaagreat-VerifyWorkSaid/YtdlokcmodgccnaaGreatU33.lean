/- A part of the walks by abstract values: no statement of its own. -/
import Derived.Test.YtdlokcmodgccnaaGreatU28
import Derived.Test.YtdlokcmodgccnaaGreatU15
import Derived.Test.YtdlokcmodgccnaaGreatU27
import Derived.Test.YtdlokcmodgccnaaGreatU11
import Derived.Test.YtdlokcmodgccnaaGreatU12
import Derived.Test.YtdlokcmodgccnaaGreatU30
import Derived.Test.YtdlokcmodgccnaaGreatU25
import Derived.Test.YtdlokcmodgccnaaGreatU7
import Derived.Test.YtdlokcmodgccnaaGreatU6
set_option linter.unusedVariables false
set_option linter.unusedSimpArgs false
namespace Go.Cg
open Go.Proofs
set_option maxHeartbeats 20000000
theorem zqo (g:Img) (hF:Fm g) (m:Me) (ar:List Ty) (arg:Int) (t0:Ty) (l:List Ty) (hl:l.length≤100) (op:Int) (ho:op=35∨op=36):XC 154 [] (⟨g,m,ar,⟨op,arg,t0⟩⟩:RC) (Zk op) uV l:=by
 let c:RC:=⟨g,m,ar,⟨op,arg,t0⟩⟩
 rcases ho with rfl|rfl
 all_goals
  intro u;refine zH zf Tryz.func154 rfl (by kernel_rfl) Tryz.ntmps154 (by simp) _ rfl (fun gB hw1=>?_)
  cases hS1:(YC) l with
  | error e =>
   have hw:(Zk c.x.op) l=.error e:=by simp [Zk,c,zu,zC,hS1]
   repeat' (first|refine zl 3 1 rfl rfl rfl ?_|refine zA ((yP u c l)) zh rfl rfl rfl tH ((yh c _ (by omega)).bad hS1 u) ?_|refine sK ?_|refine sC (fun _=>?_) (fun _=>?_)|fail)
   exact zB hw
  | ok p =>
   obtain ⟨t,l1⟩:=p
   have hl1:l1.length≤100:=by have:=QU hS1;omega
   have cn:=za1 t
   have co:=qN t
   cases hC3:(nuT t)
   ·rw [hC3] at cn
    cases hC4:(object t)
    ·rw [hC4] at co
     have hw:(Zk c.x.op) l=.error 10:=by simp [Zk,c,zu,zC,hS1,hC3,hC4,zJ,emptyS]
     repeat' (first|refine zl 4 6 rfl rfl rfl ?_|refine zA ([]) zh rfl rfl rfl tH (yc (by first|rfl|assumption|simp [hC3,hC4]) 10) ?_|(refine shC ?_;first|refine qC cn ?_|refine qC co ?_)|(refine zn ?_;first|(refine zo 0 zh rfl rfl ((yh c _ (by omega)).ok hS1) rfl rfl rfl rfl rfl ?_))|refine sK ?_|refine sC (fun _=>?_) (fun _=>?_)|fail)
     exact zB hw
    ·rw [hC4] at co
     have hw:(Zk c.x.op) l=.ok ((),l1):=by simp [Zk,c,zu,zC,hS1,hC3,hC4,zJ,emptyS]
     repeat' (first|(refine shC ?_;first|refine qC cn ?_|refine qC co ?_|refine zx rfl (zI rfl rfl (zF (by first|rfl|assumption|simp [hC3,hC4]) 10)) rfl rfl ?_|refine AD.step _ _ _ _ _ rfl (zI rfl rfl (zF (by first|rfl|assumption|simp [hC3,hC4]) 10)) rfl rfl ?_)|(refine zn ?_;first|(refine zo 0 zh rfl rfl ((yh c _ (by omega)).ok hS1) rfl rfl rfl rfl rfl ?_))|refine sK ?_|refine sC (fun _=>?_) (fun _=>?_)|fail)
     exact zU hw (yw (.inl rfl) tH)
   ·rw [hC3] at cn
    have hw:(Zk c.x.op) l=.ok ((),l1):=by simp [Zk,c,zu,zC,hS1,hC3,zJ,emptyS]
    repeat' (first|(refine shC ?_;first|refine qC cn ?_|refine zx rfl (zI rfl rfl (zF (by first|rfl|assumption|simp [hC3]) 10)) rfl rfl ?_|refine AD.step _ _ _ _ _ rfl (zI rfl rfl (zF (by first|rfl|assumption|simp [hC3]) 10)) rfl rfl ?_)|(refine zn ?_;first|(refine zo 0 zh rfl rfl ((yh c _ (by omega)).ok hS1) rfl rfl rfl rfl rfl ?_))|refine sK ?_|refine sC (fun _=>?_) (fun _=>?_)|fail)
    exact zU hw (yw (.inl rfl) tH)
theorem zqv (g:Img) (hF:Fm g) (m:Me) (ar:List Ty) (arg:Int) (t0:Ty) (l:List Ty) (hl:l.length≤100) (op:Int) (ho:op=37∨op=42):XC 154 [] (⟨g,m,ar,⟨op,arg,t0⟩⟩:RC) (Zk op) uV l:=by
 let c:RC:=⟨g,m,ar,⟨op,arg,t0⟩⟩
 rcases ho with rfl|rfl
 all_goals
  intro u;refine zH zf Tryz.func154 rfl (by kernel_rfl) Tryz.ntmps154 (by simp) _ rfl (fun gB hw1=>?_)
  cases hS1:(Ze) l with
  | error e =>
   have hw:(Zk c.x.op) l=.error e:=by simp [Zk,c,zu,zC,hS1]
   repeat' (first|refine zl 7 1 rfl rfl rfl ?_|refine zA ((yP u c l)) zh rfl rfl rfl tH ((Wu c _ (by omega)).bad hS1 u) ?_|refine sK ?_|refine sC (fun _=>?_) (fun _=>?_)|fail)
   exact zB hw
  | ok p =>
   obtain ⟨⟨⟩,l1⟩:=p
   have hl1:l1.length≤100:=by have:=zdj hS1;omega
   have hw:(Zk c.x.op) l=.ok ((),l1):=by simp [Zk,c,zu,zC,hS1]
   repeat' (first|(refine zn ?_;first|(refine zo 0 zh rfl rfl ((Wu c _ (by omega)).ok hS1) rfl rfl rfl rfl rfl ?_))|refine sK ?_|refine sC (fun _=>?_) (fun _=>?_)|fail)
   exact zU hw (yw (.inl rfl) tH)
theorem zq5 (g:Img) (hF:Fm g) (m:Me) (ar:List Ty) (arg:Int) (t0:Ty) (l:List Ty) (hl:l.length≤100) (op:Int) (ho:op=38∨op=39∨op=40∨op=41):XC 154 [] (⟨g,m,ar,⟨op,arg,t0⟩⟩:RC) (Zk op) uV l:=by
 let c:RC:=⟨g,m,ar,⟨op,arg,t0⟩⟩
 rcases ho with rfl|rfl|rfl|rfl
 all_goals
  intro u;refine zH zf Tryz.func154 rfl (by kernel_rfl) Tryz.ntmps154 (by simp) _ rfl (fun gB hw1=>?_)
  cases hS1:(Zg) l with
  | error e =>
   have hw:(Zk c.x.op) l=.error e:=by simp [Zk,c,zu,zC,hS1]
   repeat' (first|refine zl 12 1 rfl rfl rfl ?_|refine zA ((yP u c l)) zh rfl rfl rfl tH ((Yk c _ (by omega)).bad hS1 u) ?_|refine sK ?_|refine sC (fun _=>?_) (fun _=>?_)|fail)
   exact zB hw
  | ok p =>
   obtain ⟨t,l1⟩:=p
   have hl1:l1.length≤100:=by have:=zad hS1;omega
   have hw:(Zk c.x.op) l=.ok ((),l1):=by simp [Zk,c,zu,zC,hS1]
   repeat' (first|(refine zn ?_;first|(refine zo 0 zh rfl rfl ((Yk c _ (by omega)).ok hS1) rfl rfl rfl rfl rfl ?_))|refine sK ?_|refine sC (fun _=>?_) (fun _=>?_)|fail)
   exact zU hw (yw (.inl rfl) tH)
theorem zqF (g:Img) (hF:Fm g) (m:Me) (ar:List Ty) (arg:Int) (t0:Ty) (l:List Ty) (hl:l.length≤100):XC 154 [] (⟨g,m,ar,⟨34,arg,t0⟩⟩:RC) (Zk 34) uV l:=by
 intro u;refine zH zf Tryz.func154 rfl (by kernel_rfl) Tryz.ntmps154 (by simp) _ rfl (fun gB hw1=>?_)
 have hw:(Zk 34) l=.ok ((),l):=by simp [Zk,zu,zC]
 repeat' (first|refine sK ?_|refine sC (fun _=>?_) (fun _=>?_)|fail)
 exact zU hw (yw (.inl rfl) tH)
theorem zmb (g:Img) (hF:Fm g) (m:Me) (ar:List Ty) (arg:Int) (t0:Ty) (l:List Ty) (hl:l.length≤100):XC 159 [] (⟨g,m,ar,⟨62,arg,t0⟩⟩:RC) (yA g m ⟨62,arg,t0⟩) uV l:=by
 intro u;refine zH zf Tryz.func159 rfl (by kernel_rfl) Tryz.ntmps159 (by simp) _ rfl (fun gB hw1=>?_)
 have co:=qN t0
 have cb:=zbc t0
 have cr:=ZF t0
 cases hC1:(zef t0)
 ·rw [hC1] at cb
  have hw:(yA g m ⟨62,arg,t0⟩) l=.error 8:=by simp [yA,zu,zC,hC1,zJ,emptyS]
  repeat' (first|refine zl 2 13 rfl rfl rfl ?_|refine zA ([]) zh rfl rfl rfl tH (yc (by first|rfl|assumption|simp [hC1]) 8) ?_|refine zx rfl (zk (ps:=(yR t0)) zf rfl rfl rfl rfl rfl) rfl rfl ?_|refine AD.step _ _ _ _ _ rfl (zk (ps:=(yR t0)) zf rfl rfl rfl rfl rfl) rfl rfl ?_|(refine shC ?_;first|refine qC cb ?_|refine qC (zM 4) ?_)|refine sK ?_|refine sC (fun _=>?_) (fun _=>?_)|fail)
  exact zB hw
 ·rw [hC1] at cb
  cases hS3:(Yy g t0) l with
  | error e =>
   have hw:(yA g m ⟨62,arg,t0⟩) l=.error e:=by simp [yA,zu,zC,hC1,zJ,emptyS,hS3]
   repeat' (first|refine zl 4 2 rfl rfl rfl ?_|refine zA ((yP u ⟨g,m,ar,⟨62,arg,t0⟩⟩ l)) zh rfl rfl rfl tH ((qg ⟨g,m,ar,⟨62,arg,t0⟩⟩ hF t0 _ (by omega)).bad hS3 u) ?_|refine zx rfl (zk (ps:=(yR t0)) zf rfl rfl rfl rfl rfl) rfl rfl ?_|refine AD.step _ _ _ _ _ rfl (zk (ps:=(yR t0)) zf rfl rfl rfl rfl rfl) rfl rfl ?_|(refine shC ?_;first|refine qC cb ?_|refine zx rfl (zI rfl rfl (zF (by first|rfl|assumption|simp [hC1]) 8)) rfl rfl ?_|refine AD.step _ _ _ _ _ rfl (zI rfl rfl (zF (by first|rfl|assumption|simp [hC1]) 8)) rfl rfl ?_|refine qC (zM 4) ?_)|refine sK ?_|refine sC (fun _=>?_) (fun _=>?_)|fail)
   exact zB hw
  | ok p =>
   obtain ⟨⟨⟩,l3⟩:=p
   have hl3:l3.length≤100:=by have:=XZ hS3;omega
   cases hS4:(yV m.max [kTy 4]) l3 with
   | error e =>
    have hw:(yA g m ⟨62,arg,t0⟩) l=.error e:=by simp [yA,zu,zC,hC1,zJ,emptyS,hS3,hS4]
    repeat' (first|refine zl 5 3 rfl rfl rfl ?_|refine zA ((yP u ⟨g,m,ar,⟨62,arg,t0⟩⟩ l3)) zh rfl rfl rfl tH ((zO ⟨g,m,ar,⟨62,arg,t0⟩⟩ [kTy 4] _ (by omega) (by simp)).bad hS4 u) ?_|refine zx rfl (zk (ps:=(yR t0)) zf rfl rfl rfl rfl rfl) rfl rfl ?_|refine AD.step _ _ _ _ _ rfl (zk (ps:=(yR t0)) zf rfl rfl rfl rfl rfl) rfl rfl ?_|(refine shC ?_;first|refine qC cb ?_|refine zx rfl (zI rfl rfl (zF (by first|rfl|assumption|simp [hC1]) 8)) rfl rfl ?_|refine AD.step _ _ _ _ _ rfl (zI rfl rfl (zF (by first|rfl|assumption|simp [hC1]) 8)) rfl rfl ?_|refine qC (zM 4) ?_)|(refine zn ?_;first|(refine zo 0 zh rfl rfl ((qg ⟨g,m,ar,⟨62,arg,t0⟩⟩ hF t0 _ (by omega)).ok hS3) rfl rfl rfl rfl rfl ?_))|refine sK ?_|refine sC (fun _=>?_) (fun _=>?_)|fail)
    exact zB hw
   | ok p =>
    obtain ⟨⟨⟩,l4⟩:=p
    have hw:(yA g m ⟨62,arg,t0⟩) l=.ok ((),l4):=by simp [yA,zu,zC,hC1,zJ,emptyS,hS3,hS4]
    repeat' (first|refine zx rfl (zk (ps:=(yR t0)) zf rfl rfl rfl rfl rfl) rfl rfl ?_|refine AD.step _ _ _ _ _ rfl (zk (ps:=(yR t0)) zf rfl rfl rfl rfl rfl) rfl rfl ?_|(refine shC ?_;first|refine qC cb ?_|refine zx rfl (zI rfl rfl (zF (by first|rfl|assumption|simp [hC1]) 8)) rfl rfl ?_|refine AD.step _ _ _ _ _ rfl (zI rfl rfl (zF (by first|rfl|assumption|simp [hC1]) 8)) rfl rfl ?_|refine qC (zM 4) ?_)|(refine zn ?_;first|(refine zo 0 zh rfl rfl ((qg ⟨g,m,ar,⟨62,arg,t0⟩⟩ hF t0 _ (by omega)).ok hS3) rfl rfl rfl rfl rfl ?_)|(refine zo 0 zh rfl rfl ((zO ⟨g,m,ar,⟨62,arg,t0⟩⟩ [kTy 4] _ (by omega) (by simp)).ok hS4) rfl rfl rfl rfl rfl ?_))|refine sK ?_|refine sC (fun _=>?_) (fun _=>?_)|fail)
    exact zU hw (yw (.inr rfl) tH)
theorem zmU (g:Img) (hF:Fm g) (m:Me) (ar:List Ty) (arg:Int) (t0:Ty) (l:List Ty) (hl:l.length≤100):XC 159 [] (⟨g,m,ar,⟨63,arg,t0⟩⟩:RC) (yA g m ⟨63,arg,t0⟩) uV l:=by
 intro u;refine zH zf Tryz.func159 rfl (by kernel_rfl) Tryz.ntmps159 (by simp) _ rfl (fun gB hw1=>?_)
 have co:=qN t0
 have cb:=zbc t0
 have cr:=ZF t0
 cases hC1:(zef t0)
 ·rw [hC1] at cb
  have hw:(yA g m ⟨63,arg,t0⟩) l=.error 8:=by simp [yA,zu,zC,hC1,zJ,emptyS]
  repeat' (first|refine zl 2 13 rfl rfl rfl ?_|refine zA ([]) zh rfl rfl rfl tH (yc (by first|rfl|assumption|simp [hC1]) 8) ?_|refine zx rfl (zk (ps:=(yR t0)) zf rfl rfl rfl rfl rfl) rfl rfl ?_|refine AD.step _ _ _ _ _ rfl (zk (ps:=(yR t0)) zf rfl rfl rfl rfl rfl) rfl rfl ?_|(refine shC ?_;first|refine qC cb ?_|refine qC cr ?_)|refine sK ?_|refine sC (fun _=>?_) (fun _=>?_)|fail)
  exact zB hw
 ·rw [hC1] at cb
  cases hS3:(YC) l with
  | error e =>
   have hw:(yA g m ⟨63,arg,t0⟩) l=.error e:=by simp [yA,zu,zC,hC1,zJ,emptyS,hS3]
   repeat' (first|refine zl 6 1 rfl rfl rfl ?_|refine zA ((yP u ⟨g,m,ar,⟨63,arg,t0⟩⟩ l)) zh rfl rfl rfl tH ((yh ⟨g,m,ar,⟨63,arg,t0⟩⟩ _ (by omega)).bad hS3 u) ?_|refine zx rfl (zk (ps:=(yR t0)) zf rfl rfl rfl rfl rfl) rfl rfl ?_|refine AD.step _ _ _ _ _ rfl (zk (ps:=(yR t0)) zf rfl rfl rfl rfl rfl) rfl rfl ?_|(refine shC ?_;first|refine qC cb ?_|refine zx rfl (zI rfl rfl (zF (by first|rfl|assumption|simp [hC1]) 8)) rfl rfl ?_|refine AD.step _ _ _ _ _ rfl (zI rfl rfl (zF (by first|rfl|assumption|simp [hC1]) 8)) rfl rfl ?_|refine qC cr ?_)|refine sK ?_|refine sC (fun _=>?_) (fun _=>?_)|fail)
   exact zB hw
  | ok p =>
   obtain ⟨t,l3⟩:=p
   have hl3:l3.length≤100:=by have:=QU hS3;omega
   have cx:=qN t
   cases hC5:(object t)
   ·rw [hC5] at cx
    have hw:(yA g m ⟨63,arg,t0⟩) l=.error 10:=by simp [yA,zu,zC,hC1,zJ,emptyS,hS3,hC5,zJ,emptyS]
    repeat' (first|refine zl 6 3 rfl rfl rfl ?_|refine zA ([]) zh rfl rfl rfl tH (yc (by first|rfl|assumption|simp [hC1,hC5]) 10) ?_|refine zx rfl (zk (ps:=(yR t0)) zf rfl rfl rfl rfl rfl) rfl rfl ?_|refine AD.step _ _ _ _ _ rfl (zk (ps:=(yR t0)) zf rfl rfl rfl rfl rfl) rfl rfl ?_|(refine shC ?_;first|refine qC cb ?_|refine zx rfl (zI rfl rfl (zF (by first|rfl|assumption|simp [hC1]) 8)) rfl rfl ?_|refine AD.step _ _ _ _ _ rfl (zI rfl rfl (zF (by first|rfl|assumption|simp [hC1]) 8)) rfl rfl ?_|refine qC cx ?_|refine qC cr ?_)|(refine zn ?_;first|(refine zo 0 zh rfl rfl ((yh ⟨g,m,ar,⟨63,arg,t0⟩⟩ _ (by omega)).ok hS3) rfl rfl rfl rfl rfl ?_))|refine sK ?_|refine sC (fun _=>?_) (fun _=>?_)|fail)
    exact zB hw
   ·rw [hC5] at cx
    cases hS7:(yV m.max [rfT t0]) l3 with
    | error e =>
     have hw:(yA g m ⟨63,arg,t0⟩) l=.error e:=by simp [yA,zu,zC,hC1,zJ,emptyS,hS3,hC5,zJ,emptyS,hS7]
     repeat' (first|refine zl 9 3 rfl rfl rfl ?_|refine zA ((yP u ⟨g,m,ar,⟨63,arg,t0⟩⟩ l3)) zh rfl rfl rfl tH ((zO ⟨g,m,ar,⟨63,arg,t0⟩⟩ [rfT t0] _ (by omega) (by simp)).bad hS7 u) ?_|refine zx rfl (zk (ps:=(yR t0)) zf rfl rfl rfl rfl rfl) rfl rfl ?_|refine AD.step _ _ _ _ _ rfl (zk (ps:=(yR t0)) zf rfl rfl rfl rfl rfl) rfl rfl ?_|(refine shC ?_;first|refine qC cb ?_|refine zx rfl (zI rfl rfl (zF (by first|rfl|assumption|simp [hC1]) 8)) rfl rfl ?_|refine AD.step _ _ _ _ _ rfl (zI rfl rfl (zF (by first|rfl|assumption|simp [hC1]) 8)) rfl rfl ?_|refine qC cx ?_|refine zx rfl (zI rfl rfl (zF (by first|rfl|assumption|simp [hC1,hC5]) 10)) rfl rfl ?_|refine AD.step _ _ _ _ _ rfl (zI rfl rfl (zF (by first|rfl|assumption|simp [hC1,hC5]) 10)) rfl rfl ?_|refine qC cr ?_)|(refine zn ?_;first|(refine zo 0 zh rfl rfl ((yh ⟨g,m,ar,⟨63,arg,t0⟩⟩ _ (by omega)).ok hS3) rfl rfl rfl rfl rfl ?_))|refine sK ?_|refine sC (fun _=>?_) (fun _=>?_)|fail)
     exact zB hw
    | ok p =>
     obtain ⟨⟨⟩,l7⟩:=p
     have hw:(yA g m ⟨63,arg,t0⟩) l=.ok ((),l7):=by simp [yA,zu,zC,hC1,zJ,emptyS,hS3,hC5,zJ,emptyS,hS7]
     repeat' (first|refine zx rfl (zk (ps:=(yR t0)) zf rfl rfl rfl rfl rfl) rfl rfl ?_|refine AD.step _ _ _ _ _ rfl (zk (ps:=(yR t0)) zf rfl rfl rfl rfl rfl) rfl rfl ?_|(refine shC ?_;first|refine qC cb ?_|refine zx rfl (zI rfl rfl (zF (by first|rfl|assumption|simp [hC1]) 8)) rfl rfl ?_|refine AD.step _ _ _ _ _ rfl (zI rfl rfl (zF (by first|rfl|assumption|simp [hC1]) 8)) rfl rfl ?_|refine qC cx ?_|refine zx rfl (zI rfl rfl (zF (by first|rfl|assumption|simp [hC1,hC5]) 10)) rfl rfl ?_|refine AD.step _ _ _ _ _ rfl (zI rfl rfl (zF (by first|rfl|assumption|simp [hC1,hC5]) 10)) rfl rfl ?_|refine qC cr ?_)|(refine zn ?_;first|(refine zo 0 zh rfl rfl ((yh ⟨g,m,ar,⟨63,arg,t0⟩⟩ _ (by omega)).ok hS3) rfl rfl rfl rfl rfl ?_)|(refine zo 0 zh rfl rfl ((zO ⟨g,m,ar,⟨63,arg,t0⟩⟩ [rfT t0] _ (by omega) (by simp)).ok hS7) rfl rfl rfl rfl rfl ?_))|refine sK ?_|refine sC (fun _=>?_) (fun _=>?_)|fail)
     exact zU hw (yw (.inl rfl) tH)
theorem zmP (g:Img) (hF:Fm g) (m:Me) (ar:List Ty) (arg:Int) (t0:Ty) (l:List Ty) (hl:l.length≤100):XC 159 [] (⟨g,m,ar,⟨64,arg,t0⟩⟩:RC) (yA g m ⟨64,arg,t0⟩) uV l:=by
 intro u;refine zH zf Tryz.func159 rfl (by kernel_rfl) Tryz.ntmps159 (by simp) _ rfl (fun gB hw1=>?_)
 have co:=qN t0
 have cb:=zbc t0
 have cr:=ZF t0
 cases hC1:(zef t0)
 ·rw [hC1] at cb
  have hw:(yA g m ⟨64,arg,t0⟩) l=.error 8:=by simp [yA,zu,zC,hC1,zJ,emptyS]
  repeat' (first|refine zl 2 13 rfl rfl rfl ?_|refine zA ([]) zh rfl rfl rfl tH (yc (by first|rfl|assumption|simp [hC1]) 8) ?_|refine zx rfl (zk (ps:=(yR t0)) zf rfl rfl rfl rfl rfl) rfl rfl ?_|refine AD.step _ _ _ _ _ rfl (zk (ps:=(yR t0)) zf rfl rfl rfl rfl rfl) rfl rfl ?_|(refine shC ?_;first|refine qC cb ?_)|refine sK ?_|refine sC (fun _=>?_) (fun _=>?_)|fail)
  exact zB hw
 ·rw [hC1] at cb
  cases hS3:(YC) l with
  | error e =>
   have hw:(yA g m ⟨64,arg,t0⟩) l=.error e:=by simp [yA,zu,zC,hC1,zJ,emptyS,hS3]
   repeat' (first|refine zl 6 1 rfl rfl rfl ?_|refine zA ((yP u ⟨g,m,ar,⟨64,arg,t0⟩⟩ l)) zh rfl rfl rfl tH ((yh ⟨g,m,ar,⟨64,arg,t0⟩⟩ _ (by omega)).bad hS3 u) ?_|refine zx rfl (zk (ps:=(yR t0)) zf rfl rfl rfl rfl rfl) rfl rfl ?_|refine AD.step _ _ _ _ _ rfl (zk (ps:=(yR t0)) zf rfl rfl rfl rfl rfl) rfl rfl ?_|(refine shC ?_;first|refine qC cb ?_|refine zx rfl (zI rfl rfl (zF (by first|rfl|assumption|simp [hC1]) 8)) rfl rfl ?_|refine AD.step _ _ _ _ _ rfl (zI rfl rfl (zF (by first|rfl|assumption|simp [hC1]) 8)) rfl rfl ?_)|refine sK ?_|refine sC (fun _=>?_) (fun _=>?_)|fail)
   exact zB hw
  | ok p =>
   obtain ⟨t,l3⟩:=p
   have hl3:l3.length≤100:=by have:=QU hS3;omega
   have cx:=qN t
   cases hC5:(object t)
   ·rw [hC5] at cx
    have hw:(yA g m ⟨64,arg,t0⟩) l=.error 10:=by simp [yA,zu,zC,hC1,zJ,emptyS,hS3,hC5,zJ,emptyS]
    repeat' (first|refine zl 6 3 rfl rfl rfl ?_|refine zA ([]) zh rfl rfl rfl tH (yc (by first|rfl|assumption|simp [hC1,hC5]) 10) ?_|refine zx rfl (zk (ps:=(yR t0)) zf rfl rfl rfl rfl rfl) rfl rfl ?_|refine AD.step _ _ _ _ _ rfl (zk (ps:=(yR t0)) zf rfl rfl rfl rfl rfl) rfl rfl ?_|(refine shC ?_;first|refine qC cb ?_|refine zx rfl (zI rfl rfl (zF (by first|rfl|assumption|simp [hC1]) 8)) rfl rfl ?_|refine AD.step _ _ _ _ _ rfl (zI rfl rfl (zF (by first|rfl|assumption|simp [hC1]) 8)) rfl rfl ?_|refine qC cx ?_)|(refine zn ?_;first|(refine zo 0 zh rfl rfl ((yh ⟨g,m,ar,⟨64,arg,t0⟩⟩ _ (by omega)).ok hS3) rfl rfl rfl rfl rfl ?_))|refine sK ?_|refine sC (fun _=>?_) (fun _=>?_)|fail)
    exact zB hw
   ·rw [hC5] at cx
    cases hS7:(yV m.max [t0]) l3 with
    | error e =>
     have hw:(yA g m ⟨64,arg,t0⟩) l=.error e:=by simp [yA,zu,zC,hC1,zJ,emptyS,hS3,hC5,zJ,emptyS,hS7]
     repeat' (first|refine zl 9 3 rfl rfl rfl ?_|refine zA ((yP u ⟨g,m,ar,⟨64,arg,t0⟩⟩ l3)) zh rfl rfl rfl tH ((zO ⟨g,m,ar,⟨64,arg,t0⟩⟩ [t0] _ (by omega) (by simp)).bad hS7 u) ?_|refine zx rfl (zk (ps:=(yR t0)) zf rfl rfl rfl rfl rfl) rfl rfl ?_|refine AD.step _ _ _ _ _ rfl (zk (ps:=(yR t0)) zf rfl rfl rfl rfl rfl) rfl rfl ?_|(refine shC ?_;first|refine qC cb ?_|refine zx rfl (zI rfl rfl (zF (by first|rfl|assumption|simp [hC1]) 8)) rfl rfl ?_|refine AD.step _ _ _ _ _ rfl (zI rfl rfl (zF (by first|rfl|assumption|simp [hC1]) 8)) rfl rfl ?_|refine qC cx ?_|refine zx rfl (zI rfl rfl (zF (by first|rfl|assumption|simp [hC1,hC5]) 10)) rfl rfl ?_|refine AD.step _ _ _ _ _ rfl (zI rfl rfl (zF (by first|rfl|assumption|simp [hC1,hC5]) 10)) rfl rfl ?_)|(refine zn ?_;first|(refine zo 0 zh rfl rfl ((yh ⟨g,m,ar,⟨64,arg,t0⟩⟩ _ (by omega)).ok hS3) rfl rfl rfl rfl rfl ?_))|refine sK ?_|refine sC (fun _=>?_) (fun _=>?_)|fail)
     exact zB hw
    | ok p =>
     obtain ⟨⟨⟩,l7⟩:=p
     have hw:(yA g m ⟨64,arg,t0⟩) l=.ok ((),l7):=by simp [yA,zu,zC,hC1,zJ,emptyS,hS3,hC5,zJ,emptyS,hS7]
     repeat' (first|refine zx rfl (zk (ps:=(yR t0)) zf rfl rfl rfl rfl rfl) rfl rfl ?_|refine AD.step _ _ _ _ _ rfl (zk (ps:=(yR t0)) zf rfl rfl rfl rfl rfl) rfl rfl ?_|(refine shC ?_;first|refine qC cb ?_|refine zx rfl (zI rfl rfl (zF (by first|rfl|assumption|simp [hC1]) 8)) rfl rfl ?_|refine AD.step _ _ _ _ _ rfl (zI rfl rfl (zF (by first|rfl|assumption|simp [hC1]) 8)) rfl rfl ?_|refine qC cx ?_|refine zx rfl (zI rfl rfl (zF (by first|rfl|assumption|simp [hC1,hC5]) 10)) rfl rfl ?_|refine AD.step _ _ _ _ _ rfl (zI rfl rfl (zF (by first|rfl|assumption|simp [hC1,hC5]) 10)) rfl rfl ?_)|(refine zn ?_;first|(refine zo 0 zh rfl rfl ((yh ⟨g,m,ar,⟨64,arg,t0⟩⟩ _ (by omega)).ok hS3) rfl rfl rfl rfl rfl ?_)|(refine zo 0 zh rfl rfl ((zO ⟨g,m,ar,⟨64,arg,t0⟩⟩ [t0] _ (by omega) (by simp)).ok hS7) rfl rfl rfl rfl rfl ?_))|refine sK ?_|refine sC (fun _=>?_) (fun _=>?_)|fail)
     exact zU hw (yw (.inl rfl) tH)
theorem zmD (g:Img) (hF:Fm g) (m:Me) (ar:List Ty) (arg:Int) (t0:Ty) (l:List Ty) (hl:l.length≤100) (op:Int) (ho:op=65∨op=66):XC 159 [] (⟨g,m,ar,⟨op,arg,t0⟩⟩:RC) (yA g m ⟨op,arg,t0⟩) uV l:=by
 let c:RC:=⟨g,m,ar,⟨op,arg,t0⟩⟩
 rcases ho with rfl|rfl
 all_goals
  intro u;refine zH zf Tryz.func159 rfl (by kernel_rfl) Tryz.ntmps159 (by simp) _ rfl (fun gB hw1=>?_)
  have co:=qN t0
  have cb:=zbc t0
  have cr:=ZF t0
  cases hC1:(object t0)
  ·rw [hC1] at co
   have hw:(yA g m ⟨c.x.op,arg,t0⟩) l=.error 8:=by simp [yA,c,zu,zC,hC1,zJ,emptyS]
   repeat' (first|refine zl 2 13 rfl rfl rfl ?_|refine zA ([]) zh rfl rfl rfl tH (yc (by first|rfl|assumption|simp [hC1]) 8) ?_|refine zx rfl (zk (ps:=(yR t0)) zf rfl rfl rfl rfl rfl) rfl rfl ?_|refine AD.step _ _ _ _ _ rfl (zk (ps:=(yR t0)) zf rfl rfl rfl rfl rfl) rfl rfl ?_|(refine shC ?_;first|refine qC co ?_)|refine sK ?_|refine sC (fun _=>?_) (fun _=>?_)|fail)
   exact zB hw
  ·rw [hC1] at co
   cases hS3:(YC) l with
   | error e =>
    have hw:(yA g m ⟨c.x.op,arg,t0⟩) l=.error e:=by simp [yA,c,zu,zC,hC1,zJ,emptyS,hS3]
    repeat' (first|refine zl 6 1 rfl rfl rfl ?_|refine zA ((yP u c l)) zh rfl rfl rfl tH ((yh c _ (by omega)).bad hS3 u) ?_|refine zx rfl (zk (ps:=(yR t0)) zf rfl rfl rfl rfl rfl) rfl rfl ?_|refine AD.step _ _ _ _ _ rfl (zk (ps:=(yR t0)) zf rfl rfl rfl rfl rfl) rfl rfl ?_|(refine shC ?_;first|refine qC co ?_|refine zx rfl (zI rfl rfl (zF (by first|rfl|assumption|simp [hC1]) 8)) rfl rfl ?_|refine AD.step _ _ _ _ _ rfl (zI rfl rfl (zF (by first|rfl|assumption|simp [hC1]) 8)) rfl rfl ?_)|refine sK ?_|refine sC (fun _=>?_) (fun _=>?_)|fail)
    exact zB hw
   | ok p =>
    obtain ⟨t,l3⟩:=p
    have hl3:l3.length≤100:=by have:=QU hS3;omega
    have cx:=qN t
    cases hC5:(object t)
    ·rw [hC5] at cx
     have hw:(yA g m ⟨c.x.op,arg,t0⟩) l=.error 10:=by simp [yA,c,zu,zC,hC1,zJ,emptyS,hS3,hC5,zJ,emptyS]
     repeat' (first|refine zl 6 3 rfl rfl rfl ?_|refine zA ([]) zh rfl rfl rfl tH (yc (by first|rfl|assumption|simp [hC1,hC5]) 10) ?_|refine zx rfl (zk (ps:=(yR t0)) zf rfl rfl rfl rfl rfl) rfl rfl ?_|refine AD.step _ _ _ _ _ rfl (zk (ps:=(yR t0)) zf rfl rfl rfl rfl rfl) rfl rfl ?_|(refine shC ?_;first|refine qC co ?_|refine zx rfl (zI rfl rfl (zF (by first|rfl|assumption|simp [hC1]) 8)) rfl rfl ?_|refine AD.step _ _ _ _ _ rfl (zI rfl rfl (zF (by first|rfl|assumption|simp [hC1]) 8)) rfl rfl ?_|refine qC cx ?_)|(refine zn ?_;first|(refine zo 0 zh rfl rfl ((yh c _ (by omega)).ok hS3) rfl rfl rfl rfl rfl ?_))|refine sK ?_|refine sC (fun _=>?_) (fun _=>?_)|fail)
     exact zB hw
    ·rw [hC5] at cx
     cases hS7:(yV m.max [t0]) l3 with
     | error e =>
      have hw:(yA g m ⟨c.x.op,arg,t0⟩) l=.error e:=by simp [yA,c,zu,zC,hC1,zJ,emptyS,hS3,hC5,zJ,emptyS,hS7]
      repeat' (first|refine zl 9 3 rfl rfl rfl ?_|refine zA ((yP u c l3)) zh rfl rfl rfl tH ((zO c [t0] _ (by omega) (by simp)).bad hS7 u) ?_|refine zx rfl (zk (ps:=(yR t0)) zf rfl rfl rfl rfl rfl) rfl rfl ?_|refine AD.step _ _ _ _ _ rfl (zk (ps:=(yR t0)) zf rfl rfl rfl rfl rfl) rfl rfl ?_|(refine shC ?_;first|refine qC co ?_|refine zx rfl (zI rfl rfl (zF (by first|rfl|assumption|simp [hC1]) 8)) rfl rfl ?_|refine AD.step _ _ _ _ _ rfl (zI rfl rfl (zF (by first|rfl|assumption|simp [hC1]) 8)) rfl rfl ?_|refine qC cx ?_|refine zx rfl (zI rfl rfl (zF (by first|rfl|assumption|simp [hC1,hC5]) 10)) rfl rfl ?_|refine AD.step _ _ _ _ _ rfl (zI rfl rfl (zF (by first|rfl|assumption|simp [hC1,hC5]) 10)) rfl rfl ?_)|(refine zn ?_;first|(refine zo 0 zh rfl rfl ((yh c _ (by omega)).ok hS3) rfl rfl rfl rfl rfl ?_))|refine sK ?_|refine sC (fun _=>?_) (fun _=>?_)|fail)
      exact zB hw
     | ok p =>
      obtain ⟨⟨⟩,l7⟩:=p
      have hw:(yA g m ⟨c.x.op,arg,t0⟩) l=.ok ((),l7):=by simp [yA,c,zu,zC,hC1,zJ,emptyS,hS3,hC5,zJ,emptyS,hS7]
      repeat' (first|refine zx rfl (zk (ps:=(yR t0)) zf rfl rfl rfl rfl rfl) rfl rfl ?_|refine AD.step _ _ _ _ _ rfl (zk (ps:=(yR t0)) zf rfl rfl rfl rfl rfl) rfl rfl ?_|(refine shC ?_;first|refine qC co ?_|refine zx rfl (zI rfl rfl (zF (by first|rfl|assumption|simp [hC1]) 8)) rfl rfl ?_|refine AD.step _ _ _ _ _ rfl (zI rfl rfl (zF (by first|rfl|assumption|simp [hC1]) 8)) rfl rfl ?_|refine qC cx ?_|refine zx rfl (zI rfl rfl (zF (by first|rfl|assumption|simp [hC1,hC5]) 10)) rfl rfl ?_|refine AD.step _ _ _ _ _ rfl (zI rfl rfl (zF (by first|rfl|assumption|simp [hC1,hC5]) 10)) rfl rfl ?_)|(refine zn ?_;first|(refine zo 0 zh rfl rfl ((yh c _ (by omega)).ok hS3) rfl rfl rfl rfl rfl ?_)|(refine zo 0 zh rfl rfl ((zO c [t0] _ (by omega) (by simp)).ok hS7) rfl rfl rfl rfl rfl ?_))|refine sK ?_|refine sC (fun _=>?_) (fun _=>?_)|fail)
      exact zU hw (yw (.inl rfl) tH)
set_option maxHeartbeats 20000000
theorem VG {P:Program} {t xt:TypeId} {k0:IntKind} {v:Value} {w:World} (hu:P.underlying t=some (.int k0)):(Instr.typeAssert (.iface t v) xt t true).run P w=.ok (.tuple #[v,.bool true]) w:=by
 simp [Instr.typeAssert,run_underlying hu]
theorem WG {P:Program} {t xt:TypeId} {k0:IntKind} {z:Value} {w:World} (hu:P.underlying t=some (.int k0)) (hz:(zeroValue t).run P w=.ok z w):(Instr.typeAssert .nilIface xt t true).run P w=.ok (.tuple #[z,.bool false]) w:=by
 simp [Instr.typeAssert,run_underlying hu,hz]
abbrev rbH (o e:PV) (p1 p2:Value):HEnv:=[(1,.cell (.pv o)),(2,.cell (.pv e)),(2001,.pin (.box 1 0) p1),(2002,.pin (.box 2 0) p2)]
theorem ZR {K:KK} {w:World} {ρ:Nat→Value} {H:HEnv} {env:Env} {tmps:Array Value} {t:Nat} {av:AV} {v:Value} (h1:tmps[t]?=some v) (h2:ARel K w ρ H av v) (h:EnvR K w ρ H env tmps):EnvR K w ρ H ((t,av)::env) tmps:=fun t' av' hg=>by
 rw [Env.get_cons] at hg
 split at hg
 ·rename_i e;subst e;simp only [Option.some.injEq] at hg;subst hg;exact ⟨v,h1,h2⟩
 ·exact h t' av' hg
theorem zaP {K:KK} {w:World} {ρ:Nat→Value} {H:HEnv} {tmps:Array Value}:EnvR K w ρ H [] tmps:=fun t av h=>by simp [Env.get_nil] at h
def zpi (H2:HEnv):QC:=fun ex _ H=>(ex=.normal∨ex=.ret)∧Qo H H2 []
theorem zen {n:Nat} {g:Base} {env:Env} {H H2:HEnv} {a:Act} {w:World} (hi:Inv n g env H a w) (hf:Qo H H2 []):∃ K ρ,FS g K ρ H2 w:=by
 obtain ⟨_,_,K,ρ,h,_⟩:=hi
 exact ⟨K,ρ,h.narrow hf⟩
theorem zki {α:Type} {l:List α} (h:l.length=2):∃ a b,l=[a,b]:=by
 match l,h with
 | [a,b],_=>exact ⟨a,b,rfl⟩
theorem zod (p1 p2:Value) (e:Int):DCall Tryz.prog 115 (rbH (.base (.slice none 0 0)) (pi 0) p1 p2) [.box 1 0,.box 2 0] (.panicking [{ v:=flt e,recovered:=false }]) (.panicking [{ v:=flt e,recovered:=true }]) (rbH (.base (.slice none 0 0)) (pi e) p1 p2):=by
 refine Xd Tryz.func115 rfl (by kernel_rfl) rfl (fun g K ρ w vs hds hf hv c₀ cs hu=>?_)
 obtain ⟨v1,v2,rfl⟩:=zki hv.1
 have r1:=hv.2 0 _ v1 rfl rfl
 have r2:=hv.2 1 _ v2 rfl rfl
 refine wpS_seq ?_
 refine wpS_region ?_
 have h1:=VG (P:=Tryz.prog) (xt:=20) (v:=.int .i64 e) (w:=w) Tryz.underlying147
 simp [wpOpsS,go_sem,recoverD,hu,Tryz.ntmps115,Exit.thenS,flt,h1]
 refine zeu (n:=11) (g:=g) (env:=[(0,.box 1 0),(1,.box 2 0),(2,.pv (pi e)),(3,.pv (pb true))]) (H:=rbH (.base (.slice none 0 0)) (pi 0) p1 p2) (QQ:=zpi (rbH (.base (.slice none 0 0)) (pi e) p1 p2)) ?_
  ⟨by simp,by rw [hds],K,ρ,hf,ZR (v:=v1) (by simp) r1 (ZR (v:=v2) (by simp) r2 (ZR (v:=.int .i64 e) (by simp) (.pv _ _ (.base _ rfl)) (ZR (v:=.bool true) (by simp) (.pv _ _ (.base _ rfl)) zaP)))⟩
  (fun ex a' w' env' H' hi hq=>⟨hq.1,hi.defers.trans hds,rfl,zen hi hq.2⟩)
 repeat' (first|refine sK ?_|refine sC (fun _=>?_) (fun _=>?_)|fail)
 exact ⟨.inl rfl,tH⟩
theorem zmY (o e:PV) (p1 p2:Value):DCall Tryz.prog 115 (rbH o e p1 p2) [.box 1 0,.box 2 0] .returning .returning (rbH o e p1 p2):=by
 refine Xd Tryz.func115 rfl (by kernel_rfl) rfl (fun g K ρ w vs hds hf hv c₀ cs hu=>?_)
 obtain ⟨v1,v2,rfl⟩:=zki hv.1
 refine wpS_seq ?_
 refine wpS_region ?_
 have hz:=zg8 (P:=Tryz.prog) (w:=w) (z:=.int .i64 0) zf (ty:=147) rfl
 have h1:=WG (P:=Tryz.prog) (xt:=20) (w:=w) Tryz.underlying147 hz
 simp [wpOpsS,go_sem,recoverD,hu,Tryz.ntmps115,Exit.thenS,h1]
 refine zeu (n:=11) (g:=g) (env:=[(3,.pv (pb false))]) (H:=rbH o e p1 p2) (QQ:=zpi (rbH o e p1 p2)) ?_
  ⟨by simp,by rw [hds],K,ρ,hf,ZR (v:=.bool false) (by simp) (.pv _ _ (.base _ rfl)) zaP⟩
  (fun ex a' w' env' H' hi hq=>⟨hq.1,hi.defers.trans hds,by cases c₀;simp_all,zen hi hq.2⟩)
 repeat' (first|refine sK ?_|refine sC (fun _=>?_) (fun _=>?_)|fail)
 exact ⟨.inl rfl,tH⟩
set_option maxHeartbeats 20000000
theorem zdK {tb:Tab} {rs:List ResultVar} {i t:Nat} {H' H:HEnv} {env:Env} (hr:rs=[.tmp t]) (hg:env.get t=some (.own i)) (hf:Qo H H' [(t,.own i)]):zgD tb rs (.own i) H' .ret env H:=⟨.inr rfl,.inr ⟨t,hr,hg,hf⟩⟩
theorem zjo (l:List TD) (hl:l.length≤1000):ACallM Tryz.prog 69 [.pv (.slc 4 (l.map Zl) false)] [] (.own 10) [(10,.mrow 69 4 (l.map Zl))]:=by
 refine qZ zf Tryz.func69 rfl (by kernel_rfl) Tryz.ntmps69 (by simp) _ rfl (fun gB hw1=>?_)
 repeat' (first|refine zfx (t:=2) 10 69 4 (by decide) rfl rfl ?_|refine Xo zf rfl rfl rfl rfl rfl rfl rfl (fun bb hbb=>?_)|refine zif zf 10 rfl rfl rfl rfl rfl rfl rfl rfl rfl ?_|refine zlj 10 rfl ?_|(refine yK ?_;first|refine VT zf rfl rfl rfl rfl rfl rfl rfl (by show _ * 56≤_;simp;omega) (by simp;omega) rfl rfl ?_)|refine sA ?_|refine sC (fun _=>?_) (fun _=>?_)|fail)
 ·rename_i h
  rw [hbb h]
  exact zdK rfl rfl tH
 ·exact zdK rfl rfl tH
theorem zja (l:List Me) (hl:l.length≤1000):ACallM Tryz.prog 71 [.pv (.slc 12 (l.map yB) false)] [] (.own 12) [(12,.mrow 46 12 (l.map yB))]:=by
 refine qZ zf Tryz.func71 rfl (by kernel_rfl) Tryz.ntmps71 (by simp) _ rfl (fun gB hw1=>?_)
 repeat' (first|refine zfx (t:=2) 12 46 12 (by decide) rfl rfl ?_|refine Xo zf rfl rfl rfl rfl rfl rfl rfl (fun bb hbb=>?_)|refine zif zf 12 rfl rfl rfl rfl rfl rfl rfl rfl rfl ?_|refine zlj 12 rfl ?_|(refine yK ?_;first|refine VT zf rfl rfl rfl rfl rfl rfl rfl (by show _ * 168≤_;simp;omega) (by simp;omega) rfl rfl ?_)|refine sA ?_|refine sC (fun _=>?_) (fun _=>?_)|fail)
 ·rename_i h
  rw [hbb h]
  exact zdK rfl rfl tH
 ·exact zdK rfl rfl tH
theorem ziQ (l:List Fd) (hl:l.length≤1000):ACall Tryz.prog 70 [.slc 7 (l.map Yb) false] (.slc 7 (l.map Yb) false):=by
 refine zi zf Tryz.func70 rfl (by kernel_rfl) Tryz.ntmps70 (by simp) _ rfl (fun hw gB hgB=>?_)
 repeat' (first|refine Xo zf rfl rfl rfl rfl rfl rfl rfl (fun bb hbb=>?_)|refine zx rfl (XA zf rfl rfl rfl rfl rfl) rfl rfl ?_|(refine yK ?_;first|refine zx rfl (Xu zf rfl rfl (.inl rfl) rfl rfl (by show _ * 64≤_;simp;omega) (by simp;omega)) rfl rfl ?_)|refine sA ?_|refine sC (fun _=>?_) (fun _=>?_)|fail)
 ·rename_i h
  have:l=[]:=by have:=hbb h;simpa using this
  subst this
  exact zaz (t:=2) (ps:=[.slc 7 [] false]) rfl (Qb 7 false) rfl rfl
 ·exact retq rfl rfl
theorem ziR (l:List Int) (hl:l.length≤1000):ACall Tryz.prog 72 [.slc 1 (l.map pi) false] (.slc 1 (l.map pi) false):=by
 refine zi zf Tryz.func72 rfl (by kernel_rfl) Tryz.ntmps72 (by simp) _ rfl (fun hw gB hgB=>?_)
 repeat' (first|refine Xo zf rfl rfl rfl rfl rfl rfl rfl (fun bb hbb=>?_)|refine zx rfl (XA zf rfl rfl rfl rfl rfl) rfl rfl ?_|(refine yK ?_;first|refine zx rfl (Xu zf rfl rfl (.inl rfl) rfl rfl (by show _ * 8≤_;simp;omega) (by simp;omega)) rfl rfl ?_)|refine sA ?_|refine sC (fun _=>?_) (fun _=>?_)|fail)
 ·rename_i h
  have:l=[]:=by have:=hbb h;simpa using this
  subst this
  exact zaz (t:=2) (ps:=[.slc 1 [] false]) rfl (Qb 1 false) rfl rfl
 ·exact retq rfl rfl
theorem zhP (l:List Ins) (hl:l.length≤1000):ACall Tryz.prog 74 [.slc 6 (l.map qj) false] (.slc 6 (l.map qj) false):=by
 refine zi zf Tryz.func74 rfl (by kernel_rfl) Tryz.ntmps74 (by simp) _ rfl (fun hw gB hgB=>?_)
 repeat' (first|refine Xo zf rfl rfl rfl rfl rfl rfl rfl (fun bb hbb=>?_)|refine zx rfl (XA zf rfl rfl rfl rfl rfl) rfl rfl ?_|(refine yK ?_;first|refine zx rfl (Xu zf rfl rfl (.inl rfl) rfl rfl (by show _ * 48≤_;simp;omega) (by simp;omega)) rfl rfl ?_)|refine sA ?_|refine sC (fun _=>?_) (fun _=>?_)|fail)
 ·rename_i h
  have:l=[]:=by have:=hbb h;simpa using this
  subst this
  exact zaz (t:=2) (ps:=[.slc 6 [] false]) rfl (Qb 6 false) rfl rfl
 ·exact retq rfl rfl
theorem zjH (l:List Cl) (hl:l.length≤1000):ACall Tryz.prog 75 [.slc 10 (l.map ZX) false] (.slc 10 (l.map ZX) false):=by
 refine zi zf Tryz.func75 rfl (by kernel_rfl) Tryz.ntmps75 (by simp) _ rfl (fun hw gB hgB=>?_)
 repeat' (first|refine Xo zf rfl rfl rfl rfl rfl rfl rfl (fun bb hbb=>?_)|refine zx rfl (XA zf rfl rfl rfl rfl rfl) rfl rfl ?_|(refine yK ?_;first|refine zx rfl (Xu zf rfl rfl (.inl rfl) rfl rfl (by show _ * 80≤_;simp;omega) (by simp;omega)) rfl rfl ?_)|refine sA ?_|refine sC (fun _=>?_) (fun _=>?_)|fail)
 ·rename_i h
  have:l=[]:=by have:=hbb h;simpa using this
  subst this
  exact zaz (t:=2) (ps:=[.slc 10 [] false]) rfl (Qb 10 false) rfl rfl
 ·exact retq rfl rfl
set_option maxHeartbeats 20000000
theorem zj5 (g:Img) (t:Int) (hF:Fm g):ACall Tryz.prog 242 [pi t,.ptr (zT g) 0] (ints (yT g t)):=by
 refine zi zf Tryz.func242 rfl (by kernel_rfl) Tryz.ntmps242 (by simp) _ rfl (fun hw gB hgB=>?_)
 repeat' (first|(refine shC ?_;first|refine zx rfl (zI rfl rfl (WA g t (by have:=(hF.at t).1;omega) (fun f hf=>Wh ((hF.at t).2 f hf)))) rfl rfl ?_|refine AD.step _ _ _ _ _ rfl (zI rfl rfl (WA g t (by have:=(hF.at t).1;omega) (fun f hf=>Wh ((hF.at t).2 f hf)))) rfl rfl ?_)|refine sA ?_|refine sC (fun _=>?_) (fun _=>?_)|fail)
 exact retq rfl rfl
theorem zkn (g:Img) (t:Int) (hf:yJ g=true):ACall Tryz.prog 247 [pi t,.ptr (zT g) 0] (ints (partsOf g t)):=by
 refine zi zf Tryz.func247 rfl (by kernel_rfl) Tryz.ntmps247 (by simp) _ rfl (fun hw gB hgB=>?_)
 repeat' (first|(refine shC ?_;first|refine qC (zfj g t hf) ?_)|refine sA ?_|refine sC (fun _=>?_) (fun _=>?_)|fail)
 exact retq rfl rfl
theorem zg6 (g:Img) (hf:yJ g=true) (t:Int) (td:TD) (htd:typeAt g t=some td):ACall Tryz.prog 89 [Zl td] (pi (yt g t)):=by
 have:=zeK td
 obtain ⟨h0,h1,_⟩:=Vw hf htd
 rw [zhe h0 h1] at this
 rw [yt,htd];exact this
theorem zj2 (g:Img) (t:Int) (td:TD) (htd:typeAt g t=some td) (hf:yJ g=true):ACall Tryz.prog 219 [zT g,pi t] (pb (zem g t td)):=by
 refine zi zf Tryz.func219 rfl (by kernel_rfl) Tryz.ntmps219 (by simp) _ rfl (fun hw gB hgB=>?_)
 obtain ⟨h0,he⟩:=YT htd
 have hF:=zbO hf
 have hn:=hF.n
 obtain ⟨hf1,hf2⟩:=hF.faces td (VU htd)
 have c0:=zg6 g hf t td htd
 have c1:=zdc g.types.length (by omega) td.faces (yT g) 242 [] [.ptr (zT g) 0] hf2 (by omega)
  (fun x h0 h1=>zj5 g x hF) (fun x h0 h1=>⟨by have:=(hF.at x).1;omega,(hF.at x).2⟩)
 repeat' (first|(refine shX ?_;first|refine zx rfl (zq zf rfl rfl rfl rfl rfl rfl h0 he) rfl rfl ?_|refine AD.step _ _ _ _ _ rfl (zq zf rfl rfl rfl rfl rfl rfl h0 he) rfl rfl ?_)|refine sA ?_|refine sC (fun _=>?_) (fun _=>?_)|fail)
 refine zW (fun k:Nat=>[(1,.pv (pi t)),(2,.pv (.ptr (zT g) 0)),(5,.pv (ints td.faces)),(15,.pv (ints td.faces)),(16,.pv (pi td.faces.length)),(17,.pv (pi k))]) (fun _=>[]) (fun k=>k≤td.faces.length∧zem g t td=(((List.range td.faces.length).drop k).all (zd1 g td.faces)&&(yt g t != 2||!decide (t∈sortL (QZ g.types.length (yT g) td.faces))))) (fun k=>td.faces.length - k) 0 ⟨by simp,rfl⟩ (tS) tH ?_
 rintro k ⟨hk,hr⟩
 by_cases hlt:k < td.faces.length
 ·have hef:=YD hlt
  rw [Qm hlt,zd1,zQ hlt] at hr
  repeat' (first|refine zx rfl (Zu (xs:=td.faces) (f:=pi) 0 k zf rfl rfl rfl rfl rfl rfl rfl (by omega) (by omega)) rfl rfl ?_|(refine shC ?_;first|refine qC (Zx g hf _) ?_|refine qC (Yw (td.faces.take k) _) ?_)|(refine shX ?_;first|refine qX hef ?_)|refine sK ?_|refine sC (fun _=>?_) (fun _=>?_)|fail)
  all_goals first|(refine retq rfl ?_;first|(simp only [zy,BL,List.length_map] at *;simp only [*,BL,List.length_map];done)|(simp_all [zy];done)|(simp_all [zy];omega)|(simp_all [zy];intros;omega))|(refine ⟨k + 1,⟨by omega,?_⟩,tD,tS,tH⟩;first|(simp only [BL,List.length_map] at *;simp only [*,BL,List.length_map];done)|(simp_all [];done)|(simp_all [];omega)|(simp_all [];intros;omega))|(trace "LEND";trace_state)
 ·rw [drop_end (by simp;omega)] at hr
  repeat' (first|(refine shC ?_;first|refine qC c0 ?_|refine qC c1 ?_|refine qC (Yw _ _) ?_)|(refine shX ?_;first|refine zx rfl (zq zf rfl rfl rfl rfl rfl rfl h0 he) rfl rfl ?_|refine AD.step _ _ _ _ _ rfl (zq zf rfl rfl rfl rfl rfl rfl h0 he) rfl rfl ?_)|refine sK ?_|refine sC (fun _=>?_) (fun _=>?_)|fail)
  all_goals first|(refine retq rfl ?_;first|(simp only [zy,BL,List.length_map] at *;simp only [*,BL,List.length_map];done)|(simp_all [zy];done)|(simp_all [zy];omega)|(simp_all [zy];intros;omega))|(refine VX rfl ?_;first|(simp only [zy,BL,List.length_map] at *;simp only [*,BL,List.length_map];done)|(simp_all [zy];done)|(simp_all [zy];omega)|(simp_all [zy];intros;omega))|skip
theorem zkj (g:Img) (t:Int) (td:TD) (htd:typeAt g t=some td) (hf:yJ g=true):ACall Tryz.prog 221 [zT g,pi t] (pb (zeB g t)):=by
 refine zi zf Tryz.func221 rfl (by kernel_rfl) Tryz.ntmps221 (by simp) _ rfl (fun hw gB hgB=>?_)
 obtain ⟨h0,heT⟩:=YT htd
 have hF:=zbO hf
 have hn:=hF.n
 have hg:g.fields.length≤64:=by have:=(yH hf).2.1;omega
 have c0:=zg6 g hf t td htd
 have hpl:=zfl g
 have c1:=zdc g.types.length (by omega) (partsOf g t) (partsOf g) 247 [] [.ptr (zT g) 0] (fun x hx=>QA hx) (by have:=hpl t;omega)
  (fun x h0 h1=>zkn g x hf) (fun x h0 h1=>⟨by have:=hpl x;omega,fun y hy=>QA hy⟩)
 repeat' (first|(refine shC ?_;first|refine qC c0 ?_|refine zx rfl (zI rfl rfl (Xw g t (by omega))) rfl rfl ?_|refine AD.step _ _ _ _ _ rfl (zI rfl rfl (Xw g t (by omega))) rfl rfl ?_)|(refine shX ?_;first|refine zx rfl (zq zf rfl rfl rfl rfl rfl rfl h0 heT) rfl rfl ?_|refine AD.step _ _ _ _ _ rfl (zq zf rfl rfl rfl rfl rfl rfl h0 heT) rfl rfl ?_)|refine sA ?_|refine sC (fun _=>?_) (fun _=>?_)|fail)
 refine zW (fun k:Nat=>[(1,.pv (pi t)),(2,.pv (.ptr (zT g) 0)),(5,.pv (pi (yt g t))),(16,.pv (ints (fieldsOf g t))),(17,.pv (pi (fieldsOf g t).length)),(18,.pv (pi k))]) (fun _=>[]) (fun k=>k≤(fieldsOf g t).length∧zeB g t=(((fieldsOf g t).drop k).all (zjB g (yt g t))&&(yt g t != 1||!decide (t∈sortL (QZ g.types.length (partsOf g) (partsOf g t)))))) (fun k=>(fieldsOf g t).length - k) 0 ⟨by simp,rfl⟩ (tS) tH ?_
 have hfl:=WY g t
 rintro k ⟨hk,hr⟩
 by_cases hlt:k < (fieldsOf g t).length
 ·have he:=YD hlt
  obtain ⟨hi0,hi⟩:=YN (List.getElem_mem hlt)
  have hef:=YE (f:=Yb) hi
  rw [zhK hlt,zjB,zQ hi] at hr
  repeat' (first|(refine shX ?_;first|refine qX he ?_|refine zx rfl (zq zf rfl rfl rfl rfl rfl rfl hi0 hef) rfl rfl ?_|refine AD.step _ _ _ _ _ rfl (zq zf rfl rfl rfl rfl rfl rfl hi0 hef) rfl rfl ?_)|refine sK ?_|refine sC (fun _=>?_) (fun _=>?_)|fail)
  all_goals first|(refine retq rfl ?_;first|(simp only [zy,BL,List.length_map] at *;simp only [*,BL,List.length_map];done)|(simp_all [zy];done)|(simp_all [zy];omega)|(simp_all [zy];intros;omega))|(refine ⟨k + 1,⟨by omega,?_⟩,tD,tS,tH⟩;first|(simp only [BL,List.length_map] at *;simp only [*,BL,List.length_map];done)|(simp_all [];done)|(simp_all [];omega)|(simp_all [];intros;omega))|(trace "LEND";trace_state)
 ·rw [drop_end (by omega)] at hr
  repeat' (first|(refine shC ?_;first|refine qC (zfj g t hf) ?_|refine qC c1 ?_|refine qC (Yw _ _) ?_)|refine sK ?_|refine sC (fun _=>?_) (fun _=>?_)|fail)
  all_goals first|(refine retq rfl ?_;first|(simp only [zy,BL,List.length_map] at *;simp only [*,BL,List.length_map];done)|(simp_all [zy];done)|(simp_all [zy];omega)|(simp_all [zy];intros;omega))|(refine VX rfl ?_;first|(simp only [zy,BL,List.length_map] at *;simp only [*,BL,List.length_map];done)|(simp_all [zy];done)|(simp_all [zy];omega)|(simp_all [zy];intros;omega))|skip
set_option maxHeartbeats 1000000 in
theorem zj8 (g:Img) (hx:∀ m∈g.methods,∀ x∈m.code,zdX x):ACall Tryz.prog 169 [zT g] (.tup [pi (WH g).1,pi (WH g).2]):=by
 refine zi zf Tryz.func169 rfl (by kernel_rfl) Tryz.ntmps169 (by simp) _ rfl (fun hw gB hgB=>?_)
 have c0:=ziY g hx
 cases hf:yJ g
 ·rw [hf] at c0
  repeat' (first|(refine shC ?_;first|refine qC c0 ?_)|refine sK ?_|refine sC (fun _=>?_) (fun _=>?_)|fail)
  exact retq rfl (by simp [zy,WH,hf])
 ·rw [hf] at c0
  obtain ⟨b1,b2,b3,b4⟩:=yH hf
  have hg:g.types.length≤1000:=by omega
  have hgf:g.fields.length≤1000:=by omega
  have hgm:g.methods.length≤1000:=by omega
  repeat' (first|(refine shC ?_;first|refine qC c0 ?_)|refine sK ?_|refine sC (fun _=>?_) (fun _=>?_)|fail)
  refine zW (fun k:Nat=>[(1,.pv (.ptr (zT g) 0)),(10,.pv (pi g.types.length)),(11,.pv (pi k))]) (fun _=>[]) (fun k=>k≤g.types.length∧∀ j,j < k→Zr g j=0) (fun k=>g.types.length - k) 0 ⟨by omega,fun j h=>by omega⟩ (tS) tH ?_
  rintro k ⟨hk,hno⟩
  by_cases hlt:k < g.types.length
  ·have he:=yj (f:=Zl) hlt
   have htd:=zde hlt
   have hat:=zh7 hf hlt
   have hfin:=fun h=>zlz hf hlt hno h
   have hnx:Zr g k=0→∀ j,j < k + 1→Zr g j=0:=fun h j hj=>by
    by_cases e:j=k
    ·subst e;exact h
    ·exact hno j (by omega)
   clear hno
   have d1:=zh2 g.types[k]
   have d2:=zhW g k _ htd hg
   have d3:=zj2 g k _ htd hf
   have d4:=zkp g k _ htd hg hgf hgm
   have d5:=zkj g k _ htd hf
   generalize Yi g.types[k]=e1 at d1 hat
   generalize zhO g k g.types[k]=e2 at d2 hat
   generalize zem g k g.types[k]=e3 at d3 hat
   generalize zeE g k g.types[k]=e4 at d4 hat
   generalize zeB g k=e5 at d5 hat
   have fin:∀ c:Int,c≠0→Zr g k=c→PV.tup [pi (k:Int),pi c]=.tup [pi (WH g).1,pi (WH g).2]:=fun c hc h=>by rw [hfin (by rw [h];exact hc),h]
   repeat' (first|(refine shC ?_;first|refine qC d1 ?_|refine qC d2 ?_|refine qC d3 ?_|refine qC d4 ?_|refine qC d5 ?_)|(refine shX ?_;first|refine qX he ?_)|refine sK ?_|refine sC (fun _=>?_) (fun _=>?_)|fail)
   all_goals first
    | exact retq rfl (fin 7 (by decide) (by rw [hat];simp_all;done))
    | exact retq rfl (fin 18 (by decide) (by rw [hat];simp_all;done))
    | exact retq rfl (fin 20 (by decide) (by rw [hat];simp_all;done))
    | exact ⟨k + 1,⟨hlt,hnx (by rw [hat];simp_all;done)⟩,tD,tS,tH⟩
  ·repeat' (first|refine sK ?_|refine sC (fun _=>?_) (fun _=>?_)|fail)
   obtain rfl:k=g.types.length:=by omega
   exact retq rfl (by simp [zy,zpW hf hno])
set_option maxHeartbeats 20000000
def OkA (g:Img):Prop:=∀ m∈g.methods,∀ x∈m.code,zdX x
theorem znk (g:Img) (hx:OkA g):ACall Tryz.prog 120 [zT g] (pb (YZ g)):=by
 refine zi zf Tryz.func120 rfl (by kernel_rfl) Tryz.ntmps120 (by simp) _ rfl (fun hw gB hgB=>?_)
 repeat' (first|(refine shC ?_;first|refine qC (zj8 g hx) ?_)|refine sA ?_|refine sC (fun _=>?_) (fun _=>?_)|fail)
 exact retq rfl rfl
theorem zbU (g:Img) (t:Int):yt g t = -1∨yt g t=0∨yt g t=1∨yt g t=2∨yt g t=3:=by
 unfold yt
 cases typeAt g t with
 | none=>exact .inl rfl
 | some td =>
  simp only
  unfold WU
  cases qF td.flags 2 <;> cases qF td.flags 1 <;> cases qF td.flags 16 <;> simp
theorem zmi (g:Img) (t:Ty) (hf:yJ g=true):ACall Tryz.prog 121 [zT g,yM t] (pb (Yd g t)):=by
 refine zi zf Tryz.func121 rfl (by kernel_rfl) Tryz.ntmps121 (by simp) _ rfl (fun hw gB hgB=>?_)
 have hk:=zbU g t.index
 have c1:=Zx g hf t.index
 have hu:Yd g t=(ZI t&&(if t.kind==5 then yt g t.index==0||yt g t.index==2||yt g t.index==3 else t.kind != 6||yt g t.index==1)):=rfl
 rw [hu]
 generalize yt g t.index=k at c1 hk hu
 clear hu
 repeat' (first|(refine shC ?_;first|refine qC (zai t) ?_|refine qC c1 ?_)|refine sA ?_|refine sC (fun _=>?_) (fun _=>?_)|fail)
 all_goals (refine retq rfl ?_;rcases hk with rfl|rfl|rfl|rfl|rfl <;> simp_all [zy])
theorem zq7 {α:Type} (d:α) (fs:List α):(nums fs.length).map (fun i=>fs.getD i.toNat d)=fs:=by
 rw [nums,List.map_map]
 apply List.ext_getElem
 ·simp
 ·intro i h1 h2
  simp only [List.getElem_map,List.getElem_range,Function.comp]
  rw [Int.toNat_natCast,zQ h2]
theorem ztd {g:Img} (hf:yJ g=true) (t:Int):((fieldsOf g t).filter fun i=>!(g.fields.getD i.toNat default).static).map (fun i=>g.fields.getD i.toNat default)=ZV g t:=by
 have h1:ZV g t=((nums g.fields.length).filter ((fun f:Fd=>f.owner==t&&!f.static) ∘ fun i=>g.fields.getD i.toNat default)).map (fun i=>g.fields.getD i.toNat default):=by
  rw [ZV,←List.filter_map,zq7]
 rw [h1,fieldsOf,List.filter_filter]
 congr 1
 apply List.filter_congr
 intro i hi
 obtain ⟨i0,i1⟩:=zhE.1 hi
 have hlt:i.toNat < g.fields.length:=by omega
 obtain ⟨o0,o1,_⟩:=zep hf (List.getElem_mem hlt)
 simp only [Function.comp,zQ hlt]
 by_cases ho:g.fields[i.toNat].owner=t
 ·have:=Wh (g:=g) (t:=t) (by omega)
  rw [this,Bool.true_and,Bool.and_comm]
 ·have:(g.fields[i.toNat].owner==t)=false:=by simp [ho]
  rw [this];simp
theorem zkw (g:Img) (t:Int):(ZV g t).length≤g.fields.length:=List.length_filter_le _ _
theorem zkU (g:Img) (t:Int) (hf:yJ g=true):ACall Tryz.prog 172 [zT g,pi t] (.slc 7 ((ZV g t).map Yb) false):=by
 refine zi zf Tryz.func172 rfl (by kernel_rfl) Tryz.ntmps172 (by simp) _ rfl (fun hw gB hgB=>?_)
 have hg:g.fields.length≤1000:=by have:=(yH hf).2.1;omega
 have hfl:=WY g t
 repeat' (first|(refine shC ?_;first|refine qC (Xw g t hg) ?_)|refine sA ?_|refine sC (fun _=>?_) (fun _=>?_)|fail)
 refine Yr (t:=5) 0 109 7 (by decide) rfl rfl ?_
 refine zW (fun x:Nat × List Fd=>[(2,.pv (.ptr (zT g) 0)),(5,.own 0),(10,.pv (ints (fieldsOf g t))),(11,.pv (pi (fieldsOf g t).length)),(12,.pv (pi x.1))]) (fun x=>[(0,.row 109 7 (x.2.map Yb))])
  (fun x=>x.1≤(fieldsOf g t).length∧x.2.length≤x.1∧x.2++(((fieldsOf g t).drop x.1).filter fun i=>!(g.fields.getD i.toNat default).static).map (fun i=>g.fields.getD i.toNat default)=ZV g t) (fun x=>(fieldsOf g t).length - x.1) (0,[]) ⟨by simp,by simp,ztd hf t⟩ (tS) ⟨zD rfl zG,rfl⟩ ?_
 rintro ⟨k,out⟩ ⟨hk,hol,hr⟩
 simp only at hk hol hr
 by_cases hlt:k < (fieldsOf g t).length
 ·have he:=YD hlt
  obtain ⟨h0,hi⟩:=YN (List.getElem_mem hlt)
  have hef:=YE (f:=Yb) hi
  rw [drop_cons hlt,List.filter_cons,zQ hi] at hr
  generalize hfd:g.fields[(fieldsOf g t)[k].toNat]=f at hr hef
  repeat' (first|(refine shX ?_;first|refine qX he ?_|refine zx rfl (zq zf rfl rfl rfl rfl rfl rfl h0 hef) rfl rfl ?_|refine AD.step _ _ _ _ _ rfl (zq zf rfl rfl rfl rfl rfl rfl h0 hef) rfl rfl ?_)|(refine yK ?_;first|refine qG zf rfl rfl rfl rfl rfl rfl rfl (by show _ * 64≤_;simp;omega) (by simp;omega) rfl rfl ?_)|refine sK ?_|refine sC (fun _=>?_) (fun _=>?_)|fail)
  ·rename_i hx
   rw [if_pos hx,List.map_cons,zQ hi,hfd] at hr
   exact ⟨(k + 1,out++[f]),⟨by simp;omega,by simp;omega,by simpa using hr⟩,tD,tS,⟨ZW rfl (by simp) zG,rfl⟩⟩
  ·rename_i hx
   rw [if_neg (by simp [hx])] at hr
   exact ⟨(k + 1,out),⟨by simp;omega,by simp;omega,hr⟩,tD,tS,⟨ZW rfl rfl zG,rfl⟩⟩
 ·rw [drop_end (by omega)] at hr
  repeat' (first|refine sK ?_|refine sC (fun _=>?_) (fun _=>?_)|fail)
  exact retq rfl (by rw [←hr];simp [zy])
set_option maxHeartbeats 20000000
theorem zpc {g:Img} {n:Nat} {t:Ty} (hd:Dp g (n + 1) t) (hw:whole t=false):∀ f∈ZV g t.index,Dp g n f.ty:=by
 rcases hd with h|h
 ·rw [h] at hw;cases hw
 ·exact h
theorem zg0 {g:Img} (h:YZ g=true) (hu:Yl g=true) {t:Ty} (hk:t.kind=1):YF g t=[]:=by rw [zeX h hu];simp [hk]
theorem zfK {g:Img} (h:YZ g=true) (hu:Yl g=true) {t:Ty} (hk:t.kind≠1) (hw:whole t=true):YF g t=[t]:=by rw [zeX h hu];simp [hk,hw]
theorem zgI {t:Ty} (hw:whole t=false):t.kind=6∧t.ref=false∧¬ 0 < t.dims:=by
 simp only [whole,Bool.or_eq_false_iff,bne_eq_false_iff_eq,decide_eq_false_iff_not] at hw
 exact ⟨hw.1.1,hw.1.2,hw.2⟩
theorem zmR {g:Img} (h:YZ g=true) (hu:Yl g=true) {t:Ty} (hw:whole t=false):YF g t=if (fcs g (ZV g t.index)).length=0 then [intTy] else fcs g (ZV g t.index):=by
 rw [zeX h hu,hw]
 simp [(zgI hw).1]
theorem zgm {g:Img} (h:YZ g=true) (hu:Yl g=true) {t:Ty} (hw:whole t=false):(YF g t).length=max (fcs g (ZV g t.index)).length 1:=by
 rw [zmR h hu hw]
 split
 ·rename_i h0;rw [h0];rfl
 ·omega
theorem zh5 {g:Img} {l:List Fd} {k:Nat} (h:k < l.length):(fcs g (l.take (k + 1))).length=(fcs g (l.take k)).length + (YF g l[k].ty).length:=by
 rw [List.take_succ_eq_append_getElem h,zgJ,zd9];simp [fcs]
theorem zgj (g:Img) (hwl:YZ g=true) (hu:Yl g=true) (b:Nat) (hb:b≤100) (hb1:1≤b):∀ (n:Nat) (t:Ty),Dp g n t→ACall Tryz.prog 171 [zT g,yM t,pi b] (pi (za0 g b t:Nat)):=by
 have hf:=YL hwl
 intro n
 induction n with
 | zero =>
  intro t hd
  have hwh:whole t=true:=hd
  refine zi zf Tryz.func171 rfl (by kernel_rfl) Tryz.ntmps171 (by simp) _ rfl (fun hw gB hgB=>?_)
  have hw':(t.kind != 6||t.ref||decide (0 < t.dims))=true:=hwh
  by_cases hk:t.kind=1
  ·have e:za0 g b t=0:=by rw [za0,zg0 hwl hu hk];rfl
   have hkb:(t.kind==1)=true:=by simp [hk]
   repeat' (first|refine sK ?_|refine sC (fun _=>?_) (fun _=>?_)|fail)
   all_goals exact retq rfl (by rw [e];rfl)
  ·have e:za0 g b t=1:=by rw [za0,zfK hwl hu hk hwh];simp <;> omega
   have hkb:(t.kind==1)=false:=by simp [hk]
   repeat' (first|refine sA ?_|refine sC (fun _=>?_) (fun _=>?_)|fail)
   all_goals first
    | (refine retq rfl ?_;rw [e];rfl)
    | (exfalso;simp_all;done)
 | succ n ih =>
  intro t hd
  refine zi zf Tryz.func171 rfl (by kernel_rfl) Tryz.ntmps171 (by simp) _ rfl (fun hw gB hgB=>?_)
  cases hwh:whole t
  ·obtain ⟨k1,k2,k3⟩:=zgI hwh
   have hn:=zpc hd hwh
   have hol:=zkw g t.index
   have hgl:g.fields.length≤64:=by have:=(yH hf).2.1;omega
   have hkb1:(t.kind==1)=false:=by simp [k1]
   have hkb2:(t.kind != 6)=false:=by simp [k1]
   have hkb3:decide (0 < t.dims)=false:=by simp [k3]
   repeat' (first|(refine shC ?_;first|refine qC (zkU g t.index hf) ?_)|refine sK ?_|refine sC (fun _=>?_) (fun _=>?_)|fail)
   refine zW (fun x:Nat × Nat=>[(2,.pv (pi b)),(3,.pv (.ptr (zT g) 0)),(7,.pv (pi x.2)),(28,.pv (.slc 7 ((ZV g t.index).map Yb) false)),(29,.pv (pi (ZV g t.index).length)),(30,.pv (pi x.1))]) (fun _=>[])
    (fun x=>x.1≤(ZV g t.index).length∧x.2≤2 * b + 1∧Cnt b x.2 (fcs g ((ZV g t.index).take x.1)).length) (fun x=>(ZV g t.index).length - x.1) (0,0) ⟨by simp,by simp,rfl⟩ (tS) tH ?_
   rintro ⟨k,r⟩ ⟨hk,hr,hc⟩
   simp only at hk hr hc
   by_cases hlt:k < (ZV g t.index).length
   ·have he:=yj (f:=Yb) hlt
    have c1:=ih (ZV g t.index)[k].ty (hn _ (List.getElem_mem hlt))
    have hs:=zh5 (g:=g) hlt
    have hcl:za0 g b (ZV g t.index)[k].ty≤b + 1:=Nat.min_le_right _ _
    have hce:za0 g b (ZV g t.index)[k].ty=min (YF g (ZV g t.index)[k].ty).length (b + 1):=rfl
    generalize za0 g b (ZV g t.index)[k].ty=c at c1 hcl hce
    by_cases hrb:r≤b
    ·have hcn:=hc.add (l:=(YF g (ZV g t.index)[k].ty).length) hrb
     rw [←hs,←hce] at hcn
     repeat' (first|(refine shC ?_;first|refine qC c1 ?_)|(refine shX ?_;first|refine qX he ?_)|refine sK ?_|refine sC (fun _=>?_) (fun _=>?_)|fail)
     exact ⟨(k + 1,r + c),⟨hlt,by simp only;omega,hcn⟩,tD,by repeat (first|exact yZ|refine yS rfl ?_|(refine Zn rfl ?_ ?_;· (first|(rw [wrap_in (by omega) (by omega)] <;> omega)|(dsimp only;rw [wrap_in (by omega) (by omega)] <;> (push_cast;omega))))),tH⟩
    ·have hcn:=hc.stay (l:=(YF g (ZV g t.index)[k].ty).length) (by omega)
     rw [←hs] at hcn
     repeat' (first|(refine shX ?_;first|refine qX he ?_)|refine sK ?_|refine sC (fun _=>?_) (fun _=>?_)|fail)
     exact ⟨(k + 1,r),⟨hlt,hr,hcn⟩,tD,tS,tH⟩
   ·have e:za0 g b t=min (max r 1) (b + 1):=by
     rw [za0,zgm hwl hu hwh]
     rw [List.take_of_length_le (by omega)] at hc
     unfold Cnt at hc;omega
    have hwb:IntKind.i64.wrap ((b:Int) + 1)=((b + 1:Nat):Int):=by rw [wrap_in (by omega) (by omega)];omega
    repeat' (first|refine zx rfl (ztH rfl rfl rfl) rfl rfl ?_|refine zx rfl (ztw rfl rfl rfl) rfl rfl ?_|refine sK ?_|refine sC (fun _=>?_) (fun _=>?_)|fail)
    exact retq rfl (by rw [e];simp only [zy,hwb] <;> (congr 3 <;> omega))
  ·have hw':(t.kind != 6||t.ref||decide (0 < t.dims))=true:=hwh
   by_cases hk:t.kind=1
   ·have e:za0 g b t=0:=by rw [za0,zg0 hwl hu hk];rfl
    have hkb:(t.kind==1)=true:=by simp [hk]
    repeat' (first|refine sK ?_|refine sC (fun _=>?_) (fun _=>?_)|fail)
    all_goals exact retq rfl (by rw [e];rfl)
   ·have e:za0 g b t=1:=by rw [za0,zfK hwl hu hk hwh];simp <;> omega
    have hkb:(t.kind==1)=false:=by simp [hk]
    repeat' (first|refine sA ?_|refine sC (fun _=>?_) (fun _=>?_)|fail)
    all_goals first
     | (refine retq rfl ?_;rw [e];rfl)
     | (exfalso;simp_all;done)
theorem zn2 (g:Img) (hwl:YZ g=true) (hu:Yl g=true) (b:Nat) (hb:b≤100) (hb1:1≤b) (t:Ty):ACall Tryz.prog 122 [zT g,yM t,pi b] (pb (decide (b < (YF g t).length))):=by
 refine zi zf Tryz.func122 rfl (by kernel_rfl) Tryz.ntmps122 (by simp) _ rfl (fun hw gB hgB=>?_)
 have c1:=zgj g hwl hu b hb hb1 _ t (zm7 hwl hu t)
 have e:decide ((b:Int) < (za0 g b t:Nat))=decide (b < (YF g t).length):=by
  rw [decide_eq_decide];unfold za0;omega
 repeat' (first|(refine shC ?_;first|refine qC c1 ?_)|refine sA ?_|refine sC (fun _=>?_) (fun _=>?_)|fail)
 exact retq rfl (by simp only [zy,e])
end Go.Cg
