/- A part of the walks by abstract values: no statement of its own. -/
import Derived.Test.YtoeplllgofpddaaGreatU13
set_option linter.unusedVariables false
set_option linter.unusedSimpArgs false
namespace Go.Cg
open Go.Proofs
set_option maxHeartbeats 20000000
theorem zte (g:Img) (hF:Fm g) (m:Me) (ar:List Ty) (arg:Int) (t0:Ty) (l:List Ty) (hl:l.length≤100) (h0:0≤arg):XC 82 [] (⟨g,m,ar,⟨2,arg,t0⟩⟩:RC) (qJ g ar m ⟨2,arg,t0⟩) uV l:=by
 intro u;refine zF zf Tryz.func82 rfl (by kernel_rfl) Tryz.ntmps82 (by simp) _ rfl (fun gB hw1=>?_)
 cases hS1:(XR ⟨2,arg,t0⟩ ar) l with
 | error e =>
  have hw:(qJ g ar m ⟨2,arg,t0⟩) l=.error e:=by simp [qJ,zx,zA,hS1]
  repeat' (first|refine zq 6 2 rfl rfl rfl ?_|refine zD ((yN u ⟨g,m,ar,⟨2,arg,t0⟩⟩ l)) zi rfl rfl rfl tH ((Zd ⟨g,m,ar,⟨2,arg,t0⟩⟩ ar _ h0).bad hS1 u) ?_|refine sK ?_|refine sC (fun _=>?_) (fun _=>?_)|fail)
  exact zy hw
 | ok p =>
  obtain ⟨t,l1⟩:=p
  have hl1:l1.length≤100:=by have:=zae hS1;omega
  cases hS2:(yR m.max [t]) l1 with
  | error e =>
   have hw:(qJ g ar m ⟨2,arg,t0⟩) l=.error e:=by simp [qJ,zx,zA,hS1,hS2]
   repeat' (first|refine zq 11 3 rfl rfl rfl ?_|refine zD ((yN u ⟨g,m,ar,⟨2,arg,t0⟩⟩ l1)) zi rfl rfl rfl tH ((zS ⟨g,m,ar,⟨2,arg,t0⟩⟩ [t] _ (by omega) (by simp)).bad hS2 u) ?_|(refine zu ?_;first|(refine zo 0 zi rfl rfl ((Zd ⟨g,m,ar,⟨2,arg,t0⟩⟩ ar _ h0).ok hS1) rfl rfl rfl rfl rfl ?_))|refine sK ?_|refine sC (fun _=>?_) (fun _=>?_)|fail)
   exact zy hw
  | ok p =>
   obtain ⟨⟨⟩,l2⟩:=p
   have hw:(qJ g ar m ⟨2,arg,t0⟩) l=.ok ((),l2):=by simp [qJ,zx,zA,hS1,hS2]
   repeat' (first|(refine zu ?_;first|(refine zo 0 zi rfl rfl ((Zd ⟨g,m,ar,⟨2,arg,t0⟩⟩ ar _ h0).ok hS1) rfl rfl rfl rfl rfl ?_)|(refine zo 0 zi rfl rfl ((zS ⟨g,m,ar,⟨2,arg,t0⟩⟩ [t] _ (by omega) (by simp)).ok hS2) rfl rfl rfl rfl rfl ?_))|refine sK ?_|refine sC (fun _=>?_) (fun _=>?_)|fail)
   exact zV hw (yC (.inl rfl) tH)
theorem ztB (g:Img) (hF:Fm g) (m:Me) (ar:List Ty) (arg:Int) (t0:Ty) (l:List Ty) (hl:l.length≤100) (h0:0≤arg):XC 82 [] (⟨g,m,ar,⟨3,arg,t0⟩⟩:RC) (qJ g ar m ⟨3,arg,t0⟩) uV l:=by
 intro u;refine zF zf Tryz.func82 rfl (by kernel_rfl) Tryz.ntmps82 (by simp) _ rfl (fun gB hw1=>?_)
 cases hS1:(XR ⟨3,arg,t0⟩ ar) l with
 | error e =>
  have hw:(qJ g ar m ⟨3,arg,t0⟩) l=.error e:=by simp [qJ,zx,zA,hS1]
  repeat' (first|refine zq 6 2 rfl rfl rfl ?_|refine zD ((yN u ⟨g,m,ar,⟨3,arg,t0⟩⟩ l)) zi rfl rfl rfl tH ((Zd ⟨g,m,ar,⟨3,arg,t0⟩⟩ ar _ h0).bad hS1 u) ?_|refine sK ?_|refine sC (fun _=>?_) (fun _=>?_)|fail)
  exact zy hw
 | ok p =>
  obtain ⟨t,l1⟩:=p
  have hl1:l1.length≤100:=by have:=zae hS1;omega
  cases hS2:(Yo g t) l1 with
  | error e =>
   have hw:(qJ g ar m ⟨3,arg,t0⟩) l=.error e:=by simp [qJ,zx,zA,hS1,hS2]
   repeat' (first|refine zq 14 2 rfl rfl rfl ?_|refine zD ((yN u ⟨g,m,ar,⟨3,arg,t0⟩⟩ l1)) zi rfl rfl rfl tH ((qj ⟨g,m,ar,⟨3,arg,t0⟩⟩ hF t _ (by omega)).bad hS2 u) ?_|(refine zu ?_;first|(refine zo 0 zi rfl rfl ((Zd ⟨g,m,ar,⟨3,arg,t0⟩⟩ ar _ h0).ok hS1) rfl rfl rfl rfl rfl ?_))|refine sK ?_|refine sC (fun _=>?_) (fun _=>?_)|fail)
   exact zy hw
  | ok p =>
   obtain ⟨⟨⟩,l2⟩:=p
   have hw:(qJ g ar m ⟨3,arg,t0⟩) l=.ok ((),l2):=by simp [qJ,zx,zA,hS1,hS2]
   repeat' (first|(refine zu ?_;first|(refine zo 0 zi rfl rfl ((Zd ⟨g,m,ar,⟨3,arg,t0⟩⟩ ar _ h0).ok hS1) rfl rfl rfl rfl rfl ?_)|(refine zo 0 zi rfl rfl ((qj ⟨g,m,ar,⟨3,arg,t0⟩⟩ hF t _ (by omega)).ok hS2) rfl rfl rfl rfl rfl ?_))|refine sK ?_|refine sC (fun _=>?_) (fun _=>?_)|fail)
   exact zV hw (yC (.inl rfl) tH)
theorem ztr (g:Img) (hF:Fm g) (m:Me) (ar:List Ty) (arg:Int) (t0:Ty) (l:List Ty) (hl:l.length≤100) (h0:0≤arg):XC 82 [] (⟨g,m,ar,⟨4,arg,t0⟩⟩:RC) (qJ g ar m ⟨4,arg,t0⟩) uV l:=by
 intro u;refine zF zf Tryz.func82 rfl (by kernel_rfl) Tryz.ntmps82 (by simp) _ rfl (fun gB hw1=>?_)
 cases hS1:(XR ⟨4,arg,t0⟩ ar) l with
 | error e =>
  have hw:(qJ g ar m ⟨4,arg,t0⟩) l=.error e:=by simp [qJ,zx,zA,hS1]
  repeat' (first|refine zq 6 2 rfl rfl rfl ?_|refine zD ((yN u ⟨g,m,ar,⟨4,arg,t0⟩⟩ l)) zi rfl rfl rfl tH ((Zd ⟨g,m,ar,⟨4,arg,t0⟩⟩ ar _ h0).bad hS1 u) ?_|refine sK ?_|refine sC (fun _=>?_) (fun _=>?_)|fail)
  exact zy hw
 | ok p =>
  obtain ⟨t,l1⟩:=p
  have hl1:l1.length≤100:=by have:=zae hS1;omega
  cases hS2:(Ym m.max t) l1 with
  | error e =>
   have hw:(qJ g ar m ⟨4,arg,t0⟩) l=.error e:=by simp [qJ,zx,zA,hS1,hS2]
   repeat' (first|refine zq 8 2 rfl rfl rfl ?_|refine zD ((yN u ⟨g,m,ar,⟨4,arg,t0⟩⟩ l1)) zi rfl rfl rfl tH ((VB ⟨g,m,ar,⟨4,arg,t0⟩⟩ t _ (by omega)).bad hS2 u) ?_|(refine zu ?_;first|(refine zo 0 zi rfl rfl ((Zd ⟨g,m,ar,⟨4,arg,t0⟩⟩ ar _ h0).ok hS1) rfl rfl rfl rfl rfl ?_))|refine sK ?_|refine sC (fun _=>?_) (fun _=>?_)|fail)
   exact zy hw
  | ok p =>
   obtain ⟨⟨⟩,l2⟩:=p
   have hw:(qJ g ar m ⟨4,arg,t0⟩) l=.ok ((),l2):=by simp [qJ,zx,zA,hS1,hS2]
   repeat' (first|(refine zu ?_;first|(refine zo 0 zi rfl rfl ((Zd ⟨g,m,ar,⟨4,arg,t0⟩⟩ ar _ h0).ok hS1) rfl rfl rfl rfl rfl ?_)|(refine zo 0 zi rfl rfl ((VB ⟨g,m,ar,⟨4,arg,t0⟩⟩ t _ (by omega)).ok hS2) rfl rfl rfl rfl rfl ?_))|refine sK ?_|refine sC (fun _=>?_) (fun _=>?_)|fail)
   exact zV hw (yC (.inl rfl) tH)
theorem ztx (g:Img) (hF:Fm g) (m:Me) (ar:List Ty) (arg:Int) (t0:Ty) (l:List Ty) (hl:l.length≤100) (h0:0≤arg):XC 82 [] (⟨g,m,ar,⟨5,arg,t0⟩⟩:RC) (qJ g ar m ⟨5,arg,t0⟩) uV l:=by
 intro u;refine zF zf Tryz.func82 rfl (by kernel_rfl) Tryz.ntmps82 (by simp) _ rfl (fun gB hw1=>?_)
 cases hS1:(XR ⟨5,arg,t0⟩ m.locals) l with
 | error e =>
  have hw:(qJ g ar m ⟨5,arg,t0⟩) l=.error e:=by simp [qJ,zx,zA,hS1]
  repeat' (first|refine zq 6 2 rfl rfl rfl ?_|refine zD ((yN u ⟨g,m,ar,⟨5,arg,t0⟩⟩ l)) zi rfl rfl rfl tH ((Zd ⟨g,m,ar,⟨5,arg,t0⟩⟩ m.locals _ h0).bad hS1 u) ?_|refine sK ?_|refine sC (fun _=>?_) (fun _=>?_)|fail)
  exact zy hw
 | ok p =>
  obtain ⟨t,l1⟩:=p
  have hl1:l1.length≤100:=by have:=zae hS1;omega
  cases hS2:(yR m.max [t]) l1 with
  | error e =>
   have hw:(qJ g ar m ⟨5,arg,t0⟩) l=.error e:=by simp [qJ,zx,zA,hS1,hS2]
   repeat' (first|refine zq 11 3 rfl rfl rfl ?_|refine zD ((yN u ⟨g,m,ar,⟨5,arg,t0⟩⟩ l1)) zi rfl rfl rfl tH ((zS ⟨g,m,ar,⟨5,arg,t0⟩⟩ [t] _ (by omega) (by simp)).bad hS2 u) ?_|(refine zu ?_;first|(refine zo 0 zi rfl rfl ((Zd ⟨g,m,ar,⟨5,arg,t0⟩⟩ m.locals _ h0).ok hS1) rfl rfl rfl rfl rfl ?_))|refine sK ?_|refine sC (fun _=>?_) (fun _=>?_)|fail)
   exact zy hw
  | ok p =>
   obtain ⟨⟨⟩,l2⟩:=p
   have hw:(qJ g ar m ⟨5,arg,t0⟩) l=.ok ((),l2):=by simp [qJ,zx,zA,hS1,hS2]
   repeat' (first|(refine zu ?_;first|(refine zo 0 zi rfl rfl ((Zd ⟨g,m,ar,⟨5,arg,t0⟩⟩ m.locals _ h0).ok hS1) rfl rfl rfl rfl rfl ?_)|(refine zo 0 zi rfl rfl ((zS ⟨g,m,ar,⟨5,arg,t0⟩⟩ [t] _ (by omega) (by simp)).ok hS2) rfl rfl rfl rfl rfl ?_))|refine sK ?_|refine sC (fun _=>?_) (fun _=>?_)|fail)
   exact zV hw (yC (.inl rfl) tH)
theorem zts (g:Img) (hF:Fm g) (m:Me) (ar:List Ty) (arg:Int) (t0:Ty) (l:List Ty) (hl:l.length≤100) (h0:0≤arg):XC 82 [] (⟨g,m,ar,⟨6,arg,t0⟩⟩:RC) (qJ g ar m ⟨6,arg,t0⟩) uV l:=by
 intro u;refine zF zf Tryz.func82 rfl (by kernel_rfl) Tryz.ntmps82 (by simp) _ rfl (fun gB hw1=>?_)
 cases hS1:(XR ⟨6,arg,t0⟩ m.locals) l with
 | error e =>
  have hw:(qJ g ar m ⟨6,arg,t0⟩) l=.error e:=by simp [qJ,zx,zA,hS1]
  repeat' (first|refine zq 6 2 rfl rfl rfl ?_|refine zD ((yN u ⟨g,m,ar,⟨6,arg,t0⟩⟩ l)) zi rfl rfl rfl tH ((Zd ⟨g,m,ar,⟨6,arg,t0⟩⟩ m.locals _ h0).bad hS1 u) ?_|refine sK ?_|refine sC (fun _=>?_) (fun _=>?_)|fail)
  exact zy hw
 | ok p =>
  obtain ⟨t,l1⟩:=p
  have hl1:l1.length≤100:=by have:=zae hS1;omega
  cases hS2:(Yo g t) l1 with
  | error e =>
   have hw:(qJ g ar m ⟨6,arg,t0⟩) l=.error e:=by simp [qJ,zx,zA,hS1,hS2]
   repeat' (first|refine zq 14 2 rfl rfl rfl ?_|refine zD ((yN u ⟨g,m,ar,⟨6,arg,t0⟩⟩ l1)) zi rfl rfl rfl tH ((qj ⟨g,m,ar,⟨6,arg,t0⟩⟩ hF t _ (by omega)).bad hS2 u) ?_|(refine zu ?_;first|(refine zo 0 zi rfl rfl ((Zd ⟨g,m,ar,⟨6,arg,t0⟩⟩ m.locals _ h0).ok hS1) rfl rfl rfl rfl rfl ?_))|refine sK ?_|refine sC (fun _=>?_) (fun _=>?_)|fail)
   exact zy hw
  | ok p =>
   obtain ⟨⟨⟩,l2⟩:=p
   have hw:(qJ g ar m ⟨6,arg,t0⟩) l=.ok ((),l2):=by simp [qJ,zx,zA,hS1,hS2]
   repeat' (first|(refine zu ?_;first|(refine zo 0 zi rfl rfl ((Zd ⟨g,m,ar,⟨6,arg,t0⟩⟩ m.locals _ h0).ok hS1) rfl rfl rfl rfl rfl ?_)|(refine zo 0 zi rfl rfl ((qj ⟨g,m,ar,⟨6,arg,t0⟩⟩ hF t _ (by omega)).ok hS2) rfl rfl rfl rfl rfl ?_))|refine sK ?_|refine sC (fun _=>?_) (fun _=>?_)|fail)
   exact zV hw (yC (.inl rfl) tH)
theorem ztl (g:Img) (hF:Fm g) (m:Me) (ar:List Ty) (arg:Int) (t0:Ty) (l:List Ty) (hl:l.length≤100) (h0:0≤arg):XC 82 [] (⟨g,m,ar,⟨7,arg,t0⟩⟩:RC) (qJ g ar m ⟨7,arg,t0⟩) uV l:=by
 intro u;refine zF zf Tryz.func82 rfl (by kernel_rfl) Tryz.ntmps82 (by simp) _ rfl (fun gB hw1=>?_)
 cases hS1:(XR ⟨7,arg,t0⟩ m.locals) l with
 | error e =>
  have hw:(qJ g ar m ⟨7,arg,t0⟩) l=.error e:=by simp [qJ,zx,zA,hS1]
  repeat' (first|refine zq 6 2 rfl rfl rfl ?_|refine zD ((yN u ⟨g,m,ar,⟨7,arg,t0⟩⟩ l)) zi rfl rfl rfl tH ((Zd ⟨g,m,ar,⟨7,arg,t0⟩⟩ m.locals _ h0).bad hS1 u) ?_|refine sK ?_|refine sC (fun _=>?_) (fun _=>?_)|fail)
  exact zy hw
 | ok p =>
  obtain ⟨t,l1⟩:=p
  have hl1:l1.length≤100:=by have:=zae hS1;omega
  cases hS2:(Ym m.max t) l1 with
  | error e =>
   have hw:(qJ g ar m ⟨7,arg,t0⟩) l=.error e:=by simp [qJ,zx,zA,hS1,hS2]
   repeat' (first|refine zq 8 2 rfl rfl rfl ?_|refine zD ((yN u ⟨g,m,ar,⟨7,arg,t0⟩⟩ l1)) zi rfl rfl rfl tH ((VB ⟨g,m,ar,⟨7,arg,t0⟩⟩ t _ (by omega)).bad hS2 u) ?_|(refine zu ?_;first|(refine zo 0 zi rfl rfl ((Zd ⟨g,m,ar,⟨7,arg,t0⟩⟩ m.locals _ h0).ok hS1) rfl rfl rfl rfl rfl ?_))|refine sK ?_|refine sC (fun _=>?_) (fun _=>?_)|fail)
   exact zy hw
  | ok p =>
   obtain ⟨⟨⟩,l2⟩:=p
   have hw:(qJ g ar m ⟨7,arg,t0⟩) l=.ok ((),l2):=by simp [qJ,zx,zA,hS1,hS2]
   repeat' (first|(refine zu ?_;first|(refine zo 0 zi rfl rfl ((Zd ⟨g,m,ar,⟨7,arg,t0⟩⟩ m.locals _ h0).ok hS1) rfl rfl rfl rfl rfl ?_)|(refine zo 0 zi rfl rfl ((VB ⟨g,m,ar,⟨7,arg,t0⟩⟩ t _ (by omega)).ok hS2) rfl rfl rfl rfl rfl ?_))|refine sK ?_|refine sC (fun _=>?_) (fun _=>?_)|fail)
   exact zV hw (yC (.inl rfl) tH)
set_option maxHeartbeats 20000000
theorem zso (g:Img) (hF:Fm g) (m:Me) (ar:List Ty) (arg:Int) (t0:Ty) (l:List Ty) (hl:l.length≤100) (op:Int) (ho:op=13∨op=14∨op=15∨op=16∨op=17∨op=18∨op=19∨op=20∨op=25∨op=26∨op=27):XC 83 [] (⟨g,m,ar,⟨op,arg,t0⟩⟩:RC) (qm g m op) uV l:=by
 let c:RC:=⟨g,m,ar,⟨op,arg,t0⟩⟩
 rcases ho with rfl|rfl|rfl|rfl|rfl|rfl|rfl|rfl|rfl|rfl|rfl
 all_goals
  intro u;refine zF zf Tryz.func83 rfl (by kernel_rfl) Tryz.ntmps83 (by simp) _ rfl (fun gB hw1=>?_)
  cases hS1:(qU) l with
  | error e =>
   have hw:(qm g m c.x.op) l=.error e:=by simp [qm,c,zx,zA,hS1]
   repeat' (first|refine zq 12 2 rfl rfl rfl ?_|refine zD ((yN u c l)) zi rfl rfl rfl tH ((Yx c _ (by omega)).bad hS1 u) ?_|refine sK ?_|refine sC (fun _=>?_) (fun _=>?_)|fail)
   exact zy hw
  | ok p =>
   obtain ⟨t,l1⟩:=p
   have hl1:l1.length≤100:=by have:=zaL hS1;omega
   cases hS2:(yR m.max [t]) l1 with
   | error e =>
    have hw:(qm g m c.x.op) l=.error e:=by simp [qm,c,zx,zA,hS1,hS2]
    repeat' (first|refine zq 12 4 rfl rfl rfl ?_|refine zD ((yN u c l1)) zi rfl rfl rfl tH ((zS c [t] _ (by omega) (by simp)).bad hS2 u) ?_|(refine zu ?_;first|(refine zo 0 zi rfl rfl ((Yx c _ (by omega)).ok hS1) rfl rfl rfl rfl rfl ?_))|refine sK ?_|refine sC (fun _=>?_) (fun _=>?_)|fail)
    exact zy hw
   | ok p =>
    obtain ⟨⟨⟩,l2⟩:=p
    have hw:(qm g m c.x.op) l=.ok ((),l2):=by simp [qm,c,zx,zA,hS1,hS2]
    repeat' (first|(refine zu ?_;first|(refine zo 0 zi rfl rfl ((Yx c _ (by omega)).ok hS1) rfl rfl rfl rfl rfl ?_)|(refine zo 0 zi rfl rfl ((zS c [t] _ (by omega) (by simp)).ok hS2) rfl rfl rfl rfl rfl ?_))|refine sK ?_|refine sC (fun _=>?_) (fun _=>?_)|fail)
    exact zV hw (yC (.inl rfl) tH)
theorem zsu (g:Img) (hF:Fm g) (m:Me) (ar:List Ty) (arg:Int) (t0:Ty) (l:List Ty) (hl:l.length≤100) (op:Int) (ho:op=21∨op=22):XC 83 [] (⟨g,m,ar,⟨op,arg,t0⟩⟩:RC) (qm g m op) uV l:=by
 let c:RC:=⟨g,m,ar,⟨op,arg,t0⟩⟩
 rcases ho with rfl|rfl
 all_goals
  intro u;refine zF zf Tryz.func83 rfl (by kernel_rfl) Tryz.ntmps83 (by simp) _ rfl (fun gB hw1=>?_)
  cases hS1:(Yo g (kTy 2)) l with
  | error e =>
   have hw:(qm g m c.x.op) l=.error e:=by simp [qm,c,zx,zA,hS1]
   repeat' (first|refine zq 15 2 rfl rfl rfl ?_|refine zD ((yN u c l)) zi rfl rfl rfl tH ((qj c hF (kTy 2) _ (by omega)).bad hS1 u) ?_|(refine shC ?_;first|refine qC (zM 2) ?_)|refine sK ?_|refine sC (fun _=>?_) (fun _=>?_)|fail)
   exact zy hw
  | ok p =>
   obtain ⟨⟨⟩,l1⟩:=p
   have hl1:l1.length≤100:=by have:=WO hS1;omega
   cases hS2:(za3) l1 with
   | error e =>
    have hw:(qm g m c.x.op) l=.error e:=by simp [qm,c,zx,zA,hS1,hS2]
    repeat' (first|refine zq 16 2 rfl rfl rfl ?_|refine zD ((yN u c l1)) zi rfl rfl rfl tH ((Yv c _ (by omega)).bad hS2 u) ?_|(refine shC ?_;first|refine qC (zM 2) ?_)|(refine zu ?_;first|(refine zo 0 zi rfl rfl ((qj c hF (kTy 2) _ (by omega)).ok hS1) rfl rfl rfl rfl rfl ?_))|refine sK ?_|refine sC (fun _=>?_) (fun _=>?_)|fail)
    exact zy hw
   | ok p =>
    obtain ⟨t,l2⟩:=p
    have hl2:l2.length≤100:=by have:=zd1 hS2;omega
    cases hS3:(yR m.max [t]) l2 with
    | error e =>
     have hw:(qm g m c.x.op) l=.error e:=by simp [qm,c,zx,zA,hS1,hS2,hS3]
     repeat' (first|refine zq 16 4 rfl rfl rfl ?_|refine zD ((yN u c l2)) zi rfl rfl rfl tH ((zS c [t] _ (by omega) (by simp)).bad hS3 u) ?_|(refine shC ?_;first|refine qC (zM 2) ?_)|(refine zu ?_;first|(refine zo 0 zi rfl rfl ((qj c hF (kTy 2) _ (by omega)).ok hS1) rfl rfl rfl rfl rfl ?_)|(refine zo 0 zi rfl rfl ((Yv c _ (by omega)).ok hS2) rfl rfl rfl rfl rfl ?_))|refine sK ?_|refine sC (fun _=>?_) (fun _=>?_)|fail)
     exact zy hw
    | ok p =>
     obtain ⟨⟨⟩,l3⟩:=p
     have hw:(qm g m c.x.op) l=.ok ((),l3):=by simp [qm,c,zx,zA,hS1,hS2,hS3]
     repeat' (first|(refine shC ?_;first|refine qC (zM 2) ?_)|(refine zu ?_;first|(refine zo 0 zi rfl rfl ((qj c hF (kTy 2) _ (by omega)).ok hS1) rfl rfl rfl rfl rfl ?_)|(refine zo 0 zi rfl rfl ((Yv c _ (by omega)).ok hS2) rfl rfl rfl rfl rfl ?_)|(refine zo 0 zi rfl rfl ((zS c [t] _ (by omega) (by simp)).ok hS3) rfl rfl rfl rfl rfl ?_))|refine sK ?_|refine sC (fun _=>?_) (fun _=>?_)|fail)
     exact zV hw (yC (.inl rfl) tH)
theorem zsp (g:Img) (hF:Fm g) (m:Me) (ar:List Ty) (arg:Int) (t0:Ty) (l:List Ty) (hl:l.length≤100) (op:Int) (ho:op=23∨op=24):XC 83 [] (⟨g,m,ar,⟨op,arg,t0⟩⟩:RC) (qm g m op) uV l:=by
 let c:RC:=⟨g,m,ar,⟨op,arg,t0⟩⟩
 rcases ho with rfl|rfl
 all_goals
  intro u;refine zF zf Tryz.func83 rfl (by kernel_rfl) Tryz.ntmps83 (by simp) _ rfl (fun gB hw1=>?_)
  cases hS1:(za3) l with
  | error e =>
   have hw:(qm g m c.x.op) l=.error e:=by simp [qm,c,zx,zA,hS1]
   repeat' (first|refine zq 19 2 rfl rfl rfl ?_|refine zD ((yN u c l)) zi rfl rfl rfl tH ((Yv c _ (by omega)).bad hS1 u) ?_|refine sK ?_|refine sC (fun _=>?_) (fun _=>?_)|fail)
   exact zy hw
  | ok p =>
   obtain ⟨t,l1⟩:=p
   have hl1:l1.length≤100:=by have:=zd1 hS1;omega
   cases hS2:(yR m.max [t]) l1 with
   | error e =>
    have hw:(qm g m c.x.op) l=.error e:=by simp [qm,c,zx,zA,hS1,hS2]
    repeat' (first|refine zq 19 4 rfl rfl rfl ?_|refine zD ((yN u c l1)) zi rfl rfl rfl tH ((zS c [t] _ (by omega) (by simp)).bad hS2 u) ?_|(refine zu ?_;first|(refine zo 0 zi rfl rfl ((Yv c _ (by omega)).ok hS1) rfl rfl rfl rfl rfl ?_))|refine sK ?_|refine sC (fun _=>?_) (fun _=>?_)|fail)
    exact zy hw
   | ok p =>
    obtain ⟨⟨⟩,l2⟩:=p
    have hw:(qm g m c.x.op) l=.ok ((),l2):=by simp [qm,c,zx,zA,hS1,hS2]
    repeat' (first|(refine zu ?_;first|(refine zo 0 zi rfl rfl ((Yv c _ (by omega)).ok hS1) rfl rfl rfl rfl rfl ?_)|(refine zo 0 zi rfl rfl ((zS c [t] _ (by omega) (by simp)).ok hS2) rfl rfl rfl rfl rfl ?_))|refine sK ?_|refine sC (fun _=>?_) (fun _=>?_)|fail)
    exact zV hw (yC (.inl rfl) tH)
theorem zsF (g:Img) (hF:Fm g) (m:Me) (ar:List Ty) (arg:Int) (t0:Ty) (l:List Ty) (hl:l.length≤100) (op:Int) (ho:op=28∨op=30):XC 83 [] (⟨g,m,ar,⟨op,arg,t0⟩⟩:RC) (qm g m op) uV l:=by
 let c:RC:=⟨g,m,ar,⟨op,arg,t0⟩⟩
 rcases ho with rfl|rfl
 all_goals
  intro u;refine zF zf Tryz.func83 rfl (by kernel_rfl) Tryz.ntmps83 (by simp) _ rfl (fun gB hw1=>?_)
  cases hS1:(za3) l with
  | error e =>
   have hw:(qm g m c.x.op) l=.error e:=by simp [qm,c,zx,zA,hS1]
   repeat' (first|refine zq 22 1 rfl rfl rfl ?_|refine zD ((yN u c l)) zi rfl rfl rfl tH ((Yv c _ (by omega)).bad hS1 u) ?_|(refine shC ?_;first|refine qC (zM 2) ?_)|refine sK ?_|refine sC (fun _=>?_) (fun _=>?_)|fail)
   exact zy hw
  | ok p =>
   obtain ⟨t,l1⟩:=p
   have hl1:l1.length≤100:=by have:=zd1 hS1;omega
   cases hS2:(yR m.max [kTy 2]) l1 with
   | error e =>
    have hw:(qm g m c.x.op) l=.error e:=by simp [qm,c,zx,zA,hS1,hS2]
    repeat' (first|refine zq 23 3 rfl rfl rfl ?_|refine zD ((yN u c l1)) zi rfl rfl rfl tH ((zS c [kTy 2] _ (by omega) (by simp)).bad hS2 u) ?_|(refine shC ?_;first|refine qC (zM 2) ?_)|(refine zu ?_;first|(refine zo 0 zi rfl rfl ((Yv c _ (by omega)).ok hS1) rfl rfl rfl rfl rfl ?_))|refine sK ?_|refine sC (fun _=>?_) (fun _=>?_)|fail)
    exact zy hw
   | ok p =>
    obtain ⟨⟨⟩,l2⟩:=p
    have hw:(qm g m c.x.op) l=.ok ((),l2):=by simp [qm,c,zx,zA,hS1,hS2]
    repeat' (first|(refine shC ?_;first|refine qC (zM 2) ?_)|(refine zu ?_;first|(refine zo 0 zi rfl rfl ((Yv c _ (by omega)).ok hS1) rfl rfl rfl rfl rfl ?_)|(refine zo 0 zi rfl rfl ((zS c [kTy 2] _ (by omega) (by simp)).ok hS2) rfl rfl rfl rfl rfl ?_))|refine sK ?_|refine sC (fun _=>?_) (fun _=>?_)|fail)
    exact zV hw (yC (.inl rfl) tH)
theorem zsq (g:Img) (hF:Fm g) (m:Me) (ar:List Ty) (arg:Int) (t0:Ty) (l:List Ty) (hl:l.length≤100):XC 83 [] (⟨g,m,ar,⟨29,arg,t0⟩⟩:RC) (qm g m 29) uV l:=by
 intro u;refine zF zf Tryz.func83 rfl (by kernel_rfl) Tryz.ntmps83 (by simp) _ rfl (fun gB hw1=>?_)
 cases hS1:(za3) l with
 | error e =>
  have hw:(qm g m 29) l=.error e:=by simp [qm,zx,zA,hS1]
  repeat' (first|refine zq 25 1 rfl rfl rfl ?_|refine zD ((yN u ⟨g,m,ar,⟨29,arg,t0⟩⟩ l)) zi rfl rfl rfl tH ((Yv ⟨g,m,ar,⟨29,arg,t0⟩⟩ _ (by omega)).bad hS1 u) ?_|(refine shC ?_;first|refine qC (zM 3) ?_)|refine sK ?_|refine sC (fun _=>?_) (fun _=>?_)|fail)
  exact zy hw
 | ok p =>
  obtain ⟨t,l1⟩:=p
  have hl1:l1.length≤100:=by have:=zd1 hS1;omega
  cases hS2:(yR m.max [kTy 3]) l1 with
  | error e =>
   have hw:(qm g m 29) l=.error e:=by simp [qm,zx,zA,hS1,hS2]
   repeat' (first|refine zq 26 3 rfl rfl rfl ?_|refine zD ((yN u ⟨g,m,ar,⟨29,arg,t0⟩⟩ l1)) zi rfl rfl rfl tH ((zS ⟨g,m,ar,⟨29,arg,t0⟩⟩ [kTy 3] _ (by omega) (by simp)).bad hS2 u) ?_|(refine shC ?_;first|refine qC (zM 3) ?_)|(refine zu ?_;first|(refine zo 0 zi rfl rfl ((Yv ⟨g,m,ar,⟨29,arg,t0⟩⟩ _ (by omega)).ok hS1) rfl rfl rfl rfl rfl ?_))|refine sK ?_|refine sC (fun _=>?_) (fun _=>?_)|fail)
   exact zy hw
  | ok p =>
   obtain ⟨⟨⟩,l2⟩:=p
   have hw:(qm g m 29) l=.ok ((),l2):=by simp [qm,zx,zA,hS1,hS2]
   repeat' (first|(refine shC ?_;first|refine qC (zM 3) ?_)|(refine zu ?_;first|(refine zo 0 zi rfl rfl ((Yv ⟨g,m,ar,⟨29,arg,t0⟩⟩ _ (by omega)).ok hS1) rfl rfl rfl rfl rfl ?_)|(refine zo 0 zi rfl rfl ((zS ⟨g,m,ar,⟨29,arg,t0⟩⟩ [kTy 3] _ (by omega) (by simp)).ok hS2) rfl rfl rfl rfl rfl ?_))|refine sK ?_|refine sC (fun _=>?_) (fun _=>?_)|fail)
   exact zV hw (yC (.inl rfl) tH)
theorem zsH (g:Img) (hF:Fm g) (m:Me) (ar:List Ty) (arg:Int) (t0:Ty) (l:List Ty) (hl:l.length≤100):XC 83 [] (⟨g,m,ar,⟨31,arg,t0⟩⟩:RC) (qm g m 31) uV l:=by
 intro u;refine zF zf Tryz.func83 rfl (by kernel_rfl) Tryz.ntmps83 (by simp) _ rfl (fun gB hw1=>?_)
 cases hS1:(qN) l with
 | error e =>
  have hw:(qm g m 31) l=.error e:=by simp [qm,zx,zA,hS1]
  repeat' (first|refine zq 28 1 rfl rfl rfl ?_|refine zD ((yN u ⟨g,m,ar,⟨31,arg,t0⟩⟩ l)) zi rfl rfl rfl tH ((WV ⟨g,m,ar,⟨31,arg,t0⟩⟩ _ (by omega)).bad hS1 u) ?_|(refine shC ?_;first|refine qC (zM 2) ?_)|refine sK ?_|refine sC (fun _=>?_) (fun _=>?_)|fail)
  exact zy hw
 | ok p =>
  obtain ⟨⟨⟩,l1⟩:=p
  have hl1:l1.length≤100:=by have:=zdv hS1;omega
  cases hS2:(yR m.max [kTy 2]) l1 with
  | error e =>
   have hw:(qm g m 31) l=.error e:=by simp [qm,zx,zA,hS1,hS2]
   repeat' (first|refine zq 29 3 rfl rfl rfl ?_|refine zD ((yN u ⟨g,m,ar,⟨31,arg,t0⟩⟩ l1)) zi rfl rfl rfl tH ((zS ⟨g,m,ar,⟨31,arg,t0⟩⟩ [kTy 2] _ (by omega) (by simp)).bad hS2 u) ?_|(refine shC ?_;first|refine qC (zM 2) ?_)|(refine zu ?_;first|(refine zo 0 zi rfl rfl ((WV ⟨g,m,ar,⟨31,arg,t0⟩⟩ _ (by omega)).ok hS1) rfl rfl rfl rfl rfl ?_))|refine sK ?_|refine sC (fun _=>?_) (fun _=>?_)|fail)
   exact zy hw
  | ok p =>
   obtain ⟨⟨⟩,l2⟩:=p
   have hw:(qm g m 31) l=.ok ((),l2):=by simp [qm,zx,zA,hS1,hS2]
   repeat' (first|(refine shC ?_;first|refine qC (zM 2) ?_)|(refine zu ?_;first|(refine zo 0 zi rfl rfl ((WV ⟨g,m,ar,⟨31,arg,t0⟩⟩ _ (by omega)).ok hS1) rfl rfl rfl rfl rfl ?_)|(refine zo 0 zi rfl rfl ((zS ⟨g,m,ar,⟨31,arg,t0⟩⟩ [kTy 2] _ (by omega) (by simp)).ok hS2) rfl rfl rfl rfl rfl ?_))|refine sK ?_|refine sC (fun _=>?_) (fun _=>?_)|fail)
   exact zV hw (yC (.inl rfl) tH)
theorem zrX (g:Img) (hF:Fm g) (m:Me) (ar:List Ty) (arg:Int) (t0:Ty) (l:List Ty) (hl:l.length≤100) (op:Int) (ho:op=32∨op=33):XC 83 [] (⟨g,m,ar,⟨op,arg,t0⟩⟩:RC) (qm g m op) uV l:=by
 let c:RC:=⟨g,m,ar,⟨op,arg,t0⟩⟩
 rcases ho with rfl|rfl
 all_goals
  intro u;refine zF zf Tryz.func83 rfl (by kernel_rfl) Tryz.ntmps83 (by simp) _ rfl (fun gB hw1=>?_)
  cases hS1:(qU) l with
  | error e =>
   have hw:(qm g m c.x.op) l=.error e:=by simp [qm,c,zx,zA,hS1]
   repeat' (first|refine zq 32 1 rfl rfl rfl ?_|refine zD ((yN u c l)) zi rfl rfl rfl tH ((Yx c _ (by omega)).bad hS1 u) ?_|(refine shC ?_;first|refine qC (zM 2) ?_)|refine sK ?_|refine sC (fun _=>?_) (fun _=>?_)|fail)
   exact zy hw
  | ok p =>
   obtain ⟨t,l1⟩:=p
   have hl1:l1.length≤100:=by have:=zaL hS1;omega
   cases hS2:(yR m.max [kTy 2]) l1 with
   | error e =>
    have hw:(qm g m c.x.op) l=.error e:=by simp [qm,c,zx,zA,hS1,hS2]
    repeat' (first|refine zq 33 3 rfl rfl rfl ?_|refine zD ((yN u c l1)) zi rfl rfl rfl tH ((zS c [kTy 2] _ (by omega) (by simp)).bad hS2 u) ?_|(refine shC ?_;first|refine qC (zM 2) ?_)|(refine zu ?_;first|(refine zo 0 zi rfl rfl ((Yx c _ (by omega)).ok hS1) rfl rfl rfl rfl rfl ?_))|refine sK ?_|refine sC (fun _=>?_) (fun _=>?_)|fail)
    exact zy hw
   | ok p =>
    obtain ⟨⟨⟩,l2⟩:=p
    have hw:(qm g m c.x.op) l=.ok ((),l2):=by simp [qm,c,zx,zA,hS1,hS2]
    repeat' (first|(refine shC ?_;first|refine qC (zM 2) ?_)|(refine zu ?_;first|(refine zo 0 zi rfl rfl ((Yx c _ (by omega)).ok hS1) rfl rfl rfl rfl rfl ?_)|(refine zo 0 zi rfl rfl ((zS c [kTy 2] _ (by omega) (by simp)).ok hS2) rfl rfl rfl rfl rfl ?_))|refine sK ?_|refine sC (fun _=>?_) (fun _=>?_)|fail)
    exact zV hw (yC (.inl rfl) tH)
set_option maxHeartbeats 20000000
theorem zq3 (g:Img) (hF:Fm g) (m:Me) (ar:List Ty) (arg:Int) (t0:Ty) (l:List Ty) (hl:l.length≤100) (op:Int) (ho:op=35∨op=36):XC 84 [] (⟨g,m,ar,⟨op,arg,t0⟩⟩:RC) (Ze op) uV l:=by
 let c:RC:=⟨g,m,ar,⟨op,arg,t0⟩⟩
 rcases ho with rfl|rfl
 all_goals
  intro u;refine zF zf Tryz.func84 rfl (by kernel_rfl) Tryz.ntmps84 (by simp) _ rfl (fun gB hw1=>?_)
  cases hS1:(Yk) l with
  | error e =>
   have hw:(Ze c.x.op) l=.error e:=by simp [Ze,c,zx,zA,hS1]
   repeat' (first|refine zq 3 1 rfl rfl rfl ?_|refine zD ((yN u c l)) zi rfl rfl rfl tH ((yj c _ (by omega)).bad hS1 u) ?_|refine sK ?_|refine sC (fun _=>?_) (fun _=>?_)|fail)
   exact zy hw
  | ok p =>
   obtain ⟨t,l1⟩:=p
   have hl1:l1.length≤100:=by have:=Xb hS1;omega
   have cn:=zbc t
   have co:=Za t
   cases hC3:(nuT t)
   ·rw [hC3] at cn
    cases hC4:(object t)
    ·rw [hC4] at co
     have hw:(Ze c.x.op) l=.error 10:=by simp [Ze,c,zx,zA,hS1,hC3,hC4,zI,emptyS]
     repeat' (first|refine zq 4 6 rfl rfl rfl ?_|refine zD ([]) zi rfl rfl rfl tH (zZ (by first|rfl|assumption|simp [hC3,hC4]) 10) ?_|(refine shC ?_;first|refine qC cn ?_|refine qC co ?_)|(refine zu ?_;first|(refine zo 0 zi rfl rfl ((yj c _ (by omega)).ok hS1) rfl rfl rfl rfl rfl ?_))|refine sK ?_|refine sC (fun _=>?_) (fun _=>?_)|fail)
     exact zy hw
    ·rw [hC4] at co
     have hw:(Ze c.x.op) l=.ok ((),l1):=by simp [Ze,c,zx,zA,hS1,hC3,hC4,zI,emptyS]
     repeat' (first|(refine shC ?_;first|refine qC cn ?_|refine qC co ?_|refine zB rfl (zG rfl rfl (zC (by first|rfl|assumption|simp [hC3,hC4]) 10)) rfl rfl ?_|refine AD.step _ _ _ _ _ rfl (zG rfl rfl (zC (by first|rfl|assumption|simp [hC3,hC4]) 10)) rfl rfl ?_)|(refine zu ?_;first|(refine zo 0 zi rfl rfl ((yj c _ (by omega)).ok hS1) rfl rfl rfl rfl rfl ?_))|refine sK ?_|refine sC (fun _=>?_) (fun _=>?_)|fail)
     exact zV hw (yC (.inl rfl) tH)
   ·rw [hC3] at cn
    have hw:(Ze c.x.op) l=.ok ((),l1):=by simp [Ze,c,zx,zA,hS1,hC3,zI,emptyS]
    repeat' (first|(refine shC ?_;first|refine qC cn ?_|refine zB rfl (zG rfl rfl (zC (by first|rfl|assumption|simp [hC3]) 10)) rfl rfl ?_|refine AD.step _ _ _ _ _ rfl (zG rfl rfl (zC (by first|rfl|assumption|simp [hC3]) 10)) rfl rfl ?_)|(refine zu ?_;first|(refine zo 0 zi rfl rfl ((yj c _ (by omega)).ok hS1) rfl rfl rfl rfl rfl ?_))|refine sK ?_|refine sC (fun _=>?_) (fun _=>?_)|fail)
    exact zV hw (yC (.inl rfl) tH)
theorem zrG (g:Img) (hF:Fm g) (m:Me) (ar:List Ty) (arg:Int) (t0:Ty) (l:List Ty) (hl:l.length≤100) (op:Int) (ho:op=37∨op=42):XC 84 [] (⟨g,m,ar,⟨op,arg,t0⟩⟩:RC) (Ze op) uV l:=by
 let c:RC:=⟨g,m,ar,⟨op,arg,t0⟩⟩
 rcases ho with rfl|rfl
 all_goals
  intro u;refine zF zf Tryz.func84 rfl (by kernel_rfl) Tryz.ntmps84 (by simp) _ rfl (fun gB hw1=>?_)
  cases hS1:(qN) l with
  | error e =>
   have hw:(Ze c.x.op) l=.error e:=by simp [Ze,c,zx,zA,hS1]
   repeat' (first|refine zq 7 1 rfl rfl rfl ?_|refine zD ((yN u c l)) zi rfl rfl rfl tH ((WV c _ (by omega)).bad hS1 u) ?_|refine sK ?_|refine sC (fun _=>?_) (fun _=>?_)|fail)
   exact zy hw
  | ok p =>
   obtain ⟨⟨⟩,l1⟩:=p
   have hl1:l1.length≤100:=by have:=zdv hS1;omega
   have hw:(Ze c.x.op) l=.ok ((),l1):=by simp [Ze,c,zx,zA,hS1]
   repeat' (first|(refine zu ?_;first|(refine zo 0 zi rfl rfl ((WV c _ (by omega)).ok hS1) rfl rfl rfl rfl rfl ?_))|refine sK ?_|refine sC (fun _=>?_) (fun _=>?_)|fail)
   exact zV hw (yC (.inl rfl) tH)
theorem zrD (g:Img) (hF:Fm g) (m:Me) (ar:List Ty) (arg:Int) (t0:Ty) (l:List Ty) (hl:l.length≤100) (op:Int) (ho:op=38∨op=39∨op=40∨op=41):XC 84 [] (⟨g,m,ar,⟨op,arg,t0⟩⟩:RC) (Ze op) uV l:=by
 let c:RC:=⟨g,m,ar,⟨op,arg,t0⟩⟩
 rcases ho with rfl|rfl|rfl|rfl
 all_goals
  intro u;refine zF zf Tryz.func84 rfl (by kernel_rfl) Tryz.ntmps84 (by simp) _ rfl (fun gB hw1=>?_)
  cases hS1:(qU) l with
  | error e =>
   have hw:(Ze c.x.op) l=.error e:=by simp [Ze,c,zx,zA,hS1]
   repeat' (first|refine zq 12 1 rfl rfl rfl ?_|refine zD ((yN u c l)) zi rfl rfl rfl tH ((Yx c _ (by omega)).bad hS1 u) ?_|refine sK ?_|refine sC (fun _=>?_) (fun _=>?_)|fail)
   exact zy hw
  | ok p =>
   obtain ⟨t,l1⟩:=p
   have hl1:l1.length≤100:=by have:=zaL hS1;omega
   have hw:(Ze c.x.op) l=.ok ((),l1):=by simp [Ze,c,zx,zA,hS1]
   repeat' (first|(refine zu ?_;first|(refine zo 0 zi rfl rfl ((Yx c _ (by omega)).ok hS1) rfl rfl rfl rfl rfl ?_))|refine sK ?_|refine sC (fun _=>?_) (fun _=>?_)|fail)
   exact zV hw (yC (.inl rfl) tH)
theorem zqs (g:Img) (hF:Fm g) (m:Me) (ar:List Ty) (arg:Int) (t0:Ty) (l:List Ty) (hl:l.length≤100):XC 84 [] (⟨g,m,ar,⟨34,arg,t0⟩⟩:RC) (Ze 34) uV l:=by
 intro u;refine zF zf Tryz.func84 rfl (by kernel_rfl) Tryz.ntmps84 (by simp) _ rfl (fun gB hw1=>?_)
 have hw:(Ze 34) l=.ok ((),l):=by simp [Ze,zx,zA]
 repeat' (first|refine sK ?_|refine sC (fun _=>?_) (fun _=>?_)|fail)
 exact zV hw (yC (.inl rfl) tH)
theorem zmI (g:Img) (hF:Fm g) (m:Me) (ar:List Ty) (arg:Int) (t0:Ty) (l:List Ty) (hl:l.length≤100):XC 89 [] (⟨g,m,ar,⟨62,arg,t0⟩⟩:RC) (yw g m ⟨62,arg,t0⟩) uV l:=by
 intro u;refine zF zf Tryz.func89 rfl (by kernel_rfl) Tryz.ntmps89 (by simp) _ rfl (fun gB hw1=>?_)
 have co:=Za t0
 have cb:=zbG t0
 have cr:=ZR t0
 cases hC1:(zff t0)
 ·rw [hC1] at cb
  have hw:(yw g m ⟨62,arg,t0⟩) l=.error 8:=by simp [yw,zx,zA,hC1,zI,emptyS]
  repeat' (first|refine zq 2 13 rfl rfl rfl ?_|refine zD ([]) zi rfl rfl rfl tH (zZ (by first|rfl|assumption|simp [hC1]) 8) ?_|refine zB rfl (zn (ps:=(yO t0)) zf rfl rfl rfl rfl rfl) rfl rfl ?_|refine AD.step _ _ _ _ _ rfl (zn (ps:=(yO t0)) zf rfl rfl rfl rfl rfl) rfl rfl ?_|(refine shC ?_;first|refine qC cb ?_|refine qC (zM 4) ?_)|refine sK ?_|refine sC (fun _=>?_) (fun _=>?_)|fail)
  exact zy hw
 ·rw [hC1] at cb
  cases hS3:(Yo g t0) l with
  | error e =>
   have hw:(yw g m ⟨62,arg,t0⟩) l=.error e:=by simp [yw,zx,zA,hC1,zI,emptyS,hS3]
   repeat' (first|refine zq 4 2 rfl rfl rfl ?_|refine zD ((yN u ⟨g,m,ar,⟨62,arg,t0⟩⟩ l)) zi rfl rfl rfl tH ((qj ⟨g,m,ar,⟨62,arg,t0⟩⟩ hF t0 _ (by omega)).bad hS3 u) ?_|refine zB rfl (zn (ps:=(yO t0)) zf rfl rfl rfl rfl rfl) rfl rfl ?_|refine AD.step _ _ _ _ _ rfl (zn (ps:=(yO t0)) zf rfl rfl rfl rfl rfl) rfl rfl ?_|(refine shC ?_;first|refine qC cb ?_|refine zB rfl (zG rfl rfl (zC (by first|rfl|assumption|simp [hC1]) 8)) rfl rfl ?_|refine AD.step _ _ _ _ _ rfl (zG rfl rfl (zC (by first|rfl|assumption|simp [hC1]) 8)) rfl rfl ?_|refine qC (zM 4) ?_)|refine sK ?_|refine sC (fun _=>?_) (fun _=>?_)|fail)
   exact zy hw
  | ok p =>
   obtain ⟨⟨⟩,l3⟩:=p
   have hl3:l3.length≤100:=by have:=WO hS3;omega
   cases hS4:(yR m.max [kTy 4]) l3 with
   | error e =>
    have hw:(yw g m ⟨62,arg,t0⟩) l=.error e:=by simp [yw,zx,zA,hC1,zI,emptyS,hS3,hS4]
    repeat' (first|refine zq 5 3 rfl rfl rfl ?_|refine zD ((yN u ⟨g,m,ar,⟨62,arg,t0⟩⟩ l3)) zi rfl rfl rfl tH ((zS ⟨g,m,ar,⟨62,arg,t0⟩⟩ [kTy 4] _ (by omega) (by simp)).bad hS4 u) ?_|refine zB rfl (zn (ps:=(yO t0)) zf rfl rfl rfl rfl rfl) rfl rfl ?_|refine AD.step _ _ _ _ _ rfl (zn (ps:=(yO t0)) zf rfl rfl rfl rfl rfl) rfl rfl ?_|(refine shC ?_;first|refine qC cb ?_|refine zB rfl (zG rfl rfl (zC (by first|rfl|assumption|simp [hC1]) 8)) rfl rfl ?_|refine AD.step _ _ _ _ _ rfl (zG rfl rfl (zC (by first|rfl|assumption|simp [hC1]) 8)) rfl rfl ?_|refine qC (zM 4) ?_)|(refine zu ?_;first|(refine zo 0 zi rfl rfl ((qj ⟨g,m,ar,⟨62,arg,t0⟩⟩ hF t0 _ (by omega)).ok hS3) rfl rfl rfl rfl rfl ?_))|refine sK ?_|refine sC (fun _=>?_) (fun _=>?_)|fail)
    exact zy hw
   | ok p =>
    obtain ⟨⟨⟩,l4⟩:=p
    have hw:(yw g m ⟨62,arg,t0⟩) l=.ok ((),l4):=by simp [yw,zx,zA,hC1,zI,emptyS,hS3,hS4]
    repeat' (first|refine zB rfl (zn (ps:=(yO t0)) zf rfl rfl rfl rfl rfl) rfl rfl ?_|refine AD.step _ _ _ _ _ rfl (zn (ps:=(yO t0)) zf rfl rfl rfl rfl rfl) rfl rfl ?_|(refine shC ?_;first|refine qC cb ?_|refine zB rfl (zG rfl rfl (zC (by first|rfl|assumption|simp [hC1]) 8)) rfl rfl ?_|refine AD.step _ _ _ _ _ rfl (zG rfl rfl (zC (by first|rfl|assumption|simp [hC1]) 8)) rfl rfl ?_|refine qC (zM 4) ?_)|(refine zu ?_;first|(refine zo 0 zi rfl rfl ((qj ⟨g,m,ar,⟨62,arg,t0⟩⟩ hF t0 _ (by omega)).ok hS3) rfl rfl rfl rfl rfl ?_)|(refine zo 0 zi rfl rfl ((zS ⟨g,m,ar,⟨62,arg,t0⟩⟩ [kTy 4] _ (by omega) (by simp)).ok hS4) rfl rfl rfl rfl rfl ?_))|refine sK ?_|refine sC (fun _=>?_) (fun _=>?_)|fail)
    exact zV hw (yC (.inr rfl) tH)
theorem znM (g:Img) (hF:Fm g) (m:Me) (ar:List Ty) (arg:Int) (t0:Ty) (l:List Ty) (hl:l.length≤100):XC 89 [] (⟨g,m,ar,⟨63,arg,t0⟩⟩:RC) (yw g m ⟨63,arg,t0⟩) uV l:=by
 intro u;refine zF zf Tryz.func89 rfl (by kernel_rfl) Tryz.ntmps89 (by simp) _ rfl (fun gB hw1=>?_)
 have co:=Za t0
 have cb:=zbG t0
 have cr:=ZR t0
 cases hC1:(zff t0)
 ·rw [hC1] at cb
  have hw:(yw g m ⟨63,arg,t0⟩) l=.error 8:=by simp [yw,zx,zA,hC1,zI,emptyS]
  repeat' (first|refine zq 2 13 rfl rfl rfl ?_|refine zD ([]) zi rfl rfl rfl tH (zZ (by first|rfl|assumption|simp [hC1]) 8) ?_|refine zB rfl (zn (ps:=(yO t0)) zf rfl rfl rfl rfl rfl) rfl rfl ?_|refine AD.step _ _ _ _ _ rfl (zn (ps:=(yO t0)) zf rfl rfl rfl rfl rfl) rfl rfl ?_|(refine shC ?_;first|refine qC cb ?_|refine qC cr ?_)|refine sK ?_|refine sC (fun _=>?_) (fun _=>?_)|fail)
  exact zy hw
 ·rw [hC1] at cb
  cases hS3:(Yk) l with
  | error e =>
   have hw:(yw g m ⟨63,arg,t0⟩) l=.error e:=by simp [yw,zx,zA,hC1,zI,emptyS,hS3]
   repeat' (first|refine zq 6 1 rfl rfl rfl ?_|refine zD ((yN u ⟨g,m,ar,⟨63,arg,t0⟩⟩ l)) zi rfl rfl rfl tH ((yj ⟨g,m,ar,⟨63,arg,t0⟩⟩ _ (by omega)).bad hS3 u) ?_|refine zB rfl (zn (ps:=(yO t0)) zf rfl rfl rfl rfl rfl) rfl rfl ?_|refine AD.step _ _ _ _ _ rfl (zn (ps:=(yO t0)) zf rfl rfl rfl rfl rfl) rfl rfl ?_|(refine shC ?_;first|refine qC cb ?_|refine zB rfl (zG rfl rfl (zC (by first|rfl|assumption|simp [hC1]) 8)) rfl rfl ?_|refine AD.step _ _ _ _ _ rfl (zG rfl rfl (zC (by first|rfl|assumption|simp [hC1]) 8)) rfl rfl ?_|refine qC cr ?_)|refine sK ?_|refine sC (fun _=>?_) (fun _=>?_)|fail)
   exact zy hw
  | ok p =>
   obtain ⟨t,l3⟩:=p
   have hl3:l3.length≤100:=by have:=Xb hS3;omega
   have cx:=Za t
   cases hC5:(object t)
   ·rw [hC5] at cx
    have hw:(yw g m ⟨63,arg,t0⟩) l=.error 10:=by simp [yw,zx,zA,hC1,zI,emptyS,hS3,hC5,zI,emptyS]
    repeat' (first|refine zq 6 3 rfl rfl rfl ?_|refine zD ([]) zi rfl rfl rfl tH (zZ (by first|rfl|assumption|simp [hC1,hC5]) 10) ?_|refine zB rfl (zn (ps:=(yO t0)) zf rfl rfl rfl rfl rfl) rfl rfl ?_|refine AD.step _ _ _ _ _ rfl (zn (ps:=(yO t0)) zf rfl rfl rfl rfl rfl) rfl rfl ?_|(refine shC ?_;first|refine qC cb ?_|refine zB rfl (zG rfl rfl (zC (by first|rfl|assumption|simp [hC1]) 8)) rfl rfl ?_|refine AD.step _ _ _ _ _ rfl (zG rfl rfl (zC (by first|rfl|assumption|simp [hC1]) 8)) rfl rfl ?_|refine qC cx ?_|refine qC cr ?_)|(refine zu ?_;first|(refine zo 0 zi rfl rfl ((yj ⟨g,m,ar,⟨63,arg,t0⟩⟩ _ (by omega)).ok hS3) rfl rfl rfl rfl rfl ?_))|refine sK ?_|refine sC (fun _=>?_) (fun _=>?_)|fail)
    exact zy hw
   ·rw [hC5] at cx
    cases hS7:(yR m.max [rfT t0]) l3 with
    | error e =>
     have hw:(yw g m ⟨63,arg,t0⟩) l=.error e:=by simp [yw,zx,zA,hC1,zI,emptyS,hS3,hC5,zI,emptyS,hS7]
     repeat' (first|refine zq 9 3 rfl rfl rfl ?_|refine zD ((yN u ⟨g,m,ar,⟨63,arg,t0⟩⟩ l3)) zi rfl rfl rfl tH ((zS ⟨g,m,ar,⟨63,arg,t0⟩⟩ [rfT t0] _ (by omega) (by simp)).bad hS7 u) ?_|refine zB rfl (zn (ps:=(yO t0)) zf rfl rfl rfl rfl rfl) rfl rfl ?_|refine AD.step _ _ _ _ _ rfl (zn (ps:=(yO t0)) zf rfl rfl rfl rfl rfl) rfl rfl ?_|(refine shC ?_;first|refine qC cb ?_|refine zB rfl (zG rfl rfl (zC (by first|rfl|assumption|simp [hC1]) 8)) rfl rfl ?_|refine AD.step _ _ _ _ _ rfl (zG rfl rfl (zC (by first|rfl|assumption|simp [hC1]) 8)) rfl rfl ?_|refine qC cx ?_|refine zB rfl (zG rfl rfl (zC (by first|rfl|assumption|simp [hC1,hC5]) 10)) rfl rfl ?_|refine AD.step _ _ _ _ _ rfl (zG rfl rfl (zC (by first|rfl|assumption|simp [hC1,hC5]) 10)) rfl rfl ?_|refine qC cr ?_)|(refine zu ?_;first|(refine zo 0 zi rfl rfl ((yj ⟨g,m,ar,⟨63,arg,t0⟩⟩ _ (by omega)).ok hS3) rfl rfl rfl rfl rfl ?_))|refine sK ?_|refine sC (fun _=>?_) (fun _=>?_)|fail)
     exact zy hw
    | ok p =>
     obtain ⟨⟨⟩,l7⟩:=p
     have hw:(yw g m ⟨63,arg,t0⟩) l=.ok ((),l7):=by simp [yw,zx,zA,hC1,zI,emptyS,hS3,hC5,zI,emptyS,hS7]
     repeat' (first|refine zB rfl (zn (ps:=(yO t0)) zf rfl rfl rfl rfl rfl) rfl rfl ?_|refine AD.step _ _ _ _ _ rfl (zn (ps:=(yO t0)) zf rfl rfl rfl rfl rfl) rfl rfl ?_|(refine shC ?_;first|refine qC cb ?_|refine zB rfl (zG rfl rfl (zC (by first|rfl|assumption|simp [hC1]) 8)) rfl rfl ?_|refine AD.step _ _ _ _ _ rfl (zG rfl rfl (zC (by first|rfl|assumption|simp [hC1]) 8)) rfl rfl ?_|refine qC cx ?_|refine zB rfl (zG rfl rfl (zC (by first|rfl|assumption|simp [hC1,hC5]) 10)) rfl rfl ?_|refine AD.step _ _ _ _ _ rfl (zG rfl rfl (zC (by first|rfl|assumption|simp [hC1,hC5]) 10)) rfl rfl ?_|refine qC cr ?_)|(refine zu ?_;first|(refine zo 0 zi rfl rfl ((yj ⟨g,m,ar,⟨63,arg,t0⟩⟩ _ (by omega)).ok hS3) rfl rfl rfl rfl rfl ?_)|(refine zo 0 zi rfl rfl ((zS ⟨g,m,ar,⟨63,arg,t0⟩⟩ [rfT t0] _ (by omega) (by simp)).ok hS7) rfl rfl rfl rfl rfl ?_))|refine sK ?_|refine sC (fun _=>?_) (fun _=>?_)|fail)
     exact zV hw (yC (.inl rfl) tH)
theorem zm5 (g:Img) (hF:Fm g) (m:Me) (ar:List Ty) (arg:Int) (t0:Ty) (l:List Ty) (hl:l.length≤100):XC 89 [] (⟨g,m,ar,⟨64,arg,t0⟩⟩:RC) (yw g m ⟨64,arg,t0⟩) uV l:=by
 intro u;refine zF zf Tryz.func89 rfl (by kernel_rfl) Tryz.ntmps89 (by simp) _ rfl (fun gB hw1=>?_)
 have co:=Za t0
 have cb:=zbG t0
 have cr:=ZR t0
 cases hC1:(zff t0)
 ·rw [hC1] at cb
  have hw:(yw g m ⟨64,arg,t0⟩) l=.error 8:=by simp [yw,zx,zA,hC1,zI,emptyS]
  repeat' (first|refine zq 2 13 rfl rfl rfl ?_|refine zD ([]) zi rfl rfl rfl tH (zZ (by first|rfl|assumption|simp [hC1]) 8) ?_|refine zB rfl (zn (ps:=(yO t0)) zf rfl rfl rfl rfl rfl) rfl rfl ?_|refine AD.step _ _ _ _ _ rfl (zn (ps:=(yO t0)) zf rfl rfl rfl rfl rfl) rfl rfl ?_|(refine shC ?_;first|refine qC cb ?_)|refine sK ?_|refine sC (fun _=>?_) (fun _=>?_)|fail)
  exact zy hw
 ·rw [hC1] at cb
  cases hS3:(Yk) l with
  | error e =>
   have hw:(yw g m ⟨64,arg,t0⟩) l=.error e:=by simp [yw,zx,zA,hC1,zI,emptyS,hS3]
   repeat' (first|refine zq 6 1 rfl rfl rfl ?_|refine zD ((yN u ⟨g,m,ar,⟨64,arg,t0⟩⟩ l)) zi rfl rfl rfl tH ((yj ⟨g,m,ar,⟨64,arg,t0⟩⟩ _ (by omega)).bad hS3 u) ?_|refine zB rfl (zn (ps:=(yO t0)) zf rfl rfl rfl rfl rfl) rfl rfl ?_|refine AD.step _ _ _ _ _ rfl (zn (ps:=(yO t0)) zf rfl rfl rfl rfl rfl) rfl rfl ?_|(refine shC ?_;first|refine qC cb ?_|refine zB rfl (zG rfl rfl (zC (by first|rfl|assumption|simp [hC1]) 8)) rfl rfl ?_|refine AD.step _ _ _ _ _ rfl (zG rfl rfl (zC (by first|rfl|assumption|simp [hC1]) 8)) rfl rfl ?_)|refine sK ?_|refine sC (fun _=>?_) (fun _=>?_)|fail)
   exact zy hw
  | ok p =>
   obtain ⟨t,l3⟩:=p
   have hl3:l3.length≤100:=by have:=Xb hS3;omega
   have cx:=Za t
   cases hC5:(object t)
   ·rw [hC5] at cx
    have hw:(yw g m ⟨64,arg,t0⟩) l=.error 10:=by simp [yw,zx,zA,hC1,zI,emptyS,hS3,hC5,zI,emptyS]
    repeat' (first|refine zq 6 3 rfl rfl rfl ?_|refine zD ([]) zi rfl rfl rfl tH (zZ (by first|rfl|assumption|simp [hC1,hC5]) 10) ?_|refine zB rfl (zn (ps:=(yO t0)) zf rfl rfl rfl rfl rfl) rfl rfl ?_|refine AD.step _ _ _ _ _ rfl (zn (ps:=(yO t0)) zf rfl rfl rfl rfl rfl) rfl rfl ?_|(refine shC ?_;first|refine qC cb ?_|refine zB rfl (zG rfl rfl (zC (by first|rfl|assumption|simp [hC1]) 8)) rfl rfl ?_|refine AD.step _ _ _ _ _ rfl (zG rfl rfl (zC (by first|rfl|assumption|simp [hC1]) 8)) rfl rfl ?_|refine qC cx ?_)|(refine zu ?_;first|(refine zo 0 zi rfl rfl ((yj ⟨g,m,ar,⟨64,arg,t0⟩⟩ _ (by omega)).ok hS3) rfl rfl rfl rfl rfl ?_))|refine sK ?_|refine sC (fun _=>?_) (fun _=>?_)|fail)
    exact zy hw
   ·rw [hC5] at cx
    cases hS7:(yR m.max [t0]) l3 with
    | error e =>
     have hw:(yw g m ⟨64,arg,t0⟩) l=.error e:=by simp [yw,zx,zA,hC1,zI,emptyS,hS3,hC5,zI,emptyS,hS7]
     repeat' (first|refine zq 9 3 rfl rfl rfl ?_|refine zD ((yN u ⟨g,m,ar,⟨64,arg,t0⟩⟩ l3)) zi rfl rfl rfl tH ((zS ⟨g,m,ar,⟨64,arg,t0⟩⟩ [t0] _ (by omega) (by simp)).bad hS7 u) ?_|refine zB rfl (zn (ps:=(yO t0)) zf rfl rfl rfl rfl rfl) rfl rfl ?_|refine AD.step _ _ _ _ _ rfl (zn (ps:=(yO t0)) zf rfl rfl rfl rfl rfl) rfl rfl ?_|(refine shC ?_;first|refine qC cb ?_|refine zB rfl (zG rfl rfl (zC (by first|rfl|assumption|simp [hC1]) 8)) rfl rfl ?_|refine AD.step _ _ _ _ _ rfl (zG rfl rfl (zC (by first|rfl|assumption|simp [hC1]) 8)) rfl rfl ?_|refine qC cx ?_|refine zB rfl (zG rfl rfl (zC (by first|rfl|assumption|simp [hC1,hC5]) 10)) rfl rfl ?_|refine AD.step _ _ _ _ _ rfl (zG rfl rfl (zC (by first|rfl|assumption|simp [hC1,hC5]) 10)) rfl rfl ?_)|(refine zu ?_;first|(refine zo 0 zi rfl rfl ((yj ⟨g,m,ar,⟨64,arg,t0⟩⟩ _ (by omega)).ok hS3) rfl rfl rfl rfl rfl ?_))|refine sK ?_|refine sC (fun _=>?_) (fun _=>?_)|fail)
     exact zy hw
    | ok p =>
     obtain ⟨⟨⟩,l7⟩:=p
     have hw:(yw g m ⟨64,arg,t0⟩) l=.ok ((),l7):=by simp [yw,zx,zA,hC1,zI,emptyS,hS3,hC5,zI,emptyS,hS7]
     repeat' (first|refine zB rfl (zn (ps:=(yO t0)) zf rfl rfl rfl rfl rfl) rfl rfl ?_|refine AD.step _ _ _ _ _ rfl (zn (ps:=(yO t0)) zf rfl rfl rfl rfl rfl) rfl rfl ?_|(refine shC ?_;first|refine qC cb ?_|refine zB rfl (zG rfl rfl (zC (by first|rfl|assumption|simp [hC1]) 8)) rfl rfl ?_|refine AD.step _ _ _ _ _ rfl (zG rfl rfl (zC (by first|rfl|assumption|simp [hC1]) 8)) rfl rfl ?_|refine qC cx ?_|refine zB rfl (zG rfl rfl (zC (by first|rfl|assumption|simp [hC1,hC5]) 10)) rfl rfl ?_|refine AD.step _ _ _ _ _ rfl (zG rfl rfl (zC (by first|rfl|assumption|simp [hC1,hC5]) 10)) rfl rfl ?_)|(refine zu ?_;first|(refine zo 0 zi rfl rfl ((yj ⟨g,m,ar,⟨64,arg,t0⟩⟩ _ (by omega)).ok hS3) rfl rfl rfl rfl rfl ?_)|(refine zo 0 zi rfl rfl ((zS ⟨g,m,ar,⟨64,arg,t0⟩⟩ [t0] _ (by omega) (by simp)).ok hS7) rfl rfl rfl rfl rfl ?_))|refine sK ?_|refine sC (fun _=>?_) (fun _=>?_)|fail)
     exact zV hw (yC (.inl rfl) tH)
theorem znq (g:Img) (hF:Fm g) (m:Me) (ar:List Ty) (arg:Int) (t0:Ty) (l:List Ty) (hl:l.length≤100) (op:Int) (ho:op=65∨op=66):XC 89 [] (⟨g,m,ar,⟨op,arg,t0⟩⟩:RC) (yw g m ⟨op,arg,t0⟩) uV l:=by
 let c:RC:=⟨g,m,ar,⟨op,arg,t0⟩⟩
 rcases ho with rfl|rfl
 all_goals
  intro u;refine zF zf Tryz.func89 rfl (by kernel_rfl) Tryz.ntmps89 (by simp) _ rfl (fun gB hw1=>?_)
  have co:=Za t0
  have cb:=zbG t0
  have cr:=ZR t0
  cases hC1:(object t0)
  ·rw [hC1] at co
   have hw:(yw g m ⟨c.x.op,arg,t0⟩) l=.error 8:=by simp [yw,c,zx,zA,hC1,zI,emptyS]
   repeat' (first|refine zq 2 13 rfl rfl rfl ?_|refine zD ([]) zi rfl rfl rfl tH (zZ (by first|rfl|assumption|simp [hC1]) 8) ?_|refine zB rfl (zn (ps:=(yO t0)) zf rfl rfl rfl rfl rfl) rfl rfl ?_|refine AD.step _ _ _ _ _ rfl (zn (ps:=(yO t0)) zf rfl rfl rfl rfl rfl) rfl rfl ?_|(refine shC ?_;first|refine qC co ?_)|refine sK ?_|refine sC (fun _=>?_) (fun _=>?_)|fail)
   exact zy hw
  ·rw [hC1] at co
   cases hS3:(Yk) l with
   | error e =>
    have hw:(yw g m ⟨c.x.op,arg,t0⟩) l=.error e:=by simp [yw,c,zx,zA,hC1,zI,emptyS,hS3]
    repeat' (first|refine zq 6 1 rfl rfl rfl ?_|refine zD ((yN u c l)) zi rfl rfl rfl tH ((yj c _ (by omega)).bad hS3 u) ?_|refine zB rfl (zn (ps:=(yO t0)) zf rfl rfl rfl rfl rfl) rfl rfl ?_|refine AD.step _ _ _ _ _ rfl (zn (ps:=(yO t0)) zf rfl rfl rfl rfl rfl) rfl rfl ?_|(refine shC ?_;first|refine qC co ?_|refine zB rfl (zG rfl rfl (zC (by first|rfl|assumption|simp [hC1]) 8)) rfl rfl ?_|refine AD.step _ _ _ _ _ rfl (zG rfl rfl (zC (by first|rfl|assumption|simp [hC1]) 8)) rfl rfl ?_)|refine sK ?_|refine sC (fun _=>?_) (fun _=>?_)|fail)
    exact zy hw
   | ok p =>
    obtain ⟨t,l3⟩:=p
    have hl3:l3.length≤100:=by have:=Xb hS3;omega
    have cx:=Za t
    cases hC5:(object t)
    ·rw [hC5] at cx
     have hw:(yw g m ⟨c.x.op,arg,t0⟩) l=.error 10:=by simp [yw,c,zx,zA,hC1,zI,emptyS,hS3,hC5,zI,emptyS]
     repeat' (first|refine zq 6 3 rfl rfl rfl ?_|refine zD ([]) zi rfl rfl rfl tH (zZ (by first|rfl|assumption|simp [hC1,hC5]) 10) ?_|refine zB rfl (zn (ps:=(yO t0)) zf rfl rfl rfl rfl rfl) rfl rfl ?_|refine AD.step _ _ _ _ _ rfl (zn (ps:=(yO t0)) zf rfl rfl rfl rfl rfl) rfl rfl ?_|(refine shC ?_;first|refine qC co ?_|refine zB rfl (zG rfl rfl (zC (by first|rfl|assumption|simp [hC1]) 8)) rfl rfl ?_|refine AD.step _ _ _ _ _ rfl (zG rfl rfl (zC (by first|rfl|assumption|simp [hC1]) 8)) rfl rfl ?_|refine qC cx ?_)|(refine zu ?_;first|(refine zo 0 zi rfl rfl ((yj c _ (by omega)).ok hS3) rfl rfl rfl rfl rfl ?_))|refine sK ?_|refine sC (fun _=>?_) (fun _=>?_)|fail)
     exact zy hw
    ·rw [hC5] at cx
     cases hS7:(yR m.max [t0]) l3 with
     | error e =>
      have hw:(yw g m ⟨c.x.op,arg,t0⟩) l=.error e:=by simp [yw,c,zx,zA,hC1,zI,emptyS,hS3,hC5,zI,emptyS,hS7]
      repeat' (first|refine zq 9 3 rfl rfl rfl ?_|refine zD ((yN u c l3)) zi rfl rfl rfl tH ((zS c [t0] _ (by omega) (by simp)).bad hS7 u) ?_|refine zB rfl (zn (ps:=(yO t0)) zf rfl rfl rfl rfl rfl) rfl rfl ?_|refine AD.step _ _ _ _ _ rfl (zn (ps:=(yO t0)) zf rfl rfl rfl rfl rfl) rfl rfl ?_|(refine shC ?_;first|refine qC co ?_|refine zB rfl (zG rfl rfl (zC (by first|rfl|assumption|simp [hC1]) 8)) rfl rfl ?_|refine AD.step _ _ _ _ _ rfl (zG rfl rfl (zC (by first|rfl|assumption|simp [hC1]) 8)) rfl rfl ?_|refine qC cx ?_|refine zB rfl (zG rfl rfl (zC (by first|rfl|assumption|simp [hC1,hC5]) 10)) rfl rfl ?_|refine AD.step _ _ _ _ _ rfl (zG rfl rfl (zC (by first|rfl|assumption|simp [hC1,hC5]) 10)) rfl rfl ?_)|(refine zu ?_;first|(refine zo 0 zi rfl rfl ((yj c _ (by omega)).ok hS3) rfl rfl rfl rfl rfl ?_))|refine sK ?_|refine sC (fun _=>?_) (fun _=>?_)|fail)
      exact zy hw
     | ok p =>
      obtain ⟨⟨⟩,l7⟩:=p
      have hw:(yw g m ⟨c.x.op,arg,t0⟩) l=.ok ((),l7):=by simp [yw,c,zx,zA,hC1,zI,emptyS,hS3,hC5,zI,emptyS,hS7]
      repeat' (first|refine zB rfl (zn (ps:=(yO t0)) zf rfl rfl rfl rfl rfl) rfl rfl ?_|refine AD.step _ _ _ _ _ rfl (zn (ps:=(yO t0)) zf rfl rfl rfl rfl rfl) rfl rfl ?_|(refine shC ?_;first|refine qC co ?_|refine zB rfl (zG rfl rfl (zC (by first|rfl|assumption|simp [hC1]) 8)) rfl rfl ?_|refine AD.step _ _ _ _ _ rfl (zG rfl rfl (zC (by first|rfl|assumption|simp [hC1]) 8)) rfl rfl ?_|refine qC cx ?_|refine zB rfl (zG rfl rfl (zC (by first|rfl|assumption|simp [hC1,hC5]) 10)) rfl rfl ?_|refine AD.step _ _ _ _ _ rfl (zG rfl rfl (zC (by first|rfl|assumption|simp [hC1,hC5]) 10)) rfl rfl ?_)|(refine zu ?_;first|(refine zo 0 zi rfl rfl ((yj c _ (by omega)).ok hS3) rfl rfl rfl rfl rfl ?_)|(refine zo 0 zi rfl rfl ((zS c [t0] _ (by omega) (by simp)).ok hS7) rfl rfl rfl rfl rfl ?_))|refine sK ?_|refine sC (fun _=>?_) (fun _=>?_)|fail)
      exact zV hw (yC (.inl rfl) tH)
set_option maxHeartbeats 20000000
theorem zp7 (g:Img) (hF:Fm g) (m:Me) (ar:List Ty) (arg:Int) (t0:Ty) (l:List Ty) (hl:l.length≤100):XC 92 [] (⟨g,m,ar,⟨8,arg,t0⟩⟩:RC) (yI g m ⟨8,arg,t0⟩) uV l:=by
 intro u;refine zF zf Tryz.func92 rfl (by kernel_rfl) Tryz.ntmps92 (by simp) _ rfl (fun gB hw1=>?_)
 cases hS1:(yR m.max [kTy 2]) l with
 | error e =>
  have hw:(yI g m ⟨8,arg,t0⟩) l=.error e:=by simp [yI,zx,zA,hS1]
  repeat' (first|refine zq 2 3 rfl rfl rfl ?_|refine zD ((yN u ⟨g,m,ar,⟨8,arg,t0⟩⟩ l)) zi rfl rfl rfl tH ((zS ⟨g,m,ar,⟨8,arg,t0⟩⟩ [kTy 2] _ (by omega) (by simp)).bad hS1 u) ?_|(refine shC ?_;first|refine qC (zM 2) ?_)|refine sK ?_|refine sC (fun _=>?_) (fun _=>?_)|fail)
  exact zy hw
 | ok p =>
  obtain ⟨⟨⟩,l1⟩:=p
  have hw:(yI g m ⟨8,arg,t0⟩) l=.ok ((),l1):=by simp [yI,zx,zA,hS1]
  repeat' (first|(refine shC ?_;first|refine qC (zM 2) ?_)|(refine zu ?_;first|(refine zo 0 zi rfl rfl ((zS ⟨g,m,ar,⟨8,arg,t0⟩⟩ [kTy 2] _ (by omega) (by simp)).ok hS1) rfl rfl rfl rfl rfl ?_))|refine sK ?_|refine sC (fun _=>?_) (fun _=>?_)|fail)
  exact zV hw (yC (.inl rfl) tH)
theorem zqV (g:Img) (hF:Fm g) (m:Me) (ar:List Ty) (arg:Int) (t0:Ty) (l:List Ty) (hl:l.length≤100) (op:Int) (ho:op=9∨op=74):XC 92 [] (⟨g,m,ar,⟨op,arg,t0⟩⟩:RC) (yI g m ⟨op,arg,t0⟩) uV l:=by
 let c:RC:=⟨g,m,ar,⟨op,arg,t0⟩⟩
 rcases ho with rfl|rfl
 all_goals
  intro u;refine zF zf Tryz.func92 rfl (by kernel_rfl) Tryz.ntmps92 (by simp) _ rfl (fun gB hw1=>?_)
  cases hS1:(yR m.max [kTy 3]) l with
  | error e =>
   have hw:(yI g m ⟨c.x.op,arg,t0⟩) l=.error e:=by simp [yI,c,zx,zA,hS1]
   repeat' (first|refine zq 5 3 rfl rfl rfl ?_|refine zD ((yN u c l)) zi rfl rfl rfl tH ((zS c [kTy 3] _ (by omega) (by simp)).bad hS1 u) ?_|(refine shC ?_;first|refine qC (zM 3) ?_)|refine sK ?_|refine sC (fun _=>?_) (fun _=>?_)|fail)
   exact zy hw
  | ok p =>
   obtain ⟨⟨⟩,l1⟩:=p
   have hw:(yI g m ⟨c.x.op,arg,t0⟩) l=.ok ((),l1):=by simp [yI,c,zx,zA,hS1]
   repeat' (first|(refine shC ?_;first|refine qC (zM 3) ?_)|(refine zu ?_;first|(refine zo 0 zi rfl rfl ((zS c [kTy 3] _ (by omega) (by simp)).ok hS1) rfl rfl rfl rfl rfl ?_))|refine sK ?_|refine sC (fun _=>?_) (fun _=>?_)|fail)
   exact zV hw (yC (.inl rfl) tH)
theorem zot (g:Img) (hF:Fm g) (m:Me) (ar:List Ty) (arg:Int) (t0:Ty) (l:List Ty) (hl:l.length≤100):XC 92 [] (⟨g,m,ar,⟨10,arg,t0⟩⟩:RC) (yI g m ⟨10,arg,t0⟩) uV l:=by
 intro u;refine zF zf Tryz.func92 rfl (by kernel_rfl) Tryz.ntmps92 (by simp) _ rfl (fun gB hw1=>?_)
 cases hS1:(yR m.max [kTy 8]) l with
 | error e =>
  have hw:(yI g m ⟨10,arg,t0⟩) l=.error e:=by simp [yI,zx,zA,hS1]
  repeat' (first|refine zq 7 3 rfl rfl rfl ?_|refine zD ((yN u ⟨g,m,ar,⟨10,arg,t0⟩⟩ l)) zi rfl rfl rfl tH ((zS ⟨g,m,ar,⟨10,arg,t0⟩⟩ [kTy 8] _ (by omega) (by simp)).bad hS1 u) ?_|(refine shC ?_;first|refine qC (zM 8) ?_)|refine sK ?_|refine sC (fun _=>?_) (fun _=>?_)|fail)
  exact zy hw
 | ok p =>
  obtain ⟨⟨⟩,l1⟩:=p
  have hw:(yI g m ⟨10,arg,t0⟩) l=.ok ((),l1):=by simp [yI,zx,zA,hS1]
  repeat' (first|(refine shC ?_;first|refine qC (zM 8) ?_)|(refine zu ?_;first|(refine zo 0 zi rfl rfl ((zS ⟨g,m,ar,⟨10,arg,t0⟩⟩ [kTy 8] _ (by omega) (by simp)).ok hS1) rfl rfl rfl rfl rfl ?_))|refine sK ?_|refine sC (fun _=>?_) (fun _=>?_)|fail)
  exact zV hw (yC (.inl rfl) tH)
theorem zoL (g:Img) (hF:Fm g) (m:Me) (ar:List Ty) (arg:Int) (t0:Ty) (l:List Ty) (hl:l.length≤100):XC 92 [] (⟨g,m,ar,⟨11,arg,t0⟩⟩:RC) (yI g m ⟨11,arg,t0⟩) uV l:=by
 intro u;refine zF zf Tryz.func92 rfl (by kernel_rfl) Tryz.ntmps92 (by simp) _ rfl (fun gB hw1=>?_)
 cases hS1:(Yk) l with
 | error e =>
  have hw:(yI g m ⟨11,arg,t0⟩) l=.error e:=by simp [yI,zx,zA,hS1]
  repeat' (first|refine zq 9 1 rfl rfl rfl ?_|refine zD ((yN u ⟨g,m,ar,⟨11,arg,t0⟩⟩ l)) zi rfl rfl rfl tH ((yj ⟨g,m,ar,⟨11,arg,t0⟩⟩ _ (by omega)).bad hS1 u) ?_|refine sK ?_|refine sC (fun _=>?_) (fun _=>?_)|fail)
  exact zy hw
 | ok p =>
  obtain ⟨t,l1⟩:=p
  have hl1:l1.length≤100:=by have:=Xb hS1;omega
  cases hS2:(yR m.max [t,t]) l1 with
  | error e =>
   have hw:(yI g m ⟨11,arg,t0⟩) l=.error e:=by simp [yI,zx,zA,hS1,hS2]
   repeat' (first|refine zq 10 4 rfl rfl rfl ?_|refine zD ((yN u ⟨g,m,ar,⟨11,arg,t0⟩⟩ l1)) zi rfl rfl rfl tH ((zS ⟨g,m,ar,⟨11,arg,t0⟩⟩ [t,t] _ (by omega) (by simp)).bad hS2 u) ?_|(refine zu ?_;first|(refine zo 0 zi rfl rfl ((yj ⟨g,m,ar,⟨11,arg,t0⟩⟩ _ (by omega)).ok hS1) rfl rfl rfl rfl rfl ?_))|refine sK ?_|refine sC (fun _=>?_) (fun _=>?_)|fail)
   exact zy hw
  | ok p =>
   obtain ⟨⟨⟩,l2⟩:=p
   have hw:(yI g m ⟨11,arg,t0⟩) l=.ok ((),l2):=by simp [yI,zx,zA,hS1,hS2]
   repeat' (first|(refine zu ?_;first|(refine zo 0 zi rfl rfl ((yj ⟨g,m,ar,⟨11,arg,t0⟩⟩ _ (by omega)).ok hS1) rfl rfl rfl rfl rfl ?_)|(refine zo 0 zi rfl rfl ((zS ⟨g,m,ar,⟨11,arg,t0⟩⟩ [t,t] _ (by omega) (by simp)).ok hS2) rfl rfl rfl rfl rfl ?_))|refine sK ?_|refine sC (fun _=>?_) (fun _=>?_)|fail)
   exact zV hw (yC (.inl rfl) tH)
theorem zoE (g:Img) (hF:Fm g) (m:Me) (ar:List Ty) (arg:Int) (t0:Ty) (l:List Ty) (hl:l.length≤100):XC 92 [] (⟨g,m,ar,⟨12,arg,t0⟩⟩:RC) (yI g m ⟨12,arg,t0⟩) uV l:=by
 intro u;refine zF zf Tryz.func92 rfl (by kernel_rfl) Tryz.ntmps92 (by simp) _ rfl (fun gB hw1=>?_)
 cases hS1:(Yk) l with
 | error e =>
  have hw:(yI g m ⟨12,arg,t0⟩) l=.error e:=by simp [yI,zx,zA,hS1]
  repeat' (first|refine zq 12 1 rfl rfl rfl ?_|refine zD ((yN u ⟨g,m,ar,⟨12,arg,t0⟩⟩ l)) zi rfl rfl rfl tH ((yj ⟨g,m,ar,⟨12,arg,t0⟩⟩ _ (by omega)).bad hS1 u) ?_|refine sK ?_|refine sC (fun _=>?_) (fun _=>?_)|fail)
  exact zy hw
 | ok p =>
  obtain ⟨t,l1⟩:=p
  have hl1:l1.length≤100:=by have:=Xb hS1;omega
  have hw:(yI g m ⟨12,arg,t0⟩) l=.ok ((),l1):=by simp [yI,zx,zA,hS1]
  repeat' (first|(refine zu ?_;first|(refine zo 0 zi rfl rfl ((yj ⟨g,m,ar,⟨12,arg,t0⟩⟩ _ (by omega)).ok hS1) rfl rfl rfl rfl rfl ?_))|refine sK ?_|refine sC (fun _=>?_) (fun _=>?_)|fail)
  exact zV hw (yC (.inl rfl) tH)
theorem zoT (g:Img) (hF:Fm g) (m:Me) (ar:List Ty) (arg:Int) (t0:Ty) (l:List Ty) (hl:l.length≤100):XC 92 [] (⟨g,m,ar,⟨75,arg,t0⟩⟩:RC) (yI g m ⟨75,arg,t0⟩) uV l:=by
 intro u;refine zF zf Tryz.func92 rfl (by kernel_rfl) Tryz.ntmps92 (by simp) _ rfl (fun gB hw1=>?_)
 cases hS1:(Yo g (kTy 3)) l with
 | error e =>
  have hw:(yI g m ⟨75,arg,t0⟩) l=.error e:=by simp [yI,zx,zA,hS1]
  repeat' (first|refine zq 14 2 rfl rfl rfl ?_|refine zD ((yN u ⟨g,m,ar,⟨75,arg,t0⟩⟩ l)) zi rfl rfl rfl tH ((qj ⟨g,m,ar,⟨75,arg,t0⟩⟩ hF (kTy 3) _ (by omega)).bad hS1 u) ?_|(refine shC ?_;first|refine qC (zM 3) ?_)|refine sK ?_|refine sC (fun _=>?_) (fun _=>?_)|fail)
  exact zy hw
 | ok p =>
  obtain ⟨⟨⟩,l1⟩:=p
  have hl1:l1.length≤100:=by have:=WO hS1;omega
  have hw:(yI g m ⟨75,arg,t0⟩) l=.ok ((),l1):=by simp [yI,zx,zA,hS1]
  repeat' (first|(refine shC ?_;first|refine qC (zM 3) ?_)|(refine zu ?_;first|(refine zo 0 zi rfl rfl ((qj ⟨g,m,ar,⟨75,arg,t0⟩⟩ hF (kTy 3) _ (by omega)).ok hS1) rfl rfl rfl rfl rfl ?_))|refine sK ?_|refine sC (fun _=>?_) (fun _=>?_)|fail)
  exact zV hw (yC (.inl rfl) tH)
theorem zqd (g:Img) (hF:Fm g) (m:Me) (ar:List Ty) (arg:Int) (t0:Ty) (l:List Ty) (hl:l.length≤100) (op:Int) (ho:op=1∨op=47):XC 92 [] (⟨g,m,ar,⟨op,arg,t0⟩⟩:RC) (yI g m ⟨op,arg,t0⟩) uV l:=by
 let c:RC:=⟨g,m,ar,⟨op,arg,t0⟩⟩
 rcases ho with rfl|rfl
 all_goals
  intro u;refine zF zf Tryz.func92 rfl (by kernel_rfl) Tryz.ntmps92 (by simp) _ rfl (fun gB hw1=>?_)
  have hw:(yI g m ⟨c.x.op,arg,t0⟩) l=.ok ((),l):=by simp [yI,c,zx,zA]
  repeat' (first|refine sK ?_|refine sC (fun _=>?_) (fun _=>?_)|fail)
  exact zV hw (yC (.inl rfl) tH)
theorem zpa (g:Img) (hF:Fm g) (m:Me) (ar:List Ty) (arg:Int) (t0:Ty) (l:List Ty) (hl:l.length≤100) (h0:0≤arg) (h1:arg.toNat < g.methods.length):XC 92 [] (⟨g,m,ar,⟨67,arg,t0⟩⟩:RC) (yI g m ⟨67,arg,t0⟩) uV l:=by
 intro u;refine zF zf Tryz.func92 rfl (by kernel_rfl) Tryz.ntmps92 (by simp) _ rfl (fun gB hw1=>?_)
 have cm:XC 136 [] (⟨g,m,ar,⟨67,arg,t0⟩⟩:RC) (pure (mAt g arg):SM Me) (fun d=>.pv (yL d)) l:=zaD _ l h0 h1
 have em:(pure (mAt g arg):SM Me) l=.ok (mAt g arg,l):=rfl
 obtain ⟨d,hd⟩:∃ d,mAt g arg=d:=⟨_,rfl⟩
 rw [hd] at cm em
 have ca:=YL d 4
 have cb:=YL d 16
 cases hC1:(qK d.flags 4)
 ·rw [hC1] at ca
  cases hC2:(qK d.flags 16)
  ·rw [hC2] at cb
   cases hS4:(yR m.max [⟨9,arg,0,false⟩]) l with
   | error e =>
    have hw:(yI g m ⟨67,arg,t0⟩) l=.error e:=by simp [yI,hd,zx,zA,hC1,hC2,zI,emptyS,hS4]
    repeat' (first|refine zq 17 8 rfl rfl rfl ?_|refine zD ((yN u ⟨g,m,ar,⟨67,arg,t0⟩⟩ l)) zi rfl rfl rfl tH ((zS ⟨g,m,ar,⟨67,arg,t0⟩⟩ [⟨9,arg,0,false⟩] _ (by omega) (by simp)).bad hS4 u) ?_|(refine shC ?_;first|refine qC ca ?_|refine qC cb ?_|refine zB rfl (zG rfl rfl (zC (by first|rfl|assumption|simp [hC1,hC2]) 8)) rfl rfl ?_|refine AD.step _ _ _ _ _ rfl (zG rfl rfl (zC (by first|rfl|assumption|simp [hC1,hC2]) 8)) rfl rfl ?_)|(refine zu ?_;first|(refine zo 0 zi rfl rfl (cm.ok em) rfl rfl rfl rfl rfl ?_))|refine sK ?_|refine sC (fun _=>?_) (fun _=>?_)|fail)
    exact zy hw
   | ok p =>
    obtain ⟨⟨⟩,l4⟩:=p
    have hw:(yI g m ⟨67,arg,t0⟩) l=.ok ((),l4):=by simp [yI,hd,zx,zA,hC1,hC2,zI,emptyS,hS4]
    repeat' (first|(refine shC ?_;first|refine qC ca ?_|refine qC cb ?_|refine zB rfl (zG rfl rfl (zC (by first|rfl|assumption|simp [hC1,hC2]) 8)) rfl rfl ?_|refine AD.step _ _ _ _ _ rfl (zG rfl rfl (zC (by first|rfl|assumption|simp [hC1,hC2]) 8)) rfl rfl ?_)|(refine zu ?_;first|(refine zo 0 zi rfl rfl ((zS ⟨g,m,ar,⟨67,arg,t0⟩⟩ [⟨9,arg,0,false⟩] _ (by omega) (by simp)).ok hS4) rfl rfl rfl rfl rfl ?_)|(refine zo 0 zi rfl rfl (cm.ok em) rfl rfl rfl rfl rfl ?_))|refine sK ?_|refine sC (fun _=>?_) (fun _=>?_)|fail)
    exact zV hw (yC (.inl rfl) tH)
  ·rw [hC2] at cb
   have hw:(yI g m ⟨67,arg,t0⟩) l=.error 8:=by simp [yI,hd,zx,zA,hC1,hC2,zI,emptyS]
   repeat' (first|refine zq 16 10 rfl rfl rfl ?_|refine zD ([]) zi rfl rfl rfl tH (zZ (by first|rfl|assumption|simp [hC1,hC2]) 8) ?_|(refine shC ?_;first|refine qC ca ?_|refine qC cb ?_)|(refine zu ?_;first|(refine zo 0 zi rfl rfl (cm.ok em) rfl rfl rfl rfl rfl ?_))|refine sK ?_|refine sC (fun _=>?_) (fun _=>?_)|fail)
   exact zy hw
 ·rw [hC1] at ca
  have hw:(yI g m ⟨67,arg,t0⟩) l=.error 8:=by simp [yI,hd,zx,zA,hC1,zI,emptyS]
  repeat' (first|refine zq 16 10 rfl rfl rfl ?_|refine zD ([]) zi rfl rfl rfl tH (zZ (by first|rfl|assumption|simp [hC1]) 8) ?_|(refine shC ?_;first|refine qC ca ?_)|(refine zu ?_;first|(refine zo 0 zi rfl rfl (cm.ok em) rfl rfl rfl rfl rfl ?_))|refine sK ?_|refine sC (fun _=>?_) (fun _=>?_)|fail)
  exact zy hw
theorem zsc (g:Img) (hF:Fm g) (m:Me) (ar:List Ty) (arg:Int) (t0:Ty) (l:List Ty) (hl:l.length≤100) (u:Value):zdy Tryz.prog 91 [.box 0 0] (yN u (⟨g,m,ar,⟨46,arg,t0⟩⟩:RC) l) (zmz u (⟨g,m,ar,⟨46,arg,t0⟩⟩:RC) ((Zm g m 46) l)):=by
 revert u
 intro u;refine zF zf Tryz.func91 rfl (by kernel_rfl) Tryz.ntmps91 (by simp) _ rfl (fun gB hw1=>?_)
 cases hC1:(m.ret.kind != 1)
 ·skip
  cases hN2:(l.length==0)
  ·have hw:(Zm g m 46) l=.error 9:=by simp [Zm,zx,zA,hC1,zI,emptyS,hN2]
   repeat' (first|refine zq 4 6 rfl rfl rfl ?_|refine zD ([]) zi rfl rfl rfl tH (zZ (by simpa using hN2) 9) ?_|refine zB rfl (zn (ps:=(yO m.ret)) zf rfl rfl rfl rfl rfl) rfl rfl ?_|refine AD.step _ _ _ _ _ rfl (zn (ps:=(yO m.ret)) zf rfl rfl rfl rfl rfl) rfl rfl ?_|refine sK ?_|refine sC (fun _=>?_) (fun _=>?_)|fail)
   exact zaw hw
  ·skip
   have hw:(Zm g m 46) l=.ok ((),[]):=by simp [Zm,zx,zA,hC1,zI,emptyS,hN2,zai]
   repeat' (first|refine zB rfl (zn (ps:=(yO m.ret)) zf rfl rfl rfl rfl rfl) rfl rfl ?_|refine AD.step _ _ _ _ _ rfl (zn (ps:=(yO m.ret)) zf rfl rfl rfl rfl rfl) rfl rfl ?_|(refine shC ?_;first|refine zB rfl (zG rfl rfl (zC (by simpa using hN2) 9)) rfl rfl ?_|refine AD.step _ _ _ _ _ rfl (zG rfl rfl (zC (by simpa using hN2) 9)) rfl rfl ?_)|refine sK ?_|refine sC (fun _=>?_) (fun _=>?_)|fail)
   exact zd7 hw (zgX (.inl rfl) tH)
 ·skip
  cases hS2:(Yo g (m.ret)) l with
  | error e =>
   have hw:(Zm g m 46) l=.error e:=by simp [Zm,zx,zA,hC1,hS2]
   repeat' (first|refine zq 3 6 rfl rfl rfl ?_|refine zD ((yN u ⟨g,m,ar,⟨46,arg,t0⟩⟩ l)) zi rfl rfl rfl tH ((qj ⟨g,m,ar,⟨46,arg,t0⟩⟩ hF (m.ret) _ (by omega)).bad hS2 u) ?_|refine zB rfl (zn (ps:=(yO m.ret)) zf rfl rfl rfl rfl rfl) rfl rfl ?_|refine AD.step _ _ _ _ _ rfl (zn (ps:=(yO m.ret)) zf rfl rfl rfl rfl rfl) rfl rfl ?_|refine sK ?_|refine sC (fun _=>?_) (fun _=>?_)|fail)
   exact zaw hw
  | ok p =>
   obtain ⟨⟨⟩,l2⟩:=p
   have hl2:l2.length≤100:=by have:=WO hS2;omega
   cases hN3:(l2.length==0)
   ·have hw:(Zm g m 46) l=.error 9:=by simp [Zm,zx,zA,hC1,hS2,zI,emptyS,hN3]
    repeat' (first|refine zq 4 6 rfl rfl rfl ?_|refine zD ([]) zi rfl rfl rfl tH (zZ (by simpa using hN3) 9) ?_|refine zB rfl (zn (ps:=(yO m.ret)) zf rfl rfl rfl rfl rfl) rfl rfl ?_|refine AD.step _ _ _ _ _ rfl (zn (ps:=(yO m.ret)) zf rfl rfl rfl rfl rfl) rfl rfl ?_|(refine zu ?_;first|(refine zo 0 zi rfl rfl ((qj ⟨g,m,ar,⟨46,arg,t0⟩⟩ hF (m.ret) _ (by omega)).ok hS2) rfl rfl rfl rfl rfl ?_))|refine sK ?_|refine sC (fun _=>?_) (fun _=>?_)|fail)
    exact zaw hw
   ·skip
    have hw:(Zm g m 46) l=.ok ((),[]):=by simp [Zm,zx,zA,hC1,hS2,zI,emptyS,hN3,zai]
    repeat' (first|refine zB rfl (zn (ps:=(yO m.ret)) zf rfl rfl rfl rfl rfl) rfl rfl ?_|refine AD.step _ _ _ _ _ rfl (zn (ps:=(yO m.ret)) zf rfl rfl rfl rfl rfl) rfl rfl ?_|(refine shC ?_;first|refine zB rfl (zG rfl rfl (zC (by simpa using hN3) 9)) rfl rfl ?_|refine AD.step _ _ _ _ _ rfl (zG rfl rfl (zC (by simpa using hN3) 9)) rfl rfl ?_)|(refine zu ?_;first|(refine zo 0 zi rfl rfl ((qj ⟨g,m,ar,⟨46,arg,t0⟩⟩ hF (m.ret) _ (by omega)).ok hS2) rfl rfl rfl rfl rfl ?_))|refine sK ?_|refine sC (fun _=>?_) (fun _=>?_)|fail)
    exact zd7 hw (zgX (.inl rfl) tH)
theorem zrY (g:Img) (hF:Fm g) (m:Me) (ar:List Ty) (arg:Int) (t0:Ty) (l:List Ty) (hl:l.length≤100) (u:Value):zdy Tryz.prog 91 [.box 0 0] (yN u (⟨g,m,ar,⟨69,arg,t0⟩⟩:RC) l) (zmz u (⟨g,m,ar,⟨69,arg,t0⟩⟩:RC) ((Zm g m 69) l)):=by
 revert u
 intro u;refine zF zf Tryz.func91 rfl (by kernel_rfl) Tryz.ntmps91 (by simp) _ rfl (fun gB hw1=>?_)
 cases hS1:(Yk) l with
 | error e =>
  have hw:(Zm g m 69) l=.error e:=by simp [Zm,zx,zA,hS1]
  repeat' (first|refine zq 6 1 rfl rfl rfl ?_|refine zD ((yN u ⟨g,m,ar,⟨69,arg,t0⟩⟩ l)) zi rfl rfl rfl tH ((yj ⟨g,m,ar,⟨69,arg,t0⟩⟩ _ (by omega)).bad hS1 u) ?_|refine sK ?_|refine sC (fun _=>?_) (fun _=>?_)|fail)
  exact zaw hw
 | ok p =>
  obtain ⟨t,l1⟩:=p
  have hl1:l1.length≤100:=by have:=Xb hS1;omega
  have cx:=Za t
  cases hC3:(object t)
  ·rw [hC3] at cx
   have hw:(Zm g m 69) l=.error 10:=by simp [Zm,zx,zA,hS1,hC3,zI,emptyS]
   repeat' (first|refine zq 6 3 rfl rfl rfl ?_|refine zD ([]) zi rfl rfl rfl tH (zZ (by first|rfl|assumption|simp [hC3]) 10) ?_|(refine shC ?_;first|refine qC cx ?_)|(refine zu ?_;first|(refine zo 0 zi rfl rfl ((yj ⟨g,m,ar,⟨69,arg,t0⟩⟩ _ (by omega)).ok hS1) rfl rfl rfl rfl rfl ?_))|refine sK ?_|refine sC (fun _=>?_) (fun _=>?_)|fail)
   exact zaw hw
  ·rw [hC3] at cx
   have hw:(Zm g m 69) l=.ok ((),[]):=by simp [Zm,zx,zA,hS1,hC3,zI,emptyS,zai]
   repeat' (first|(refine shC ?_;first|refine qC cx ?_|refine zB rfl (zG rfl rfl (zC (by first|rfl|assumption|simp [hC3]) 10)) rfl rfl ?_|refine AD.step _ _ _ _ _ rfl (zG rfl rfl (zC (by first|rfl|assumption|simp [hC3]) 10)) rfl rfl ?_)|(refine zu ?_;first|(refine zo 0 zi rfl rfl ((yj ⟨g,m,ar,⟨69,arg,t0⟩⟩ _ (by omega)).ok hS1) rfl rfl rfl rfl rfl ?_))|refine sK ?_|refine sC (fun _=>?_) (fun _=>?_)|fail)
   exact zd7 hw (zgX (.inl rfl) tH)
theorem zsz (g:Img) (hF:Fm g) (m:Me) (ar:List Ty) (arg:Int) (t0:Ty) (l:List Ty) (hl:l.length≤100) (u:Value):zdy Tryz.prog 91 [.box 0 0] (yN u (⟨g,m,ar,⟨73,arg,t0⟩⟩:RC) l) (zmz u (⟨g,m,ar,⟨73,arg,t0⟩⟩:RC) ((Zm g m 73) l)):=by
 revert u
 intro u;refine zF zf Tryz.func91 rfl (by kernel_rfl) Tryz.ntmps91 (by simp) _ rfl (fun gB hw1=>?_)
 cases hS1:(Yo g (kTy 2)) l with
 | error e =>
  have hw:(Zm g m 73) l=.error e:=by simp [Zm,zx,zA,hS1]
  repeat' (first|refine zq 8 2 rfl rfl rfl ?_|refine zD ((yN u ⟨g,m,ar,⟨73,arg,t0⟩⟩ l)) zi rfl rfl rfl tH ((qj ⟨g,m,ar,⟨73,arg,t0⟩⟩ hF (kTy 2) _ (by omega)).bad hS1 u) ?_|(refine shC ?_;first|refine qC (zM 2) ?_)|refine sK ?_|refine sC (fun _=>?_) (fun _=>?_)|fail)
  exact zaw hw
 | ok p =>
  obtain ⟨⟨⟩,l1⟩:=p
  have hl1:l1.length≤100:=by have:=WO hS1;omega
  cases hN2:(l1.length==0)
  ·have hw:(Zm g m 73) l=.error 9:=by simp [Zm,zx,zA,hS1,zI,emptyS,hN2]
   repeat' (first|refine zq 9 6 rfl rfl rfl ?_|refine zD ([]) zi rfl rfl rfl tH (zZ (by simpa using hN2) 9) ?_|(refine shC ?_;first|refine qC (zM 2) ?_)|(refine zu ?_;first|(refine zo 0 zi rfl rfl ((qj ⟨g,m,ar,⟨73,arg,t0⟩⟩ hF (kTy 2) _ (by omega)).ok hS1) rfl rfl rfl rfl rfl ?_))|refine sK ?_|refine sC (fun _=>?_) (fun _=>?_)|fail)
   exact zaw hw
  ·skip
   have hw:(Zm g m 73) l=.ok ((),[]):=by simp [Zm,zx,zA,hS1,zI,emptyS,hN2,zai]
   repeat' (first|(refine shC ?_;first|refine zB rfl (zG rfl rfl (zC (by simpa using hN2) 9)) rfl rfl ?_|refine AD.step _ _ _ _ _ rfl (zG rfl rfl (zC (by simpa using hN2) 9)) rfl rfl ?_|refine qC (zM 2) ?_)|(refine zu ?_;first|(refine zo 0 zi rfl rfl ((qj ⟨g,m,ar,⟨73,arg,t0⟩⟩ hF (kTy 2) _ (by omega)).ok hS1) rfl rfl rfl rfl rfl ?_))|refine sK ?_|refine sC (fun _=>?_) (fun _=>?_)|fail)
   exact zd7 hw (zgX (.inl rfl) tH)
theorem zr8 (g:Img) (hF:Fm g) (m:Me) (ar:List Ty) (arg:Int) (t0:Ty) (l:List Ty) (hl:l.length≤100) (op:Int) (ho:op=70∨op=71∨op=72) (u:Value):zdy Tryz.prog 91 [.box 0 0] (yN u (⟨g,m,ar,⟨op,arg,t0⟩⟩:RC) l) (zmz u (⟨g,m,ar,⟨op,arg,t0⟩⟩:RC) ((Zm g m op) l)):=by
 let c:RC:=⟨g,m,ar,⟨op,arg,t0⟩⟩
 rcases ho with rfl|rfl|rfl
 all_goals
  revert u
  intro u;refine zF zf Tryz.func91 rfl (by kernel_rfl) Tryz.ntmps91 (by simp) _ rfl (fun gB hw1=>?_)
  have hw:(Zm g m c.x.op) l=.ok ((),[]):=by simp [Zm,c,zx,zA,zai]
  repeat' (first|refine sK ?_|refine sC (fun _=>?_) (fun _=>?_)|fail)
  exact zd7 hw (zgX (.inl rfl) tH)
end Go.Cg
