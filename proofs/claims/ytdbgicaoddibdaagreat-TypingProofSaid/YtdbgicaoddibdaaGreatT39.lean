/- A part of the walks by abstract values: no statement of its own. -/
import Derived.Test.YtdbgicaoddibdaaGreatT28
set_option linter.unusedVariables false
set_option linter.unusedSimpArgs false
namespace Go.Cg
open Go.Proofs
set_option maxHeartbeats 20000000
theorem zwZ (g:Img) (hF:Fm g) (m:Me) (ar:List Ty) (arg:Int) (t0:Ty) (l:List Ty) (hl:l.length≤100) (h0:0≤arg):XC 76 [] (⟨g,m,ar,⟨2,arg,t0⟩⟩:RC) (qZ g ar m ⟨2,arg,t0⟩) uV l:=by
 intro u;refine zI zf Tryz.func76 rfl zws Tryz.ntmps76 zwy63 _ rfl (fun gB hw1=>?_);cases hS1:(zaN ⟨2,arg,t0⟩ ar) l with
 | error e =>
  have hw:(qZ g ar m ⟨2,arg,t0⟩) l=.error e:=by simp [qZ,zB,zG,hS1]
  repeat' (first|refine zl 6 2 rfl rfl rfl ?_|refine zD ((yN u ⟨g,m,ar,⟨2,arg,t0⟩⟩ l)) zh rfl rfl rfl tH ((Zf ⟨g,m,ar,⟨2,arg,t0⟩⟩ ar _ h0).bad hS1 u) ?_|refine sK ?_|refine sC (fun _=>?_) (fun _=>?_)|fail)
  exact zF hw
 | ok p =>
  obtain ⟨t,l1⟩:=p;have hl1:l1.length≤100:=by have:=zat hS1;omega
  cases hS2:(yX m.max [t]) l1 with
  | error e =>
   have hw:(qZ g ar m ⟨2,arg,t0⟩) l=.error e:=by simp [qZ,zB,zG,hS1,hS2]
   repeat' (first|refine zl 11 3 rfl rfl rfl ?_|refine zD ((yN u ⟨g,m,ar,⟨2,arg,t0⟩⟩ l1)) zh rfl rfl rfl tH ((zU ⟨g,m,ar,⟨2,arg,t0⟩⟩ [t] _ zwy62 zwy63).bad hS2 u) ?_|(refine zn ?_;first|(refine zu 0 zh rfl rfl ((Zf ⟨g,m,ar,⟨2,arg,t0⟩⟩ ar _ h0).ok hS1) rfl rfl rfl rfl rfl ?_))|refine sK ?_|refine sC (fun _=>?_) (fun _=>?_)|fail)
   exact zF hw
  | ok p =>
   obtain ⟨⟨⟩,l2⟩:=p;have hw:(qZ g ar m ⟨2,arg,t0⟩) l=.ok ((),l2):=by simp [qZ,zB,zG,hS1,hS2]
   repeat' (first|(refine zn ?_;first|(refine zu 0 zh rfl rfl ((Zf ⟨g,m,ar,⟨2,arg,t0⟩⟩ ar _ h0).ok hS1) rfl rfl rfl rfl rfl ?_)|(refine zu 0 zh rfl rfl ((zU ⟨g,m,ar,⟨2,arg,t0⟩⟩ [t] _ zwy62 zwy63).ok hS2) rfl rfl rfl rfl rfl ?_))|refine sK ?_|refine sC (fun _=>?_) (fun _=>?_)|fail)
   exact zX hw (yw (.inl rfl) tH)
theorem zwu (g:Img) (hF:Fm g) (m:Me) (ar:List Ty) (arg:Int) (t0:Ty) (l:List Ty) (hl:l.length≤100) (h0:0≤arg):XC 76 [] (⟨g,m,ar,⟨3,arg,t0⟩⟩:RC) (qZ g ar m ⟨3,arg,t0⟩) uV l:=by
 intro u;refine zI zf Tryz.func76 rfl zws Tryz.ntmps76 zwy63 _ rfl (fun gB hw1=>?_);cases hS1:(zaN ⟨3,arg,t0⟩ ar) l with
 | error e =>
  have hw:(qZ g ar m ⟨3,arg,t0⟩) l=.error e:=by simp [qZ,zB,zG,hS1]
  repeat' (first|refine zl 6 2 rfl rfl rfl ?_|refine zD ((yN u ⟨g,m,ar,⟨3,arg,t0⟩⟩ l)) zh rfl rfl rfl tH ((Zf ⟨g,m,ar,⟨3,arg,t0⟩⟩ ar _ h0).bad hS1 u) ?_|refine sK ?_|refine sC (fun _=>?_) (fun _=>?_)|fail)
  exact zF hw
 | ok p =>
  obtain ⟨t,l1⟩:=p;have hl1:l1.length≤100:=by have:=zat hS1;omega
  cases hS2:(YL g t) l1 with
  | error e =>
   have hw:(qZ g ar m ⟨3,arg,t0⟩) l=.error e:=by simp [qZ,zB,zG,hS1,hS2]
   repeat' (first|refine zl 14 2 rfl rfl rfl ?_|refine zD ((yN u ⟨g,m,ar,⟨3,arg,t0⟩⟩ l1)) zh rfl rfl rfl tH ((qw ⟨g,m,ar,⟨3,arg,t0⟩⟩ hF t _ zwy62).bad hS2 u) ?_|(refine zn ?_;first|(refine zu 0 zh rfl rfl ((Zf ⟨g,m,ar,⟨3,arg,t0⟩⟩ ar _ h0).ok hS1) rfl rfl rfl rfl rfl ?_))|refine sK ?_|refine sC (fun _=>?_) (fun _=>?_)|fail)
   exact zF hw
  | ok p =>
   obtain ⟨⟨⟩,l2⟩:=p;have hw:(qZ g ar m ⟨3,arg,t0⟩) l=.ok ((),l2):=by simp [qZ,zB,zG,hS1,hS2]
   repeat' (first|(refine zn ?_;first|(refine zu 0 zh rfl rfl ((Zf ⟨g,m,ar,⟨3,arg,t0⟩⟩ ar _ h0).ok hS1) rfl rfl rfl rfl rfl ?_)|(refine zu 0 zh rfl rfl ((qw ⟨g,m,ar,⟨3,arg,t0⟩⟩ hF t _ zwy62).ok hS2) rfl rfl rfl rfl rfl ?_))|refine sK ?_|refine sC (fun _=>?_) (fun _=>?_)|fail)
   exact zX hw (yw (.inl rfl) tH)
theorem zw0 (g:Img) (hF:Fm g) (m:Me) (ar:List Ty) (arg:Int) (t0:Ty) (l:List Ty) (hl:l.length≤100) (h0:0≤arg):XC 76 [] (⟨g,m,ar,⟨4,arg,t0⟩⟩:RC) (qZ g ar m ⟨4,arg,t0⟩) uV l:=by
 intro u;refine zI zf Tryz.func76 rfl zws Tryz.ntmps76 zwy63 _ rfl (fun gB hw1=>?_);cases hS1:(zaN ⟨4,arg,t0⟩ ar) l with
 | error e =>
  have hw:(qZ g ar m ⟨4,arg,t0⟩) l=.error e:=by simp [qZ,zB,zG,hS1]
  repeat' (first|refine zl 6 2 rfl rfl rfl ?_|refine zD ((yN u ⟨g,m,ar,⟨4,arg,t0⟩⟩ l)) zh rfl rfl rfl tH ((Zf ⟨g,m,ar,⟨4,arg,t0⟩⟩ ar _ h0).bad hS1 u) ?_|refine sK ?_|refine sC (fun _=>?_) (fun _=>?_)|fail)
  exact zF hw
 | ok p =>
  obtain ⟨t,l1⟩:=p;have hl1:l1.length≤100:=by have:=zat hS1;omega
  cases hS2:(Qn m.max t) l1 with
  | error e =>
   have hw:(qZ g ar m ⟨4,arg,t0⟩) l=.error e:=by simp [qZ,zB,zG,hS1,hS2]
   repeat' (first|refine zl 8 2 rfl rfl rfl ?_|refine zD ((yN u ⟨g,m,ar,⟨4,arg,t0⟩⟩ l1)) zh rfl rfl rfl tH ((VR ⟨g,m,ar,⟨4,arg,t0⟩⟩ t _ zwy62).bad hS2 u) ?_|(refine zn ?_;first|(refine zu 0 zh rfl rfl ((Zf ⟨g,m,ar,⟨4,arg,t0⟩⟩ ar _ h0).ok hS1) rfl rfl rfl rfl rfl ?_))|refine sK ?_|refine sC (fun _=>?_) (fun _=>?_)|fail)
   exact zF hw
  | ok p =>
   obtain ⟨⟨⟩,l2⟩:=p;have hw:(qZ g ar m ⟨4,arg,t0⟩) l=.ok ((),l2):=by simp [qZ,zB,zG,hS1,hS2]
   repeat' (first|(refine zn ?_;first|(refine zu 0 zh rfl rfl ((Zf ⟨g,m,ar,⟨4,arg,t0⟩⟩ ar _ h0).ok hS1) rfl rfl rfl rfl rfl ?_)|(refine zu 0 zh rfl rfl ((VR ⟨g,m,ar,⟨4,arg,t0⟩⟩ t _ zwy62).ok hS2) rfl rfl rfl rfl rfl ?_))|refine sK ?_|refine sC (fun _=>?_) (fun _=>?_)|fail)
   exact zX hw (yw (.inl rfl) tH)
theorem zwA (g:Img) (hF:Fm g) (m:Me) (ar:List Ty) (arg:Int) (t0:Ty) (l:List Ty) (hl:l.length≤100) (h0:0≤arg):XC 76 [] (⟨g,m,ar,⟨5,arg,t0⟩⟩:RC) (qZ g ar m ⟨5,arg,t0⟩) uV l:=by
 intro u;refine zI zf Tryz.func76 rfl zws Tryz.ntmps76 zwy63 _ rfl (fun gB hw1=>?_);cases hS1:(zaN ⟨5,arg,t0⟩ m.locals) l with
 | error e =>
  have hw:(qZ g ar m ⟨5,arg,t0⟩) l=.error e:=by simp [qZ,zB,zG,hS1]
  repeat' (first|refine zl 6 2 rfl rfl rfl ?_|refine zD ((yN u ⟨g,m,ar,⟨5,arg,t0⟩⟩ l)) zh rfl rfl rfl tH ((Zf ⟨g,m,ar,⟨5,arg,t0⟩⟩ m.locals _ h0).bad hS1 u) ?_|refine sK ?_|refine sC (fun _=>?_) (fun _=>?_)|fail)
  exact zF hw
 | ok p =>
  obtain ⟨t,l1⟩:=p;have hl1:l1.length≤100:=by have:=zat hS1;omega
  cases hS2:(yX m.max [t]) l1 with
  | error e =>
   have hw:(qZ g ar m ⟨5,arg,t0⟩) l=.error e:=by simp [qZ,zB,zG,hS1,hS2]
   repeat' (first|refine zl 11 3 rfl rfl rfl ?_|refine zD ((yN u ⟨g,m,ar,⟨5,arg,t0⟩⟩ l1)) zh rfl rfl rfl tH ((zU ⟨g,m,ar,⟨5,arg,t0⟩⟩ [t] _ zwy62 zwy63).bad hS2 u) ?_|(refine zn ?_;first|(refine zu 0 zh rfl rfl ((Zf ⟨g,m,ar,⟨5,arg,t0⟩⟩ m.locals _ h0).ok hS1) rfl rfl rfl rfl rfl ?_))|refine sK ?_|refine sC (fun _=>?_) (fun _=>?_)|fail)
   exact zF hw
  | ok p =>
   obtain ⟨⟨⟩,l2⟩:=p;have hw:(qZ g ar m ⟨5,arg,t0⟩) l=.ok ((),l2):=by simp [qZ,zB,zG,hS1,hS2]
   repeat' (first|(refine zn ?_;first|(refine zu 0 zh rfl rfl ((Zf ⟨g,m,ar,⟨5,arg,t0⟩⟩ m.locals _ h0).ok hS1) rfl rfl rfl rfl rfl ?_)|(refine zu 0 zh rfl rfl ((zU ⟨g,m,ar,⟨5,arg,t0⟩⟩ [t] _ zwy62 zwy63).ok hS2) rfl rfl rfl rfl rfl ?_))|refine sK ?_|refine sC (fun _=>?_) (fun _=>?_)|fail)
   exact zX hw (yw (.inl rfl) tH)
theorem zwL (g:Img) (hF:Fm g) (m:Me) (ar:List Ty) (arg:Int) (t0:Ty) (l:List Ty) (hl:l.length≤100) (h0:0≤arg):XC 76 [] (⟨g,m,ar,⟨6,arg,t0⟩⟩:RC) (qZ g ar m ⟨6,arg,t0⟩) uV l:=by
 intro u;refine zI zf Tryz.func76 rfl zws Tryz.ntmps76 zwy63 _ rfl (fun gB hw1=>?_);cases hS1:(zaN ⟨6,arg,t0⟩ m.locals) l with
 | error e =>
  have hw:(qZ g ar m ⟨6,arg,t0⟩) l=.error e:=by simp [qZ,zB,zG,hS1]
  repeat' (first|refine zl 6 2 rfl rfl rfl ?_|refine zD ((yN u ⟨g,m,ar,⟨6,arg,t0⟩⟩ l)) zh rfl rfl rfl tH ((Zf ⟨g,m,ar,⟨6,arg,t0⟩⟩ m.locals _ h0).bad hS1 u) ?_|refine sK ?_|refine sC (fun _=>?_) (fun _=>?_)|fail)
  exact zF hw
 | ok p =>
  obtain ⟨t,l1⟩:=p;have hl1:l1.length≤100:=by have:=zat hS1;omega
  cases hS2:(YL g t) l1 with
  | error e =>
   have hw:(qZ g ar m ⟨6,arg,t0⟩) l=.error e:=by simp [qZ,zB,zG,hS1,hS2]
   repeat' (first|refine zl 14 2 rfl rfl rfl ?_|refine zD ((yN u ⟨g,m,ar,⟨6,arg,t0⟩⟩ l1)) zh rfl rfl rfl tH ((qw ⟨g,m,ar,⟨6,arg,t0⟩⟩ hF t _ zwy62).bad hS2 u) ?_|(refine zn ?_;first|(refine zu 0 zh rfl rfl ((Zf ⟨g,m,ar,⟨6,arg,t0⟩⟩ m.locals _ h0).ok hS1) rfl rfl rfl rfl rfl ?_))|refine sK ?_|refine sC (fun _=>?_) (fun _=>?_)|fail)
   exact zF hw
  | ok p =>
   obtain ⟨⟨⟩,l2⟩:=p;have hw:(qZ g ar m ⟨6,arg,t0⟩) l=.ok ((),l2):=by simp [qZ,zB,zG,hS1,hS2]
   repeat' (first|(refine zn ?_;first|(refine zu 0 zh rfl rfl ((Zf ⟨g,m,ar,⟨6,arg,t0⟩⟩ m.locals _ h0).ok hS1) rfl rfl rfl rfl rfl ?_)|(refine zu 0 zh rfl rfl ((qw ⟨g,m,ar,⟨6,arg,t0⟩⟩ hF t _ zwy62).ok hS2) rfl rfl rfl rfl rfl ?_))|refine sK ?_|refine sC (fun _=>?_) (fun _=>?_)|fail)
   exact zX hw (yw (.inl rfl) tH)
theorem zw8 (g:Img) (hF:Fm g) (m:Me) (ar:List Ty) (arg:Int) (t0:Ty) (l:List Ty) (hl:l.length≤100) (h0:0≤arg):XC 76 [] (⟨g,m,ar,⟨7,arg,t0⟩⟩:RC) (qZ g ar m ⟨7,arg,t0⟩) uV l:=by
 intro u;refine zI zf Tryz.func76 rfl zws Tryz.ntmps76 zwy63 _ rfl (fun gB hw1=>?_);cases hS1:(zaN ⟨7,arg,t0⟩ m.locals) l with
 | error e =>
  have hw:(qZ g ar m ⟨7,arg,t0⟩) l=.error e:=by simp [qZ,zB,zG,hS1]
  repeat' (first|refine zl 6 2 rfl rfl rfl ?_|refine zD ((yN u ⟨g,m,ar,⟨7,arg,t0⟩⟩ l)) zh rfl rfl rfl tH ((Zf ⟨g,m,ar,⟨7,arg,t0⟩⟩ m.locals _ h0).bad hS1 u) ?_|refine sK ?_|refine sC (fun _=>?_) (fun _=>?_)|fail)
  exact zF hw
 | ok p =>
  obtain ⟨t,l1⟩:=p;have hl1:l1.length≤100:=by have:=zat hS1;omega
  cases hS2:(Qn m.max t) l1 with
  | error e =>
   have hw:(qZ g ar m ⟨7,arg,t0⟩) l=.error e:=by simp [qZ,zB,zG,hS1,hS2]
   repeat' (first|refine zl 8 2 rfl rfl rfl ?_|refine zD ((yN u ⟨g,m,ar,⟨7,arg,t0⟩⟩ l1)) zh rfl rfl rfl tH ((VR ⟨g,m,ar,⟨7,arg,t0⟩⟩ t _ zwy62).bad hS2 u) ?_|(refine zn ?_;first|(refine zu 0 zh rfl rfl ((Zf ⟨g,m,ar,⟨7,arg,t0⟩⟩ m.locals _ h0).ok hS1) rfl rfl rfl rfl rfl ?_))|refine sK ?_|refine sC (fun _=>?_) (fun _=>?_)|fail)
   exact zF hw
  | ok p =>
   obtain ⟨⟨⟩,l2⟩:=p;have hw:(qZ g ar m ⟨7,arg,t0⟩) l=.ok ((),l2):=by simp [qZ,zB,zG,hS1,hS2]
   repeat' (first|(refine zn ?_;first|(refine zu 0 zh rfl rfl ((Zf ⟨g,m,ar,⟨7,arg,t0⟩⟩ m.locals _ h0).ok hS1) rfl rfl rfl rfl rfl ?_)|(refine zu 0 zh rfl rfl ((VR ⟨g,m,ar,⟨7,arg,t0⟩⟩ t _ zwy62).ok hS2) rfl rfl rfl rfl rfl ?_))|refine sK ?_|refine sC (fun _=>?_) (fun _=>?_)|fail)
   exact zX hw (yw (.inl rfl) tH)
end Go.Cg
