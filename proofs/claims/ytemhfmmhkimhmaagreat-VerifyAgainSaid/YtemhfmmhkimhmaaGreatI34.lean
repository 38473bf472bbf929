/- A part of the walks by abstract values: no statement of its own. -/
import Derived.Test.YtemhfmmhkimhmaaGreatI30
set_option linter.unusedVariables false
set_option linter.unusedSimpArgs false
namespace Go.Cg
open Go.Proofs
set_option maxHeartbeats 20000000
theorem zvR (g:Img) (hF:Fm g) (m:Me) (ar:List Ty) (arg:Int) (t0:Ty) (l:List Ty) (hl:l.length<=100) (op:Int) (ho:op=13\/op=14\/op=15\/op=16\/op=17\/op=18\/op=19\/op=20\/op=25\/op=26\/op=27):XC 125 [] (⟨g,m,ar,⟨op,arg,t0⟩⟩:RC) (qG g m op) uV l:=by
 let c:RC:=⟨g,m,ar,⟨op,arg,t0⟩⟩
 rcases ho with rfl|rfl|rfl|rfl|rfl|rfl|rfl|rfl|rfl|rfl|rfl
 all_goals
  intro u;refine zI zf Tryz.func125 rfl zws Tryz.ntmps125 zwy63 _ rfl (fun gB hw1=>?_);cases hS1:(ZO) l with
  | error e =>
   have hw:(qG g m c.x.op) l=.error e:=by simp [qG,c,zB,zG,hS1]
   repeat' (first|refine zo 12 2 rfl rfl rfl ?_|refine zF ((yS u c l)) zi rfl rfl rfl tH ((YW c _ zwy62).bad hS1 u) ?_|refine sK ?_|refine sC (fun _=>?_) (fun _=>?_)|fail)
   exact zD hw
  | ok p =>
   obtain ⟨t,l1⟩:=p;have hl1:l1.length<=100:=by have:=zby hS1;omega
   cases hS2:(qg m.max [t]) l1 with
   | error e =>
    have hw:(qG g m c.x.op) l=.error e:=by simp [qG,c,zB,zG,hS1,hS2]
    repeat' (first|refine zo 12 4 rfl rfl rfl ?_|refine zF ((yS u c l1)) zi rfl rfl rfl tH ((zX c [t] _ zwy62 zwy63).bad hS2 u) ?_|(refine zu ?_;first|(refine zx 0 zi rfl rfl ((YW c _ zwy62).ok hS1) rfl rfl rfl rfl rfl ?_))|refine sK ?_|refine sC (fun _=>?_) (fun _=>?_)|fail)
    exact zD hw
   | ok p =>
    obtain ⟨⟨⟩,l2⟩:=p;have hw:(qG g m c.x.op) l=.ok ((),l2):=by simp [qG,c,zB,zG,hS1,hS2]
    repeat' (first|(refine zu ?_;first|(refine zx 0 zi rfl rfl ((YW c _ zwy62).ok hS1) rfl rfl rfl rfl rfl ?_)|(refine zx 0 zi rfl rfl ((zX c [t] _ zwy62 zwy63).ok hS2) rfl rfl rfl rfl rfl ?_))|refine sK ?_|refine sC (fun _=>?_) (fun _=>?_)|fail)
    exact yc hw (yD (.inl rfl) tH)
theorem zwk63 {G:Prop} (h:G:=by repeat' (first|(have:=b0;refine zo 15 2 rfl rfl rfl ?_)|(have:=b0;refine zF ((yS u c l)) zi rfl rfl rfl tH ((qw c hF (kTy 2) _ zwy62).bad hS1 u) ?_)|(have:=b1;refine zo 16 2 rfl rfl rfl ?_)|(have:=b1;refine zF ((yS u c l1)) zi rfl rfl rfl tH ((YQ c _ zwy62).bad hS2 u) ?_)|(have:=b2;refine zo 16 4 rfl rfl rfl ?_)|(have:=b2;refine zF ((yS u c l2)) zi rfl rfl rfl tH ((zX c [t] _ zwy62 zwy63).bad hS3 u) ?_)|(refine shC ?_;first|refine qC (zT 2) ?_)|(have:=b1;refine zu ?_;first|(refine zx 0 zi rfl rfl ((qw c hF (kTy 2) _ zwy62).ok hS1) rfl rfl rfl rfl rfl ?_))|(have:=b2;refine zu ?_;first|(refine zx 0 zi rfl rfl ((qw c hF (kTy 2) _ zwy62).ok hS1) rfl rfl rfl rfl rfl ?_)|(refine zx 0 zi rfl rfl ((YQ c _ zwy62).ok hS2) rfl rfl rfl rfl rfl ?_))|(have:=b3;refine zu ?_;first|(refine zx 0 zi rfl rfl ((qw c hF (kTy 2) _ zwy62).ok hS1) rfl rfl rfl rfl rfl ?_)|(refine zx 0 zi rfl rfl ((YQ c _ zwy62).ok hS2) rfl rfl rfl rfl rfl ?_)|(refine zx 0 zi rfl rfl ((zX c [t] _ zwy62 zwy63).ok hS3) rfl rfl rfl rfl rfl ?_))|refine sK ?_|refine sC (fun _=>?_) (fun _=>?_)|exact zD hw|exact yc hw (yD (.inl rfl) tH)|fail)):G:=h
theorem zvH (g:Img) (hF:Fm g) (m:Me) (ar:List Ty) (arg:Int) (t0:Ty) (l:List Ty) (hl:l.length<=100) (op:Int) (ho:op=21\/op=22):XC 125 [] (⟨g,m,ar,⟨op,arg,t0⟩⟩:RC) (qG g m op) uV l:=by
 let c:RC:=⟨g,m,ar,⟨op,arg,t0⟩⟩
 rcases ho with rfl|rfl
 all_goals
  intro u;refine zI zf Tryz.func125 rfl zws Tryz.ntmps125 zwy63 _ rfl (fun gB hw1=>?_);cases hS1:(YK g (kTy 2)) l with
  | error e =>
   have hw:(qG g m c.x.op) l=.error e:=by simp [qG,c,zB,zG,hS1]
   have b0:=();exact zwk63
  | ok p =>
   obtain ⟨⟨⟩,l1⟩:=p;have hl1:l1.length<=100:=by have:=VL hS1;omega
   cases hS2:(zdf) l1 with
   | error e =>
    have hw:(qG g m c.x.op) l=.error e:=by simp [qG,c,zB,zG,hS1,hS2]
    have b1:=();exact zwk63
   | ok p =>
    obtain ⟨t,l2⟩:=p;have hl2:l2.length<=100:=by have:=ze4 hS2;omega
    cases hS3:(qg m.max [t]) l2 with
    | error e =>
     have hw:(qG g m c.x.op) l=.error e:=by simp [qG,c,zB,zG,hS1,hS2,hS3]
     have b2:=();exact zwk63
    | ok p =>
     obtain ⟨⟨⟩,l3⟩:=p;have hw:(qG g m c.x.op) l=.ok ((),l3):=by simp [qG,c,zB,zG,hS1,hS2,hS3]
     have b3:=();exact zwk63
theorem zvK (g:Img) (hF:Fm g) (m:Me) (ar:List Ty) (arg:Int) (t0:Ty) (l:List Ty) (hl:l.length<=100) (op:Int) (ho:op=23\/op=24):XC 125 [] (⟨g,m,ar,⟨op,arg,t0⟩⟩:RC) (qG g m op) uV l:=by
 let c:RC:=⟨g,m,ar,⟨op,arg,t0⟩⟩
 rcases ho with rfl|rfl
 all_goals
  intro u;refine zI zf Tryz.func125 rfl zws Tryz.ntmps125 zwy63 _ rfl (fun gB hw1=>?_);cases hS1:(zdf) l with
  | error e =>
   have hw:(qG g m c.x.op) l=.error e:=by simp [qG,c,zB,zG,hS1]
   repeat' (first|refine zo 19 2 rfl rfl rfl ?_|refine zF ((yS u c l)) zi rfl rfl rfl tH ((YQ c _ zwy62).bad hS1 u) ?_|refine sK ?_|refine sC (fun _=>?_) (fun _=>?_)|fail)
   exact zD hw
  | ok p =>
   obtain ⟨t,l1⟩:=p;have hl1:l1.length<=100:=by have:=ze4 hS1;omega
   cases hS2:(qg m.max [t]) l1 with
   | error e =>
    have hw:(qG g m c.x.op) l=.error e:=by simp [qG,c,zB,zG,hS1,hS2]
    repeat' (first|refine zo 19 4 rfl rfl rfl ?_|refine zF ((yS u c l1)) zi rfl rfl rfl tH ((zX c [t] _ zwy62 zwy63).bad hS2 u) ?_|(refine zu ?_;first|(refine zx 0 zi rfl rfl ((YQ c _ zwy62).ok hS1) rfl rfl rfl rfl rfl ?_))|refine sK ?_|refine sC (fun _=>?_) (fun _=>?_)|fail)
    exact zD hw
   | ok p =>
    obtain ⟨⟨⟩,l2⟩:=p;have hw:(qG g m c.x.op) l=.ok ((),l2):=by simp [qG,c,zB,zG,hS1,hS2]
    repeat' (first|(refine zu ?_;first|(refine zx 0 zi rfl rfl ((YQ c _ zwy62).ok hS1) rfl rfl rfl rfl rfl ?_)|(refine zx 0 zi rfl rfl ((zX c [t] _ zwy62 zwy63).ok hS2) rfl rfl rfl rfl rfl ?_))|refine sK ?_|refine sC (fun _=>?_) (fun _=>?_)|fail)
    exact yc hw (yD (.inl rfl) tH)
theorem zwk64 {G:Prop} (h:G:=by repeat' (first|(have:=b0;refine zo 22 1 rfl rfl rfl ?_)|(have:=b0;refine zF ((yS u c l)) zi rfl rfl rfl tH ((YQ c _ zwy62).bad hS1 u) ?_)|(have:=b1;refine zo 23 3 rfl rfl rfl ?_)|(have:=b1;refine zF ((yS u c l1)) zi rfl rfl rfl tH ((zX c [kTy 2] _ zwy62 zwy63).bad hS2 u) ?_)|(refine shC ?_;first|refine qC (zT 2) ?_)|(have:=b1;refine zu ?_;first|(refine zx 0 zi rfl rfl ((YQ c _ zwy62).ok hS1) rfl rfl rfl rfl rfl ?_))|(have:=b2;refine zu ?_;first|(refine zx 0 zi rfl rfl ((YQ c _ zwy62).ok hS1) rfl rfl rfl rfl rfl ?_)|(refine zx 0 zi rfl rfl ((zX c [kTy 2] _ zwy62 zwy63).ok hS2) rfl rfl rfl rfl rfl ?_))|refine sK ?_|refine sC (fun _=>?_) (fun _=>?_)|exact zD hw|exact yc hw (yD (.inl rfl) tH)|fail)):G:=h
theorem zvo (g:Img) (hF:Fm g) (m:Me) (ar:List Ty) (arg:Int) (t0:Ty) (l:List Ty) (hl:l.length<=100) (op:Int) (ho:op=28\/op=30):XC 125 [] (⟨g,m,ar,⟨op,arg,t0⟩⟩:RC) (qG g m op) uV l:=by
 let c:RC:=⟨g,m,ar,⟨op,arg,t0⟩⟩
 rcases ho with rfl|rfl
 all_goals
  intro u;refine zI zf Tryz.func125 rfl zws Tryz.ntmps125 zwy63 _ rfl (fun gB hw1=>?_);cases hS1:(zdf) l with
  | error e =>
   have hw:(qG g m c.x.op) l=.error e:=by simp [qG,c,zB,zG,hS1]
   have b0:=();exact zwk64
  | ok p =>
   obtain ⟨t,l1⟩:=p;have hl1:l1.length<=100:=by have:=ze4 hS1;omega
   cases hS2:(qg m.max [kTy 2]) l1 with
   | error e =>
    have hw:(qG g m c.x.op) l=.error e:=by simp [qG,c,zB,zG,hS1,hS2]
    have b1:=();exact zwk64
   | ok p =>
    obtain ⟨⟨⟩,l2⟩:=p;have hw:(qG g m c.x.op) l=.ok ((),l2):=by simp [qG,c,zB,zG,hS1,hS2]
    have b2:=();exact zwk64
theorem zwk65 {G:Prop} (h:G:=by repeat' (first|(have:=b0;refine zo 25 1 rfl rfl rfl ?_)|(have:=b0;refine zF ((yS u ⟨g,m,ar,⟨29,arg,t0⟩⟩ l)) zi rfl rfl rfl tH ((YQ ⟨g,m,ar,⟨29,arg,t0⟩⟩ _ zwy62).bad hS1 u) ?_)|(have:=b1;refine zo 26 3 rfl rfl rfl ?_)|(have:=b1;refine zF ((yS u ⟨g,m,ar,⟨29,arg,t0⟩⟩ l1)) zi rfl rfl rfl tH ((zX ⟨g,m,ar,⟨29,arg,t0⟩⟩ [kTy 3] _ zwy62 zwy63).bad hS2 u) ?_)|(refine shC ?_;first|refine qC (zT 3) ?_)|(have:=b1;refine zu ?_;first|(refine zx 0 zi rfl rfl ((YQ ⟨g,m,ar,⟨29,arg,t0⟩⟩ _ zwy62).ok hS1) rfl rfl rfl rfl rfl ?_))|(have:=b2;refine zu ?_;first|(refine zx 0 zi rfl rfl ((YQ ⟨g,m,ar,⟨29,arg,t0⟩⟩ _ zwy62).ok hS1) rfl rfl rfl rfl rfl ?_)|(refine zx 0 zi rfl rfl ((zX ⟨g,m,ar,⟨29,arg,t0⟩⟩ [kTy 3] _ zwy62 zwy63).ok hS2) rfl rfl rfl rfl rfl ?_))|refine sK ?_|refine sC (fun _=>?_) (fun _=>?_)|exact zD hw|exact yc hw (yD (.inl rfl) tH)|fail)):G:=h
theorem zu3 (g:Img) (hF:Fm g) (m:Me) (ar:List Ty) (arg:Int) (t0:Ty) (l:List Ty) (hl:l.length<=100):XC 125 [] (⟨g,m,ar,⟨29,arg,t0⟩⟩:RC) (qG g m 29) uV l:=by
 intro u;refine zI zf Tryz.func125 rfl zws Tryz.ntmps125 zwy63 _ rfl (fun gB hw1=>?_);cases hS1:(zdf) l with
 | error e =>
  have hw:(qG g m 29) l=.error e:=by simp [qG,zB,zG,hS1]
  have b0:=();exact zwk65
 | ok p =>
  obtain ⟨t,l1⟩:=p;have hl1:l1.length<=100:=by have:=ze4 hS1;omega
  cases hS2:(qg m.max [kTy 3]) l1 with
  | error e =>
   have hw:(qG g m 29) l=.error e:=by simp [qG,zB,zG,hS1,hS2]
   have b1:=();exact zwk65
  | ok p =>
   obtain ⟨⟨⟩,l2⟩:=p;have hw:(qG g m 29) l=.ok ((),l2):=by simp [qG,zB,zG,hS1,hS2]
   have b2:=();exact zwk65
theorem zwk66 {G:Prop} (h:G:=by repeat' (first|(have:=b0;refine zo 28 1 rfl rfl rfl ?_)|(have:=b0;refine zF ((yS u ⟨g,m,ar,⟨31,arg,t0⟩⟩ l)) zi rfl rfl rfl tH ((VP ⟨g,m,ar,⟨31,arg,t0⟩⟩ _ zwy62).bad hS1 u) ?_)|(have:=b1;refine zo 29 3 rfl rfl rfl ?_)|(have:=b1;refine zF ((yS u ⟨g,m,ar,⟨31,arg,t0⟩⟩ l1)) zi rfl rfl rfl tH ((zX ⟨g,m,ar,⟨31,arg,t0⟩⟩ [kTy 2] _ zwy62 zwy63).bad hS2 u) ?_)|(refine shC ?_;first|refine qC (zT 2) ?_)|(have:=b1;refine zu ?_;first|(refine zx 0 zi rfl rfl ((VP ⟨g,m,ar,⟨31,arg,t0⟩⟩ _ zwy62).ok hS1) rfl rfl rfl rfl rfl ?_))|(have:=b2;refine zu ?_;first|(refine zx 0 zi rfl rfl ((VP ⟨g,m,ar,⟨31,arg,t0⟩⟩ _ zwy62).ok hS1) rfl rfl rfl rfl rfl ?_)|(refine zx 0 zi rfl rfl ((zX ⟨g,m,ar,⟨31,arg,t0⟩⟩ [kTy 2] _ zwy62 zwy63).ok hS2) rfl rfl rfl rfl rfl ?_))|refine sK ?_|refine sC (fun _=>?_) (fun _=>?_)|exact zD hw|exact yc hw (yD (.inl rfl) tH)|fail)):G:=h
theorem zve (g:Img) (hF:Fm g) (m:Me) (ar:List Ty) (arg:Int) (t0:Ty) (l:List Ty) (hl:l.length<=100):XC 125 [] (⟨g,m,ar,⟨31,arg,t0⟩⟩:RC) (qG g m 31) uV l:=by
 intro u;refine zI zf Tryz.func125 rfl zws Tryz.ntmps125 zwy63 _ rfl (fun gB hw1=>?_);cases hS1:(ZC) l with
 | error e =>
  have hw:(qG g m 31) l=.error e:=by simp [qG,zB,zG,hS1]
  have b0:=();exact zwk66
 | ok p =>
  obtain ⟨⟨⟩,l1⟩:=p;have hl1:l1.length<=100:=by have:=zeB hS1;omega
  cases hS2:(qg m.max [kTy 2]) l1 with
  | error e =>
   have hw:(qG g m 31) l=.error e:=by simp [qG,zB,zG,hS1,hS2]
   have b1:=();exact zwk66
  | ok p =>
   obtain ⟨⟨⟩,l2⟩:=p;have hw:(qG g m 31) l=.ok ((),l2):=by simp [qG,zB,zG,hS1,hS2]
   have b2:=();exact zwk66
theorem zwk67 {G:Prop} (h:G:=by repeat' (first|(have:=b0;refine zo 32 1 rfl rfl rfl ?_)|(have:=b0;refine zF ((yS u c l)) zi rfl rfl rfl tH ((YW c _ zwy62).bad hS1 u) ?_)|(have:=b1;refine zo 33 3 rfl rfl rfl ?_)|(have:=b1;refine zF ((yS u c l1)) zi rfl rfl rfl tH ((zX c [kTy 2] _ zwy62 zwy63).bad hS2 u) ?_)|(refine shC ?_;first|refine qC (zT 2) ?_)|(have:=b1;refine zu ?_;first|(refine zx 0 zi rfl rfl ((YW c _ zwy62).ok hS1) rfl rfl rfl rfl rfl ?_))|(have:=b2;refine zu ?_;first|(refine zx 0 zi rfl rfl ((YW c _ zwy62).ok hS1) rfl rfl rfl rfl rfl ?_)|(refine zx 0 zi rfl rfl ((zX c [kTy 2] _ zwy62 zwy63).ok hS2) rfl rfl rfl rfl rfl ?_))|refine sK ?_|refine sC (fun _=>?_) (fun _=>?_)|exact zD hw|exact yc hw (yD (.inl rfl) tH)|fail)):G:=h
theorem zvt (g:Img) (hF:Fm g) (m:Me) (ar:List Ty) (arg:Int) (t0:Ty) (l:List Ty) (hl:l.length<=100) (op:Int) (ho:op=32\/op=33):XC 125 [] (⟨g,m,ar,⟨op,arg,t0⟩⟩:RC) (qG g m op) uV l:=by
 let c:RC:=⟨g,m,ar,⟨op,arg,t0⟩⟩
 rcases ho with rfl|rfl
 all_goals
  intro u;refine zI zf Tryz.func125 rfl zws Tryz.ntmps125 zwy63 _ rfl (fun gB hw1=>?_);cases hS1:(ZO) l with
  | error e =>
   have hw:(qG g m c.x.op) l=.error e:=by simp [qG,c,zB,zG,hS1]
   have b0:=();exact zwk67
  | ok p =>
   obtain ⟨t,l1⟩:=p;have hl1:l1.length<=100:=by have:=zby hS1;omega
   cases hS2:(qg m.max [kTy 2]) l1 with
   | error e =>
    have hw:(qG g m c.x.op) l=.error e:=by simp [qG,c,zB,zG,hS1,hS2]
    have b1:=();exact zwk67
   | ok p =>
    obtain ⟨⟨⟩,l2⟩:=p;have hw:(qG g m c.x.op) l=.ok ((),l2):=by simp [qG,c,zB,zG,hS1,hS2]
    have b2:=();exact zwk67
end Go.Cg
