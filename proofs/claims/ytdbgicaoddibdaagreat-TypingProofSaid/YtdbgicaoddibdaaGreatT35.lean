/- A part of the walks by abstract values: no statement of its own. -/
import Derived.Test.YtdbgicaoddibdaaGreatT28
set_option linter.unusedVariables false
set_option linter.unusedSimpArgs false
namespace Go.Cg
open Go.Proofs
set_option maxHeartbeats 20000000
theorem zvh (g:Img) (hF:Fm g) (m:Me) (ar:List Ty) (arg:Int) (t0:Ty) (l:List Ty) (hl:l.length≤100) (op:Int) (ho:op=13∨op=14∨op=15∨op=16∨op=17∨op=18∨op=19∨op=20∨op=25∨op=26∨op=27):XC 77 [] (⟨g,m,ar,⟨op,arg,t0⟩⟩:RC) (qF g m op) uV l:=by
 let c:RC:=⟨g,m,ar,⟨op,arg,t0⟩⟩
 rcases ho with rfl|rfl|rfl|rfl|rfl|rfl|rfl|rfl|rfl|rfl|rfl
 all_goals
  intro u;refine zI zf Tryz.func77 rfl zws Tryz.ntmps77 zwy63 _ rfl (fun gB hw1=>?_);cases hS1:(Zv) l with
  | error e =>
   have hw:(qF g m c.x.op) l=.error e:=by simp [qF,c,zB,zG,hS1]
   repeat' (first|refine zl 12 2 rfl rfl rfl ?_|refine zD ((yN u c l)) zh rfl rfl rfl tH ((YA c _ zwy62).bad hS1 u) ?_|refine sK ?_|refine sC (fun _=>?_) (fun _=>?_)|fail)
   exact zF hw
  | ok p =>
   obtain ⟨t,l1⟩:=p;have hl1:l1.length≤100:=by have:=za2 hS1;omega
   cases hS2:(yX m.max [t]) l1 with
   | error e =>
    have hw:(qF g m c.x.op) l=.error e:=by simp [qF,c,zB,zG,hS1,hS2]
    repeat' (first|refine zl 12 4 rfl rfl rfl ?_|refine zD ((yN u c l1)) zh rfl rfl rfl tH ((zU c [t] _ zwy62 zwy63).bad hS2 u) ?_|(refine zn ?_;first|(refine zu 0 zh rfl rfl ((YA c _ zwy62).ok hS1) rfl rfl rfl rfl rfl ?_))|refine sK ?_|refine sC (fun _=>?_) (fun _=>?_)|fail)
    exact zF hw
   | ok p =>
    obtain ⟨⟨⟩,l2⟩:=p;have hw:(qF g m c.x.op) l=.ok ((),l2):=by simp [qF,c,zB,zG,hS1,hS2]
    repeat' (first|(refine zn ?_;first|(refine zu 0 zh rfl rfl ((YA c _ zwy62).ok hS1) rfl rfl rfl rfl rfl ?_)|(refine zu 0 zh rfl rfl ((zU c [t] _ zwy62 zwy63).ok hS2) rfl rfl rfl rfl rfl ?_))|refine sK ?_|refine sC (fun _=>?_) (fun _=>?_)|fail)
    exact zX hw (yw (.inl rfl) tH)
theorem zwk54 {G:Prop} (h:G:=by repeat' (first|(have:=b0;refine zl 15 2 rfl rfl rfl ?_)|(have:=b0;refine zD ((yN u c l)) zh rfl rfl rfl tH ((qw c hF (kTy 2) _ zwy62).bad hS1 u) ?_)|(have:=b1;refine zl 16 2 rfl rfl rfl ?_)|(have:=b1;refine zD ((yN u c l1)) zh rfl rfl rfl tH ((Yu c _ zwy62).bad hS2 u) ?_)|(have:=b2;refine zl 16 4 rfl rfl rfl ?_)|(have:=b2;refine zD ((yN u c l2)) zh rfl rfl rfl tH ((zU c [t] _ zwy62 zwy63).bad hS3 u) ?_)|(refine shC ?_;first|refine qC (zQ 2) ?_)|(have:=b1;refine zn ?_;first|(refine zu 0 zh rfl rfl ((qw c hF (kTy 2) _ zwy62).ok hS1) rfl rfl rfl rfl rfl ?_))|(have:=b2;refine zn ?_;first|(refine zu 0 zh rfl rfl ((qw c hF (kTy 2) _ zwy62).ok hS1) rfl rfl rfl rfl rfl ?_)|(refine zu 0 zh rfl rfl ((Yu c _ zwy62).ok hS2) rfl rfl rfl rfl rfl ?_))|(have:=b3;refine zn ?_;first|(refine zu 0 zh rfl rfl ((qw c hF (kTy 2) _ zwy62).ok hS1) rfl rfl rfl rfl rfl ?_)|(refine zu 0 zh rfl rfl ((Yu c _ zwy62).ok hS2) rfl rfl rfl rfl rfl ?_)|(refine zu 0 zh rfl rfl ((zU c [t] _ zwy62 zwy63).ok hS3) rfl rfl rfl rfl rfl ?_))|refine sK ?_|refine sC (fun _=>?_) (fun _=>?_)|exact zF hw|exact zX hw (yw (.inl rfl) tH)|fail)):G:=h
theorem zvJ (g:Img) (hF:Fm g) (m:Me) (ar:List Ty) (arg:Int) (t0:Ty) (l:List Ty) (hl:l.length≤100) (op:Int) (ho:op=21∨op=22):XC 77 [] (⟨g,m,ar,⟨op,arg,t0⟩⟩:RC) (qF g m op) uV l:=by
 let c:RC:=⟨g,m,ar,⟨op,arg,t0⟩⟩
 rcases ho with rfl|rfl
 all_goals
  intro u;refine zI zf Tryz.func77 rfl zws Tryz.ntmps77 zwy63 _ rfl (fun gB hw1=>?_);cases hS1:(YL g (kTy 2)) l with
  | error e =>
   have hw:(qF g m c.x.op) l=.error e:=by simp [qF,c,zB,zG,hS1]
   have b0:=();exact zwk54
  | ok p =>
   obtain ⟨⟨⟩,l1⟩:=p;have hl1:l1.length≤100:=by have:=Vx hS1;omega
   cases hS2:(zc5) l1 with
   | error e =>
    have hw:(qF g m c.x.op) l=.error e:=by simp [qF,c,zB,zG,hS1,hS2]
    have b1:=();exact zwk54
   | ok p =>
    obtain ⟨t,l2⟩:=p;have hl2:l2.length≤100:=by have:=zfq hS2;omega
    cases hS3:(yX m.max [t]) l2 with
    | error e =>
     have hw:(qF g m c.x.op) l=.error e:=by simp [qF,c,zB,zG,hS1,hS2,hS3]
     have b2:=();exact zwk54
    | ok p =>
     obtain ⟨⟨⟩,l3⟩:=p;have hw:(qF g m c.x.op) l=.ok ((),l3):=by simp [qF,c,zB,zG,hS1,hS2,hS3]
     have b3:=();exact zwk54
theorem zu3 (g:Img) (hF:Fm g) (m:Me) (ar:List Ty) (arg:Int) (t0:Ty) (l:List Ty) (hl:l.length≤100) (op:Int) (ho:op=23∨op=24):XC 77 [] (⟨g,m,ar,⟨op,arg,t0⟩⟩:RC) (qF g m op) uV l:=by
 let c:RC:=⟨g,m,ar,⟨op,arg,t0⟩⟩
 rcases ho with rfl|rfl
 all_goals
  intro u;refine zI zf Tryz.func77 rfl zws Tryz.ntmps77 zwy63 _ rfl (fun gB hw1=>?_);cases hS1:(zc5) l with
  | error e =>
   have hw:(qF g m c.x.op) l=.error e:=by simp [qF,c,zB,zG,hS1]
   repeat' (first|refine zl 19 2 rfl rfl rfl ?_|refine zD ((yN u c l)) zh rfl rfl rfl tH ((Yu c _ zwy62).bad hS1 u) ?_|refine sK ?_|refine sC (fun _=>?_) (fun _=>?_)|fail)
   exact zF hw
  | ok p =>
   obtain ⟨t,l1⟩:=p;have hl1:l1.length≤100:=by have:=zfq hS1;omega
   cases hS2:(yX m.max [t]) l1 with
   | error e =>
    have hw:(qF g m c.x.op) l=.error e:=by simp [qF,c,zB,zG,hS1,hS2]
    repeat' (first|refine zl 19 4 rfl rfl rfl ?_|refine zD ((yN u c l1)) zh rfl rfl rfl tH ((zU c [t] _ zwy62 zwy63).bad hS2 u) ?_|(refine zn ?_;first|(refine zu 0 zh rfl rfl ((Yu c _ zwy62).ok hS1) rfl rfl rfl rfl rfl ?_))|refine sK ?_|refine sC (fun _=>?_) (fun _=>?_)|fail)
    exact zF hw
   | ok p =>
    obtain ⟨⟨⟩,l2⟩:=p;have hw:(qF g m c.x.op) l=.ok ((),l2):=by simp [qF,c,zB,zG,hS1,hS2]
    repeat' (first|(refine zn ?_;first|(refine zu 0 zh rfl rfl ((Yu c _ zwy62).ok hS1) rfl rfl rfl rfl rfl ?_)|(refine zu 0 zh rfl rfl ((zU c [t] _ zwy62 zwy63).ok hS2) rfl rfl rfl rfl rfl ?_))|refine sK ?_|refine sC (fun _=>?_) (fun _=>?_)|fail)
    exact zX hw (yw (.inl rfl) tH)
theorem zwk55 {G:Prop} (h:G:=by repeat' (first|(have:=b0;refine zl 22 1 rfl rfl rfl ?_)|(have:=b0;refine zD ((yN u c l)) zh rfl rfl rfl tH ((Yu c _ zwy62).bad hS1 u) ?_)|(have:=b1;refine zl 23 3 rfl rfl rfl ?_)|(have:=b1;refine zD ((yN u c l1)) zh rfl rfl rfl tH ((zU c [kTy 2] _ zwy62 zwy63).bad hS2 u) ?_)|(refine shC ?_;first|refine qC (zQ 2) ?_)|(have:=b1;refine zn ?_;first|(refine zu 0 zh rfl rfl ((Yu c _ zwy62).ok hS1) rfl rfl rfl rfl rfl ?_))|(have:=b2;refine zn ?_;first|(refine zu 0 zh rfl rfl ((Yu c _ zwy62).ok hS1) rfl rfl rfl rfl rfl ?_)|(refine zu 0 zh rfl rfl ((zU c [kTy 2] _ zwy62 zwy63).ok hS2) rfl rfl rfl rfl rfl ?_))|refine sK ?_|refine sC (fun _=>?_) (fun _=>?_)|exact zF hw|exact zX hw (yw (.inl rfl) tH)|fail)):G:=h
theorem zve (g:Img) (hF:Fm g) (m:Me) (ar:List Ty) (arg:Int) (t0:Ty) (l:List Ty) (hl:l.length≤100) (op:Int) (ho:op=28∨op=30):XC 77 [] (⟨g,m,ar,⟨op,arg,t0⟩⟩:RC) (qF g m op) uV l:=by
 let c:RC:=⟨g,m,ar,⟨op,arg,t0⟩⟩
 rcases ho with rfl|rfl
 all_goals
  intro u;refine zI zf Tryz.func77 rfl zws Tryz.ntmps77 zwy63 _ rfl (fun gB hw1=>?_);cases hS1:(zc5) l with
  | error e =>
   have hw:(qF g m c.x.op) l=.error e:=by simp [qF,c,zB,zG,hS1]
   have b0:=();exact zwk55
  | ok p =>
   obtain ⟨t,l1⟩:=p;have hl1:l1.length≤100:=by have:=zfq hS1;omega
   cases hS2:(yX m.max [kTy 2]) l1 with
   | error e =>
    have hw:(qF g m c.x.op) l=.error e:=by simp [qF,c,zB,zG,hS1,hS2]
    have b1:=();exact zwk55
   | ok p =>
    obtain ⟨⟨⟩,l2⟩:=p;have hw:(qF g m c.x.op) l=.ok ((),l2):=by simp [qF,c,zB,zG,hS1,hS2]
    have b2:=();exact zwk55
theorem zwk56 {G:Prop} (h:G:=by repeat' (first|(have:=b0;refine zl 25 1 rfl rfl rfl ?_)|(have:=b0;refine zD ((yN u ⟨g,m,ar,⟨29,arg,t0⟩⟩ l)) zh rfl rfl rfl tH ((Yu ⟨g,m,ar,⟨29,arg,t0⟩⟩ _ zwy62).bad hS1 u) ?_)|(have:=b1;refine zl 26 3 rfl rfl rfl ?_)|(have:=b1;refine zD ((yN u ⟨g,m,ar,⟨29,arg,t0⟩⟩ l1)) zh rfl rfl rfl tH ((zU ⟨g,m,ar,⟨29,arg,t0⟩⟩ [kTy 3] _ zwy62 zwy63).bad hS2 u) ?_)|(refine shC ?_;first|refine qC (zQ 3) ?_)|(have:=b1;refine zn ?_;first|(refine zu 0 zh rfl rfl ((Yu ⟨g,m,ar,⟨29,arg,t0⟩⟩ _ zwy62).ok hS1) rfl rfl rfl rfl rfl ?_))|(have:=b2;refine zn ?_;first|(refine zu 0 zh rfl rfl ((Yu ⟨g,m,ar,⟨29,arg,t0⟩⟩ _ zwy62).ok hS1) rfl rfl rfl rfl rfl ?_)|(refine zu 0 zh rfl rfl ((zU ⟨g,m,ar,⟨29,arg,t0⟩⟩ [kTy 3] _ zwy62 zwy63).ok hS2) rfl rfl rfl rfl rfl ?_))|refine sK ?_|refine sC (fun _=>?_) (fun _=>?_)|exact zF hw|exact zX hw (yw (.inl rfl) tH)|fail)):G:=h
theorem zvB (g:Img) (hF:Fm g) (m:Me) (ar:List Ty) (arg:Int) (t0:Ty) (l:List Ty) (hl:l.length≤100):XC 77 [] (⟨g,m,ar,⟨29,arg,t0⟩⟩:RC) (qF g m 29) uV l:=by
 intro u;refine zI zf Tryz.func77 rfl zws Tryz.ntmps77 zwy63 _ rfl (fun gB hw1=>?_);cases hS1:(zc5) l with
 | error e =>
  have hw:(qF g m 29) l=.error e:=by simp [qF,zB,zG,hS1]
  have b0:=();exact zwk56
 | ok p =>
  obtain ⟨t,l1⟩:=p;have hl1:l1.length≤100:=by have:=zfq hS1;omega
  cases hS2:(yX m.max [kTy 3]) l1 with
  | error e =>
   have hw:(qF g m 29) l=.error e:=by simp [qF,zB,zG,hS1,hS2]
   have b1:=();exact zwk56
  | ok p =>
   obtain ⟨⟨⟩,l2⟩:=p;have hw:(qF g m 29) l=.ok ((),l2):=by simp [qF,zB,zG,hS1,hS2]
   have b2:=();exact zwk56
theorem zwk57 {G:Prop} (h:G:=by repeat' (first|(have:=b0;refine zl 28 1 rfl rfl rfl ?_)|(have:=b0;refine zD ((yN u ⟨g,m,ar,⟨31,arg,t0⟩⟩ l)) zh rfl rfl rfl tH ((Vj ⟨g,m,ar,⟨31,arg,t0⟩⟩ _ zwy62).bad hS1 u) ?_)|(have:=b1;refine zl 29 3 rfl rfl rfl ?_)|(have:=b1;refine zD ((yN u ⟨g,m,ar,⟨31,arg,t0⟩⟩ l1)) zh rfl rfl rfl tH ((zU ⟨g,m,ar,⟨31,arg,t0⟩⟩ [kTy 2] _ zwy62 zwy63).bad hS2 u) ?_)|(refine shC ?_;first|refine qC (zQ 2) ?_)|(have:=b1;refine zn ?_;first|(refine zu 0 zh rfl rfl ((Vj ⟨g,m,ar,⟨31,arg,t0⟩⟩ _ zwy62).ok hS1) rfl rfl rfl rfl rfl ?_))|(have:=b2;refine zn ?_;first|(refine zu 0 zh rfl rfl ((Vj ⟨g,m,ar,⟨31,arg,t0⟩⟩ _ zwy62).ok hS1) rfl rfl rfl rfl rfl ?_)|(refine zu 0 zh rfl rfl ((zU ⟨g,m,ar,⟨31,arg,t0⟩⟩ [kTy 2] _ zwy62 zwy63).ok hS2) rfl rfl rfl rfl rfl ?_))|refine sK ?_|refine sC (fun _=>?_) (fun _=>?_)|exact zF hw|exact zX hw (yw (.inl rfl) tH)|fail)):G:=h
theorem zvr (g:Img) (hF:Fm g) (m:Me) (ar:List Ty) (arg:Int) (t0:Ty) (l:List Ty) (hl:l.length≤100):XC 77 [] (⟨g,m,ar,⟨31,arg,t0⟩⟩:RC) (qF g m 31) uV l:=by
 intro u;refine zI zf Tryz.func77 rfl zws Tryz.ntmps77 zwy63 _ rfl (fun gB hw1=>?_);cases hS1:(Zi) l with
 | error e =>
  have hw:(qF g m 31) l=.error e:=by simp [qF,zB,zG,hS1]
  have b0:=();exact zwk57
 | ok p =>
  obtain ⟨⟨⟩,l1⟩:=p;have hl1:l1.length≤100:=by have:=zes hS1;omega
  cases hS2:(yX m.max [kTy 2]) l1 with
  | error e =>
   have hw:(qF g m 31) l=.error e:=by simp [qF,zB,zG,hS1,hS2]
   have b1:=();exact zwk57
  | ok p =>
   obtain ⟨⟨⟩,l2⟩:=p;have hw:(qF g m 31) l=.ok ((),l2):=by simp [qF,zB,zG,hS1,hS2]
   have b2:=();exact zwk57
theorem zwk58 {G:Prop} (h:G:=by repeat' (first|(have:=b0;refine zl 32 1 rfl rfl rfl ?_)|(have:=b0;refine zD ((yN u c l)) zh rfl rfl rfl tH ((YA c _ zwy62).bad hS1 u) ?_)|(have:=b1;refine zl 33 3 rfl rfl rfl ?_)|(have:=b1;refine zD ((yN u c l1)) zh rfl rfl rfl tH ((zU c [kTy 2] _ zwy62 zwy63).bad hS2 u) ?_)|(refine shC ?_;first|refine qC (zQ 2) ?_)|(have:=b1;refine zn ?_;first|(refine zu 0 zh rfl rfl ((YA c _ zwy62).ok hS1) rfl rfl rfl rfl rfl ?_))|(have:=b2;refine zn ?_;first|(refine zu 0 zh rfl rfl ((YA c _ zwy62).ok hS1) rfl rfl rfl rfl rfl ?_)|(refine zu 0 zh rfl rfl ((zU c [kTy 2] _ zwy62 zwy63).ok hS2) rfl rfl rfl rfl rfl ?_))|refine sK ?_|refine sC (fun _=>?_) (fun _=>?_)|exact zF hw|exact zX hw (yw (.inl rfl) tH)|fail)):G:=h
theorem zvI (g:Img) (hF:Fm g) (m:Me) (ar:List Ty) (arg:Int) (t0:Ty) (l:List Ty) (hl:l.length≤100) (op:Int) (ho:op=32∨op=33):XC 77 [] (⟨g,m,ar,⟨op,arg,t0⟩⟩:RC) (qF g m op) uV l:=by
 let c:RC:=⟨g,m,ar,⟨op,arg,t0⟩⟩
 rcases ho with rfl|rfl
 all_goals
  intro u;refine zI zf Tryz.func77 rfl zws Tryz.ntmps77 zwy63 _ rfl (fun gB hw1=>?_);cases hS1:(Zv) l with
  | error e =>
   have hw:(qF g m c.x.op) l=.error e:=by simp [qF,c,zB,zG,hS1]
   have b0:=();exact zwk58
  | ok p =>
   obtain ⟨t,l1⟩:=p;have hl1:l1.length≤100:=by have:=za2 hS1;omega
   cases hS2:(yX m.max [kTy 2]) l1 with
   | error e =>
    have hw:(qF g m c.x.op) l=.error e:=by simp [qF,c,zB,zG,hS1,hS2]
    have b1:=();exact zwk58
   | ok p =>
    obtain ⟨⟨⟩,l2⟩:=p;have hw:(qF g m c.x.op) l=.ok ((),l2):=by simp [qF,c,zB,zG,hS1,hS2]
    have b2:=();exact zwk58
end Go.Cg
