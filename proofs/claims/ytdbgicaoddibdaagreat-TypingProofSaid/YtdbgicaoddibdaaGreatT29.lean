/- A part of the walks by abstract values: no statement of its own. -/
import Derived.Test.YtdbgicaoddibdaaGreatT25
import Derived.Test.YtdbgicaoddibdaaGreatT28
import Derived.Test.YtdbgicaoddibdaaGreatT24
import Derived.Test.YtdbgicaoddibdaaGreatT21
set_option linter.unusedVariables false
set_option linter.unusedSimpArgs false
namespace Go.Cg
open Go.Proofs
set_option maxHeartbeats 20000000
theorem zkP (x:Pt) (at_:Int):ACall Tryz.prog 176 [.agg [pi x.f,pi x.t],pi at_] (pb (zev at_ x)):=by
 refine zi zf Tryz.func176 rfl zws Tryz.ntmps176 zwy63 _ rfl (fun hw gB hgB=>?_)
 repeat' (first|refine sA ?_|refine sC (fun _=>?_) (fun _=>?_)|fail)
 all_goals (refine ay ?_;simp_all [zC,zev];try omega)
theorem zwk23 {G:Prop} (h:G:=by repeat' (first|(refine shC ?_;first|(have:=b0;refine qC ch ?_))|(refine shX ?_;first|(have:=b0;refine qX hej ?_))|(have:=b0;refine yC ?_;first|refine XI zf rfl rfl rfl rfl rfl rfl rfl zwy105 zwy64 rfl rfl ?_)|(have:=b1;refine zn ?_;first|(refine yD (mrP (zdI at_ l)) (mrP (XU (zdI at_ l))) [] [(5,.own 0)] [0] zh rfl rfl rfl ?_ tS rfl rfl rfl hso ?_;· (repeat (first|exact zA|refine aB ?_)))|(refine yD (mrP (XU (zdI at_ l))) ([(0,.dead)]) [] [] [0] zh rfl rfl rfl ?_ tS rfl rfl rfl hco ?_;· (repeat (first|exact zA|refine aB ?_))))|refine sK ?_|refine sC (fun _=>?_) (fun _=>?_)|(have:=b0;exact ⟨j + 1,hlj,tD,tS,⟨Zh rfl (by rw [hst];simp) zA,rfl⟩⟩)|(have:=b2;exact ⟨k + 1,hlt,tD,tS,⟨Zh rfl (by rw [hnext,List.take_of_length_le (by omega)]) zA,rfl⟩⟩)|exact retq rfl rfl|fail)):G:=h
theorem zaM (l:List Cl) (at_:Int) (hl:l.length≤6) (hs:∀ x∈zdI at_ l,SmP x):ACall Tryz.prog 153 [cls l,pi at_] (pts (qM l at_)):=by
 have hlen:(zdI at_ l).length < 20:=by have:=zds at_ l l.length;rw [zdI];omega
 have hso:∀ us,ACallM _ _ _ _ _ _ _:=fun us=>zpK (zdI at_ l) hlen hs us
 have hco:∀ us,ACallM _ _ _ _ _ _ _:=fun us=>zkU (XU (zdI at_ l)) (by rw [zgy];exact hlen) us
 refine zi zf Tryz.func153 rfl zws Tryz.ntmps153 zwy63 _ rfl (fun hw gB hgB=>?_)
 repeat' (first|refine zha (t:=5) 0 197 4 zwy67 rfl rfl ?_|refine sA ?_|refine sC (fun _=>?_) (fun _=>?_)|fail)
 refine zW (fun k:Nat=>[(1,.pv (pi at_)),(5,.own 0),(10,.pv (cls l)),(11,.pv (pi l.length)),(12,.pv (pi k))]) (fun k=>mrP (zcn at_ l k)) (fun k=>k≤l.length) (fun k=>l.length - k) 0 zwy62 (tS) ⟨Zh rfl rfl zA,rfl⟩ ?_;rintro k hk;by_cases hlt:k < l.length
 ·have he:(l.map Zg)[k]?=some (Zg (l.getD k default)):=zdE hlt;have cp:=za5 k (l.getD k default);have hal:=zds at_ l k;have hpl:=ziY k (l.getD k default);have hnext:zcn at_ l (k + 1)=zcn at_ l k++(yE k (l.getD k default)).filter (zev at_):=rfl;obtain ⟨p,hp⟩:∃ p,p=yE k (l.getD k default):=⟨_,rfl⟩
  rw [←hp] at cp hpl hnext
  repeat' (first|(refine shC ?_;first|refine qC cp ?_)|(refine shX ?_;first|refine qX he ?_)|refine sK ?_|refine sC (fun _=>?_) (fun _=>?_)|fail)
  refine zW (fun j:Nat=>[(1,.pv (pi at_)),(5,.own 0),(10,.pv (cls l)),(11,.pv (pi l.length)),(12,.pv (pi k)),(19,.pv (pts p)),(20,.pv (pi p.length)),(21,.pv (pi j))]) (fun j=>mrP (zcn at_ l k++(p.take j).filter (zev at_))) (fun j=>j≤p.length) (fun j=>p.length - j) 0 zwy62 (tS) ⟨Zh rfl zwy63 zA,rfl⟩ ?_;rintro j hj;by_cases hlj:j < p.length
  ·have hej:=zY (f:=yP) hlj;obtain ⟨x,hx⟩:∃ x,x=p[j]:=⟨_,rfl⟩
   have hst:(p.take (j + 1)).filter (zev at_)=(p.take j).filter (zev at_)++if zev at_ x then [x] else []:=by
    rw [List.take_succ_eq_append_getElem hlj,List.filter_append,←hx];cases h:zev at_ x <;> simp [List.filter,h]
   rw [←hx] at hej;have ch:=zkP x at_;have hfl:=List.length_filter_le (zev at_) (p.take j);have htl:(p.take j).length≤3:=by simp;omega
   cases hh:zev at_ x
   ·rw [hh] at ch hst;have b0:=();exact zwk23
   ·rw [hh] at ch hst;have b0:=();exact zwk23
  ·have b2:=();exact zwk23
 ·have hk2:k=l.length:=by omega
  subst hk2;have b1:=();exact zwk23
def BdS {α:Type} (max:Int) (act:SM α):Prop:=∀ l a l',act l=.ok (a,l')→((l'.length:Int)≤max∨l'.length≤l.length)∧l'.length≤l.length + 1
theorem zfr {α:Type} {max:Int} {act:SM α} (h:LeS act):BdS max act:=fun l a l' hx=>⟨.inr (h l a l' hx),by have:=h l a l' hx;omega⟩
theorem Xg {α β:Type} {max:Int} {x:SM α} {f:α→SM β} (hx:LeS x) (hf:∀ a,BdS max (f a)):BdS max (x >>= f):=fun l b l' h=>by
 rw [zB] at h;cases hxl:x l with
 | error e=>rw [hxl] at h;cases h
 | ok p =>
  obtain ⟨a,l1⟩:=p;rw [hxl] at h;have h1:=hf a l1 b l' h;have h2:=hx l a l1 hxl;exact ⟨h1.1.imp (fun h=>h) (fun h=>by omega),by omega⟩
theorem zi8 (max:Int) (t:Ty):BdS max (yX max [t]):=fun l a l' h=>by
 unfold yX at h;split at h
 ·rename_i hm;cases h;simp at hm ⊢;omega
 ·cases h
theorem zwE (max:Int):BdS max (do let t ←YU;yX max [t,t]):=fun l a l' h=>by
 rcases Yn l with e|⟨t,l1,e,e2⟩
 ·rw [zgj e] at h;cases h
 ·rw [zxg e] at h;unfold yX at h;split at h
  ·rename_i hm;cases h;subst e2;simp at hm ⊢;omega
  ·cases h
theorem zuz:LeS zcb:=fun l a l' h=>by cases h;simp
theorem zpd:LeS Zv:=fun l a l' h=>za2 h
theorem one_le:LeS zc5:=fun l a l' h=>zfq h
theorem zkK:LeS Zi:=fun l a l' h=>zes h
theorem zu1 (x:Ins) (ls:List Ty):LeS (zaN x ls):=fun l a l' h=>zat h
theorem zj2 (g:Img) (f:Fd) (it:Bool):LeS (Zq g f it):=fun l a l' h=>zbO h
theorem zux (x:Ins):LeS (WE x):=fun l a l' h=>zbt h
theorem zpy (max:Int) (t:Ty):BdS max (Qn max t):=Xg (WT _ _) fun _=>zi8 _ _
theorem zrr (max:Int) (c:Me):BdS max (QE max c):=by
 unfold QE;split
 ·exact zi8 _ _
 ·exact zfr (zb9 _)
theorem zwV {α:Type} {max:Int} {p:Prop} [Decidable p] {x y:SM α} (hx:BdS max x) (hy:BdS max y):BdS max (if p then x else y):=by split <;> assumption
theorem zwl (g:Img) (ar:List Ty) (m:Me) (x:Ins):BdS m.max (doS g ar m x):=by
 unfold doS qZ qF Zy qK yH Zd yF yA yu ZA yK
 try dsimp only
 repeat' (first|with_reducible exact zi8 _ _|with_reducible exact zwE _|with_reducible exact zfr (zb9 _)|with_reducible exact zfr (WT _ _)|with_reducible exact zfr (zlx _ _)|with_reducible exact zfr (zi3 _ _)|with_reducible exact zfr (zj2 _ _ _)|with_reducible exact zfr zkK|with_reducible exact zfr zuz|with_reducible exact zpy _ _|with_reducible exact zrr _ _|with_reducible exact zfr zbh|with_reducible refine Xg (zb9 _) fun _=>?_|with_reducible refine Xg (WT _ _) fun _=>?_|with_reducible refine Xg (zbh) fun _=>?_|with_reducible refine Xg (zlx _ _) fun _=>?_|with_reducible refine Xg (zi3 _ _) fun _=>?_|with_reducible refine Xg (zpd) fun _=>?_|with_reducible refine Xg (one_le) fun _=>?_|with_reducible refine Xg (zkK) fun _=>?_|with_reducible refine Xg (zu1 _ _) fun _=>?_|with_reducible refine Xg (zj2 _ _ _) fun _=>?_|with_reducible refine Xg (zux _) fun _=>?_|with_reducible refine Xg (empty_le _) fun _=>?_|with_reducible refine zwV ?_ ?_|split|dsimp only)
set_option maxHeartbeats 20000000
theorem ztk (g:Img) (hF:Fm g) (m:Me) (ar:List Ty) (arg:Int) (t0:Ty) (l:List Ty) (hl:l.length≤100):XC 86 [] (⟨g,m,ar,⟨8,arg,t0⟩⟩:RC) (yK g m ⟨8,arg,t0⟩) uV l:=by
 intro u;refine zI zf Tryz.func86 rfl zws Tryz.ntmps86 zwy63 _ rfl (fun gB hw1=>?_);cases hS1:(yX m.max [kTy 2]) l with
 | error e =>
  have hw:(yK g m ⟨8,arg,t0⟩) l=.error e:=by simp [yK,zB,zG,hS1]
  repeat' (first|refine zl 2 3 rfl rfl rfl ?_|refine zD ((yN u ⟨g,m,ar,⟨8,arg,t0⟩⟩ l)) zh rfl rfl rfl tH ((zU ⟨g,m,ar,⟨8,arg,t0⟩⟩ [kTy 2] _ zwy62 zwy63).bad hS1 u) ?_|(refine shC ?_;first|refine qC (zQ 2) ?_)|refine sK ?_|refine sC (fun _=>?_) (fun _=>?_)|fail)
  exact zF hw
 | ok p =>
  obtain ⟨⟨⟩,l1⟩:=p;have hw:(yK g m ⟨8,arg,t0⟩) l=.ok ((),l1):=by simp [yK,zB,zG,hS1]
  repeat' (first|(refine shC ?_;first|refine qC (zQ 2) ?_)|(refine zn ?_;first|(refine zu 0 zh rfl rfl ((zU ⟨g,m,ar,⟨8,arg,t0⟩⟩ [kTy 2] _ zwy62 zwy63).ok hS1) rfl rfl rfl rfl rfl ?_))|refine sK ?_|refine sC (fun _=>?_) (fun _=>?_)|fail)
  exact zX hw (yw (.inl rfl) tH)
theorem zuf (g:Img) (hF:Fm g) (m:Me) (ar:List Ty) (arg:Int) (t0:Ty) (l:List Ty) (hl:l.length≤100) (op:Int) (ho:op=9∨op=74):XC 86 [] (⟨g,m,ar,⟨op,arg,t0⟩⟩:RC) (yK g m ⟨op,arg,t0⟩) uV l:=by
 let c:RC:=⟨g,m,ar,⟨op,arg,t0⟩⟩
 rcases ho with rfl|rfl
 all_goals
  intro u;refine zI zf Tryz.func86 rfl zws Tryz.ntmps86 zwy63 _ rfl (fun gB hw1=>?_);cases hS1:(yX m.max [kTy 3]) l with
  | error e =>
   have hw:(yK g m ⟨c.x.op,arg,t0⟩) l=.error e:=by simp [yK,c,zB,zG,hS1]
   repeat' (first|refine zl 5 3 rfl rfl rfl ?_|refine zD ((yN u c l)) zh rfl rfl rfl tH ((zU c [kTy 3] _ zwy62 zwy63).bad hS1 u) ?_|(refine shC ?_;first|refine qC (zQ 3) ?_)|refine sK ?_|refine sC (fun _=>?_) (fun _=>?_)|fail)
   exact zF hw
  | ok p =>
   obtain ⟨⟨⟩,l1⟩:=p;have hw:(yK g m ⟨c.x.op,arg,t0⟩) l=.ok ((),l1):=by simp [yK,c,zB,zG,hS1]
   repeat' (first|(refine shC ?_;first|refine qC (zQ 3) ?_)|(refine zn ?_;first|(refine zu 0 zh rfl rfl ((zU c [kTy 3] _ zwy62 zwy63).ok hS1) rfl rfl rfl rfl rfl ?_))|refine sK ?_|refine sC (fun _=>?_) (fun _=>?_)|fail)
   exact zX hw (yw (.inl rfl) tH)
theorem zsk (g:Img) (hF:Fm g) (m:Me) (ar:List Ty) (arg:Int) (t0:Ty) (l:List Ty) (hl:l.length≤100):XC 86 [] (⟨g,m,ar,⟨10,arg,t0⟩⟩:RC) (yK g m ⟨10,arg,t0⟩) uV l:=by
 intro u;refine zI zf Tryz.func86 rfl zws Tryz.ntmps86 zwy63 _ rfl (fun gB hw1=>?_);cases hS1:(yX m.max [kTy 8]) l with
 | error e =>
  have hw:(yK g m ⟨10,arg,t0⟩) l=.error e:=by simp [yK,zB,zG,hS1]
  repeat' (first|refine zl 7 3 rfl rfl rfl ?_|refine zD ((yN u ⟨g,m,ar,⟨10,arg,t0⟩⟩ l)) zh rfl rfl rfl tH ((zU ⟨g,m,ar,⟨10,arg,t0⟩⟩ [kTy 8] _ zwy62 zwy63).bad hS1 u) ?_|(refine shC ?_;first|refine qC (zQ 8) ?_)|refine sK ?_|refine sC (fun _=>?_) (fun _=>?_)|fail)
  exact zF hw
 | ok p =>
  obtain ⟨⟨⟩,l1⟩:=p;have hw:(yK g m ⟨10,arg,t0⟩) l=.ok ((),l1):=by simp [yK,zB,zG,hS1]
  repeat' (first|(refine shC ?_;first|refine qC (zQ 8) ?_)|(refine zn ?_;first|(refine zu 0 zh rfl rfl ((zU ⟨g,m,ar,⟨10,arg,t0⟩⟩ [kTy 8] _ zwy62 zwy63).ok hS1) rfl rfl rfl rfl rfl ?_))|refine sK ?_|refine sC (fun _=>?_) (fun _=>?_)|fail)
  exact zX hw (yw (.inl rfl) tH)
theorem zsx (g:Img) (hF:Fm g) (m:Me) (ar:List Ty) (arg:Int) (t0:Ty) (l:List Ty) (hl:l.length≤100):XC 86 [] (⟨g,m,ar,⟨11,arg,t0⟩⟩:RC) (yK g m ⟨11,arg,t0⟩) uV l:=by
 intro u;refine zI zf Tryz.func86 rfl zws Tryz.ntmps86 zwy63 _ rfl (fun gB hw1=>?_);cases hS1:(YU) l with
 | error e =>
  have hw:(yK g m ⟨11,arg,t0⟩) l=.error e:=by simp [yK,zB,zG,hS1]
  repeat' (first|refine zl 9 1 rfl rfl rfl ?_|refine zD ((yN u ⟨g,m,ar,⟨11,arg,t0⟩⟩ l)) zh rfl rfl rfl tH ((yg ⟨g,m,ar,⟨11,arg,t0⟩⟩ _ zwy62).bad hS1 u) ?_|refine sK ?_|refine sC (fun _=>?_) (fun _=>?_)|fail)
  exact zF hw
 | ok p =>
  obtain ⟨t,l1⟩:=p;have hl1:l1.length≤100:=by have:=Xx hS1;omega
  cases hS2:(yX m.max [t,t]) l1 with
  | error e =>
   have hw:(yK g m ⟨11,arg,t0⟩) l=.error e:=by simp [yK,zB,zG,hS1,hS2]
   repeat' (first|refine zl 10 4 rfl rfl rfl ?_|refine zD ((yN u ⟨g,m,ar,⟨11,arg,t0⟩⟩ l1)) zh rfl rfl rfl tH ((zU ⟨g,m,ar,⟨11,arg,t0⟩⟩ [t,t] _ zwy62 zwy63).bad hS2 u) ?_|(refine zn ?_;first|(refine zu 0 zh rfl rfl ((yg ⟨g,m,ar,⟨11,arg,t0⟩⟩ _ zwy62).ok hS1) rfl rfl rfl rfl rfl ?_))|refine sK ?_|refine sC (fun _=>?_) (fun _=>?_)|fail)
   exact zF hw
  | ok p =>
   obtain ⟨⟨⟩,l2⟩:=p;have hw:(yK g m ⟨11,arg,t0⟩) l=.ok ((),l2):=by simp [yK,zB,zG,hS1,hS2]
   repeat' (first|(refine zn ?_;first|(refine zu 0 zh rfl rfl ((yg ⟨g,m,ar,⟨11,arg,t0⟩⟩ _ zwy62).ok hS1) rfl rfl rfl rfl rfl ?_)|(refine zu 0 zh rfl rfl ((zU ⟨g,m,ar,⟨11,arg,t0⟩⟩ [t,t] _ zwy62 zwy63).ok hS2) rfl rfl rfl rfl rfl ?_))|refine sK ?_|refine sC (fun _=>?_) (fun _=>?_)|fail)
   exact zX hw (yw (.inl rfl) tH)
theorem zrk (g:Img) (hF:Fm g) (m:Me) (ar:List Ty) (arg:Int) (t0:Ty) (l:List Ty) (hl:l.length≤100):XC 86 [] (⟨g,m,ar,⟨12,arg,t0⟩⟩:RC) (yK g m ⟨12,arg,t0⟩) uV l:=by
 intro u;refine zI zf Tryz.func86 rfl zws Tryz.ntmps86 zwy63 _ rfl (fun gB hw1=>?_);cases hS1:(YU) l with
 | error e =>
  have hw:(yK g m ⟨12,arg,t0⟩) l=.error e:=by simp [yK,zB,zG,hS1]
  repeat' (first|refine zl 12 1 rfl rfl rfl ?_|refine zD ((yN u ⟨g,m,ar,⟨12,arg,t0⟩⟩ l)) zh rfl rfl rfl tH ((yg ⟨g,m,ar,⟨12,arg,t0⟩⟩ _ zwy62).bad hS1 u) ?_|refine sK ?_|refine sC (fun _=>?_) (fun _=>?_)|fail)
  exact zF hw
 | ok p =>
  obtain ⟨t,l1⟩:=p;have hl1:l1.length≤100:=by have:=Xx hS1;omega
  have hw:(yK g m ⟨12,arg,t0⟩) l=.ok ((),l1):=by simp [yK,zB,zG,hS1]
  repeat' (first|(refine zn ?_;first|(refine zu 0 zh rfl rfl ((yg ⟨g,m,ar,⟨12,arg,t0⟩⟩ _ zwy62).ok hS1) rfl rfl rfl rfl rfl ?_))|refine sK ?_|refine sC (fun _=>?_) (fun _=>?_)|fail)
  exact zX hw (yw (.inl rfl) tH)
theorem zsg (g:Img) (hF:Fm g) (m:Me) (ar:List Ty) (arg:Int) (t0:Ty) (l:List Ty) (hl:l.length≤100):XC 86 [] (⟨g,m,ar,⟨75,arg,t0⟩⟩:RC) (yK g m ⟨75,arg,t0⟩) uV l:=by
 intro u;refine zI zf Tryz.func86 rfl zws Tryz.ntmps86 zwy63 _ rfl (fun gB hw1=>?_);cases hS1:(YL g (kTy 3)) l with
 | error e =>
  have hw:(yK g m ⟨75,arg,t0⟩) l=.error e:=by simp [yK,zB,zG,hS1]
  repeat' (first|refine zl 14 2 rfl rfl rfl ?_|refine zD ((yN u ⟨g,m,ar,⟨75,arg,t0⟩⟩ l)) zh rfl rfl rfl tH ((qw ⟨g,m,ar,⟨75,arg,t0⟩⟩ hF (kTy 3) _ zwy62).bad hS1 u) ?_|(refine shC ?_;first|refine qC (zQ 3) ?_)|refine sK ?_|refine sC (fun _=>?_) (fun _=>?_)|fail)
  exact zF hw
 | ok p =>
  obtain ⟨⟨⟩,l1⟩:=p;have hl1:l1.length≤100:=by have:=Vx hS1;omega
  have hw:(yK g m ⟨75,arg,t0⟩) l=.ok ((),l1):=by simp [yK,zB,zG,hS1]
  repeat' (first|(refine shC ?_;first|refine qC (zQ 3) ?_)|(refine zn ?_;first|(refine zu 0 zh rfl rfl ((qw ⟨g,m,ar,⟨75,arg,t0⟩⟩ hF (kTy 3) _ zwy62).ok hS1) rfl rfl rfl rfl rfl ?_))|refine sK ?_|refine sC (fun _=>?_) (fun _=>?_)|fail)
  exact zX hw (yw (.inl rfl) tH)
theorem zsL (g:Img) (hF:Fm g) (m:Me) (ar:List Ty) (arg:Int) (t0:Ty) (l:List Ty) (hl:l.length≤100) (op:Int) (ho:op=1∨op=47):XC 86 [] (⟨g,m,ar,⟨op,arg,t0⟩⟩:RC) (yK g m ⟨op,arg,t0⟩) uV l:=by
 let c:RC:=⟨g,m,ar,⟨op,arg,t0⟩⟩
 rcases ho with rfl|rfl
 all_goals
  intro u;refine zI zf Tryz.func86 rfl zws Tryz.ntmps86 zwy63 _ rfl (fun gB hw1=>?_);have hw:(yK g m ⟨c.x.op,arg,t0⟩) l=.ok ((),l):=by simp [yK,c,zB,zG]
  repeat' (first|refine sK ?_|refine sC (fun _=>?_) (fun _=>?_)|fail)
  exact zX hw (yw (.inl rfl) tH)
theorem zwk64 {G:Prop} (h:G:=by repeat' (first|(have:=b0;refine zl 17 8 rfl rfl rfl ?_)|(have:=b0;refine zD ((yN u ⟨g,m,ar,⟨67,arg,t0⟩⟩ l)) zh rfl rfl rfl tH ((zU ⟨g,m,ar,⟨67,arg,t0⟩⟩ [⟨9,arg,0,false⟩] _ zwy62 zwy63).bad hS4 u) ?_)|(have:=b1;refine zl 16 10 rfl rfl rfl ?_)|(have:=b2;refine zD ([]) zh rfl rfl rfl tH (yc zwy95 8) ?_)|(have:=b3;refine zD ([]) zh rfl rfl rfl tH (yc zwy66 8) ?_)|(refine shC ?_;first|refine qC ca ?_|(have:=b4;refine qC cb ?_)|(have:=b5;refine zy rfl (zJ rfl rfl (zH zwy95 8)) rfl rfl ?_)|(have:=b5;refine zq rfl (zJ rfl rfl (zH zwy95 8)) rfl rfl ?_))|(have:=b6;refine zn ?_;first|(refine aA 0 (cm.ok em) ?_))|(have:=b7;refine zn ?_;first|(refine zu 0 zh rfl rfl ((zU ⟨g,m,ar,⟨67,arg,t0⟩⟩ [⟨9,arg,0,false⟩] _ zwy62 zwy63).ok hS4) rfl rfl rfl rfl rfl ?_)|(refine aA 0 (cm.ok em) ?_))|refine sK ?_|refine sC (fun _=>?_) (fun _=>?_)|exact zF hw|exact zX hw (yw (.inl rfl) tH)|fail)):G:=h
theorem zqU (g:Img) (hF:Fm g) (m:Me) (ar:List Ty) (arg:Int) (t0:Ty) (l:List Ty) (hl:l.length≤100) (h0:0≤arg) (h1:arg.toNat < g.methods.length):XC 86 [] (⟨g,m,ar,⟨67,arg,t0⟩⟩:RC) (yK g m ⟨67,arg,t0⟩) uV l:=by
 intro u;refine zI zf Tryz.func86 rfl zws Tryz.ntmps86 zwy63 _ rfl (fun gB hw1=>?_);have cm:XC 125 [] (⟨g,m,ar,⟨67,arg,t0⟩⟩:RC) (pure (mAt g arg):SM Me) (fun d=>.pv (yh d)) l:=zaU _ l h0 h1;have em:(pure (mAt g arg):SM Me) l=.ok (mAt g arg,l):=rfl;obtain ⟨d,hd⟩:∃ d,mAt g arg=d:=⟨_,rfl⟩
 rw [hd] at cm em;have ca:=YQ d 4;have cb:=YQ d 16;cases hC1:(qL d.flags 4)
 ·rw [hC1] at ca;cases hC2:(qL d.flags 16)
  ·rw [hC2] at cb;cases hS4:(yX m.max [⟨9,arg,0,false⟩]) l with
   | error e =>
    have hw:(yK g m ⟨67,arg,t0⟩) l=.error e:=by simp [yK,hd,zB,zG,hC1,hC2,zL,emptyS,hS4]
    have b0:=();have b4:=();have b5:=();have b6:=();exact zwk64
   | ok p =>
    obtain ⟨⟨⟩,l4⟩:=p;have hw:(yK g m ⟨67,arg,t0⟩) l=.ok ((),l4):=by simp [yK,hd,zB,zG,hC1,hC2,zL,emptyS,hS4]
    have b4:=();have b5:=();have b7:=();exact zwk64
  ·rw [hC2] at cb;have hw:(yK g m ⟨67,arg,t0⟩) l=.error 8:=by simp [yK,hd,zB,zG,hC1,hC2,zL,emptyS]
   have b1:=();have b2:=();have b4:=();have b6:=();exact zwk64
 ·rw [hC1] at ca;have hw:(yK g m ⟨67,arg,t0⟩) l=.error 8:=by simp [yK,hd,zB,zG,hC1,zL,emptyS]
  have b1:=();have b3:=();have b6:=();exact zwk64
theorem zwk65 {G:Prop} (h:G:=by repeat' (first|(have:=b0;refine zl 4 6 rfl rfl rfl ?_)|(have:=b1;refine zD ([]) zh rfl rfl rfl tH (yc zwy121 9) ?_)|(have:=b2;refine zl 3 6 rfl rfl rfl ?_)|(have:=b2;refine zD ((yN u ⟨g,m,ar,⟨46,arg,t0⟩⟩ l)) zh rfl rfl rfl tH ((qw ⟨g,m,ar,⟨46,arg,t0⟩⟩ hF (m.ret) _ zwy62).bad hS2 u) ?_)|(have:=b3;refine zD ([]) zh rfl rfl rfl tH (yc (by simpa using hN3) 9) ?_)|refine zy rfl (aj (ps:=(yO m.ret))) rfl rfl ?_|refine zq rfl (aj (ps:=(yO m.ret))) rfl rfl ?_|(refine shC ?_;first|(have:=b4;refine zy rfl (zJ rfl rfl (zH zwy121 9)) rfl rfl ?_)|(have:=b4;refine zq rfl (zJ rfl rfl (zH zwy121 9)) rfl rfl ?_)|(have:=b5;refine zy rfl (zJ rfl rfl (zH (by simpa using hN3) 9)) rfl rfl ?_)|(have:=b5;refine zq rfl (zJ rfl rfl (zH (by simpa using hN3) 9)) rfl rfl ?_))|(have:=b6;refine zn ?_;first|(refine zu 0 zh rfl rfl ((qw ⟨g,m,ar,⟨46,arg,t0⟩⟩ hF (m.ret) _ zwy62).ok hS2) rfl rfl rfl rfl rfl ?_))|refine sK ?_|refine sC (fun _=>?_) (fun _=>?_)|exact zaA hw|exact zfE hw (zhO (.inl rfl) tH)|fail)):G:=h
theorem zv4 (g:Img) (hF:Fm g) (m:Me) (ar:List Ty) (arg:Int) (t0:Ty) (l:List Ty) (hl:l.length≤100) (u:Value):Qe Tryz.prog 85 [.box 0 0] (yN u (⟨g,m,ar,⟨46,arg,t0⟩⟩:RC) l) (zo7 u (⟨g,m,ar,⟨46,arg,t0⟩⟩:RC) ((ZA g m 46) l)):=by
 revert u;intro u;refine zI zf Tryz.func85 rfl zws Tryz.ntmps85 zwy63 _ rfl (fun gB hw1=>?_);cases hC1:(m.ret.kind != 1)
 ·skip;cases hN2:(l.length==0)
  ·have hw:(ZA g m 46) l=.error 9:=by simp [ZA,zB,zG,hC1,zL,emptyS,hN2]
   have b0:=();have b1:=();exact zwk65
  ·skip;have hw:(ZA g m 46) l=.ok ((),[]):=by simp [ZA,zB,zG,hC1,zL,emptyS,hN2,zcb]
   have b4:=();exact zwk65
 ·skip;cases hS2:(YL g (m.ret)) l with
  | error e =>
   have hw:(ZA g m 46) l=.error e:=by simp [ZA,zB,zG,hC1,hS2]
   have b2:=();exact zwk65
  | ok p =>
   obtain ⟨⟨⟩,l2⟩:=p;have hl2:l2.length≤100:=by have:=Vx hS2;omega
   cases hN3:(l2.length==0)
   ·have hw:(ZA g m 46) l=.error 9:=by simp [ZA,zB,zG,hC1,hS2,zL,emptyS,hN3]
    have b0:=();have b3:=();have b6:=();exact zwk65
   ·skip;have hw:(ZA g m 46) l=.ok ((),[]):=by simp [ZA,zB,zG,hC1,hS2,zL,emptyS,hN3,zcb]
    have b5:=();have b6:=();exact zwk65
theorem zwk66 {G:Prop} (h:G:=by repeat' (first|(have:=b0;refine zl 6 1 rfl rfl rfl ?_)|(have:=b0;refine zD ((yN u ⟨g,m,ar,⟨69,arg,t0⟩⟩ l)) zh rfl rfl rfl tH ((yg ⟨g,m,ar,⟨69,arg,t0⟩⟩ _ zwy62).bad hS1 u) ?_)|(have:=b1;refine zl 6 3 rfl rfl rfl ?_)|(have:=b1;refine zD ([]) zh rfl rfl rfl tH (yc zwy89 10) ?_)|(refine shC ?_;first|(have:=b2;refine qC cx ?_)|(have:=b3;refine zy rfl (zJ rfl rfl (zH zwy89 10)) rfl rfl ?_)|(have:=b3;refine zq rfl (zJ rfl rfl (zH zwy89 10)) rfl rfl ?_))|(have:=b2;refine zn ?_;first|(refine zu 0 zh rfl rfl ((yg ⟨g,m,ar,⟨69,arg,t0⟩⟩ _ zwy62).ok hS1) rfl rfl rfl rfl rfl ?_))|refine sK ?_|refine sC (fun _=>?_) (fun _=>?_)|exact zaA hw|exact zfE hw (zhO (.inl rfl) tH)|fail)):G:=h
theorem zva (g:Img) (hF:Fm g) (m:Me) (ar:List Ty) (arg:Int) (t0:Ty) (l:List Ty) (hl:l.length≤100) (u:Value):Qe Tryz.prog 85 [.box 0 0] (yN u (⟨g,m,ar,⟨69,arg,t0⟩⟩:RC) l) (zo7 u (⟨g,m,ar,⟨69,arg,t0⟩⟩:RC) ((ZA g m 69) l)):=by
 revert u;intro u;refine zI zf Tryz.func85 rfl zws Tryz.ntmps85 zwy63 _ rfl (fun gB hw1=>?_);cases hS1:(YU) l with
 | error e =>
  have hw:(ZA g m 69) l=.error e:=by simp [ZA,zB,zG,hS1]
  have b0:=();exact zwk66
 | ok p =>
  obtain ⟨t,l1⟩:=p;have hl1:l1.length≤100:=by have:=Xx hS1;omega
  have cx:=qQ t;cases hC3:(object t)
  ·rw [hC3] at cx;have hw:(ZA g m 69) l=.error 10:=by simp [ZA,zB,zG,hS1,hC3,zL,emptyS]
   have b1:=();have b2:=();exact zwk66
  ·rw [hC3] at cx;have hw:(ZA g m 69) l=.ok ((),[]):=by simp [ZA,zB,zG,hS1,hC3,zL,emptyS,zcb]
   have b2:=();have b3:=();exact zwk66
theorem zwk67 {G:Prop} (h:G:=by repeat' (first|(have:=b0;refine zl 8 2 rfl rfl rfl ?_)|(have:=b0;refine zD ((yN u ⟨g,m,ar,⟨73,arg,t0⟩⟩ l)) zh rfl rfl rfl tH ((qw ⟨g,m,ar,⟨73,arg,t0⟩⟩ hF (kTy 2) _ zwy62).bad hS1 u) ?_)|(have:=b1;refine zl 9 6 rfl rfl rfl ?_)|(have:=b1;refine zD ([]) zh rfl rfl rfl tH (yc zwy121 9) ?_)|(refine shC ?_;first|(have:=b2;refine zy rfl (zJ rfl rfl (zH zwy121 9)) rfl rfl ?_)|(have:=b2;refine zq rfl (zJ rfl rfl (zH zwy121 9)) rfl rfl ?_)|refine qC (zQ 2) ?_)|(have:=b3;refine zn ?_;first|(refine zu 0 zh rfl rfl ((qw ⟨g,m,ar,⟨73,arg,t0⟩⟩ hF (kTy 2) _ zwy62).ok hS1) rfl rfl rfl rfl rfl ?_))|refine sK ?_|refine sC (fun _=>?_) (fun _=>?_)|exact zaA hw|exact zfE hw (zhO (.inl rfl) tH)|fail)):G:=h
theorem zvf (g:Img) (hF:Fm g) (m:Me) (ar:List Ty) (arg:Int) (t0:Ty) (l:List Ty) (hl:l.length≤100) (u:Value):Qe Tryz.prog 85 [.box 0 0] (yN u (⟨g,m,ar,⟨73,arg,t0⟩⟩:RC) l) (zo7 u (⟨g,m,ar,⟨73,arg,t0⟩⟩:RC) ((ZA g m 73) l)):=by
 revert u;intro u;refine zI zf Tryz.func85 rfl zws Tryz.ntmps85 zwy63 _ rfl (fun gB hw1=>?_);cases hS1:(YL g (kTy 2)) l with
 | error e =>
  have hw:(ZA g m 73) l=.error e:=by simp [ZA,zB,zG,hS1]
  have b0:=();exact zwk67
 | ok p =>
  obtain ⟨⟨⟩,l1⟩:=p;have hl1:l1.length≤100:=by have:=Vx hS1;omega
  cases hN2:(l1.length==0)
  ·have hw:(ZA g m 73) l=.error 9:=by simp [ZA,zB,zG,hS1,zL,emptyS,hN2]
   have b1:=();have b3:=();exact zwk67
  ·skip;have hw:(ZA g m 73) l=.ok ((),[]):=by simp [ZA,zB,zG,hS1,zL,emptyS,hN2,zcb]
   have b2:=();have b3:=();exact zwk67
theorem zvK (g:Img) (hF:Fm g) (m:Me) (ar:List Ty) (arg:Int) (t0:Ty) (l:List Ty) (hl:l.length≤100) (op:Int) (ho:op=70∨op=71∨op=72) (u:Value):Qe Tryz.prog 85 [.box 0 0] (yN u (⟨g,m,ar,⟨op,arg,t0⟩⟩:RC) l) (zo7 u (⟨g,m,ar,⟨op,arg,t0⟩⟩:RC) ((ZA g m op) l)):=by
 let c:RC:=⟨g,m,ar,⟨op,arg,t0⟩⟩
 rcases ho with rfl|rfl|rfl
 all_goals
  revert u;intro u;refine zI zf Tryz.func85 rfl zws Tryz.ntmps85 zwy63 _ rfl (fun gB hw1=>?_);have hw:(ZA g m c.x.op) l=.ok ((),[]):=by simp [ZA,c,zB,zG,zcb]
  repeat' (first|refine sK ?_|refine sC (fun _=>?_) (fun _=>?_)|fail)
  exact zfE hw (zhO (.inl rfl) tH)
def Zb (c:List Pt) (at_:Int):Nat:=(c.takeWhile fun x=>x.p==1&&x.f==at_).length
def zwN (x y:Pt):Bool:=x.c==y.c&&(x.p==y.p&&true)
def zan:List Pt→List Pt→Bool
 | [],[]=>true
 | x::a,y::b=>zwN x y&&zan a b
 | _,_=>false
def zk4 (b:List Pt) (to:Int) (a:List Pt):Bool:=(List.range (Zb b to + 1)).any fun k=>zan (b.drop k) a
def zgG (l:List Cl) (i to:Int):Bool:=zk4 (qM l to) to (qM l i)
def zwK (l:List Cl) (r:Pt):Bool:=r.p==3||r.p==2&&(l.getD r.c.toNat default).kind != 1&&(l.getD r.c.toNat default).kind != 2
def Vd (l:List Cl) (b:List Pt) (to:Int):List Pt→Bool
 | []=>zk4 b to []
 | r::a=>if zk4 b to (r::a) then true else if zwK l r then false else Vd l b to a
def zjl (l:List Cl) (i to:Int):Bool:=Vd l (qM l to) to (qM l i)
def YN (m:Me) (i:Int):Int:=if decide (1≤(qm m i).op)&&decide ((qm m i).op≤75) then (ofI (qm m i).op).2.2 else 0
def opV (m:Me) (i:Int):Int:=if decide (i < 0)||decide ((m.code.length:Int)≤i) then 0 else (qm m i).op
def Qr (w:Int):Bool:=w==0||w==2
def ZU (w:Int):Bool:=w==1||(w==2||w==4)
def onV (m:Me) (i:Int):Int :=
 if Qr (YN m i)&&!decide (i + 1 < (m.code.length:Int)) then 11
 else if Qr (YN m i)&&!zgG m.clauses i (i + 1) then 12
 else if !ZU (YN m i) then 0
 else if YN m i==4 then (if zjl m.clauses i (qm m i).arg then 0 else 12)
 else if zgG m.clauses i (qm m i).arg then 0 else 12
def clV (m:Me) (r:Pt):Cl:=m.clauses.getD r.c.toNat default
def Xo (m:Me) (r:Pt) (a b:Int):Bool:=r.p==2&&((clV m r).kind==a||(clV m r).kind==b)
def ZR (m:Me) (i:Int):Int :=
 if opV m i==46 then (if (qM m.clauses i).isEmpty then 0 else 12)
 else if opV m i==70 then (match (qM m.clauses i).find? (fun r=>r.p != 1) with|none=>12|some r=>if Xo m r 1 2 then 0 else 12)
 else if opV m i==72 then (match qM m.clauses i with|[]=>12|r::_=>if Xo m r 3 4 then 0 else 12)
 else if opV m i==73 then (match qM m.clauses i with|[]=>12|r::_=>if r.p==3&&(clV m r).hf==i + 1 then 0 else 12)
 else 0
def WU (g:Img) (m:Me) (i:Int):Me:=mAt g (qm m (i + 1)).arg
def tailV (g:Img) (m:Me) (i:Int):Int :=
 if opV m i != 47 then 0
 else if !((opV m (i + 1)==43||opV m (i + 1)==44)&&opV m (i + 2)==46&&(qM m.clauses i).isEmpty) then 11
 else if !tyB (WU g m i).ret m.ret then 10
 else if (Xp g (WU g m i)).any (fun t=>t.ref) then 13 else 0
def zaW (m:Me) (i:Int):Int:=if opV m i==68&&opV m (i - 1) != 67 then 11 else 0
def Vq (g:Img) (m:Me) (i:Int):Int :=
 if onV m i != 0 then onV m i else if ZR m i != 0 then ZR m i else if tailV g m i != 0 then tailV g m i else zaW m i
def zex (m:Me):Bool:=!(qM m.clauses 0).any fun r=>r.p != 1||(clV m r).tf != 0
def zbH (g:Img) (m:Me):Int × Int :=
 match (List.range m.code.length).find? (fun i:Nat=>Vq g m i != 0) with
 | some i=>(((i:Nat):Int),Vq g m i)
 | none=>if zex m then (0,0) else (0,12)
structure VS where
 st:List (List Ty)
 kn:List Bool
 wk:Int
def qo (i:Int) (l:List Ty) (s:VS):VS:=⟨s.st.set i.toNat l,s.kn.set i.toNat true,s.wk⟩
def YK (s:VS) (c:Cl):VS :=
 if c.kind==1 then qo c.hf [c.t] s
 else if c.kind==2 then qo c.filter [⟨4,0,0,false⟩] (qo c.hf [⟨4,0,0,false⟩] s)
 else qo c.hf [] s
def WA (m:Me):VS:=m.clauses.foldl YK (qo 0 [] ⟨List.replicate m.code.length [],List.replicate m.code.length false,0⟩)
def XA (m:Me) (i to:Int):Bool:=m.clauses.any fun c=>c.tf==to&&(decide (i < c.tf)||decide (c.tt≤i))
def YM (s:VS) (i:Int):List Ty:=s.st.getD i.toNat []
def toV (g:Img) (m:Me) (i to:Int) (l:List Ty) (s:VS):Except Int VS :=
 if !(l.isEmpty||!XA m i to) then .error 9
 else if decide (to≤i) then (if Zl g l (YM s to) then .ok { s with wk:=s.wk + (1 + l.length) } else .error 14)
 else if !s.kn.getD to.toNat false then .ok (qo to l { s with wk:=s.wk + (1 + l.length) })
 else if (Zp g (YM s to) l).2==0 then .ok { s with st:=s.st.set to.toNat (Zp g (YM s to) l).1,wk:=s.wk + (1 + l.length) }
 else .error (Zp g (YM s to) l).2
def zgU (g:Img) (m:Me) (i:Int) (l:List Ty) (s:VS):Except Int VS :=
 match (if Qr (YN m i) then toV g m i (i + 1) l s else .ok s) with
 | .error e=>.error e
 | .ok s'=>if ZU (YN m i) then toV g m i (qm m i).arg l s' else .ok s'
def zeU (g:Img) (k:Int) (i:Int) (s:VS):Except Int VS :=
 match stepS g k i (YM s i) with
 | .error e=>.error e
 | .ok p=>zgU g (mAt g k) i p.2 { s with kn:=s.kn.set i.toNat true,wk:=s.wk + 1 }
def goV (g:Img) (k:Int):Nat→Nat→VS→Except (Int × Int) VS
 | 0,_,s=>.ok s
 | f + 1,i,s=>match zeU g k i s with|.error e=>.error (((i:Nat):Int),e)|.ok s'=>goV g k f (i + 1) s'
def QB (g:Img) (k:Int):Except (Int × Int) VS :=
 if (zbH g (mAt g k)).2 != 0 then .error (zbH g (mAt g k)) else goV g k (mAt g k).code.length 0 (WA (mAt g k))
structure OkV (n:Nat) (s:VS):Prop where
 len:s.st.length=n
 st:∀ l∈s.st,l.length≤12
theorem zdi {s:VS} {n:Nat} (h:OkV n s) (i:Int):(YM s i).length≤12:=by
 unfold YM;rw [List.getD_eq_getElem?_getD];cases hs:s.st[i.toNat]? with
 | none=>simp
 | some l=>exact h.st l (List.mem_of_getElem? hs)
theorem zep {n:Nat} {s:VS} (h:OkV n s) {l:List Ty} (hl:l.length≤12) (i:Nat) (kn:List Bool) (wk:Int):OkV n ⟨s.st.set i l,kn,wk⟩ :=
 ⟨by simp [h.len],fun x hx=>by
  rcases List.mem_or_eq_of_mem_set hx with hx|hx
  ·exact h.st x hx
  ·rw [hx];exact hl⟩
theorem zuY {n:Nat} {s:VS} (h:OkV n s) (c:Cl):OkV n (YK s c):=by
 unfold YK;split
 ·exact zep h zwy63 _ _ _
 ·split
  ·exact zep (s:=qo c.hf [⟨4,0,0,false⟩] s) (zep h zwy63 _ _ _) zwy63 _ _ _
  ·exact zep h zwy63 _ _ _
theorem zol {n:Nat}:∀ (l:List Cl) {s:VS},OkV n s→OkV n (l.foldl YK s)
 | [],_,h=>h
 | c::l,_,h=>zol l (zuY h c)
theorem znq:∀ (l:List Cl) (s:VS),(l.foldl YK s).wk=s.wk
 | [],_=>rfl
 | c::l,s=>by
  rw [List.foldl_cons,znq l];unfold YK;split
  ·rfl
  ·split <;> rfl
theorem ziU (m:Me):OkV m.code.length (WA m)∧(WA m).wk=0 :=
 ⟨zol _ (zep ⟨by simp,fun l hl=>by rw [List.eq_of_mem_replicate hl];simp⟩ zwy63 _ _ _),by rw [WA,znq];rfl⟩
theorem zno (g:Img):∀ (a b out:List Ty),a.length=b.length→(zcq g a b out).2=0→(zcq g a b out).1.length=out.length + a.length
 | [],[],out,_,_=>by simp [zcq]
 | x::a,y::b,out,h,h2=>by
  rw [zcq] at h2 ⊢;split at h2
  ·rename_i h3;simp at h3;exact absurd h2 h3
  ·rename_i h3;rw [if_neg h3,zno g a b _ zwy97 h2];simp;omega
 | [],_::_,_,h,_=>by simp at h
 | _::_,[],_,h,_=>by simp at h
theorem zn1 {g:Img} {a b:List Ty} (h:(Zp g a b).2=0):(Zp g a b).1.length=a.length:=by
 unfold Zp at h ⊢;split
 ·rename_i h1;rw [if_pos h1] at h;simp at h
 ·rename_i h1;rw [if_neg h1] at h;rw [zno g a b [] zwy99 h];simp
theorem ztK {g:Img} {m:Me} {i to:Int} {l:List Ty} {n:Nat} {s s':VS} (h:OkV n s) (hl:l.length≤12) (ht:toV g m i to l s=.ok s'):OkV n s'∧s'.wk=s.wk + (1 + l.length):=by
 unfold toV at ht;split at ht
 ·cases ht
 ·split at ht
  ·split at ht
   ·cases ht;exact ⟨⟨h.len,h.st⟩,rfl⟩
   ·cases ht
  ·split at ht
   ·cases ht;exact ⟨zep h hl _ _ _,rfl⟩
   ·split at ht
    ·rename_i he;cases ht;exact ⟨zep h (by rw [zn1 (by simpa using he)];exact zdi h to) _ _ _,rfl⟩
    ·cases ht
theorem zv9 {g:Img} {m:Me} {i:Int} {l:List Ty} {n:Nat} {s s':VS} (h:OkV n s) (hl:l.length≤12) (ht:zgU g m i l s=.ok s'):OkV n s'∧s.wk≤s'.wk∧s'.wk≤s.wk + 26:=by
 unfold zgU at ht;split at ht
 ·cases ht
 ·rename_i s1 h1;have k1:OkV n s1∧s.wk≤s1.wk∧s1.wk≤s.wk + 13:=by
   split at h1
   ·obtain ⟨a,b⟩:=ztK h hl h1;exact ⟨a,by omega,by omega⟩
   ·cases h1;exact ⟨h,by omega,by omega⟩
  split at ht
  ·obtain ⟨a,b⟩:=ztK k1.1 hl ht;exact ⟨a,by omega,by omega⟩
  ·cases ht;exact ⟨k1.1,by omega,by omega⟩
theorem zui {g:Img} {k i:Int} {n:Nat} {s s':VS} (hm:(mAt g k).max≤12) (h:OkV n s) (ht:zeU g k i s=.ok s'):OkV n s'∧s.wk + 1≤s'.wk∧s'.wk≤s.wk + 27:=by
 unfold zeU at ht;split at ht
 ·cases ht
 ·rename_i p hp;obtain ⟨⟨⟩,l2⟩:=p;have hb:=(zwl g (Xp g (mAt g k)) (mAt g k) (qm (mAt g k) i) _ _ _ hp).1;have hg:=zdi h i;obtain ⟨a,b,c⟩:=zv9 (s:={ s with kn:=s.kn.set i.toNat true,wk:=s.wk + 1 }) ⟨h.len,h.st⟩ (show l2.length≤12 by rcases hb with hb|hb <;> omega) ht;exact ⟨a,by simpa using b,by simp only at c;omega⟩
theorem go_ok {g:Img} {k:Int} {n:Nat} (hm:(mAt g k).max≤12):∀ (f i:Nat) {s s':VS},OkV n s→goV g k f i s=.ok s'→OkV n s'∧s.wk + f≤s'.wk∧s'.wk≤s.wk + 27 * f
 | 0,i,s,s',h,ht=>by cases ht;exact ⟨h,by omega,by omega⟩
 | f + 1,i,s,s',h,ht=>by
  rw [goV] at ht;split at ht
  ·cases ht
  ·rename_i s1 h1;obtain ⟨a,b,c⟩:=zui hm h h1;obtain ⟨a2,b2,c2⟩:=go_ok hm f (i + 1) a ht;exact ⟨a2,by omega,by omega⟩
theorem zqZ {g:Img} {k:Int} {s:VS} (hm:(mAt g k).max≤12) (h:QB g k=.ok s):s.st.length=(mAt g k).code.length∧((mAt g k).code.length:Int)≤s.wk∧s.wk≤27 * (mAt g k).code.length:=by
 unfold QB at h;split at h
 ·cases h
 ·obtain ⟨a,b⟩:=ziU (mAt g k);obtain ⟨c,d,e⟩:=go_ok hm _ 0 a h;exact ⟨c.len,by omega,by omega⟩
set_option maxHeartbeats 20000000
theorem zg4 (c:List Pt) (at_:Int):Zb c at_≤c.length:=by
 unfold Zb;induction c with
 | nil=>simp
 | cons x c ih=>rw [List.takeWhile_cons];split <;> simp;omega
theorem zjH (x:Pt) (c:List Pt) (at_:Int):Zb (x::c) at_=if x.p==1&&x.f==at_ then Zb c at_ + 1 else 0:=by
 unfold Zb;rw [List.takeWhile_cons];split <;> simp
theorem zez (c:List Pt) (at_:Int) (hl:c.length≤1000):ACall Tryz.prog 173 [pts c,pi at_] (pi (Zb c at_)):=by
 refine zi zf Tryz.func173 rfl zws Tryz.ntmps173 zwy63 _ rfl (fun hw gB hgB=>?_)
 repeat' (first|refine sA ?_|refine sC (fun _=>?_) (fun _=>?_)|fail)
 refine zW (fun k:Nat=>[(0,.pv (pts c)),(1,.pv (pi at_)),(5,.pv (pi k))]) (fun _=>[]) (fun k=>k≤c.length∧Zb c at_=k + Zb (c.drop k) at_) (fun k=>c.length - k) 0 ⟨by omega,by simp⟩ (tS) tH ?_;rintro k ⟨hk,hr⟩;by_cases hlt:k < c.length
 ·have he:=zY (f:=yP) hlt;have hd:decide (((k:Nat):Int) < (((c.map yP).length:Nat):Int))=true:=decide_eq_true zwy64;rw [drop_cons hlt,zjH] at hr;generalize c[k]=x at he hr;cases h1:(x.p==1)
  ·rw [h1] at hr
   repeat' (first|(refine shX ?_;first|refine qX he ?_)|refine sK ?_|refine sC (fun _=>?_) (fun _=>?_)|fail)
   all_goals (refine ay ?_;simp [zC,hr])
  ·cases h2:(x.f==at_)
   ·rw [h1,h2] at hr
    repeat' (first|(refine shX ?_;first|refine qX he ?_)|refine sK ?_|refine sC (fun _=>?_) (fun _=>?_)|fail)
    all_goals (refine ay ?_;simp [zC,hr])
   ·rw [h1,h2] at hr
    repeat' (first|(refine shX ?_;first|refine qX he ?_)|refine sK ?_|refine sC (fun _=>?_) (fun _=>?_)|fail)
    all_goals exact ⟨k + 1,⟨hlt,by rw [hr];simp;omega⟩,tD,tS,tH⟩
 ·have hd:decide (((k:Nat):Int) < (((c.map yP).length:Nat):Int))=false:=decide_eq_false zwy64;rw [drop_end zwy62] at hr
  repeat' (first|refine sK ?_|refine sC (fun _=>?_) (fun _=>?_)|fail)
  have hz:Zb c at_=k:=hr;all_goals (refine ay ?_;rw [hz];rfl)
theorem zpB (x y:Pt):ACall Tryz.prog 196 [yP x,yP y] (pb (zwN x y)):=by
 refine zi zf Tryz.func196 rfl zws Tryz.ntmps196 zwy63 _ rfl (fun hw gB hgB=>?_)
 repeat' (first|refine sA ?_|refine sC (fun _=>?_) (fun _=>?_)|fail)
 exact retq rfl rfl
theorem zkc:∀ {a b:List Pt},a.length≠b.length→zan a b=false
 | [],[],h=>by simp at h
 | [],_::_,_=>rfl
 | _::_,[],_=>rfl
 | x::a,y::b,h=>by rw [zan,zkc (a:=a) (b:=b) zwy97,Bool.and_false]
theorem zoP (a b:List Pt) (hl:a.length≤1000):ACall Tryz.prog 195 [pts a,pts b,.fn (.func 196) [] []] (pb (zan a b)):=by
 refine zi zf Tryz.func195 rfl zws Tryz.ntmps195 zwy63 _ rfl (fun hw gB hgB=>?_);by_cases hlen:a.length=b.length
 ·have hc:((((a.map yP).length:Nat):Int) != (((b.map yP).length:Nat):Int))=false:=by simp [hlen]
  repeat' (first|refine sA ?_|refine sC (fun _=>?_) (fun _=>?_)|fail)
  refine zW (fun k:Nat=>[(1,.pv (pts b)),(2,.pv (.fn (.func 196) [] [])),(15,.pv (pts a)),(16,.pv (pi a.length)),(17,.pv (pi k))]) (fun _=>[]) (fun k=>k≤a.length∧zan a b=zan (a.drop k) (b.drop k)) (fun k=>a.length - k) 0 ⟨by omega,rfl⟩ (tS) tH ?_;rintro k ⟨hk,hr⟩;by_cases hlt:k < a.length
  ·have he:=zY (f:=yP) hlt;have he2:=zY (f:=yP) (show k < b.length by omega);rw [drop_cons hlt,drop_cons (show k < b.length by omega),zan] at hr;generalize a[k]=x at he hr;generalize b[k]=y at he2 hr;have cs:=zpB x y;cases hs:zwN x y
   ·rw [hs] at cs hr
    repeat' (first|(refine shC ?_;first|refine qV (cs) ?_)|(refine shX ?_;first|refine qX he ?_|refine qX he2 ?_)|refine sK ?_|refine sC (fun _=>?_) (fun _=>?_)|fail)
    all_goals (refine ay ?_;simp [zC,hr])
   ·rw [hs] at cs hr
    repeat' (first|(refine shC ?_;first|refine qV (cs) ?_)|(refine shX ?_;first|refine qX he ?_|refine qX he2 ?_)|refine sK ?_|refine sC (fun _=>?_) (fun _=>?_)|fail)
    exact ⟨k + 1,⟨hlt,hr⟩,tD,tS,tH⟩
  ·rw [drop_end zwy62,drop_end zwy62] at hr
   repeat' (first|refine sK ?_|refine sC (fun _=>?_) (fun _=>?_)|fail)
   all_goals (refine ay ?_;rw [hr];rfl)
 ·have hc:((((a.map yP).length:Nat):Int) != (((b.map yP).length:Nat):Int))=true:=by simp;omega
  have hr:=zkc hlen
  repeat' (first|refine sA ?_|refine sC (fun _=>?_) (fun _=>?_)|fail)
  all_goals (refine ay ?_;rw [hr];rfl)
theorem zkC (a b:List Pt) (hl:a.length≤1000):ACall Tryz.prog 174 [pts a,pts b] (pb (zan a b)):=by
 have c:=zoP a b hl;refine zi zf Tryz.func174 rfl zws Tryz.ntmps174 zwy63 _ rfl (fun hw gB hgB=>?_)
 repeat' (first|(refine shC ?_;first|refine qC c ?_)|refine sA ?_|refine sC (fun _=>?_) (fun _=>?_)|fail)
 exact retq rfl rfl
theorem zog {b a:List Pt} {to:Int} {k:Nat} (hk:k≤Zb b to) (h:zan (b.drop k) a=true):zk4 b to a=true:=by
 rw [zk4,List.any_eq_true];exact ⟨k,List.mem_range.2 zwy62,h⟩
theorem zqk {b a:List Pt} {to:Int} (h:∀ j,j < Zb b to + 1→zan (b.drop j) a=false):zk4 b to a=false:=by
 rw [zk4,List.any_eq_false];intro k hk;rw [h k (List.mem_range.1 hk)];simp
set_option maxHeartbeats 20000000
theorem zbD {l:List Cl} {at_:Int} (hl:l.length≤6):(qM l at_).length≤18:=by have:=zoT l at_;omega
theorem zeo (l:List Cl) (at_:Int) (hl:l.length≤6) (hs:∀ x∈zdI at_ l,SmP x):ACall Tryz.prog 108 [cls l,pi at_] (.slc 2 ((qM l at_).map fun x=>.agg [pi x.c,pi x.p]) false):=by
 have cc:=zaM l at_ hl hs;have hcl:=zbD (at_:=at_) hl;obtain ⟨c,hc⟩:∃ c,c=qM l at_:=⟨_,rfl⟩
 rw [←hc] at cc hcl ⊢;refine zi zf Tryz.func108 rfl zws Tryz.ntmps108 zwy63 _ rfl (fun hw gB hgB=>?_)
 repeat' (first|refine YF (t:=5) 20 163 2 zwy67 rfl rfl ?_|(refine shC ?_;first|refine qC cc ?_)|refine sA ?_|refine sC (fun _=>?_) (fun _=>?_)|fail)
 refine zW (fun k:Nat=>[(5,.own 20),(10,.pv (pts c)),(11,.pv (pi c.length)),(12,.pv (pi k))]) (fun k=>[(20,.row 163 2 ((c.take k).map fun x=>.agg [pi x.c,pi x.p]))]) (fun k=>k≤c.length) (fun k=>c.length - k) 0 zwy62 (tS) ⟨aB zA,rfl⟩ ?_;rintro k hk;by_cases hlt:k < c.length
 ·have he:=zY (f:=yP) hlt;have hst:(c.take (k + 1)).map (fun x=>PV.agg [pi x.c,pi x.p])=(c.take k).map (fun x=>PV.agg [pi x.c,pi x.p])++[.agg [pi c[k].c,pi c[k].p]]:=by rw [List.take_succ_eq_append_getElem hlt,List.map_append];rfl
  generalize c[k]=x at he hst;have htl:(c.take k).length≤18:=by simp;omega
  repeat' (first|(refine shX ?_;first|refine qX he ?_)|(refine yC ?_;first|refine qI zf rfl rfl rfl rfl rfl rfl rfl (by show _ * 16≤_;simp;omega) zwy64 rfl rfl ?_)|refine sK ?_|refine sC (fun _=>?_) (fun _=>?_)|fail)
  exact ⟨k + 1,hlt,tD,tS,⟨zx (by rw [hst];rfl) zA,rfl⟩⟩
 ·have hk2:k=c.length:=by omega
  subst hk2
  repeat' (first|refine sK ?_|refine sC (fun _=>?_) (fun _=>?_)|fail)
  exact retq rfl (by rw [List.take_length];rfl)
theorem zkz (l:List Cl) (i to:Int) (hl:l.length≤6) (hs:∀ x∈zdI i l,SmP x) (hs2:∀ x∈zdI to l,SmP x):ACall Tryz.prog 147 [cls l,pi i,pi to] (pb (zgG l i to)):=by
 have c1:=zaM l i hl hs;have c2:=zaM l to hl hs2;have ha:=zbD (at_:=i) hl;have hb:=zbD (at_:=to) hl;rw [zgG];obtain ⟨a,haa⟩:∃ a,a=qM l i:=⟨_,rfl⟩
 obtain ⟨b,hbb⟩:∃ b,b=qM l to:=⟨_,rfl⟩
 rw [←haa] at c1 ha ⊢;rw [←hbb] at c2 hb ⊢;have ce:=zez b to zwy62;have hel:=zg4 b to;refine zi zf Tryz.func147 rfl zws Tryz.ntmps147 zwy63 _ rfl (fun hw gB hgB=>?_)
 repeat' (first|(refine shC ?_;first|refine qC c1 ?_|refine qC c2 ?_)|refine sA ?_|refine sC (fun _=>?_) (fun _=>?_)|fail)
 refine zW (fun k:Nat=>[(2,.pv (pi to)),(7,.pv (pts a)),(8,.pv (pts b)),(9,.pv (pi k))]) (fun _=>[]) (fun k=>k≤Zb b to + 1∧∀ j,j < k→zan (b.drop j) a=false) (fun k=>Zb b to + 1 - k) 0 ⟨by omega,fun j hj=>absurd hj (Nat.not_lt_zero j)⟩ (tS) tH ?_;rintro k ⟨hk,hno⟩;by_cases hlt:k < Zb b to + 1
 ·have hd:decide (((k:Nat):Int)≤((Zb b to:Nat):Int))=true:=decide_eq_true zwy62;have cs:=zkC ((b.take b.length).drop k) a zwy64;have ht:(b.take b.length).drop k=b.drop k:=by rw [List.take_length]
  cases hsm:zan (b.drop k) a
  ·rw [ht,hsm,←ht] at cs
   repeat' (first|refine zy rfl (ZK (xs:=b) (f:=yP) k b.length zf rfl rfl rfl rfl rfl rfl (by simp [Xj]) zwy62 zwy62) rfl rfl ?_|(refine shC ?_;first|refine qC ce ?_|refine qC cs ?_)|refine sK ?_|refine sC (fun _=>?_) (fun _=>?_)|fail)
   exact ⟨k + 1,⟨hlt,fun j hj=>by
    by_cases e:j=k
    ·subst e;exact hsm
    ·exact hno j zwy62⟩,tD,tS,tH⟩
  ·rw [ht,hsm,←ht] at cs
   repeat' (first|refine zy rfl (ZK (xs:=b) (f:=yP) k b.length zf rfl rfl rfl rfl rfl rfl (by simp [Xj]) zwy62 zwy62) rfl rfl ?_|(refine shC ?_;first|refine qC ce ?_|refine qC cs ?_)|refine sK ?_|refine sC (fun _=>?_) (fun _=>?_)|fail)
   exact retq rfl (by rw [zog (by omega) hsm];rfl)
 ·have hd:decide (((k:Nat):Int)≤((Zb b to:Nat):Int))=false:=decide_eq_false zwy62
  repeat' (first|(refine shC ?_;first|refine qC ce ?_)|refine sK ?_|refine sC (fun _=>?_) (fun _=>?_)|fail)
  exact retq rfl (by rw [zqk fun j hj=>hno j (by omega)];rfl)
theorem zk0 {l:List Cl} {a b:List Pt} {to:Int} {k:Nat} (h:k < a.length) (hn:zk4 b to (a.drop k)=false):Vd l b to (a.drop k)=if zwK l a[k] then false else Vd l b to (a.drop (k + 1)):=by
 rw [drop_cons h] at hn ⊢;rw [Vd,hn];simp
theorem zp4 (l:List Cl) (i to:Int) (hl:l.length≤6) (hs:∀ x∈zdI i l,SmP x) (hs2:∀ x∈zdI to l,SmP x):ACall Tryz.prog 148 [cls l,pi i,pi to] (pb (zjl l i to)):=by
 have c1:=zaM l i hl hs;have c2:=zaM l to hl hs2;have ha:=zbD (at_:=i) hl;have hb:=zbD (at_:=to) hl;have hmem:∀ x∈qM l i,∃ j,j < l.length∧x.c=(j:Int):=by
  intro x hx;obtain ⟨j,h1,h2,_⟩:=zil hx;refine ⟨j,h1,?_⟩;unfold yE at h2;split at h2 <;> simp at h2 <;> (rcases h2 with h|h|h <;> first|rfl|(rw [h])|skip) <;> simp_all
 rw [zjl];obtain ⟨a,haa⟩:∃ a,a=qM l i:=⟨_,rfl⟩
 obtain ⟨b,hbb⟩:∃ b,b=qM l to:=⟨_,rfl⟩
 rw [←haa] at c1 ha hmem ⊢;rw [←hbb] at c2 hb ⊢;have ce:=zez b to zwy62;have hel:=zg4 b to;refine zi zf Tryz.func148 rfl zws Tryz.ntmps148 zwy63 _ rfl (fun hw gB hgB=>?_)
 repeat' (first|(refine shC ?_;first|refine qC c1 ?_|refine qC c2 ?_)|refine sA ?_|refine sC (fun _=>?_) (fun _=>?_)|fail)
 refine zW (fun o:Nat=>[(0,.pv (cls l)),(2,.pv (pi to)),(7,.pv (pts a)),(8,.pv (pts b)),(9,.pv (pi o))]) (fun _=>[]) (fun o=>o≤a.length∧Vd l b to a=Vd l b to (a.drop o)) (fun o=>a.length + 1 - o) 0 ⟨by omega,rfl⟩ (tS) tH ?_;rintro o ⟨ho,hr⟩;have hdo:decide (((o:Nat):Int)≤(((a.map yP).length:Nat):Int))=true:=decide_eq_true zwy64
 repeat' (first|refine sK ?_|refine sC (fun _=>?_) (fun _=>?_)|fail)
 refine zW (fun k:Nat=>[(0,.pv (cls l)),(2,.pv (pi to)),(7,.pv (pts a)),(8,.pv (pts b)),(9,.pv (pi o)),(10,.pv (pi k))]) (fun _=>[]) (fun k=>k≤Zb b to + 1∧∀ j,j < k→zan (b.drop j) (a.drop o)=false) (fun k=>Zb b to + 1 - k) 0 ⟨by omega,fun j hj=>absurd hj (Nat.not_lt_zero j)⟩ (tS) tH ?_;rintro k ⟨hk,hno⟩;have hda:(a.take a.length).drop o=a.drop o:=by rw [List.take_length]
 by_cases hlt:k < Zb b to + 1
 ·have hd:decide (((k:Nat):Int)≤((Zb b to:Nat):Int))=true:=decide_eq_true zwy62;have cs:=zkC ((b.take b.length).drop k) ((a.take a.length).drop o) zwy64;have ht:(b.take b.length).drop k=b.drop k:=by rw [List.take_length]
  cases hsm:zan (b.drop k) (a.drop o)
  ·rw [ht,hda,hsm,←ht,←hda] at cs
   repeat' (first|refine zq rfl (ZK (xs:=b) (f:=yP) k b.length zf rfl rfl rfl rfl rfl rfl (by simp [Xj]) zwy62 zwy62) rfl rfl ?_|refine zq rfl (ZK (xs:=a) (f:=yP) o a.length zf rfl rfl rfl rfl rfl rfl (by simp [Xj]) zwy62 zwy62) rfl rfl ?_|(refine shC ?_;first|refine qC ce ?_|refine qC cs ?_)|refine sK ?_|refine sC (fun _=>?_) (fun _=>?_)|fail)
   exact ⟨k + 1,⟨hlt,fun j hj=>by
    by_cases e:j=k
    ·subst e;exact hsm
    ·exact hno j zwy62⟩,tD,tS,tH⟩
  ·rw [ht,hda,hsm,←ht,←hda] at cs;have hy:Vd l b to (a.drop o)=true:=by
    have:=zog (show k≤Zb b to by omega) hsm;generalize a.drop o=A at this;cases A with
    | nil=>exact this
    | cons r A=>rw [Vd,if_pos this]
   repeat' (first|refine zq rfl (ZK (xs:=b) (f:=yP) k b.length zf rfl rfl rfl rfl rfl rfl (by simp [Xj]) zwy62 zwy62) rfl rfl ?_|refine zq rfl (ZK (xs:=a) (f:=yP) o a.length zf rfl rfl rfl rfl rfl rfl (by simp [Xj]) zwy62 zwy62) rfl rfl ?_|(refine shC ?_;first|refine qC ce ?_|refine qC cs ?_)|refine sK ?_|refine sC (fun _=>?_) (fun _=>?_)|fail)
   exact retq rfl (by rw [hr,hy];rfl)
 ·have hd:decide (((k:Nat):Int)≤((Zb b to:Nat):Int))=false:=decide_eq_false zwy62;have hn:zk4 b to (a.drop o)=false:=zqk fun j hj=>hno j zwy62
  by_cases hoe:o < a.length
  ·have hoq:(((o:Nat):Int)==(((a.map yP).length:Nat):Int))=false:=by simp;omega
   have hst:=zk0 (l:=l) hoe hn;have he:=zY (f:=yP) hoe;obtain ⟨j,hj,hxc⟩:=hmem a[o] (List.getElem_mem hoe);generalize a[o]=x at he hst hxc;have hec:=zdE hj;have hec':(l.map Zg)[x.c.toNat]?=some (Zg (l.getD x.c.toNat default)):=by rw [hxc];exact hec
   have h0:0≤x.c:=by omega
   rw [hst] at hr;obtain ⟨cl,hcl⟩:∃ cl,cl=l.getD x.c.toNat default:=⟨_,rfl⟩
   rw [zwK] at hr;rw [←hcl] at hec' hr;rcases Bool.eq_false_or_eq_true (x.p==3) with h3|h3 <;> rcases Bool.eq_false_or_eq_true (x.p==2) with h2|h2 <;> rcases Bool.eq_false_or_eq_true (cl.kind==1) with k1|k1 <;> rcases Bool.eq_false_or_eq_true (cl.kind==2) with k2|k2 <;> (
    have k1':(cl.kind != 1)=!(cl.kind==1):=rfl;have k2':(cl.kind != 2)=!(cl.kind==2):=rfl;rw [k1] at k1';rw [k2] at k2'
    repeat' (first|(refine shC ?_;first|refine qC ce ?_)|(refine shX ?_;first|refine qX he ?_|refine zy rfl (ah h0 hec') rfl rfl ?_|refine zq rfl (ah h0 hec') rfl rfl ?_)|refine sK ?_|refine sC (fun _=>?_) (fun _=>?_)|fail)
    all_goals first|exact retq rfl (by rw [hr];simp_all [zC];done)|exact ⟨o + 1,⟨hoe,by rw [hr];simp_all⟩,tD,tS,tH⟩)
  ·have hoq:(((o:Nat):Int)==(((a.map yP).length:Nat):Int))=true:=by simp;omega
   rw [drop_end zwy62] at hr hn;have hf:Vd l b to []=false:=hn
   repeat' (first|(refine shC ?_;first|refine qC ce ?_)|refine sK ?_|refine sC (fun _=>?_) (fun _=>?_)|fail)
   exact retq rfl (by rw [hr,hf];rfl)
set_option maxHeartbeats 20000000
def zbY (x:Pt):PV:=.agg [pi x.c,pi x.p]
def rgs (l:List Pt):PV:=.slc 2 (l.map zbY) false
def Xe (g:Img) (m:Me):PV:=.agg [.slc 4 (g.types.map ZB) false,.slc 7 (g.fields.map Yo) false,.slc 12 (g.methods.map yh) false,pi g.entry,ps m.name,pi m.owner,pi m.flags,tys m.params,pi m.ret.kind,pi m.ret.index,pi m.ret.dims,pb m.ret.ref,tys m.locals,pi m.max,.slc 6 (m.code.map qx) false,.slc 10 (m.clauses.map Zg) false]
def zl4 (l:List Pt) (p:Pt→Bool):Int:=if l.any p then ((l.findIdx p:Nat):Int) else -1
theorem zcp (l:List Pt) (p:Pt→Bool) (f:FuncId) (first cap:List PV) (hp:∀ x∈l,ACall Tryz.prog f (first++[zbY x]++cap) (pb (p x))):ACall Tryz.prog 149 [rgs l,.fn (.func f) first cap] (pi (zl4 l p)):=by
 refine zi zf Tryz.func149 rfl zws Tryz.ntmps149 zwy63 _ rfl (fun hw gB hgB=>?_);have hl:l.length≤9223372036854775807:=by have:=hw.1;simp [rgs,PV.lenOk,maxLen] at this;exact this.1
 repeat' (first|refine sA ?_|refine sC (fun _=>?_) (fun _=>?_)|fail)
 refine zW (fun k:Nat=>[(0,.pv (rgs l)),(1,.pv (.fn (.func f) first cap)),(7,.pv (pi l.length)),(8,.pv (pi k))]) (fun _=>[]) (fun k=>k≤l.length∧∀ j (h:j < k) (h2:j < l.length),p l[j]=false) (fun k=>l.length - k) 0 ⟨by omega,fun j h=>by omega⟩ (tS) tH ?_;rintro k ⟨hk,hno⟩;by_cases hlt:k < l.length
 ·have he:=zY (f:=zbY) hlt;have c1:=hp _ (List.getElem_mem hlt);cases hpx:p l[k]
  ·rw [hpx] at c1
   repeat' (first|(refine shC ?_;first|refine qV (c1) ?_)|(refine shX ?_;first|refine qX he ?_)|refine sK ?_|refine sC (fun _=>?_) (fun _=>?_)|fail)
   exact ⟨k + 1,⟨hlt,fun j hj h2=>by
    by_cases e:j=k
    ·subst e;exact hpx
    ·exact hno j zwy62 h2⟩,tD,tS,tH⟩
  ·rw [hpx] at c1;have hi:l.findIdx p=k:=by
    rw [List.findIdx_eq hlt];exact ⟨hpx,fun j hj=>hno j hj zwy62⟩
   have ha:l.any p=true:=List.any_eq_true.2 ⟨_,List.getElem_mem hlt,hpx⟩
   repeat' (first|(refine shC ?_;first|refine qV (c1) ?_)|(refine shX ?_;first|refine qX he ?_)|refine sK ?_|refine sC (fun _=>?_) (fun _=>?_)|fail)
   exact retq rfl (by simp [zC,zl4,ha,hi])
 ·have ha:l.any p=false:=by
   rw [List.any_eq_false];intro x hx;obtain ⟨j,hj,rfl⟩:=List.getElem_of_mem hx;simp [hno j zwy62 hj]
  repeat' (first|refine sK ?_|refine sC (fun _=>?_) (fun _=>?_)|fail)
  exact retq rfl (by simp [zC,zl4,ha])
theorem zec (l:List Pt) (p:Pt→Bool) (f:FuncId) (first cap:List PV) (hp:∀ x∈l,ACall Tryz.prog f (first++[zbY x]++cap) (pb (p x))):ACall Tryz.prog 107 [rgs l,.fn (.func f) first cap] (pb (l.any p)):=by
 refine zi zf Tryz.func107 rfl zws Tryz.ntmps107 zwy63 _ rfl (fun hw gB hgB=>?_);have c1:=zcp l p f first cap hp
 repeat' (first|(refine shC ?_;first|refine qC c1 ?_)|refine sA ?_|refine sC (fun _=>?_) (fun _=>?_)|fail)
 refine ay ?_;have:decide (0≤zl4 l p)=l.any p:=by
  unfold zl4;cases h:l.any p <;> simp
 simp [zC,this]
abbrev zhq (e:Int):Value:=.iface 135 (.int .i64 e)
theorem yx {b:Bool} (h:b=true) (e:Int):ACall Tryz.prog 68 [pb b,pi e] (.tup []):=by
 subst h;refine zi zf Tryz.func68 rfl zws Tryz.ntmps68 zwy63 _ rfl (fun hw gB hgB=>?_)
 repeat' (first|refine sK ?_|refine sC (fun _=>?_) (fun _=>?_)|fail)
 exact zbf rfl rfl
theorem yY {b:Bool} (h:b=false) (e:Int):ACallPan Tryz.prog 68 [.pv (pb b),.pv (pi e)] [] (zhq e):=by
 subst h;refine zaD Tryz.func68 rfl zws Tryz.ntmps68 zwy63 (fun gB hw1=>?_)
 repeat' (first|refine zl 1 2 rfl rfl rfl ?_|refine zy rfl (zky rfl Tryz.underlying135 rfl) rfl rfl ?_|refine zka rfl rfl rfl ?_|refine sK ?_|refine sC (fun _=>?_) (fun _=>?_)|fail)
 exact rfl
theorem goes_call (w:Int):ACall Tryz.prog 70 [pi w] (.tup [pb (Qr w),pb (ZU w)]):=by
 refine zi zf Tryz.func70 rfl zws Tryz.ntmps70 zwy63 _ rfl (fun hw gB hgB=>?_);rcases Bool.eq_false_or_eq_true (w==0) with h0|h0 <;> rcases Bool.eq_false_or_eq_true (w==1) with h1|h1 <;> rcases Bool.eq_false_or_eq_true (w==2) with h2|h2 <;> rcases Bool.eq_false_or_eq_true (w==4) with h4|h4 <;> (
  repeat' (first|refine sK ?_|refine sC (fun _=>?_) (fun _=>?_)|fail)
  all_goals (refine ay ?_;simp [zC,Qr,ZU,h0,h1,h2,h4]))
theorem zwk11 {G:Prop} (h:G:=by repeat' (first|(refine shC ?_;first|refine qC co ?_)|(refine shX ?_;first|refine zy rfl (ah h0 hei) rfl rfl ?_|refine zq rfl (ah h0 hei) rfl rfl ?_)|refine sK ?_|refine sC (fun _=>?_) (fun _=>?_)|exact retq rfl (by rw [hw];rfl)|fail)):G:=h
theorem znv (g:Img) (m:Me) (i:Int) (h0:0≤i) (h1:i.toNat < m.code.length):ACall Tryz.prog 71 [Xe g m,pi i] (pi (YN m i)):=by
 have hei:(m.code.map qx)[i.toNat]?=some (qx (qm m i)):=by rw [qm,zT h1];exact zY h1
 refine zi zf Tryz.func71 rfl zws Tryz.ntmps71 zwy63 _ rfl (fun hw gB hgB=>?_);by_cases hop:1≤(qm m i).op∧(qm m i).op≤75
 ·have co:=zc3 (qm m i).op hop.1 hop.2;have hw:YN m i=(ofI (qm m i).op).2.2:=by rw [YN,decide_eq_true hop.1,decide_eq_true hop.2];rfl
  exact zwk11
 ·have co:=zcI (qm m i).op zwy62;have hw:YN m i=0:=by
   rw [YN];split
   ·rename_i h;simp at h;omega
   ·rfl
  exact zwk11
theorem zdn (g:Img) (m:Me) (i:Int):ACall Tryz.prog 106 [Xe g m,pi i] (pi (opV m i)):=by
 refine zi zf Tryz.func106 rfl zws Tryz.ntmps106 zwy63 _ rfl (fun hw gB hgB=>?_);by_cases h0:i < 0
 ·have hd:=decide_eq_true h0
  repeat' (first|refine sK ?_|refine sC (fun _=>?_) (fun _=>?_)|fail)
  all_goals (refine ay ?_;simp [zC,opV,h0])
 ·have hd:=decide_eq_false h0;by_cases h1:(((m.code.map qx).length:Nat):Int)≤i
  ·have hd1:=decide_eq_true h1;have hl:(m.code.length:Int)≤i:=by simpa using h1
   repeat' (first|refine sK ?_|refine sC (fun _=>?_) (fun _=>?_)|fail)
   all_goals (refine ay ?_;simp [zC,opV,hl])
  ·have hd1:=decide_eq_false h1;have hl:¬ (m.code.length:Int)≤i:=by simpa using h1
   have h2:i.toNat < m.code.length:=by omega
   have hei:(m.code.map qx)[i.toNat]?=some (qx (qm m i)):=by rw [qm,zT h2];exact zY h2
   repeat' (first|(refine shX ?_;first|refine qX hei ?_)|refine sK ?_|refine sC (fun _=>?_) (fun _=>?_)|fail)
   all_goals (refine ay ?_;simp [zC,opV,h0,hl])
theorem zeO (g:Img) (m:Me) (r:Pt) (a b:Int) (h0:0≤r.c) (h1:r.c.toNat < m.clauses.length):ACall Tryz.prog 151 [Xe g m,zbY r,pi a,pi b] (pb (Xo m r a b)):=by
 have hec:(m.clauses.map Zg)[r.c.toNat]?=some (Zg (clV m r)):=zdE h1;rw [Xo];generalize clV m r=c at hec ⊢;refine zi zf Tryz.func151 rfl zws Tryz.ntmps151 zwy63 _ rfl (fun hw gB hgB=>?_);rcases Bool.eq_false_or_eq_true (r.p==2) with hp|hp <;> rcases Bool.eq_false_or_eq_true (c.kind==a) with ka|ka <;> rcases Bool.eq_false_or_eq_true (c.kind==b) with kb|kb <;> (
  repeat' (first|(refine shX ?_;first|refine zy rfl (ah h0 hec) rfl rfl ?_|refine zq rfl (ah h0 hec) rfl rfl ?_)|refine sK ?_|refine sC (fun _=>?_) (fun _=>?_)|fail)
  all_goals (refine ay ?_;simp [zC,hp,ka,kb]))
theorem zly (r:Pt):ACall Tryz.prog 150 [zbY r] (pb (r.p != 1)):=by
 refine zi zf Tryz.func150 rfl zws Tryz.ntmps150 zwy63 _ rfl (fun hw gB hgB=>?_)
 repeat' (first|refine sA ?_|refine sC (fun _=>?_) (fun _=>?_)|fail)
 exact retq rfl rfl
theorem zoG (t:Ty):ACall Tryz.prog 152 [yJ t] (pb t.ref):=by
 refine zi zf Tryz.func152 rfl zws Tryz.ntmps152 zwy63 _ rfl (fun hw gB hgB=>?_)
 repeat' (first|refine sA ?_|refine sC (fun _=>?_) (fun _=>?_)|fail)
 exact retq rfl rfl
theorem zlk (g:Img) (m:Me) (r:Pt) (h0:0≤r.c) (h1:r.c.toNat < m.clauses.length):ACall Tryz.prog 109 [zbY r,.ptr (Xe g m) 0] (pb (r.p != 1||(clV m r).tf != 0)):=by
 have hec:(m.clauses.map Zg)[r.c.toNat]?=some (Zg (clV m r)):=zdE h1;generalize clV m r=c at hec ⊢;refine zi zf Tryz.func109 rfl zws Tryz.ntmps109 zwy63 _ rfl (fun hw gB hgB=>?_);rcases Bool.eq_false_or_eq_true (r.p != 1) with hp|hp <;> (
  repeat' (first|(refine shX ?_;first|refine zy rfl (ah h0 hec) rfl rfl ?_|refine zq rfl (ah h0 hec) rfl rfl ?_)|refine sK ?_|refine sC (fun _=>?_) (fun _=>?_)|fail)
  all_goals (refine ay ?_;simp [zC,hp]))
theorem zhY (g:Img) (k:Int):ACall Tryz.prog 12 [zO g,pi k] (pb (decide (0≤k)&&decide (k < g.methods.length)&&decide (0 < (mAt g k).code.length))):=by
 refine zi zf Tryz.func12 rfl zws Tryz.ntmps12 zwy63 _ rfl (fun hw gB hgB=>?_);by_cases h0:0≤k
 ·have hd:=decide_eq_true h0;by_cases h1:k < (((g.methods.map yh).length:Nat):Int)
  ·have hd1:=decide_eq_true h1;have hl:k < g.methods.length:=by simpa using h1
   have h2:k.toNat < g.methods.length:=by omega
   have hem:(g.methods.map yh)[k.toNat]?=some (yh (mAt g k)):=by rw [mAt,zT h2];exact zY h2
   repeat' (first|(refine shX ?_;first|refine zy rfl (ah h0 hem) rfl rfl ?_|refine zq rfl (ah h0 hem) rfl rfl ?_)|refine sK ?_|refine sC (fun _=>?_) (fun _=>?_)|fail)
   all_goals (refine ay ?_;simp [zC,h0,hl])
  ·have hd1:=decide_eq_false h1;have hl:¬ k < g.methods.length:=by simpa using h1
   repeat' (first|refine sK ?_|refine sC (fun _=>?_) (fun _=>?_)|fail)
   all_goals (refine ay ?_;simp [zC,hl])
 ·have hd:=decide_eq_false h0
  repeat' (first|refine sK ?_|refine sC (fun _=>?_) (fun _=>?_)|fail)
  all_goals (refine ay ?_;simp [zC,h0])
def zeN (e:Int):Out:=if e=0 then .ret (.pv (.tup [])) [] else .pan (zhq e)
theorem ZQ {tb:Tab} {e:Int} {ex:Exit} {env:Env} {H:HEnv} (h:e=0) (he:ex=.normal∨ex=.ret):zla tb [] (zeN e) ex env H:=by
 rw [zeN,if_pos h];exact ⟨he,.inl ⟨[],rfl,rfl,zA,rfl⟩⟩
theorem Zc {tb:Tab} {rs:List ResultVar} {e k:Int} {env:Env} {H:HEnv} (h:e=k) (hk:k≠0):zla tb rs (zeN e) (.panic [{ v:=zhq k,recovered:=false }]) env H:=by
 rw [zeN,if_neg (by rw [h];exact hk),h];rfl
structure ClOk (m:Me):Prop where
 n:m.clauses.length≤6
 s:∀ (at_:Int),∀ x∈zdI at_ m.clauses,SmP x
 code:m.code.length≤1000
theorem zlo {l:List Cl} {at_:Int} {x:Pt} (h:x∈qM l at_):0≤x.c∧x.c.toNat < l.length:=by
 obtain ⟨j,h1,h2,_⟩:=zil h;have:x.c=(j:Int):=by
  unfold yE at h2;split at h2 <;> simp at h2 <;> (rcases h2 with h|h|h <;> first|rfl|(rw [h])|skip) <;> simp_all
 omega
set_option maxHeartbeats 8000000 in
theorem zvy (g:Img) (m:Me) (hm:ClOk m) (i:Int) (h0:0≤i) (h1:i.toNat < m.code.length):Qe Tryz.prog 103 [.pv (Xe g m),.pv (pi i)] [] (zeN (onV m i)):=by
 have hei:(m.code.map qx)[i.toNat]?=some (qx (qm m i)):=by rw [qm,zT h1];exact zY h1
 have cw:=znv g m i h0 h1;have cg:=goes_call (YN m i);have hmc:=hm.code;have hw1:IntKind.i64.wrap (i + 1)=i + 1:=wrap_in zwy62 zwy62;have c1:=zkz m.clauses i (i + 1) hm.n (hm.s i) (hm.s (i + 1));have c2:=zkz m.clauses i (qm m i).arg hm.n (hm.s i) (hm.s _);have c3:=zp4 m.clauses i (qm m i).arg hm.n (hm.s i) (hm.s _);rw [←hw1] at c1;have hon:onV m i=if Qr (YN m i)&&!decide (IntKind.i64.wrap (i + 1) < (((m.code.map qx).length:Nat):Int)) then 11
   else if Qr (YN m i)&&!zgG m.clauses i (IntKind.i64.wrap (i + 1)) then 12
   else if !ZU (YN m i) then 0
   else if YN m i==4 then (if zjl m.clauses i (qm m i).arg then 0 else 12)
   else if zgG m.clauses i (qm m i).arg then 0 else 12:=by rw [hw1,List.length_map];rfl
 rw [hon];generalize qm m i=x at *;generalize YN m i=w at *;generalize zgG m.clauses i (IntKind.i64.wrap (i + 1))=p1 at *;generalize zgG m.clauses i x.arg=p2 at *;generalize zjl m.clauses i x.arg=p3 at *;generalize Qr w=nx at *;generalize ZU w=pl at *;refine zI zf Tryz.func103 rfl zws Tryz.ntmps103 zwy63 _ rfl (fun gB hw1=>?_);cases nx
 ·cases pl
  ·repeat' (first|(refine shC ?_;first|refine qC cw ?_|refine qC cg ?_)|refine sK ?_|refine sC (fun _=>?_) (fun _=>?_)|fail)
   all_goals first|exact ZQ zwy65 (.inr rfl)|exact ZQ zwy65 (.inl rfl)
  ·rcases Bool.eq_false_or_eq_true (w==4) with h4|h4
   ·cases p3
    ·repeat' (first|refine zl 9 4 rfl rfl rfl ?_|refine zD ([]) zh rfl rfl rfl tH (yY rfl 12) ?_|(refine shC ?_;first|refine qC cw ?_|refine qC cg ?_|refine qC c3 ?_)|(refine shX ?_;first|refine zy rfl (ah h0 hei) rfl rfl ?_|refine zq rfl (ah h0 hei) rfl rfl ?_)|refine sK ?_|refine sC (fun _=>?_) (fun _=>?_)|fail)
     all_goals exact Zc (k:=12) zwy65 zwy67
    ·repeat' (first|(refine shC ?_;first|refine qC cw ?_|refine qC cg ?_|refine qC c3 ?_|refine qC (yx rfl 12) ?_)|(refine shX ?_;first|refine zy rfl (ah h0 hei) rfl rfl ?_|refine zq rfl (ah h0 hei) rfl rfl ?_)|refine sK ?_|refine sC (fun _=>?_) (fun _=>?_)|fail)
     all_goals first|exact ZQ zwy65 (.inr rfl)|exact ZQ zwy65 (.inl rfl)
   ·cases p2
    ·repeat' (first|refine zl 10 4 rfl rfl rfl ?_|refine zD ([]) zh rfl rfl rfl tH (yY rfl 12) ?_|(refine shC ?_;first|refine qC cw ?_|refine qC cg ?_|refine qC c2 ?_)|(refine shX ?_;first|refine zy rfl (ah h0 hei) rfl rfl ?_|refine zq rfl (ah h0 hei) rfl rfl ?_)|refine sK ?_|refine sC (fun _=>?_) (fun _=>?_)|fail)
     all_goals exact Zc (k:=12) zwy65 zwy67
    ·repeat' (first|(refine shC ?_;first|refine qC cw ?_|refine qC cg ?_|refine qC c2 ?_|refine qC (yx rfl 12) ?_)|(refine shX ?_;first|refine zy rfl (ah h0 hei) rfl rfl ?_|refine zq rfl (ah h0 hei) rfl rfl ?_)|refine sK ?_|refine sC (fun _=>?_) (fun _=>?_)|fail)
     all_goals first|exact ZQ zwy65 (.inr rfl)|exact ZQ zwy65 (.inl rfl)
 ·rcases Bool.eq_false_or_eq_true (decide (IntKind.i64.wrap (i + 1) < (((m.code.map qx).length:Nat):Int))) with hd|hd
  ·cases p1
   ·repeat' (first|refine zl 5 5 rfl rfl rfl ?_|refine zD ([]) zh rfl rfl rfl tH (yY rfl 12) ?_|(refine shC ?_;first|refine qC cw ?_|refine qC cg ?_|refine qC (yx hd 11) ?_|refine qC c1 ?_)|refine sK ?_|refine sC (fun _=>?_) (fun _=>?_)|fail)
    all_goals exact Zc (k:=12) zwy65 zwy67
   ·cases pl
    ·repeat' (first|(refine shC ?_;first|refine qC cw ?_|refine qC cg ?_|refine qC (yx hd 11) ?_|refine qC c1 ?_|refine qC (yx rfl 12) ?_)|refine sK ?_|refine sC (fun _=>?_) (fun _=>?_)|fail)
     all_goals first|exact ZQ zwy65 (.inr rfl)|exact ZQ zwy65 (.inl rfl)
    ·rcases Bool.eq_false_or_eq_true (w==4) with h4|h4
     ·cases p3
      ·repeat' (first|refine zl 9 4 rfl rfl rfl ?_|refine zD ([]) zh rfl rfl rfl tH (yY rfl 12) ?_|(refine shC ?_;first|refine qC cw ?_|refine qC cg ?_|refine qC (yx hd 11) ?_|refine qC c1 ?_|refine qC (yx rfl 12) ?_|refine qC c3 ?_)|(refine shX ?_;first|refine zy rfl (ah h0 hei) rfl rfl ?_|refine zq rfl (ah h0 hei) rfl rfl ?_)|refine sK ?_|refine sC (fun _=>?_) (fun _=>?_)|fail)
       all_goals exact Zc (k:=12) zwy65 zwy67
      ·repeat' (first|(refine shC ?_;first|refine qC cw ?_|refine qC cg ?_|refine qC (yx hd 11) ?_|refine qC c1 ?_|refine qC (yx rfl 12) ?_|refine qC c3 ?_|refine qC (yx rfl 12) ?_)|(refine shX ?_;first|refine zy rfl (ah h0 hei) rfl rfl ?_|refine zq rfl (ah h0 hei) rfl rfl ?_)|refine sK ?_|refine sC (fun _=>?_) (fun _=>?_)|fail)
       all_goals first|exact ZQ zwy65 (.inr rfl)|exact ZQ zwy65 (.inl rfl)
     ·cases p2
      ·repeat' (first|refine zl 10 4 rfl rfl rfl ?_|refine zD ([]) zh rfl rfl rfl tH (yY rfl 12) ?_|(refine shC ?_;first|refine qC cw ?_|refine qC cg ?_|refine qC (yx hd 11) ?_|refine qC c1 ?_|refine qC (yx rfl 12) ?_|refine qC c2 ?_)|(refine shX ?_;first|refine zy rfl (ah h0 hei) rfl rfl ?_|refine zq rfl (ah h0 hei) rfl rfl ?_)|refine sK ?_|refine sC (fun _=>?_) (fun _=>?_)|fail)
       all_goals exact Zc (k:=12) zwy65 zwy67
      ·repeat' (first|(refine shC ?_;first|refine qC cw ?_|refine qC cg ?_|refine qC (yx hd 11) ?_|refine qC c1 ?_|refine qC (yx rfl 12) ?_|refine qC c2 ?_|refine qC (yx rfl 12) ?_)|(refine shX ?_;first|refine zy rfl (ah h0 hei) rfl rfl ?_|refine zq rfl (ah h0 hei) rfl rfl ?_)|refine sK ?_|refine sC (fun _=>?_) (fun _=>?_)|fail)
       all_goals first|exact ZQ zwy65 (.inr rfl)|exact ZQ zwy65 (.inl rfl)
  ·repeat' (first|refine zl 4 7 rfl rfl rfl ?_|refine zD ([]) zh rfl rfl rfl tH (yY hd 11) ?_|(refine shC ?_;first|refine qC cw ?_|refine qC cg ?_)|refine sK ?_|refine sC (fun _=>?_) (fun _=>?_)|fail)
   all_goals exact Zc (k:=11) zwy65 zwy67
end Go.Cg
