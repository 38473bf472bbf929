/- A part of the walks by abstract values: no statement of its own. -/
import Derived.Test.YtdlokcmodgccnaaGreatF23
import Derived.Test.YtdlokcmodgccnaaGreatF26
import Derived.Test.YtdlokcmodgccnaaGreatF30
import Derived.Test.YtdlokcmodgccnaaGreatF32
set_option linter.unusedVariables false
set_option linter.unusedSimpArgs false
namespace Go.Cg
open Go.Proofs
theorem XW {k:Int} {c:Cl} {x:Pt} (h:x∈zK k c):x.c=k∧(x.p=1∨x.p=2∨(x.p=3∧c.kind=2))∧bounds c x.p=(x.f,x.t):=by
 unfold zK at h
 by_cases hk:c.kind=2
 ·simp [hk] at h
  rcases h with rfl|rfl|rfl <;> simp [bounds,hk]
 ·simp [hk] at h
  rcases h with rfl|rfl <;> simp [bounds]
theorem zlW {n:Int} {c:Cl} (h:ZW n c=0):meet c 1 c 2=false∧meet c 1 c 3=false∧meet c 2 c 3=false:=by
 unfold ZW at h
 split at h
 ·simp at h
 ·split at h
  ·simp at h
  ·split at h
   ·simp at h
   ·rename_i h1
    simp only [Bool.or_eq_true,not_or,Bool.not_eq_true] at h1
    exact ⟨h1.1.1,h1.1.2,h1.2⟩
theorem zo7 {a b:Cl} {p q at_:Int} {x y:Pt} (hx:bounds a p=(x.f,x.t)) (hy:bounds b q=(y.f,y.t)) (h1:YZ at_ x=true) (h2:YZ at_ y=true):meet a p b q=true:=by
 simp only [YZ,Bool.and_eq_true,decide_eq_true_eq] at h1 h2
 simp only [meet,hx,hy,Bool.and_eq_true,decide_eq_true_eq]
 omega
theorem zot {a b:Cl} {p q:Int}:meet a p b q=meet b q a p:=by
 rw [Bool.eq_iff_iff];simp [meet];omega
theorem zlx {n k at_:Int} {c:Cl} (h:ZW n c=0) {x y:Pt} (hx:x∈zK k c) (hy:y∈zK k c) (h1:YZ at_ x=true) (h2:YZ at_ y=true):x=y:=by
 obtain ⟨c1,p1,b1⟩:=XW hx
 obtain ⟨c2,p2,b2⟩:=XW hy
 obtain ⟨m12,m13,m23⟩:=zlW h
 have hm:=zo7 b1 b2 h1 h2
 have hp:x.p=y.p:=by
  rcases p1 with p1|p1|⟨p1,_⟩ <;> rcases p2 with p2|p2|⟨p2,_⟩ <;> rw [p1,p2] at hm <;> first|(rw [p1,p2];done)|(simp_all;done)|(rw [zot] at hm;simp_all;done)
 rw [hp] at b1
 rw [b1] at b2
 cases x;cases y;simp_all
theorem zi0 {n at_ ka kb:Int} {a b:Cl} (ha:ZW n a=0) (hb:ZW n b=0) (hf:Qb a b=true) {x y:Pt} (hx:x∈zK ka a) (hy:y∈zK kb b) (h1:YZ at_ x=true) (h2:YZ at_ y=true) (hs:szP x=szP y):x.f=y.f∧x.t=y.t:=by
 obtain ⟨c1,p1,b1⟩:=XW hx
 obtain ⟨c2,p2,b2⟩:=XW hy
 have key:∀ q,Zt a b q=true→(q=1∨q=2∨q=3)→False:=by
  intro q hq hq3
  simp only [Zt,Bool.and_eq_true,decide_eq_true_eq] at hq
  have hw:within a x.p b q=true:=by rcases p1 with p1|p1|⟨p1,_⟩ <;> rw [p1] <;> simp_all
  obtain ⟨z,hz⟩:∃ z:Pt,z=⟨kb,q,(bounds b q).1,(bounds b q).2⟩:=⟨_,rfl⟩
  have hok:=zen ha
  have hx1:x.f < x.t:=by simp only [YZ,Bool.and_eq_true,decide_eq_true_eq] at h1;omega
  have hx0:0≤x.f:=by
   rcases p1 with p1|p1|⟨p1,hk⟩ <;> rw [p1] at b1 <;> simp [bounds] at b1
   ·have:=hok.t0;omega
   ·have:=hok.h0;omega
   ·rw [hk] at b1;simp at b1;have:=(hok.f hk).1;omega
  have hw2:(bounds b q).1≤x.f∧x.t≤(bounds b q).2∧((bounds b q).1 < x.f∨x.t < (bounds b q).2):=by
   rw [within,b1] at hw
   simp only at hw
   rw [if_neg (by simp;omega)] at hw
   simp only [Bool.and_eq_true,Bool.or_eq_true,decide_eq_true_eq] at hw
   exact ⟨hw.1.1,hw.1.2,hw.2⟩
  have hzm:z∈zK kb b:=by
   subst hz
   unfold zK
   rcases hq3 with rfl|rfl|rfl
   ·simp [bounds]
   ·simp [bounds]
   ·by_cases hk:b.kind=2
    ·simp [bounds,hk]
    ·have:=hq.1.1.1;simp [bounds,hk] at this
  have hza:YZ at_ z=true:=by
   subst hz
   simp only [YZ,Bool.and_eq_true,decide_eq_true_eq] at h1 ⊢
   omega
  have:=zlx hb hzm hy hza h2
  subst this
  subst hz
  simp only [szP] at hs
  omega
 have hm:=zo7 b1 b2 h1 h2
 unfold Qb at hf
 split at hf
 ·rename_i h;exact (key 1 h (.inl rfl)).elim
 ·split at hf
  ·rename_i h;exact (key 2 h (.inr (.inl rfl))).elim
  ·split at hf
   ·rename_i h;exact (key 3 h (.inr (.inr rfl))).elim
   ·simp only [Bool.not_eq_true',Bool.or_eq_false_iff] at hf
    obtain ⟨⟨⟨⟨⟨⟨⟨⟨f11,f12⟩,f13⟩,f21⟩,f22⟩,f23⟩,f31⟩,f32⟩,f33⟩:=hf
    have hbad:badM a b x.p y.p=false:=by
     rcases p1 with p1|p1|⟨p1,_⟩ <;> rcases p2 with p2|p2|⟨p2,_⟩ <;> rw [p1,p2] <;> assumption
    rw [badM,hm] at hbad
    simp only [Bool.true_and,Bool.not_eq_false',Bool.and_eq_true,beq_iff_eq] at hbad
    obtain ⟨⟨⟨e1,e2⟩,e3⟩,e4⟩:=hbad
    rw [e3] at b1
    rw [e4] at b2
    simp [bounds] at b1 b2
    omega
theorem zfo {n:Int} {l:List Cl} (h:(ZE n l).2=0):(∀ i,i < l.length→ZW n (l.getD i default)=0)∧∀ j i,i < l.length→j < i→Qb (l.getD j default) (l.getD i default)=true:=by
 have h6:¬ 6 < l.length:=fun h6=>by simp [ZE,h6] at h
 have hall:∀ i,i < l.length→Yx n l i=0:=by
  intro i hi
  rw [ZE,if_neg h6] at h
  split at h
  ·rename_i j hj
   have:=List.find?_some hj
   simp only [bne_iff_ne,ne_eq] at this
   exact absurd h this
  ·rename_i hn
   have:=List.find?_eq_none.1 hn i (List.mem_range.2 hi)
   simpa using this
 refine ⟨fun i hi=>zeX (hall i hi),fun j i hi hj=>?_⟩
 have:=hall i hi
 rw [Yx,zeX this] at this
 simp only [bne_self_eq_false,Bool.false_eq_true,if_false] at this
 split at this
 ·simp at this
 ·rename_i hb
  simp only [Qn,Bool.not_eq_true,List.any_eq_false,List.mem_range,Bool.not_eq_true'] at hb
  have:=hb j hj
  simpa using this
theorem zpk {n at_:Int} {l:List Cl} (h:(ZE n l).2=0):zq0 (Qo at_ l):=by
 obtain ⟨ha,hf⟩:=zfo h
 intro x hx y hy hs
 obtain ⟨i,hi,hxi,hxa⟩:=XZ hx
 obtain ⟨j,hj,hyj,hya⟩:=XZ hy
 rcases Nat.lt_trichotomy i j with hij|hij|hij
 ·exact zi0 (ha i hi) (ha j hj) (hf i j hj hij) hxi hyj hxa hya hs
 ·subst hij
  rw [zlx (ha i hi) hxi hyj hxa hya]
  exact ⟨rfl,rfl⟩
 ·have:=zi0 (ha j hj) (ha i hi) (hf j i hi hij) hyj hxi hya hxa hs.symm
  exact ⟨this.1.symm,this.2.symm⟩
theorem zcq (at_:Int) (l:List Cl):∀ k,(Xy at_ l k).Pairwise (fun a b=>a.c≤b.c)
 | 0=>by simp [Xy]
 | k + 1=>by
  rw [Xy,List.pairwise_append]
  refine ⟨zcq at_ l k,?_,fun a ha b hb=>?_⟩
  ·refine List.Pairwise.filter _ ?_
   refine List.Pairwise.imp_of_mem (R:=fun _ _=>True) (fun {a b} ha hb _=>?_) (List.pairwise_of_forall fun _ _=>trivial)
   rw [zb8 ha,zb8 hb];exact Int.le_refl _
  ·obtain ⟨j,hj,h1,_⟩:=XZ ha
   rw [zb8 h1,zb8 (List.mem_filter.1 hb).1];omega
theorem zsI {at_:Int} {l:List Cl}:∀ x∈Qo at_ l,0 < szP x:=fun x hx=>by
 obtain ⟨_,_,_,h⟩:=XZ hx
 simp only [YZ,Bool.and_eq_true,decide_eq_true_eq] at h
 unfold szP;omega
theorem zr2 {n:Int} {l:List Cl} (hc:(ZE n l).2=0) {j:Nat} (hj:j < l.length) {y:Pt} (hy:y∈zK j (l.getD j default)):y.t≤n∧0≤y.f:=by
 have ha:=(zfo hc).1 j hj
 have hok:=zen ha
 generalize l.getD j default=c at *
 have h1:c.tt≤n∧c.ht≤n:=by
  unfold ZW at ha
  split at ha
  ·simp at ha
  ·rename_i h1
   simp only [WT,zbK,Bool.or_eq_true,decide_eq_true_eq,Bool.not_eq_true',Bool.and_eq_false_iff,decide_eq_false_iff_not,not_or,Decidable.not_not] at h1
   omega
 obtain ⟨_,p1,b1⟩:=XW hy
 have e:=hok.t;have e2:=hok.h;have e3:=hok.h0;have e4:=hok.t0
 rcases p1 with p1|p1|⟨p1,hk⟩ <;> rw [p1] at b1 <;> simp [bounds] at b1
 ·omega
 ·omega
 ·have:=hok.f hk
  rw [hk] at b1;simp at b1;omega
set_option maxHeartbeats 20000000
theorem zrn (g:Img) (hF:Fm g) (m:Me) (ar:List Ty) (arg:Int) (t0:Ty) (l:List Ty) (hl:l.length≤100):XC 162 [] (⟨g,m,ar,⟨8,arg,t0⟩⟩:RC) (qZ g m ⟨8,arg,t0⟩) uV l:=by
 intro u;refine yO zh Tryz.func162 rfl (by kernel_rfl) Tryz.ntmps162 (by simp) _ rfl (fun gB hw1=>?_)
 cases hS1:(qK m.max [kTy 2]) l with
 | error e =>
  have hw:(qZ g m ⟨8,arg,t0⟩) l=.error e:=by simp [qZ,qx,ZT,hS1]
  repeat' (first|refine zD 2 3 rfl rfl rfl ?_|refine yw ((WJ u ⟨g,m,ar,⟨8,arg,t0⟩⟩ l)) zy rfl rfl rfl tH ((Vu ⟨g,m,ar,⟨8,arg,t0⟩⟩ [kTy 2] _ (by omega) (by simp)).bad hS1 u) ?_|(refine shC ?_;first|refine qC (XV 2) ?_)|refine sK ?_|refine sC (fun _=>?_) (fun _=>?_)|fail)
  exact Zn hw
 | ok p =>
  obtain ⟨⟨⟩,l1⟩:=p
  have hw:(qZ g m ⟨8,arg,t0⟩) l=.ok ((),l1):=by simp [qZ,qx,ZT,hS1]
  repeat' (first|(refine shC ?_;first|refine qC (XV 2) ?_)|(refine zL ?_;first|(refine qc 0 zy rfl rfl ((Vu ⟨g,m,ar,⟨8,arg,t0⟩⟩ [kTy 2] _ (by omega) (by simp)).ok hS1) rfl rfl rfl rfl rfl ?_))|refine sK ?_|refine sC (fun _=>?_) (fun _=>?_)|fail)
  exact Xq hw (zbO (.inl rfl) tH)
theorem zuz (g:Img) (hF:Fm g) (m:Me) (ar:List Ty) (arg:Int) (t0:Ty) (l:List Ty) (hl:l.length≤100):XC 162 [] (⟨g,m,ar,⟨11,arg,t0⟩⟩:RC) (qZ g m ⟨11,arg,t0⟩) uV l:=by
 intro u;refine yO zh Tryz.func162 rfl (by kernel_rfl) Tryz.ntmps162 (by simp) _ rfl (fun gB hw1=>?_)
 cases hS1:(QI) l with
 | error e =>
  have hw:(qZ g m ⟨11,arg,t0⟩) l=.error e:=by simp [qZ,qx,ZT,hS1]
  repeat' (first|refine zD 9 1 rfl rfl rfl ?_|refine yw ((WJ u ⟨g,m,ar,⟨11,arg,t0⟩⟩ l)) zy rfl rfl rfl tH ((zaW ⟨g,m,ar,⟨11,arg,t0⟩⟩ _ (by omega)).bad hS1 u) ?_|refine sK ?_|refine sC (fun _=>?_) (fun _=>?_)|fail)
  exact Zn hw
 | ok p =>
  obtain ⟨t,l1⟩:=p
  have hl1:l1.length≤100:=by have:=zti hS1;omega
  cases hS2:(qK m.max [t,t]) l1 with
  | error e =>
   have hw:(qZ g m ⟨11,arg,t0⟩) l=.error e:=by simp [qZ,qx,ZT,hS1,hS2]
   repeat' (first|refine zD 10 4 rfl rfl rfl ?_|refine yw ((WJ u ⟨g,m,ar,⟨11,arg,t0⟩⟩ l1)) zy rfl rfl rfl tH ((Vu ⟨g,m,ar,⟨11,arg,t0⟩⟩ [t,t] _ (by omega) (by simp)).bad hS2 u) ?_|(refine zL ?_;first|(refine qc 0 zy rfl rfl ((zaW ⟨g,m,ar,⟨11,arg,t0⟩⟩ _ (by omega)).ok hS1) rfl rfl rfl rfl rfl ?_))|refine sK ?_|refine sC (fun _=>?_) (fun _=>?_)|fail)
   exact Zn hw
  | ok p =>
   obtain ⟨⟨⟩,l2⟩:=p
   have hw:(qZ g m ⟨11,arg,t0⟩) l=.ok ((),l2):=by simp [qZ,qx,ZT,hS1,hS2]
   repeat' (first|(refine zL ?_;first|(refine qc 0 zy rfl rfl ((zaW ⟨g,m,ar,⟨11,arg,t0⟩⟩ _ (by omega)).ok hS1) rfl rfl rfl rfl rfl ?_)|(refine qc 0 zy rfl rfl ((Vu ⟨g,m,ar,⟨11,arg,t0⟩⟩ [t,t] _ (by omega) (by simp)).ok hS2) rfl rfl rfl rfl rfl ?_))|refine sK ?_|refine sC (fun _=>?_) (fun _=>?_)|fail)
   exact Xq hw (zbO (.inl rfl) tH)
theorem zuA (g:Img) (hF:Fm g) (m:Me) (ar:List Ty) (arg:Int) (t0:Ty) (l:List Ty) (hl:l.length≤100):XC 162 [] (⟨g,m,ar,⟨75,arg,t0⟩⟩:RC) (qZ g m ⟨75,arg,t0⟩) uV l:=by
 intro u;refine yO zh Tryz.func162 rfl (by kernel_rfl) Tryz.ntmps162 (by simp) _ rfl (fun gB hw1=>?_)
 cases hS1:(Xe g (kTy 3)) l with
 | error e =>
  have hw:(qZ g m ⟨75,arg,t0⟩) l=.error e:=by simp [qZ,qx,ZT,hS1]
  repeat' (first|refine zD 14 2 rfl rfl rfl ?_|refine yw ((WJ u ⟨g,m,ar,⟨75,arg,t0⟩⟩ l)) zy rfl rfl rfl tH ((zbf ⟨g,m,ar,⟨75,arg,t0⟩⟩ hF (kTy 3) _ (by omega)).bad hS1 u) ?_|(refine shC ?_;first|refine qC (XV 3) ?_)|refine sK ?_|refine sC (fun _=>?_) (fun _=>?_)|fail)
  exact Zn hw
 | ok p =>
  obtain ⟨⟨⟩,l1⟩:=p
  have hl1:l1.length≤100:=by have:=zmk hS1;omega
  have hw:(qZ g m ⟨75,arg,t0⟩) l=.ok ((),l1):=by simp [qZ,qx,ZT,hS1]
  repeat' (first|(refine shC ?_;first|refine qC (XV 3) ?_)|(refine zL ?_;first|(refine qc 0 zy rfl rfl ((zbf ⟨g,m,ar,⟨75,arg,t0⟩⟩ hF (kTy 3) _ (by omega)).ok hS1) rfl rfl rfl rfl rfl ?_))|refine sK ?_|refine sC (fun _=>?_) (fun _=>?_)|fail)
  exact Xq hw (zbO (.inl rfl) tH)
theorem ztc (g:Img) (hF:Fm g) (m:Me) (ar:List Ty) (arg:Int) (t0:Ty) (l:List Ty) (hl:l.length≤100) (u:Value):Xp Tryz.prog 161 [.box 0 0] (WJ u (⟨g,m,ar,⟨46,arg,t0⟩⟩:RC) l) (zs6 u (⟨g,m,ar,⟨46,arg,t0⟩⟩:RC) ((QZ g m 46) l)):=by
 revert u
 intro u;refine yO zh Tryz.func161 rfl (by kernel_rfl) Tryz.ntmps161 (by simp) _ rfl (fun gB hw1=>?_)
 cases hC1:(m.ret.kind != 1)
 ·skip
  cases hN2:(l.length==0)
  ·have hw:(QZ g m 46) l=.error 9:=by simp [QZ,qx,ZT,hC1,qW,emptyS,hN2]
   repeat' (first|refine zD 4 6 rfl rfl rfl ?_|refine yw ([]) zy rfl rfl rfl tH (VZ (by simpa using hN2) 9) ?_|refine zu rfl (zU (ps:=(ziu m.ret)) zh rfl rfl rfl rfl rfl) rfl rfl ?_|refine AD.step _ _ _ _ _ rfl (zU (ps:=(ziu m.ret)) zh rfl rfl rfl rfl rfl) rfl rfl ?_|refine sK ?_|refine sC (fun _=>?_) (fun _=>?_)|fail)
   exact zie hw
  ·skip
   have hw:(QZ g m 46) l=.ok ((),[]):=by simp [QZ,qx,ZT,hC1,qW,emptyS,hN2,zeT]
   repeat' (first|refine zu rfl (zU (ps:=(ziu m.ret)) zh rfl rfl rfl rfl rfl) rfl rfl ?_|refine AD.step _ _ _ _ _ rfl (zU (ps:=(ziu m.ret)) zh rfl rfl rfl rfl rfl) rfl rfl ?_|(refine shC ?_;first|refine zu rfl (qw rfl rfl (zaz (by simpa using hN2) 9)) rfl rfl ?_|refine AD.step _ _ _ _ _ rfl (qw rfl rfl (zaz (by simpa using hN2) 9)) rfl rfl ?_)|refine sK ?_|refine sC (fun _=>?_) (fun _=>?_)|fail)
   exact zpe hw (zrq (.inl rfl) tH)
 ·skip
  cases hS2:(Xe g (m.ret)) l with
  | error e =>
   have hw:(QZ g m 46) l=.error e:=by simp [QZ,qx,ZT,hC1,hS2]
   repeat' (first|refine zD 3 6 rfl rfl rfl ?_|refine yw ((WJ u ⟨g,m,ar,⟨46,arg,t0⟩⟩ l)) zy rfl rfl rfl tH ((zbf ⟨g,m,ar,⟨46,arg,t0⟩⟩ hF (m.ret) _ (by omega)).bad hS2 u) ?_|refine zu rfl (zU (ps:=(ziu m.ret)) zh rfl rfl rfl rfl rfl) rfl rfl ?_|refine AD.step _ _ _ _ _ rfl (zU (ps:=(ziu m.ret)) zh rfl rfl rfl rfl rfl) rfl rfl ?_|refine sK ?_|refine sC (fun _=>?_) (fun _=>?_)|fail)
   exact zie hw
  | ok p =>
   obtain ⟨⟨⟩,l2⟩:=p
   have hl2:l2.length≤100:=by have:=zmk hS2;omega
   cases hN3:(l2.length==0)
   ·have hw:(QZ g m 46) l=.error 9:=by simp [QZ,qx,ZT,hC1,hS2,qW,emptyS,hN3]
    repeat' (first|refine zD 4 6 rfl rfl rfl ?_|refine yw ([]) zy rfl rfl rfl tH (VZ (by simpa using hN3) 9) ?_|refine zu rfl (zU (ps:=(ziu m.ret)) zh rfl rfl rfl rfl rfl) rfl rfl ?_|refine AD.step _ _ _ _ _ rfl (zU (ps:=(ziu m.ret)) zh rfl rfl rfl rfl rfl) rfl rfl ?_|(refine zL ?_;first|(refine qc 0 zy rfl rfl ((zbf ⟨g,m,ar,⟨46,arg,t0⟩⟩ hF (m.ret) _ (by omega)).ok hS2) rfl rfl rfl rfl rfl ?_))|refine sK ?_|refine sC (fun _=>?_) (fun _=>?_)|fail)
    exact zie hw
   ·skip
    have hw:(QZ g m 46) l=.ok ((),[]):=by simp [QZ,qx,ZT,hC1,hS2,qW,emptyS,hN3,zeT]
    repeat' (first|refine zu rfl (zU (ps:=(ziu m.ret)) zh rfl rfl rfl rfl rfl) rfl rfl ?_|refine AD.step _ _ _ _ _ rfl (zU (ps:=(ziu m.ret)) zh rfl rfl rfl rfl rfl) rfl rfl ?_|(refine shC ?_;first|refine zu rfl (qw rfl rfl (zaz (by simpa using hN3) 9)) rfl rfl ?_|refine AD.step _ _ _ _ _ rfl (qw rfl rfl (zaz (by simpa using hN3) 9)) rfl rfl ?_)|(refine zL ?_;first|(refine qc 0 zy rfl rfl ((zbf ⟨g,m,ar,⟨46,arg,t0⟩⟩ hF (m.ret) _ (by omega)).ok hS2) rfl rfl rfl rfl rfl ?_))|refine sK ?_|refine sC (fun _=>?_) (fun _=>?_)|fail)
    exact zpe hw (zrq (.inl rfl) tH)
set_option maxHeartbeats 20000000
structure XOk (g:Img) (x:Ins):Prop where
 lo:1≤x.op
 hi:x.op≤75
 v:2≤x.op→x.op≤7→0≤x.arg
 m:(x.op=43∨x.op=44∨x.op=45∨x.op=67)→0≤x.arg∧x.arg.toNat < g.methods.length∧(mAt g x.arg).params.length≤100∧0≤(mAt g x.arg).owner∧(mAt g x.arg).owner.toNat < g.types.length
 f:48≤x.op→x.op≤53→0≤x.arg∧x.arg.toNat < g.fields.length
 a:57≤x.op→x.op≤61→0≤x.t.dims∧x.t.dims≤100
 p:∀ i:Int,0≤i→i.toNat < g.methods.length→(mAt g i).params.length≤100
 d:x.op=68→x.t.kind=5→x.t.dims=0→YU g x.t.index=3→methodsOf g x.t.index≠[]
def zpj {α:Type} (act:SM α):Prop:=∀ l p,act l=.ok p→p.2=[]
theorem VE {α β:Type} {x:SM α} {f:α→SM β} (h:∀ a,zpj (f a)):zpj (x >>= f):=fun l p hp=>by
 rw [qx] at hp
 split at hp
 ·cases hp
 ·exact h _ _ _ hp
theorem zbI:zpj zeT:=fun l p h=>by cases h;rfl
theorem zoA (g:Img) (m:Me) (op:Int):zpj (QZ g m op):=by
 unfold QZ
 split
 ·exact VE fun _=>VE fun _=>zbI
 ·split
  ·exact VE fun _=>VE fun _=>zbI
  ·split
   ·exact VE fun _=>VE fun _=>zbI
   ·exact zbI
theorem zp1 {g:Img} {m:Me} {op:Int} {l:List Ty} {p:Unit × List Ty} (h:QZ g m op l=.ok p):p.2=[]:=zoA g m op l p h
def zg3 (x:Ins):Prop:=x.op=8∨x.op=13∨x.op=46
theorem zp5 (c:RC) (hF:Fm c.g) (l:List Ty) (hl:l.length≤100) (h:c.x.op=13):XC 153 [] c (zaZ c.g c.m c.x.op) uV l:=by
 obtain ⟨g,m,ar,op,arg,t0⟩:=c
 exact zs9 g hF m ar arg t0 l hl op (.inl h)
theorem zl2 (c:RC) (hF:Fm c.g) (l:List Ty) (hl:l.length≤100) (h:c.x.op=8):XC 162 [] c (qZ c.g c.m c.x) uV l:=by
 obtain ⟨g,m,ar,op,arg,t0⟩:=c
 simp only at h;subst h
 exact zrn g hF m ar arg t0 l hl
theorem zpB (c:RC) (hF:Fm c.g) (l:List Ty) (hl:l.length≤100) (h:c.x.op=46):XC 161 [] c (QZ c.g c.m c.x.op) uV l:=by
 obtain ⟨g,m,ar,op,arg,t0⟩:=c
 simp only at h;subst h
 exact zsN (fun _ h=>zp1 h) (ztc g hF m ar arg t0 l hl)
theorem zsK (c:RC) (hF:Fm c.g) (l:List Ty) (hl:l.length≤100) (h:c.x.op=13):XC 116 [] c (doS c.g c.ar c.m c.x) uV l:=by
 intro u;refine yO zh Tryz.func116 rfl (by kernel_rfl) Tryz.ntmps116 (by simp) _ rfl (fun gB hw1=>?_)
 have cv:=zp5 c hF l hl h
 have hs:doS c.g c.ar c.m c.x l=(zaZ c.g c.m c.x.op) l:=by
  unfold doS
  first
   | (rw [if_neg (by simp;omega)];rw [if_pos (by simp;omega)])
 cases hS:(zaZ c.g c.m c.x.op) l with
 | error e =>
  repeat' (first|refine zD 5 1 rfl rfl rfl ?_|refine yw ((WJ u c l)) zy rfl rfl rfl tH (cv.bad hS u) ?_|refine sK ?_|refine sC (fun _=>?_) (fun _=>?_)|fail)
  exact Zn (hs.trans hS)
 | ok p =>
  obtain ⟨⟨⟩,l1⟩:=p
  repeat' (first|(refine zL ?_;first|(refine qc 0 zy rfl rfl (cv.ok hS) rfl rfl rfl rfl rfl ?_))|refine sK ?_|refine sC (fun _=>?_) (fun _=>?_)|fail)
  exact Xq (hs.trans hS) (zbO (.inl rfl) tH)
theorem ztD (c:RC) (hF:Fm c.g) (l:List Ty) (hl:l.length≤100) (h:c.x.op=46):XC 116 [] c (doS c.g c.ar c.m c.x) uV l:=by
 intro u;refine yO zh Tryz.func116 rfl (by kernel_rfl) Tryz.ntmps116 (by simp) _ rfl (fun gB hw1=>?_)
 have cv:=zpB c hF l hl h
 all_goals
  skip
  have hs:doS c.g c.ar c.m c.x l=(QZ c.g c.m c.x.op) l:=by
   unfold doS
   first
    | (rw [if_neg (by simp;omega)];rw [if_neg (by simp;omega)];rw [if_neg (by simp;omega)];rw [if_neg (by simp;omega)];rw [if_neg (by simp;omega)];rw [if_neg (by simp;omega)];rw [if_neg (by simp;omega)];rw [if_neg (by simp;omega)];rw [if_neg (by simp;omega)];rw [if_pos (by simp;omega)])
  cases hS:(QZ c.g c.m c.x.op) l with
  | error e =>
   repeat' (first|refine zD 21 1 rfl rfl rfl ?_|refine yw ((WJ u c l)) zy rfl rfl rfl tH (cv.bad hS u) ?_|refine sK ?_|refine sC (fun _=>?_) (fun _=>?_)|fail)
   exact Zn (hs.trans hS)
  | ok p =>
   obtain ⟨⟨⟩,l1⟩:=p
   repeat' (first|(refine zL ?_;first|(refine qc 0 zy rfl rfl (cv.ok hS) rfl rfl rfl rfl rfl ?_))|refine sK ?_|refine sC (fun _=>?_) (fun _=>?_)|fail)
   exact Xq (hs.trans hS) (zbO (.inl rfl) tH)
theorem zqj (c:RC) (hF:Fm c.g) (l:List Ty) (hl:l.length≤100) (h:c.x.op=8):XC 116 [] c (doS c.g c.ar c.m c.x) uV l:=by
 intro u;refine yO zh Tryz.func116 rfl (by kernel_rfl) Tryz.ntmps116 (by simp) _ rfl (fun gB hw1=>?_)
 have cv:=zl2 c hF l hl h
 have hs:doS c.g c.ar c.m c.x l=qZ c.g c.m c.x l:=by
  unfold doS
  all_goals (rw [if_neg (by simp [h])];rw [if_neg (by simp [h])];rw [if_neg (by simp [h])];rw [if_neg (by simp [h])];rw [if_neg (by simp [h])];rw [if_neg (by simp [h])];rw [if_neg (by simp [h])];rw [if_neg (by simp [h])];rw [if_neg (by simp [h])];rw [if_neg (by simp [h])])
 cases hS:(qZ c.g c.m c.x) l with
 | error e =>
  all_goals
   repeat' (first|refine zD 1 1 rfl rfl rfl ?_|refine yw ((WJ u c l)) zy rfl rfl rfl tH (cv.bad hS u) ?_|refine sK ?_|refine sC (fun _=>?_) (fun _=>?_)|fail)
   exact Zn (hs.trans hS)
 | ok p =>
  obtain ⟨⟨⟩,l1⟩:=p
  all_goals
   repeat' (first|(refine zL ?_;first|(refine qc 0 zy rfl rfl (cv.ok hS) rfl rfl rfl rfl rfl ?_))|refine sK ?_|refine sC (fun _=>?_) (fun _=>?_)|fail)
   exact Xq (hs.trans hS) (zbO (.inl rfl) tH)
theorem zsV (c:RC) (hF:Fm c.g) (hL:zg3 c.x) (l:List Ty) (hl:l.length≤100):XC 116 [] c (doS c.g c.ar c.m c.x) uV l:=by
 rcases hL with h|h|h
 ·exact zqj c hF l hl h
 ·exact zsK c hF l hl h
 ·exact ztD c hF l hl h
def zrB:Except Int (Unit × List Ty)→PV
 | .error e=>.tup [.base (.slice none 0 0),pi e]
 | .ok p=>.tup [tys p.2,pi 0]
set_option maxHeartbeats 4000000 in
theorem zqM (g:Img) (hF:Fm g) (hgm:g.methods.length≤1000) (mi at_:Int) (l:List Ty) (hl:l.length≤100) (hm:mOk g mi) (hp:(mAt g mi).params.length≤100) (h0:0≤at_) (h1:at_.toNat < (mAt g mi).code.length) (hL:zg3 (zX (mAt g mi) at_)) :
  ACall Tryz.prog 77 [.ptr (zq g) 0,pi mi,pi at_,tys l] (zrB (stepS g mi at_ l)):=by
 have hem:(g.methods.map zG)[mi.toNat]?=some (zG (mAt g mi)):=by rw [mAt,zx hm.2];exact zA hm.2
 have hei:((mAt g mi).code.map zY)[at_.toNat]?=some (zY (zX (mAt g mi) at_)):=by rw [zX,zx h1];exact zA h1
 have hm0:=hm.1
 have hmlt:mi < g.methods.length:=by have:=hm.2;omega
 have halt:at_ < (mAt g mi).code.length:=by omega
 have cA:=zjq g (mAt g mi) (by omega)
 have hst:stepS g mi at_ l=doS g (Xc g (mAt g mi)) (mAt g mi) (zX (mAt g mi) at_) l:=rfl
 rw [hst]
 have cd:=zsV ⟨g,mAt g mi,Xc g (mAt g mi),zX (mAt g mi) at_⟩ hF hL l hl
 generalize mAt g mi=m at *
 generalize zX m at_=x at *
 refine zjk zh Tryz.func77 rfl (by kernel_rfl) Tryz.ntmps77 (by simp) _ rfl (fun hw=>?_)
 refine zay (zal fun gB=>?_)
 repeat' (first|refine Zh zh 1 rfl rfl rfl rfl rfl rfl rfl ?_|refine Zh zh 2 rfl rfl rfl rfl rfl rfl rfl ?_|refine sK ?_|refine sC (fun _=>?_) (fun _=>?_)|fail)
 refine zay (zal fun gB=>?_)
 repeat' (first|refine zu rfl (Wx (b:=false) rfl Tryz.underlying64 rfl rfl) rfl rfl ?_|refine AD.step _ _ _ _ _ rfl (Wx (b:=false) rfl Tryz.underlying64 rfl rfl) rfl rfl ?_|refine sK ?_|refine sC (fun _=>?_) (fun _=>?_)|fail)
 refine zay (zal fun gB=>?_)
 repeat' (first|(refine shX ?_;first|refine zu rfl (zk zh rfl rfl rfl rfl rfl rfl hm0 hem) rfl rfl ?_|refine AD.step _ _ _ _ _ rfl (zk zh rfl rfl rfl rfl rfl rfl hm0 hem) rfl rfl ?_)|refine sK ?_|refine sC (fun _=>?_) (fun _=>?_)|fail)
 refine zgI 1 2001 rfl rfl fun p1=>zgI 2 2002 rfl rfl fun p2=>?_
 refine zay (zeY (k:=1) rfl rfl rfl rfl rfl fun gB=>?_)
 repeat' (first|refine sK ?_|refine sC (fun _=>?_) (fun _=>?_)|fail)
 refine ⟨_,_,[p1,p2],rfl,⟨⟨2001,rfl⟩,⟨2002,rfl⟩,trivial⟩,?_⟩
 refine zal fun gB=>?_
 cases hS:doS g (Xc g m) m x l with
 | error e =>
  repeat' (first|refine zD 8 1 rfl rfl rfl ?_|refine zaY (WJ u ⟨g,m,Xc g m,x⟩ l) (rbH (.base (.slice none 0 0)) (pi 0) p1 p2) zy rfl rfl rfl (by repeat (first|exact zl|refine zn rfl ?_)) rfl (cd.bad hS u) ?_|refine zsx 0 1000 rfl rfl (fun u=>?_)|refine zfK 0 rfl (zjg _) ?_|refine Zh zh 3 rfl rfl rfl rfl rfl rfl rfl ?_|refine YQ 22 20 rfl (by kernel_rfl) (by kernel_rfl) (by kernel_rfl) (by kernel_rfl) (by kernel_rfl) ?_|refine AD.step _ _ _ _ _ rfl (XB zh rfl rfl (.inl rfl) rfl rfl (by show _ * 32≤_;simp;omega) (by simp;omega)) rfl rfl ?_|refine AD.step _ _ _ _ _ rfl (Xl zh rfl rfl rfl rfl rfl) rfl rfl ?_|(refine shC ?_;first|refine qC cA ?_)|(refine shX ?_;first|refine zu rfl (zk zh rfl rfl rfl rfl rfl rfl hm0 hem) rfl rfl ?_|refine AD.step _ _ _ _ _ rfl (zk zh rfl rfl rfl rfl rfl rfl hm0 hem) rfl rfl ?_|refine zu rfl (zk zh rfl rfl rfl rfl rfl rfl h0 hei) rfl rfl ?_|refine AD.step _ _ _ _ _ rfl (zk zh rfl rfl rfl rfl rfl rfl h0 hei) rfl rfl ?_)|(refine Xg ?_;first|refine zar 0 rfl rfl rfl rfl rfl rfl ?_)|refine sK ?_|refine sC (fun _=>?_) (fun _=>?_)|fail)
  exact ⟨_,_,_,[8,9],[.box 1 0,.box 2 0],[p1,p2],rbH (.base (.slice none 0 0)) (pi 0) p1 p2,rbH (.base (.slice none 0 0)) (pi e) p1 p2,[.base (.slice none 0 0),pi e],rfl,rfl,tH,⟨⟨2001,rfl⟩,⟨2002,rfl⟩,trivial⟩,⟨⟨2001,rfl⟩,⟨2002,rfl⟩,trivial⟩,zp6 p1 p2 e,rfl,rfl,by decide,tS,rfl,rfl⟩
 | ok p =>
  obtain ⟨⟨⟩,l2⟩:=p
  repeat' (first|refine zsx 0 1000 rfl rfl (fun u=>?_)|refine zfK 0 rfl (zjg _) ?_|refine Zh zh 3 rfl rfl rfl rfl rfl rfl rfl ?_|refine YQ 22 20 rfl (by kernel_rfl) (by kernel_rfl) (by kernel_rfl) (by kernel_rfl) (by kernel_rfl) ?_|refine AD.step _ _ _ _ _ rfl (XB zh rfl rfl (.inl rfl) rfl rfl (by show _ * 32≤_;simp;omega) (by simp;omega)) rfl rfl ?_|refine AD.step _ _ _ _ _ rfl (Xl zh rfl rfl rfl rfl rfl) rfl rfl ?_|(refine shC ?_;first|refine qC cA ?_)|(refine shX ?_;first|refine zu rfl (zk zh rfl rfl rfl rfl rfl rfl hm0 hem) rfl rfl ?_|refine AD.step _ _ _ _ _ rfl (zk zh rfl rfl rfl rfl rfl rfl hm0 hem) rfl rfl ?_|refine zu rfl (zk zh rfl rfl rfl rfl rfl rfl h0 hei) rfl rfl ?_|refine AD.step _ _ _ _ _ rfl (zk zh rfl rfl rfl rfl rfl rfl h0 hei) rfl rfl ?_)|(refine zL ?_;first|(refine qc 0 zy rfl rfl (cd.ok hS) rfl rfl rfl rfl rfl ?_))|(refine Xg ?_;first|refine zar 0 rfl rfl rfl rfl rfl rfl ?_)|refine sK ?_|refine sC (fun _=>?_) (fun _=>?_)|fail)
  exact ⟨_,_,_,[8,9],[.box 1 0,.box 2 0],[p1,p2],rbH (tys l2) (pi 0) p1 p2,rbH (tys l2) (pi 0) p1 p2,[tys l2,pi 0],rfl,rfl,tH,⟨⟨2001,rfl⟩,⟨2002,rfl⟩,trivial⟩,⟨⟨2001,rfl⟩,⟨2002,rfl⟩,trivial⟩,zoi _ _ p1 p2,rfl,rfl,by decide,tS,rfl,rfl⟩
end Go.Cg
