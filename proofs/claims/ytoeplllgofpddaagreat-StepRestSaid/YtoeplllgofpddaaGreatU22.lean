/- A part of the walks by abstract values: no statement of its own. -/
import Derived.Test.YtoeplllgofpddaaGreatU13
import Derived.Test.YtoeplllgofpddaaGreatU9
import Derived.Test.YtoeplllgofpddaaGreatU21
set_option linter.unusedVariables false
set_option linter.unusedSimpArgs false
namespace Go.Cg
open Go.Proofs
def R0S {α:Type} (act:SM α):Prop:=∀ l v l',act l=.ok (v,l')→∀ a,act (a++l)=.ok (v,a++l')
def RsS {α:Type} (max:Int) (act:SM α):Prop:=∀ l v l',act l=.ok (v,l')→∀ a:List Ty,((a.length:Int) + (l'.length:Int))≤max→act (a++l)=.ok (v,a++l')
theorem zfD {α:Type} {max:Int} {act:SM α} (h:R0S act):RsS max act:=fun l v l' hx a _=>h l v l' hx a
theorem XJ {α β:Type} {x:SM α} {f:α→SM β} (hx:R0S x) (hf:∀ a,R0S (f a)):R0S (x >>= f):=fun l b l' h a=>by
 rw [zx] at h
 cases hxl:x l with
 | error e=>rw [hxl] at h;cases h
 | ok p =>
  obtain ⟨v,l1⟩:=p
  rw [hxl] at h
  rw [zml (hx l v l1 hxl a)]
  exact hf v l1 b l' h a
theorem Xf {α β:Type} {max:Int} {x:SM α} {f:α→SM β} (hx:R0S x) (hf:∀ a,RsS max (f a)):RsS max (x >>= f):=fun l b l' h a hm=>by
 rw [zx] at h
 cases hxl:x l with
 | error e=>rw [hxl] at h;cases h
 | ok p =>
  obtain ⟨v,l1⟩:=p
  rw [hxl] at h
  rw [zml (hx l v l1 hxl a)]
  exact hf v l1 b l' h a hm
theorem zbz {α:Type} (x:α):R0S (pure x:SM α):=fun l v l' h a=>by rw [zA] at h ⊢;cases h;rfl
theorem WB (b:Bool) (e:Int):R0S (zI b e):=fun l v l' h a=>by
 unfold zI at h ⊢
 split at h
 ·rename_i hb;cases h;rw [if_pos hb]
 ·cases h
theorem zrP (l:List Ty) (t:Ty):Yk (l++[t])=.ok (t,l):=by
 rw [Yk,if_neg (by simp)]
 simp
theorem zb0:R0S Yk:=fun l v l' h a=>by
 rcases Zv l with e|⟨t,l1,e,e2⟩
 ·rw [e] at h;cases h
 ·rw [e] at h;cases h
  rw [e2,←List.append_assoc,zrP]
theorem zl5 (g:Img) (ls:List Ty):R0S (Zh g ls):=fun l v l' h a=>by
 unfold Zh at h ⊢
 split at h
 ·cases h
 ·rename_i hn
  split at h
  ·rename_i hf
   cases h
   have h1:(a++l).length - ls.length=a.length + (l.length - ls.length):=by simp;omega
   rw [if_neg (by simp;omega),h1,List.drop_append,List.drop_eq_nil_of_le (show a.length≤a.length + (l.length - ls.length) by omega),List.nil_append,show a.length + (l.length - ls.length) - a.length=l.length - ls.length by omega,if_pos hf,List.take_append,List.take_of_length_le (show a.length≤a.length + (l.length - ls.length) by omega),show a.length + (l.length - ls.length) - a.length=l.length - ls.length by omega]
  ·cases h
theorem zka (max:Int) (ts:List Ty):RsS max (yR max ts):=fun l v l' h a hm=>by
 unfold yR at h ⊢
 split at h
 ·cases h
  simp at hm
  rw [if_pos (by simp;omega),List.append_assoc]
 ·cases h
theorem zn9 (g:Img) (t:Ty):R0S (Yo g t):=XJ zb0 fun _=>WB _ _
theorem znC:R0S qU:=XJ zb0 fun _=>XJ zb0 fun _=>XJ (WB _ _) fun _=>zbz _
theorem zs5:R0S za3:=XJ zb0 fun _=>XJ (WB _ _) fun _=>zbz _
theorem ziB:R0S qN:=XJ zb0 fun _=>XJ zb0 fun _=>WB _ _
theorem zsK (x:Ins) (ls:List Ty):R0S (XR x ls):=XJ (WB _ _) fun _=>zbz _
theorem zix (g:Img) (f:Fd) (it:Bool):R0S (Zb g f it):=XJ zb0 fun _=>by split <;> exact WB _ _
theorem zrV (x:Ins):R0S (QO x):=XJ (WB _ _) fun _=>zbz _
theorem znr (max:Int) (t:Ty):RsS max (Ym max t):=Xf (WB _ _) fun _=>zka _ _
theorem zpW (max:Int) (c:Me):RsS max (ZY max c):=by
 unfold ZY
 split
 ·exact zka _ _
 ·exact zfD (zbz _)
theorem zta {α:Type} {max:Int} {p:Prop} [Decidable p] {x y:SM α} (hx:RsS max x) (hy:RsS max y):RsS max (if p then x else y):=by split <;> assumption
theorem ztS (g:Img) (ar:List Ty) (m:Me) (x:Ins) (h:¬ (x.op=46∨69≤x.op∧x.op≤73)):RsS m.max (doS g ar m x):=by
 unfold doS
 have he:(x.op==46||decide (69≤x.op)&&decide (x.op≤73))=false:=by
  rw [Bool.eq_false_iff]
  intro hh
  exact h (by simpa using hh)
 simp only [he,Bool.false_eq_true,if_false]
 unfold qJ qm Ze qw yE qI yB yw yt yI
 try dsimp only
 repeat' (first|with_reducible exact zka _ _|with_reducible exact zfD (zbz _)|with_reducible exact zfD (WB _ _)|with_reducible exact zfD (zn9 _ _)|with_reducible exact zfD (zl5 _ _)|with_reducible exact zfD (zix _ _ _)|with_reducible exact zfD ziB|with_reducible exact znr _ _|with_reducible exact zpW _ _|with_reducible exact zfD zb0|with_reducible refine Xf (zbz _) fun _=>?_|with_reducible refine Xf (WB _ _) fun _=>?_|with_reducible refine Xf (zb0) fun _=>?_|with_reducible refine Xf (zn9 _ _) fun _=>?_|with_reducible refine Xf (zl5 _ _) fun _=>?_|with_reducible refine Xf (znC) fun _=>?_|with_reducible refine Xf (zs5) fun _=>?_|with_reducible refine Xf (ziB) fun _=>?_|with_reducible refine Xf (zsK _ _) fun _=>?_|with_reducible refine Xf (zix _ _ _) fun _=>?_|with_reducible refine Xf (zrV _) fun _=>?_|with_reducible refine zta ?_ ?_|split|dsimp only)
end Go.Cg
namespace Go.Cg
theorem WA {a:Ty} {k:Int}:plain a k=true↔a.kind=k∧a.dims=0∧a.ref=false:=by simp [plain,and_assoc]
inductive FitC (g:Img) (a b:Ty):Prop where
 | same:a=b→FitC g a b
 | null:object a=true→object b=true→plain a 8=true→FitC g a b
 | top:object a=true→object b=true→plain b 4=true→FitC g a b
 | cls:plain a 5=true→plain b 5=true→Bl g a.index b.index→FitC g a b
 | fault:object a=true→object b=true→plain a 7=true→b=⟨7,0,0,false⟩→FitC g a b
theorem VY {g:Img} (hF:Fm g) {a b:Ty}:Zx g a b=true↔FitC g a b:=by
 constructor
 ·intro h
  unfold Zx at h
  by_cases h1:tyB a b=true
  ·exact .same (Vj h1)
  rw [if_neg h1] at h
  by_cases h2:(!object a||!object b)=true
  ·rw [if_pos h2] at h;cases h
  rw [if_neg h2] at h
  simp only [Bool.or_eq_true,Bool.not_eq_true',not_or,Bool.not_eq_false] at h2
  by_cases h3:(plain a 8||plain b 4)=true
  ·simp only [Bool.or_eq_true] at h3
   rcases h3 with h3|h3
   ·exact .null h2.1 h2.2 h3
   ·exact .top h2.1 h2.2 h3
  rw [if_neg h3] at h
  by_cases h4:(plain a 5&&plain b 5)=true
  ·rw [if_pos h4] at h
   simp only [Bool.and_eq_true] at h4
   exact .cls h4.1 h4.2 ((zgT hF).1 h)
  rw [if_neg h4] at h
  simp only [Bool.and_eq_true] at h
  exact .fault h2.1 h2.2 h.1 (Vj h.2)
 ·intro h
  cases h with
  | same e=>subst e;exact ziu g a
  | null h1 h2 h3 =>
   unfold Zx;split
   ·rfl
   ·rw [h1,h2,h3];simp
  | top h1 h2 h3 =>
   unfold Zx;split
   ·rfl
   ·rw [h1,h2,h3];simp
  | cls h1 h2 h3 =>
   have k1:=WA.1 h1
   have k2:=WA.1 h2
   have e:b=⟨5,b.index,0,false⟩:=by obtain ⟨q1,q2,q3,q4⟩:=b;simp at k2;simp [k2]
   rw [e];exact zmt h1 ((zgT hF).2 h3)
  | fault h1 h2 h3 h4=>rw [h4];exact znv h3
theorem zak {g:Img} (hF:Fm g) {a b:Ty} (h:Zx g a b=true) (hne:a≠b):object a=true∧object b=true:=by
 cases (VY hF).1 h with
 | same e=>exact (hne e).elim
 | null h1 h2 _=>exact ⟨h1,h2⟩
 | top h1 h2 _=>exact ⟨h1,h2⟩
 | cls h1 h2 _=>exact ⟨Vz h1,Vz h2⟩
 | fault h1 h2 _ _=>exact ⟨h1,h2⟩
theorem zbk {a:Ty} {j k:Int} (h1:plain a j=true) (h2:plain a k=true):j=k:=by
 rw [←(WA.1 h1).1,←(WA.1 h2).1]
theorem zbx {g:Img} (hW:Wl g) {a b c:Ty} (h1:Zx g a b=true) (h2:Zx g b c=true):Zx g a c=true:=by
 have hc:=(VY hW.fm).1 h2
 have h2':=h2
 rw [VY hW.fm] at h1 ⊢
 cases h1 with
 | same e=>subst e;exact hc
 | null o1 o2 p =>
  by_cases e:b=c
  ·subst e;exact .null o1 o2 p
  ·exact .null o1 (zak hW.fm h2' e).2 p
 | top o1 o2 p =>
  cases hc with
  | same e=>subst e;exact .top o1 o2 p
  | null _ _ q=>have:=zbk p q;omega
  | top _ q1 q=>exact .top o1 q1 q
  | cls q1 q2 _=>have:=zbk p q1;omega
  | fault _ _ q1 q2=>have:=zbk p q1;omega
 | cls p1 p2 p3 =>
  cases hc with
  | same e=>subst e;exact .cls p1 p2 p3
  | null _ _ q=>have:=zbk p2 q;omega
  | top _ q1 q=>exact .top (Vz p1) q1 q
  | cls q1 q2 q3=>exact .cls p1 q2 (hW.trans p3 q3)
  | fault _ _ q1 q2=>have:=zbk p2 q1;omega
 | fault o1 o2 p1 p2 =>
  cases hc with
  | same e=>subst e;exact .fault o1 o2 p1 p2
  | null _ _ q=>rw [p2] at q;exact absurd q (by decide)
  | top _ q1 q=>exact .top o1 q1 q
  | cls q1 q2 q3=>rw [p2] at q1;exact absurd q1 (by decide)
  | fault _ q0 q1 q2=>exact .fault o1 q0 p1 q2
set_option linter.unusedSectionVars false
open Go.Proofs
def Cln (t:Ty):Prop:=plain t 8=true→t=kTy 8
theorem Yg {g:Img} {a b:List Ty}:ZG g a b=true↔a.length=b.length∧∀ i (h:i < a.length) (h2:i < b.length),Zx g a[i] b[i]=true:=zgl
theorem zpd (g:Img):ZG g [] []=true:=rfl
theorem ziN {g:Img} {a b c d:List Ty} (h:ZG g a b=true) (h':ZG g c d=true):ZG g (a++c) (b++d)=true:=by
 rw [Yg] at h h' ⊢
 refine ⟨by simp [h.1,h'.1],fun i h1 h2=>?_⟩
 rw [List.getElem_append,List.getElem_append]
 by_cases hi:i < a.length
 ·rw [dif_pos hi,dif_pos (by omega)];exact h.2 i hi (by omega)
 ·rw [dif_neg hi,dif_neg (by omega)]
  have:=h'.2 (i - a.length) (by simp at h1;omega) (by simp at h2;omega)
  simp only [h.1] at this ⊢
  exact this
theorem zeW {g:Img} {a b:Ty} (h:Zx g a b=true):ZG g [a] [b]=true:=by
 rw [Yg]
 refine ⟨rfl,fun i h1 h2=>?_⟩
 have:i=0:=by simp at h1;omega
 subst this;exact h
theorem znu {g:Img} {a b:List Ty} (h:ZG g a b=true) (n:Nat):ZG g (a.take n) (b.take n)=true:=by
 rw [Yg] at h ⊢
 refine ⟨by simp [h.1],fun i h1 h2=>?_⟩
 rw [List.getElem_take,List.getElem_take];exact h.2 i _ _
theorem zmU {g:Img} {a b:List Ty} (h:ZG g a b=true) (n:Nat):ZG g (a.drop n) (b.drop n)=true:=by
 rw [Yg] at h ⊢
 refine ⟨by simp [h.1],fun i h1 h2=>?_⟩
 rw [List.getElem_drop,List.getElem_drop];exact h.2 _ _ _
theorem zl4 {g:Img} (hW:Wl g) {a b c:List Ty} (h:ZG g a b=true) (h':ZG g b c=true):ZG g a c=true:=by
 rw [Yg] at h h' ⊢
 exact ⟨by omega,fun i h1 h2=>zbx hW (h.2 i h1 (by omega)) (h'.2 i (by omega) h2)⟩
theorem zmL {g:Img} {a b:List Ty} {x y:Ty} (h:ZG g (a++[x]) (b++[y])=true):ZG g a b=true∧Zx g x y=true:=by
 rw [Yg] at h
 obtain ⟨h1,h2⟩:=h
 have hl:a.length=b.length:=by simpa using h1
 refine ⟨Yg.2 ⟨hl,fun i hi hi2=>?_⟩,?_⟩
 ·have:=h2 i (by simp;omega) (by simp;omega)
  rwa [List.getElem_append_left hi,List.getElem_append_left hi2] at this
 ·have:=h2 a.length (by simp) (by simp;omega)
  simpa [hl] using this
structure UMid (g:Img) (a b:List Ty):Prop where
 fit:ZG g a b=true
 cl:∀ t∈a,Cln t
def UpM {α β:Type} (g:Img) (x:SM α) (y:SM β) (R:α→β→Prop):Prop:=∀ la lb,UMid g la lb→∀ vb lb',y lb=.ok (vb,lb')→∃ va la',x la=.ok (va,la')∧R va vb∧UMid g la' lb'
def UpZ {α β:Type} (g:Img) (x:SM α) (y:SM β):Prop:=∀ la lb,UMid g la lb→∀ vb lb',y lb=.ok (vb,lb')→∃ va la',x la=.ok (va,la')∧ZG g la' lb'=true
section
variable {α β γ δ:Type} {g:Img}
theorem zav {x:SM α} {y:SM β} {R:α→β→Prop} (h:UpM g x y R):UpZ g x y:=fun la lb hm vb lb' hy=>by
 obtain ⟨va,la',h1,_,h3⟩:=h la lb hm vb lb' hy
 exact ⟨va,la',h1,h3.fit⟩
theorem yx {x:SM α} {y:SM β} {f:α→SM γ} {h:β→SM δ} {R:α→β→Prop} (hx:UpM g x y R) (hf:∀ a b,R a b→UpZ g (f a) (h b)):UpZ g (x >>= f) (y >>= h):=fun la lb hm vb lb' hy=>by
 rw [zx] at hy
 cases hyl:y lb with
 | error e=>rw [hyl] at hy;cases hy
 | ok p =>
  obtain ⟨b,l1⟩:=p
  rw [hyl] at hy
  obtain ⟨a,la1,h1,h2,h3⟩:=hx la lb hm b l1 hyl
  obtain ⟨va,la',h4,h5⟩:=hf a b h2 la1 l1 h3 vb lb' hy
  exact ⟨va,la',by rw [zml h1];exact h4,h5⟩
theorem Qp {x:SM α} {y:SM β} {f:α→SM γ} {h:β→SM δ} {R:α→β→Prop} {S:γ→δ→Prop} (hx:UpM g x y R) (hf:∀ a b,R a b→UpM g (f a) (h b) S):UpM g (x >>= f) (y >>= h) S:=fun la lb hm vb lb' hy=>by
 rw [zx] at hy
 cases hyl:y lb with
 | error e=>rw [hyl] at hy;cases hy
 | ok p =>
  obtain ⟨b,l1⟩:=p
  rw [hyl] at hy
  obtain ⟨a,la1,h1,h2,h3⟩:=hx la lb hm b l1 hyl
  obtain ⟨va,la',h4,h5⟩:=hf a b h2 la1 l1 h3 vb lb' hy
  exact ⟨va,la',by rw [zml h1];exact h4,h5⟩
theorem Qc {a:α} {b:β} {R:α→β→Prop} (h:R a b):UpM g (pure a:SM α) (pure b:SM β) R:=fun la lb hm vb lb' hy=>by
 rw [zA] at hy;cases hy;exact ⟨a,la,rfl,h,hm⟩
theorem YM {b1 b2:Bool} {e:Int} (h:b2=true→b1=true):UpM g (zI b1 e) (zI b2 e) (fun _ _=>b2=true):=fun la lb hm vb lb' hy=>by
 unfold zI at hy ⊢
 split at hy
 ·rename_i hb;cases hy;exact ⟨(),la,by rw [if_pos (h hb)],hb,hm⟩
 ·cases hy
theorem Qd (b:Bool) (e:Int):UpM g (zI b e) (zI b e) (fun _ _=>b=true):=YM fun h=>h
theorem YH:UpM g Yk Yk (fun a b=>Zx g a b=true∧Cln a):=fun la lb hm vb lb' hy=>by
 rcases Zv lb with e|⟨t,l1,e,e2⟩
 ·rw [e] at hy;cases hy
 ·rw [e] at hy;cases hy
  obtain ⟨hf,hc⟩:=hm
  have hl:=(Yg.1 hf).1
  rcases Zv la with e3|⟨u,l2,e3,e4⟩
  ·exfalso
   unfold Yk at e3
   split at e3
   ·rw [e2] at hl;simp at hl;omega
   ·cases e3
  ·rw [e2,e4] at hf
   obtain ⟨q1,q2⟩:=zmL hf
   exact ⟨u,l2,e3,⟨q2,hc u (by rw [e4];simp)⟩,⟨q1,fun t ht=>hc t (by rw [e4];simp [ht])⟩⟩
theorem VK (hW:Wl g) (ls:List Ty):UpM g (Zh g ls) (Zh g ls) (fun _ _=>True):=fun la lb hm vb lb' hy=>by
 obtain ⟨hf,hc⟩:=hm
 have hl:=(Yg.1 hf).1
 unfold Zh at hy ⊢
 split at hy
 ·cases hy
 ·rename_i hn
  split at hy
  ·rename_i hs
   cases hy
   rw [if_neg (by omega),hl,if_pos (zl4 hW (zmU hf _) hs)]
   exact ⟨(),_,rfl,trivial,⟨znu hf _,fun t ht=>hc t (List.mem_of_mem_take ht)⟩⟩
  ·cases hy
theorem zko {max:Int} {ta tb:List Ty} (h:ZG g ta tb=true):UpZ g (yR max ta) (yR max tb):=fun la lb hm vb lb' hy=>by
 have hl:=(Yg.1 hm.fit).1
 have ht:=(Yg.1 h).1
 unfold yR at hy ⊢
 split at hy
 ·rename_i hb;cases hy
  exact ⟨(),_,if_pos (by omega),ziN hm.fit h⟩
 ·cases hy
theorem qg {max:Int} (t:Ty):UpZ g (yR max [t]) (yR max [t]):=zko (zeW (ziu g t))
theorem zcY:UpZ g zai zai:=fun la lb hm vb lb' hy=>by cases hy;exact ⟨(),[],rfl,zpd g⟩
theorem ziw (e:Int):UpM g (emptyS e) (emptyS e) (fun _ _=>True):=fun la lb hm vb lb' hy=>by
 have hl:=(Yg.1 hm.fit).1
 unfold emptyS at hy ⊢
 split at hy
 ·rename_i hb;cases hy
  exact ⟨(),la,if_pos (by rw [hl];exact hb),trivial,hm⟩
 ·cases hy
theorem yP {c:Prop} [Decidable c] {x x':SM α} {y y':SM β} (h1:c→UpZ g x y) (h2:¬ c→UpZ g x' y'):UpZ g (if c then x else x') (if c then y else y'):=by
 by_cases h:c
 ·rw [if_pos h,if_pos h];exact h1 h
 ·rw [if_neg h,if_neg h];exact h2 h
theorem zoq {c:Prop} [Decidable c] {x x':SM α} {y y':SM β} {R:α→β→Prop} (h1:c→UpM g x y R) (h2:¬ c→UpM g x' y' R):UpM g (if c then x else x') (if c then y else y') R:=by
 by_cases h:c
 ·rw [if_pos h,if_pos h];exact h1 h
 ·rw [if_neg h,if_neg h];exact h2 h
end
section
variable {g:Img}
theorem Xc (hF:Fm g) {a b:Ty} (h:Zx g a b=true) (ho:object b=false):a=b:=by
 by_cases e:a=b
 ·exact e
 ·have:=(zak hF h e).2;rw [ho] at this;cases this
theorem VH {t:Ty} (h:nuT t=true):object t=false:=by
 simp only [nuT,Bool.or_eq_true] at h
 rcases h with h|h <;> (have:=Vj h;subst this;decide)
theorem ziF (t:Ty):object (rfT t)=false:=by simp [object,rfT]
theorem zbe (hF:Fm g) {a b:Ty} (h:Zx g a b=true) (ho:object b=true):object a=true:=by
 by_cases e:a=b
 ·rw [e];exact ho
 ·exact (zak hF h e).1
theorem zoY (hF:Fm g) {a:Ty} (h:Zx g a (kTy 8)=true) (hc:Cln a):a=kTy 8:=by
 cases (VY hF).1 h with
 | same e=>exact e
 | null _ _ h3=>exact hc h3
 | top _ _ h3=>exact absurd h3 (by decide)
 | cls _ h2 _=>exact absurd h2 (by decide)
 | fault _ _ _ h4=>exact absurd h4 (by decide)
variable (hW:Wl g)
include hW
theorem XM (t:Ty):UpM g (Yo g t) (Yo g t) (fun _ _=>True):=Qp YH fun a b h=>fun la lb hm vb lb' hy=>by
 obtain ⟨va,la',h1,_,h3⟩:=YM (g:=g) (e:=10) (fun hb=>zbx hW h.1 hb) la lb hm vb lb' hy
 exact ⟨va,la',h1,trivial,h3⟩
theorem zcm:UpM g qU qU (fun a b=>a=b):=by
 refine Qp YH fun a1 b1 h1=>Qp YH fun a2 b2 h2=>?_
 refine Qp (R:=fun _ _=>(tyB b2 b1&&nuT b2)=true) (YM fun hb=>?_) fun _ _ hb=>Qc ?_
 ·simp only [Bool.and_eq_true] at hb ⊢
  have e:=Vj hb.1
  have hn:=VH hb.2
  have e1:=Xc hW.fm h1.1 (by rw [←e];exact hn)
  have e2:=Xc hW.fm h2.1 hn
  rw [e1,e2];exact hb
 ·simp only [Bool.and_eq_true] at hb
  exact Xc hW.fm h2.1 (VH hb.2)
theorem zgm:UpM g za3 za3 (fun a b=>a=b):=by
 refine Qp YH fun a b h=>Qp (R:=fun _ _=>nuT b=true) (YM fun hb=>?_) fun _ _ hb=>Qc ?_
 ·rw [Xc hW.fm h.1 (VH hb)];exact hb
 ·exact Xc hW.fm h.1 (VH hb)
theorem zhj:UpM g qN qN (fun _ _=>True):=by
 refine Qp YH fun a1 b1 h1=>Qp YH fun a2 b2 h2=>?_
 intro la lb hm vb lb' hy
 obtain ⟨va,la',q1,_,q3⟩:=YM (g:=g) (e:=10) (b1:=tyB a2 a1&&nuT a2||object a2&&object a1) (b2:=tyB b2 b1&&nuT b2||object b2&&object b1) (fun hb=>by
  simp only [Bool.or_eq_true,Bool.and_eq_true] at hb ⊢
  rcases hb with hb|hb
  ·have e:=Vj hb.1
   have hn:=VH hb.2
   have e1:=Xc hW.fm h1.1 (by rw [←e];exact hn)
   have e2:=Xc hW.fm h2.1 hn
   rw [e1,e2];exact .inl hb
  ·exact .inr ⟨zbe hW.fm h2.1 hb.1,zbe hW.fm h1.1 hb.2⟩) la lb hm vb lb' hy
 exact ⟨va,la',q1,trivial,q3⟩
theorem zrQ (x:Ins) (ls:List Ty):UpM g (XR x ls) (XR x ls) (fun a b=>a=b):=Qp (Qd _ _) fun _ _ _=>Qc rfl
theorem zps (x:Ins):UpM g (QO x) (QO x) (fun a b=>a=b):=Qp (Qd _ _) fun _ _ _=>Qc rfl
theorem zfc {b1 b2:Bool} {e:Int} (h:b2=true→b1=true):UpM g (zI b1 e) (zI b2 e) (fun _ _=>True):=fun la lb hm vb lb' hy=>by
 obtain ⟨va,la',q1,_,q3⟩:=YM h la lb hm vb lb' hy
 exact ⟨va,la',q1,trivial,q3⟩
theorem zdq (f:Fd) (it:Bool):UpM g (Zb g f it) (Zb g f it) (fun _ _=>True):=by
 refine Qp YH fun a b h=>zoq (fun _=>?_) fun _=>?_
 ·refine zfc hW fun hb=>?_
  have e:a=b:=by
   simp only [Bool.or_eq_true,Bool.and_eq_true] at hb
   rcases hb with hb|hb
   ·have:=Vj hb;exact Xc hW.fm h.1 (by rw [this];exact ziF _)
   ·have:=Vj hb.2;exact Xc hW.fm h.1 (by rw [this];simp [object])
  rw [e];exact hb
 ·exact zfc hW fun hb=>zbx hW h.1 hb
theorem zkC (max:Int) (t:Ty):UpZ g (Ym max t) (Ym max t):=yx (Qd _ _) fun _ _ _=>qg _
theorem zgR (max:Int) (c:Me):UpZ g (ZY max c) (ZY max c):=by
 unfold ZY
 exact yP (fun _=>qg _) fun _=>zav (Qc (R:=fun _ _=>True) trivial)
theorem zql (ar:List Ty) (m:Me) (x:Ins):UpZ g (qJ g ar m x) (qJ g ar m x):=by
 unfold qJ
 refine yx (zrQ hW _ _) fun a b e=>?_
 subst e
 exact yP (fun _=>qg _) fun _=>yP (fun _=>zav (XM hW _)) fun _=>zkC hW _ _
theorem zqG (m:Me) (op:Int):UpZ g (qm g m op) (qm g m op):=by
 unfold qm
 refine yP (fun _=>yx (zcm hW) fun a b e=>by subst e;exact qg _) fun _=>?_
 refine yP (fun _=>yx (XM hW _) fun _ _ _=>yx (zgm hW) fun a b e=>by subst e;exact qg _) fun _=>?_
 refine yP (fun _=>yx (zgm hW) fun a b e=>by subst e;exact qg _) fun _=>?_
 refine yP (fun _=>yx (zgm hW) fun a b e=>qg _) fun _=>?_
 refine yP (fun _=>yx (zgm hW) fun a b e=>qg _) fun _=>?_
 refine yP (fun _=>yx (zhj hW) fun a b e=>qg _) fun _=>?_
 exact yP (fun _=>yx (zcm hW) fun a b e=>qg _) fun _=>zav (Qc (R:=fun _ _=>True) trivial)
theorem zpQ (op:Int):UpZ g (Ze op) (Ze op):=by
 unfold Ze
 refine yP (fun _=>yx YH fun a b h=>zav (zfc hW fun hb=>?_)) fun _=>?_
 ·simp only [Bool.or_eq_true] at hb ⊢
  rcases hb with hb|hb
  ·rw [Xc hW.fm h.1 (VH hb)];exact .inl hb
  ·exact .inr (zbe hW.fm h.1 hb)
 ·refine yP (fun _=>zav (zhj hW)) fun _=>?_
  exact yP (fun _=>yx (zcm hW) fun a b e=>zav (Qc (R:=fun _ _=>True) trivial)) fun _=>zav (Qc (R:=fun _ _=>True) trivial)
theorem zo7 (m:Me) (x:Ins):UpZ g (qw g m x) (qw g m x):=by
 unfold qw
 dsimp only
 refine yP (fun _=>yx (Qd _ _) fun _ _ _=>yx (VK hW _) fun _ _ _=>zgR hW _ _) fun _=>?_
 refine yP (fun _=>yx (Qd _ _) fun _ _ _=>yx (VK hW _) fun _ _ _=>zgR hW _ _) fun _=>?_
 exact yx (Qd _ _) fun _ _ _=>yx (VK hW _) fun _ _ _=>qg _
theorem znI (m:Me) (x:Ins):UpZ g (yE g m x) (yE g m x):=by
 unfold yE
 dsimp only
 refine yx (Qd _ _) fun _ _ _=>?_
 refine yP (fun _=>yx (zdq hW _ _) fun _ _ _=>qg _) fun _=>?_
 refine yP (fun _=>yx (XM hW _) fun _ _ _=>zav (zdq hW _ _)) fun _=>?_
 refine yP (fun _=>yx (zdq hW _ _) fun _ _ _=>qg _) fun _=>?_
 refine yP (fun _=>qg _) fun _=>?_
 exact yP (fun _=>zav (XM hW _)) fun _=>qg _
theorem zmx (m:Me) (x:Ins):UpZ g (qI g m x) (qI g m x):=by
 unfold qI
 refine yP (fun _=>zav (VK hW _)) fun _=>?_
 refine yx YH fun a b h=>yx (YM fun hb=>?_) fun _ _ _=>?_
 ·have e:=Vj hb
  rw [Xc hW.fm h.1 (by rw [e];exact ziF _)];exact hb
 ·exact yP (fun _=>qg _) fun _=>zav (Qc (R:=fun _ _=>True) trivial)
theorem zmS (m:Me) (x:Ins):UpZ g (yB g m x) (yB g m x):=by
 unfold yB
 refine yP (fun _=>?_) fun _=>?_
 ·refine yx YH fun a b h=>yx (YM fun hb=>?_) fun _ _ _=>qg _
  simp only [Bool.and_eq_true,Bool.or_eq_true,decide_eq_true_eq,beq_iff_eq] at hb ⊢
  refine ⟨zbe hW.fm h.1 hb.1,?_⟩
  cases (VY hW.fm).1 h.1 with
  | same e=>rw [e];exact hb.2
  | null _ _ h3=>exact .inr (WA.1 h3).1
  | top _ _ h3=>have:=WA.1 h3;omega
  | cls _ h2 _=>have:=WA.1 h2;omega
  | fault _ _ _ h4=>rw [h4] at hb;simp at hb
 ·refine yx (zps hW _) fun a b e=>?_
  subst e
  refine yP (fun _=>yx (XM hW _) fun _ _ _=>qg _) fun _=>?_
  refine yP (fun _=>zav (VK hW _)) fun _=>?_
  exact yx (VK hW _) fun _ _ _=>yP (fun _=>qg _) fun _=>qg _
theorem zlX (m:Me) (x:Ins):UpZ g (yw g m x) (yw g m x):=by
 unfold yw
 refine yx (Qd _ _) fun _ _ _=>?_
 refine yP (fun _=>yx (XM hW _) fun _ _ _=>qg _) fun _=>?_
 exact yx YH fun a b h=>yx (YM fun hb=>zbe hW.fm h.1 hb) fun _ _ _=>qg _
theorem zjX (m:Me) (x:Ins):UpZ g (yt g m x) (yt g m x):=by
 unfold yt
 dsimp only
 refine yx (Qd _ _) fun _ _ _=>yx YH fun f f' hf=>yx YH fun o o' ho=>?_
 have key:(tyB f' ⟨9,f'.index,0,false⟩&&decide (0≤f'.index)&&decide (f'.index < g.methods.length))=true→f=f':=fun hb=>by
  simp only [Bool.and_eq_true] at hb
  have e:=Vj hb.1.1
  exact Xc hW.fm hf.1 (by rw [e];simp [object])
 refine yx (YM fun hb=>by rw [key hb];exact hb) fun _ _ hb=>?_
 have e:=key hb
 subst e
 refine yx (Qd _ _) fun _ _ _=>yx (Qd _ _) fun _ _ _=>?_
 refine yP (fun _=>?_) fun _=>?_
 ·refine yx (YM fun hb=>?_) fun _ _ _=>qg _
  simp only [Bool.and_eq_true] at hb ⊢
  exact ⟨hb.1,zbx hW ho.1 hb.2⟩
 ·refine yx (YM fun hb=>?_) fun _ _ _=>qg _
  have e:=Vj hb
  rw [e] at ho
  rw [zoY hW.fm ho.1 ho.2];exact zgC _
theorem zrR (m:Me) (op:Int):UpZ g (Zm g m op) (Zm g m op):=by
 unfold Zm
 refine yP (fun _=>?_) fun _=>?_
 ·refine yx (R:=fun _ _=>True) (zoq (fun _=>XM hW _) fun _=>Qc trivial) fun _ _ _=>yx (ziw _) fun _ _ _=>zcY
 ·refine yP (fun _=>yx YH fun a b h=>yx (YM fun hb=>zbe hW.fm h.1 hb) fun _ _ _=>zcY) fun _=>?_
  exact yP (fun _=>yx (XM hW _) fun _ _ _=>yx (ziw _) fun _ _ _=>zcY) fun _=>zcY
theorem znd (m:Me) (x:Ins):UpZ g (yI g m x) (yI g m x):=by
 unfold yI
 refine yP (fun _=>qg _) fun _=>yP (fun _=>qg _) fun _=>yP (fun _=>qg _) fun _=>?_
 refine yP (fun _=>yx YH fun a b h=>zko (ziN (a:=[a]) (b:=[b]) (c:=[a]) (d:=[b]) (zeW h.1) (zeW h.1))) fun _=>?_
 refine yP (fun _=>yx YH fun a b h=>zav (Qc (R:=fun _ _=>True) trivial)) fun _=>?_
 refine yP (fun _=>zav (XM hW _)) fun _=>?_
 exact yP (fun _=>yx (Qd _ _) fun _ _ _=>qg _) fun _=>zav (Qc (R:=fun _ _=>True) trivial)
theorem zti (ar:List Ty) (m:Me) (x:Ins):UpZ g (doS g ar m x) (doS g ar m x):=by
 unfold doS
 refine yP (fun _=>zql hW _ _ _) fun _=>yP (fun _=>zqG hW _ _) fun _=>yP (fun _=>zpQ hW _) fun _=>yP (fun _=>zo7 hW _ _) fun _=>yP (fun _=>znI hW _ _) fun _=>?_
 exact yP (fun _=>zmx hW _ _) fun _=>yP (fun _=>zmS hW _ _) fun _=>yP (fun _=>zlX hW _ _) fun _=>yP (fun _=>zjX hW _ _) fun _=>yP (fun _=>zrR hW _ _) fun _=>znd hW _ _
end
end Go.Cg
namespace Go.Cg
open Go.Proofs
theorem zpx {t:Ty} (h:zbJ t=true):Cln t:=by
 intro hp
 simp only [plain,Bool.and_eq_true,beq_iff_eq] at hp
 simp only [zbJ,Bool.or_eq_true,Bool.and_eq_true] at h
 rcases h with (⟨h,_⟩|h)|h
 ·exfalso
  unfold Zw at h
  rw [hp.1.1] at h
  split at h
  ·cases h
  ·simp at h
 ·exact Vj h
 ·have:=Vj h
  rw [this] at hp
  exact absurd hp.1.1 (by show ¬ (9:Int)=8;decide)
abbrev zt7 (a b:List Ty):PV:=.agg [tys a,tys b]
set_option maxHeartbeats 8000000 in
theorem zlW (g:Img) (hx:OkA g) (m a:Int) (la lb:List Ty):ACall Tryz.prog 5 [zH g,zrt m a,zt7 la lb] (pb true):=by
 have c1:=ze9 g
 have c2:=zcz g m a
 refine zh zf Tryz.func5 rfl (by kernel_rfl) Tryz.ntmps5 (by simp) _ rfl (fun hw gB hgB=>?_)
 cases hl:zaq g
 rotate_left 1
 ·rw [hl] at c1
  repeat' (first|refine AD.step _ _ _ _ _ rfl (yc 0 zf rfl rfl rfl rfl rfl rfl rfl) rfl rfl ?_|refine AD.step _ _ _ _ _ rfl (yc 1 zf rfl rfl rfl rfl rfl rfl rfl) rfl rfl ?_|(refine shC ?_;first|refine qC yT ?_|refine qC c1 ?_)|refine sK ?_|refine sC (fun _=>?_) (fun _=>?_)|fail)
  all_goals exact retq rfl rfl
 rw [hl] at c1
 by_cases hn:(60:Int) < (((la.map yJ).length:Nat):Int)
 ·have hd:=decide_eq_true hn
  repeat' (first|refine AD.step _ _ _ _ _ rfl (yc 0 zf rfl rfl rfl rfl rfl rfl rfl) rfl rfl ?_|refine AD.step _ _ _ _ _ rfl (yc 1 zf rfl rfl rfl rfl rfl rfl rfl) rfl rfl ?_|(refine shC ?_;first|refine qC yT ?_|refine qC c1 ?_|refine qC c2 ?_)|refine sK ?_|refine sC (fun _=>?_) (fun _=>?_)|fail)
  all_goals exact retq rfl rfl
 have hd:=decide_eq_false hn
 by_cases hn2:(60:Int) < (((lb.map yJ).length:Nat):Int)
 ·have hd2:=decide_eq_true hn2
  repeat' (first|refine AD.step _ _ _ _ _ rfl (yc 0 zf rfl rfl rfl rfl rfl rfl rfl) rfl rfl ?_|refine AD.step _ _ _ _ _ rfl (yc 1 zf rfl rfl rfl rfl rfl rfl rfl) rfl rfl ?_|(refine shC ?_;first|refine qC yT ?_|refine qC c1 ?_|refine qC c2 ?_)|refine sK ?_|refine sC (fun _=>?_) (fun _=>?_)|fail)
  all_goals exact retq rfl rfl
 have hd2:=decide_eq_false hn2
 cases ht:zdC g m a
 ·rw [ht] at c2
  repeat' (first|refine AD.step _ _ _ _ _ rfl (yc 0 zf rfl rfl rfl rfl rfl rfl rfl) rfl rfl ?_|refine AD.step _ _ _ _ _ rfl (yc 1 zf rfl rfl rfl rfl rfl rfl rfl) rfl rfl ?_|(refine shC ?_;first|refine qC yT ?_|refine qC c1 ?_|refine qC c2 ?_)|refine sK ?_|refine sC (fun _=>?_) (fun _=>?_)|fail)
  all_goals exact retq rfl rfl
 rw [ht] at c2
 obtain ⟨hc,hm,_,h0,h1⟩:=zeD ht
 have h1:a.toNat < (mAt g m).code.length:=by omega
 rw [List.length_map] at hn hn2
 have hF:=zc7 (zdZ hc).1
 have hFm:=zcq hF.formed
 have cf:=zdS g la lb hFm
 cases hfi:ZG g la lb
 ·rw [hfi] at cf
  repeat' (first|refine AD.step _ _ _ _ _ rfl (yc 0 zf rfl rfl rfl rfl rfl rfl rfl) rfl rfl ?_|refine AD.step _ _ _ _ _ rfl (yc 1 zf rfl rfl rfl rfl rfl rfl rfl) rfl rfl ?_|(refine shC ?_;first|refine qC yT ?_|refine qC c1 ?_|refine qC c2 ?_|refine qC cf ?_)|refine sK ?_|refine sC (fun _=>?_) (fun _=>?_)|fail)
  all_goals exact retq rfl rfl
 rw [hfi] at cf
 have hlen:=(Yg.1 hfi).1
 repeat' (first|refine AD.step _ _ _ _ _ rfl (yc 0 zf rfl rfl rfl rfl rfl rfl rfl) rfl rfl ?_|refine AD.step _ _ _ _ _ rfl (yc 1 zf rfl rfl rfl rfl rfl rfl rfl) rfl rfl ?_|(refine shC ?_;first|refine qC yT ?_|refine qC c1 ?_|refine qC c2 ?_|refine qC cf ?_)|refine sK ?_|refine sC (fun _=>?_) (fun _=>?_)|fail)
 refine zJ (fun k:Nat=>[(3,.pv (.ptr (zH g) 0)),(4,.pv (.ptr (zrt m a) 0)),(7,.pv (tys la)),(8,.pv (tys lb)),(47,.pv (pi la.length)),(48,.pv (pi k))]) (fun _=>[]) (fun k=>k≤la.length∧∀ i (h:i < la.length),i < k→zbJ la[i]=true) (fun k=>la.length - k) 0 ⟨by simp,fun _ _ h=>absurd h (by omega)⟩ (tS) tH ?_
 rintro k ⟨hk,hno⟩
 by_cases hlt:k < la.length
 ·have he:=WJ hlt
  have hltb:k < lb.length:=by omega
  have he':=WJ hltb
  have k1:=zhs la[k]
  have k2:=zhs lb[k]
  cases hca:zbJ la[k]
  ·rw [hca] at k1
   repeat' (first|(refine shC ?_;first|refine qC k1 ?_|refine qC k2 ?_)|(refine shX ?_;first|refine qX he ?_|refine qX he' ?_)|refine sK ?_|refine sC (fun _=>?_) (fun _=>?_)|fail)
   all_goals exact retq rfl rfl
  ·rw [hca] at k1
   cases hcb:zbJ lb[k]
   ·rw [hcb] at k2
    repeat' (first|(refine shC ?_;first|refine qC k1 ?_|refine qC k2 ?_)|(refine shX ?_;first|refine qX he ?_|refine qX he' ?_)|refine sK ?_|refine sC (fun _=>?_) (fun _=>?_)|fail)
    all_goals exact retq rfl rfl
   ·rw [hcb] at k2
    repeat' (first|(refine shC ?_;first|refine qC k1 ?_|refine qC k2 ?_)|(refine shX ?_;first|refine qX he ?_|refine qX he' ?_)|refine sK ?_|refine sC (fun _=>?_) (fun _=>?_)|fail)
    refine ⟨k + 1,⟨hlt,fun i h hi=>?_⟩,tD,tS,tH⟩
    by_cases e:i=k
    ·subst e;exact hca
    ·exact hno i h (by omega)
 ·have hmid:UMid g la lb:=⟨hfi,fun t ht=>by
   obtain ⟨i,hi,rfl⟩:=List.getElem_of_mem ht
   exact zpx (hno i hi (by omega))⟩
  have c3:=Vw g hx hc
  have c4:=Qs g hc hm h0 h1 lb (by omega)
  have c5:=Qs g hc hm h0 h1 la (by omega)
  cases hS:stepS g m a lb with
  | error e =>
   have hne:(e != 0)=true:=bne_iff_ne.2 (zoe hS)
   rw [hS] at c4
   repeat' (first|(refine shC ?_;first|refine qC c3 ?_|refine qC c4 ?_)|refine sK ?_|refine sC (fun _=>?_) (fun _=>?_)|fail)
   all_goals exact retq rfl rfl
  | ok p =>
   obtain ⟨⟨⟩,l2⟩:=p
   obtain ⟨va,l3,hS2,hfit⟩:=zti (Vu hF.well) _ _ _ la lb hmid () l2 hS
   obtain ⟨⟩:=va
   replace c4:ACall Tryz.prog 27 [.ptr (zH g) 0,pi m,pi a,tys lb] (.tup [tys l2,pi 0]):=by rw [hS] at c4;exact c4
   replace c5:ACall Tryz.prog 27 [.ptr (zH g) 0,pi m,pi a,tys la] (.tup [tys l3,pi 0]):=by
    rw [show stepS g m a la=.ok ((),l3) from hS2] at c5;exact c5
   have cz:=zdS g l3 l2 hFm
   rw [hfit] at cz
   repeat' (first|(refine shC ?_;first|refine qC c3 ?_|refine qC c4 ?_|refine qC c5 ?_|refine qC cz ?_)|refine sK ?_|refine sC (fun _=>?_) (fun _=>?_)|fail)
   all_goals exact retq rfl rfl
end Go.Cg
