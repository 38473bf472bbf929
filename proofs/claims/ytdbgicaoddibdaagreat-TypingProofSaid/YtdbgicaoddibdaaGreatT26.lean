/- A part of the walks by abstract values: no statement of its own. -/
import Derived.Test.YtdbgicaoddibdaaGreatT22
import Derived.Test.YtdbgicaoddibdaaGreatT24
set_option linter.unusedVariables false
set_option linter.unusedSimpArgs false
namespace Go.Cg
theorem zdu {a:Ty} {k:Int}:plain a k=true↔a.kind=k∧a.dims=0∧a.ref=false:=by simp [plain,and_assoc]
inductive FitC (g:Img) (a b:Ty):Prop where
 | same:a=b→FitC g a b
 | null:object a=true→object b=true→plain a 8=true→FitC g a b
 | top:object a=true→object b=true→plain b 4=true→FitC g a b
 | cls:plain a 5=true→plain b 5=true→Bl g a.index b.index→FitC g a b
 | fault:object a=true→object b=true→plain a 7=true→b=⟨7,0,0,false⟩→FitC g a b
theorem zd0 {g:Img} (hF:Fm g) {a b:Ty}:ZO g a b=true↔FitC g a b:=by
 constructor
 ·intro h;unfold ZO at h;by_cases h1:tyB a b=true
  ·exact .same (zuu h1)
  rw [if_neg h1] at h;by_cases h2:(!object a||!object b)=true
  ·rw [if_pos h2] at h;cases h
  rw [if_neg h2] at h;simp only [Bool.or_eq_true,Bool.not_eq_true',not_or,Bool.not_eq_false] at h2;by_cases h3:(plain a 8||plain b 4)=true
  ·simp only [Bool.or_eq_true] at h3;rcases h3 with h3|h3
   ·exact .null h2.1 h2.2 h3
   ·exact .top h2.1 h2.2 h3
  rw [if_neg h3] at h;by_cases h4:(plain a 5&&plain b 5)=true
  ·rw [if_pos h4] at h;simp only [Bool.and_eq_true] at h4;exact .cls h4.1 h4.2 ((zi2 hF).1 h)
  rw [if_neg h4] at h;simp only [Bool.and_eq_true] at h;exact .fault h2.1 h2.2 h.1 (zuu h.2)
 ·intro h;cases h with
  | same e=>subst e;exact zdg g a
  | null h1 h2 h3 =>
   unfold ZO;split
   ·rfl
   ·rw [h1,h2,h3];simp
  | top h1 h2 h3 =>
   unfold ZO;split
   ·rfl
   ·rw [h1,h2,h3];simp
  | cls h1 h2 h3 =>
   have k1:=zdu.1 h1;have k2:=zdu.1 h2;have e:b=⟨5,b.index,0,false⟩:=by obtain ⟨q1,q2,q3,q4⟩:=b;simp at k2;simp [k2]
   rw [e];exact zd9 h1 ((zi2 hF).2 h3)
  | fault h1 h2 h3 h4=>rw [h4];exact zd5 h3
theorem zh9 {g:Img} (hF:Fm g) {a b:Ty} (h:ZO g a b=true) (hne:a≠b):object a=true∧object b=true:=by
 cases (zd0 hF).1 h with
 | same e=>exact (hne e).elim
 | null h1 h2 _=>exact ⟨h1,h2⟩
 | top h1 h2 _=>exact ⟨h1,h2⟩
 | cls h1 h2 _=>exact ⟨QV h1,QV h2⟩
 | fault h1 h2 _ _=>exact ⟨h1,h2⟩
theorem zbK {a:Ty} {j k:Int} (h1:plain a j=true) (h2:plain a k=true):j=k:=by
 rw [←(zdu.1 h1).1,←(zdu.1 h2).1]
theorem zpb {g:Img} (hW:Wl g) {a b c:Ty} (h1:ZO g a b=true) (h2:ZO g b c=true):ZO g a c=true:=by
 have hc:=(zd0 hW.fm).1 h2;have h2':=h2;rw [zd0 hW.fm] at h1 ⊢;cases h1 with
 | same e=>subst e;exact hc
 | null o1 o2 p =>
  by_cases e:b=c
  ·subst e;exact .null o1 o2 p
  ·exact .null o1 (zh9 hW.fm h2' e).2 p
 | top o1 o2 p =>
  cases hc with
  | same e=>subst e;exact .top o1 o2 p
  | null _ _ q=>have:=zbK p q;omega
  | top _ q1 q=>exact .top o1 q1 q
  | cls q1 q2 _=>have:=zbK p q1;omega
  | fault _ _ q1 q2=>have:=zbK p q1;omega
 | cls p1 p2 p3 =>
  cases hc with
  | same e=>subst e;exact .cls p1 p2 p3
  | null _ _ q=>have:=zbK p2 q;omega
  | top _ q1 q=>exact .top (QV p1) q1 q
  | cls q1 q2 q3=>exact .cls p1 q2 (hW.trans p3 q3)
  | fault _ _ q1 q2=>have:=zbK p2 q1;omega
 | fault o1 o2 p1 p2 =>
  cases hc with
  | same e=>subst e;exact .fault o1 o2 p1 p2
  | null _ _ q=>rw [p2] at q;exact absurd q zwy67
  | top _ q1 q=>exact .top o1 q1 q
  | cls q1 q2 q3=>rw [p2] at q1;exact absurd q1 zwy67
  | fault _ q0 q1 q2=>exact .fault o1 q0 p1 q2
end Go.Cg
