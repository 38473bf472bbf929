/- A part of the walks by abstract values: no statement of its own. -/
import Derived.Test.YtdbgicaoddibdaaGreatT6
set_option linter.unusedVariables false
set_option linter.unusedSimpArgs false
namespace Go.Cg
open Go.Proofs
def bounds (c:Cl) (part:Int):Int × Int :=
 if part==1 then (c.tf,c.tt) else if part==2 then (c.hf,c.ht) else if c.kind==2 then (c.filter,c.hf) else (0,0)
def meet (a:Cl) (p:Int) (b:Cl) (q:Int):Bool :=
 decide ((bounds a p).1 < (bounds b q).2)&&decide ((bounds b q).1 < (bounds a p).2)&&decide ((bounds a p).1 < (bounds a p).2)&&decide ((bounds b q).1 < (bounds b q).2)
def within (a:Cl) (p:Int) (b:Cl) (q:Int):Bool :=
 if (bounds a p).1==0&&(bounds a p).2==0 then true
 else decide ((bounds b q).1≤(bounds a p).1)&&decide ((bounds a p).2≤(bounds b q).2)&&(decide ((bounds b q).1 < (bounds a p).1)||decide ((bounds a p).2 < (bounds b q).2))
def zgh (n:Int) (c:Cl):Bool:=decide (0≤c.tf)&&decide (c.tf < c.tt)&&decide (c.tt≤n)
def zf0 (n:Int) (c:Cl):Bool:=decide (0≤c.hf)&&decide (c.hf < c.ht)&&decide (c.ht≤n)
def WL (n:Int) (c:Cl):Int :=
 if decide (c.kind < 1)||decide (4 < c.kind)||!zgh n c||!zf0 n c then 3
 else if c.kind==2&&(decide (c.filter < 0)||decide (c.hf≤c.filter))||c.kind != 2&&c.filter != -1 then 3
 else if meet c 1 c 2||meet c 1 c 3||meet c 2 c 3 then 12
 else 0
def zgK (a b:Cl) (q:Int):Bool:=decide ((bounds b q).1 < (bounds b q).2)&&within a 1 b q&&within a 2 b q&&within a 3 b q
def zto (a b:Cl) (q:Int):Bool:=q==1||!(a.hf==(bounds b q).1||a.kind==2&&a.filter==(bounds b q).1)
def badM (a b:Cl) (p q:Int):Bool:=meet a p b q&&!((a.tf==b.tf&&a.tt==b.tt)&&p==1&&q==1)
def zem (a b:Cl):Bool :=
 if zgK a b 1 then zto a b 1 else if zgK a b 2 then zto a b 2 else if zgK a b 3 then zto a b 3
 else !(badM a b 1 1||badM a b 1 2||badM a b 1 3||badM a b 2 1||badM a b 2 2||badM a b 2 3||badM a b 3 1||badM a b 3 2||badM a b 3 3)
def cls (l:List Cl):PV:=.slc 10 (l.map Zg) false
theorem zqh {l:List Cl} (h:(cls l).lenOk):l.length≤9223372036854775807:=by
 simp [cls,PV.lenOk,maxLen] at h;exact h.1
theorem zdE {l:List Cl} {k:Nat} (h:k < l.length):(l.map Zg)[k]?=some (Zg (l.getD k default)):=by simp [h]
def zab (l:List Cl) (i m:Nat):Bool:=(List.range m).any fun k=>!zem (l.getD k default) (l.getD i default)
theorem zlr (l:List Cl) (i m:Nat):zab l i (m + 1)=(zab l i m||!zem (l.getD m default) (l.getD i default)):=by simp [zab,List.range_succ]
def Wh (n:Int) (l:List Cl) (i:Nat):Int :=
 if WL n (l.getD i default) != 0 then WL n (l.getD i default) else if zab l i i then 12 else 0
def Qm (n:Int) (l:List Cl):Int × Int :=
 if 6 < l.length then (0,4) else match (List.range l.length).find? (fun i=>Wh n l i != 0) with
  | some i=>(((i:Nat):Int),Wh n l i)
  | none=>(0,0)
theorem zio {n:Int} {l:List Cl} {k:Nat} (h6:¬ 6 < l.length) (hk:k < l.length) (hno:∀ j,j < k→Wh n l j=0) (h:Wh n l k≠0):Qm n l=(((k:Nat):Int),Wh n l k):=by
 have:(List.range l.length).find? (fun i=>Wh n l i != 0)=some k:=by
  rw [List.find?_range_eq_some];exact ⟨by simpa using h,by simpa using hk,fun j hj=>by simp [hno j hj]⟩
 simp [Qm,h6,this]
theorem zpY {n:Int} {l:List Cl} (h6:¬ 6 < l.length) (hno:∀ j,j < l.length→Wh n l j=0):Qm n l=(0,0):=by
 have:(List.range l.length).find? (fun i=>Wh n l i != 0)=none:=by
  rw [List.find?_eq_none];intro j hj;simp [hno j (List.mem_range.1 hj)]
 simp [Qm,h6,this]
def zfp (n:Int) (l:List Cl):Bool:=(Qm n l).2==0
end Go.Cg
