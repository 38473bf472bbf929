/- A part of the walks by abstract values: no statement of its own. -/
import Derived.Test.YtdbgicaoddibdaaGreatT6
set_option linter.unusedVariables false
set_option linter.unusedSimpArgs false
namespace Go.Cg
theorem BL:(∀ b:Bool,(b&&true)=b)∧(∀ b:Bool,(true&&b)=b)∧(∀ b:Bool,(b&&false)=false)∧(∀ b:Bool,(false&&b)=false)∧(∀ b:Bool,(b||true)=true)∧(∀ b:Bool,(true||b)=true)∧(∀ b:Bool,(b||false)=b)
  ∧ (∀ b:Bool,(false||b)=b)∧((!true)=false)∧((!false)=true):=by simp
theorem drop_cons {α:Type} {l:List α} {k:Nat} (h:k < l.length):l.drop k=l[k]::l.drop (k + 1):=List.drop_eq_getElem_cons h
theorem zi7 {α:Type} {l:List α} {p:α→Bool} {k:Nat} (h:k < l.length):(l.drop k).all p=(p l[k]&&(l.drop (k + 1)).all p):=by rw [drop_cons h];rfl
theorem zcu {α:Type} {l:List α} {p:α→Bool} {k:Nat} (h:k < l.length):(l.drop k).any p=(p l[k]||(l.drop (k + 1)).any p):=by rw [drop_cons h];rfl
theorem drop_end {α:Type} {l:List α} {k:Nat} (h:l.length≤k):l.drop k=[]:=List.drop_eq_nil_of_le h
theorem Yl:∀ (n:Nat) (l:List Int),l.Nodup→(∀ x∈l,0≤x∧x < n)→l.length≤n
 | 0,l,_,h=>by
  cases l with
  | nil=>simp
  | cons x l=>have:=h x (by simp);omega
 | n + 1,l,hd,h=>by
  by_cases hm:(n:Int)∈l
  ·have h1:=Yl n (l.erase n) (hd.erase _) (fun x hx=>by
    rw [hd.mem_erase_iff] at hx;have:=h x hx.2;omega)
   rw [List.length_erase_of_mem hm] at h1;omega
  ·have:=Yl n l hd (fun x hx=>by
    have:=h x hx;have hne:x≠n:=by rintro rfl;exact hm hx
    omega)
   omega
end Go.Cg
namespace Go.Cg
open Go.Proofs
def ztC (b:UInt8):Bool:=!(decide ((b.toNat:Int) < 33)||decide (126 < (b.toNat:Int)))
def zbM (s:ByteArray):Bool:=s.data.toList.all ztC&&(decide (0 < (s.size:Int))&&decide ((s.size:Int)≤24))
theorem zvx {s:ByteArray} (h:(ps s).lenOk):s.size≤9223372036854775807:=by
 simp [PV.lenOk,Zm,maxLen] at h;exact of_decide_eq_true h
theorem zuX {s:ByteArray} {k:Nat} (h:k < s.size):s[((k:Int)).toNat]?=some (s.data.toList[k]'zwy97):=by
 simp only [Int.toNat_natCast];rw [getElem?_pos s k h];simp [ByteArray.getElem_eq_getElem_data]
def zc0 (o:Int):Int × Int :=
 if o==1 then (2147483647,-2147483648) else if o==2 then (9223372036854775807,-9223372036854775808) else if o==3 then (11,0) else if o==4 then (6,0) else if o==5 then (159,0)
 else if o==6||o==7 then (63,0) else (0,0)
def zo1:ByteArray:={ data:=([48,52,52,52,51,51,51,49,50,48,48,48,48,48,48,48,48,48,48,48,48,48,48,48,48,48,48,48,48,48,48,48,48,53,53,53,53].append [53,53,53,53,53,54,54,54,48,48,55,55,55,55,55,55,56,56,56,56,48,56,56,56,56,56,56,56,56,54,56,48,48,53,48,48,48,48]).toArray }
def digit (s:ByteArray) (op:Int):Int:=IntKind.i64.wrap (IntKind.u8.wrap (((s.data.toList.getD (op - 1).toNat 0).toNat:Int) - 48))
def yL (op:Int):Int:=digit zo1 op
def zbc (s:ByteArray) (o f:Int):PV:=.agg [ps s,pi o,pi f]
def ty0:Ty:=⟨0,0,0,false⟩
def WQ (x:Ins):Int :=
 if x.op < 1∨75 < x.op then 3
 else if (zc0 (yL x.op)).1 < x.arg∨x.arg < (zc0 (yL x.op)).2 then 17
 else if yL x.op≠8∧x.t≠ty0 then 17
 else if yL x.op=8∧Yc x.t 1=false then 17
 else 0
end Go.Cg
