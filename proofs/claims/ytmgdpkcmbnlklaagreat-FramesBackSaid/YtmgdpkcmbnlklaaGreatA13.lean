/- A part of the walks by abstract values: no statement of its own. -/
import Derived.Test.YtmgdpkcmbnlklaaGreatA10
import Derived.Test.YtmgdpkcmbnlklaaGreatA7
import Derived.Test.YtmgdpkcmbnlklaaGreatA12
import Derived.Test.YtmgdpkcmbnlklaaGreatA6
import Derived.Test.YtmgdpkcmbnlklaaGreatA11
set_option linter.unusedVariables false
set_option linter.unusedSimpArgs false
namespace Go.Cg
open Go.Proofs
def zk3 (b:UInt8):Bool:=!(decide ((b.toNat:Int) < 33)||decide (126 < (b.toNat:Int)))
def XR (s:ByteArray):Bool:=s.data.toList.all zk3&&(decide (0 < (s.size:Int))&&decide ((s.size:Int)≤24))
theorem zlM {s:ByteArray} (h:(ps s).lenOk):s.size≤9223372036854775807:=by
 simp [PV.lenOk,Yc,maxLen] at h;exact of_decide_eq_true h
theorem zlL {s:ByteArray} {k:Nat} (h:k < s.size):s[((k:Int)).toNat]?=some (s.data.toList[k]'(by simpa using h)):=by
 simp only [Int.toNat_natCast]
 rw [getElem?_pos s k h]
 simp [ByteArray.getElem_eq_getElem_data]
def zfL (o:Int):Int × Int :=
 if o==1 then (2147483647,-2147483648) else if o==2 then (9223372036854775807,-9223372036854775808) else if o==3 then (11,0) else if o==4 then (6,0) else if o==5 then (159,0)
 else if o==6||o==7 then (63,0) else (0,0)
def ziS:ByteArray:={ data:=([48,52,52,52,51,51,51,49,50,48,48,48,48,48,48,48,48,48,48,48,48,48,48,48,48,48,48,48,48,48,48,48,48,53,53,53,53].append [53,53,53,53,53,54,54,54,48,48,55,55,55,55,55,55,56,56,56,56,48,56,56,56,56,56,56,56,56,54,56,48,48,53,48,48,48,48]).toArray }
def digit (s:ByteArray) (op:Int):Int:=IntKind.i64.wrap (IntKind.u8.wrap (((s.data.toList.getD (op - 1).toNat 0).toNat:Int) - 48))
def yG (op:Int):Int:=digit ziS op
def zat (s:ByteArray) (o f:Int):PV:=.agg [ps s,pi o,pi f]
def ty0:Ty:=⟨0,0,0,false⟩
def zaL (x:Ins):Int :=
 if x.op < 1∨75 < x.op then 3
 else if (zfL (yG x.op)).1 < x.arg∨x.arg < (zfL (yG x.op)).2 then 17
 else if yG x.op≠8∧x.t≠ty0 then 17
 else if yG x.op=8∧Zw x.t 1=false then 17
 else 0

/-! images: how long;formed -/
theorem qQ {α:Type} {f:α→PV} {l:List α} {k:Nat} (h:k < l.length):(l.map f)[((k:Int)).toNat]?=some (f l[k]):=by simp [h]

def zaK (n:Int) (f:Int):Bool:=decide (0≤f)&&decide (f < n)
def Zi (t:TD) (n:Int):Bool :=
  XR t.name&&decide (0≤t.flags)&&decide (t.flags≤31)&&decide (-1≤t.ext)&&decide (t.ext < n)&&decide ((t.faces.length:Int)≤4)&&t.faces.all (zaK n)
def codeOk (g:Img) (m:Me) (x:Ins):Bool:=zaL x==0 &&
  (if yG x.op==5 then decide (x.arg < (m.code.length:Int)) else if yG x.op==6 then decide (x.arg < (g.methods.length:Int))
   else if yG x.op==7 then decide (x.arg < (g.fields.length:Int)) else if yG x.op==8 then zjP x.t g.types.length else true)
def zbb (t:Ty):Bool:=(t.kind==0&&(t.index==0&&(t.dims==0&&(t.ref==false&&true))))
def YT (g:Img) (c:Cl):Bool:=!((c.kind==1&&!Qv c.t 1 g.types.length)||(c.kind != 1&&!zbb c.t))
def zjn (g:Img) (m:Me):Bool:=decide ((m.code.length:Int)≤160)&&m.code.all (codeOk g m)&&m.clauses.all (YT g)&&zjq m.code.length m.clauses
def Qw (g:Img) (m:Me):Bool :=
 XR m.name&&decide (0≤m.flags)&&decide (m.flags≤31)&&decide (0≤m.max)&&decide (m.max≤12)&&decide ((m.params.length:Int)≤6)&&decide ((m.locals.length:Int)≤12)&&Qv m.ret 3 g.types.length
 && m.params.all (fun t=>Qv t 2 g.types.length)&&m.locals.all (fun t=>Qv t 2 g.types.length)&&zjn g m
def zdM (g:Img) (i:Nat):Bool :=
 let f:=g.fields.getD i default
 XR f.name&&decide (0≤f.owner)&&decide (f.owner < g.types.length)&&(i==0||decide ((g.fields.getD (i - 1) default).owner≤f.owner))&&Qv f.ty 1 g.types.length
def zfk (g:Img) (i:Nat):Bool :=
 let m:=g.methods.getD i default
 decide (0≤m.owner)&&decide (m.owner < g.types.length)&&(i==0||decide ((g.methods.getD (i - 1) default).owner≤m.owner))&&Qw g m
def zW (g:Img):Bool :=
 decide ((g.types.length:Int)≤32)&&decide ((g.fields.length:Int)≤64)&&decide ((g.methods.length:Int)≤64)&&decide (-1≤g.entry)&&decide (g.entry < g.methods.length)
 && g.types.all (fun t=>Zi t g.types.length)&&(List.range g.fields.length).all (zdM g)&&(List.range g.methods.length).all (zfk g)
theorem Yt {p:Nat→Bool} {n k:Nat} (h:k < n):((List.range n).drop k).all p=(p k&&((List.range n).drop (k + 1)).all p):=by
 rw [zev (by simpa using h)];simp
theorem zdC {p:Nat→Bool} {n k:Nat} (h:k < n):((List.range n).drop k).any p=(p k||((List.range n).drop (k + 1)).any p):=by
 rw [zkx (by simpa using h)];simp
theorem zZ {α:Type} {d:α} {l:List α} {k:Nat} (h:k < l.length):l.getD k d=l[k]:=by rw [List.getD_eq_getElem?_getD,List.getElem?_eq_getElem h];rfl
theorem zi4 {g:Img} (h:(zO g).lenOk):g.types.length≤9223372036854775807∧g.fields.length≤9223372036854775807∧g.methods.length≤9223372036854775807:=by
 simp only [zO,PV.lenOk,lensOk,maxLen,List.length_map] at h
 exact ⟨h.1.1,h.2.1.1,h.2.2.1.1⟩
theorem zkN {g:Img} {k:Nat} (h:k < g.fields.length):zdM g k=(XR g.fields[k].name&&decide (0≤g.fields[k].owner)&&decide (g.fields[k].owner < g.types.length)&&(k==0||decide ((g.fields.getD (k - 1) default).owner≤g.fields[k].owner))&&Qv g.fields[k].ty 1 g.types.length):=by
 rw [zdM,zZ h]
def XV (g:Img):Nat→Int→List Int→List Int
 | 0,_,out=>out
 | n + 1,t,out=>match typeAt g t with
  | some td=>if t∈out then out else XV g n td.ext (out++[t])
  | none=>out
def up (g:Img) (t:Int):List Int:=XV g (g.types.length + 1) t []
def UpInv (g:Img) (t0:Int) (x:Int × List Int):Prop:=XV g (g.types.length + 1 - x.2.length) x.1 x.2=up g t0∧x.2.Nodup∧∀ y∈x.2,0≤y∧y < g.types.length
theorem QD {g:Img} {t:Int} {td:TD} (h:typeAt g t=some td):0≤t∧t < g.types.length:=by
 unfold typeAt at h
 split at h
 ·have:=(List.getElem?_eq_some_iff.1 h).1;omega
 ·cases h
theorem UpInv.len {g:Img} {t0:Int} {x:Int × List Int} (h:UpInv g t0 x):x.2.length≤g.types.length:=ZA _ _ h.2.1 h.2.2
theorem UpInv.next {g:Img} {t0:Int} {t:Int} {out:List Int} {td:TD} (h:UpInv g t0 (t,out)) (ht:typeAt g t=some td) (hn:t∉out):UpInv g t0 (td.ext,out++[t]):=by
 have hl:=h.len
 obtain ⟨h1,h2,h3⟩:=h
 simp only at h1 h2 h3 hl
 rw [show g.types.length + 1 - out.length=(g.types.length + 1 - (out++[t]).length) + 1 by simp;omega,XV,ht] at h1
 simp only [hn,if_false] at h1
 refine ⟨h1,?_,?_⟩
 ·rw [List.nodup_append];simp [h2];intro a ha e;subst e;exact hn ha
 ·intro y hy
  simp only [List.mem_append,List.mem_singleton] at hy
  rcases hy with hy|rfl
  ·exact h3 y hy
  ·exact QD ht
theorem UpInv.stop {g:Img} {t0:Int} {t:Int} {out:List Int} (h:UpInv g t0 (t,out)) (hs:typeAt g t=none∨t∈out):out=up g t0:=by
 have hl:=h.len
 obtain ⟨h1,h2,h3⟩:=h
 simp only at h1 h2 h3 hl
 rw [show g.types.length + 1 - out.length=(g.types.length - out.length) + 1 by omega,XV] at h1
 cases ht:typeAt g t with
 | none=>rw [ht] at h1;exact h1
 | some td =>
  rcases hs with hs|hs
  ·rw [ht] at hs;cases hs
  ·rw [ht] at h1;simpa [hs] using h1
theorem zg6 {g:Img}:∀ (n:Nat) (t:Int) (out:List Int),out.Nodup→(∀ y∈out,0≤y∧y < g.types.length)→(XV g n t out).Nodup∧∀ y∈XV g n t out,0≤y∧y < g.types.length
 | 0,t,out,h1,h2=>⟨h1,h2⟩
 | n + 1,t,out,h1,h2=>by
  rw [XV]
  cases ht:typeAt g t with
  | none=>exact ⟨h1,h2⟩
  | some td =>
   by_cases hm:t∈out
   ·simp only [hm,if_true];exact ⟨h1,h2⟩
   ·simp only [hm,if_false]
    refine zg6 n td.ext (out++[t]) ?_ ?_
    ·rw [List.nodup_append];simp [h1];intro a ha e;subst e;exact hm ha
    ·intro y hy
     simp only [List.mem_append,List.mem_singleton] at hy
     rcases hy with hy|rfl
     ·exact h2 y hy
     ·exact QD ht
theorem zf1 (g:Img) (t:Int):(up g t).Nodup∧∀ y∈up g t,0≤y∧y < g.types.length:=zg6 _ t [] (by simp) (by simp)
theorem zbv {g:Img} {t:Int} (h:0≤t∧t < g.types.length):∃ td,typeAt g t=some td :=
 ⟨_,by rw [typeAt,if_pos h.1];exact List.getElem?_eq_getElem (by omega)⟩
def zX (g:Img) (u:Int):List Int:=match typeAt g u with|some td=>td.faces|none=>[]
def zik (g:Img) (met:List Int) (f:Int):List Int:=if there g f=true∧f∉met then met++[f] else met
def MInv (g:Img) (met:List Int):Prop:=met.Nodup∧∀ y∈met,0≤y∧y < g.types.length
theorem MInv.len {g:Img} {met:List Int} (h:MInv g met):met.length≤g.types.length:=ZA _ _ h.1 h.2
theorem zln {g:Img} {t:Int} (h:there g t=true):0≤t∧t < g.types.length:=by
 obtain ⟨td,h⟩:=(Yg g t).1 h;exact QD h
theorem MInv.add {g:Img} {met:List Int} (h:MInv g met) (f:Int):MInv g (zik g met f):=by
 unfold zik
 split
 ·rename_i hc
  refine ⟨?_,?_⟩
  ·rw [List.nodup_append];simp [h.1];intro a ha e;subst e;exact hc.2 ha
  ·intro y hy
   simp only [List.mem_append,List.mem_singleton] at hy
   rcases hy with hy|rfl
   ·exact h.2 y hy
   ·exact zln hc.1
 ·exact h
theorem MInv.fold {g:Img}:∀ (l:List Int) {met:List Int},MInv g met→MInv g (l.foldl (zik g) met)
 | [],_,h=>h
 | f::l,_,h=>MInv.fold l (h.add f)
def zbs (g:Img) (met:List Int) (u:Int):List Int:=(zX g u).foldl (zik g) met
theorem MInv.step {g:Img} {met:List Int} (h:MInv g met) (u:Int):MInv g (zbs g met u):=MInv.fold _ h
def zm8 (g:Img) (t:Int):List Int:=(up g t).foldl (zbs g) []
def zje (g:Img):Nat→Nat→List Int→List Int
 | 0,_,met=>met
 | n + 1,i,met=>match met[i]? with|some u=>zje g n (i + 1) (zbs g met u)|none=>met
def zmv (g:Img) (t:Int):List Int:=zje g (g.types.length + 1) 0 (zm8 g t)
def nums (n:Nat):List Int:=(List.range n).map fun i:Nat=>(i:Int)
def zey (g:Img) (t:Int):List Int:=(nums g.types.length).filter fun f=>decide (f∈zmv g t)
theorem zaz {α β:Type} {f:β→α→β} {l:List α} {k:Nat} {b:β} (h:k < l.length):(l.drop k).foldl f b=(l.drop (k + 1)).foldl f (f b l[k]):=by rw [drop_cons h];rfl
def fieldsOf (g:Img) (t:Int):List Int:=(nums g.fields.length).filter fun i=>there g t&&(g.fields.getD i.toNat default).owner==t
def methodsOf (g:Img) (t:Int):List Int:=(nums g.methods.length).filter fun i=>there g t&&(g.methods.getD i.toNat default).owner==t
theorem zgR {n k:Nat} (h:k < (nums n).length):(nums n)[k]=(k:Int):=by simp [nums]
def zc3 (a b:Me):Bool:=decide (a.ret=b.ret)&&(a.flags.tmod 2==b.flags.tmod 2)&&decide (a.params=b.params)
def zb3 (g:Img) (i:Int):Bool :=
 let f:=g.fields.getD i.toNat default
 !f.static&&f.ty.kind==6&&f.ty.dims==0&&zY g f.ty.index==1
def partsOf (g:Img) (t:Int):List Int:=((fieldsOf g t).filter (zb3 g)).map fun i=>(g.fields.getD i.toNat default).ty.index
theorem Zl {g:Img} {t i:Int} (h:i∈fieldsOf g t):0≤i∧i.toNat < g.fields.length:=by
 simp only [fieldsOf,nums,List.mem_filter,List.mem_map,List.mem_range] at h
 obtain ⟨⟨k,hk,rfl⟩,_⟩:=h
 exact ⟨by omega,by simpa using hk⟩
theorem Zt {g:Img} {t i:Int} (h:i∈methodsOf g t):0≤i∧i.toNat < g.methods.length:=by
 simp only [methodsOf,nums,List.mem_filter,List.mem_map,List.mem_range] at h
 obtain ⟨⟨k,hk,rfl⟩,_⟩:=h
 exact ⟨by omega,by simpa using hk⟩
theorem zcT {n:Nat} {p:Int→Bool}:((nums n).filter p).length≤n:=Nat.le_trans (List.length_filter_le _ _) (by simp [nums])
theorem Qr (g:Img) (t:Int):(fieldsOf g t).length≤g.fields.length:=zcT
theorem QV {α:Type} {f:α→PV} {l:List α} {i:Int} (h:i.toNat < l.length):(l.map f)[i.toNat]?=some (f l[i.toNat]):=by simp [h]
def ZG (td:TD):Bool :=
 if zco td.flags==2 then td.ext == -1&&Yq td.flags 4&&!Yq td.flags 1&&!Yq td.flags 8&&!Yq td.flags 16
 else if zco td.flags==1 then td.ext == -1&&Yq td.flags 8&&!Yq td.flags 4&&!Yq td.flags 16
 else if zco td.flags==3 then td.ext == -1&&Yq td.flags 8&&!Yq td.flags 4&&((td.faces.length:Int)==0)
 else true
theorem zcq {g:Img}:∀ (n:Nat) (t:Int) (out:List Int),∃ r,XV g n t out=out++r
 | 0,t,out=>⟨[],by simp [XV]⟩
 | n + 1,t,out=>by
  rw [XV]
  cases ht:typeAt g t with
  | none=>exact ⟨[],by simp⟩
  | some td =>
   by_cases hm:t∈out
   ·exact ⟨[],by simp [hm]⟩
   ·obtain ⟨r,hr⟩:=zcq n td.ext (out++[t])
    exact ⟨t::r,by simp only [hm,if_false];rw [hr];simp⟩
theorem zc7 {g:Img} {t:Int} {td:TD} (h:typeAt g t=some td):∃ r,up g t=t::r:=by
 obtain ⟨r,hr⟩:=zcq (g:=g) g.types.length td.ext [t]
 exact ⟨r,by rw [up,XV,h];simpa using hr⟩
def Xt (g:Img) (t:Int):Int:=match typeAt g ((up g t).getLastD 0) with|some td=>td.ext|none => -1
def XZ (g:Img) (t:Int):Int:=match typeAt g t with|some td=>td.flags|none=>0
def zjs (g:Img) (t:Int) (td:TD):Bool:=!decide (0≤td.ext)||(zY g td.ext==0&&!Yq (XZ g td.ext) 8&&decide (Xt g t < 0))
def zbg (g:Img) (l:List Int) (i:Nat):Bool:=zY g (l.getD i 0)==2&&!decide (l.getD i 0∈l.take i)
def VB (g:Img) (t:Int) (td:TD):Bool :=
 zjs g t td&&(List.range td.faces.length).all (zbg g td.faces)&&(zY g t != 2||!decide (t∈zey g t))
def zab (g:Img) (t:Int) (td:TD) (i:Nat):Bool:=!((i:Int) != t&&(g.types.getD i default).name.toList==td.name.toList)
def fName (g:Img) (i:Int):ByteArray:=(g.fields.getD i.toNat default).name
def zkj (g:Img) (l:List Int) (i k:Nat):Bool:=!((fName g (l.getD i 0)).toList==(fName g (l.getD k 0)).toList)
def zdl (g:Img) (l:List Int) (i k:Nat):Bool :=
 !((g.methods.getD (l.getD i 0).toNat default).name.toList==(g.methods.getD (l.getD k 0).toNat default).name.toList&&zc3 (g.methods.getD (l.getD i 0).toNat default) (g.methods.getD (l.getD k 0).toNat default))
def zfA (g:Img) (t:Int) (td:TD):Bool :=
 (List.range g.types.length).all (zab g t td)
 && (List.range (fieldsOf g t).length).all (fun i=>(List.range i).all (zkj g (fieldsOf g t) i))
 && (List.range (methodsOf g t).length).all (fun i=>(List.range i).all (zdl g (methodsOf g t) i))
def zfF (g:Img) (k:Int) (i:Int):Bool:=!(k==3||(k==2&&!(g.fields.getD i.toNat default).static))
def qU (met:List Int) (x:Int):List Int:=if x∈met then met else met++[x]
def zh3 (g:Img) (met:List Int) (u:Int):List Int:=(partsOf g u).foldl qU met
def zaG (g:Img):Nat→Nat→List Int→List Int
 | 0,_,met=>met
 | n + 1,i,met=>match met[i]? with|some u=>zaG g n (i + 1) (zh3 g met u)|none=>met
def zlp (g:Img) (t:Int):List Int:=zaG g (g.fields.length + g.types.length + 1) 0 (partsOf g t)
def zaI (g:Img) (t:Int):Bool:=(fieldsOf g t).all (zfF g (zY g t))&&(zY g t != 1||!decide (t∈zlp g t))
def PInv (g:Img) (t:Int) (met:List Int):Prop:=∃ a,met=partsOf g t++a∧a.Nodup∧∀ y∈a,0≤y∧y < g.types.length
theorem zce (g:Img) (t:Int):(partsOf g t).length≤g.fields.length:=by
 rw [partsOf,List.length_map]
 exact Nat.le_trans (List.length_filter_le _ _) (Qr g t)
theorem PInv.len {g:Img} {t:Int} {met:List Int} (h:PInv g t met):met.length≤g.fields.length + g.types.length:=by
 obtain ⟨a,rfl,h1,h2⟩:=h
 have:=ZA _ _ h1 h2
 have:=zce g t
 simp;omega
theorem ZQ {g:Img} {t x:Int} (h:x∈partsOf g t):0≤x∧x < g.types.length:=by
 simp only [partsOf,List.mem_map,List.mem_filter,zb3,Bool.and_eq_true,beq_iff_eq] at h
 obtain ⟨i,⟨_,_,hk⟩,rfl⟩:=h
 rw [zY] at hk
 cases ht:typeAt g (g.fields.getD i.toNat default).ty.index with
 | none=>rw [ht] at hk;simp at hk
 | some td=>exact QD ht
theorem PInv.add {g:Img} {t:Int} {met:List Int} {x:Int} (h:PInv g t met) (hx:0≤x∧x < g.types.length):PInv g t (qU met x):=by
 unfold qU
 split
 ·exact h
 ·rename_i hn
  obtain ⟨a,rfl,h1,h2⟩:=h
  refine ⟨a++[x],by simp,?_,?_⟩
  ·rw [List.nodup_append];simp [h1];intro b hb e;subst e;exact hn (by simp [hb])
  ·intro y hy
   simp only [List.mem_append,List.mem_singleton] at hy
   rcases hy with hy|rfl
   ·exact h2 y hy
   ·exact hx
def qL (g:Img) (t:Nat):Int :=
 let td:=g.types.getD t default
 if !ZG td||!VB g t td then 7 else if !zfA g t td then 18 else if !zaI g t then 20 else 0
def Qg (g:Img):Int × Int :=
 if !zW g then (0,17) else match (List.range g.types.length).find? (fun t=>qL g t != 0) with
  | some t=>(((t:Nat):Int),qL g t)
  | none=>(0,0)
def ZL (g:Img):Bool:=(Qg g).2==0
theorem zS {g:Img} (h:zW g=true):g.types.length≤32∧g.fields.length≤64∧g.methods.length≤64∧∀ td∈g.types,Zi td g.types.length=true:=by
 simp only [zW,Bool.and_eq_true,decide_eq_true_eq,List.all_eq_true] at h
 obtain ⟨⟨⟨⟨⟨⟨⟨h1,h2⟩,h3⟩,_⟩,_⟩,h4⟩,_⟩,_⟩:=h
 exact ⟨by omega,by omega,by omega,h4⟩
theorem Xv {td:TD} {n:Int} (h:Zi td n=true):0≤td.flags∧td.flags≤31 ∧ -1≤td.ext∧td.ext < n∧td.faces.length≤4∧∀ f∈td.faces,0≤f∧f < n:=by
 simp only [Zi,Bool.and_eq_true,decide_eq_true_eq,List.all_eq_true,zaK] at h
 obtain ⟨⟨⟨⟨⟨⟨_,h1⟩,h2⟩,h3⟩,h4⟩,h5⟩,h6⟩:=h
 exact ⟨h1,h2,h3,h4,by omega,h6⟩
theorem zk4 {g:Img} {k:Nat} (hf:zW g=true) (hk:k < g.types.length) (hno:∀ j,j < k→qL g j=0) (h:qL g k≠0):Qg g=(((k:Nat):Int),qL g k):=by
 have:(List.range g.types.length).find? (fun t=>qL g t != 0)=some k:=by
  rw [List.find?_range_eq_some]
  exact ⟨by simpa using h,by simpa using hk,fun j hj=>by simp [hno j hj]⟩
 simp [Qg,hf,this]
theorem zkD {g:Img} (hf:zW g=true) (hno:∀ j,j < g.types.length→qL g j=0):Qg g=(0,0):=by
 have:(List.range g.types.length).find? (fun t=>qL g t != 0)=none:=by
  rw [List.find?_eq_none]
  intro j hj
  simp [hno j (List.mem_range.1 hj)]
 simp [Qg,hf,this]
theorem zdn {g:Img} {k:Nat} (hlt:k < g.types.length):qL g k=if !ZG g.types[k]||!VB g k g.types[k] then 7 else if !zfA g k g.types[k] then 18 else if !zaI g k then 20 else 0:=by
 rw [qL,zZ hlt]
theorem zdq {g:Img} {k:Nat} (hlt:k < g.types.length):typeAt g (k:Int)=some g.types[k]:=by
 rw [typeAt,if_pos (by omega)];simp [List.getElem?_eq_getElem hlt]
end Go.Cg
