/- A part of the walks by abstract values: no statement of its own. -/
import Derived.Test.YtdngpcmllgnbjaaGreatN11
import Derived.Test.YtdngpcmllgnbjaaGreatN7
import Derived.Test.YtdngpcmllgnbjaaGreatN6
set_option linter.unusedVariables false
set_option linter.unusedSimpArgs false
namespace Go.Cg
open Go.Proofs
def zok (b:UInt8):Bool:=!(decide ((b.toNat:Int) < 33)||decide (126 < (b.toNat:Int)))
def Vp (s:ByteArray):Bool:=s.data.toList.all zok&&(decide (0 < (s.size:Int))&&decide ((s.size:Int)≤24))
theorem zpa {s:ByteArray} (h:(ps s).lenOk):s.size≤9223372036854775807:=by
 simp [PV.lenOk,Yc,maxLen] at h;exact of_decide_eq_true h
theorem zpf {s:ByteArray} {k:Nat} (h:k < s.size):s[((k:Int)).toNat]?=some (s.data.toList[k]'(by simpa using h)):=by
 simp only [Int.toNat_natCast]
 rw [getElem?_pos s k h]
 simp [ByteArray.getElem_eq_getElem_data]
def zhI (o:Int):Int × Int :=
 if o==1 then (2147483647,-2147483648) else if o==2 then (9223372036854775807,-9223372036854775808) else if o==3 then (11,0) else if o==4 then (6,0) else if o==5 then (159,0)
 else if o==6||o==7 then (63,0) else (0,0)
def zk5:ByteArray:={ data:=([48,52,52,52,51,51,51,49,50,48,48,48,48,48,48,48,48,48,48,48,48,48,48,48,48,48,48,48,48,48,48,48,48,53,53,53,53].append [53,53,53,53,53,54,54,54,48,48,55,55,55,55,55,55,56,56,56,56,48,56,56,56,56,56,56,56,56,54,56,48,48,53,48,48,48,48]).toArray }
def digit (s:ByteArray) (op:Int):Int:=IntKind.i64.wrap (IntKind.u8.wrap (((s.data.toList.getD (op - 1).toNat 0).toNat:Int) - 48))
def yC (op:Int):Int:=digit zk5 op
def zbK (s:ByteArray) (o f:Int):PV:=.agg [ps s,pi o,pi f]
def ty0:Ty:=⟨0,0,0,false⟩
def WQ (x:Ins):Int :=
 if x.op < 1∨75 < x.op then 3
 else if (zhI (yC x.op)).1 < x.arg∨x.arg < (zhI (yC x.op)).2 then 17
 else if yC x.op≠8∧x.t≠ty0 then 17
 else if yC x.op=8∧Zo x.t 1=false then 17
 else 0

/-! images: how long;formed -/
theorem yI {α:Type} {f:α→PV} {l:List α} {k:Nat} (h:k < l.length):(l.map f)[((k:Int)).toNat]?=some (f l[k]):=by simp [h]

def zbs (n:Int) (f:Int):Bool:=decide (0≤f)&&decide (f < n)
def ZM (t:TD) (n:Int):Bool :=
  Vp t.name&&decide (0≤t.flags)&&decide (t.flags≤31)&&decide (-1≤t.ext)&&decide (t.ext < n)&&decide ((t.faces.length:Int)≤4)&&t.faces.all (zbs n)
def codeOk (g:Img) (m:Me) (x:Ins):Bool:=WQ x==0 &&
  (if yC x.op==5 then decide (x.arg < (m.code.length:Int)) else if yC x.op==6 then decide (x.arg < (g.methods.length:Int))
   else if yC x.op==7 then decide (x.arg < (g.fields.length:Int)) else if yC x.op==8 then zfR x.t g.types.length else true)
theorem zmW {x:Ins} (h:(WQ x != 0)=false):1≤x.op∧x.op≤75:=by
  simp [WQ] at h
  by_cases h1:x.op < 1∨75 < x.op
  · simp [h1] at h
  · omega
def zcs (t:Ty):Bool:=(t.kind==0&&(t.index==0&&(t.dims==0&&(t.ref==false&&true))))
def YX (g:Img) (c:Cl):Bool:=!((c.kind==1&&!QD c.t 1 g.types.length)||(c.kind != 1&&!zcs c.t))
def zck (g:Img) (m:Me):Bool:=decide ((m.code.length:Int)≤160)&&m.code.all (codeOk g m)&&m.clauses.all (YX g)&&zh5 m.code.length m.clauses
def ZY (g:Img) (m:Me):Bool :=
 Vp m.name&&decide (0≤m.flags)&&decide (m.flags≤31)&&decide (0≤m.max)&&decide (m.max≤12)&&decide ((m.params.length:Int)≤6)&&decide ((m.locals.length:Int)≤12)&&QD m.ret 3 g.types.length
 && m.params.all (fun t=>QD t 2 g.types.length)&&m.locals.all (fun t=>QD t 2 g.types.length)&&zck g m
def zex (g:Img) (i:Nat):Bool :=
 let f:=g.fields.getD i default
 Vp f.name&&decide (0≤f.owner)&&decide (f.owner < g.types.length)&&(i==0||decide ((g.fields.getD (i - 1) default).owner≤f.owner))&&QD f.ty 1 g.types.length
def zeP (g:Img) (i:Nat):Bool :=
 let m:=g.methods.getD i default
 decide (0≤m.owner)&&decide (m.owner < g.types.length)&&(i==0||decide ((g.methods.getD (i - 1) default).owner≤m.owner))&&ZY g m
def zK (g:Img):Bool :=
 decide ((g.types.length:Int)≤32)&&decide ((g.fields.length:Int)≤64)&&decide ((g.methods.length:Int)≤64)&&decide (-1≤g.entry)&&decide (g.entry < g.methods.length)
 && g.types.all (fun t=>ZM t g.types.length)&&(List.range g.fields.length).all (zex g)&&(List.range g.methods.length).all (zeP g)
theorem Qd {p:Nat→Bool} {n k:Nat} (h:k < n):((List.range n).drop k).all p=(p k&&((List.range n).drop (k + 1)).all p):=by
 rw [zfG (by simpa using h)];simp
theorem zes {p:Nat→Bool} {n k:Nat} (h:k < n):((List.range n).drop k).any p=(p k||((List.range n).drop (k + 1)).any p):=by
 rw [zeR (by simpa using h)];simp
theorem zV {α:Type} {d:α} {l:List α} {k:Nat} (h:k < l.length):l.getD k d=l[k]:=by rw [List.getD_eq_getElem?_getD,List.getElem?_eq_getElem h];rfl
theorem zlu {g:Img} (h:(zu g).lenOk):g.types.length≤9223372036854775807∧g.fields.length≤9223372036854775807∧g.methods.length≤9223372036854775807:=by
 simp only [zu,PV.lenOk,lensOk,maxLen,List.length_map] at h
 exact ⟨h.1.1,h.2.1.1,h.2.2.1.1⟩
theorem zoB {g:Img} {k:Nat} (h:k < g.fields.length):zex g k=(Vp g.fields[k].name&&decide (0≤g.fields[k].owner)&&decide (g.fields[k].owner < g.types.length)&&(k==0||decide ((g.fields.getD (k - 1) default).owner≤g.fields[k].owner))&&QD g.fields[k].ty 1 g.types.length):=by
 rw [zex,zV h]
def Vj (g:Img):Nat→Int→List Int→List Int
 | 0,_,out=>out
 | n + 1,t,out=>match typeAt g t with
  | some td=>if t∈out then out else Vj g n td.ext (out++[t])
  | none=>out
def up (g:Img) (t:Int):List Int:=Vj g (g.types.length + 1) t []
def UpInv (g:Img) (t0:Int) (x:Int × List Int):Prop:=Vj g (g.types.length + 1 - x.2.length) x.1 x.2=up g t0∧x.2.Nodup∧∀ y∈x.2,0≤y∧y < g.types.length
theorem YJ {g:Img} {t:Int} {td:TD} (h:typeAt g t=some td):0≤t∧t < g.types.length:=by
 unfold typeAt at h
 split at h
 ·have:=(List.getElem?_eq_some_iff.1 h).1;omega
 ·cases h
theorem UpInv.len {g:Img} {t0:Int} {x:Int × List Int} (h:UpInv g t0 x):x.2.length≤g.types.length:=qU _ _ h.2.1 h.2.2
theorem UpInv.next {g:Img} {t0:Int} {t:Int} {out:List Int} {td:TD} (h:UpInv g t0 (t,out)) (ht:typeAt g t=some td) (hn:t∉out):UpInv g t0 (td.ext,out++[t]):=by
 have hl:=h.len
 obtain ⟨h1,h2,h3⟩:=h
 simp only at h1 h2 h3 hl
 rw [show g.types.length + 1 - out.length=(g.types.length + 1 - (out++[t]).length) + 1 by simp;omega,Vj,ht] at h1
 simp only [hn,if_false] at h1
 refine ⟨h1,?_,?_⟩
 ·rw [List.nodup_append];simp [h2];intro a ha e;subst e;exact hn ha
 ·intro y hy
  simp only [List.mem_append,List.mem_singleton] at hy
  rcases hy with hy|rfl
  ·exact h3 y hy
  ·exact YJ ht
theorem UpInv.stop {g:Img} {t0:Int} {t:Int} {out:List Int} (h:UpInv g t0 (t,out)) (hs:typeAt g t=none∨t∈out):out=up g t0:=by
 have hl:=h.len
 obtain ⟨h1,h2,h3⟩:=h
 simp only at h1 h2 h3 hl
 rw [show g.types.length + 1 - out.length=(g.types.length - out.length) + 1 by omega,Vj] at h1
 cases ht:typeAt g t with
 | none=>rw [ht] at h1;exact h1
 | some td =>
  rcases hs with hs|hs
  ·rw [ht] at hs;cases hs
  ·rw [ht] at h1;simpa [hs] using h1
theorem zjd {g:Img}:∀ (n:Nat) (t:Int) (out:List Int),out.Nodup→(∀ y∈out,0≤y∧y < g.types.length)→(Vj g n t out).Nodup∧∀ y∈Vj g n t out,0≤y∧y < g.types.length
 | 0,t,out,h1,h2=>⟨h1,h2⟩
 | n + 1,t,out,h1,h2=>by
  rw [Vj]
  cases ht:typeAt g t with
  | none=>exact ⟨h1,h2⟩
  | some td =>
   by_cases hm:t∈out
   ·simp only [hm,if_true];exact ⟨h1,h2⟩
   ·simp only [hm,if_false]
    refine zjd n td.ext (out++[t]) ?_ ?_
    ·rw [List.nodup_append];simp [h1];intro a ha e;subst e;exact hm ha
    ·intro y hy
     simp only [List.mem_append,List.mem_singleton] at hy
     rcases hy with hy|rfl
     ·exact h2 y hy
     ·exact YJ ht
theorem zaS (g:Img) (t:Int):(up g t).Nodup∧∀ y∈up g t,0≤y∧y < g.types.length:=zjd _ t [] (by simp) (by simp)
theorem Xn {g:Img} {t:Int} (h:0≤t∧t < g.types.length):∃ td,typeAt g t=some td :=
 ⟨_,by rw [typeAt,if_pos h.1];exact List.getElem?_eq_getElem (by omega)⟩
def zT (g:Img) (u:Int):List Int:=match typeAt g u with|some td=>td.faces|none=>[]
def zkB (g:Img) (met:List Int) (f:Int):List Int:=if there g f=true∧f∉met then met++[f] else met
def MInv (g:Img) (met:List Int):Prop:=met.Nodup∧∀ y∈met,0≤y∧y < g.types.length
theorem MInv.len {g:Img} {met:List Int} (h:MInv g met):met.length≤g.types.length:=qU _ _ h.1 h.2
theorem znz {g:Img} {t:Int} (h:there g t=true):0≤t∧t < g.types.length:=by
 obtain ⟨td,h⟩:=(YN g t).1 h;exact YJ h
theorem MInv.add {g:Img} {met:List Int} (h:MInv g met) (f:Int):MInv g (zkB g met f):=by
 unfold zkB
 split
 ·rename_i hc
  refine ⟨?_,?_⟩
  ·rw [List.nodup_append];simp [h.1];intro a ha e;subst e;exact hc.2 ha
  ·intro y hy
   simp only [List.mem_append,List.mem_singleton] at hy
   rcases hy with hy|rfl
   ·exact h.2 y hy
   ·exact znz hc.1
 ·exact h
theorem MInv.fold {g:Img}:∀ (l:List Int) {met:List Int},MInv g met→MInv g (l.foldl (zkB g) met)
 | [],_,h=>h
 | f::l,_,h=>MInv.fold l (h.add f)
def zcz (g:Img) (met:List Int) (u:Int):List Int:=(zT g u).foldl (zkB g) met
theorem MInv.step {g:Img} {met:List Int} (h:MInv g met) (u:Int):MInv g (zcz g met u):=MInv.fold _ h
def zqr (g:Img) (t:Int):List Int:=(up g t).foldl (zcz g) []
def zlH (g:Img):Nat→Nat→List Int→List Int
 | 0,_,met=>met
 | n + 1,i,met=>match met[i]? with|some u=>zlH g n (i + 1) (zcz g met u)|none=>met
def zpM (g:Img) (t:Int):List Int:=zlH g (g.types.length + 1) 0 (zqr g t)
def nums (n:Nat):List Int:=(List.range n).map fun i:Nat=>(i:Int)
def VP (g:Img) (t:Int):List Int:=(nums g.types.length).filter fun f=>decide (f∈zpM g t)
theorem zbI {α β:Type} {f:β→α→β} {l:List α} {k:Nat} {b:β} (h:k < l.length):(l.drop k).foldl f b=(l.drop (k + 1)).foldl f (f b l[k]):=by rw [drop_cons h];rfl
def fieldsOf (g:Img) (t:Int):List Int:=(nums g.fields.length).filter fun i=>there g t&&(g.fields.getD i.toNat default).owner==t
def methodsOf (g:Img) (t:Int):List Int:=(nums g.methods.length).filter fun i=>there g t&&(g.methods.getD i.toNat default).owner==t
theorem ziS {n k:Nat} (h:k < (nums n).length):(nums n)[k]=(k:Int):=by simp [nums]
def za1 (a b:Me):Bool:=decide (a.ret=b.ret)&&(a.flags.tmod 2==b.flags.tmod 2)&&decide (a.params=b.params)
def zcM (g:Img) (i:Int):Bool :=
 let f:=g.fields.getD i.toNat default
 !f.static&&f.ty.kind==6&&f.ty.dims==0&&zB g f.ty.index==1
def partsOf (g:Img) (t:Int):List Int:=((fieldsOf g t).filter (zcM g)).map fun i=>(g.fields.getD i.toNat default).ty.index
theorem ZF {g:Img} {t i:Int} (h:i∈fieldsOf g t):0≤i∧i.toNat < g.fields.length:=by
 simp only [fieldsOf,nums,List.mem_filter,List.mem_map,List.mem_range] at h
 obtain ⟨⟨k,hk,rfl⟩,_⟩:=h
 exact ⟨by omega,by simpa using hk⟩
theorem yQ {g:Img} {t i:Int} (h:i∈methodsOf g t):0≤i∧i.toNat < g.methods.length:=by
 simp only [methodsOf,nums,List.mem_filter,List.mem_map,List.mem_range] at h
 obtain ⟨⟨k,hk,rfl⟩,_⟩:=h
 exact ⟨by omega,by simpa using hk⟩
theorem zae {n:Nat} {p:Int→Bool}:((nums n).filter p).length≤n:=Nat.le_trans (List.length_filter_le _ _) (by simp [nums])
theorem Xj (g:Img) (t:Int):(fieldsOf g t).length≤g.fields.length:=zae
theorem Yu (g:Img) (t:Int):(methodsOf g t).length≤g.methods.length:=zae
theorem Zw {α:Type} {f:α→PV} {l:List α} {i:Int} (h:i.toNat < l.length):(l.map f)[i.toNat]?=some (f l[i.toNat]):=by simp [h]
def Zi (td:TD):Bool :=
 if Xf td.flags==2 then td.ext == -1&&yE td.flags 4&&!yE td.flags 1&&!yE td.flags 8&&!yE td.flags 16
 else if Xf td.flags==1 then td.ext == -1&&yE td.flags 8&&!yE td.flags 4&&!yE td.flags 16
 else if Xf td.flags==3 then td.ext == -1&&yE td.flags 8&&!yE td.flags 4&&((td.faces.length:Int)==0)
 else true
theorem zdU {g:Img}:∀ (n:Nat) (t:Int) (out:List Int),∃ r,Vj g n t out=out++r
 | 0,t,out=>⟨[],by simp [Vj]⟩
 | n + 1,t,out=>by
  rw [Vj]
  cases ht:typeAt g t with
  | none=>exact ⟨[],by simp⟩
  | some td =>
   by_cases hm:t∈out
   ·exact ⟨[],by simp [hm]⟩
   ·obtain ⟨r,hr⟩:=zdU n td.ext (out++[t])
    exact ⟨t::r,by simp only [hm,if_false];rw [hr];simp⟩
theorem zee {g:Img} {t:Int} {td:TD} (h:typeAt g t=some td):∃ r,up g t=t::r:=by
 obtain ⟨r,hr⟩:=zdU (g:=g) g.types.length td.ext [t]
 exact ⟨r,by rw [up,Vj,h];simpa using hr⟩
def WV (g:Img) (t:Int):Int:=match typeAt g ((up g t).getLastD 0) with|some td=>td.ext|none => -1
def Vz (g:Img) (t:Int):Int:=match typeAt g t with|some td=>td.flags|none=>0
def zjC (g:Img) (t:Int) (td:TD):Bool:=!decide (0≤td.ext)||(zB g td.ext==0&&!yE (Vz g td.ext) 8&&decide (WV g t < 0))
def zcC (g:Img) (l:List Int) (i:Nat):Bool:=zB g (l.getD i 0)==2&&!decide (l.getD i 0∈l.take i)
def XL (g:Img) (t:Int) (td:TD):Bool :=
 zjC g t td&&(List.range td.faces.length).all (zcC g td.faces)&&(zB g t != 2||!decide (t∈VP g t))
def za7 (g:Img) (t:Int) (td:TD) (i:Nat):Bool:=!((i:Int) != t&&(g.types.getD i default).name.toList==td.name.toList)
def fName (g:Img) (i:Int):ByteArray:=(g.fields.getD i.toNat default).name
def zmG (g:Img) (l:List Int) (i k:Nat):Bool:=!((fName g (l.getD i 0)).toList==(fName g (l.getD k 0)).toList)
def zfL (g:Img) (l:List Int) (i k:Nat):Bool :=
 !((g.methods.getD (l.getD i 0).toNat default).name.toList==(g.methods.getD (l.getD k 0).toNat default).name.toList&&za1 (g.methods.getD (l.getD i 0).toNat default) (g.methods.getD (l.getD k 0).toNat default))
def zg3 (g:Img) (t:Int) (td:TD):Bool :=
 (List.range g.types.length).all (za7 g t td)
 && (List.range (fieldsOf g t).length).all (fun i=>(List.range i).all (zmG g (fieldsOf g t) i))
 && (List.range (methodsOf g t).length).all (fun i=>(List.range i).all (zfL g (methodsOf g t) i))
def zhm (g:Img) (k:Int) (i:Int):Bool:=!(k==3||(k==2&&!(g.fields.getD i.toNat default).static))
def Zp (met:List Int) (x:Int):List Int:=if x∈met then met else met++[x]
def zic (g:Img) (met:List Int) (u:Int):List Int:=(partsOf g u).foldl Zp met
def zbu (g:Img):Nat→Nat→List Int→List Int
 | 0,_,met=>met
 | n + 1,i,met=>match met[i]? with|some u=>zbu g n (i + 1) (zic g met u)|none=>met
def znd (g:Img) (t:Int):List Int:=zbu g (g.fields.length + g.types.length + 1) 0 (partsOf g t)
def zbw (g:Img) (t:Int):Bool:=(fieldsOf g t).all (zhm g (zB g t))&&(zB g t != 1||!decide (t∈znd g t))
def PInv (g:Img) (t:Int) (met:List Int):Prop:=∃ a,met=partsOf g t++a∧a.Nodup∧∀ y∈a,0≤y∧y < g.types.length
theorem zdX (g:Img) (t:Int):(partsOf g t).length≤g.fields.length:=by
 rw [partsOf,List.length_map]
 exact Nat.le_trans (List.length_filter_le _ _) (Xj g t)
theorem PInv.len {g:Img} {t:Int} {met:List Int} (h:PInv g t met):met.length≤g.fields.length + g.types.length:=by
 obtain ⟨a,rfl,h1,h2⟩:=h
 have:=qU _ _ h1 h2
 have:=zdX g t
 simp;omega
theorem Yy {g:Img} {t x:Int} (h:x∈partsOf g t):0≤x∧x < g.types.length:=by
 simp only [partsOf,List.mem_map,List.mem_filter,zcM,Bool.and_eq_true,beq_iff_eq] at h
 obtain ⟨i,⟨_,_,hk⟩,rfl⟩:=h
 rw [zB] at hk
 cases ht:typeAt g (g.fields.getD i.toNat default).ty.index with
 | none=>rw [ht] at hk;simp at hk
 | some td=>exact YJ ht
theorem PInv.add {g:Img} {t:Int} {met:List Int} {x:Int} (h:PInv g t met) (hx:0≤x∧x < g.types.length):PInv g t (Zp met x):=by
 unfold Zp
 split
 ·exact h
 ·rename_i hn
  obtain ⟨a,rfl,h1,h2⟩:=h
  refine ⟨a++[x],by simp,?_,?_⟩
  ·rw [List.nodup_append];simp [h1];intro b hb e;subst e;exact hn (by simp [hb])
  ·intro y hy
   simp only [List.mem_append,List.mem_singleton] at hy
   rcases hy with hy|rfl
   ·exact h2 y hy
   ·exact hx
def qE (g:Img) (t:Nat):Int :=
 let td:=g.types.getD t default
 if !Zi td||!XL g t td then 7 else if !zg3 g t td then 18 else if !zbw g t then 20 else 0
def Xb (g:Img):Int × Int :=
 if !zK g then (0,17) else match (List.range g.types.length).find? (fun t=>qE g t != 0) with
  | some t=>(((t:Nat):Int),qE g t)
  | none=>(0,0)
def ZE (g:Img):Bool:=(Xb g).2==0
theorem zG {g:Img} (h:zK g=true):g.types.length≤32∧g.fields.length≤64∧g.methods.length≤64∧∀ td∈g.types,ZM td g.types.length=true:=by
 simp only [zK,Bool.and_eq_true,decide_eq_true_eq,List.all_eq_true] at h
 obtain ⟨⟨⟨⟨⟨⟨⟨h1,h2⟩,h3⟩,_⟩,_⟩,h4⟩,_⟩,_⟩:=h
 exact ⟨by omega,by omega,by omega,h4⟩
theorem Yz {td:TD} {n:Int} (h:ZM td n=true):0≤td.flags∧td.flags≤31 ∧ -1≤td.ext∧td.ext < n∧td.faces.length≤4∧∀ f∈td.faces,0≤f∧f < n:=by
 simp only [ZM,Bool.and_eq_true,decide_eq_true_eq,List.all_eq_true,zbs] at h
 obtain ⟨⟨⟨⟨⟨⟨_,h1⟩,h2⟩,h3⟩,h4⟩,h5⟩,h6⟩:=h
 exact ⟨h1,h2,h3,h4,by omega,h6⟩
theorem zjR {g:Img} {k:Nat} (hf:zK g=true) (hk:k < g.types.length) (hno:∀ j,j < k→qE g j=0) (h:qE g k≠0):Xb g=(((k:Nat):Int),qE g k):=by
 have:(List.range g.types.length).find? (fun t=>qE g t != 0)=some k:=by
  rw [List.find?_range_eq_some]
  exact ⟨by simpa using h,by simpa using hk,fun j hj=>by simp [hno j hj]⟩
 simp [Xb,hf,this]
theorem zn7 {g:Img} (hf:zK g=true) (hno:∀ j,j < g.types.length→qE g j=0):Xb g=(0,0):=by
 have:(List.range g.types.length).find? (fun t=>qE g t != 0)=none:=by
  rw [List.find?_eq_none]
  intro j hj
  simp [hno j (List.mem_range.1 hj)]
 simp [Xb,hf,this]
theorem zbD {g:Img} {k:Nat} (hlt:k < g.types.length):qE g k=if !Zi g.types[k]||!XL g k g.types[k] then 7 else if !zg3 g k g.types[k] then 18 else if !zbw g k then 20 else 0:=by
 rw [qE,zV hlt]
theorem zbv {g:Img} {k:Nat} (hlt:k < g.types.length):typeAt g (k:Int)=some g.types[k]:=by
 rw [typeAt,if_pos (by omega)];simp [List.getElem?_eq_getElem hlt]
end Go.Cg
