/- A part of the walks by abstract values: no statement of its own. -/
import Derived.Test.YtdlokcmodgccnaaGreatU10
import Derived.Test.YtdlokcmodgccnaaGreatU7
set_option linter.unusedVariables false
set_option linter.unusedSimpArgs false
namespace Go.Cg
open Go.Proofs
def zqz (b:UInt8):Bool:=!(decide ((b.toNat:Int) < 33)||decide (126 < (b.toNat:Int)))
def zaZ (s:ByteArray):Bool:=s.data.toList.all zqz&&(decide (0 < (s.size:Int))&&decide ((s.size:Int)≤24))
theorem zrZ {s:ByteArray} (h:(ps s).lenOk):s.size≤9223372036854775807:=by
 simp [PV.lenOk,Xa,maxLen] at h;exact of_decide_eq_true h
theorem zrM {s:ByteArray} {k:Nat} (h:k < s.size):s[((k:Int)).toNat]?=some (s.data.toList[k]'(by simpa using h)):=by
 simp only [Int.toNat_natCast]
 rw [getElem?_pos s k h]
 simp [ByteArray.getElem_eq_getElem_data]
def zbW (o:Int):Int × Int :=
 if o==1 then (2147483647,-2147483648) else if o==2 then (9223372036854775807,-9223372036854775808) else if o==3 then (11,0) else if o==4 then (6,0) else if o==5 then (159,0)
 else if o==6||o==7 then (63,0) else (0,0)
def zm2:ByteArray:={ data:=([48,52,52,52,51,51,51,49,50,48,48,48,48,48,48,48,48,48,48,48,48,48,48,48,48,48,48,48,48,48,48,48,48,53,53,53,53].append [53,53,53,53,53,54,54,54,48,48,55,55,55,55,55,55,56,56,56,56,48,56,56,56,56,56,56,56,56,54,56,48,48,53,48,48,48,48]).toArray }
def digit (s:ByteArray) (op:Int):Int:=IntKind.i64.wrap (IntKind.u8.wrap (((s.data.toList.getD (op - 1).toNat 0).toNat:Int) - 48))
def yN (op:Int):Int:=digit zm2 op
def zdf (s:ByteArray) (o f:Int):PV:=.agg [ps s,pi o,pi f]
def ty0:Ty:=⟨0,0,0,false⟩
def XK (x:Ins):Int :=
 if x.op < 1∨75 < x.op then 3
 else if (zbW (yN x.op)).1 < x.arg∨x.arg < (zbW (yN x.op)).2 then 17
 else if yN x.op≠8∧x.t≠ty0 then 17
 else if yN x.op=8∧ZK x.t 1=false then 17
 else 0

/-! images: how long;formed -/
theorem yj {α:Type} {f:α→PV} {l:List α} {k:Nat} (h:k < l.length):(l.map f)[((k:Int)).toNat]?=some (f l[k]):=by simp [h]

def zc3 (n:Int) (f:Int):Bool:=decide (0≤f)&&decide (f < n)
def YV (t:TD) (n:Int):Bool :=
  zaZ t.name&&decide (0≤t.flags)&&decide (t.flags≤31)&&decide (-1≤t.ext)&&decide (t.ext < n)&&decide ((t.faces.length:Int)≤4)&&t.faces.all (zc3 n)
def codeOk (g:Img) (m:Me) (x:Ins):Bool:=XK x==0 &&
  (if yN x.op==5 then decide (x.arg < (m.code.length:Int)) else if yN x.op==6 then decide (x.arg < (g.methods.length:Int))
   else if yN x.op==7 then decide (x.arg < (g.fields.length:Int)) else if yN x.op==8 then zh6 x.t g.types.length else true)
theorem zpj {x:Ins} (h:(XK x != 0)=false):1≤x.op∧x.op≤75:=by
  simp [XK] at h
  by_cases h1:x.op < 1∨75 < x.op
  · simp [h1] at h
  · omega
def zdI (t:Ty):Bool:=(t.kind==0&&(t.index==0&&(t.dims==0&&(t.ref==false&&true))))
def Xl (g:Img) (c:Cl):Bool:=!((c.kind==1&&!WB c.t 1 g.types.length)||(c.kind != 1&&!zdI c.t))
def Vg (g:Img) (m:Me):Bool:=decide ((m.code.length:Int)≤160)&&m.code.all (codeOk g m)&&m.clauses.all (Xl g)&&zdy m.code.length m.clauses
def ZA (g:Img) (m:Me):Bool :=
 zaZ m.name&&decide (0≤m.flags)&&decide (m.flags≤31)&&decide (0≤m.max)&&decide (m.max≤12)&&decide ((m.params.length:Int)≤6)&&decide ((m.locals.length:Int)≤12)&&WB m.ret 3 g.types.length
 && m.params.all (fun t=>WB t 2 g.types.length)&&m.locals.all (fun t=>WB t 2 g.types.length)&&Vg g m
def zcQ (t:TD):Bool:=!decide ((t.faces.length:Int)≤20)||!decide ((t.name.size:Int)≤100)
def zb1 (m:Me):Bool:=!decide ((m.params.length:Int)≤30)||!decide ((m.locals.length:Int)≤30)||!decide ((m.code.length:Int)≤200)||!decide ((m.clauses.length:Int)≤20)||!decide ((m.name.size:Int)≤100)
def zal (g:Img):Bool:=!decide ((g.types.length:Int)≤40)||!decide ((g.fields.length:Int)≤80)||!decide ((g.methods.length:Int)≤80)||g.types.any zcQ||g.methods.any zb1
set_option maxHeartbeats 1000000 in
theorem zoU (g:Img):ACall Tryz.prog 17 [zT g] (pb (zal g)):=by
 refine zi zf Tryz.func17 rfl (by kernel_rfl) Tryz.ntmps17 (by simp) _ rfl (fun hw gB hgB=>?_)
 repeat' (first|refine sA ?_|refine sC (fun _=>?_) (fun _=>?_)|fail)
 all_goals first|(refine retq rfl ?_;first|(simp only [zy,zal,BL,List.length_map] at *;simp only [*,BL,List.length_map];done)|(simp_all [zy,zal];done)|(simp_all [zy,zal];omega)|(simp_all [zy,zal];intros;omega))|(refine VX rfl ?_;first|(simp only [zy,zal,BL,List.length_map] at *;simp only [*,BL,List.length_map];done)|(simp_all [zy,zal];done)|(simp_all [zy,zal];omega)|(simp_all [zy,zal];intros;omega))|skip
 refine zW (fun k:Nat=>[(1,.pv (.ptr (zT g) 0)),(3,.pv (pi k))]) (fun _=>[]) (fun k=>k≤g.types.length∧zal g=((g.types.drop k).any zcQ||g.methods.any zb1)) (fun k=>g.types.length - k) 0 ⟨by simp,by simp_all [zal]⟩ (tS) tH ?_
 have ht:g.types.length≤40:=by simp_all;omega
 have hm:g.methods.length≤80:=by simp_all;omega
 rintro k ⟨hk,hr⟩
 by_cases hlt:k < g.types.length
 ·have he:=yj (f:=Zl) hlt
  rw [zb3 hlt] at hr
  repeat' (first|(refine shX ?_;first|refine qX he ?_)|refine sK ?_|refine sC (fun _=>?_) (fun _=>?_)|fail)
  all_goals first|(refine retq rfl ?_;first|(simp only [zy,zcQ,BL,List.length_map] at *;simp only [*,BL,List.length_map];done)|(simp_all [zy,zcQ];done)|(simp_all [zy,zcQ];omega)|(simp_all [zy,zcQ];intros;omega))|(refine ⟨k + 1,⟨by omega,?_⟩,tD,tS,tH⟩;first|(simp only [zcQ,BL,List.length_map] at *;simp only [*,BL,List.length_map];done)|(simp_all [zcQ];done)|(simp_all [zcQ];omega)|(simp_all [zcQ];intros;omega))|(trace "LEND";trace_state)
 ·rw [drop_end (by omega)] at hr
  repeat' (first|refine sK ?_|refine sC (fun _=>?_) (fun _=>?_)|fail)
  refine zW (fun k:Nat=>[(1,.pv (.ptr (zT g) 0)),(4,.pv (pi k))]) (fun _=>[]) (fun k=>k≤g.methods.length∧zal g=(g.methods.drop k).any zb1) (fun k=>g.methods.length - k) 0 ⟨by simp,by simp_all⟩ (tS) tH ?_
  clear hk hr hlt
  rintro k ⟨hk,hr⟩
  by_cases hlt:k < g.methods.length
  ·have he:=yj (f:=yB) hlt
   rw [zb3 hlt] at hr
   repeat' (first|(refine shX ?_;first|refine qX he ?_)|refine sK ?_|refine sC (fun _=>?_) (fun _=>?_)|fail)
   all_goals first|(refine retq rfl ?_;first|(simp only [zy,zb1,BL,List.length_map] at *;simp only [*,BL,List.length_map];done)|(simp_all [zy,zb1];done)|(simp_all [zy,zb1];omega)|(simp_all [zy,zb1];intros;omega))|(refine ⟨k + 1,⟨by omega,?_⟩,tD,tS,tH⟩;first|(simp only [zb1,BL,List.length_map] at *;simp only [*,BL,List.length_map];done)|(simp_all [zb1];done)|(simp_all [zb1];omega)|(simp_all [zb1];intros;omega))|(trace "LEND";trace_state)
  ·rw [drop_end (by omega)] at hr
   repeat' (first|refine sK ?_|refine sC (fun _=>?_) (fun _=>?_)|fail)
   all_goals first|(refine retq rfl ?_;first|(simp only [zy,BL,List.length_map] at *;simp only [*,BL,List.length_map];done)|(simp_all [zy];done)|(simp_all [zy];omega)|(simp_all [zy];intros;omega))|(refine VX rfl ?_;first|(simp only [zy,BL,List.length_map] at *;simp only [*,BL,List.length_map];done)|(simp_all [zy];done)|(simp_all [zy];omega)|(simp_all [zy];intros;omega))|skip
def zhr (g:Img) (i:Nat):Bool :=
 let f:=g.fields.getD i default
 zaZ f.name&&decide (0≤f.owner)&&decide (f.owner < g.types.length)&&(i==0||decide ((g.fields.getD (i - 1) default).owner≤f.owner))&&WB f.ty 1 g.types.length
def zgh (g:Img) (i:Nat):Bool :=
 let m:=g.methods.getD i default
 decide (0≤m.owner)&&decide (m.owner < g.types.length)&&(i==0||decide ((g.methods.getD (i - 1) default).owner≤m.owner))&&ZA g m
def yJ (g:Img):Bool :=
 decide ((g.types.length:Int)≤32)&&decide ((g.fields.length:Int)≤64)&&decide ((g.methods.length:Int)≤64)&&decide (-1≤g.entry)&&decide (g.entry < g.methods.length)
 && g.types.all (fun t=>YV t g.types.length)&&(List.range g.fields.length).all (zhr g)&&(List.range g.methods.length).all (zgh g)
theorem Qm {p:Nat→Bool} {n k:Nat} (h:k < n):((List.range n).drop k).all p=(p k&&((List.range n).drop (k + 1)).all p):=by
 rw [zhK (by simpa using h)];simp
theorem zg7 {p:Nat→Bool} {n k:Nat} (h:k < n):((List.range n).drop k).any p=(p k||((List.range n).drop (k + 1)).any p):=by
 rw [zb3 (by simpa using h)];simp
theorem zQ {α:Type} {d:α} {l:List α} {k:Nat} (h:k < l.length):l.getD k d=l[k]:=by rw [List.getD_eq_getElem?_getD,List.getElem?_eq_getElem h];rfl
theorem znm {g:Img} (h:(zT g).lenOk):g.types.length≤9223372036854775807∧g.fields.length≤9223372036854775807∧g.methods.length≤9223372036854775807:=by
 simp only [zT,PV.lenOk,lensOk,maxLen,List.length_map] at h
 exact ⟨h.1.1,h.2.1.1,h.2.2.1.1⟩
theorem zqU {g:Img} {k:Nat} (h:k < g.fields.length):zhr g k=(zaZ g.fields[k].name&&decide (0≤g.fields[k].owner)&&decide (g.fields[k].owner < g.types.length)&&(k==0||decide ((g.fields.getD (k - 1) default).owner≤g.fields[k].owner))&&WB g.fields[k].ty 1 g.types.length):=by
 rw [zhr,zQ h]
def zaU (g:Img):Nat→Int→List Int→List Int
 | 0,_,out=>out
 | n + 1,t,out=>match typeAt g t with
  | some td=>if t∈out then out else zaU g n td.ext (out++[t])
  | none=>out
def up (g:Img) (t:Int):List Int:=zaU g (g.types.length + 1) t []
def UpInv (g:Img) (t0:Int) (x:Int × List Int):Prop:=zaU g (g.types.length + 1 - x.2.length) x.1 x.2=up g t0∧x.2.Nodup∧∀ y∈x.2,0≤y∧y < g.types.length
theorem XI {g:Img} {t:Int} {td:TD} (h:typeAt g t=some td):0≤t∧t < g.types.length:=by
 unfold typeAt at h
 split at h
 ·have:=(List.getElem?_eq_some_iff.1 h).1;omega
 ·cases h
theorem UpInv.len {g:Img} {t0:Int} {x:Int × List Int} (h:UpInv g t0 x):x.2.length≤g.types.length:=Ya _ _ h.2.1 h.2.2
theorem UpInv.next {g:Img} {t0:Int} {t:Int} {out:List Int} {td:TD} (h:UpInv g t0 (t,out)) (ht:typeAt g t=some td) (hn:t∉out):UpInv g t0 (td.ext,out++[t]):=by
 have hl:=h.len
 obtain ⟨h1,h2,h3⟩:=h
 simp only at h1 h2 h3 hl
 rw [show g.types.length + 1 - out.length=(g.types.length + 1 - (out++[t]).length) + 1 by simp;omega,zaU,ht] at h1
 simp only [hn,if_false] at h1
 refine ⟨h1,?_,?_⟩
 ·rw [List.nodup_append];simp [h2];intro a ha e;subst e;exact hn ha
 ·intro y hy
  simp only [List.mem_append,List.mem_singleton] at hy
  rcases hy with hy|rfl
  ·exact h3 y hy
  ·exact XI ht
theorem UpInv.stop {g:Img} {t0:Int} {t:Int} {out:List Int} (h:UpInv g t0 (t,out)) (hs:typeAt g t=none∨t∈out):out=up g t0:=by
 have hl:=h.len
 obtain ⟨h1,h2,h3⟩:=h
 simp only at h1 h2 h3 hl
 rw [show g.types.length + 1 - out.length=(g.types.length - out.length) + 1 by omega,zaU] at h1
 cases ht:typeAt g t with
 | none=>rw [ht] at h1;exact h1
 | some td =>
  rcases hs with hs|hs
  ·rw [ht] at hs;cases hs
  ·rw [ht] at h1;simpa [hs] using h1
theorem zkb {g:Img}:∀ (n:Nat) (t:Int) (out:List Int),out.Nodup→(∀ y∈out,0≤y∧y < g.types.length)→(zaU g n t out).Nodup∧∀ y∈zaU g n t out,0≤y∧y < g.types.length
 | 0,t,out,h1,h2=>⟨h1,h2⟩
 | n + 1,t,out,h1,h2=>by
  rw [zaU]
  cases ht:typeAt g t with
  | none=>exact ⟨h1,h2⟩
  | some td =>
   by_cases hm:t∈out
   ·simp only [hm,if_true];exact ⟨h1,h2⟩
   ·simp only [hm,if_false]
    refine zkb n td.ext (out++[t]) ?_ ?_
    ·rw [List.nodup_append];simp [h1];intro a ha e;subst e;exact hm ha
    ·intro y hy
     simp only [List.mem_append,List.mem_singleton] at hy
     rcases hy with hy|rfl
     ·exact h2 y hy
     ·exact XI ht
theorem zb9 (g:Img) (t:Int):(up g t).Nodup∧∀ y∈up g t,0≤y∧y < g.types.length:=zkb _ t [] (by simp) (by simp)
theorem Vb {g:Img} {t:Int} (h:0≤t∧t < g.types.length):∃ td,typeAt g t=some td :=
 ⟨_,by rw [typeAt,if_pos h.1];exact List.getElem?_eq_getElem (by omega)⟩
def yT (g:Img) (u:Int):List Int:=match typeAt g u with|some td=>td.faces|none=>[]
def zmg (g:Img) (met:List Int) (f:Int):List Int:=if there g f=true∧f∉met then met++[f] else met
def MInv (g:Img) (met:List Int):Prop:=met.Nodup∧∀ y∈met,0≤y∧y < g.types.length
theorem MInv.len {g:Img} {met:List Int} (h:MInv g met):met.length≤g.types.length:=Ya _ _ h.1 h.2
theorem zrq {g:Img} {t:Int} (h:there g t=true):0≤t∧t < g.types.length:=by
 obtain ⟨td,h⟩:=(Xe g t).1 h;exact XI h
theorem MInv.add {g:Img} {met:List Int} (h:MInv g met) (f:Int):MInv g (zmg g met f):=by
 unfold zmg
 split
 ·rename_i hc
  refine ⟨?_,?_⟩
  ·rw [List.nodup_append];simp [h.1];intro a ha e;subst e;exact hc.2 ha
  ·intro y hy
   simp only [List.mem_append,List.mem_singleton] at hy
   rcases hy with hy|rfl
   ·exact h.2 y hy
   ·exact zrq hc.1
 ·exact h
theorem MInv.fold {g:Img}:∀ (l:List Int) {met:List Int},MInv g met→MInv g (l.foldl (zmg g) met)
 | [],_,h=>h
 | f::l,_,h=>MInv.fold l (h.add f)
def zd8 (g:Img) (met:List Int) (u:Int):List Int:=(yT g u).foldl (zmg g) met
theorem MInv.step {g:Img} {met:List Int} (h:MInv g met) (u:Int):MInv g (zd8 g met u):=MInv.fold _ h
def ztC (g:Img) (t:Int):List Int:=(up g t).foldl (zd8 g) []
def znQ (g:Img):Nat→Nat→List Int→List Int
 | 0,_,met=>met
 | n + 1,i,met=>match met[i]? with|some u=>znQ g n (i + 1) (zd8 g met u)|none=>met
def zs7 (g:Img) (t:Int):List Int:=znQ g (g.types.length + 1) 0 (ztC g t)
def nums (n:Nat):List Int:=(List.range n).map fun i:Nat=>(i:Int)
def za6 (g:Img) (t:Int):List Int:=(nums g.types.length).filter fun f=>decide (f∈zs7 g t)
theorem zdd {α β:Type} {f:β→α→β} {l:List α} {k:Nat} {b:β} (h:k < l.length):(l.drop k).foldl f b=(l.drop (k + 1)).foldl f (f b l[k]):=by rw [drop_cons h];rfl
end Go.Cg
