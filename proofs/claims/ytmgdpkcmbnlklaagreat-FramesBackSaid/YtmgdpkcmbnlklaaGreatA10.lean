/- A part of the walks by abstract values: no statement of its own. -/
import Derived.Test.YtmgdpkcmbnlklaaGreatA6
import Derived.Test.YtmgdpkcmbnlklaaGreatA4
set_option linter.unusedVariables false
set_option linter.unusedSimpArgs false
namespace Go.Cg
open Go.Proofs
def object (t:Ty):Bool:=!t.ref&&(decide (0 < t.dims)||t.kind==4||t.kind==5||t.kind==7||t.kind==8)
def there (g:Img) (t:Int):Bool:=decide (0≤t)&&decide (t < g.types.length)
set_option maxHeartbeats 1000000 in
theorem Zh (g:Img) (t:Int):ACall Tryz.prog 49 [zO g,pi t] (pb (there g t)):=by
 refine zf zk Tryz.func49 rfl (by kernel_rfl) Tryz.ntmps49 (by simp) _ rfl (fun hw gB hgB=>?_)
 repeat' (first|refine sA ?_|refine sC (fun _=>?_) (fun _=>?_)|fail)
 all_goals (first|refine retq rfl ?_|refine retn rfl ?_)
 all_goals (first|(simp_all [zl,there];done)|(simp_all [zl,there];omega))
def bit (f k:Int):Bool:=f.tdiv k % 2==1
def plain (t:Ty) (k:Int):Bool:=t.kind==k&&t.dims==0&&!t.ref
set_option maxHeartbeats 20000000
theorem zew {l:List Int} (h:(ints l).lenOk):l.length≤9223372036854775807:=by
 simp [ints,PV.lenOk,maxLen] at h;exact h.1
theorem ZR {l:List Int} {k:Nat} (h:k < l.length):(l.map pi)[k]?=some (pi l[k]):=by simp [h]
theorem zjr {l:List Ty} {k:Nat} (h:k < l.length):(l.map yZ)[k]?=some (yZ l[k]):=by simp [h]
theorem zeU {α:Type} [DecidableEq α] {l:List α} {k:Nat} {n:α} (h:k < l.length) (hno:n∉l.take k) (hne:¬ l[k]=n):n∉l.take (k + 1):=by
 rw [List.take_succ_eq_append_getElem h]
 simp only [List.mem_append,List.mem_singleton,not_or]
 exact ⟨hno,fun e=>hne e.symm⟩
def idx (l:List Int) (v:Int):Int:=if v∈l then (l.findIdx (· == v):Nat) else -1
theorem ziy (l:List Int) (n:Int):ACall Tryz.prog 86 [ints l,pi n] (pi (idx l n)):=by
 refine zf zk Tryz.func86 rfl (by kernel_rfl) Tryz.ntmps86 (by simp) _ rfl (fun hw gB hgB=>?_)
 have hl:=zew hw.1
 repeat' (first|refine sA ?_|refine sC (fun _=>?_) (fun _=>?_)|fail)
 refine zI (fun k:Nat=>[(0,.pv (ints l)),(1,.pv (pi n)),(7,.pv (pi l.length)),(8,.pv (pi k))]) (fun _=>[]) (fun k=>k≤l.length∧n∉l.take k) (fun k=>l.length - k) 0 ⟨by simp,by simp⟩ (by repeat (first|exact qO|refine qE rfl ?_|(refine Xl rfl ?_ ?_;· simp))) tH ?_
 rintro k ⟨hk,hno⟩
 by_cases hlt:k < l.length
 ·have he:=ZR hlt
  repeat' (first|(refine shX ?_;first|refine qX he ?_)|refine sK ?_|refine sC (fun _=>?_) (fun _=>?_)|fail)
  ·rename_i h
   refine retq rfl ?_
   simp at h
   have hm:n∈l:=by have:=List.getElem_mem hlt;rwa [←h] at this
   have hi:l.findIdx (· == n)=k:=by
    rw [List.findIdx_eq hlt]
    refine ⟨by simp [h],fun j hj=>?_⟩
    simp only [beq_eq_false_iff_ne]
    intro e
    refine hno ?_
    rw [←e,List.mem_take_iff_getElem]
    exact ⟨j,by omega,rfl⟩
   simp [zl,idx,hm,hi]
  ·rename_i h
   simp at h
   exact ⟨k + 1,⟨by omega,zeU hlt hno (fun e=>h e.symm)⟩,tD,tS,tH⟩
 ·repeat' (first|refine sK ?_|refine sC (fun _=>?_) (fun _=>?_)|fail)
  refine retq rfl ?_
  have:n∉l:=by rw [List.take_of_length_le (by omega)] at hno;exact hno
  simp [zl,idx,this]
theorem ZO (l:List Int) (n:Int):ACall Tryz.prog 69 [ints l,pi n] (pb (decide (n∈l))):=by
 refine zf zk Tryz.func69 rfl (by kernel_rfl) Tryz.ntmps69 (by simp) _ rfl (fun hw gB hgB=>?_)
 repeat' (first|(refine shC ?_;first|refine qC (ziy _ _) ?_)|refine sA ?_|refine sC (fun _=>?_) (fun _=>?_)|fail)
 refine retq rfl ?_
 by_cases h:n∈l <;> simp [zl,idx,h]
theorem zlF {l:List Ty} (h:(tys l).lenOk):l.length≤9223372036854775807:=by
 simp [tys,PV.lenOk,maxLen] at h;exact h.1
theorem zfP {α:Type} {a b:List α} {k:Nat} (ha:k < a.length) (hb:k < b.length) (h:a.take k=b.take k) (e:a[k]=b[k]):a.take (k + 1)=b.take (k + 1):=by
 rw [List.take_succ_eq_append_getElem ha,List.take_succ_eq_append_getElem hb,h,e]
def Yy (t:Ty):Bool :=
 if decide (t.dims < 0)||decide (3 < t.dims)||decide (t.index < 0) then false
 else if t.kind==1 then t.dims==0&&!t.ref&&t.index==0
 else if t.kind==2||t.kind==3||t.kind==4 then t.index==0
 else if t.kind==5||t.kind==6 then decide (t.index < 32)
 else if t.kind==7 then decide (t.index≤7)
 else false
def Zw (t:Ty) (place:Int):Bool :=
 if !Yy t then false
 else if place==1 then t.kind != 1&&!t.ref
 else if place==2 then t.kind != 1
 else if place==3 then !t.ref
 else true
def zjP (t:Ty) (n:Int):Bool:=(t.kind != 5&&t.kind != 6)||decide (t.index < n)
def Qv (t:Ty) (p n:Int):Bool:=Zw t p&&zjP t n
def bounds (c:Cl) (part:Int):Int × Int :=
 if part==1 then (c.tf,c.tt) else if part==2 then (c.hf,c.ht) else if c.kind==2 then (c.filter,c.hf) else (0,0)
def meet (a:Cl) (p:Int) (b:Cl) (q:Int):Bool :=
 decide ((bounds a p).1 < (bounds b q).2)&&decide ((bounds b q).1 < (bounds a p).2)&&decide ((bounds a p).1 < (bounds a p).2)&&decide ((bounds b q).1 < (bounds b q).2)
def within (a:Cl) (p:Int) (b:Cl) (q:Int):Bool :=
 if (bounds a p).1==0&&(bounds a p).2==0 then true
 else decide ((bounds b q).1≤(bounds a p).1)&&decide ((bounds a p).2≤(bounds b q).2)&&(decide ((bounds b q).1 < (bounds a p).1)||decide ((bounds a p).2 < (bounds b q).2))
def zdA (n:Int) (c:Cl):Bool:=decide (0≤c.tf)&&decide (c.tf < c.tt)&&decide (c.tt≤n)
def zef (n:Int) (c:Cl):Bool:=decide (0≤c.hf)&&decide (c.hf < c.ht)&&decide (c.ht≤n)
def WI (n:Int) (c:Cl):Int :=
 if decide (c.kind < 1)||decide (4 < c.kind)||!zdA n c||!zef n c then 3
 else if c.kind==2&&(decide (c.filter < 0)||decide (c.hf≤c.filter))||c.kind != 2&&c.filter != -1 then 3
 else if meet c 1 c 2||meet c 1 c 3||meet c 2 c 3 then 12
 else 0
def zcn (a b:Cl) (q:Int):Bool:=decide ((bounds b q).1 < (bounds b q).2)&&within a 1 b q&&within a 2 b q&&within a 3 b q
def zkC (a b:Cl) (q:Int):Bool:=q==1||!(a.hf==(bounds b q).1||a.kind==2&&a.filter==(bounds b q).1)
def badM (a b:Cl) (p q:Int):Bool:=meet a p b q&&!((a.tf==b.tf&&a.tt==b.tt)&&p==1&&q==1)
def zb5 (a b:Cl):Bool :=
 if zcn a b 1 then zkC a b 1 else if zcn a b 2 then zkC a b 2 else if zcn a b 3 then zkC a b 3
 else !(badM a b 1 1||badM a b 1 2||badM a b 1 3||badM a b 2 1||badM a b 2 2||badM a b 2 3||badM a b 3 1||badM a b 3 2||badM a b 3 3)
def cls (l:List Cl):PV:=.slc 10 (l.map QY) false
theorem zl1 {l:List Cl} (h:(cls l).lenOk):l.length≤9223372036854775807:=by
 simp [cls,PV.lenOk,maxLen] at h;exact h.1
theorem zlB {l:List Cl} {k:Nat} (h:k < l.length):(l.map QY)[k]?=some (QY (l.getD k default)):=by simp [h]
def Xf (l:List Cl) (i m:Nat):Bool:=(List.range m).any fun k=>!zb5 (l.getD k default) (l.getD i default)
theorem zfz (l:List Cl) (i m:Nat):Xf l i (m + 1)=(Xf l i m||!zb5 (l.getD m default) (l.getD i default)):=by simp [Xf,List.range_succ]
def YW (n:Int) (l:List Cl) (i:Nat):Int :=
 if WI n (l.getD i default) != 0 then WI n (l.getD i default) else if Xf l i i then 12 else 0
def Ql (n:Int) (l:List Cl):Int × Int :=
 if 6 < l.length then (0,4) else match (List.range l.length).find? (fun i=>YW n l i != 0) with
  | some i=>(((i:Nat):Int),YW n l i)
  | none=>(0,0)
theorem zet {n:Int} {l:List Cl} {k:Nat} (h6:¬ 6 < l.length) (hk:k < l.length) (hno:∀ j,j < k→YW n l j=0) (h:YW n l k≠0):Ql n l=(((k:Nat):Int),YW n l k):=by
 have:(List.range l.length).find? (fun i=>YW n l i != 0)=some k:=by
  rw [List.find?_range_eq_some]
  exact ⟨by simpa using h,by simpa using hk,fun j hj=>by simp [hno j hj]⟩
 simp [Ql,h6,this]
theorem zid {n:Int} {l:List Cl} (h6:¬ 6 < l.length) (hno:∀ j,j < l.length→YW n l j=0):Ql n l=(0,0):=by
 have:(List.range l.length).find? (fun i=>YW n l i != 0)=none:=by
  rw [List.find?_eq_none]
  intro j hj
  simp [hno j (List.mem_range.1 hj)]
 simp [Ql,h6,this]
def zjq (n:Int) (l:List Cl):Bool:=(Ql n l).2==0
set_option maxHeartbeats 20000000
def Yq (f k:Int):Bool:=(IntKind.i64.wrap (f.tdiv k)).tmod 2==1
def zco (f:Int):Int:=if Yq f 2 then 2 else if Yq f 1 then 1 else if Yq f 16 then 3 else 0
def typeAt (g:Img) (t:Int):Option TD:=if 0≤t then g.types[t.toNat]? else none
theorem Yg (g:Img) (t:Int):there g t=true↔∃ td,typeAt g t=some td:=by
 simp only [there,typeAt,Bool.and_eq_true,decide_eq_true_eq]
 constructor
 ·rintro ⟨h1,h2⟩
  rw [if_pos h1]
  exact ⟨_,List.getElem?_eq_getElem (by omega)⟩
 ·rintro ⟨td,h⟩
  split at h
  ·rename_i h0
   have:=(List.getElem?_eq_some_iff.1 h).1
   omega
  ·cases h
theorem Zk {g:Img} {t:Int} {td:TD} (h:typeAt g t=some td):0≤t∧(g.types.map ZE)[t.toNat]?=some (ZE td):=by
 unfold typeAt at h
 split at h
 ·rename_i h0;exact ⟨h0,by simp [h]⟩
 ·cases h
def zY (g:Img) (t:Int):Int:=match typeAt g t with|some td=>zco td.flags|none => -1
def Qe (f k:Int):Bool:=IntKind.i64.wrap ((BitVec.ofInt IntKind.i64.bits f &&& BitVec.ofInt IntKind.i64.bits k).toNat:Int) != 0
def zcr (f:Int):Int:=if Qe f 2 then 2 else if Qe f 1 then 1 else if Qe f 16 then 3 else 0
def zaR (g:Img) (t:Int):Int:=match typeAt g t with|some td=>zcr td.flags|none => -1
theorem zbI (td:TD):ACall Tryz.prog 50 [ZE td] (pi (zcr td.flags)):=by
 refine zf zk Tryz.func50 rfl (by kernel_rfl) Tryz.ntmps50 (by simp) _ rfl (fun hw gB hgB=>?_)
 repeat' (first|refine sA ?_|refine sC (fun _=>?_) (fun _=>?_)|fail)
 all_goals (refine retq rfl ?_)
 all_goals (simp_all [zcr,Qe,zl])
theorem zdi (g:Img) (t:Int):ACall Tryz.prog 39 [zO g,pi t] (pi (zaR g t)):=by
 refine zf zk Tryz.func39 rfl (by kernel_rfl) Tryz.ntmps39 (by simp) _ rfl (fun hw gB hgB=>?_)
 by_cases h:there g t=true
 ·have c1:ACall Tryz.prog 49 [zO g,pi t] (pb true):=by rw [←h];exact Zh g t
  obtain ⟨td,htd⟩:=(Yg g t).1 h
  obtain ⟨h0,he⟩:=Zk htd
  repeat' (first|(refine shC ?_;first|refine qC c1 ?_|refine qC (zbI td) ?_)|(refine shX ?_;first|refine zy rfl (zL zk rfl rfl rfl rfl rfl rfl h0 he) rfl rfl ?_|refine AD.step _ _ _ _ _ rfl (zL zk rfl rfl rfl rfl rfl rfl h0 he) rfl rfl ?_)|refine sA ?_|refine sC (fun _=>?_) (fun _=>?_)|fail)
  exact retq rfl (by simp [zl,zaR,htd])
 ·have c1:ACall Tryz.prog 49 [zO g,pi t] (pb false):=by rw [←Bool.eq_false_iff.2 h];exact Zh g t
  have hn:typeAt g t=none:=by
   cases e:typeAt g t with
   | none=>rfl
   | some td=>exact (h ((Yg g t).2 ⟨td,e⟩)).elim
  repeat' (first|(refine shC ?_;first|refine qC c1 ?_)|refine sA ?_|refine sC (fun _=>?_) (fun _=>?_)|fail)
  exact retq rfl (by simp [zl,zaR,hn])
end Go.Cg
