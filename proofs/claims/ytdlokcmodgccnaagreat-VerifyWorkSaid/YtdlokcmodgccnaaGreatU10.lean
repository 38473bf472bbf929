/- A part of the walks by abstract values: no statement of its own. -/
import Derived.Test.YtdlokcmodgccnaaGreatU6
import Derived.Test.YtdlokcmodgccnaaGreatU5
set_option linter.unusedVariables false
set_option linter.unusedSimpArgs false
namespace Go.Cg
open Go.Proofs
set_option maxHeartbeats 20000000
def object (t:Ty):Bool:=!t.ref&&(decide (0 < t.dims)||t.kind==4||t.kind==5||t.kind==7||t.kind==8)
theorem qN (t:Ty):ACall Tryz.prog 201 [yM t] (pb (object t)):=by
 refine zi zf Tryz.func201 rfl (by kernel_rfl) Tryz.ntmps201 (by simp) _ rfl (fun hw gB hgB=>?_)
 repeat' (first|refine sA ?_|refine sC (fun _=>?_) (fun _=>?_)|fail)
 all_goals (first|refine retq rfl ?_|refine VX rfl ?_)
 all_goals (first|(simp_all [zy,object];done)|(simp_all [zy,object];omega))
def there (g:Img) (t:Int):Bool:=decide (0≤t)&&decide (t < g.types.length)
theorem zsP (g:Img) (t:Int):ACall Tryz.prog 105 [zT g,pi t] (pb (there g t)):=by
 refine zi zf Tryz.func105 rfl (by kernel_rfl) Tryz.ntmps105 (by simp) _ rfl (fun hw gB hgB=>?_)
 repeat' (first|refine sA ?_|refine sC (fun _=>?_) (fun _=>?_)|fail)
 all_goals (first|refine retq rfl ?_|refine VX rfl ?_)
 all_goals (first|(simp_all [zy,there];done)|(simp_all [zy,there];omega))
theorem YS (g:Img) (t:Int):ACall Tryz.prog 88 [zT g,pi t] (pb (there g t)):=by
 refine zi zf Tryz.func88 rfl (by kernel_rfl) Tryz.ntmps88 (by simp) _ rfl (fun hw gB hgB=>?_)
 repeat' (first|refine sA ?_|refine sC (fun _=>?_) (fun _=>?_)|fail)
 all_goals (first|refine retq rfl ?_|refine VX rfl ?_)
 all_goals (first|(simp_all [zy,there];done)|(simp_all [zy,there];omega))
def plain (t:Ty) (k:Int):Bool:=t.kind==k&&t.dims==0&&!t.ref
theorem Qh (t:Ty) (k:Int):ACall Tryz.prog 211 [yM t,pi k] (pb (plain t k)):=by
 refine zi zf Tryz.func211 rfl (by kernel_rfl) Tryz.ntmps211 (by simp) _ rfl (fun hw gB hgB=>?_)
 repeat' (first|refine sA ?_|refine sC (fun _=>?_) (fun _=>?_)|fail)
 all_goals (first|refine retq rfl ?_|refine VX rfl ?_)
 all_goals (first|(simp_all [zy,plain];done)|(simp_all [zy,plain];omega))
theorem zgs:ACall Tryz.prog 213 [] (yM ⟨7,0,0,false⟩):=by
 refine zi zf Tryz.func213 rfl (by kernel_rfl) Tryz.ntmps213 (by simp) _ rfl (fun hw gB hgB=>?_)
 repeat' (first|refine sA ?_|refine sC (fun _=>?_) (fun _=>?_)|fail)
 exact retq rfl rfl
theorem zfd:ACall Tryz.prog 215 [] (yM ⟨4,0,0,false⟩):=by
 refine zi zf Tryz.func215 rfl (by kernel_rfl) Tryz.ntmps215 (by simp) _ rfl (fun hw gB hgB=>?_)
 repeat' (first|refine sA ?_|refine sC (fun _=>?_) (fun _=>?_)|fail)
 exact retq rfl rfl
set_option maxHeartbeats 20000000
theorem zdC {l:List Int} (h:(ints l).lenOk):l.length≤9223372036854775807:=by
 simp [ints,PV.lenOk,maxLen] at h;exact h.1
theorem YD {l:List Int} {k:Nat} (h:k < l.length):(l.map pi)[k]?=some (pi l[k]):=by simp [h]
theorem zak {l:List Ty} {k:Nat} (h:k < l.length):(l.map yM)[k]?=some (yM l[k]):=by simp [h]
theorem zcN {α:Type} [DecidableEq α] {l:List α} {k:Nat} {n:α} (h:k < l.length) (hno:n∉l.take k) (hne:¬ l[k]=n):n∉l.take (k + 1):=by
 rw [List.take_succ_eq_append_getElem h]
 simp only [List.mem_append,List.mem_singleton,not_or]
 exact ⟨hno,fun e=>hne e.symm⟩
theorem ztS (l:List Int) (n:Int):ACall Tryz.prog 148 [ints l,pi n] (pb (decide (n∈l))):=by
 refine zi zf Tryz.func148 rfl (by kernel_rfl) Tryz.ntmps148 (by simp) _ rfl (fun hw gB hgB=>?_)
 have hl:=zdC hw.1
 repeat' (first|refine sA ?_|refine sC (fun _=>?_) (fun _=>?_)|fail)
 refine zW (fun k:Nat=>[(0,.pv (ints l)),(1,.pv (pi n)),(5,.pv (pi k))]) (fun _=>[]) (fun k=>k≤l.length∧n∉l.take k) (fun k=>l.length - k) 0 ⟨by simp,by simp⟩ (tS) tH ?_
 rintro k ⟨hk,hno⟩
 by_cases hlt:k < l.length
 ·have he:=YD hlt
  repeat' (first|(refine shX ?_;first|refine qX he ?_)|refine sK ?_|refine sC (fun _=>?_) (fun _=>?_)|fail)
  ·rename_i h
   refine retq rfl ?_
   have:n∈l:=by have:=List.getElem_mem hlt;simp at h;rwa [h] at this
   simp [zy,this]
  ·rename_i h
   simp at h
   exact ⟨k + 1,⟨by omega,zcN hlt hno h⟩,tD,tS,tH⟩
 ·repeat' (first|refine sK ?_|refine sC (fun _=>?_) (fun _=>?_)|fail)
  refine retq rfl ?_
  have:n∉l:=by rw [List.take_of_length_le (by omega)] at hno;exact hno
  simp [zy,this]
def idx (l:List Int) (v:Int):Int:=if v∈l then (l.findIdx (· == v):Nat) else -1
theorem zgi (l:List Int) (n:Int):ACall Tryz.prog 225 [ints l,pi n] (pi (idx l n)):=by
 refine zi zf Tryz.func225 rfl (by kernel_rfl) Tryz.ntmps225 (by simp) _ rfl (fun hw gB hgB=>?_)
 have hl:=zdC hw.1
 repeat' (first|refine sA ?_|refine sC (fun _=>?_) (fun _=>?_)|fail)
 refine zW (fun k:Nat=>[(0,.pv (ints l)),(1,.pv (pi n)),(7,.pv (pi l.length)),(8,.pv (pi k))]) (fun _=>[]) (fun k=>k≤l.length∧n∉l.take k) (fun k=>l.length - k) 0 ⟨by simp,by simp⟩ (by repeat (first|exact yZ|refine yS rfl ?_|(refine Zn rfl ?_ ?_;· simp))) tH ?_
 rintro k ⟨hk,hno⟩
 by_cases hlt:k < l.length
 ·have he:=YD hlt
  repeat' (first|(refine shX ?_;first|refine qX he ?_)|refine sK ?_|refine sC (fun _=>?_) (fun _=>?_)|fail)
  ·rename_i h
   refine retq rfl ?_
   simp at h
   have hm:n∈l:=by have:=List.getElem_mem hlt;rwa [←h] at this
   have hi:l.findIdx (· == n)=k:=by
    rw [List.findIdx_eq hlt]
    refine ⟨by simp [h],fun j hj=>?_⟩
    simp only [beq_eq_false_iff_ne]
    intro e
    refine hno ?_
    rw [←e,List.mem_take_iff_getElem]
    exact ⟨j,by omega,rfl⟩
   simp [zy,idx,hm,hi]
  ·rename_i h
   simp at h
   exact ⟨k + 1,⟨by omega,zcN hlt hno (fun e=>h e.symm)⟩,tD,tS,tH⟩
 ·repeat' (first|refine sK ?_|refine sC (fun _=>?_) (fun _=>?_)|fail)
  refine retq rfl ?_
  have:n∉l:=by rw [List.take_of_length_le (by omega)] at hno;exact hno
  simp [zy,idx,this]
theorem Yw (l:List Int) (n:Int):ACall Tryz.prog 175 [ints l,pi n] (pb (decide (n∈l))):=by
 refine zi zf Tryz.func175 rfl (by kernel_rfl) Tryz.ntmps175 (by simp) _ rfl (fun hw gB hgB=>?_)
 repeat' (first|(refine shC ?_;first|refine qC (zgi _ _) ?_)|refine sA ?_|refine sC (fun _=>?_) (fun _=>?_)|fail)
 refine retq rfl ?_
 by_cases h:n∈l <;> simp [zy,idx,h]
theorem zbv {l:List Ty} (h:(tys l).lenOk):l.length≤9223372036854775807:=by
 simp [tys,PV.lenOk,maxLen] at h;exact h.1
theorem zdF {α:Type} {a b:List α} {k:Nat} (ha:k < a.length) (hb:k < b.length) (h:a.take k=b.take k) (e:a[k]=b[k]):a.take (k + 1)=b.take (k + 1):=by
 rw [List.take_succ_eq_append_getElem ha,List.take_succ_eq_append_getElem hb,h,e]
set_option maxHeartbeats 1000000 in
theorem zhh (a b:List Ty):ACall Tryz.prog 16 [tys a,tys b] (pb (decide (a=b))):=by
 refine zi zf Tryz.func16 rfl (by kernel_rfl) Tryz.ntmps16 (by simp) _ rfl (fun hw gB hgB=>?_)
 have hl:=zbv hw.1
 by_cases hlen:a.length=b.length
 ·repeat' (first|refine sK ?_|refine sC (fun _=>?_) (fun _=>?_)|fail)
  refine zW (fun k:Nat=>[(0,.pv (tys a)),(1,.pv (tys b)),(5,.pv (pi k))]) (fun _=>[]) (fun k=>k≤a.length∧a.take k=b.take k) (fun k=>a.length - k) 0 ⟨by simp,by simp⟩ (tS) tH ?_
  rintro k ⟨hk,hno⟩
  by_cases hlt:k < a.length
  ·have he:=zak hlt
   have hltb:k < b.length:=by omega
   have he':=zak hltb
   repeat' (first|(refine shX ?_;first|refine qX he ?_|refine qX he' ?_)|refine sK ?_|refine sC (fun _=>?_) (fun _=>?_)|fail)
   ·rename_i h
    refine retq rfl ?_
    have:a≠b:=by
     rintro rfl
     simp at h
    simp [zy,this]
   ·rename_i h
    have e:a[k]=b[k]:=by
     simp only [Bool.not_eq_false'] at h
     rw [Wp] at h
     simpa using h
    exact ⟨k + 1,⟨by omega,zdF hlt hltb hno e⟩,tD,tS,tH⟩
  ·repeat' (first|refine sK ?_|refine sC (fun _=>?_) (fun _=>?_)|fail)
   refine retq rfl ?_
   rw [List.take_of_length_le (by omega),List.take_of_length_le (by omega)] at hno
   simp [zy,hno]
 ·repeat' (first|refine sK ?_|refine sC (fun _=>?_) (fun _=>?_)|fail)
  refine retq rfl ?_
  have:a≠b:=by rintro rfl;exact hlen rfl
  simp [zy,this]
def ZI (t:Ty):Bool :=
 if decide (t.dims < 0)||decide (3 < t.dims)||decide (t.index < 0) then false
 else if t.kind==1 then t.dims==0&&!t.ref&&t.index==0
 else if t.kind==2||t.kind==3||t.kind==4 then t.index==0
 else if t.kind==5||t.kind==6 then decide (t.index < 32)
 else if t.kind==7 then decide (t.index≤7)
 else false
def ZK (t:Ty) (place:Int):Bool :=
 if !ZI t then false
 else if place==1 then t.kind != 1&&!t.ref
 else if place==2 then t.kind != 1
 else if place==3 then !t.ref
 else true
def zh6 (t:Ty) (n:Int):Bool:=(t.kind != 5&&t.kind != 6)||decide (t.index < n)
def WB (t:Ty) (p n:Int):Bool:=ZK t p&&zh6 t n
def bounds (c:Cl) (part:Int):Int × Int :=
 if part==1 then (c.tf,c.tt) else if part==2 then (c.hf,c.ht) else if c.kind==2 then (c.filter,c.hf) else (0,0)
def meet (a:Cl) (p:Int) (b:Cl) (q:Int):Bool :=
 decide ((bounds a p).1 < (bounds b q).2)&&decide ((bounds b q).1 < (bounds a p).2)&&decide ((bounds a p).1 < (bounds a p).2)&&decide ((bounds b q).1 < (bounds b q).2)
def within (a:Cl) (p:Int) (b:Cl) (q:Int):Bool :=
 if (bounds a p).1==0&&(bounds a p).2==0 then true
 else decide ((bounds b q).1≤(bounds a p).1)&&decide ((bounds a p).2≤(bounds b q).2)&&(decide ((bounds b q).1 < (bounds a p).1)||decide ((bounds a p).2 < (bounds b q).2))
def zeg (n:Int) (c:Cl):Bool:=decide (0≤c.tf)&&decide (c.tf < c.tt)&&decide (c.tt≤n)
def zex (n:Int) (c:Cl):Bool:=decide (0≤c.hf)&&decide (c.hf < c.ht)&&decide (c.ht≤n)
def XL (n:Int) (c:Cl):Int :=
 if decide (c.kind < 1)||decide (4 < c.kind)||!zeg n c||!zex n c then 3
 else if c.kind==2&&(decide (c.filter < 0)||decide (c.hf≤c.filter))||c.kind != 2&&c.filter != -1 then 3
 else if meet c 1 c 2||meet c 1 c 3||meet c 2 c 3 then 12
 else 0
def zft (a b:Cl) (q:Int):Bool:=decide ((bounds b q).1 < (bounds b q).2)&&within a 1 b q&&within a 2 b q&&within a 3 b q
def zqS (a b:Cl) (q:Int):Bool:=q==1||!(a.hf==(bounds b q).1||a.kind==2&&a.filter==(bounds b q).1)
def badM (a b:Cl) (p q:Int):Bool:=meet a p b q&&!((a.tf==b.tf&&a.tt==b.tt)&&p==1&&q==1)
def zdm (a b:Cl):Bool :=
 if zft a b 1 then zqS a b 1 else if zft a b 2 then zqS a b 2 else if zft a b 3 then zqS a b 3
 else !(badM a b 1 1||badM a b 1 2||badM a b 1 3||badM a b 2 1||badM a b 2 2||badM a b 2 3||badM a b 3 1||badM a b 3 2||badM a b 3 3)
def cls (l:List Cl):PV:=.slc 10 (l.map ZX) false
theorem znA {l:List Cl} (h:(cls l).lenOk):l.length≤9223372036854775807:=by
 simp [cls,PV.lenOk,maxLen] at h;exact h.1
theorem zcl {l:List Cl} {k:Nat} (h:k < l.length):(l.map ZX)[k]?=some (ZX (l.getD k default)):=by simp [h]
def Vf (l:List Cl) (i m:Nat):Bool:=(List.range m).any fun k=>!zdm (l.getD k default) (l.getD i default)
theorem zjN (l:List Cl) (i m:Nat):Vf l i (m + 1)=(Vf l i m||!zdm (l.getD m default) (l.getD i default)):=by simp [Vf,List.range_succ]
def Xj (n:Int) (l:List Cl) (i:Nat):Int :=
 if XL n (l.getD i default) != 0 then XL n (l.getD i default) else if Vf l i i then 12 else 0
def YM (n:Int) (l:List Cl):Int × Int :=
 if 6 < l.length then (0,4) else match (List.range l.length).find? (fun i=>Xj n l i != 0) with
  | some i=>(((i:Nat):Int),Xj n l i)
  | none=>(0,0)
theorem zg1 {n:Int} {l:List Cl} {k:Nat} (h6:¬ 6 < l.length) (hk:k < l.length) (hno:∀ j,j < k→Xj n l j=0) (h:Xj n l k≠0):YM n l=(((k:Nat):Int),Xj n l k):=by
 have:(List.range l.length).find? (fun i=>Xj n l i != 0)=some k:=by
  rw [List.find?_range_eq_some]
  exact ⟨by simpa using h,by simpa using hk,fun j hj=>by simp [hno j hj]⟩
 simp [YM,h6,this]
theorem zmd {n:Int} {l:List Cl} (h6:¬ 6 < l.length) (hno:∀ j,j < l.length→Xj n l j=0):YM n l=(0,0):=by
 have:(List.range l.length).find? (fun i=>Xj n l i != 0)=none:=by
  rw [List.find?_eq_none]
  intro j hj
  simp [hno j (List.mem_range.1 hj)]
 simp [YM,h6,this]
def zdy (n:Int) (l:List Cl):Bool:=(YM n l).2==0
set_option maxHeartbeats 20000000
def qF (f k:Int):Bool:=(IntKind.i64.wrap (f.tdiv k)).tmod 2==1
def WU (f:Int):Int:=if qF f 2 then 2 else if qF f 1 then 1 else if qF f 16 then 3 else 0
def typeAt (g:Img) (t:Int):Option TD:=if 0≤t then g.types[t.toNat]? else none
theorem Xe (g:Img) (t:Int):there g t=true↔∃ td,typeAt g t=some td:=by
 simp only [there,typeAt,Bool.and_eq_true,decide_eq_true_eq]
 constructor
 ·rintro ⟨h1,h2⟩
  rw [if_pos h1]
  exact ⟨_,List.getElem?_eq_getElem (by omega)⟩
 ·rintro ⟨td,h⟩
  split at h
  ·rename_i h0
   have:=(List.getElem?_eq_some_iff.1 h).1
   omega
  ·cases h
theorem YT {g:Img} {t:Int} {td:TD} (h:typeAt g t=some td):0≤t∧(g.types.map Zl)[t.toNat]?=some (Zl td):=by
 unfold typeAt at h
 split at h
 ·rename_i h0;exact ⟨h0,by simp [h]⟩
 ·cases h
def yt (g:Img) (t:Int):Int:=match typeAt g t with|some td=>WU td.flags|none => -1
def qJ (f k:Int):Bool:=IntKind.i64.wrap ((BitVec.ofInt IntKind.i64.bits f &&& BitVec.ofInt IntKind.i64.bits k).toNat:Int) != 0
def zfz (f:Int):Int:=if qJ f 2 then 2 else if qJ f 1 then 1 else if qJ f 16 then 3 else 0
def ZY (g:Img) (t:Int):Int:=match typeAt g t with|some td=>zfz td.flags|none => -1
theorem zeK (td:TD):ACall Tryz.prog 89 [Zl td] (pi (zfz td.flags)):=by
 refine zi zf Tryz.func89 rfl (by kernel_rfl) Tryz.ntmps89 (by simp) _ rfl (fun hw gB hgB=>?_)
 repeat' (first|refine sA ?_|refine sC (fun _=>?_) (fun _=>?_)|fail)
 all_goals (refine retq rfl ?_)
 all_goals (simp_all [zfz,qJ,zy])
theorem YR (g:Img) (t:Int):ACall Tryz.prog 46 [zT g,pi t] (pi (ZY g t)):=by
 refine zi zf Tryz.func46 rfl (by kernel_rfl) Tryz.ntmps46 (by simp) _ rfl (fun hw gB hgB=>?_)
 by_cases h:there g t=true
 ·have c1:ACall Tryz.prog 88 [zT g,pi t] (pb true):=by rw [←h];exact YS g t
  obtain ⟨td,htd⟩:=(Xe g t).1 h
  obtain ⟨h0,he⟩:=YT htd
  repeat' (first|(refine shC ?_;first|refine qC c1 ?_|refine qC (zeK td) ?_)|(refine shX ?_;first|refine zx rfl (zq zf rfl rfl rfl rfl rfl rfl h0 he) rfl rfl ?_|refine AD.step _ _ _ _ _ rfl (zq zf rfl rfl rfl rfl rfl rfl h0 he) rfl rfl ?_)|refine sA ?_|refine sC (fun _=>?_) (fun _=>?_)|fail)
  exact retq rfl (by simp [zy,ZY,htd])
 ·have c1:ACall Tryz.prog 88 [zT g,pi t] (pb false):=by rw [←Bool.eq_false_iff.2 h];exact YS g t
  have hn:typeAt g t=none:=by
   cases e:typeAt g t with
   | none=>rfl
   | some td=>exact (h ((Xe g t).2 ⟨td,e⟩)).elim
  repeat' (first|(refine shC ?_;first|refine qC c1 ?_)|refine sA ?_|refine sC (fun _=>?_) (fun _=>?_)|fail)
  exact retq rfl (by simp [zy,ZY,hn])
def zhy (g:Img) (t:Ty):Bool:=plain t 5&&ZY g t.index==0
theorem zgL (g:Img) (t:Ty):ACall Tryz.prog 214 [zT g,yM t] (pb (zhy g t)):=by
 refine zi zf Tryz.func214 rfl (by kernel_rfl) Tryz.ntmps214 (by simp) _ rfl (fun hw gB hgB=>?_)
 repeat' (first|(refine shC ?_;first|refine qC (Qh _ _) ?_|refine qC (YR _ _) ?_)|refine sA ?_|refine sC (fun _=>?_) (fun _=>?_)|fail)
 all_goals (first|refine retq rfl ?_|refine VX rfl ?_)
 all_goals (first|(simp_all [zy,zhy];done)|(simp_all [zy,zhy];omega))
end Go.Cg
