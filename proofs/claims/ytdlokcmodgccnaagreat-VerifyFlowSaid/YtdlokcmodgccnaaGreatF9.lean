/- A part of the walks by abstract values: no statement of its own. -/
import Derived.Test.YtdlokcmodgccnaaGreatF6
import Derived.Test.YtdlokcmodgccnaaGreatF5
set_option linter.unusedVariables false
set_option linter.unusedSimpArgs false
namespace Go.Cg
open Go.Proofs
set_option maxHeartbeats 20000000
def object (t:Ty):Bool:=!t.ref&&(decide (0 < t.dims)||t.kind==4||t.kind==5||t.kind==7||t.kind==8)
theorem zgb (t:Ty):ACall Tryz.prog 201 [yK t] (pb (object t)):=by
 refine zf zh Tryz.func201 rfl (by kernel_rfl) Tryz.ntmps201 (by simp) _ rfl (fun hw gB hgB=>?_)
 repeat' (first|refine sA ?_|refine sC (fun _=>?_) (fun _=>?_)|fail)
 all_goals (first|refine retq rfl ?_|refine ZA rfl ?_)
 all_goals (first|(simp_all [zi,object];done)|(simp_all [zi,object];omega))
def there (g:Img) (t:Int):Bool:=decide (0≤t)&&decide (t < g.types.length)
theorem Yg (g:Img) (t:Int):ACall Tryz.prog 105 [zq g,pi t] (pb (there g t)):=by
 refine zf zh Tryz.func105 rfl (by kernel_rfl) Tryz.ntmps105 (by simp) _ rfl (fun hw gB hgB=>?_)
 repeat' (first|refine sA ?_|refine sC (fun _=>?_) (fun _=>?_)|fail)
 all_goals (first|refine retq rfl ?_|refine ZA rfl ?_)
 all_goals (first|(simp_all [zi,there];done)|(simp_all [zi,there];omega))
theorem YE (g:Img) (t:Int):ACall Tryz.prog 88 [zq g,pi t] (pb (there g t)):=by
 refine zf zh Tryz.func88 rfl (by kernel_rfl) Tryz.ntmps88 (by simp) _ rfl (fun hw gB hgB=>?_)
 repeat' (first|refine sA ?_|refine sC (fun _=>?_) (fun _=>?_)|fail)
 all_goals (first|refine retq rfl ?_|refine ZA rfl ?_)
 all_goals (first|(simp_all [zi,there];done)|(simp_all [zi,there];omega))
def plain (t:Ty) (k:Int):Bool:=t.kind==k&&t.dims==0&&!t.ref
theorem VO (t:Ty) (k:Int):ACall Tryz.prog 211 [yK t,pi k] (pb (plain t k)):=by
 refine zf zh Tryz.func211 rfl (by kernel_rfl) Tryz.ntmps211 (by simp) _ rfl (fun hw gB hgB=>?_)
 repeat' (first|refine sA ?_|refine sC (fun _=>?_) (fun _=>?_)|fail)
 all_goals (first|refine retq rfl ?_|refine ZA rfl ?_)
 all_goals (first|(simp_all [zi,plain];done)|(simp_all [zi,plain];omega))
theorem znR:ACall Tryz.prog 213 [] (yK ⟨7,0,0,false⟩):=by
 refine zf zh Tryz.func213 rfl (by kernel_rfl) Tryz.ntmps213 (by simp) _ rfl (fun hw gB hgB=>?_)
 repeat' (first|refine sA ?_|refine sC (fun _=>?_) (fun _=>?_)|fail)
 exact retq rfl rfl
set_option maxHeartbeats 20000000
def bounds (c:Cl) (part:Int):Int × Int :=
 if part==1 then (c.tf,c.tt) else if part==2 then (c.hf,c.ht) else if c.kind==2 then (c.filter,c.hf) else (0,0)
theorem Yb (c:Cl) (p:Int):ACall Tryz.prog 36 [yI c,pi p] (.tup [pi (bounds c p).1,pi (bounds c p).2]):=by
 refine zf zh Tryz.func36 rfl (by kernel_rfl) Tryz.ntmps36 (by simp) _ rfl (fun hw gB hgB=>?_)
 repeat' (first|refine sA ?_|refine sC (fun _=>?_) (fun _=>?_)|fail)
 all_goals (refine retq rfl ?_)
 all_goals (simp_all [bounds,zi])
def meet (a:Cl) (p:Int) (b:Cl) (q:Int):Bool :=
 decide ((bounds a p).1 < (bounds b q).2)&&decide ((bounds b q).1 < (bounds a p).2)&&decide ((bounds a p).1 < (bounds a p).2)&&decide ((bounds b q).1 < (bounds b q).2)
theorem za6 (a:Cl) (p:Int) (b:Cl) (q:Int):ACall Tryz.prog 332 [yI a,pi p,yI b,pi q] (pb (meet a p b q)):=by
 refine zf zh Tryz.func332 rfl (by kernel_rfl) Tryz.ntmps332 (by simp) _ rfl (fun hw gB hgB=>?_)
 repeat' (first|(refine shC ?_;first|refine qC (Yb a p) ?_|refine qC (Yb b q) ?_)|refine sA ?_|refine sC (fun _=>?_) (fun _=>?_)|fail)
 all_goals (first|refine retq rfl ?_|refine ZA rfl ?_)
 all_goals (first|(simp_all [zi,meet];done)|(simp_all [zi,meet];omega))
def within (a:Cl) (p:Int) (b:Cl) (q:Int):Bool :=
 if (bounds a p).1==0&&(bounds a p).2==0 then true
 else decide ((bounds b q).1≤(bounds a p).1)&&decide ((bounds a p).2≤(bounds b q).2)&&(decide ((bounds b q).1 < (bounds a p).1)||decide ((bounds a p).2 < (bounds b q).2))
theorem Ye (a:Cl) (p:Int) (b:Cl) (q:Int):ACall Tryz.prog 333 [yI a,pi p,yI b,pi q] (pb (within a p b q)):=by
 refine zf zh Tryz.func333 rfl (by kernel_rfl) Tryz.ntmps333 (by simp) _ rfl (fun hw gB hgB=>?_)
 repeat' (first|(refine shC ?_;first|refine qC (Yb a p) ?_|refine qC (Yb b q) ?_)|refine sA ?_|refine sC (fun _=>?_) (fun _=>?_)|fail)
 all_goals (first|refine retq rfl ?_|refine ZA rfl ?_)
 all_goals (first|(simp_all [zi,within];done)|(simp_all [zi,within];omega))
set_option maxHeartbeats 20000000
theorem zcv {l:List Int} (h:(ints l).lenOk):l.length≤9223372036854775807:=by
 simp [ints,PV.lenOk,maxLen] at h;exact h.1
theorem yT {l:List Int} {k:Nat} (h:k < l.length):(l.map pi)[k]?=some (pi l[k]):=by simp [h]
theorem zgG {l:List Ty} {k:Nat} (h:k < l.length):(l.map yK)[k]?=some (yK l[k]):=by simp [h]
theorem zde {α:Type} [DecidableEq α] {l:List α} {k:Nat} {n:α} (h:k < l.length) (hno:n∉l.take k) (hne:¬ l[k]=n):n∉l.take (k + 1):=by
 rw [List.take_succ_eq_append_getElem h]
 simp only [List.mem_append,List.mem_singleton,not_or]
 exact ⟨hno,fun e=>hne e.symm⟩
theorem QE (l:List Int) (n:Int):ACall Tryz.prog 148 [ints l,pi n] (pb (decide (n∈l))):=by
 refine zf zh Tryz.func148 rfl (by kernel_rfl) Tryz.ntmps148 (by simp) _ rfl (fun hw gB hgB=>?_)
 have hl:=zcv hw.1
 repeat' (first|refine sA ?_|refine sC (fun _=>?_) (fun _=>?_)|fail)
 refine zo (fun k:Nat=>[(0,.pv (ints l)),(1,.pv (pi n)),(5,.pv (pi k))]) (fun _=>[]) (fun k=>k≤l.length∧n∉l.take k) (fun k=>l.length - k) 0 ⟨by simp,by simp⟩ (tS) tH ?_
 rintro k ⟨hk,hno⟩
 by_cases hlt:k < l.length
 ·have he:=yT hlt
  repeat' (first|(refine shX ?_;first|refine qX he ?_)|refine sK ?_|refine sC (fun _=>?_) (fun _=>?_)|fail)
  ·rename_i h
   refine retq rfl ?_
   have:n∈l:=by have:=List.getElem_mem hlt;simp at h;rwa [h] at this
   simp [zi,this]
  ·rename_i h
   simp at h
   exact ⟨k + 1,⟨by omega,zde hlt hno h⟩,tD,tS,tH⟩
 ·repeat' (first|refine sK ?_|refine sC (fun _=>?_) (fun _=>?_)|fail)
  refine retq rfl ?_
  have:n∉l:=by rw [List.take_of_length_le (by omega)] at hno;exact hno
  simp [zi,this]
def idx (l:List Int) (v:Int):Int:=if v∈l then (l.findIdx (· == v):Nat) else -1
theorem zhq (l:List Int) (n:Int):ACall Tryz.prog 225 [ints l,pi n] (pi (idx l n)):=by
 refine zf zh Tryz.func225 rfl (by kernel_rfl) Tryz.ntmps225 (by simp) _ rfl (fun hw gB hgB=>?_)
 have hl:=zcv hw.1
 repeat' (first|refine sA ?_|refine sC (fun _=>?_) (fun _=>?_)|fail)
 refine zo (fun k:Nat=>[(0,.pv (ints l)),(1,.pv (pi n)),(7,.pv (pi l.length)),(8,.pv (pi k))]) (fun _=>[]) (fun k=>k≤l.length∧n∉l.take k) (fun k=>l.length - k) 0 ⟨by simp,by simp⟩ (by repeat (first|exact zT|refine zM rfl ?_|(refine qg rfl ?_ ?_;· simp))) tH ?_
 rintro k ⟨hk,hno⟩
 by_cases hlt:k < l.length
 ·have he:=yT hlt
  repeat' (first|(refine shX ?_;first|refine qX he ?_)|refine sK ?_|refine sC (fun _=>?_) (fun _=>?_)|fail)
  ·rename_i h
   refine retq rfl ?_
   simp at h
   have hm:n∈l:=by have:=List.getElem_mem hlt;rwa [←h] at this
   have hi:l.findIdx (· == n)=k:=by
    rw [List.findIdx_eq hlt]
    refine ⟨by simp [h],fun j hj=>?_⟩
    simp only [beq_eq_false_iff_ne]
    intro e
    refine hno ?_
    rw [←e,List.mem_take_iff_getElem]
    exact ⟨j,by omega,rfl⟩
   simp [zi,idx,hm,hi]
  ·rename_i h
   simp at h
   exact ⟨k + 1,⟨by omega,zde hlt hno (fun e=>h e.symm)⟩,tD,tS,tH⟩
 ·repeat' (first|refine sK ?_|refine sC (fun _=>?_) (fun _=>?_)|fail)
  refine retq rfl ?_
  have:n∉l:=by rw [List.take_of_length_le (by omega)] at hno;exact hno
  simp [zi,idx,this]
theorem YP (l:List Int) (n:Int):ACall Tryz.prog 175 [ints l,pi n] (pb (decide (n∈l))):=by
 refine zf zh Tryz.func175 rfl (by kernel_rfl) Tryz.ntmps175 (by simp) _ rfl (fun hw gB hgB=>?_)
 repeat' (first|(refine shC ?_;first|refine qC (zhq _ _) ?_)|refine sA ?_|refine sC (fun _=>?_) (fun _=>?_)|fail)
 refine retq rfl ?_
 by_cases h:n∈l <;> simp [zi,idx,h]
set_option maxHeartbeats 20000000
def WT (n:Int) (c:Cl):Bool:=decide (0≤c.tf)&&decide (c.tf < c.tt)&&decide (c.tt≤n)
def zbK (n:Int) (c:Cl):Bool:=decide (0≤c.hf)&&decide (c.hf < c.ht)&&decide (c.ht≤n)
def ZW (n:Int) (c:Cl):Int :=
 if decide (c.kind < 1)||decide (4 < c.kind)||!WT n c||!zbK n c then 3
 else if c.kind==2&&(decide (c.filter < 0)||decide (c.hf≤c.filter))||c.kind != 2&&c.filter != -1 then 3
 else if meet c 1 c 2||meet c 1 c 3||meet c 2 c 3 then 12
 else 0
theorem zhj (n:Int) (c:Cl):ACall Tryz.prog 322 [pi n,yI c] (pi (ZW n c)):=by
 refine zf zh Tryz.func322 rfl (by kernel_rfl) Tryz.ntmps322 (by simp) _ rfl (fun hw gB hgB=>?_)
 refine Qg [(0,.pv (pi n)),(3,.pv (.ptr (yI c) 0))] [] ?_ ?_
 ·repeat' (first|refine sA ?_|refine sC (fun _=>?_) (fun _=>?_)|fail)
  all_goals (refine ⟨?_,tH⟩;repeat (first|exact zT|refine zM rfl ?_|(refine zey rfl ?_ ?_;· (first|(simp_all [WT];done)|(simp_all [WT];omega)))|(refine qg rfl ?_ ?_;· (rw [wrap_in (by omega) (by omega)] <;> omega))))
 refine Qg [(0,.pv (pi n)),(3,.pv (.ptr (yI c) 0)),(5,.pv (pb (WT n c)))] [] ?_ ?_
 ·repeat' (first|refine sA ?_|refine sC (fun _=>?_) (fun _=>?_)|fail)
  all_goals (refine ⟨?_,tH⟩;repeat (first|exact zT|refine zM rfl ?_|(refine zey rfl ?_ ?_;· (first|(simp_all [WT];done)|(simp_all [WT];omega)))|(refine qg rfl ?_ ?_;· (rw [wrap_in (by omega) (by omega)] <;> omega))))
 refine Qg [(0,.pv (pi n)),(3,.pv (.ptr (yI c) 0)),(5,.pv (pb (WT n c))),(6,.pv (pb (zbK n c)))] [] ?_ ?_
 ·repeat' (first|refine sA ?_|refine sC (fun _=>?_) (fun _=>?_)|fail)
  all_goals (refine ⟨?_,tH⟩;repeat (first|exact zT|refine zM rfl ?_|(refine zey rfl ?_ ?_;· (first|(simp_all [zbK];done)|(simp_all [zbK];omega)))|(refine qg rfl ?_ ?_;· (rw [wrap_in (by omega) (by omega)] <;> omega))))
 repeat' (first|(refine shC ?_;first|refine qC (za6 c 1 c 2) ?_|refine qC (za6 c 1 c 3) ?_|refine qC (za6 c 2 c 3) ?_)|refine sA ?_|refine sC (fun _=>?_) (fun _=>?_)|fail)
 all_goals (first|refine retq rfl ?_|refine ZA rfl ?_)
 all_goals (first|(simp_all [zi,ZW];done)|(simp_all [zi,ZW];omega))
def Zt (a b:Cl) (q:Int):Bool:=decide ((bounds b q).1 < (bounds b q).2)&&within a 1 b q&&within a 2 b q&&within a 3 b q
def zlj (a b:Cl) (q:Int):Bool:=q==1||!(a.hf==(bounds b q).1||a.kind==2&&a.filter==(bounds b q).1)
def badM (a b:Cl) (p q:Int):Bool:=meet a p b q&&!((a.tf==b.tf&&a.tt==b.tt)&&p==1&&q==1)
def Qb (a b:Cl):Bool :=
 if Zt a b 1 then zlj a b 1 else if Zt a b 2 then zlj a b 2 else if Zt a b 3 then zlj a b 3
 else !(badM a b 1 1||badM a b 1 2||badM a b 1 3||badM a b 2 1||badM a b 2 2||badM a b 2 3||badM a b 3 1||badM a b 3 2||badM a b 3 3)
def WY (a b:Cl) (k:Nat):Bool:=(List.range k).any fun i=>badM a b (i / 3 + 1:Nat) (i % 3 + 1:Nat)
theorem zmf (a b:Cl) (k:Nat):WY a b (k + 1)=(WY a b k||badM a b (k / 3 + 1:Nat) (k % 3 + 1:Nat)):=by
 simp [WY,List.range_succ]
theorem zlc (a b:Cl):WY a b 9=(badM a b 1 1||badM a b 1 2||badM a b 1 3||badM a b 2 1||badM a b 2 2||badM a b 2 3||badM a b 3 1||badM a b 3 2||badM a b 3 3):=by
 simp [WY,List.range_succ,Bool.or_assoc]
theorem ztB {a b:Cl} {k:Nat} (h1:1≤k) (h3:k≤3) (hno:∀ q:Nat,1≤q→q < k→Zt a b q=false) (hc:Zt a b k=true):Qb a b=zlj a b k:=by
 rcases (by omega:k=1∨k=2∨k=3) with rfl|rfl|rfl
 ·have hc:Zt a b 1=true:=hc
  simp [Qb,hc]
 ·have e1:Zt a b 1=false:=hno 1 (by omega) (by omega)
  have hc:Zt a b 2=true:=hc
  simp [Qb,hc,e1]
 ·have e1:Zt a b 1=false:=hno 1 (by omega) (by omega)
  have e2:Zt a b 2=false:=hno 2 (by omega) (by omega)
  have hc:Zt a b 3=true:=hc
  simp [Qb,hc,e1,e2]
theorem ztx {a b:Cl} (hno:∀ q:Nat,1≤q→q < 4→Zt a b q=false):Qb a b=!WY a b 9:=by
 have e1:Zt a b 1=false:=hno 1 (by omega) (by omega)
 have e2:Zt a b 2=false:=hno 2 (by omega) (by omega)
 have e3:Zt a b 3=false:=hno 3 (by omega) (by omega)
 rw [zlc];simp [Qb,e1,e2,e3]
theorem zqv {a b:Cl} {k:Nat} (hk:k < 9) (h:badM a b (k / 3 + 1:Nat) (k % 3 + 1:Nat)=true):WY a b 9=true:=by
 simp only [WY,List.any_eq_true,List.mem_range]
 exact ⟨k,hk,h⟩
theorem zfH (a b:Cl):ACall Tryz.prog 323 [yI a,yI b] (pb (Qb a b)):=by
 refine zf zh Tryz.func323 rfl (by kernel_rfl) Tryz.ntmps323 (by simp) _ rfl (fun hw gB hgB=>?_)
 refine Qg [(2,.pv (.ptr (yI a) 0)),(3,.pv (.ptr (yI b) 0))] [] ?_ ?_
 ·repeat' (first|refine sA ?_|refine sC (fun _=>?_) (fun _=>?_)|fail)
  all_goals (refine ⟨?_,tH⟩;repeat (first|exact zT|refine zM rfl ?_|(refine zey rfl ?_ ?_;· (first|(simp_all [Zt];done)|(simp_all [Zt];omega)))|(refine qg rfl ?_ ?_;· (rw [wrap_in (by omega) (by omega)] <;> omega))))
 by_cases hall:∀ q:Nat,1≤q→q < 4→Zt a b q=false
 ·refine Qg [(2,.pv (.ptr (yI a) 0)),(3,.pv (.ptr (yI b) 0))] [] ?_ ?_
  ·repeat' (first|refine sA ?_|refine sC (fun _=>?_) (fun _=>?_)|fail)
   refine zo (fun k:Nat=>[(2,.pv (.ptr (yI a) 0)),(3,.pv (.ptr (yI b) 0)),(5,.pv (pi k))]) (fun _=>[]) (fun k=>1≤k∧k≤4) (fun k=>4 - k) 1 ⟨by omega,by omega⟩ (tS) tH ?_
   rintro k ⟨hk1,hk2⟩
   by_cases hlt:k≤3
   ·have hc:=hall k hk1 (by omega)
    repeat' (first|(refine shC ?_;first|refine qC (Yb b k) ?_|refine qC (Ye a 1 b k) ?_|refine qC (Ye a 2 b k) ?_|refine qC (Ye a 3 b k) ?_)|refine sK ?_|refine sC (fun _=>?_) (fun _=>?_)|fail)
    all_goals first
     | exact ⟨k + 1,⟨by omega,by omega⟩,tD,tS,tH⟩
     | (exfalso;simp_all [Zt];done)
   ·repeat' (first|refine sK ?_|refine sC (fun _=>?_) (fun _=>?_)|fail)
    exact ⟨tS,tH⟩
  have hfin:=ztx hall
  refine Qg [(2,.pv (.ptr (yI a) 0)),(3,.pv (.ptr (yI b) 0)),(8,.pv (pb (a.tf==b.tf&&a.tt==b.tt)))] [] ?_ ?_
  ·repeat' (first|refine sA ?_|refine sC (fun _=>?_) (fun _=>?_)|fail)
   all_goals (refine ⟨?_,tH⟩;repeat (first|exact zT|refine zM rfl ?_|(refine zey rfl ?_ ?_;· (first|(simp_all [Zt];done)|(simp_all [Zt];omega)))|(refine qg rfl ?_ ?_;· (rw [wrap_in (by omega) (by omega)] <;> omega))))
  repeat' (first|refine sA ?_|refine sC (fun _=>?_) (fun _=>?_)|fail)
  refine zo (fun k:Nat=>[(2,.pv (.ptr (yI a) 0)),(3,.pv (.ptr (yI b) 0)),(8,.pv (pb (a.tf==b.tf&&a.tt==b.tt))),(9,.pv (pi k))]) (fun _=>[]) (fun k=>1≤k∧k≤4∧WY a b (3 * (k - 1))=false) (fun k=>4 - k) 1 ⟨by omega,by omega,rfl⟩ (tS) tH ?_
  rintro k ⟨hk1,hk2,hno⟩
  by_cases hlt:k≤3
  ·repeat' (first|refine sK ?_|refine sC (fun _=>?_) (fun _=>?_)|fail)
   refine zo (fun m:Nat=>[(2,.pv (.ptr (yI a) 0)),(3,.pv (.ptr (yI b) 0)),(8,.pv (pb (a.tf==b.tf&&a.tt==b.tt))),(9,.pv (pi k)),(10,.pv (pi m))]) (fun _=>[]) (fun m=>1≤m∧m≤4∧WY a b (3 * (k - 1) + (m - 1))=false) (fun m=>4 - m) 1 ⟨by omega,by omega,hno⟩ (tS) tH ?_
   rintro m ⟨hm1,hm2,hno⟩
   by_cases hltm:m≤3
   ·have hidx:badM a b ((3 * (k - 1) + (m - 1)) / 3 + 1:Nat) ((3 * (k - 1) + (m - 1)) % 3 + 1:Nat)=badM a b k m:=by
     have e1:(3 * (k - 1) + (m - 1)) / 3 + 1=k:=by omega
     have e2:(3 * (k - 1) + (m - 1)) % 3 + 1=m:=by omega
     rw [e1,e2]
    have hsucc:=zmf a b (3 * (k - 1) + (m - 1))
    rw [hidx,hno,Bool.false_or] at hsucc
    cases hb:badM a b k m
    ·have hnext:WY a b (3 * (k - 1) + (m + 1 - 1))=false:=by
      rw [show 3 * (k - 1) + (m + 1 - 1)=3 * (k - 1) + (m - 1) + 1 by omega,hsucc,hb]
     clear hsucc hidx
     repeat' (first|(refine shC ?_;first|refine qC (za6 a k b m) ?_)|refine sK ?_|refine sC (fun _=>?_) (fun _=>?_)|fail)
     all_goals first
      | exact ⟨m + 1,⟨by omega,by omega,hnext⟩,tD,tS,tH⟩
      | (exfalso;simp_all [badM];done)
    ·have hbad:=zqv (a:=a) (b:=b) (k:=3 * (k - 1) + (m - 1)) (by omega) (by rw [hidx];exact hb)
     clear hsucc hidx
     repeat' (first|(refine shC ?_;first|refine qC (za6 a k b m) ?_)|refine sK ?_|refine sC (fun _=>?_) (fun _=>?_)|fail)
     all_goals first
      | exact retq rfl (by simp [zi,hfin,hbad])
      | (exfalso;simp_all [badM];done)
   ·repeat' (first|refine sK ?_|refine sC (fun _=>?_) (fun _=>?_)|fail)
    have:m=4:=by omega
    subst this
    exact ⟨k + 1,⟨by omega,by omega,by rw [show 3 * (k + 1 - 1)=3 * (k - 1) + (4 - 1) by omega];exact hno⟩,tD,tS,tH⟩
  ·repeat' (first|refine sK ?_|refine sC (fun _=>?_) (fun _=>?_)|fail)
   have:k=4:=by omega
   subst this
   exact retq rfl (by simp [zi,hfin,show WY a b 9=false from hno])
 ·
  have hex:∃ k:Nat,1≤k∧k≤3∧Zt a b k=true∧∀ q:Nat,1≤q→q < k→Zt a b q=false:=by
   cases h1:Zt a b 1
   ·cases h2:Zt a b 2
    ·cases h3:Zt a b 3
     ·exact (hall (fun q q1 q2=>by rcases (by omega:q=1∨q=2∨q=3) with rfl|rfl|rfl <;> assumption)).elim
     ·exact ⟨3,by omega,by omega,h3,fun q q1 q2=>by rcases (by omega:q=1∨q=2) with rfl|rfl <;> assumption⟩
    ·exact ⟨2,by omega,by omega,h2,fun q q1 q2=>by (obtain rfl:q=1:=by omega);assumption⟩
   ·exact ⟨1,by omega,by omega,h1,fun q q1 q2=>by omega⟩
  obtain ⟨k0,hk1,hk3,hc0,hno0⟩:=hex
  have hfin:=ztB hk1 hk3 hno0 hc0
  clear hall
  repeat' (first|refine sA ?_|refine sC (fun _=>?_) (fun _=>?_)|fail)
  refine zo (fun k:Nat=>[(2,.pv (.ptr (yI a) 0)),(3,.pv (.ptr (yI b) 0)),(5,.pv (pi k))]) (fun _=>[]) (fun k=>1≤k∧k≤k0) (fun k=>4 - k) 1 ⟨by omega,by omega⟩ (tS) tH ?_
  rintro k ⟨hj1,hj2⟩
  have hlt:k≤3:=by omega
  by_cases he:k=k0
  ·subst he
   repeat' (first|(refine shC ?_;first|refine qC (Yb b k) ?_|refine qC (Ye a 1 b k) ?_|refine qC (Ye a 2 b k) ?_|refine qC (Ye a 3 b k) ?_)|refine sK ?_|refine sC (fun _=>?_) (fun _=>?_)|fail)
   all_goals first
    | (refine retq rfl ?_;simp_all [zi,zlj];done)
    | (exfalso;simp_all [Zt];done)
    | (refine retq rfl ?_;simp_all [zi,zlj];omega)
  ·have hc:=hno0 k hj1 (by omega)
   repeat' (first|(refine shC ?_;first|refine qC (Yb b k) ?_|refine qC (Ye a 1 b k) ?_|refine qC (Ye a 2 b k) ?_|refine qC (Ye a 3 b k) ?_)|refine sK ?_|refine sC (fun _=>?_) (fun _=>?_)|fail)
   all_goals first
    | exact ⟨k + 1,⟨by omega,by omega⟩,tD,tS,tH⟩
    | (exfalso;simp_all [Zt];done)
set_option maxHeartbeats 20000000
theorem zgS {l:List Ty} (h:(tys l).lenOk):l.length≤9223372036854775807:=by
 simp [tys,PV.lenOk,maxLen] at h;exact h.1
theorem zee {α:Type} {a b:List α} {k:Nat} (ha:k < a.length) (hb:k < b.length) (h:a.take k=b.take k) (e:a[k]=b[k]):a.take (k + 1)=b.take (k + 1):=by
 rw [List.take_succ_eq_append_getElem ha,List.take_succ_eq_append_getElem hb,h,e]
theorem zca (a b:List Ty):ACall Tryz.prog 16 [tys a,tys b] (pb (decide (a=b))):=by
 refine zf zh Tryz.func16 rfl (by kernel_rfl) Tryz.ntmps16 (by simp) _ rfl (fun hw gB hgB=>?_)
 have hl:=zgS hw.1
 by_cases hlen:a.length=b.length
 ·repeat' (first|refine sK ?_|refine sC (fun _=>?_) (fun _=>?_)|fail)
  refine zo (fun k:Nat=>[(0,.pv (tys a)),(1,.pv (tys b)),(5,.pv (pi k))]) (fun _=>[]) (fun k=>k≤a.length∧a.take k=b.take k) (fun k=>a.length - k) 0 ⟨by simp,by simp⟩ (tS) tH ?_
  rintro k ⟨hk,hno⟩
  by_cases hlt:k < a.length
  ·have he:=zgG hlt
   have hltb:k < b.length:=by omega
   have he':=zgG hltb
   repeat' (first|(refine shX ?_;first|refine qX he ?_|refine qX he' ?_)|refine sK ?_|refine sC (fun _=>?_) (fun _=>?_)|fail)
   ·rename_i h
    refine retq rfl ?_
    have:a≠b:=by
     rintro rfl
     simp at h
    simp [zi,this]
   ·rename_i h
    have e:a[k]=b[k]:=by
     simp only [Bool.not_eq_false'] at h
     rw [QD] at h
     simpa using h
    exact ⟨k + 1,⟨by omega,zee hlt hltb hno e⟩,tD,tS,tH⟩
  ·repeat' (first|refine sK ?_|refine sC (fun _=>?_) (fun _=>?_)|fail)
   refine retq rfl ?_
   rw [List.take_of_length_le (by omega),List.take_of_length_le (by omega)] at hno
   simp [zi,hno]
 ·repeat' (first|refine sK ?_|refine sC (fun _=>?_) (fun _=>?_)|fail)
  refine retq rfl ?_
  have:a≠b:=by rintro rfl;exact hlen rfl
  simp [zi,this]
def Zj (t:Ty):Bool :=
 if decide (t.dims < 0)||decide (3 < t.dims)||decide (t.index < 0) then false
 else if t.kind==1 then t.dims==0&&!t.ref&&t.index==0
 else if t.kind==2||t.kind==3||t.kind==4 then t.index==0
 else if t.kind==5||t.kind==6 then decide (t.index < 32)
 else if t.kind==7 then decide (t.index≤7)
 else false
theorem zhz (t:Ty):ACall Tryz.prog 149 [yK t] (pb (Zj t)):=by
 refine zf zh Tryz.func149 rfl (by kernel_rfl) Tryz.ntmps149 (by simp) _ rfl (fun hw gB hgB=>?_)
 repeat' (first|refine sA ?_|refine sC (fun _=>?_) (fun _=>?_)|fail)
 all_goals (first|refine retq rfl ?_|refine ZA rfl ?_)
 all_goals (first|(simp_all [zi,Zj];done)|(simp_all [zi,Zj];omega))
def Ze (t:Ty) (place:Int):Bool :=
 if !Zj t then false
 else if place==1 then t.kind != 1&&!t.ref
 else if place==2 then t.kind != 1
 else if place==3 then !t.ref
 else true
theorem zhY (t:Ty) (p:Int):ACall Tryz.prog 282 [yK t,pi p] (pb (Ze t p)):=by
 refine zf zh Tryz.func282 rfl (by kernel_rfl) Tryz.ntmps282 (by simp) _ rfl (fun hw gB hgB=>?_)
 repeat' (first|(refine shC ?_;first|refine qC (zhz _) ?_)|refine sA ?_|refine sC (fun _=>?_) (fun _=>?_)|fail)
 all_goals (first|refine retq rfl ?_|refine ZA rfl ?_)
 all_goals (first|(simp_all [zi,Ze];done)|(simp_all [zi,Ze];omega))
def zeW (t:Ty) (n:Int):Bool:=(t.kind != 5&&t.kind != 6)||decide (t.index < n)
theorem zk3 (t:Ty) (n:Int):ACall Tryz.prog 283 [yK t,pi n] (pb (zeW t n)):=by
 refine zf zh Tryz.func283 rfl (by kernel_rfl) Tryz.ntmps283 (by simp) _ rfl (fun hw gB hgB=>?_)
 repeat' (first|refine sA ?_|refine sC (fun _=>?_) (fun _=>?_)|fail)
 all_goals (first|refine retq rfl ?_|refine ZA rfl ?_)
 all_goals (first|(simp_all [zi,zeW];done)|(simp_all [zi,zeW];omega))
def Qm (t:Ty) (p n:Int):Bool:=Ze t p&&zeW t n
theorem zbd (t:Ty) (p n:Int):ACall Tryz.prog 263 [yK t,pi p,pi n] (pb (Qm t p n)):=by
 refine zf zh Tryz.func263 rfl (by kernel_rfl) Tryz.ntmps263 (by simp) _ rfl (fun hw gB hgB=>?_)
 repeat' (first|(refine shC ?_;first|refine qC (zhY _ _) ?_|refine qC (zk3 _ _) ?_)|refine sA ?_|refine sC (fun _=>?_) (fun _=>?_)|fail)
 all_goals (first|refine retq rfl ?_|refine ZA rfl ?_)
 all_goals (first|(simp_all [zi,Qm];done)|(simp_all [zi,Qm];omega))
set_option maxHeartbeats 20000000
def cls (l:List Cl):PV:=.slc 10 (l.map yI) false
theorem zkq {l:List Cl} (h:(cls l).lenOk):l.length≤9223372036854775807:=by
 simp [cls,PV.lenOk,maxLen] at h;exact h.1
theorem zaq {l:List Cl} {k:Nat} (h:k < l.length):(l.map yI)[k]?=some (yI (l.getD k default)):=by simp [h]
def Qn (l:List Cl) (i m:Nat):Bool:=(List.range m).any fun k=>!Qb (l.getD k default) (l.getD i default)
theorem zeI (l:List Cl) (i m:Nat):Qn l i (m + 1)=(Qn l i m||!Qb (l.getD m default) (l.getD i default)):=by simp [Qn,List.range_succ]
def Yx (n:Int) (l:List Cl) (i:Nat):Int :=
 if ZW n (l.getD i default) != 0 then ZW n (l.getD i default) else if Qn l i i then 12 else 0
def ZE (n:Int) (l:List Cl):Int × Int :=
 if 6 < l.length then (0,4) else match (List.range l.length).find? (fun i=>Yx n l i != 0) with
  | some i=>(((i:Nat):Int),Yx n l i)
  | none=>(0,0)
theorem zbN {n:Int} {l:List Cl} {k:Nat} (h6:¬ 6 < l.length) (hk:k < l.length) (hno:∀ j,j < k→Yx n l j=0) (h:Yx n l k≠0):ZE n l=(((k:Nat):Int),Yx n l k):=by
 have:(List.range l.length).find? (fun i=>Yx n l i != 0)=some k:=by
  rw [List.find?_range_eq_some]
  exact ⟨by simpa using h,by simpa using hk,fun j hj=>by simp [hno j hj]⟩
 simp [ZE,h6,this]
theorem zhs {n:Int} {l:List Cl} (h6:¬ 6 < l.length) (hno:∀ j,j < l.length→Yx n l j=0):ZE n l=(0,0):=by
 have:(List.range l.length).find? (fun i=>Yx n l i != 0)=none:=by
  rw [List.find?_eq_none]
  intro j hj
  simp [hno j (List.mem_range.1 hj)]
 simp [ZE,h6,this]
theorem zkg (n:Int) (l:List Cl):ACall Tryz.prog 307 [pi n,cls l] (.tup [pi (ZE n l).1,pi (ZE n l).2]):=by
 refine zf zh Tryz.func307 rfl (by kernel_rfl) Tryz.ntmps307 (by simp) _ rfl (fun hw gB hgB=>?_)
 have hl:=zkq hw.2.1
 by_cases h6:6 < l.length
 ·repeat' (first|refine sK ?_|refine sC (fun _=>?_) (fun _=>?_)|fail)
  exact retq rfl (by simp [zi,ZE,h6])
 ·repeat' (first|refine sK ?_|refine sC (fun _=>?_) (fun _=>?_)|fail)
  refine zo (fun k:Nat=>[(0,.pv (pi n)),(1,.pv (cls l)),(6,.pv (pi k))]) (fun _=>[]) (fun k=>k≤l.length∧∀ j,j < k→Yx n l j=0) (fun k=>l.length - k) 0 ⟨by omega,fun j h=>by omega⟩ (tS) tH ?_
  rintro k ⟨hk,hno⟩
  by_cases hlt:k < l.length
  ·have he:=zaq hlt
   cases ha:(ZW n (l.getD k default) != 0)
   ·repeat' (first|(refine shC ?_;first|refine qC (zhj n (l.getD k default)) ?_)|(refine shX ?_;first|refine qX he ?_)|refine sK ?_|refine sC (fun _=>?_) (fun _=>?_)|fail)
    refine zo (fun m:Nat=>[(0,.pv (pi n)),(1,.pv (cls l)),(6,.pv (pi k)),(8,.pv (pi m))]) (fun _=>[]) (fun m=>m≤k∧Qn l k m=false) (fun m=>k - m) 0 ⟨by omega,rfl⟩ (tS) tH ?_
    rintro m ⟨hm,hpb⟩
    by_cases hltm:m < k
    ·have hem:=zaq (show m < l.length by omega)
     have hps:=zeI l k m
     cases hf:Qb (l.getD m default) (l.getD k default)
     ·have hat:Yx n l k=12:=by
       have:Qn l k k=true:=by
        simp only [Qn,List.any_eq_true,List.mem_range]
        exact ⟨m,hltm,by rw [hf];rfl⟩
       unfold Yx;rw [ha];simp [this]
      have hfin:=zbN h6 hlt hno (by rw [hat];decide)
      clear hps
      repeat' (first|(refine shC ?_;first|refine qC (zfH (l.getD m default) (l.getD k default)) ?_)|(refine shX ?_;first|refine qX he ?_|refine qX hem ?_)|refine sK ?_|refine sC (fun _=>?_) (fun _=>?_)|fail)
      ·exact retq rfl (by simp [zi,hfin,hat])
      ·exfalso;simp_all
     ·have hpm:Qn l k (m + 1)=false:=by rw [hps,hpb,hf];rfl
      clear hps
      repeat' (first|(refine shC ?_;first|refine qC (zfH (l.getD m default) (l.getD k default)) ?_)|(refine shX ?_;first|refine qX he ?_|refine qX hem ?_)|refine sK ?_|refine sC (fun _=>?_) (fun _=>?_)|fail)
      ·exfalso;simp_all
      ·exact ⟨m + 1,⟨by omega,hpm⟩,tD,tS,tH⟩
    ·repeat' (first|refine sK ?_|refine sC (fun _=>?_) (fun _=>?_)|fail)
     have:m=k:=by omega
     subst this
     have hat:Yx n l m=0:=by unfold Yx;rw [ha];simp [hpb]
     exact ⟨m + 1,⟨by omega,fun j hj=>by
      by_cases e:j=m
      ·subst e;exact hat
      ·exact hno j (by omega)⟩,tD,tS,tH⟩
   ·have hat:Yx n l k=ZW n (l.getD k default):=by unfold Yx;rw [ha];simp
    have hfin:=zbN h6 hlt hno (by rw [hat];simpa using ha)
    repeat' (first|(refine shC ?_;first|refine qC (zhj n (l.getD k default)) ?_)|(refine shX ?_;first|refine qX he ?_)|refine sK ?_|refine sC (fun _=>?_) (fun _=>?_)|fail)
    exact retq rfl (by simp [zi,hfin,hat])
  ·repeat' (first|refine sK ?_|refine sC (fun _=>?_) (fun _=>?_)|fail)
   have:k=l.length:=by omega
   subst this
   exact retq rfl (by simp [zi,zhs h6 hno])
def Wq (n:Int) (l:List Cl):Bool:=(ZE n l).2==0
theorem zop (n:Int) (l:List Cl):ACall Tryz.prog 299 [pi n,cls l] (pb (Wq n l)):=by
 refine zf zh Tryz.func299 rfl (by kernel_rfl) Tryz.ntmps299 (by simp) _ rfl (fun hw gB hgB=>?_)
 repeat' (first|(refine shC ?_;first|refine qC (zkg n l) ?_)|refine sA ?_|refine sC (fun _=>?_) (fun _=>?_)|fail)
 all_goals (first|refine retq rfl ?_|refine ZA rfl ?_)
 all_goals (first|(simp_all [zi,Wq];done)|(simp_all [zi,Wq];omega))
set_option maxHeartbeats 20000000
def zW (f k:Int):Bool:=(IntKind.i64.wrap (f.tdiv k)).tmod 2==1
theorem zi7 (f:Int):ACall Tryz.prog 106 [pi f,pi 2] (pb (zW f 2)):=by
 refine zf zh Tryz.func106 rfl (by kernel_rfl) Tryz.ntmps106 (by simp) _ rfl (fun hw gB hgB=>?_)
 repeat' (first|refine sA ?_|refine sC (fun _=>?_) (fun _=>?_)|fail)
 exact retq rfl rfl
theorem zjc (f:Int):ACall Tryz.prog 106 [pi f,pi 1] (pb (zW f 1)):=by
 refine zf zh Tryz.func106 rfl (by kernel_rfl) Tryz.ntmps106 (by simp) _ rfl (fun hw gB hgB=>?_)
 repeat' (first|refine sA ?_|refine sC (fun _=>?_) (fun _=>?_)|fail)
 exact retq rfl rfl
theorem zqm (f:Int):ACall Tryz.prog 106 [pi f,pi 4] (pb (zW f 4)):=by
 refine zf zh Tryz.func106 rfl (by kernel_rfl) Tryz.ntmps106 (by simp) _ rfl (fun hw gB hgB=>?_)
 repeat' (first|refine sA ?_|refine sC (fun _=>?_) (fun _=>?_)|fail)
 exact retq rfl rfl
theorem zfg (f:Int):ACall Tryz.prog 106 [pi f,pi 8] (pb (zW f 8)):=by
 refine zf zh Tryz.func106 rfl (by kernel_rfl) Tryz.ntmps106 (by simp) _ rfl (fun hw gB hgB=>?_)
 repeat' (first|refine sA ?_|refine sC (fun _=>?_) (fun _=>?_)|fail)
 exact retq rfl rfl
theorem zhh (f:Int):ACall Tryz.prog 106 [pi f,pi 16] (pb (zW f 16)):=by
 refine zf zh Tryz.func106 rfl (by kernel_rfl) Tryz.ntmps106 (by simp) _ rfl (fun hw gB hgB=>?_)
 repeat' (first|refine sA ?_|refine sC (fun _=>?_) (fun _=>?_)|fail)
 exact retq rfl rfl
def XF (f:Int):Int:=if zW f 2 then 2 else if zW f 1 then 1 else if zW f 16 then 3 else 0
def typeAt (g:Img) (t:Int):Option TD:=if 0≤t then g.types[t.toNat]? else none
theorem Zu (g:Img) (t:Int):there g t=true↔∃ td,typeAt g t=some td:=by
 simp only [there,typeAt,Bool.and_eq_true,decide_eq_true_eq]
 constructor
 ·rintro ⟨h1,h2⟩
  rw [if_pos h1]
  exact ⟨_,List.getElem?_eq_getElem (by omega)⟩
 ·rintro ⟨td,h⟩
  split at h
  ·rename_i h0
   have:=(List.getElem?_eq_some_iff.1 h).1
   omega
  ·cases h
theorem yQ {g:Img} {t:Int} {td:TD} (h:typeAt g t=some td):0≤t∧(g.types.map Zb)[t.toNat]?=some (Zb td):=by
 unfold typeAt at h
 split at h
 ·rename_i h0;exact ⟨h0,by simp [h]⟩
 ·cases h
def zB (g:Img) (t:Int):Int:=match typeAt g t with|some td=>XF td.flags|none => -1
theorem qh (g:Img) (t:Int):ACall Tryz.prog 62 [zq g,pi t] (pi (zB g t)):=by
 refine zf zh Tryz.func62 rfl (by kernel_rfl) Tryz.ntmps62 (by simp) _ rfl (fun hw gB hgB=>?_)
 by_cases h:there g t=true
 ·have c1:ACall Tryz.prog 105 [zq g,pi t] (pb true):=by rw [←h];exact Yg g t
  obtain ⟨td,htd⟩:=(Zu g t).1 h
  obtain ⟨h0,he⟩:=yQ htd
  repeat' (first|(refine shC ?_;first|refine qC c1 ?_|refine qC (zi7 _) ?_|refine qC (zjc _) ?_|refine qC (zhh _) ?_)|(refine shX ?_;first|refine zu rfl (zk zh rfl rfl rfl rfl rfl rfl h0 he) rfl rfl ?_|refine AD.step _ _ _ _ _ rfl (zk zh rfl rfl rfl rfl rfl rfl h0 he) rfl rfl ?_)|refine sA ?_|refine sC (fun _=>?_) (fun _=>?_)|fail)
  all_goals (refine retq rfl ?_)
  all_goals (simp_all [zB,XF,zi])
 ·have c1:ACall Tryz.prog 105 [zq g,pi t] (pb false):=by rw [←Bool.eq_false_iff.2 h];exact Yg g t
  have hn:typeAt g t=none:=by
   cases e:typeAt g t with
   | none=>rfl
   | some td=>exact (h ((Zu g t).2 ⟨td,e⟩)).elim
  repeat' (first|(refine shC ?_;first|refine qC c1 ?_)|refine sA ?_|refine sC (fun _=>?_) (fun _=>?_)|fail)
  exact retq rfl (by simp [zi,zB,hn])
def qB (f k:Int):Bool:=IntKind.i64.wrap ((BitVec.ofInt IntKind.i64.bits f &&& BitVec.ofInt IntKind.i64.bits k).toNat:Int) != 0
def zgc (f:Int):Int:=if qB f 2 then 2 else if qB f 1 then 1 else if qB f 16 then 3 else 0
def YU (g:Img) (t:Int):Int:=match typeAt g t with|some td=>zgc td.flags|none => -1
theorem zeL (td:TD):ACall Tryz.prog 89 [Zb td] (pi (zgc td.flags)):=by
 refine zf zh Tryz.func89 rfl (by kernel_rfl) Tryz.ntmps89 (by simp) _ rfl (fun hw gB hgB=>?_)
 repeat' (first|refine sA ?_|refine sC (fun _=>?_) (fun _=>?_)|fail)
 all_goals (refine retq rfl ?_)
 all_goals (simp_all [zgc,qB,zi])
theorem zdr (g:Img) (t:Int):ACall Tryz.prog 46 [zq g,pi t] (pi (YU g t)):=by
 refine zf zh Tryz.func46 rfl (by kernel_rfl) Tryz.ntmps46 (by simp) _ rfl (fun hw gB hgB=>?_)
 by_cases h:there g t=true
 ·have c1:ACall Tryz.prog 88 [zq g,pi t] (pb true):=by rw [←h];exact YE g t
  obtain ⟨td,htd⟩:=(Zu g t).1 h
  obtain ⟨h0,he⟩:=yQ htd
  repeat' (first|(refine shC ?_;first|refine qC c1 ?_|refine qC (zeL td) ?_)|(refine shX ?_;first|refine zu rfl (zk zh rfl rfl rfl rfl rfl rfl h0 he) rfl rfl ?_|refine AD.step _ _ _ _ _ rfl (zk zh rfl rfl rfl rfl rfl rfl h0 he) rfl rfl ?_)|refine sA ?_|refine sC (fun _=>?_) (fun _=>?_)|fail)
  exact retq rfl (by simp [zi,YU,htd])
 ·have c1:ACall Tryz.prog 88 [zq g,pi t] (pb false):=by rw [←Bool.eq_false_iff.2 h];exact YE g t
  have hn:typeAt g t=none:=by
   cases e:typeAt g t with
   | none=>rfl
   | some td=>exact (h ((Zu g t).2 ⟨td,e⟩)).elim
  repeat' (first|(refine shC ?_;first|refine qC c1 ?_)|refine sA ?_|refine sC (fun _=>?_) (fun _=>?_)|fail)
  exact retq rfl (by simp [zi,YU,hn])
def zrP (g:Img) (t:Ty):Bool:=plain t 5&&YU g t.index==0
end Go.Cg
