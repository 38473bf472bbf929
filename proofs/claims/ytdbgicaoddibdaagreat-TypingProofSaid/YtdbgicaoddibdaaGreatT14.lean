/- A part of the walks by abstract values: no statement of its own. -/
import Derived.Test.YtdbgicaoddibdaaGreatT10
import Derived.Test.YtdbgicaoddibdaaGreatT8
import Derived.Test.YtdbgicaoddibdaaGreatT11
set_option linter.unusedVariables false
set_option linter.unusedSimpArgs false
namespace Go.Cg
open Go.Proofs
theorem zY {α:Type} {f:α→PV} {l:List α} {k:Nat} (h:k < l.length):(l.map f)[((k:Int)).toNat]?=some (f l[k]):=by simp [h]
def zd6 (n:Int) (f:Int):Bool:=decide (0≤f)&&decide (f < n)
def Qj (t:TD) (n:Int):Bool :=
 zbM t.name&&decide (0≤t.flags)&&decide (t.flags≤31)&&decide (-1≤t.ext)&&decide (t.ext < n)&&decide ((t.faces.length:Int)≤4)&&t.faces.all (zd6 n)
def codeOk (g:Img) (m:Me) (x:Ins):Bool:=WQ x==0 &&
 (if yL x.op==5 then decide (x.arg < (m.code.length:Int)) else if yL x.op==6 then decide (x.arg < (g.methods.length:Int))
  else if yL x.op==7 then decide (x.arg < (g.fields.length:Int)) else if yL x.op==8 then zjT x.t g.types.length else true)
theorem zsz {x:Ins} (h:(WQ x != 0)=false):1≤x.op∧x.op≤75:=by
 simp [WQ] at h;by_cases h1:x.op < 1∨75 < x.op
 ·simp [h1] at h
 ·omega
def zeZ (t:Ty):Bool:=(t.kind==0&&(t.index==0&&(t.dims==0&&(t.ref==false&&true))))
def Wv (g:Img) (c:Cl):Bool:=!((c.kind==1&&!Vg c.t 1 g.types.length)||(c.kind != 1&&!zeZ c.t))
def zac (g:Img) (m:Me):Bool:=decide ((m.code.length:Int)≤160)&&m.code.all (codeOk g m)&&m.clauses.all (Wv g)&&zfp m.code.length m.clauses
def ZT (g:Img) (m:Me):Bool :=
 zbM m.name&&decide (0≤m.flags)&&decide (m.flags≤31)&&decide (0≤m.max)&&decide (m.max≤12)&&decide ((m.params.length:Int)≤6)&&decide ((m.locals.length:Int)≤12)&&Vg m.ret 3 g.types.length
 && m.params.all (fun t=>Vg t 2 g.types.length)&&m.locals.all (fun t=>Vg t 2 g.types.length)&&zac g m
def zdN (t:TD):Bool:=!decide ((t.faces.length:Int)≤20)||!decide ((t.name.size:Int)≤100)
def zcL (m:Me):Bool:=!decide ((m.params.length:Int)≤30)||!decide ((m.locals.length:Int)≤30)||!decide ((m.code.length:Int)≤200)||!decide ((m.clauses.length:Int)≤20)||!decide ((m.name.size:Int)≤100)
def za9 (g:Img):Bool:=!decide ((g.types.length:Int)≤40)||!decide ((g.fields.length:Int)≤80)||!decide ((g.methods.length:Int)≤80)||g.types.any zdN||g.methods.any zcL
set_option maxHeartbeats 1000000 in
theorem zrq (g:Img):ACall Tryz.prog 10 [zO g] (pb (za9 g)):=by
 refine zi zf Tryz.func10 rfl zws Tryz.ntmps10 zwy63 _ rfl (fun hw gB hgB=>?_)
 repeat' (first|refine sA ?_|refine sC (fun _=>?_) (fun _=>?_)|fail)
 all_goals first|(refine ay ?_;first|(simp only [zC,za9,BL,List.length_map] at *;simp only [*,BL,List.length_map];done)|(simp_all [zC,za9];done)|(simp_all [zC,za9];omega)|(simp_all [zC,za9];intros;omega))|(refine zbf rfl ?_;first|(simp only [zC,za9,BL,List.length_map] at *;simp only [*,BL,List.length_map];done)|(simp_all [zC,za9];done)|(simp_all [zC,za9];omega)|(simp_all [zC,za9];intros;omega))|skip
 refine zW (fun k:Nat=>[(1,.pv (.ptr (zO g) 0)),(3,.pv (pi k))]) (fun _=>[]) (fun k=>k≤g.types.length∧za9 g=((g.types.drop k).any zdN||g.methods.any zcL)) (fun k=>g.types.length - k) 0 ⟨by simp,by simp_all [za9]⟩ (tS) tH ?_;have ht:g.types.length≤40:=by simp_all;omega
 have hm:g.methods.length≤80:=by simp_all;omega
 rintro k ⟨hk,hr⟩;by_cases hlt:k < g.types.length
 ·have he:=zY (f:=ZB) hlt;rw [zcu hlt] at hr
  repeat' (first|(refine shX ?_;first|refine qX he ?_)|refine sK ?_|refine sC (fun _=>?_) (fun _=>?_)|fail)
  all_goals first|(refine ay ?_;first|(simp only [zC,zdN,BL,List.length_map] at *;simp only [*,BL,List.length_map];done)|(simp_all [zC,zdN];done)|(simp_all [zC,zdN];omega)|(simp_all [zC,zdN];intros;omega))|(refine ⟨k + 1,⟨by omega,?_⟩,tD,tS,tH⟩;first|(simp only [zdN,BL,List.length_map] at *;simp only [*,BL,List.length_map];done)|(simp_all [zdN];done)|(simp_all [zdN];omega)|(simp_all [zdN];intros;omega))|(trace "LEND";trace_state)
 ·rw [drop_end zwy62] at hr
  repeat' (first|refine sK ?_|refine sC (fun _=>?_) (fun _=>?_)|fail)
  refine zW (fun k:Nat=>[(1,.pv (.ptr (zO g) 0)),(4,.pv (pi k))]) (fun _=>[]) (fun k=>k≤g.methods.length∧za9 g=(g.methods.drop k).any zcL) (fun k=>g.methods.length - k) 0 ⟨by simp,by simp_all⟩ (tS) tH ?_;clear hk hr hlt;rintro k ⟨hk,hr⟩;by_cases hlt:k < g.methods.length
  ·have he:=zY (f:=yh) hlt;rw [zcu hlt] at hr
   repeat' (first|(refine shX ?_;first|refine qX he ?_)|refine sK ?_|refine sC (fun _=>?_) (fun _=>?_)|fail)
   all_goals first|(refine ay ?_;first|(simp only [zC,zcL,BL,List.length_map] at *;simp only [*,BL,List.length_map];done)|(simp_all [zC,zcL];done)|(simp_all [zC,zcL];omega)|(simp_all [zC,zcL];intros;omega))|(refine ⟨k + 1,⟨by omega,?_⟩,tD,tS,tH⟩;first|(simp only [zcL,BL,List.length_map] at *;simp only [*,BL,List.length_map];done)|(simp_all [zcL];done)|(simp_all [zcL];omega)|(simp_all [zcL];intros;omega))|(trace "LEND";trace_state)
  ·rw [drop_end zwy62] at hr
   repeat' (first|refine sK ?_|refine sC (fun _=>?_) (fun _=>?_)|fail)
   all_goals first|(refine ay ?_;first|(simp only [zC,BL,List.length_map] at *;simp only [*,BL,List.length_map];done)|(simp_all [zC];done)|(simp_all [zC];omega)|(simp_all [zC];intros;omega))|(refine zbf rfl ?_;first|(simp only [zC,BL,List.length_map] at *;simp only [*,BL,List.length_map];done)|(simp_all [zC];done)|(simp_all [zC];omega)|(simp_all [zC];intros;omega))|skip
def zh7 (g:Img) (i:Nat):Bool :=
 let f:=g.fields.getD i default
 zbM f.name&&decide (0≤f.owner)&&decide (f.owner < g.types.length)&&(i==0||decide ((g.fields.getD (i - 1) default).owner≤f.owner))&&Vg f.ty 1 g.types.length
def zjr (g:Img) (i:Nat):Bool :=
 let m:=g.methods.getD i default
 decide (0≤m.owner)&&decide (m.owner < g.types.length)&&(i==0||decide ((g.methods.getD (i - 1) default).owner≤m.owner))&&ZT g m
def yI (g:Img):Bool :=
 decide ((g.types.length:Int)≤32)&&decide ((g.fields.length:Int)≤64)&&decide ((g.methods.length:Int)≤64)&&decide (-1≤g.entry)&&decide (g.entry < g.methods.length)
 && g.types.all (fun t=>Qj t g.types.length)&&(List.range g.fields.length).all (zh7 g)&&(List.range g.methods.length).all (zjr g)
theorem YS {p:Nat→Bool} {n k:Nat} (h:k < n):((List.range n).drop k).all p=(p k&&((List.range n).drop (k + 1)).all p):=by
 rw [zi7 zwy97];simp
theorem zii {p:Nat→Bool} {n k:Nat} (h:k < n):((List.range n).drop k).any p=(p k||((List.range n).drop (k + 1)).any p):=by
 rw [zcu zwy97];simp
theorem zT {α:Type} {d:α} {l:List α} {k:Nat} (h:k < l.length):l.getD k d=l[k]:=by rw [List.getD_eq_getElem?_getD,List.getElem?_eq_getElem h];rfl
theorem zqS {g:Img} (h:(zO g).lenOk):g.types.length≤9223372036854775807∧g.fields.length≤9223372036854775807∧g.methods.length≤9223372036854775807:=by
 simp only [zO,PV.lenOk,lensOk,maxLen,List.length_map] at h;exact ⟨h.1.1,h.2.1.1,h.2.2.1.1⟩
theorem zsY {g:Img} {k:Nat} (h:k < g.fields.length):zh7 g k=(zbM g.fields[k].name&&decide (0≤g.fields[k].owner)&&decide (g.fields[k].owner < g.types.length)&&(k==0||decide ((g.fields.getD (k - 1) default).owner≤g.fields[k].owner))&&Vg g.fields[k].ty 1 g.types.length):=by
 rw [zh7,zT h]
def zbw (g:Img):Nat→Int→List Int→List Int
 | 0,_,out=>out
 | n + 1,t,out=>match typeAt g t with
  | some td=>if t∈out then out else zbw g n td.ext (out++[t])
  | none=>out
def up (g:Img) (t:Int):List Int:=zbw g (g.types.length + 1) t []
def UpInv (g:Img) (t0:Int) (x:Int × List Int):Prop:=zbw g (g.types.length + 1 - x.2.length) x.1 x.2=up g t0∧x.2.Nodup∧∀ y∈x.2,0≤y∧y < g.types.length
theorem Wy {g:Img} {t:Int} {td:TD} (h:typeAt g t=some td):0≤t∧t < g.types.length:=by
 unfold typeAt at h;split at h
 ·have:=(List.getElem?_eq_some_iff.1 h).1;omega
 ·cases h
theorem UpInv.len {g:Img} {t0:Int} {x:Int × List Int} (h:UpInv g t0 x):x.2.length≤g.types.length:=Yl _ _ h.2.1 h.2.2
theorem UpInv.next {g:Img} {t0:Int} {t:Int} {out:List Int} {td:TD} (h:UpInv g t0 (t,out)) (ht:typeAt g t=some td) (hn:t∉out):UpInv g t0 (td.ext,out++[t]):=by
 have hl:=h.len;obtain ⟨h1,h2,h3⟩:=h;simp only at h1 h2 h3 hl;rw [show g.types.length + 1 - out.length=(g.types.length + 1 - (out++[t]).length) + 1 by simp;omega,zbw,ht] at h1;simp only [hn,if_false] at h1;refine ⟨h1,?_,?_⟩
 ·rw [List.nodup_append];simp [h2];intro a ha e;subst e;exact hn ha
 ·intro y hy;simp only [List.mem_append,List.mem_singleton] at hy;rcases hy with hy|rfl
  ·exact h3 y hy
  ·exact Wy ht
theorem UpInv.stop {g:Img} {t0:Int} {t:Int} {out:List Int} (h:UpInv g t0 (t,out)) (hs:typeAt g t=none∨t∈out):out=up g t0:=by
 have hl:=h.len;obtain ⟨h1,h2,h3⟩:=h;simp only at h1 h2 h3 hl;rw [show g.types.length + 1 - out.length=(g.types.length - out.length) + 1 by omega,zbw] at h1;cases ht:typeAt g t with
 | none=>rw [ht] at h1;exact h1
 | some td =>
  rcases hs with hs|hs
  ·rw [ht] at hs;cases hs
  ·rw [ht] at h1;simpa [hs] using h1
end Go.Cg
