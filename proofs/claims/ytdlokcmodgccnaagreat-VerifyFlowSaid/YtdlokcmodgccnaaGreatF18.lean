/- A part of the walks by abstract values: no statement of its own. -/
import Derived.Test.YtdlokcmodgccnaaGreatF12
import Derived.Test.YtdlokcmodgccnaaGreatF16
import Derived.Test.YtdlokcmodgccnaaGreatF6
set_option linter.unusedVariables false
set_option linter.unusedSimpArgs false
namespace Go.Cg
open Go.Proofs
set_option maxHeartbeats 20000000
def fieldsOf (g:Img) (t:Int):List Int:=(nums g.fields.length).filter fun i=>there g t&&(g.fields.getD i.toNat default).owner==t
def methodsOf (g:Img) (t:Int):List Int:=(nums g.methods.length).filter fun i=>there g t&&(g.methods.getD i.toNat default).owner==t
theorem zdZ {n k:Nat} (h:k < (nums n).length):(nums n)[k]=(k:Int):=by simp [nums]
theorem zbs (g:Img) (t:Int) (hg:g.fields.length≤1000):ACall Tryz.prog 265 [zq g,pi t] (ints (fieldsOf g t)):=by
 refine zf zh Tryz.func265 rfl (by kernel_rfl) Tryz.ntmps265 (by simp) _ rfl (fun hw gB hgB=>?_)
 repeat' (first|refine sA ?_|refine sC (fun _=>?_) (fun _=>?_)|fail)
 refine yS (t:=5) 0 3 1 (by decide) rfl rfl ?_
 refine zo (fun x:Nat × List Int=>[(1,.pv (pi t)),(2,.pv (.ptr (zq g) 0)),(5,.own 0),(6,.pv (pi x.1))]) (fun x=>[(0,.row 3 1 (x.2.map pi))])
  (fun x=>x.1≤g.fields.length∧x.2.length≤x.1∧x.2++((nums g.fields.length).drop x.1).filter (fun i=>there g t&&(g.fields.getD i.toNat default).owner==t)=fieldsOf g t) (fun x=>g.fields.length - x.1) (0,[]) ⟨by simp,by simp,rfl⟩ (tS) ⟨zn rfl zl,rfl⟩ ?_
 rintro ⟨k,out⟩ ⟨hk,hol,hr⟩
 simp only at hk hol hr
 by_cases hlt:k < g.fields.length
 ·have he:=zA (f:=Yc) hlt
  rw [drop_cons (by simpa [nums] using hlt),List.filter_cons,zdZ,Int.toNat_natCast,zx hlt] at hr
  have c1:=Yg g t
  cases hth:there g t
  ·rw [hth] at c1
   repeat' (first|(refine shC ?_;first|refine qC c1 ?_)|refine sK ?_|refine sC (fun _=>?_) (fun _=>?_)|fail)
   exact ⟨(k + 1,out),⟨by simp;omega,by simp;omega,by simpa [hth] using hr⟩,tD,tS,⟨yX rfl rfl zl,rfl⟩⟩
  ·rw [hth] at c1
   repeat' (first|(refine shC ?_;first|refine qC c1 ?_)|(refine shX ?_;first|refine qX he ?_)|(refine zI ?_;first|refine yc zh rfl rfl rfl rfl rfl rfl rfl (by show _ * 8≤_;simp;omega) (by simp;omega) rfl rfl ?_)|refine sK ?_|refine sC (fun _=>?_) (fun _=>?_)|fail)
   ·rename_i hx
    rw [hth,hx] at hr
    exact ⟨(k + 1,out++[(k:Int)]),⟨by simp;omega,by simp;omega,by simpa [hth] using hr⟩,tD,tS,⟨yX rfl (by simp) zl,rfl⟩⟩
   ·rename_i hx
    rw [hth,hx] at hr
    exact ⟨(k + 1,out),⟨by simp;omega,by simp;omega,by simpa [hth] using hr⟩,tD,tS,⟨yX rfl rfl zl,rfl⟩⟩
 ·rw [drop_end (by simp [nums];omega)] at hr
  repeat' (first|refine sK ?_|refine sC (fun _=>?_) (fun _=>?_)|fail)
  exact retq rfl (by rw [←hr];simp [zi,ints])
theorem YS (g:Img) (t:Int) (hg:g.methods.length≤1000):ACall Tryz.prog 64 [zq g,pi t] (ints (methodsOf g t)):=by
 refine zf zh Tryz.func64 rfl (by kernel_rfl) Tryz.ntmps64 (by simp) _ rfl (fun hw gB hgB=>?_)
 repeat' (first|refine sA ?_|refine sC (fun _=>?_) (fun _=>?_)|fail)
 refine yS (t:=5) 0 3 1 (by decide) rfl rfl ?_
 refine zo (fun x:Nat × List Int=>[(1,.pv (pi t)),(2,.pv (.ptr (zq g) 0)),(5,.own 0),(6,.pv (pi x.1))]) (fun x=>[(0,.row 3 1 (x.2.map pi))])
  (fun x=>x.1≤g.methods.length∧x.2.length≤x.1∧x.2++((nums g.methods.length).drop x.1).filter (fun i=>there g t&&(g.methods.getD i.toNat default).owner==t)=methodsOf g t) (fun x=>g.methods.length - x.1) (0,[]) ⟨by simp,by simp,rfl⟩ (tS) ⟨zn rfl zl,rfl⟩ ?_
 rintro ⟨k,out⟩ ⟨hk,hol,hr⟩
 simp only at hk hol hr
 by_cases hlt:k < g.methods.length
 ·have he:=zA (f:=zG) hlt
  rw [drop_cons (by simpa [nums] using hlt),List.filter_cons,zdZ,Int.toNat_natCast,zx hlt] at hr
  have c1:=Yg g t
  cases hth:there g t
  ·rw [hth] at c1
   repeat' (first|(refine shC ?_;first|refine qC c1 ?_)|refine sK ?_|refine sC (fun _=>?_) (fun _=>?_)|fail)
   exact ⟨(k + 1,out),⟨by simp;omega,by simp;omega,by simpa [hth] using hr⟩,tD,tS,⟨yX rfl rfl zl,rfl⟩⟩
  ·rw [hth] at c1
   repeat' (first|(refine shC ?_;first|refine qC c1 ?_)|(refine shX ?_;first|refine qX he ?_)|(refine zI ?_;first|refine yc zh rfl rfl rfl rfl rfl rfl rfl (by show _ * 8≤_;simp;omega) (by simp;omega) rfl rfl ?_)|refine sK ?_|refine sC (fun _=>?_) (fun _=>?_)|fail)
   ·rename_i hx
    rw [hth,hx] at hr
    exact ⟨(k + 1,out++[(k:Int)]),⟨by simp;omega,by simp;omega,by simpa [hth] using hr⟩,tD,tS,⟨yX rfl (by simp) zl,rfl⟩⟩
   ·rename_i hx
    rw [hth,hx] at hr
    exact ⟨(k + 1,out),⟨by simp;omega,by simp;omega,by simpa [hth] using hr⟩,tD,tS,⟨yX rfl rfl zl,rfl⟩⟩
 ·rw [drop_end (by simp [nums];omega)] at hr
  repeat' (first|refine sK ?_|refine sC (fun _=>?_) (fun _=>?_)|fail)
  exact retq rfl (by rw [←hr];simp [zi,ints])
def zaB (a b:Me):Bool:=decide (a.ret=b.ret)&&(a.flags.tmod 2==b.flags.tmod 2)&&decide (a.params=b.params)
theorem zex (a b:Me):ACall Tryz.prog 189 [zG a,zG b] (pb (zaB a b)):=by
 refine zf zh Tryz.func189 rfl (by kernel_rfl) Tryz.ntmps189 (by simp) _ rfl (fun hw gB hgB=>?_)
 have hty:=QD a.ret b.ret
 repeat' (first|(refine shC ?_;first|refine qC (zca _ _) ?_)|refine sA ?_|refine sC (fun _=>?_) (fun _=>?_)|fail)
 all_goals refine retq rfl ?_
 all_goals (simp only [zi,zaB,←hty];clear hty;simp_all)
def zcu (g:Img) (i:Int):Bool :=
 let f:=g.fields.getD i.toNat default
 !f.static&&f.ty.kind==6&&f.ty.dims==0&&zB g f.ty.index==1
def partsOf (g:Img) (t:Int):List Int:=((fieldsOf g t).filter (zcu g)).map fun i=>(g.fields.getD i.toNat default).ty.index
theorem qU {g:Img} {t i:Int} (h:i∈fieldsOf g t):0≤i∧i.toNat < g.fields.length:=by
 simp only [fieldsOf,nums,List.mem_filter,List.mem_map,List.mem_range] at h
 obtain ⟨⟨k,hk,rfl⟩,_⟩:=h
 exact ⟨by omega,by simpa using hk⟩
theorem yx {g:Img} {t i:Int} (h:i∈methodsOf g t):0≤i∧i.toNat < g.methods.length:=by
 simp only [methodsOf,nums,List.mem_filter,List.mem_map,List.mem_range] at h
 obtain ⟨⟨k,hk,rfl⟩,_⟩:=h
 exact ⟨by omega,by simpa using hk⟩
theorem zbU {n:Nat} {p:Int→Bool}:((nums n).filter p).length≤n:=Nat.le_trans (List.length_filter_le _ _) (by simp [nums])
theorem YF (g:Img) (t:Int):(fieldsOf g t).length≤g.fields.length:=zbU
theorem qP (g:Img) (t:Int):(methodsOf g t).length≤g.methods.length:=zbU
theorem qE {α:Type} {f:α→PV} {l:List α} {i:Int} (h:i.toNat < l.length):(l.map f)[i.toNat]?=some (f l[i.toNat]):=by simp [h]
theorem zfM (g:Img) (t:Int) (hg:g.fields.length≤1000):ACall Tryz.prog 266 [zq g,pi t] (ints (partsOf g t)):=by
 refine zf zh Tryz.func266 rfl (by kernel_rfl) Tryz.ntmps266 (by simp) _ rfl (fun hw gB hgB=>?_)
 have hfl:=YF g t
 repeat' (first|(refine shC ?_;first|refine qC (zbs g t hg) ?_)|refine sA ?_|refine sC (fun _=>?_) (fun _=>?_)|fail)
 refine yS (t:=5) 0 3 1 (by decide) rfl rfl ?_
 refine zo (fun x:Nat × List Int=>[(2,.pv (.ptr (zq g) 0)),(5,.own 0),(6,.pv (ints (fieldsOf g t))),(7,.pv (pi x.1))]) (fun x=>[(0,.row 3 1 (x.2.map pi))])
  (fun x=>x.1≤(fieldsOf g t).length∧x.2.length≤x.1∧x.2++(((fieldsOf g t).drop x.1).filter (zcu g)).map (fun i=>(g.fields.getD i.toNat default).ty.index)=partsOf g t) (fun x=>(fieldsOf g t).length - x.1) (0,[]) ⟨by simp,by simp,rfl⟩ (tS) ⟨zn rfl zl,rfl⟩ ?_
 rintro ⟨k,out⟩ ⟨hk,hol,hr⟩
 simp only at hk hol hr
 by_cases hlt:k < (fieldsOf g t).length
 ·have he:=yT hlt
  obtain ⟨h0,hi⟩:=qU (List.getElem_mem hlt)
  have hef:=qE (f:=Yc) hi
  rw [drop_cons hlt,List.filter_cons,zcu] at hr
  simp only [zx hi] at hr
  repeat' (first|refine yE 1 8 0 zh rfl (by kernel_rfl) (by kernel_rfl) (by kernel_rfl) rfl rfl rfl rfl rfl rfl rfl rfl rfl rfl rfl rfl rfl rfl (fun _=>rfl) rfl rfl rfl ?_|refine ⟨_,_,rfl,rfl,rfl,?_⟩|(refine shC ?_;first|refine qC (qh _ _) ?_)|(refine shX ?_;first|refine qX he ?_|refine zu rfl (zk zh rfl rfl rfl rfl rfl rfl h0 hef) rfl rfl ?_|refine AD.step _ _ _ _ _ rfl (zk zh rfl rfl rfl rfl rfl rfl h0 hef) rfl rfl ?_)|(refine zI ?_;first|refine yc zh rfl rfl rfl rfl rfl rfl rfl (by show _ * 8≤_;simp;omega) (by simp;omega) rfl rfl ?_)|refine sK ?_|refine sC (fun _=>?_) (fun _=>?_)|fail)
  ·rw [if_pos (by simp_all)] at hr
   exact ⟨(k + 1,out++[g.fields[(fieldsOf g t)[k].toNat].ty.index]),⟨by simp;omega,by simp;omega,by rw [List.map_cons,zx hi] at hr;simpa using hr⟩,tD,tS,⟨yX rfl (by simp) zl,rfl⟩⟩
  all_goals
   rw [if_neg (by simp_all)] at hr
   exact ⟨(k + 1,out),⟨by simp;omega,by simp;omega,by simpa using hr⟩,tD,tS,⟨yX rfl rfl zl,rfl⟩⟩
 ·rw [drop_end (by omega)] at hr
  repeat' (first|refine sK ?_|refine sC (fun _=>?_) (fun _=>?_)|fail)
  exact retq rfl (by rw [←hr];simp [zi,ints])
set_option maxHeartbeats 20000000
def ql (td:TD):Bool :=
 if XF td.flags==2 then td.ext == -1&&zW td.flags 4&&!zW td.flags 1&&!zW td.flags 8&&!zW td.flags 16
 else if XF td.flags==1 then td.ext == -1&&zW td.flags 8&&!zW td.flags 4&&!zW td.flags 16
 else if XF td.flags==3 then td.ext == -1&&zW td.flags 8&&!zW td.flags 4&&((td.faces.length:Int)==0)
 else true
theorem zjV (g:Img) (t:Int) (td:TD) (htd:typeAt g t=some td):ACall Tryz.prog 232 [zq g,pi t] (pb (ql td)):=by
 refine zf zh Tryz.func232 rfl (by kernel_rfl) Tryz.ntmps232 (by simp) _ rfl (fun hw gB hgB=>?_)
 obtain ⟨h0,he⟩:=yQ htd
 have c1:=qh g t
 rw [show zB g t=XF td.flags by rw [zB,htd]] at c1
 repeat' (first|(refine shC ?_;first|refine qC c1 ?_|refine qC (zjc _) ?_|refine qC (zi7 _) ?_|refine qC (zqm _) ?_|refine qC (zfg _) ?_|refine qC (zhh _) ?_)|(refine shX ?_;first|refine zu rfl (zk zh rfl rfl rfl rfl rfl rfl h0 he) rfl rfl ?_|refine AD.step _ _ _ _ _ rfl (zk zh rfl rfl rfl rfl rfl rfl h0 he) rfl rfl ?_)|refine sA ?_|refine sC (fun _=>?_) (fun _=>?_)|fail)
 all_goals first|(refine retq rfl ?_;first|(simp only [zi,ql,BL,List.length_map] at *;simp only [*,BL,List.length_map];done)|(simp_all [zi,ql];done)|(simp_all [zi,ql];omega)|(simp_all [zi,ql];intros;omega))|(refine ZA rfl ?_;first|(simp only [zi,ql,BL,List.length_map] at *;simp only [*,BL,List.length_map];done)|(simp_all [zi,ql];done)|(simp_all [zi,ql];omega)|(simp_all [zi,ql];intros;omega))|skip
theorem zga {g:Img}:∀ (n:Nat) (t:Int) (out:List Int),∃ r,za0 g n t out=out++r
 | 0,t,out=>⟨[],by simp [za0]⟩
 | n + 1,t,out=>by
  rw [za0]
  cases ht:typeAt g t with
  | none=>exact ⟨[],by simp⟩
  | some td =>
   by_cases hm:t∈out
   ·exact ⟨[],by simp [hm]⟩
   ·obtain ⟨r,hr⟩:=zga n td.ext (out++[t])
    exact ⟨t::r,by simp only [hm,if_false];rw [hr];simp⟩
theorem zdV {g:Img} {t:Int} {td:TD} (h:typeAt g t=some td):∃ r,up g t=t::r:=by
 obtain ⟨r,hr⟩:=zga (g:=g) g.types.length td.ext [t]
 exact ⟨r,by rw [up,za0,h];simpa using hr⟩
def WX (g:Img) (t:Int):Int:=match typeAt g ((up g t).getLastD 0) with|some td=>td.ext|none => -1
def Xn (g:Img) (t:Int):Int:=match typeAt g t with|some td=>td.flags|none=>0
def XE (g:Img) (t:Int) (td:TD):Bool:=!decide (0≤td.ext)||(zB g td.ext==0&&!zW (Xn g td.ext) 8&&decide (WX g t < 0))
def zbG (g:Img) (l:List Int) (i:Nat):Bool:=zB g (l.getD i 0)==2&&!decide (l.getD i 0∈l.take i)
def QA (g:Img) (t:Int) (td:TD):Bool :=
 XE g t td&&(List.range td.faces.length).all (zbG g td.faces)&&(zB g t != 2||!decide (t∈Zi g t))
theorem zoH (g:Img) (t:Int) (td:TD) (htd:typeAt g t=some td) (hx:td.ext < g.types.length) (hg:g.types.length≤1000) (hfc:∀ td∈g.types,td.faces.length≤1000):ACall Tryz.prog 233 [zq g,pi t] (pb (QA g t td)):=by
 refine zf zh Tryz.func233 rfl (by kernel_rfl) Tryz.ntmps233 (by simp) _ rfl (fun hw gB hgB=>?_)
 obtain ⟨h0,he⟩:=yQ htd
 have hfl:td.faces.length≤1000:=hfc td (by have:=htd;rw [typeAt,if_pos h0] at this;exact List.mem_of_getElem? this)
 have hui:=XR g t
 have hul:=qR _ _ hui.1 hui.2
 obtain ⟨ur,hur⟩:=zdV htd
 have hpos:0 < (up g t).length:=by rw [hur];simp
 refine Qg [(1,.pv (pi t)),(2,.pv (.ptr (zq g) 0))] [] ?_ ?_
 ·repeat' (first|refine sA ?_|refine sC (fun _=>?_) (fun _=>?_)|fail)
  all_goals (refine ⟨?_,tH⟩;repeat (first|exact zT|refine zM rfl ?_|(refine zey rfl ?_ ?_;· (first|(simp_all [XE];done)|(simp_all [XE];omega)))|(refine qg rfl ?_ ?_;· (rw [wrap_in (by omega) (by omega)] <;> omega))))
 refine Qg [(1,.pv (pi t)),(2,.pv (.ptr (zq g) 0)),(5,.pv (pi td.ext))] [] ?_ ?_
 ·repeat' (first|(refine shX ?_;first|refine zu rfl (zk zh rfl rfl rfl rfl rfl rfl h0 he) rfl rfl ?_|refine AD.step _ _ _ _ _ rfl (zk zh rfl rfl rfl rfl rfl rfl h0 he) rfl rfl ?_)|refine sA ?_|refine sC (fun _=>?_) (fun _=>?_)|fail)
  all_goals (refine ⟨?_,tH⟩;repeat (first|exact zT|refine zM rfl ?_|(refine zey rfl ?_ ?_;· (first|(simp_all [XE];done)|(simp_all [XE];omega)))|(refine qg rfl ?_ ?_;· (rw [wrap_in (by omega) (by omega)] <;> omega))))
 have hlast:(up g t)[(up g t).length - 1]?=some ((up g t).getLastD 0):=by
  rw [hur];simp [List.getLastD_eq_getLast?,List.getLast?_eq_getElem?]
 have hlt:(up g t).length - 1 < (up g t).length:=by omega
 obtain ⟨tl,htl⟩:=ZF (g:=g) (t:=(up g t).getLastD 0) (hui.2 _ (List.mem_of_getElem? hlast))
 obtain ⟨hl0,hel⟩:=yQ htl
 have hw1:IntKind.i64.wrap (((up g t).map pi).length - 1:Int)=(((up g t).length - 1:Nat):Int):=by rw [List.length_map,wrap_in (by omega) (by omega)];omega
 have heU:((up g t).map pi)[(IntKind.i64.wrap (((up g t).map pi).length - 1:Int)).toNat]?=some (pi ((up g t).getLastD 0)):=by rw [hw1];simp [hlast]
 have htop:WX g t=tl.ext:=by rw [WX,htl]
 cases hxo:XE g t td
 ·have hpos:0≤td.ext:=by
   rw [XE] at hxo
   simp only [Bool.or_eq_false_iff,Bool.not_eq_false',decide_eq_true_eq] at hxo
   exact hxo.1
  obtain ⟨te,hte⟩:=ZF ⟨hpos,hx⟩
  obtain ⟨he0,hee⟩:=yQ hte
  have hfa:Xn g td.ext=te.flags:=by rw [Xn,hte]
  rw [XE,hfa,htop] at hxo
  have hres:QA g t td=false:=by rw [QA,XE,hfa,htop,hxo];rfl
  simp only [decide_eq_true hpos,Bool.not_true,Bool.false_or] at hxo
  by_cases hk:zB g td.ext=0
  ·have c1:=qh g td.ext
   rw [hk] at c1
   have c2:=zfg te.flags
   cases hb:zW te.flags 8
   ·rw [hb] at c2
    have htx:¬ tl.ext < 0:=by simpa [hk,hb] using hxo
    repeat' (first|(refine shC ?_;first|refine qC c1 ?_|refine qC c2 ?_|refine qC (VH g t hg) ?_)|(refine shX ?_;first|refine zu rfl (zk zh rfl rfl rfl rfl rfl rfl he0 hee) rfl rfl ?_|refine AD.step _ _ _ _ _ rfl (zk zh rfl rfl rfl rfl rfl rfl he0 hee) rfl rfl ?_|refine zu rfl (zk zh rfl rfl rfl rfl rfl rfl (by rw [hw1];omega) heU) rfl rfl ?_|refine AD.step _ _ _ _ _ rfl (zk zh rfl rfl rfl rfl rfl rfl (by rw [hw1];omega) heU) rfl rfl ?_|refine zu rfl (zk zh rfl rfl rfl rfl rfl rfl hl0 hel) rfl rfl ?_|refine AD.step _ _ _ _ _ rfl (zk zh rfl rfl rfl rfl rfl rfl hl0 hel) rfl rfl ?_)|refine sK ?_|refine sC (fun _=>?_) (fun _=>?_)|fail)
    all_goals exact retq rfl (by simp [zi,hres])
   ·rw [hb] at c2
    repeat' (first|(refine shC ?_;first|refine qC c1 ?_|refine qC c2 ?_)|(refine shX ?_;first|refine zu rfl (zk zh rfl rfl rfl rfl rfl rfl he0 hee) rfl rfl ?_|refine AD.step _ _ _ _ _ rfl (zk zh rfl rfl rfl rfl rfl rfl he0 hee) rfl rfl ?_)|refine sK ?_|refine sC (fun _=>?_) (fun _=>?_)|fail)
    all_goals exact retq rfl (by simp [zi,hres])
  ·have hkb:(zB g td.ext != 0)=true:=by simp [hk]
   repeat' (first|(refine shC ?_;first|refine qC (qh _ _) ?_)|refine sK ?_|refine sC (fun _=>?_) (fun _=>?_)|fail)
   all_goals exact retq rfl (by simp [zi,hres])
 ·refine Qg [(1,.pv (pi t)),(2,.pv (.ptr (zq g) 0))] [] ?_ ?_
  ·by_cases hpos:0≤td.ext
   ·obtain ⟨te,hte⟩:=ZF ⟨hpos,hx⟩
    obtain ⟨he0,hee⟩:=yQ hte
    have hfa:Xn g td.ext=te.flags:=by rw [Xn,hte]
    rw [XE,hfa,htop] at hxo
    simp only [decide_eq_true hpos,Bool.not_true,Bool.false_or,Bool.and_eq_true,beq_iff_eq,Bool.not_eq_true',decide_eq_true_eq] at hxo
    have c1:=qh g td.ext
    rw [hxo.1.1] at c1
    have c2:=zfg te.flags
    rw [hxo.1.2] at c2
    have htx:=hxo.2
    repeat' (first|(refine shC ?_;first|refine qC c1 ?_|refine qC c2 ?_|refine qC (VH g t hg) ?_)|(refine shX ?_;first|refine zu rfl (zk zh rfl rfl rfl rfl rfl rfl he0 hee) rfl rfl ?_|refine AD.step _ _ _ _ _ rfl (zk zh rfl rfl rfl rfl rfl rfl he0 hee) rfl rfl ?_|refine zu rfl (zk zh rfl rfl rfl rfl rfl rfl (by rw [hw1];omega) heU) rfl rfl ?_|refine AD.step _ _ _ _ _ rfl (zk zh rfl rfl rfl rfl rfl rfl (by rw [hw1];omega) heU) rfl rfl ?_|refine zu rfl (zk zh rfl rfl rfl rfl rfl rfl hl0 hel) rfl rfl ?_|refine AD.step _ _ _ _ _ rfl (zk zh rfl rfl rfl rfl rfl rfl hl0 hel) rfl rfl ?_)|refine sK ?_|refine sC (fun _=>?_) (fun _=>?_)|fail)
    all_goals (refine ⟨?_,tH⟩;repeat (first|exact zT|refine zM rfl ?_|(refine zey rfl ?_ ?_;· (first|(simp_all [XE];done)|(simp_all [XE];omega)))|(refine qg rfl ?_ ?_;· (rw [wrap_in (by omega) (by omega)] <;> omega))))
   ·repeat' (first|refine sK ?_|refine sC (fun _=>?_) (fun _=>?_)|fail)
    all_goals (refine ⟨?_,tH⟩;repeat (first|exact zT|refine zM rfl ?_|(refine zey rfl ?_ ?_;· (first|(simp_all [XE];done)|(simp_all [XE];omega)))|(refine qg rfl ?_ ?_;· (rw [wrap_in (by omega) (by omega)] <;> omega))))
  repeat' (first|(refine shX ?_;first|refine zu rfl (zk zh rfl rfl rfl rfl rfl rfl h0 he) rfl rfl ?_|refine AD.step _ _ _ _ _ rfl (zk zh rfl rfl rfl rfl rfl rfl h0 he) rfl rfl ?_)|refine sA ?_|refine sC (fun _=>?_) (fun _=>?_)|fail)
  refine zo (fun k:Nat=>[(1,.pv (pi t)),(2,.pv (.ptr (zq g) 0)),(7,.pv (ints td.faces)),(8,.pv (pi k))]) (fun _=>[]) (fun k=>k≤td.faces.length∧QA g t td=(((List.range td.faces.length).drop k).all (zbG g td.faces)&&(zB g t != 2||!decide (t∈Zi g t)))) (fun k=>td.faces.length - k) 0 ⟨by simp,by simp [QA,hxo]⟩ (tS) tH ?_
  rintro k ⟨hk,hr⟩
  by_cases hlt:k < td.faces.length
  ·have hef:=yT hlt
   rw [yZ hlt,zbG,zx hlt] at hr
   repeat' (first|refine AD.step _ _ _ _ _ rfl (Zc (xs:=td.faces) (f:=pi) 0 k zh rfl rfl rfl rfl rfl rfl rfl (by omega) (by omega)) rfl rfl ?_|(refine shC ?_;first|refine qC (qh _ _) ?_|refine qC (QE (td.faces.take k) _) ?_)|(refine shX ?_;first|refine qX hef ?_)|refine sK ?_|refine sC (fun _=>?_) (fun _=>?_)|fail)
   all_goals first|(refine retq rfl ?_;first|(simp only [zi,BL,List.length_map] at *;simp only [*,BL,List.length_map];done)|(simp_all [zi];done)|(simp_all [zi];omega)|(simp_all [zi];intros;omega))|(refine ⟨k + 1,⟨by omega,?_⟩,tD,tS,tH⟩;first|(simp only [BL,List.length_map] at *;simp only [*,BL,List.length_map];done)|(simp_all [];done)|(simp_all [];omega)|(simp_all [];intros;omega))|(trace "LEND";trace_state)
  ·rw [drop_end (by simp;omega)] at hr
   repeat' (first|(refine shC ?_;first|refine qC (qh _ _) ?_|refine qC (zfP g t hg hfc) ?_|refine qC (QE _ _) ?_)|refine sK ?_|refine sC (fun _=>?_) (fun _=>?_)|fail)
   all_goals first|(refine retq rfl ?_;first|(simp only [zi,BL,List.length_map] at *;simp only [*,BL,List.length_map];done)|(simp_all [zi];done)|(simp_all [zi];omega)|(simp_all [zi];intros;omega))|(refine ZA rfl ?_;first|(simp only [zi,BL,List.length_map] at *;simp only [*,BL,List.length_map];done)|(simp_all [zi];done)|(simp_all [zi];omega)|(simp_all [zi];intros;omega))|skip
def Vz (g:Img) (t:Int) (td:TD) (i:Nat):Bool:=!((i:Int) != t&&(g.types.getD i default).name.toList==td.name.toList)
def fName (g:Img) (i:Int):ByteArray:=(g.fields.getD i.toNat default).name
def Vw (g:Img) (l:List Int) (i k:Nat):Bool:=!((fName g (l.getD i 0)).toList==(fName g (l.getD k 0)).toList)
def YI (g:Img) (l:List Int) (i k:Nat):Bool :=
 !((g.methods.getD (l.getD i 0).toNat default).name.toList==(g.methods.getD (l.getD k 0).toNat default).name.toList&&zaB (g.methods.getD (l.getD i 0).toNat default) (g.methods.getD (l.getD k 0).toNat default))
def zaO (g:Img) (t:Int) (td:TD):Bool :=
 (List.range g.types.length).all (Vz g t td)
 && (List.range (fieldsOf g t).length).all (fun i=>(List.range i).all (Vw g (fieldsOf g t) i))
 && (List.range (methodsOf g t).length).all (fun i=>(List.range i).all (YI g (methodsOf g t) i))
set_option maxHeartbeats 1000000 in
theorem znw (g:Img) (t:Int) (td:TD) (htd:typeAt g t=some td) (hg:g.types.length≤1000) (hgf:g.fields.length≤1000) (hgm:g.methods.length≤1000):ACall Tryz.prog 234 [zq g,pi t] (pb (zaO g t td)):=by
 refine zf zh Tryz.func234 rfl (by kernel_rfl) Tryz.ntmps234 (by simp) _ rfl (fun hw gB hgB=>?_)
 obtain ⟨h0,heT⟩:=yQ htd
 have hfl:=YF g t
 have hml:=qP g t
 repeat' (first|refine sA ?_|refine sC (fun _=>?_) (fun _=>?_)|fail)
 refine zo (fun k:Nat=>[(1,.pv (pi t)),(2,.pv (.ptr (zq g) 0)),(5,.pv (pi k))]) (fun _=>[]) (fun k=>k≤g.types.length∧zaO g t td=(((List.range g.types.length).drop k).all (Vz g t td)&&(List.range (fieldsOf g t).length).all (fun i=>(List.range i).all (Vw g (fieldsOf g t) i))&&(List.range (methodsOf g t).length).all (fun i=>(List.range i).all (YI g (methodsOf g t) i)))) (fun k=>g.types.length - k) 0 ⟨by simp,rfl⟩ (tS) tH ?_
 rintro k ⟨hk,hr⟩
 by_cases hlt:k < g.types.length
 ·have he:=zA (f:=Zb) hlt
  rw [yZ hlt,Vz,zx hlt] at hr
  repeat' (first|(refine shX ?_;first|refine qX he ?_|refine zu rfl (zk zh rfl rfl rfl rfl rfl rfl h0 heT) rfl rfl ?_|refine AD.step _ _ _ _ _ rfl (zk zh rfl rfl rfl rfl rfl rfl h0 heT) rfl rfl ?_)|refine sK ?_|refine sC (fun _=>?_) (fun _=>?_)|fail)
  all_goals first|(refine retq rfl ?_;first|(simp only [zi,BL,List.length_map] at *;simp only [*,BL,List.length_map];done)|(simp_all [zi];done)|(simp_all [zi];omega)|(simp_all [zi];intros;omega))|(refine ⟨k + 1,⟨by omega,?_⟩,tD,tS,tH⟩;first|(simp only [BL,List.length_map] at *;simp only [*,BL,List.length_map];done)|(simp_all [];done)|(simp_all [];omega)|(simp_all [];intros;omega))|(trace "LEND";trace_state)
 ·rw [drop_end (by simp;omega)] at hr
  repeat' (first|(refine shC ?_;first|refine qC (zbs g t hgf) ?_)|refine sK ?_|refine sC (fun _=>?_) (fun _=>?_)|fail)
  refine zo (fun k:Nat=>[(1,.pv (pi t)),(2,.pv (.ptr (zq g) 0)),(6,.pv (ints (fieldsOf g t))),(7,.pv (pi k))]) (fun _=>[]) (fun k=>k≤(fieldsOf g t).length∧zaO g t td=(((List.range (fieldsOf g t).length).drop k).all (fun i=>(List.range i).all (Vw g (fieldsOf g t) i))&&(List.range (methodsOf g t).length).all (fun i=>(List.range i).all (YI g (methodsOf g t) i)))) (fun k=>(fieldsOf g t).length - k) 0 ⟨by simp,by simp_all⟩ (tS) tH ?_
  clear hk hr hlt
  rintro k ⟨hk,hr⟩
  by_cases hlt:k < (fieldsOf g t).length
  ·have he:=yT hlt
   obtain ⟨hi0,hi⟩:=qU (List.getElem_mem hlt)
   have hef:=qE (f:=Yc) hi
   rw [yZ hlt] at hr
   repeat' (first|refine sK ?_|refine sC (fun _=>?_) (fun _=>?_)|fail)
   refine zo (fun m:Nat=>[(1,.pv (pi t)),(2,.pv (.ptr (zq g) 0)),(6,.pv (ints (fieldsOf g t))),(7,.pv (pi k)),(8,.pv (pi m))]) (fun _=>[]) (fun m=>m≤k∧zaO g t td=(((List.range k).drop m).all (Vw g (fieldsOf g t) k)&&((List.range (fieldsOf g t).length).drop (k + 1)).all (fun i=>(List.range i).all (Vw g (fieldsOf g t) i))&&(List.range (methodsOf g t).length).all (fun i=>(List.range i).all (YI g (methodsOf g t) i)))) (fun m=>k - m) 0 ⟨by simp,by rw [hr];rfl⟩ (tS) tH ?_
   clear hr
   rintro m ⟨hm,hr⟩
   by_cases hltm:m < k
   ·have hlm:m < (fieldsOf g t).length:=by omega
    have hem:=yT hlm
    obtain ⟨hj0,hj⟩:=qU (List.getElem_mem hlm)
    have hefm:=qE (f:=Yc) hj
    rw [yZ hltm,Vw,fName,fName,zx hlt,zx hlm,zx hi,zx hj] at hr
    repeat' (first|(refine shX ?_;first|refine qX he ?_|refine zu rfl (zk zh rfl rfl rfl rfl rfl rfl hi0 hef) rfl rfl ?_|refine AD.step _ _ _ _ _ rfl (zk zh rfl rfl rfl rfl rfl rfl hi0 hef) rfl rfl ?_|refine qX hem ?_|refine zu rfl (zk zh rfl rfl rfl rfl rfl rfl hj0 hefm) rfl rfl ?_|refine AD.step _ _ _ _ _ rfl (zk zh rfl rfl rfl rfl rfl rfl hj0 hefm) rfl rfl ?_)|refine sK ?_|refine sC (fun _=>?_) (fun _=>?_)|fail)
    all_goals first|(refine retq rfl ?_;first|(simp only [zi,BL,List.length_map] at *;simp only [*,BL,List.length_map];done)|(simp_all [zi];done)|(simp_all [zi];omega)|(simp_all [zi];intros;omega))|(refine ⟨m + 1,⟨by omega,?_⟩,tD,tS,tH⟩;first|(simp only [BL,List.length_map] at *;simp only [*,BL,List.length_map];done)|(simp_all [];done)|(simp_all [];omega)|(simp_all [];intros;omega))|(trace "LEND";trace_state)
   ·rw [drop_end (by simp;omega)] at hr
    repeat' (first|refine sK ?_|refine sC (fun _=>?_) (fun _=>?_)|fail)
    all_goals first|(refine retq rfl ?_;first|(simp only [zi,BL,List.length_map] at *;simp only [*,BL,List.length_map];done)|(simp_all [zi];done)|(simp_all [zi];omega)|(simp_all [zi];intros;omega))|(refine ⟨k + 1,⟨by omega,?_⟩,tD,tS,tH⟩;first|(simp only [BL,List.length_map] at *;simp only [*,BL,List.length_map];done)|(simp_all [];done)|(simp_all [];omega)|(simp_all [];intros;omega))|(trace "LEND";trace_state)
  ·rw [drop_end (by simp;omega)] at hr
   repeat' (first|(refine shC ?_;first|refine qC (YS g t hgm) ?_)|refine sK ?_|refine sC (fun _=>?_) (fun _=>?_)|fail)
   refine zo (fun k:Nat=>[(1,.pv (pi t)),(2,.pv (.ptr (zq g) 0)),(9,.pv (ints (methodsOf g t))),(10,.pv (pi k))]) (fun _=>[]) (fun k=>k≤(methodsOf g t).length∧zaO g t td=(((List.range (methodsOf g t).length).drop k).all (fun i=>(List.range i).all (YI g (methodsOf g t) i)))) (fun k=>(methodsOf g t).length - k) 0 ⟨by simp,by simp_all⟩ (tS) tH ?_
   clear hk hr hlt
   rintro k ⟨hk,hr⟩
   by_cases hlt:k < (methodsOf g t).length
   ·have he:=yT hlt
    obtain ⟨hi0,hi⟩:=yx (List.getElem_mem hlt)
    have hef:=qE (f:=zG) hi
    rw [yZ hlt] at hr
    repeat' (first|refine sK ?_|refine sC (fun _=>?_) (fun _=>?_)|fail)
    refine zo (fun m:Nat=>[(1,.pv (pi t)),(2,.pv (.ptr (zq g) 0)),(9,.pv (ints (methodsOf g t))),(10,.pv (pi k)),(11,.pv (pi m))]) (fun _=>[]) (fun m=>m≤k∧zaO g t td=(((List.range k).drop m).all (YI g (methodsOf g t) k)&&((List.range (methodsOf g t).length).drop (k + 1)).all (fun i=>(List.range i).all (YI g (methodsOf g t) i)))) (fun m=>k - m) 0 ⟨by simp,by rw [hr];rfl⟩ (tS) tH ?_
    clear hr
    rintro m ⟨hm,hr⟩
    by_cases hltm:m < k
    ·have hlm:m < (methodsOf g t).length:=by omega
     have hem:=yT hlm
     obtain ⟨hj0,hj⟩:=yx (List.getElem_mem hlm)
     have hefm:=qE (f:=zG) hj
     rw [yZ hltm,YI,zx hlt,zx hlm,zx hi,zx hj] at hr
     repeat' (first|(refine shC ?_;first|refine qC (zex _ _) ?_)|(refine shX ?_;first|refine qX he ?_|refine zu rfl (zk zh rfl rfl rfl rfl rfl rfl hi0 hef) rfl rfl ?_|refine AD.step _ _ _ _ _ rfl (zk zh rfl rfl rfl rfl rfl rfl hi0 hef) rfl rfl ?_|refine qX hem ?_|refine zu rfl (zk zh rfl rfl rfl rfl rfl rfl hj0 hefm) rfl rfl ?_|refine AD.step _ _ _ _ _ rfl (zk zh rfl rfl rfl rfl rfl rfl hj0 hefm) rfl rfl ?_)|refine sK ?_|refine sC (fun _=>?_) (fun _=>?_)|fail)
     all_goals first|(refine retq rfl ?_;first|(simp only [zi,BL,List.length_map] at *;simp only [*,BL,List.length_map];done)|(simp_all [zi];done)|(simp_all [zi];omega)|(simp_all [zi];intros;omega))|(refine ⟨m + 1,⟨by omega,?_⟩,tD,tS,tH⟩;first|(simp only [BL,List.length_map] at *;simp only [*,BL,List.length_map];done)|(simp_all [];done)|(simp_all [];omega)|(simp_all [];intros;omega))|(trace "LEND";trace_state)
    ·rw [drop_end (by simp;omega)] at hr
     repeat' (first|refine sK ?_|refine sC (fun _=>?_) (fun _=>?_)|fail)
     all_goals first|(refine retq rfl ?_;first|(simp only [zi,BL,List.length_map] at *;simp only [*,BL,List.length_map];done)|(simp_all [zi];done)|(simp_all [zi];omega)|(simp_all [zi];intros;omega))|(refine ⟨k + 1,⟨by omega,?_⟩,tD,tS,tH⟩;first|(simp only [BL,List.length_map] at *;simp only [*,BL,List.length_map];done)|(simp_all [];done)|(simp_all [];omega)|(simp_all [];intros;omega))|(trace "LEND";trace_state)
   ·rw [drop_end (by simp;omega)] at hr
    repeat' (first|refine sK ?_|refine sC (fun _=>?_) (fun _=>?_)|fail)
    all_goals first|(refine retq rfl ?_;first|(simp only [zi,BL,List.length_map] at *;simp only [*,BL,List.length_map];done)|(simp_all [zi];done)|(simp_all [zi];omega)|(simp_all [zi];intros;omega))|(refine ZA rfl ?_;first|(simp only [zi,BL,List.length_map] at *;simp only [*,BL,List.length_map];done)|(simp_all [zi];done)|(simp_all [zi];omega)|(simp_all [zi];intros;omega))|skip
set_option maxHeartbeats 20000000
def zfm (g:Img) (k:Int) (i:Int):Bool:=!(k==3||(k==2&&!(g.fields.getD i.toNat default).static))
def ZM (met:List Int) (x:Int):List Int:=if x∈met then met else met++[x]
def zio (g:Img) (met:List Int) (u:Int):List Int:=(partsOf g u).foldl ZM met
def zbS (g:Img):Nat→Nat→List Int→List Int
 | 0,_,met=>met
 | n + 1,i,met=>match met[i]? with|some u=>zbS g n (i + 1) (zio g met u)|none=>met
def zlA (g:Img) (t:Int):List Int:=zbS g (g.fields.length + g.types.length + 1) 0 (partsOf g t)
def zbQ (g:Img) (t:Int):Bool:=(fieldsOf g t).all (zfm g (zB g t))&&(zB g t != 1||!decide (t∈zlA g t))
def PInv (g:Img) (t:Int) (met:List Int):Prop:=∃ a,met=partsOf g t++a∧a.Nodup∧∀ y∈a,0≤y∧y < g.types.length
theorem zaw (g:Img) (t:Int):(partsOf g t).length≤g.fields.length:=by
 rw [partsOf,List.length_map]
 exact Nat.le_trans (List.length_filter_le _ _) (YF g t)
theorem PInv.len {g:Img} {t:Int} {met:List Int} (h:PInv g t met):met.length≤g.fields.length + g.types.length:=by
 obtain ⟨a,rfl,h1,h2⟩:=h
 have:=qR _ _ h1 h2
 have:=zaw g t
 simp;omega
theorem YO {g:Img} {t x:Int} (h:x∈partsOf g t):0≤x∧x < g.types.length:=by
 simp only [partsOf,List.mem_map,List.mem_filter,zcu,Bool.and_eq_true,beq_iff_eq] at h
 obtain ⟨i,⟨_,_,hk⟩,rfl⟩:=h
 rw [zB] at hk
 cases ht:typeAt g (g.fields.getD i.toNat default).ty.index with
 | none=>rw [ht] at hk;simp at hk
 | some td=>exact XJ ht
theorem PInv.add {g:Img} {t:Int} {met:List Int} {x:Int} (h:PInv g t met) (hx:0≤x∧x < g.types.length):PInv g t (ZM met x):=by
 unfold ZM
 split
 ·exact h
 ·rename_i hn
  obtain ⟨a,rfl,h1,h2⟩:=h
  refine ⟨a++[x],by simp,?_,?_⟩
  ·rw [List.nodup_append];simp [h1];intro b hb e;subst e;exact hn (by simp [hb])
  ·intro y hy
   simp only [List.mem_append,List.mem_singleton] at hy
   rcases hy with hy|rfl
   ·exact h2 y hy
   ·exact hx
theorem zsm {met:List Int} {f:Int} {i:Nat} (h:i < met.length):i < (ZM met f).length:=by
 unfold ZM;split
 ·exact h
 ·simp;omega
theorem zn6 (g:Img) (t:Int) (hg:g.types.length≤1000) (hgf:g.fields.length≤1000):ACall Tryz.prog 235 [zq g,pi t] (pb (zbQ g t)):=by
 refine zf zh Tryz.func235 rfl (by kernel_rfl) Tryz.ntmps235 (by simp) _ rfl (fun hw gB hgB=>?_)
 have hfl:=YF g t
 have hpl:=zaw g t
 repeat' (first|(refine shC ?_;first|refine qC (qh _ _) ?_|refine qC (zbs g t hgf) ?_)|refine sA ?_|refine sC (fun _=>?_) (fun _=>?_)|fail)
 refine zo (fun k:Nat=>[(1,.pv (pi t)),(2,.pv (.ptr (zq g) 0)),(5,.pv (pi (zB g t))),(6,.pv (ints (fieldsOf g t))),(7,.pv (pi k))]) (fun _=>[]) (fun k=>k≤(fieldsOf g t).length∧zbQ g t=(((fieldsOf g t).drop k).all (zfm g (zB g t))&&(zB g t != 1||!decide (t∈zlA g t)))) (fun k=>(fieldsOf g t).length - k) 0 ⟨by simp,rfl⟩ (tS) tH ?_
 rintro k ⟨hk,hr⟩
 by_cases hlt:k < (fieldsOf g t).length
 ·have he:=yT hlt
  obtain ⟨hi0,hi⟩:=qU (List.getElem_mem hlt)
  have hef:=qE (f:=Yc) hi
  rw [ZO hlt,zfm,zx hi] at hr
  repeat' (first|(refine shX ?_;first|refine qX he ?_|refine zu rfl (zk zh rfl rfl rfl rfl rfl rfl hi0 hef) rfl rfl ?_|refine AD.step _ _ _ _ _ rfl (zk zh rfl rfl rfl rfl rfl rfl hi0 hef) rfl rfl ?_)|refine sK ?_|refine sC (fun _=>?_) (fun _=>?_)|fail)
  all_goals first|(refine retq rfl ?_;first|(simp only [zi,BL,List.length_map] at *;simp only [*,BL,List.length_map];done)|(simp_all [zi];done)|(simp_all [zi];omega)|(simp_all [zi];intros;omega))|(refine ⟨k + 1,⟨by omega,?_⟩,tD,tS,tH⟩;first|(simp only [BL,List.length_map] at *;simp only [*,BL,List.length_map];done)|(simp_all [];done)|(simp_all [];omega)|(simp_all [];intros;omega))|(trace "LEND";trace_state)
 ·rw [drop_end (by omega)] at hr
  by_cases hk1:zB g t=1
  ·have hkb:(zB g t != 1)=false:=by simp [hk1]
   rw [hkb] at hr
   simp only [List.all_nil,Bool.true_and,Bool.false_or] at hr
   repeat' (first|refine yS (t:=8) 0 3 1 (by decide) rfl rfl ?_|(refine shC ?_;first|refine qC (zfM g t hgf) ?_)|(refine zI ?_;first|refine yc zh rfl rfl rfl rfl rfl rfl rfl (by show _ * 8≤_;simp;omega) (by simp;omega) rfl rfl ?_)|refine sK ?_|refine sC (fun _=>?_) (fun _=>?_)|fail)
   refine zo (fun x:Nat × List Int=>[(1,.pv (pi t)),(2,.pv (.ptr (zq g) 0)),(8,.own 0),(9,.pv (pi x.1))]) (fun x=>[(0,.row 3 1 (x.2.map pi))])
    (fun x=>x.1≤x.2.length∧PInv g t x.2∧zbS g (g.fields.length + g.types.length + 1 - x.1) x.1 x.2=zlA g t) (fun x=>g.fields.length + g.types.length + 1 - x.1) (0,partsOf g t) ⟨by simp,⟨[],by simp⟩,rfl⟩ (tS) ⟨yX rfl (by simp) zl,rfl⟩ ?_
   have hr0:=hr
   clear hr hlt hk
   rintro ⟨i,met⟩ ⟨hi,hmi,hr⟩
   simp only at hi hmi hr
   have hml:=hmi.len
   rw [show g.fields.length + g.types.length + 1 - i=(g.fields.length + g.types.length - i) + 1 by omega,zbS] at hr
   by_cases hlt:i < met.length
   ·have heU:=yT hlt
    rw [List.getElem?_eq_getElem hlt] at hr
    simp only at hr
    have hpl2:=zaw g met[i]
    repeat' (first|(refine shC ?_;first|refine qC (zfM g met[i] hgf) ?_)|(refine shX ?_;first|refine qX heU ?_)|refine sK ?_|refine sC (fun _=>?_) (fun _=>?_)|fail)
    refine zo (fun x:Nat × List Int=>[(1,.pv (pi t)),(2,.pv (.ptr (zq g) 0)),(8,.own 0),(9,.pv (pi i)),(10,.pv (ints (partsOf g met[i]))),(11,.pv (pi x.1))]) (fun x=>[(0,.row 3 1 (x.2.map pi))])
     (fun x=>x.1≤(partsOf g met[i]).length∧PInv g t x.2∧((partsOf g met[i]).drop x.1).foldl ZM x.2=zio g met met[i]∧i < x.2.length) (fun x=>(partsOf g met[i]).length - x.1) (0,met) ⟨by simp,hmi,rfl,hlt⟩ (tS) ⟨zn rfl zl,rfl⟩ ?_
    rintro ⟨k,met'⟩ ⟨hk,hmi',hr',hli'⟩
    simp only at hk hmi' hr' hli'
    by_cases hltk:k < (partsOf g met[i]).length
    ·have heF:=yT hltk
     rw [QW hltk] at hr'
     have hml:=hmi'.len
     repeat' (first|(refine shC ?_;first|refine qC (QE _ _) ?_)|(refine shX ?_;first|refine qX heF ?_)|(refine zI ?_;first|refine yc zh rfl rfl rfl rfl rfl rfl rfl (by show _ * 8≤_;simp;omega) (by simp;omega) rfl rfl ?_)|refine sK ?_|refine sC (fun _=>?_) (fun _=>?_)|fail)
     all_goals refine ⟨(k + 1,ZM met' (partsOf g met[i])[k]),⟨hltk,hmi'.add (YO (List.getElem_mem hltk)),hr',zsm hli'⟩,tD,tS,⟨yX rfl ?_ zl,rfl⟩⟩
     all_goals simp_all [ZM]
    ·rw [drop_end (by omega)] at hr'
     repeat' (first|refine sK ?_|refine sC (fun _=>?_) (fun _=>?_)|fail)
     refine ⟨(i + 1,met'),⟨hli',hmi',?_⟩,tD,tS,⟨yX rfl rfl zl,rfl⟩⟩
     simp only
     rw [show g.fields.length + g.types.length + 1 - (i + 1)=g.fields.length + g.types.length - i by omega,←hr,←hr'];rfl
   ·rw [List.getElem?_eq_none (by omega)] at hr
    obtain rfl:met=zlA g t:=hr
    repeat' (first|(refine shC ?_;first|refine qC (QE _ _) ?_)|refine sK ?_|refine sC (fun _=>?_) (fun _=>?_)|fail)
    exact retq rfl (by rw [hr0];rfl)
  ·have hkb:(zB g t != 1)=true:=by simp [hk1]
   rw [hkb] at hr
   repeat' (first|refine sK ?_|refine sC (fun _=>?_) (fun _=>?_)|fail)
   all_goals first|(refine retq rfl ?_;first|(simp only [zi,BL,List.length_map] at *;simp only [*,BL,List.length_map];done)|(simp_all [zi];done)|(simp_all [zi];omega)|(simp_all [zi];intros;omega))|(refine ZA rfl ?_;first|(simp only [zi,BL,List.length_map] at *;simp only [*,BL,List.length_map];done)|(simp_all [zi];done)|(simp_all [zi];omega)|(simp_all [zi];intros;omega))|skip
def qL (g:Img) (t:Nat):Int :=
 let td:=g.types.getD t default
 if !ql td||!QA g t td then 7 else if !zaO g t td then 18 else if !zbQ g t then 20 else 0
def QV (g:Img):Int × Int :=
 if !zJ g then (0,17) else match (List.range g.types.length).find? (fun t=>qL g t != 0) with
  | some t=>(((t:Nat):Int),qL g t)
  | none=>(0,0)
def ZU (g:Img):Bool:=(QV g).2==0
theorem zF {g:Img} (h:zJ g=true):g.types.length≤32∧g.fields.length≤64∧g.methods.length≤64∧∀ td∈g.types,qy td g.types.length=true:=by
 simp only [zJ,Bool.and_eq_true,decide_eq_true_eq,List.all_eq_true] at h
 obtain ⟨⟨⟨⟨⟨⟨⟨h1,h2⟩,h3⟩,_⟩,_⟩,h4⟩,_⟩,_⟩:=h
 exact ⟨by omega,by omega,by omega,h4⟩
theorem ZH {td:TD} {n:Int} (h:qy td n=true):0≤td.flags∧td.flags≤31 ∧ -1≤td.ext∧td.ext < n∧td.faces.length≤4∧∀ f∈td.faces,0≤f∧f < n:=by
 simp only [qy,Bool.and_eq_true,decide_eq_true_eq,List.all_eq_true,Qx] at h
 obtain ⟨⟨⟨⟨⟨⟨_,h1⟩,h2⟩,h3⟩,h4⟩,h5⟩,h6⟩:=h
 exact ⟨h1,h2,h3,h4,by omega,h6⟩
theorem zhZ {g:Img} {k:Nat} (hf:zJ g=true) (hk:k < g.types.length) (hno:∀ j,j < k→qL g j=0) (h:qL g k≠0):QV g=(((k:Nat):Int),qL g k):=by
 have:(List.range g.types.length).find? (fun t=>qL g t != 0)=some k:=by
  rw [List.find?_range_eq_some]
  exact ⟨by simpa using h,by simpa using hk,fun j hj=>by simp [hno j hj]⟩
 simp [QV,hf,this]
theorem zkS {g:Img} (hf:zJ g=true) (hno:∀ j,j < g.types.length→qL g j=0):QV g=(0,0):=by
 have:(List.range g.types.length).find? (fun t=>qL g t != 0)=none:=by
  rw [List.find?_eq_none]
  intro j hj
  simp [hno j (List.mem_range.1 hj)]
 simp [QV,hf,this]
theorem zbq {g:Img} {k:Nat} (hlt:k < g.types.length):qL g k=if !ql g.types[k]||!QA g k g.types[k] then 7 else if !zaO g k g.types[k] then 18 else if !zbQ g k then 20 else 0:=by
 rw [qL,zx hlt]
theorem zbi {g:Img} {k:Nat} (hlt:k < g.types.length):typeAt g (k:Int)=some g.types[k]:=by
 rw [typeAt,if_pos (by omega)];simp [List.getElem?_eq_getElem hlt]
theorem znS (g:Img):ACall Tryz.prog 187 [zq g] (.tup [pi (QV g).1,pi (QV g).2]):=by
 refine zf zh Tryz.func187 rfl (by kernel_rfl) Tryz.ntmps187 (by simp) _ rfl (fun hw gB hgB=>?_)
 have c0:=zm4 g
 cases hf:zJ g
 ·rw [hf] at c0
  repeat' (first|(refine shC ?_;first|refine qC c0 ?_)|refine sK ?_|refine sC (fun _=>?_) (fun _=>?_)|fail)
  exact retq rfl (by simp [zi,QV,hf])
 ·rw [hf] at c0
  obtain ⟨b1,b2,b3,b4⟩:=zF hf
  have hg:g.types.length≤1000:=by omega
  have hgf:g.fields.length≤1000:=by omega
  have hgm:g.methods.length≤1000:=by omega
  have hfc:∀ td∈g.types,td.faces.length≤1000:=fun td h=>by have:=(ZH (b4 td h)).2.2.2.2.1;omega
  repeat' (first|(refine shC ?_;first|refine qC c0 ?_)|refine sK ?_|refine sC (fun _=>?_) (fun _=>?_)|fail)
  refine zo (fun k:Nat=>[(1,.pv (.ptr (zq g) 0)),(4,.pv (pi k))]) (fun _=>[]) (fun k=>k≤g.types.length∧∀ j,j < k→qL g j=0) (fun k=>g.types.length - k) 0 ⟨by omega,fun j h=>by omega⟩ (tS) tH ?_
  rintro k ⟨hk,hno⟩
  by_cases hlt:k < g.types.length
  ·have htd:=zbi hlt
   have hx:=(ZH (b4 _ (List.getElem_mem hlt))).2.2.2.1
   have hat:=zbq hlt
   have hfin:=fun h=>zhZ hf hlt hno h
   have hnx:qL g k=0→∀ j,j < k + 1→qL g j=0:=fun h j hj=>by
    by_cases e:j=k
    ·subst e;exact h
    ·exact hno j (by omega)
   clear hno
   repeat' (first|(refine shC ?_;first|refine qC (zjV g k _ htd) ?_|refine qC (zoH g k _ htd hx hg hfc) ?_|refine qC (znw g k _ htd hg hgf hgm) ?_|refine qC (zn6 g k hg hgf) ?_)|refine sK ?_|refine sC (fun _=>?_) (fun _=>?_)|fail)
   ·rename_i h1
    simp only [h1,BL,if_true,Bool.false_eq_true,if_false] at hat
    exact retq rfl (by rw [hfin (by rw [hat];decide),hat];rfl)
   ·rename_i h1 h2
    simp only [h1,h2,BL,if_true,Bool.false_eq_true,if_false] at hat
    exact retq rfl (by rw [hfin (by rw [hat];decide),hat];rfl)
   ·rename_i h1 h2 h3
    simp only [h1,h2,h3,BL,if_true,Bool.false_eq_true,if_false] at hat
    exact retq rfl (by rw [hfin (by rw [hat];decide),hat];rfl)
   ·rename_i h1 h2 h3 h4
    simp only [h1,h2,h3,h4,BL,if_true,Bool.false_eq_true,if_false] at hat
    exact retq rfl (by rw [hfin (by rw [hat];decide),hat];rfl)
   ·rename_i h1 h2 h3 h4
    simp only [h1,h2,h3,h4,BL,if_true,Bool.false_eq_true,if_false] at hat
    exact ⟨k + 1,⟨hlt,hnx hat⟩,tD,tS,tH⟩
  ·repeat' (first|refine sK ?_|refine sC (fun _=>?_) (fun _=>?_)|fail)
   obtain rfl:k=g.types.length:=by omega
   exact retq rfl (by simp [zi,zkS hf hno])
theorem zpK (g:Img):ACall Tryz.prog 145 [zq g] (pb (ZU g)):=by
 refine zf zh Tryz.func145 rfl (by kernel_rfl) Tryz.ntmps145 (by simp) _ rfl (fun hw gB hgB=>?_)
 repeat' (first|(refine shC ?_;first|refine qC (znS g) ?_)|refine sA ?_|refine sC (fun _=>?_) (fun _=>?_)|fail)
 all_goals (first|refine retq rfl ?_|refine ZA rfl ?_)
 all_goals (first|(simp_all [zi,ZU];done)|(simp_all [zi,ZU];omega))
end Go.Cg
