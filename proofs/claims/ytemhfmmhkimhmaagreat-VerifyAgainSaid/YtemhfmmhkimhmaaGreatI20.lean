/- A part of the walks by abstract values: no statement of its own. -/
import Derived.Test.YtemhfmmhkimhmaaGreatI14
import Derived.Test.YtemhfmmhkimhmaaGreatI18
import Derived.Test.YtemhfmmhkimhmaaGreatI8
set_option linter.unusedVariables false
set_option linter.unusedSimpArgs false
namespace Go.Cg
open Go.Proofs
set_option maxHeartbeats 20000000
def fieldsOf (g:Img) (t:Int):List Int:=(nums g.fields.length).filter fun i=>there g t&&(g.fields.getD i.toNat default).owner==t
def methodsOf (g:Img) (t:Int):List Int:=(nums g.methods.length).filter fun i=>there g t&&(g.methods.getD i.toNat default).owner==t
theorem zfO {n k:Nat} (h:k < (nums n).length):(nums n)[k]=(k:Int):=by simp [nums]
theorem zco (g:Img) (t:Int) (hg:g.fields.length<=1000):ACall Tryz.prog 220 [zK g,pi t] (ints (fieldsOf g t)):=by
 refine zh zf Tryz.func220 rfl zws Tryz.ntmps220 zwy63 _ rfl (fun hw gB hgB=>?_)
 repeat' (first|refine sA ?_|refine sC (fun _=>?_) (fun _=>?_)|fail)
 refine Za (t:=5) 0 3 1 zwy69 rfl rfl ?_;refine zL (fun x:Nat × List Int=>[(1,.pv (pi t)),(2,.pv (.ptr (zK g) 0)),(5,.own 0),(6,.pv (pi x.1))]) (fun x=>[(0,.row 3 1 (x.2.map pi))])
  (fun x=>x.1<=g.fields.length/\x.2.length<=x.1/\x.2++((nums g.fields.length).drop x.1).filter (fun i=>there g t&&(g.fields.getD i.toNat default).owner==t)=fieldsOf g t) (fun x=>g.fields.length - x.1) (0,[]) ⟨by simp,by simp,rfl⟩ (tS) ⟨aB zC,rfl⟩ ?_
 rintro ⟨k,out⟩ ⟨hk,hol,hr⟩;simp only at hk hol hr;by_cases hlt:k < g.fields.length
 ·have he:=zS (f:=ZI) hlt;rw [drop_cons zwy103,List.filter_cons,zfO,Int.toNat_natCast,zQ hlt] at hr;have c1:=Qd g t;cases hth:there g t
  ·rw [hth] at c1
   repeat' (first|(refine shC ?_;first|refine qC c1 ?_)|refine sK ?_|refine sC (fun _=>?_) (fun _=>?_)|fail)
   exact ⟨(k + 1,out),⟨by simp;omega,by simp;omega,by simpa [hth] using hr⟩,tD,tS,⟨qH rfl rfl zC,rfl⟩⟩
  ·rw [hth] at c1
   repeat' (first|(refine shC ?_;first|refine qC c1 ?_)|(refine shX ?_;first|refine qX he ?_)|(refine yj ?_;first|refine yV zf rfl rfl rfl rfl rfl rfl rfl zwy72 zwy64 rfl rfl ?_)|refine sK ?_|refine sC (fun _=>?_) (fun _=>?_)|fail)
   ·rename_i hx;rw [hth,hx] at hr;exact ⟨(k + 1,out++[(k:Int)]),⟨by simp;omega,by simp;omega,by simpa [hth] using hr⟩,tD,tS,⟨qH rfl zwy63 zC,rfl⟩⟩
   ·rename_i hx;rw [hth,hx] at hr;exact ⟨(k + 1,out),⟨by simp;omega,by simp;omega,by simpa [hth] using hr⟩,tD,tS,⟨qH rfl rfl zC,rfl⟩⟩
 ·rw [drop_end (by simp [nums];omega)] at hr
  repeat' (first|refine sK ?_|refine sC (fun _=>?_) (fun _=>?_)|fail)
  exact retq rfl zwy90
theorem QW (g:Img) (t:Int) (hg:g.methods.length<=1000):ACall Tryz.prog 30 [zK g,pi t] (ints (methodsOf g t)):=by
 refine zh zf Tryz.func30 rfl zws Tryz.ntmps30 zwy63 _ rfl (fun hw gB hgB=>?_)
 repeat' (first|refine sA ?_|refine sC (fun _=>?_) (fun _=>?_)|fail)
 refine Za (t:=5) 0 3 1 zwy69 rfl rfl ?_;refine zL (fun x:Nat × List Int=>[(1,.pv (pi t)),(2,.pv (.ptr (zK g) 0)),(5,.own 0),(6,.pv (pi x.1))]) (fun x=>[(0,.row 3 1 (x.2.map pi))])
  (fun x=>x.1<=g.methods.length/\x.2.length<=x.1/\x.2++((nums g.methods.length).drop x.1).filter (fun i=>there g t&&(g.methods.getD i.toNat default).owner==t)=methodsOf g t) (fun x=>g.methods.length - x.1) (0,[]) ⟨by simp,by simp,rfl⟩ (tS) ⟨aB zC,rfl⟩ ?_
 rintro ⟨k,out⟩ ⟨hk,hol,hr⟩;simp only at hk hol hr;by_cases hlt:k < g.methods.length
 ·have he:=zS (f:=zY) hlt;rw [drop_cons zwy103,List.filter_cons,zfO,Int.toNat_natCast,zQ hlt] at hr;have c1:=Qd g t;cases hth:there g t
  ·rw [hth] at c1
   repeat' (first|(refine shC ?_;first|refine qC c1 ?_)|refine sK ?_|refine sC (fun _=>?_) (fun _=>?_)|fail)
   exact ⟨(k + 1,out),⟨by simp;omega,by simp;omega,by simpa [hth] using hr⟩,tD,tS,⟨qH rfl rfl zC,rfl⟩⟩
  ·rw [hth] at c1
   repeat' (first|(refine shC ?_;first|refine qC c1 ?_)|(refine shX ?_;first|refine qX he ?_)|(refine yj ?_;first|refine yV zf rfl rfl rfl rfl rfl rfl rfl zwy72 zwy64 rfl rfl ?_)|refine sK ?_|refine sC (fun _=>?_) (fun _=>?_)|fail)
   ·rename_i hx;rw [hth,hx] at hr;exact ⟨(k + 1,out++[(k:Int)]),⟨by simp;omega,by simp;omega,by simpa [hth] using hr⟩,tD,tS,⟨qH rfl zwy63 zC,rfl⟩⟩
   ·rename_i hx;rw [hth,hx] at hr;exact ⟨(k + 1,out),⟨by simp;omega,by simp;omega,by simpa [hth] using hr⟩,tD,tS,⟨qH rfl rfl zC,rfl⟩⟩
 ·rw [drop_end (by simp [nums];omega)] at hr
  repeat' (first|refine sK ?_|refine sC (fun _=>?_) (fun _=>?_)|fail)
  exact retq rfl zwy90
def Wj (a b:Me):Bool:=decide (a.ret=b.ret)&&(a.flags.tmod 2==b.flags.tmod 2)&&decide (a.params=b.params)
theorem zfA (a b:Me):ACall Tryz.prog 143 [zY a,zY b] (pb (Wj a b)):=by
 refine zh zf Tryz.func143 rfl zws Tryz.ntmps143 zwy63 _ rfl (fun hw gB hgB=>?_);have hty:=XQ a.ret b.ret
 repeat' (first|(refine shC ?_;first|refine qC (zaR _ _) ?_)|refine sA ?_|refine sC (fun _=>?_) (fun _=>?_)|fail)
 all_goals refine ak ?_
 all_goals (simp only [zn,Wj,<-hty];clear hty;simp_all)
def za6 (g:Img) (i:Int):Bool :=
 let f:=g.fields.getD i.toNat default
 !f.static&&f.ty.kind==6&&f.ty.dims==0&&zW g f.ty.index==1
def partsOf (g:Img) (t:Int):List Int:=((fieldsOf g t).filter (za6 g)).map fun i=>(g.fields.getD i.toNat default).ty.index
theorem ZK {g:Img} {t i:Int} (h:i∈fieldsOf g t):0<=i/\i.toNat < g.fields.length:=by
 simp only [fieldsOf,nums,List.mem_filter,List.mem_map,List.mem_range] at h;obtain ⟨⟨k,hk,rfl⟩,_⟩:=h;exact ⟨by omega,by simpa using hk⟩
theorem ql {g:Img} {t i:Int} (h:i∈methodsOf g t):0<=i/\i.toNat < g.methods.length:=by
 simp only [methodsOf,nums,List.mem_filter,List.mem_map,List.mem_range] at h;obtain ⟨⟨k,hk,rfl⟩,_⟩:=h;exact ⟨by omega,by simpa using hk⟩
theorem zcX {n:Nat} {p:Int->Bool}:((nums n).filter p).length<=n:=Nat.le_trans (List.length_filter_le _ _) (by simp [nums])
theorem QG (g:Img) (t:Int):(fieldsOf g t).length<=g.fields.length:=zcX
theorem ZJ (g:Img) (t:Int):(methodsOf g t).length<=g.methods.length:=zcX
theorem Zp {α:Type} {f:α->PV} {l:List α} {i:Int} (h:i.toNat < l.length):(l.map f)[i.toNat]?=some (f l[i.toNat]):=by simp [h]
theorem zgX (g:Img) (t:Int) (hg:g.fields.length<=1000):ACall Tryz.prog 221 [zK g,pi t] (ints (partsOf g t)):=by
 refine zh zf Tryz.func221 rfl zws Tryz.ntmps221 zwy63 _ rfl (fun hw gB hgB=>?_);have hfl:=QG g t
 repeat' (first|(refine shC ?_;first|refine qC (zco g t hg) ?_)|refine sA ?_|refine sC (fun _=>?_) (fun _=>?_)|fail)
 refine Za (t:=5) 0 3 1 zwy69 rfl rfl ?_;refine zL (fun x:Nat × List Int=>[(2,.pv (.ptr (zK g) 0)),(5,.own 0),(6,.pv (ints (fieldsOf g t))),(7,.pv (pi x.1))]) (fun x=>[(0,.row 3 1 (x.2.map pi))])
  (fun x=>x.1<=(fieldsOf g t).length/\x.2.length<=x.1/\x.2++(((fieldsOf g t).drop x.1).filter (za6 g)).map (fun i=>(g.fields.getD i.toNat default).ty.index)=partsOf g t) (fun x=>(fieldsOf g t).length - x.1) (0,[]) ⟨by simp,by simp,rfl⟩ (tS) ⟨aB zC,rfl⟩ ?_
 rintro ⟨k,out⟩ ⟨hk,hol,hr⟩;simp only at hk hol hr;by_cases hlt:k < (fieldsOf g t).length
 ·have he:=qI hlt;obtain ⟨h0,hi⟩:=ZK (List.getElem_mem hlt);have hef:=Zp (f:=ZI) hi;rw [drop_cons hlt,List.filter_cons,za6] at hr;simp only [zQ hi] at hr
  repeat' (first|refine zM 1 8 0 zf rfl zws zws zws rfl rfl rfl rfl rfl rfl rfl rfl rfl rfl rfl rfl rfl rfl (fun _=>rfl) rfl rfl rfl ?_|refine ⟨_,_,rfl,rfl,rfl,?_⟩|(refine shC ?_;first|refine qC (Zq _ _) ?_)|(refine shX ?_;first|refine qX he ?_|refine zy rfl (ah h0 hef) rfl rfl ?_|refine zq rfl (ah h0 hef) rfl rfl ?_)|(refine yj ?_;first|refine yV zf rfl rfl rfl rfl rfl rfl rfl zwy72 zwy64 rfl rfl ?_)|refine sK ?_|refine sC (fun _=>?_) (fun _=>?_)|fail)
  ·rw [if_pos (by simp_all)] at hr;exact ⟨(k + 1,out++[g.fields[(fieldsOf g t)[k].toNat].ty.index]),⟨by simp;omega,by simp;omega,by rw [List.map_cons,zQ hi] at hr;simpa using hr⟩,tD,tS,⟨qH rfl zwy63 zC,rfl⟩⟩
  all_goals
   rw [if_neg (by simp_all)] at hr;exact ⟨(k + 1,out),⟨by simp;omega,by simp;omega,by simpa using hr⟩,tD,tS,⟨qH rfl rfl zC,rfl⟩⟩
 ·rw [drop_end zwy62] at hr
  repeat' (first|refine sK ?_|refine sC (fun _=>?_) (fun _=>?_)|fail)
  exact retq rfl zwy90
set_option maxHeartbeats 20000000
def Zj (td:TD):Bool :=
 if WZ td.flags==2 then td.ext == -1&&yR td.flags 4&&!yR td.flags 1&&!yR td.flags 8&&!yR td.flags 16
 else if WZ td.flags==1 then td.ext == -1&&yR td.flags 8&&!yR td.flags 4&&!yR td.flags 16
 else if WZ td.flags==3 then td.ext == -1&&yR td.flags 8&&!yR td.flags 4&&((td.faces.length:Int)==0)
 else true
theorem zlB (g:Img) (t:Int) (td:TD) (htd:typeAt g t=some td):ACall Tryz.prog 194 [zK g,pi t] (pb (Zj td)):=by
 refine zh zf Tryz.func194 rfl zws Tryz.ntmps194 zwy63 _ rfl (fun hw gB hgB=>?_);obtain ⟨h0,he⟩:=qN htd;have c1:=Zq g t;rw [show zW g t=WZ td.flags by rw [zW,htd]] at c1
 repeat' (first|(refine shC ?_;first|refine qC c1 ?_|refine qC (zkn _) ?_|refine qC (zkk _) ?_|refine qC (zsb _) ?_|refine qC (zf4 _) ?_|refine qC (zie _) ?_)|(refine shX ?_;first|refine zy rfl (ah h0 he) rfl rfl ?_|refine zq rfl (ah h0 he) rfl rfl ?_)|refine sA ?_|refine sC (fun _=>?_) (fun _=>?_)|fail)
 all_goals first|(refine ak ?_;first|(simp only [zn,Zj,BL,List.length_map] at *;simp only [*,BL,List.length_map];done)|(simp_all [zn,Zj];done)|(simp_all [zn,Zj];omega)|(simp_all [zn,Zj];intros;omega))|(refine Yi rfl ?_;first|(simp only [zn,Zj,BL,List.length_map] at *;simp only [*,BL,List.length_map];done)|(simp_all [zn,Zj];done)|(simp_all [zn,Zj];omega)|(simp_all [zn,Zj];intros;omega))|skip
theorem zgI {g:Img}:∀ (n:Nat) (t:Int) (out:List Int),∃ r,zar g n t out=out++r
 | 0,t,out=>⟨[],by simp [zar]⟩
 | n + 1,t,out=>by
  rw [zar];cases ht:typeAt g t with
  | none=>exact ⟨[],by simp⟩
  | some td =>
   by_cases hm:t∈out
   ·exact ⟨[],by simp [hm]⟩
   ·obtain ⟨r,hr⟩:=zgI n td.ext (out++[t]);exact ⟨t::r,by simp only [hm,if_false];rw [hr];simp⟩
theorem zfb {g:Img} {t:Int} {td:TD} (h:typeAt g t=some td):∃ r,up g t=t::r:=by
 obtain ⟨r,hr⟩:=zgI (g:=g) g.types.length td.ext [t];exact ⟨r,by rw [up,zar,h];simpa using hr⟩
def Vt (g:Img) (t:Int):Int:=match typeAt g ((up g t).getLastD 0) with|some td=>td.ext|none => -1
def Xc (g:Img) (t:Int):Int:=match typeAt g t with|some td=>td.flags|none=>0
def WH (g:Img) (t:Int) (td:TD):Bool:=!decide (0<=td.ext)||(zW g td.ext==0&&!yR (Xc g td.ext) 8&&decide (Vt g t < 0))
def Vz (g:Img) (l:List Int) (i:Nat):Bool:=zW g (l.getD i 0)==2&&!decide (l.getD i 0∈l.take i)
def QI (g:Img) (t:Int) (td:TD):Bool :=
 WH g t td&&(List.range td.faces.length).all (Vz g td.faces)&&(zW g t != 2||!decide (t∈Zr g t))
theorem zpi (g:Img) (t:Int) (td:TD) (htd:typeAt g t=some td) (hx:td.ext < g.types.length) (hg:g.types.length<=1000) (hfc:∀ td∈g.types,td.faces.length<=1000):ACall Tryz.prog 195 [zK g,pi t] (pb (QI g t td)):=by
 refine zh zf Tryz.func195 rfl zws Tryz.ntmps195 zwy63 _ rfl (fun hw gB hgB=>?_);obtain ⟨h0,he⟩:=qN htd;have hfl:td.faces.length<=1000:=hfc td zwy87;have hui:=WS g t;have hul:=ZF _ _ hui.1 hui.2;obtain ⟨ur,hur⟩:=zfb htd;have hpos:0 < (up g t).length:=by rw [hur];simp
 refine Xo [(1,.pv (pi t)),(2,.pv (.ptr (zK g) 0))] [] ?_ ?_
 ·repeat' (first|refine sA ?_|refine sC (fun _=>?_) (fun _=>?_)|fail)
  all_goals (refine ⟨?_,tH⟩;repeat (first|exact yO|refine yA rfl ?_|(refine ze0 rfl ?_ ?_;· (first|(simp_all [WH];done)|(simp_all [WH];omega)))|(refine qW rfl ?_ ?_;· (rw [wrap_in zwy62 zwy62] <;> omega))))
 refine Xo [(1,.pv (pi t)),(2,.pv (.ptr (zK g) 0)),(5,.pv (pi td.ext))] [] ?_ ?_
 ·repeat' (first|(refine shX ?_;first|refine zy rfl (ah h0 he) rfl rfl ?_|refine zq rfl (ah h0 he) rfl rfl ?_)|refine sA ?_|refine sC (fun _=>?_) (fun _=>?_)|fail)
  all_goals (refine ⟨?_,tH⟩;repeat (first|exact yO|refine yA rfl ?_|(refine ze0 rfl ?_ ?_;· (first|(simp_all [WH];done)|(simp_all [WH];omega)))|(refine qW rfl ?_ ?_;· (rw [wrap_in zwy62 zwy62] <;> omega))))
 have hlast:(up g t)[(up g t).length - 1]?=some ((up g t).getLastD 0):=by
  rw [hur];simp [List.getLastD_eq_getLast?,List.getLast?_eq_getElem?]
 have hlt:(up g t).length - 1 < (up g t).length:=by omega
 obtain ⟨tl,htl⟩:=Yv (g:=g) (t:=(up g t).getLastD 0) (hui.2 _ (List.mem_of_getElem? hlast));obtain ⟨hl0,hel⟩:=qN htl;have hw1:IntKind.i64.wrap (((up g t).map pi).length - 1:Int)=(((up g t).length - 1:Nat):Int):=by rw [List.length_map,wrap_in zwy62 zwy62];omega
 have heU:((up g t).map pi)[(IntKind.i64.wrap (((up g t).map pi).length - 1:Int)).toNat]?=some (pi ((up g t).getLastD 0)):=by rw [hw1];simp [hlast]
 have htop:Vt g t=tl.ext:=by rw [Vt,htl]
 cases hxo:WH g t td
 ·have hpos:0<=td.ext:=by
   rw [WH] at hxo;simp only [Bool.or_eq_false_iff,Bool.not_eq_false',decide_eq_true_eq] at hxo;exact hxo.1
  obtain ⟨te,hte⟩:=Yv ⟨hpos,hx⟩;obtain ⟨he0,hee⟩:=qN hte;have hfa:Xc g td.ext=te.flags:=by rw [Xc,hte]
  rw [WH,hfa,htop] at hxo;have hres:QI g t td=false:=by rw [QI,WH,hfa,htop,hxo];rfl
  simp only [decide_eq_true hpos,Bool.not_true,Bool.false_or] at hxo;by_cases hk:zW g td.ext=0
  ·have c1:=Zq g td.ext;rw [hk] at c1;have c2:=zf4 te.flags;cases hb:yR te.flags 8
   ·rw [hb] at c2;have htx:¬ tl.ext < 0:=by simpa [hk,hb] using hxo
    repeat' (first|(refine shC ?_;first|refine qC c1 ?_|refine qC c2 ?_|refine qC (za3 g t hg) ?_)|(refine shX ?_;first|refine zy rfl (ah he0 hee) rfl rfl ?_|refine zq rfl (ah he0 hee) rfl rfl ?_|refine zy rfl (zk zf rfl rfl rfl rfl rfl rfl zwy95 heU) rfl rfl ?_|refine zq rfl (zk zf rfl rfl rfl rfl rfl rfl zwy95 heU) rfl rfl ?_|refine zy rfl (ah hl0 hel) rfl rfl ?_|refine zq rfl (ah hl0 hel) rfl rfl ?_)|refine sK ?_|refine sC (fun _=>?_) (fun _=>?_)|fail)
    all_goals exact retq rfl (by simp [zn,hres])
   ·rw [hb] at c2
    repeat' (first|(refine shC ?_;first|refine qC c1 ?_|refine qC c2 ?_)|(refine shX ?_;first|refine zy rfl (ah he0 hee) rfl rfl ?_|refine zq rfl (ah he0 hee) rfl rfl ?_)|refine sK ?_|refine sC (fun _=>?_) (fun _=>?_)|fail)
    all_goals exact retq rfl (by simp [zn,hres])
  ·have hkb:(zW g td.ext != 0)=true:=by simp [hk]
   repeat' (first|(refine shC ?_;first|refine qC (Zq _ _) ?_)|refine sK ?_|refine sC (fun _=>?_) (fun _=>?_)|fail)
   all_goals exact retq rfl (by simp [zn,hres])
 ·refine Xo [(1,.pv (pi t)),(2,.pv (.ptr (zK g) 0))] [] ?_ ?_
  ·by_cases hpos:0<=td.ext
   ·obtain ⟨te,hte⟩:=Yv ⟨hpos,hx⟩;obtain ⟨he0,hee⟩:=qN hte;have hfa:Xc g td.ext=te.flags:=by rw [Xc,hte]
    rw [WH,hfa,htop] at hxo;simp only [decide_eq_true hpos,Bool.not_true,Bool.false_or,Bool.and_eq_true,beq_iff_eq,Bool.not_eq_true',decide_eq_true_eq] at hxo;have c1:=Zq g td.ext;rw [hxo.1.1] at c1;have c2:=zf4 te.flags;rw [hxo.1.2] at c2;have htx:=hxo.2
    repeat' (first|(refine shC ?_;first|refine qC c1 ?_|refine qC c2 ?_|refine qC (za3 g t hg) ?_)|(refine shX ?_;first|refine zy rfl (ah he0 hee) rfl rfl ?_|refine zq rfl (ah he0 hee) rfl rfl ?_|refine zy rfl (zk zf rfl rfl rfl rfl rfl rfl zwy95 heU) rfl rfl ?_|refine zq rfl (zk zf rfl rfl rfl rfl rfl rfl zwy95 heU) rfl rfl ?_|refine zy rfl (ah hl0 hel) rfl rfl ?_|refine zq rfl (ah hl0 hel) rfl rfl ?_)|refine sK ?_|refine sC (fun _=>?_) (fun _=>?_)|fail)
    all_goals (refine ⟨?_,tH⟩;repeat (first|exact yO|refine yA rfl ?_|(refine ze0 rfl ?_ ?_;· (first|(simp_all [WH];done)|(simp_all [WH];omega)))|(refine qW rfl ?_ ?_;· (rw [wrap_in zwy62 zwy62] <;> omega))))
   ·repeat' (first|refine sK ?_|refine sC (fun _=>?_) (fun _=>?_)|fail)
    all_goals (refine ⟨?_,tH⟩;repeat (first|exact yO|refine yA rfl ?_|(refine ze0 rfl ?_ ?_;· (first|(simp_all [WH];done)|(simp_all [WH];omega)))|(refine qW rfl ?_ ?_;· (rw [wrap_in zwy62 zwy62] <;> omega))))
  repeat' (first|(refine shX ?_;first|refine zy rfl (ah h0 he) rfl rfl ?_|refine zq rfl (ah h0 he) rfl rfl ?_)|refine sA ?_|refine sC (fun _=>?_) (fun _=>?_)|fail)
  refine zL (fun k:Nat=>[(1,.pv (pi t)),(2,.pv (.ptr (zK g) 0)),(7,.pv (ints td.faces)),(8,.pv (pi k))]) (fun _=>[]) (fun k=>k<=td.faces.length/\QI g t td=(((List.range td.faces.length).drop k).all (Vz g td.faces)&&(zW g t != 2||!decide (t∈Zr g t)))) (fun k=>td.faces.length - k) 0 ⟨by simp,by simp [QI,hxo]⟩ (tS) tH ?_;rintro k ⟨hk,hr⟩;by_cases hlt:k < td.faces.length
  ·have hef:=qI hlt;rw [qM hlt,Vz,zQ hlt] at hr
   repeat' (first|refine zq rfl (ZG (xs:=td.faces) (f:=pi) 0 k zf rfl rfl rfl rfl rfl rfl rfl zwy62 zwy62) rfl rfl ?_|(refine shC ?_;first|refine qC (Zq _ _) ?_|refine qC (XP (td.faces.take k) _) ?_)|(refine shX ?_;first|refine qX hef ?_)|refine sK ?_|refine sC (fun _=>?_) (fun _=>?_)|fail)
   all_goals first|(refine ak ?_;first|(simp only [zn,BL,List.length_map] at *;simp only [*,BL,List.length_map];done)|(simp_all [zn];done)|(simp_all [zn];omega)|(simp_all [zn];intros;omega))|(refine ⟨k + 1,⟨by omega,?_⟩,tD,tS,tH⟩;first|(simp only [BL,List.length_map] at *;simp only [*,BL,List.length_map];done)|(simp_all [];done)|(simp_all [];omega)|(simp_all [];intros;omega))|(trace "LEND";trace_state)
  ·rw [drop_end zwy64] at hr
   repeat' (first|(refine shC ?_;first|refine qC (Zq _ _) ?_|refine qC (zgU g t hg hfc) ?_|refine qC (XP _ _) ?_)|refine sK ?_|refine sC (fun _=>?_) (fun _=>?_)|fail)
   all_goals first|(refine ak ?_;first|(simp only [zn,BL,List.length_map] at *;simp only [*,BL,List.length_map];done)|(simp_all [zn];done)|(simp_all [zn];omega)|(simp_all [zn];intros;omega))|(refine Yi rfl ?_;first|(simp only [zn,BL,List.length_map] at *;simp only [*,BL,List.length_map];done)|(simp_all [zn];done)|(simp_all [zn];omega)|(simp_all [zn];intros;omega))|skip
def XI (g:Img) (t:Int) (td:TD) (i:Nat):Bool:=!((i:Int) != t&&(g.types.getD i default).name.toList==td.name.toList)
def fName (g:Img) (i:Int):ByteArray:=(g.fields.getD i.toNat default).name
def XD (g:Img) (l:List Int) (i k:Nat):Bool:=!((fName g (l.getD i 0)).toList==(fName g (l.getD k 0)).toList)
def YH (g:Img) (l:List Int) (i k:Nat):Bool :=
 !((g.methods.getD (l.getD i 0).toNat default).name.toList==(g.methods.getD (l.getD k 0).toNat default).name.toList&&Wj (g.methods.getD (l.getD i 0).toNat default) (g.methods.getD (l.getD k 0).toNat default))
def Vw (g:Img) (t:Int) (td:TD):Bool :=
 (List.range g.types.length).all (XI g t td)
 && (List.range (fieldsOf g t).length).all (fun i=>(List.range i).all (XD g (fieldsOf g t) i))
 && (List.range (methodsOf g t).length).all (fun i=>(List.range i).all (YH g (methodsOf g t) i))
set_option maxHeartbeats 1000000 in
theorem zoT (g:Img) (t:Int) (td:TD) (htd:typeAt g t=some td) (hg:g.types.length<=1000) (hgf:g.fields.length<=1000) (hgm:g.methods.length<=1000):ACall Tryz.prog 196 [zK g,pi t] (pb (Vw g t td)):=by
 refine zh zf Tryz.func196 rfl zws Tryz.ntmps196 zwy63 _ rfl (fun hw gB hgB=>?_);obtain ⟨h0,heT⟩:=qN htd;have hfl:=QG g t;have hml:=ZJ g t
 repeat' (first|refine sA ?_|refine sC (fun _=>?_) (fun _=>?_)|fail)
 refine zL (fun k:Nat=>[(1,.pv (pi t)),(2,.pv (.ptr (zK g) 0)),(5,.pv (pi k))]) (fun _=>[]) (fun k=>k<=g.types.length/\Vw g t td=(((List.range g.types.length).drop k).all (XI g t td)&&(List.range (fieldsOf g t).length).all (fun i=>(List.range i).all (XD g (fieldsOf g t) i))&&(List.range (methodsOf g t).length).all (fun i=>(List.range i).all (YH g (methodsOf g t) i)))) (fun k=>g.types.length - k) 0 ⟨by simp,rfl⟩ (tS) tH ?_;rintro k ⟨hk,hr⟩;by_cases hlt:k < g.types.length
 ·have he:=zS (f:=Zw) hlt;rw [qM hlt,XI,zQ hlt] at hr
  repeat' (first|(refine shX ?_;first|refine qX he ?_|refine zy rfl (ah h0 heT) rfl rfl ?_|refine zq rfl (ah h0 heT) rfl rfl ?_)|refine sK ?_|refine sC (fun _=>?_) (fun _=>?_)|fail)
  all_goals first|(refine ak ?_;first|(simp only [zn,BL,List.length_map] at *;simp only [*,BL,List.length_map];done)|(simp_all [zn];done)|(simp_all [zn];omega)|(simp_all [zn];intros;omega))|(refine ⟨k + 1,⟨by omega,?_⟩,tD,tS,tH⟩;first|(simp only [BL,List.length_map] at *;simp only [*,BL,List.length_map];done)|(simp_all [];done)|(simp_all [];omega)|(simp_all [];intros;omega))|(trace "LEND";trace_state)
 ·rw [drop_end zwy64] at hr
  repeat' (first|(refine shC ?_;first|refine qC (zco g t hgf) ?_)|refine sK ?_|refine sC (fun _=>?_) (fun _=>?_)|fail)
  refine zL (fun k:Nat=>[(1,.pv (pi t)),(2,.pv (.ptr (zK g) 0)),(6,.pv (ints (fieldsOf g t))),(7,.pv (pi k))]) (fun _=>[]) (fun k=>k<=(fieldsOf g t).length/\Vw g t td=(((List.range (fieldsOf g t).length).drop k).all (fun i=>(List.range i).all (XD g (fieldsOf g t) i))&&(List.range (methodsOf g t).length).all (fun i=>(List.range i).all (YH g (methodsOf g t) i)))) (fun k=>(fieldsOf g t).length - k) 0 ⟨by simp,by simp_all⟩ (tS) tH ?_;clear hk hr hlt;rintro k ⟨hk,hr⟩;by_cases hlt:k < (fieldsOf g t).length
  ·have he:=qI hlt;obtain ⟨hi0,hi⟩:=ZK (List.getElem_mem hlt);have hef:=Zp (f:=ZI) hi;rw [qM hlt] at hr
   repeat' (first|refine sK ?_|refine sC (fun _=>?_) (fun _=>?_)|fail)
   refine zL (fun m:Nat=>[(1,.pv (pi t)),(2,.pv (.ptr (zK g) 0)),(6,.pv (ints (fieldsOf g t))),(7,.pv (pi k)),(8,.pv (pi m))]) (fun _=>[]) (fun m=>m<=k/\Vw g t td=(((List.range k).drop m).all (XD g (fieldsOf g t) k)&&((List.range (fieldsOf g t).length).drop (k + 1)).all (fun i=>(List.range i).all (XD g (fieldsOf g t) i))&&(List.range (methodsOf g t).length).all (fun i=>(List.range i).all (YH g (methodsOf g t) i)))) (fun m=>k - m) 0 ⟨by simp,by rw [hr];rfl⟩ (tS) tH ?_;clear hr;rintro m ⟨hm,hr⟩;by_cases hltm:m < k
   ·have hlm:m < (fieldsOf g t).length:=by omega
    have hem:=qI hlm;obtain ⟨hj0,hj⟩:=ZK (List.getElem_mem hlm);have hefm:=Zp (f:=ZI) hj;rw [qM hltm,XD,fName,fName,zQ hlt,zQ hlm,zQ hi,zQ hj] at hr
    repeat' (first|(refine shX ?_;first|refine qX he ?_|refine zy rfl (ah hi0 hef) rfl rfl ?_|refine zq rfl (ah hi0 hef) rfl rfl ?_|refine qX hem ?_|refine zy rfl (ah hj0 hefm) rfl rfl ?_|refine zq rfl (ah hj0 hefm) rfl rfl ?_)|refine sK ?_|refine sC (fun _=>?_) (fun _=>?_)|fail)
    all_goals first|(refine ak ?_;first|(simp only [zn,BL,List.length_map] at *;simp only [*,BL,List.length_map];done)|(simp_all [zn];done)|(simp_all [zn];omega)|(simp_all [zn];intros;omega))|(refine ⟨m + 1,⟨by omega,?_⟩,tD,tS,tH⟩;first|(simp only [BL,List.length_map] at *;simp only [*,BL,List.length_map];done)|(simp_all [];done)|(simp_all [];omega)|(simp_all [];intros;omega))|(trace "LEND";trace_state)
   ·rw [drop_end zwy64] at hr
    repeat' (first|refine sK ?_|refine sC (fun _=>?_) (fun _=>?_)|fail)
    all_goals first|(refine ak ?_;first|(simp only [zn,BL,List.length_map] at *;simp only [*,BL,List.length_map];done)|(simp_all [zn];done)|(simp_all [zn];omega)|(simp_all [zn];intros;omega))|(refine ⟨k + 1,⟨by omega,?_⟩,tD,tS,tH⟩;first|(simp only [BL,List.length_map] at *;simp only [*,BL,List.length_map];done)|(simp_all [];done)|(simp_all [];omega)|(simp_all [];intros;omega))|(trace "LEND";trace_state)
  ·rw [drop_end zwy64] at hr
   repeat' (first|(refine shC ?_;first|refine qC (QW g t hgm) ?_)|refine sK ?_|refine sC (fun _=>?_) (fun _=>?_)|fail)
   refine zL (fun k:Nat=>[(1,.pv (pi t)),(2,.pv (.ptr (zK g) 0)),(9,.pv (ints (methodsOf g t))),(10,.pv (pi k))]) (fun _=>[]) (fun k=>k<=(methodsOf g t).length/\Vw g t td=(((List.range (methodsOf g t).length).drop k).all (fun i=>(List.range i).all (YH g (methodsOf g t) i)))) (fun k=>(methodsOf g t).length - k) 0 ⟨by simp,by simp_all⟩ (tS) tH ?_;clear hk hr hlt;rintro k ⟨hk,hr⟩;by_cases hlt:k < (methodsOf g t).length
   ·have he:=qI hlt;obtain ⟨hi0,hi⟩:=ql (List.getElem_mem hlt);have hef:=Zp (f:=zY) hi;rw [qM hlt] at hr
    repeat' (first|refine sK ?_|refine sC (fun _=>?_) (fun _=>?_)|fail)
    refine zL (fun m:Nat=>[(1,.pv (pi t)),(2,.pv (.ptr (zK g) 0)),(9,.pv (ints (methodsOf g t))),(10,.pv (pi k)),(11,.pv (pi m))]) (fun _=>[]) (fun m=>m<=k/\Vw g t td=(((List.range k).drop m).all (YH g (methodsOf g t) k)&&((List.range (methodsOf g t).length).drop (k + 1)).all (fun i=>(List.range i).all (YH g (methodsOf g t) i)))) (fun m=>k - m) 0 ⟨by simp,by rw [hr];rfl⟩ (tS) tH ?_;clear hr;rintro m ⟨hm,hr⟩;by_cases hltm:m < k
    ·have hlm:m < (methodsOf g t).length:=by omega
     have hem:=qI hlm;obtain ⟨hj0,hj⟩:=ql (List.getElem_mem hlm);have hefm:=Zp (f:=zY) hj;rw [qM hltm,YH,zQ hlt,zQ hlm,zQ hi,zQ hj] at hr
     repeat' (first|(refine shC ?_;first|refine qC (zfA _ _) ?_)|(refine shX ?_;first|refine qX he ?_|refine zy rfl (ah hi0 hef) rfl rfl ?_|refine zq rfl (ah hi0 hef) rfl rfl ?_|refine qX hem ?_|refine zy rfl (ah hj0 hefm) rfl rfl ?_|refine zq rfl (ah hj0 hefm) rfl rfl ?_)|refine sK ?_|refine sC (fun _=>?_) (fun _=>?_)|fail)
     all_goals first|(refine ak ?_;first|(simp only [zn,BL,List.length_map] at *;simp only [*,BL,List.length_map];done)|(simp_all [zn];done)|(simp_all [zn];omega)|(simp_all [zn];intros;omega))|(refine ⟨m + 1,⟨by omega,?_⟩,tD,tS,tH⟩;first|(simp only [BL,List.length_map] at *;simp only [*,BL,List.length_map];done)|(simp_all [];done)|(simp_all [];omega)|(simp_all [];intros;omega))|(trace "LEND";trace_state)
    ·rw [drop_end zwy64] at hr
     repeat' (first|refine sK ?_|refine sC (fun _=>?_) (fun _=>?_)|fail)
     all_goals first|(refine ak ?_;first|(simp only [zn,BL,List.length_map] at *;simp only [*,BL,List.length_map];done)|(simp_all [zn];done)|(simp_all [zn];omega)|(simp_all [zn];intros;omega))|(refine ⟨k + 1,⟨by omega,?_⟩,tD,tS,tH⟩;first|(simp only [BL,List.length_map] at *;simp only [*,BL,List.length_map];done)|(simp_all [];done)|(simp_all [];omega)|(simp_all [];intros;omega))|(trace "LEND";trace_state)
   ·rw [drop_end zwy64] at hr
    repeat' (first|refine sK ?_|refine sC (fun _=>?_) (fun _=>?_)|fail)
    all_goals first|(refine ak ?_;first|(simp only [zn,BL,List.length_map] at *;simp only [*,BL,List.length_map];done)|(simp_all [zn];done)|(simp_all [zn];omega)|(simp_all [zn];intros;omega))|(refine Yi rfl ?_;first|(simp only [zn,BL,List.length_map] at *;simp only [*,BL,List.length_map];done)|(simp_all [zn];done)|(simp_all [zn];omega)|(simp_all [zn];intros;omega))|skip
set_option maxHeartbeats 20000000
def zcm (g:Img) (k:Int) (i:Int):Bool:=!(k==3||(k==2&&!(g.fields.getD i.toNat default).static))
def YE (met:List Int) (x:Int):List Int:=if x∈met then met else met++[x]
def zcb (g:Img) (met:List Int) (u:Int):List Int:=(partsOf g u).foldl YE met
def Vg (g:Img):Nat->Nat->List Int->List Int
 | 0,_,met=>met
 | n + 1,i,met=>match met[i]? with|some u=>Vg g n (i + 1) (zcb g met u)|none=>met
def zjx (g:Img) (t:Int):List Int:=Vg g (g.fields.length + g.types.length + 1) 0 (partsOf g t)
def zac (g:Img) (t:Int):Bool:=(fieldsOf g t).all (zcm g (zW g t))&&(zW g t != 1||!decide (t∈zjx g t))
def PInv (g:Img) (t:Int) (met:List Int):Prop:=∃ a,met=partsOf g t++a/\a.Nodup/\∀ y∈a,0<=y/\y < g.types.length
theorem zbv (g:Img) (t:Int):(partsOf g t).length<=g.fields.length:=by
 rw [partsOf,List.length_map];exact Nat.le_trans (List.length_filter_le _ _) (QG g t)
theorem PInv.len {g:Img} {t:Int} {met:List Int} (h:PInv g t met):met.length<=g.fields.length + g.types.length:=by
 obtain ⟨a,rfl,h1,h2⟩:=h;have:=ZF _ _ h1 h2;have:=zbv g t;simp;omega
theorem QX {g:Img} {t x:Int} (h:x∈partsOf g t):0<=x/\x < g.types.length:=by
 simp only [partsOf,List.mem_map,List.mem_filter,za6,Bool.and_eq_true,beq_iff_eq] at h;obtain ⟨i,⟨_,_,hk⟩,rfl⟩:=h;rw [zW] at hk;cases ht:typeAt g (g.fields.getD i.toNat default).ty.index with
 | none=>rw [ht] at hk;simp at hk
 | some td=>exact Ve ht
theorem PInv.add {g:Img} {t:Int} {met:List Int} {x:Int} (h:PInv g t met) (hx:0<=x/\x < g.types.length):PInv g t (YE met x):=by
 unfold YE;split
 ·exact h
 ·rename_i hn;obtain ⟨a,rfl,h1,h2⟩:=h;refine ⟨a++[x],by simp,?_,?_⟩
  ·rw [List.nodup_append];simp [h1];intro b hb e;subst e;exact hn (by simp [hb])
  ·intro y hy;simp only [List.mem_append,List.mem_singleton] at hy;rcases hy with hy|rfl
   ·exact h2 y hy
   ·exact hx
theorem zts {met:List Int} {f:Int} {i:Nat} (h:i < met.length):i < (YE met f).length:=by
 unfold YE;split
 ·exact h
 ·simp;omega
theorem zpW (g:Img) (t:Int) (hg:g.types.length<=1000) (hgf:g.fields.length<=1000):ACall Tryz.prog 197 [zK g,pi t] (pb (zac g t)):=by
 refine zh zf Tryz.func197 rfl zws Tryz.ntmps197 zwy63 _ rfl (fun hw gB hgB=>?_);have hfl:=QG g t;have hpl:=zbv g t
 repeat' (first|(refine shC ?_;first|refine qC (Zq _ _) ?_|refine qC (zco g t hgf) ?_)|refine sA ?_|refine sC (fun _=>?_) (fun _=>?_)|fail)
 refine zL (fun k:Nat=>[(1,.pv (pi t)),(2,.pv (.ptr (zK g) 0)),(5,.pv (pi (zW g t))),(6,.pv (ints (fieldsOf g t))),(7,.pv (pi k))]) (fun _=>[]) (fun k=>k<=(fieldsOf g t).length/\zac g t=(((fieldsOf g t).drop k).all (zcm g (zW g t))&&(zW g t != 1||!decide (t∈zjx g t)))) (fun k=>(fieldsOf g t).length - k) 0 ⟨by simp,rfl⟩ (tS) tH ?_;rintro k ⟨hk,hr⟩;by_cases hlt:k < (fieldsOf g t).length
 ·have he:=qI hlt;obtain ⟨hi0,hi⟩:=ZK (List.getElem_mem hlt);have hef:=Zp (f:=ZI) hi;rw [YJ hlt,zcm,zQ hi] at hr
  repeat' (first|(refine shX ?_;first|refine qX he ?_|refine zy rfl (ah hi0 hef) rfl rfl ?_|refine zq rfl (ah hi0 hef) rfl rfl ?_)|refine sK ?_|refine sC (fun _=>?_) (fun _=>?_)|fail)
  all_goals first|(refine ak ?_;first|(simp only [zn,BL,List.length_map] at *;simp only [*,BL,List.length_map];done)|(simp_all [zn];done)|(simp_all [zn];omega)|(simp_all [zn];intros;omega))|(refine ⟨k + 1,⟨by omega,?_⟩,tD,tS,tH⟩;first|(simp only [BL,List.length_map] at *;simp only [*,BL,List.length_map];done)|(simp_all [];done)|(simp_all [];omega)|(simp_all [];intros;omega))|(trace "LEND";trace_state)
 ·rw [drop_end zwy62] at hr;by_cases hk1:zW g t=1
  ·have hkb:(zW g t != 1)=false:=by simp [hk1]
   rw [hkb] at hr;simp only [List.all_nil,Bool.true_and,Bool.false_or] at hr
   repeat' (first|refine Za (t:=8) 0 3 1 zwy69 rfl rfl ?_|(refine shC ?_;first|refine qC (zgX g t hgf) ?_)|(refine yj ?_;first|refine yV zf rfl rfl rfl rfl rfl rfl rfl zwy72 zwy64 rfl rfl ?_)|refine sK ?_|refine sC (fun _=>?_) (fun _=>?_)|fail)
   refine zL (fun x:Nat × List Int=>[(1,.pv (pi t)),(2,.pv (.ptr (zK g) 0)),(8,.own 0),(9,.pv (pi x.1))]) (fun x=>[(0,.row 3 1 (x.2.map pi))])
    (fun x=>x.1<=x.2.length/\PInv g t x.2/\Vg g (g.fields.length + g.types.length + 1 - x.1) x.1 x.2=zjx g t) (fun x=>g.fields.length + g.types.length + 1 - x.1) (0,partsOf g t) ⟨by simp,⟨[],by simp⟩,rfl⟩ (tS) ⟨qH rfl zwy63 zC,rfl⟩ ?_
   have hr0:=hr;clear hr hlt hk;rintro ⟨i,met⟩ ⟨hi,hmi,hr⟩;simp only at hi hmi hr;have hml:=hmi.len;rw [show g.fields.length + g.types.length + 1 - i=(g.fields.length + g.types.length - i) + 1 by omega,Vg] at hr;by_cases hlt:i < met.length
   ·have heU:=qI hlt;rw [List.getElem?_eq_getElem hlt] at hr;simp only at hr;have hpl2:=zbv g met[i]
    repeat' (first|(refine shC ?_;first|refine qC (zgX g met[i] hgf) ?_)|(refine shX ?_;first|refine qX heU ?_)|refine sK ?_|refine sC (fun _=>?_) (fun _=>?_)|fail)
    refine zL (fun x:Nat × List Int=>[(1,.pv (pi t)),(2,.pv (.ptr (zK g) 0)),(8,.own 0),(9,.pv (pi i)),(10,.pv (ints (partsOf g met[i]))),(11,.pv (pi x.1))]) (fun x=>[(0,.row 3 1 (x.2.map pi))])
     (fun x=>x.1<=(partsOf g met[i]).length/\PInv g t x.2/\((partsOf g met[i]).drop x.1).foldl YE x.2=zcb g met met[i]/\i < x.2.length) (fun x=>(partsOf g met[i]).length - x.1) (0,met) ⟨by simp,hmi,rfl,hlt⟩ (tS) ⟨aB zC,rfl⟩ ?_
    rintro ⟨k,met'⟩ ⟨hk,hmi',hr',hli'⟩;simp only at hk hmi' hr' hli';by_cases hltk:k < (partsOf g met[i]).length
    ·have heF:=qI hltk;rw [Wp hltk] at hr';have hml:=hmi'.len
     repeat' (first|(refine shC ?_;first|refine qC (XP _ _) ?_)|(refine shX ?_;first|refine qX heF ?_)|(refine yj ?_;first|refine yV zf rfl rfl rfl rfl rfl rfl rfl zwy72 zwy64 rfl rfl ?_)|refine sK ?_|refine sC (fun _=>?_) (fun _=>?_)|fail)
     all_goals refine ⟨(k + 1,YE met' (partsOf g met[i])[k]),⟨hltk,hmi'.add (QX (List.getElem_mem hltk)),hr',zts hli'⟩,tD,tS,⟨qH rfl ?_ zC,rfl⟩⟩
     all_goals simp_all [YE]
    ·rw [drop_end zwy62] at hr'
     repeat' (first|refine sK ?_|refine sC (fun _=>?_) (fun _=>?_)|fail)
     refine ⟨(i + 1,met'),⟨hli',hmi',?_⟩,tD,tS,⟨qH rfl rfl zC,rfl⟩⟩;simp only;rw [show g.fields.length + g.types.length + 1 - (i + 1)=g.fields.length + g.types.length - i by omega,<-hr,<-hr'];rfl
   ·rw [List.getElem?_eq_none zwy62] at hr;obtain rfl:met=zjx g t:=hr
    repeat' (first|(refine shC ?_;first|refine qC (XP _ _) ?_)|refine sK ?_|refine sC (fun _=>?_) (fun _=>?_)|fail)
    exact retq rfl (by rw [hr0];rfl)
  ·have hkb:(zW g t != 1)=true:=by simp [hk1]
   rw [hkb] at hr
   repeat' (first|refine sK ?_|refine sC (fun _=>?_) (fun _=>?_)|fail)
   all_goals first|(refine ak ?_;first|(simp only [zn,BL,List.length_map] at *;simp only [*,BL,List.length_map];done)|(simp_all [zn];done)|(simp_all [zn];omega)|(simp_all [zn];intros;omega))|(refine Yi rfl ?_;first|(simp only [zn,BL,List.length_map] at *;simp only [*,BL,List.length_map];done)|(simp_all [zn];done)|(simp_all [zn];omega)|(simp_all [zn];intros;omega))|skip
def Zn (g:Img) (t:Nat):Int :=
 let td:=g.types.getD t default
 if !Zj td||!QI g t td then 7 else if !Vw g t td then 18 else if !zac g t then 20 else 0
def QF (g:Img):Int × Int :=
 if !yh g then (0,17) else match (List.range g.types.length).find? (fun t=>Zn g t != 0) with
  | some t=>(((t:Nat):Int),Zn g t)
  | none=>(0,0)
def Yz (g:Img):Bool:=(QF g).2==0
theorem yg {g:Img} (h:yh g=true):g.types.length<=32/\g.fields.length<=64/\g.methods.length<=64/\∀ td∈g.types,Zm td g.types.length=true:=by
 simp only [yh,Bool.and_eq_true,decide_eq_true_eq,List.all_eq_true] at h;obtain ⟨⟨⟨⟨⟨⟨⟨h1,h2⟩,h3⟩,_⟩,_⟩,h4⟩,_⟩,_⟩:=h;exact ⟨by omega,by omega,by omega,h4⟩
theorem YB {td:TD} {n:Int} (h:Zm td n=true):0<=td.flags/\td.flags<=31 /\ -1<=td.ext/\td.ext < n/\td.faces.length<=4/\∀ f∈td.faces,0<=f/\f < n:=by
 simp only [Zm,Bool.and_eq_true,decide_eq_true_eq,List.all_eq_true,XK] at h;obtain ⟨⟨⟨⟨⟨⟨_,h1⟩,h2⟩,h3⟩,h4⟩,h5⟩,h6⟩:=h;exact ⟨h1,h2,h3,h4,by omega,h6⟩
theorem zh3 {g:Img} {k:Nat} (hf:yh g=true) (hk:k < g.types.length) (hno:∀ j,j < k->Zn g j=0) (h:Zn g k≠0):QF g=(((k:Nat):Int),Zn g k):=by
 have:(List.range g.types.length).find? (fun t=>Zn g t != 0)=some k:=by
  rw [List.find?_range_eq_some];exact ⟨by simpa using h,by simpa using hk,fun j hj=>by simp [hno j hj]⟩
 simp [QF,hf,this]
theorem zmu {g:Img} (hf:yh g=true) (hno:∀ j,j < g.types.length->Zn g j=0):QF g=(0,0):=by
 have:(List.range g.types.length).find? (fun t=>Zn g t != 0)=none:=by
  rw [List.find?_eq_none];intro j hj;simp [hno j (List.mem_range.1 hj)]
 simp [QF,hf,this]
theorem zcS {g:Img} {k:Nat} (hlt:k < g.types.length):Zn g k=if !Zj g.types[k]||!QI g k g.types[k] then 7 else if !Vw g k g.types[k] then 18 else if !zac g k then 20 else 0:=by
 rw [Zn,zQ hlt]
theorem zcO {g:Img} {k:Nat} (hlt:k < g.types.length):typeAt g (k:Int)=some g.types[k]:=by
 rw [typeAt,if_pos zwy62];simp [List.getElem?_eq_getElem hlt]
theorem zpy (g:Img):ACall Tryz.prog 141 [zK g] (.tup [pi (QF g).1,pi (QF g).2]):=by
 refine zh zf Tryz.func141 rfl zws Tryz.ntmps141 zwy63 _ rfl (fun hw gB hgB=>?_);have c0:=zmn g;cases hf:yh g
 ·rw [hf] at c0
  repeat' (first|(refine shC ?_;first|refine qC c0 ?_)|refine sK ?_|refine sC (fun _=>?_) (fun _=>?_)|fail)
  exact retq rfl (by simp [zn,QF,hf])
 ·rw [hf] at c0;obtain ⟨b1,b2,b3,b4⟩:=yg hf;have hg:g.types.length<=1000:=by omega
  have hgf:g.fields.length<=1000:=by omega
  have hgm:g.methods.length<=1000:=by omega
  have hfc:∀ td∈g.types,td.faces.length<=1000:=fun td h=>by have:=(YB (b4 td h)).2.2.2.2.1;omega
  repeat' (first|(refine shC ?_;first|refine qC c0 ?_)|refine sK ?_|refine sC (fun _=>?_) (fun _=>?_)|fail)
  refine zL (fun k:Nat=>[(1,.pv (.ptr (zK g) 0)),(4,.pv (pi k))]) (fun _=>[]) (fun k=>k<=g.types.length/\∀ j,j < k->Zn g j=0) (fun k=>g.types.length - k) 0 ⟨by omega,fun j h=>by omega⟩ (tS) tH ?_;rintro k ⟨hk,hno⟩;by_cases hlt:k < g.types.length
  ·have htd:=zcO hlt;have hx:=(YB (b4 _ (List.getElem_mem hlt))).2.2.2.1;have hat:=zcS hlt;have hfin:=fun h=>zh3 hf hlt hno h
   have hnx:Zn g k=0->∀ j,j < k + 1->Zn g j=0:=fun h j hj=>by
    by_cases e:j=k
    ·subst e;exact h
    ·exact hno j zwy62
   clear hno
   repeat' (first|(refine shC ?_;first|refine qC (zlB g k _ htd) ?_|refine qC (zpi g k _ htd hx hg hfc) ?_|refine qC (zoT g k _ htd hg hgf hgm) ?_|refine qC (zpW g k hg hgf) ?_)|refine sK ?_|refine sC (fun _=>?_) (fun _=>?_)|fail)
   ·rename_i h1;simp only [h1,BL,if_true,Bool.false_eq_true,if_false] at hat;exact retq rfl zwy97
   ·rename_i h1 h2;simp only [h1,h2,BL,if_true,Bool.false_eq_true,if_false] at hat;exact retq rfl zwy97
   ·rename_i h1 h2 h3;simp only [h1,h2,h3,BL,if_true,Bool.false_eq_true,if_false] at hat;exact retq rfl zwy97
   ·rename_i h1 h2 h3 h4;simp only [h1,h2,h3,h4,BL,if_true,Bool.false_eq_true,if_false] at hat;exact retq rfl zwy97
   ·rename_i h1 h2 h3 h4;simp only [h1,h2,h3,h4,BL,if_true,Bool.false_eq_true,if_false] at hat;exact ⟨k + 1,⟨hlt,hnx hat⟩,tD,tS,tH⟩
  ·repeat' (first|refine sK ?_|refine sC (fun _=>?_) (fun _=>?_)|fail)
   obtain rfl:k=g.types.length:=by omega
   exact retq rfl (by simp [zn,zmu hf hno])
theorem zrz (g:Img):ACall Tryz.prog 92 [zK g] (pb (Yz g)):=by
 refine zh zf Tryz.func92 rfl zws Tryz.ntmps92 zwy63 _ rfl (fun hw gB hgB=>?_)
 repeat' (first|(refine shC ?_;first|refine qC (zpy g) ?_)|refine sA ?_|refine sC (fun _=>?_) (fun _=>?_)|fail)
 all_goals (first|refine ak ?_|refine Yi rfl ?_)
 all_goals (first|(simp_all [zn,Yz];done)|(simp_all [zn,Yz];omega))
end Go.Cg
