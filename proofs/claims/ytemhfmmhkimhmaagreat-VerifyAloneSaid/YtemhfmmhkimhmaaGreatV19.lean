/- A part of the walks by abstract values: no statement of its own. -/
import Derived.Test.YtemhfmmhkimhmaaGreatV13
import Derived.Test.YtemhfmmhkimhmaaGreatV18
import Derived.Test.YtemhfmmhkimhmaaGreatV6
import Derived.Test.YtemhfmmhkimhmaaGreatV9
import Derived.Test.YtemhfmmhkimhmaaGreatV11
set_option linter.unusedVariables false
set_option linter.unusedSimpArgs false
namespace Go.Cg
open Go.Proofs
set_option maxHeartbeats 20000000
def fieldsOf (g:Img) (t:Int):List Int:=(nums g.fields.length).filter fun i=>there g t&&(g.fields.getD i.toNat default).owner==t
def methodsOf (g:Img) (t:Int):List Int:=(nums g.methods.length).filter fun i=>there g t&&(g.methods.getD i.toNat default).owner==t
theorem zfd {n k:Nat} (h:k < (nums n).length):(nums n)[k]=(k:Int):=by simp [nums]
theorem zcq (g:Img) (t:Int) (hg:g.fields.length<=1000):ACall Tryz.prog 220 [zK g,pi t] (ints (fieldsOf g t)):=by
 refine zh zf Tryz.func220 rfl zws Tryz.ntmps220 zwy63 _ rfl (fun hw gB hgB=>?_)
 repeat' (first|refine sA ?_|refine sC (fun _=>?_) (fun _=>?_)|fail)
 refine Za (t:=5) 0 3 1 zwy69 rfl rfl ?_;refine zL (fun x:Nat × List Int=>[(1,.pv (pi t)),(2,.pv (.ptr (zK g) 0)),(5,.own 0),(6,.pv (pi x.1))]) (fun x=>[(0,.row 3 1 (x.2.map pi))])
  (fun x=>x.1<=g.fields.length/\x.2.length<=x.1/\x.2++((nums g.fields.length).drop x.1).filter (fun i=>there g t&&(g.fields.getD i.toNat default).owner==t)=fieldsOf g t) (fun x=>g.fields.length - x.1) (0,[]) ⟨by simp,by simp,rfl⟩ (tS) ⟨aB zB,rfl⟩ ?_
 rintro ⟨k,out⟩ ⟨hk,hol,hr⟩;simp only at hk hol hr;by_cases hlt:k < g.fields.length
 ·have he:=zT (f:=ZI) hlt;rw [drop_cons zwy102,List.filter_cons,zfd,Int.toNat_natCast,zQ hlt] at hr;have c1:=Qa g t;cases hth:there g t
  ·rw [hth] at c1
   repeat' (first|(refine shC ?_;first|refine qC c1 ?_)|refine sK ?_|refine sC (fun _=>?_) (fun _=>?_)|fail)
   exact ⟨(k + 1,out),⟨by simp;omega,by simp;omega,by simpa [hth] using hr⟩,tD,tS,⟨qG rfl rfl zB,rfl⟩⟩
  ·rw [hth] at c1
   repeat' (first|(refine shC ?_;first|refine qC c1 ?_)|(refine shX ?_;first|refine qX he ?_)|(refine yw ?_;first|refine yV zf rfl rfl rfl rfl rfl rfl rfl zwy73 zwy64 rfl rfl ?_)|refine sK ?_|refine sC (fun _=>?_) (fun _=>?_)|fail)
   ·rename_i hx;rw [hth,hx] at hr;exact ⟨(k + 1,out++[(k:Int)]),⟨by simp;omega,by simp;omega,by simpa [hth] using hr⟩,tD,tS,⟨qG rfl zwy63 zB,rfl⟩⟩
   ·rename_i hx;rw [hth,hx] at hr;exact ⟨(k + 1,out),⟨by simp;omega,by simp;omega,by simpa [hth] using hr⟩,tD,tS,⟨qG rfl rfl zB,rfl⟩⟩
 ·rw [drop_end (by simp [nums];omega)] at hr
  repeat' (first|refine sK ?_|refine sC (fun _=>?_) (fun _=>?_)|fail)
  exact retq rfl zwy90
theorem QV (g:Img) (t:Int) (hg:g.methods.length<=1000):ACall Tryz.prog 30 [zK g,pi t] (ints (methodsOf g t)):=by
 refine zh zf Tryz.func30 rfl zws Tryz.ntmps30 zwy63 _ rfl (fun hw gB hgB=>?_)
 repeat' (first|refine sA ?_|refine sC (fun _=>?_) (fun _=>?_)|fail)
 refine Za (t:=5) 0 3 1 zwy69 rfl rfl ?_;refine zL (fun x:Nat × List Int=>[(1,.pv (pi t)),(2,.pv (.ptr (zK g) 0)),(5,.own 0),(6,.pv (pi x.1))]) (fun x=>[(0,.row 3 1 (x.2.map pi))])
  (fun x=>x.1<=g.methods.length/\x.2.length<=x.1/\x.2++((nums g.methods.length).drop x.1).filter (fun i=>there g t&&(g.methods.getD i.toNat default).owner==t)=methodsOf g t) (fun x=>g.methods.length - x.1) (0,[]) ⟨by simp,by simp,rfl⟩ (tS) ⟨aB zB,rfl⟩ ?_
 rintro ⟨k,out⟩ ⟨hk,hol,hr⟩;simp only at hk hol hr;by_cases hlt:k < g.methods.length
 ·have he:=zT (f:=zY) hlt;rw [drop_cons zwy102,List.filter_cons,zfd,Int.toNat_natCast,zQ hlt] at hr;have c1:=Qa g t;cases hth:there g t
  ·rw [hth] at c1
   repeat' (first|(refine shC ?_;first|refine qC c1 ?_)|refine sK ?_|refine sC (fun _=>?_) (fun _=>?_)|fail)
   exact ⟨(k + 1,out),⟨by simp;omega,by simp;omega,by simpa [hth] using hr⟩,tD,tS,⟨qG rfl rfl zB,rfl⟩⟩
  ·rw [hth] at c1
   repeat' (first|(refine shC ?_;first|refine qC c1 ?_)|(refine shX ?_;first|refine qX he ?_)|(refine yw ?_;first|refine yV zf rfl rfl rfl rfl rfl rfl rfl zwy73 zwy64 rfl rfl ?_)|refine sK ?_|refine sC (fun _=>?_) (fun _=>?_)|fail)
   ·rename_i hx;rw [hth,hx] at hr;exact ⟨(k + 1,out++[(k:Int)]),⟨by simp;omega,by simp;omega,by simpa [hth] using hr⟩,tD,tS,⟨qG rfl zwy63 zB,rfl⟩⟩
   ·rename_i hx;rw [hth,hx] at hr;exact ⟨(k + 1,out),⟨by simp;omega,by simp;omega,by simpa [hth] using hr⟩,tD,tS,⟨qG rfl rfl zB,rfl⟩⟩
 ·rw [drop_end (by simp [nums];omega)] at hr
  repeat' (first|refine sK ?_|refine sC (fun _=>?_) (fun _=>?_)|fail)
  exact retq rfl zwy90
def XV (a b:Me):Bool:=decide (a.ret=b.ret)&&(a.flags.tmod 2==b.flags.tmod 2)&&decide (a.params=b.params)
theorem zfA (a b:Me):ACall Tryz.prog 143 [zY a,zY b] (pb (XV a b)):=by
 refine zh zf Tryz.func143 rfl zws Tryz.ntmps143 zwy63 _ rfl (fun hw gB hgB=>?_);have hty:=XP a.ret b.ret
 repeat' (first|(refine shC ?_;first|refine qC (zbi _ _) ?_)|refine sA ?_|refine sC (fun _=>?_) (fun _=>?_)|fail)
 all_goals refine ak ?_
 all_goals (simp only [zn,XV,<-hty];clear hty;simp_all)
def zaX (g:Img) (i:Int):Bool :=
 let f:=g.fields.getD i.toNat default
 !f.static&&f.ty.kind==6&&f.ty.dims==0&&zV g f.ty.index==1
def partsOf (g:Img) (t:Int):List Int:=((fieldsOf g t).filter (zaX g)).map fun i=>(g.fields.getD i.toNat default).ty.index
theorem ZH {g:Img} {t i:Int} (h:i∈fieldsOf g t):0<=i/\i.toNat < g.fields.length:=by
 simp only [fieldsOf,nums,List.mem_filter,List.mem_map,List.mem_range] at h;obtain ⟨⟨k,hk,rfl⟩,_⟩:=h;exact ⟨by omega,by simpa using hk⟩
theorem qj {g:Img} {t i:Int} (h:i∈methodsOf g t):0<=i/\i.toNat < g.methods.length:=by
 simp only [methodsOf,nums,List.mem_filter,List.mem_map,List.mem_range] at h;obtain ⟨⟨k,hk,rfl⟩,_⟩:=h;exact ⟨by omega,by simpa using hk⟩
theorem zcX {n:Nat} {p:Int->Bool}:((nums n).filter p).length<=n:=Nat.le_trans (List.length_filter_le _ _) (by simp [nums])
theorem QL (g:Img) (t:Int):(fieldsOf g t).length<=g.fields.length:=zcX
theorem ZF (g:Img) (t:Int):(methodsOf g t).length<=g.methods.length:=zcX
theorem Zn {α:Type} {f:α->PV} {l:List α} {i:Int} (h:i.toNat < l.length):(l.map f)[i.toNat]?=some (f l[i.toNat]):=by simp [h]
theorem zhd (g:Img) (t:Int) (hg:g.fields.length<=1000):ACall Tryz.prog 221 [zK g,pi t] (ints (partsOf g t)):=by
 refine zh zf Tryz.func221 rfl zws Tryz.ntmps221 zwy63 _ rfl (fun hw gB hgB=>?_);have hfl:=QL g t
 repeat' (first|(refine shC ?_;first|refine qC (zcq g t hg) ?_)|refine sA ?_|refine sC (fun _=>?_) (fun _=>?_)|fail)
 refine Za (t:=5) 0 3 1 zwy69 rfl rfl ?_;refine zL (fun x:Nat × List Int=>[(2,.pv (.ptr (zK g) 0)),(5,.own 0),(6,.pv (ints (fieldsOf g t))),(7,.pv (pi x.1))]) (fun x=>[(0,.row 3 1 (x.2.map pi))])
  (fun x=>x.1<=(fieldsOf g t).length/\x.2.length<=x.1/\x.2++(((fieldsOf g t).drop x.1).filter (zaX g)).map (fun i=>(g.fields.getD i.toNat default).ty.index)=partsOf g t) (fun x=>(fieldsOf g t).length - x.1) (0,[]) ⟨by simp,by simp,rfl⟩ (tS) ⟨aB zB,rfl⟩ ?_
 rintro ⟨k,out⟩ ⟨hk,hol,hr⟩;simp only at hk hol hr;by_cases hlt:k < (fieldsOf g t).length
 ·have he:=qJ hlt;obtain ⟨h0,hi⟩:=ZH (List.getElem_mem hlt);have hef:=Zn (f:=ZI) hi;rw [drop_cons hlt,List.filter_cons,zaX] at hr;simp only [zQ hi] at hr
  repeat' (first|refine zN 1 8 0 zf rfl zws zws zws rfl rfl rfl rfl rfl rfl rfl rfl rfl rfl rfl rfl rfl rfl (fun _=>rfl) rfl rfl rfl ?_|refine ⟨_,_,rfl,rfl,rfl,?_⟩|(refine shC ?_;first|refine qC (Zp _ _) ?_)|(refine shX ?_;first|refine qX he ?_|refine zy rfl (ah h0 hef) rfl rfl ?_|refine zq rfl (ah h0 hef) rfl rfl ?_)|(refine yw ?_;first|refine yV zf rfl rfl rfl rfl rfl rfl rfl zwy73 zwy64 rfl rfl ?_)|refine sK ?_|refine sC (fun _=>?_) (fun _=>?_)|fail)
  ·rw [if_pos (by simp_all)] at hr;exact ⟨(k + 1,out++[g.fields[(fieldsOf g t)[k].toNat].ty.index]),⟨by simp;omega,by simp;omega,by rw [List.map_cons,zQ hi] at hr;simpa using hr⟩,tD,tS,⟨qG rfl zwy63 zB,rfl⟩⟩
  all_goals
   rw [if_neg (by simp_all)] at hr;exact ⟨(k + 1,out),⟨by simp;omega,by simp;omega,by simpa using hr⟩,tD,tS,⟨qG rfl rfl zB,rfl⟩⟩
 ·rw [drop_end zwy62] at hr
  repeat' (first|refine sK ?_|refine sC (fun _=>?_) (fun _=>?_)|fail)
  exact retq rfl zwy90
set_option maxHeartbeats 20000000
def Zg (td:TD):Bool :=
 if WX td.flags==2 then td.ext == -1&&yR td.flags 4&&!yR td.flags 1&&!yR td.flags 8&&!yR td.flags 16
 else if WX td.flags==1 then td.ext == -1&&yR td.flags 8&&!yR td.flags 4&&!yR td.flags 16
 else if WX td.flags==3 then td.ext == -1&&yR td.flags 8&&!yR td.flags 4&&((td.faces.length:Int)==0)
 else true
theorem zlf (g:Img) (t:Int) (td:TD) (htd:typeAt g t=some td):ACall Tryz.prog 194 [zK g,pi t] (pb (Zg td)):=by
 refine zh zf Tryz.func194 rfl zws Tryz.ntmps194 zwy63 _ rfl (fun hw gB hgB=>?_);obtain ⟨h0,he⟩:=qO htd;have c1:=Zp g t;rw [show zV g t=WX td.flags by rw [zV,htd]] at c1
 repeat' (first|(refine shC ?_;first|refine qC c1 ?_|refine qC (zkl _) ?_|refine qC (zj0 _) ?_|refine qC (zrE _) ?_|refine qC (zfY _) ?_|refine qC (ziZ _) ?_)|(refine shX ?_;first|refine zy rfl (ah h0 he) rfl rfl ?_|refine zq rfl (ah h0 he) rfl rfl ?_)|refine sA ?_|refine sC (fun _=>?_) (fun _=>?_)|fail)
 all_goals first|(refine ak ?_;first|(simp only [zn,Zg,BL,List.length_map] at *;simp only [*,BL,List.length_map];done)|(simp_all [zn,Zg];done)|(simp_all [zn,Zg];omega)|(simp_all [zn,Zg];intros;omega))|(refine Yf rfl ?_;first|(simp only [zn,Zg,BL,List.length_map] at *;simp only [*,BL,List.length_map];done)|(simp_all [zn,Zg];done)|(simp_all [zn,Zg];omega)|(simp_all [zn,Zg];intros;omega))|skip
theorem zgC {g:Img}:∀ (n:Nat) (t:Int) (out:List Int),∃ r,zaI g n t out=out++r
 | 0,t,out=>⟨[],by simp [zaI]⟩
 | n + 1,t,out=>by
  rw [zaI];cases ht:typeAt g t with
  | none=>exact ⟨[],by simp⟩
  | some td =>
   by_cases hm:t∈out
   ·exact ⟨[],by simp [hm]⟩
   ·obtain ⟨r,hr⟩:=zgC n td.ext (out++[t]);exact ⟨t::r,by simp only [hm,if_false];rw [hr];simp⟩
theorem ze4 {g:Img} {t:Int} {td:TD} (h:typeAt g t=some td):∃ r,up g t=t::r:=by
 obtain ⟨r,hr⟩:=zgC (g:=g) g.types.length td.ext [t];exact ⟨r,by rw [up,zaI,h];simpa using hr⟩
def Vk (g:Img) (t:Int):Int:=match typeAt g ((up g t).getLastD 0) with|some td=>td.ext|none => -1
def Xb (g:Img) (t:Int):Int:=match typeAt g t with|some td=>td.flags|none=>0
def WH (g:Img) (t:Int) (td:TD):Bool:=!decide (0<=td.ext)||(zV g td.ext==0&&!yR (Xb g td.ext) 8&&decide (Vk g t < 0))
def VB (g:Img) (l:List Int) (i:Nat):Bool:=zV g (l.getD i 0)==2&&!decide (l.getD i 0∈l.take i)
def QE (g:Img) (t:Int) (td:TD):Bool :=
 WH g t td&&(List.range td.faces.length).all (VB g td.faces)&&(zV g t != 2||!decide (t∈Zo g t))
theorem zpv (g:Img) (t:Int) (td:TD) (htd:typeAt g t=some td) (hx:td.ext < g.types.length) (hg:g.types.length<=1000) (hfc:∀ td∈g.types,td.faces.length<=1000):ACall Tryz.prog 195 [zK g,pi t] (pb (QE g t td)):=by
 refine zh zf Tryz.func195 rfl zws Tryz.ntmps195 zwy63 _ rfl (fun hw gB hgB=>?_);obtain ⟨h0,he⟩:=qO htd;have hfl:td.faces.length<=1000:=hfc td zwy87;have hui:=WO g t;have hul:=ZC _ _ hui.1 hui.2;obtain ⟨ur,hur⟩:=ze4 htd;have hpos:0 < (up g t).length:=by rw [hur];simp
 refine Xk [(1,.pv (pi t)),(2,.pv (.ptr (zK g) 0))] [] ?_ ?_
 ·repeat' (first|refine sA ?_|refine sC (fun _=>?_) (fun _=>?_)|fail)
  all_goals (refine ⟨?_,tH⟩;repeat (first|exact yN|refine yB rfl ?_|(refine zfj rfl ?_ ?_;· (first|(simp_all [WH];done)|(simp_all [WH];omega)))|(refine qZ rfl ?_ ?_;· (rw [wrap_in zwy62 zwy62] <;> omega))))
 refine Xk [(1,.pv (pi t)),(2,.pv (.ptr (zK g) 0)),(5,.pv (pi td.ext))] [] ?_ ?_
 ·repeat' (first|(refine shX ?_;first|refine zy rfl (ah h0 he) rfl rfl ?_|refine zq rfl (ah h0 he) rfl rfl ?_)|refine sA ?_|refine sC (fun _=>?_) (fun _=>?_)|fail)
  all_goals (refine ⟨?_,tH⟩;repeat (first|exact yN|refine yB rfl ?_|(refine zfj rfl ?_ ?_;· (first|(simp_all [WH];done)|(simp_all [WH];omega)))|(refine qZ rfl ?_ ?_;· (rw [wrap_in zwy62 zwy62] <;> omega))))
 have hlast:(up g t)[(up g t).length - 1]?=some ((up g t).getLastD 0):=by
  rw [hur];simp [List.getLastD_eq_getLast?,List.getLast?_eq_getElem?]
 have hlt:(up g t).length - 1 < (up g t).length:=by omega
 obtain ⟨tl,htl⟩:=Yo (g:=g) (t:=(up g t).getLastD 0) (hui.2 _ (List.mem_of_getElem? hlast));obtain ⟨hl0,hel⟩:=qO htl;have hw1:IntKind.i64.wrap (((up g t).map pi).length - 1:Int)=(((up g t).length - 1:Nat):Int):=by rw [List.length_map,wrap_in zwy62 zwy62];omega
 have heU:((up g t).map pi)[(IntKind.i64.wrap (((up g t).map pi).length - 1:Int)).toNat]?=some (pi ((up g t).getLastD 0)):=by rw [hw1];simp [hlast]
 have htop:Vk g t=tl.ext:=by rw [Vk,htl]
 cases hxo:WH g t td
 ·have hpos:0<=td.ext:=by
   rw [WH] at hxo;simp only [Bool.or_eq_false_iff,Bool.not_eq_false',decide_eq_true_eq] at hxo;exact hxo.1
  obtain ⟨te,hte⟩:=Yo ⟨hpos,hx⟩;obtain ⟨he0,hee⟩:=qO hte;have hfa:Xb g td.ext=te.flags:=by rw [Xb,hte]
  rw [WH,hfa,htop] at hxo;have hres:QE g t td=false:=by rw [QE,WH,hfa,htop,hxo];rfl
  simp only [decide_eq_true hpos,Bool.not_true,Bool.false_or] at hxo;by_cases hk:zV g td.ext=0
  ·have c1:=Zp g td.ext;rw [hk] at c1;have c2:=zfY te.flags;cases hb:yR te.flags 8
   ·rw [hb] at c2;have htx:¬ tl.ext < 0:=by simpa [hk,hb] using hxo
    repeat' (first|(refine shC ?_;first|refine qC c1 ?_|refine qC c2 ?_|refine qC (zaW g t hg) ?_)|(refine shX ?_;first|refine zy rfl (ah he0 hee) rfl rfl ?_|refine zq rfl (ah he0 hee) rfl rfl ?_|refine zy rfl (zk zf rfl rfl rfl rfl rfl rfl zwy95 heU) rfl rfl ?_|refine zq rfl (zk zf rfl rfl rfl rfl rfl rfl zwy95 heU) rfl rfl ?_|refine zy rfl (ah hl0 hel) rfl rfl ?_|refine zq rfl (ah hl0 hel) rfl rfl ?_)|refine sK ?_|refine sC (fun _=>?_) (fun _=>?_)|fail)
    all_goals exact retq rfl (by simp [zn,hres])
   ·rw [hb] at c2
    repeat' (first|(refine shC ?_;first|refine qC c1 ?_|refine qC c2 ?_)|(refine shX ?_;first|refine zy rfl (ah he0 hee) rfl rfl ?_|refine zq rfl (ah he0 hee) rfl rfl ?_)|refine sK ?_|refine sC (fun _=>?_) (fun _=>?_)|fail)
    all_goals exact retq rfl (by simp [zn,hres])
  ·have hkb:(zV g td.ext != 0)=true:=by simp [hk]
   repeat' (first|(refine shC ?_;first|refine qC (Zp _ _) ?_)|refine sK ?_|refine sC (fun _=>?_) (fun _=>?_)|fail)
   all_goals exact retq rfl (by simp [zn,hres])
 ·refine Xk [(1,.pv (pi t)),(2,.pv (.ptr (zK g) 0))] [] ?_ ?_
  ·by_cases hpos:0<=td.ext
   ·obtain ⟨te,hte⟩:=Yo ⟨hpos,hx⟩;obtain ⟨he0,hee⟩:=qO hte;have hfa:Xb g td.ext=te.flags:=by rw [Xb,hte]
    rw [WH,hfa,htop] at hxo;simp only [decide_eq_true hpos,Bool.not_true,Bool.false_or,Bool.and_eq_true,beq_iff_eq,Bool.not_eq_true',decide_eq_true_eq] at hxo;have c1:=Zp g td.ext;rw [hxo.1.1] at c1;have c2:=zfY te.flags;rw [hxo.1.2] at c2;have htx:=hxo.2
    repeat' (first|(refine shC ?_;first|refine qC c1 ?_|refine qC c2 ?_|refine qC (zaW g t hg) ?_)|(refine shX ?_;first|refine zy rfl (ah he0 hee) rfl rfl ?_|refine zq rfl (ah he0 hee) rfl rfl ?_|refine zy rfl (zk zf rfl rfl rfl rfl rfl rfl zwy95 heU) rfl rfl ?_|refine zq rfl (zk zf rfl rfl rfl rfl rfl rfl zwy95 heU) rfl rfl ?_|refine zy rfl (ah hl0 hel) rfl rfl ?_|refine zq rfl (ah hl0 hel) rfl rfl ?_)|refine sK ?_|refine sC (fun _=>?_) (fun _=>?_)|fail)
    all_goals (refine ⟨?_,tH⟩;repeat (first|exact yN|refine yB rfl ?_|(refine zfj rfl ?_ ?_;· (first|(simp_all [WH];done)|(simp_all [WH];omega)))|(refine qZ rfl ?_ ?_;· (rw [wrap_in zwy62 zwy62] <;> omega))))
   ·repeat' (first|refine sK ?_|refine sC (fun _=>?_) (fun _=>?_)|fail)
    all_goals (refine ⟨?_,tH⟩;repeat (first|exact yN|refine yB rfl ?_|(refine zfj rfl ?_ ?_;· (first|(simp_all [WH];done)|(simp_all [WH];omega)))|(refine qZ rfl ?_ ?_;· (rw [wrap_in zwy62 zwy62] <;> omega))))
  repeat' (first|(refine shX ?_;first|refine zy rfl (ah h0 he) rfl rfl ?_|refine zq rfl (ah h0 he) rfl rfl ?_)|refine sA ?_|refine sC (fun _=>?_) (fun _=>?_)|fail)
  refine zL (fun k:Nat=>[(1,.pv (pi t)),(2,.pv (.ptr (zK g) 0)),(7,.pv (ints td.faces)),(8,.pv (pi k))]) (fun _=>[]) (fun k=>k<=td.faces.length/\QE g t td=(((List.range td.faces.length).drop k).all (VB g td.faces)&&(zV g t != 2||!decide (t∈Zo g t)))) (fun k=>td.faces.length - k) 0 ⟨by simp,by simp [QE,hxo]⟩ (tS) tH ?_;rintro k ⟨hk,hr⟩;by_cases hlt:k < td.faces.length
  ·have hef:=qJ hlt;rw [qP hlt,VB,zQ hlt] at hr
   repeat' (first|refine zq rfl (ZM (xs:=td.faces) (f:=pi) 0 k zf rfl rfl rfl rfl rfl rfl rfl zwy62 zwy62) rfl rfl ?_|(refine shC ?_;first|refine qC (Zp _ _) ?_|refine qC (XO (td.faces.take k) _) ?_)|(refine shX ?_;first|refine qX hef ?_)|refine sK ?_|refine sC (fun _=>?_) (fun _=>?_)|fail)
   all_goals first|(refine ak ?_;first|(simp only [zn,BL,List.length_map] at *;simp only [*,BL,List.length_map];done)|(simp_all [zn];done)|(simp_all [zn];omega)|(simp_all [zn];intros;omega))|(refine ⟨k + 1,⟨by omega,?_⟩,tD,tS,tH⟩;first|(simp only [BL,List.length_map] at *;simp only [*,BL,List.length_map];done)|(simp_all [];done)|(simp_all [];omega)|(simp_all [];intros;omega))|(trace "LEND";trace_state)
  ·rw [drop_end zwy64] at hr
   repeat' (first|(refine shC ?_;first|refine qC (Zp _ _) ?_|refine qC (zgL g t hg hfc) ?_|refine qC (XO _ _) ?_)|refine sK ?_|refine sC (fun _=>?_) (fun _=>?_)|fail)
   all_goals first|(refine ak ?_;first|(simp only [zn,BL,List.length_map] at *;simp only [*,BL,List.length_map];done)|(simp_all [zn];done)|(simp_all [zn];omega)|(simp_all [zn];intros;omega))|(refine Yf rfl ?_;first|(simp only [zn,BL,List.length_map] at *;simp only [*,BL,List.length_map];done)|(simp_all [zn];done)|(simp_all [zn];omega)|(simp_all [zn];intros;omega))|skip
def Xt (g:Img) (t:Int) (td:TD) (i:Nat):Bool:=!((i:Int) != t&&(g.types.getD i default).name.toList==td.name.toList)
def fName (g:Img) (i:Int):ByteArray:=(g.fields.getD i.toNat default).name
def Xr (g:Img) (l:List Int) (i k:Nat):Bool:=!((fName g (l.getD i 0)).toList==(fName g (l.getD k 0)).toList)
def YF (g:Img) (l:List Int) (i k:Nat):Bool :=
 !((g.methods.getD (l.getD i 0).toNat default).name.toList==(g.methods.getD (l.getD k 0).toNat default).name.toList&&XV (g.methods.getD (l.getD i 0).toNat default) (g.methods.getD (l.getD k 0).toNat default))
def Vl (g:Img) (t:Int) (td:TD):Bool :=
 (List.range g.types.length).all (Xt g t td)
 && (List.range (fieldsOf g t).length).all (fun i=>(List.range i).all (Xr g (fieldsOf g t) i))
 && (List.range (methodsOf g t).length).all (fun i=>(List.range i).all (YF g (methodsOf g t) i))
set_option maxHeartbeats 1000000 in
theorem zoK (g:Img) (t:Int) (td:TD) (htd:typeAt g t=some td) (hg:g.types.length<=1000) (hgf:g.fields.length<=1000) (hgm:g.methods.length<=1000):ACall Tryz.prog 196 [zK g,pi t] (pb (Vl g t td)):=by
 refine zh zf Tryz.func196 rfl zws Tryz.ntmps196 zwy63 _ rfl (fun hw gB hgB=>?_);obtain ⟨h0,heT⟩:=qO htd;have hfl:=QL g t;have hml:=ZF g t
 repeat' (first|refine sA ?_|refine sC (fun _=>?_) (fun _=>?_)|fail)
 refine zL (fun k:Nat=>[(1,.pv (pi t)),(2,.pv (.ptr (zK g) 0)),(5,.pv (pi k))]) (fun _=>[]) (fun k=>k<=g.types.length/\Vl g t td=(((List.range g.types.length).drop k).all (Xt g t td)&&(List.range (fieldsOf g t).length).all (fun i=>(List.range i).all (Xr g (fieldsOf g t) i))&&(List.range (methodsOf g t).length).all (fun i=>(List.range i).all (YF g (methodsOf g t) i)))) (fun k=>g.types.length - k) 0 ⟨by simp,rfl⟩ (tS) tH ?_;rintro k ⟨hk,hr⟩;by_cases hlt:k < g.types.length
 ·have he:=zT (f:=Zx) hlt;rw [qP hlt,Xt,zQ hlt] at hr
  repeat' (first|(refine shX ?_;first|refine qX he ?_|refine zy rfl (ah h0 heT) rfl rfl ?_|refine zq rfl (ah h0 heT) rfl rfl ?_)|refine sK ?_|refine sC (fun _=>?_) (fun _=>?_)|fail)
  all_goals first|(refine ak ?_;first|(simp only [zn,BL,List.length_map] at *;simp only [*,BL,List.length_map];done)|(simp_all [zn];done)|(simp_all [zn];omega)|(simp_all [zn];intros;omega))|(refine ⟨k + 1,⟨by omega,?_⟩,tD,tS,tH⟩;first|(simp only [BL,List.length_map] at *;simp only [*,BL,List.length_map];done)|(simp_all [];done)|(simp_all [];omega)|(simp_all [];intros;omega))|(trace "LEND";trace_state)
 ·rw [drop_end zwy64] at hr
  repeat' (first|(refine shC ?_;first|refine qC (zcq g t hgf) ?_)|refine sK ?_|refine sC (fun _=>?_) (fun _=>?_)|fail)
  refine zL (fun k:Nat=>[(1,.pv (pi t)),(2,.pv (.ptr (zK g) 0)),(6,.pv (ints (fieldsOf g t))),(7,.pv (pi k))]) (fun _=>[]) (fun k=>k<=(fieldsOf g t).length/\Vl g t td=(((List.range (fieldsOf g t).length).drop k).all (fun i=>(List.range i).all (Xr g (fieldsOf g t) i))&&(List.range (methodsOf g t).length).all (fun i=>(List.range i).all (YF g (methodsOf g t) i)))) (fun k=>(fieldsOf g t).length - k) 0 ⟨by simp,by simp_all⟩ (tS) tH ?_;clear hk hr hlt;rintro k ⟨hk,hr⟩;by_cases hlt:k < (fieldsOf g t).length
  ·have he:=qJ hlt;obtain ⟨hi0,hi⟩:=ZH (List.getElem_mem hlt);have hef:=Zn (f:=ZI) hi;rw [qP hlt] at hr
   repeat' (first|refine sK ?_|refine sC (fun _=>?_) (fun _=>?_)|fail)
   refine zL (fun m:Nat=>[(1,.pv (pi t)),(2,.pv (.ptr (zK g) 0)),(6,.pv (ints (fieldsOf g t))),(7,.pv (pi k)),(8,.pv (pi m))]) (fun _=>[]) (fun m=>m<=k/\Vl g t td=(((List.range k).drop m).all (Xr g (fieldsOf g t) k)&&((List.range (fieldsOf g t).length).drop (k + 1)).all (fun i=>(List.range i).all (Xr g (fieldsOf g t) i))&&(List.range (methodsOf g t).length).all (fun i=>(List.range i).all (YF g (methodsOf g t) i)))) (fun m=>k - m) 0 ⟨by simp,by rw [hr];rfl⟩ (tS) tH ?_;clear hr;rintro m ⟨hm,hr⟩;by_cases hltm:m < k
   ·have hlm:m < (fieldsOf g t).length:=by omega
    have hem:=qJ hlm;obtain ⟨hj0,hj⟩:=ZH (List.getElem_mem hlm);have hefm:=Zn (f:=ZI) hj;rw [qP hltm,Xr,fName,fName,zQ hlt,zQ hlm,zQ hi,zQ hj] at hr
    repeat' (first|(refine shX ?_;first|refine qX he ?_|refine zy rfl (ah hi0 hef) rfl rfl ?_|refine zq rfl (ah hi0 hef) rfl rfl ?_|refine qX hem ?_|refine zy rfl (ah hj0 hefm) rfl rfl ?_|refine zq rfl (ah hj0 hefm) rfl rfl ?_)|refine sK ?_|refine sC (fun _=>?_) (fun _=>?_)|fail)
    all_goals first|(refine ak ?_;first|(simp only [zn,BL,List.length_map] at *;simp only [*,BL,List.length_map];done)|(simp_all [zn];done)|(simp_all [zn];omega)|(simp_all [zn];intros;omega))|(refine ⟨m + 1,⟨by omega,?_⟩,tD,tS,tH⟩;first|(simp only [BL,List.length_map] at *;simp only [*,BL,List.length_map];done)|(simp_all [];done)|(simp_all [];omega)|(simp_all [];intros;omega))|(trace "LEND";trace_state)
   ·rw [drop_end zwy64] at hr
    repeat' (first|refine sK ?_|refine sC (fun _=>?_) (fun _=>?_)|fail)
    all_goals first|(refine ak ?_;first|(simp only [zn,BL,List.length_map] at *;simp only [*,BL,List.length_map];done)|(simp_all [zn];done)|(simp_all [zn];omega)|(simp_all [zn];intros;omega))|(refine ⟨k + 1,⟨by omega,?_⟩,tD,tS,tH⟩;first|(simp only [BL,List.length_map] at *;simp only [*,BL,List.length_map];done)|(simp_all [];done)|(simp_all [];omega)|(simp_all [];intros;omega))|(trace "LEND";trace_state)
  ·rw [drop_end zwy64] at hr
   repeat' (first|(refine shC ?_;first|refine qC (QV g t hgm) ?_)|refine sK ?_|refine sC (fun _=>?_) (fun _=>?_)|fail)
   refine zL (fun k:Nat=>[(1,.pv (pi t)),(2,.pv (.ptr (zK g) 0)),(9,.pv (ints (methodsOf g t))),(10,.pv (pi k))]) (fun _=>[]) (fun k=>k<=(methodsOf g t).length/\Vl g t td=(((List.range (methodsOf g t).length).drop k).all (fun i=>(List.range i).all (YF g (methodsOf g t) i)))) (fun k=>(methodsOf g t).length - k) 0 ⟨by simp,by simp_all⟩ (tS) tH ?_;clear hk hr hlt;rintro k ⟨hk,hr⟩;by_cases hlt:k < (methodsOf g t).length
   ·have he:=qJ hlt;obtain ⟨hi0,hi⟩:=qj (List.getElem_mem hlt);have hef:=Zn (f:=zY) hi;rw [qP hlt] at hr
    repeat' (first|refine sK ?_|refine sC (fun _=>?_) (fun _=>?_)|fail)
    refine zL (fun m:Nat=>[(1,.pv (pi t)),(2,.pv (.ptr (zK g) 0)),(9,.pv (ints (methodsOf g t))),(10,.pv (pi k)),(11,.pv (pi m))]) (fun _=>[]) (fun m=>m<=k/\Vl g t td=(((List.range k).drop m).all (YF g (methodsOf g t) k)&&((List.range (methodsOf g t).length).drop (k + 1)).all (fun i=>(List.range i).all (YF g (methodsOf g t) i)))) (fun m=>k - m) 0 ⟨by simp,by rw [hr];rfl⟩ (tS) tH ?_;clear hr;rintro m ⟨hm,hr⟩;by_cases hltm:m < k
    ·have hlm:m < (methodsOf g t).length:=by omega
     have hem:=qJ hlm;obtain ⟨hj0,hj⟩:=qj (List.getElem_mem hlm);have hefm:=Zn (f:=zY) hj;rw [qP hltm,YF,zQ hlt,zQ hlm,zQ hi,zQ hj] at hr
     repeat' (first|(refine shC ?_;first|refine qC (zfA _ _) ?_)|(refine shX ?_;first|refine qX he ?_|refine zy rfl (ah hi0 hef) rfl rfl ?_|refine zq rfl (ah hi0 hef) rfl rfl ?_|refine qX hem ?_|refine zy rfl (ah hj0 hefm) rfl rfl ?_|refine zq rfl (ah hj0 hefm) rfl rfl ?_)|refine sK ?_|refine sC (fun _=>?_) (fun _=>?_)|fail)
     all_goals first|(refine ak ?_;first|(simp only [zn,BL,List.length_map] at *;simp only [*,BL,List.length_map];done)|(simp_all [zn];done)|(simp_all [zn];omega)|(simp_all [zn];intros;omega))|(refine ⟨m + 1,⟨by omega,?_⟩,tD,tS,tH⟩;first|(simp only [BL,List.length_map] at *;simp only [*,BL,List.length_map];done)|(simp_all [];done)|(simp_all [];omega)|(simp_all [];intros;omega))|(trace "LEND";trace_state)
    ·rw [drop_end zwy64] at hr
     repeat' (first|refine sK ?_|refine sC (fun _=>?_) (fun _=>?_)|fail)
     all_goals first|(refine ak ?_;first|(simp only [zn,BL,List.length_map] at *;simp only [*,BL,List.length_map];done)|(simp_all [zn];done)|(simp_all [zn];omega)|(simp_all [zn];intros;omega))|(refine ⟨k + 1,⟨by omega,?_⟩,tD,tS,tH⟩;first|(simp only [BL,List.length_map] at *;simp only [*,BL,List.length_map];done)|(simp_all [];done)|(simp_all [];omega)|(simp_all [];intros;omega))|(trace "LEND";trace_state)
   ·rw [drop_end zwy64] at hr
    repeat' (first|refine sK ?_|refine sC (fun _=>?_) (fun _=>?_)|fail)
    all_goals first|(refine ak ?_;first|(simp only [zn,BL,List.length_map] at *;simp only [*,BL,List.length_map];done)|(simp_all [zn];done)|(simp_all [zn];omega)|(simp_all [zn];intros;omega))|(refine Yf rfl ?_;first|(simp only [zn,BL,List.length_map] at *;simp only [*,BL,List.length_map];done)|(simp_all [zn];done)|(simp_all [zn];omega)|(simp_all [zn];intros;omega))|skip
set_option maxHeartbeats 20000000
def zcs (g:Img) (k:Int) (i:Int):Bool:=!(k==3||(k==2&&!(g.fields.getD i.toNat default).static))
def YC (met:List Int) (x:Int):List Int:=if x∈met then met else met++[x]
def zb4 (g:Img) (met:List Int) (u:Int):List Int:=(partsOf g u).foldl YC met
def Vz (g:Img):Nat->Nat->List Int->List Int
 | 0,_,met=>met
 | n + 1,i,met=>match met[i]? with|some u=>Vz g n (i + 1) (zb4 g met u)|none=>met
def zia (g:Img) (t:Int):List Int:=Vz g (g.fields.length + g.types.length + 1) 0 (partsOf g t)
def zam (g:Img) (t:Int):Bool:=(fieldsOf g t).all (zcs g (zV g t))&&(zV g t != 1||!decide (t∈zia g t))
def PInv (g:Img) (t:Int) (met:List Int):Prop:=∃ a,met=partsOf g t++a/\a.Nodup/\∀ y∈a,0<=y/\y < g.types.length
theorem zbK (g:Img) (t:Int):(partsOf g t).length<=g.fields.length:=by
 rw [partsOf,List.length_map];exact Nat.le_trans (List.length_filter_le _ _) (QL g t)
theorem PInv.len {g:Img} {t:Int} {met:List Int} (h:PInv g t met):met.length<=g.fields.length + g.types.length:=by
 obtain ⟨a,rfl,h1,h2⟩:=h;have:=ZC _ _ h1 h2;have:=zbK g t;simp;omega
theorem QU {g:Img} {t x:Int} (h:x∈partsOf g t):0<=x/\x < g.types.length:=by
 simp only [partsOf,List.mem_map,List.mem_filter,zaX,Bool.and_eq_true,beq_iff_eq] at h;obtain ⟨i,⟨_,_,hk⟩,rfl⟩:=h;rw [zV] at hk;cases ht:typeAt g (g.fields.getD i.toNat default).ty.index with
 | none=>rw [ht] at hk;simp at hk
 | some td=>exact Vp ht
theorem PInv.add {g:Img} {t:Int} {met:List Int} {x:Int} (h:PInv g t met) (hx:0<=x/\x < g.types.length):PInv g t (YC met x):=by
 unfold YC;split
 ·exact h
 ·rename_i hn;obtain ⟨a,rfl,h1,h2⟩:=h;refine ⟨a++[x],by simp,?_,?_⟩
  ·rw [List.nodup_append];simp [h1];intro b hb e;subst e;exact hn (by simp [hb])
  ·intro y hy;simp only [List.mem_append,List.mem_singleton] at hy;rcases hy with hy|rfl
   ·exact h2 y hy
   ·exact hx
theorem ztF {met:List Int} {f:Int} {i:Nat} (h:i < met.length):i < (YC met f).length:=by
 unfold YC;split
 ·exact h
 ·simp;omega
theorem zpa (g:Img) (t:Int) (hg:g.types.length<=1000) (hgf:g.fields.length<=1000):ACall Tryz.prog 197 [zK g,pi t] (pb (zam g t)):=by
 refine zh zf Tryz.func197 rfl zws Tryz.ntmps197 zwy63 _ rfl (fun hw gB hgB=>?_);have hfl:=QL g t;have hpl:=zbK g t
 repeat' (first|(refine shC ?_;first|refine qC (Zp _ _) ?_|refine qC (zcq g t hgf) ?_)|refine sA ?_|refine sC (fun _=>?_) (fun _=>?_)|fail)
 refine zL (fun k:Nat=>[(1,.pv (pi t)),(2,.pv (.ptr (zK g) 0)),(5,.pv (pi (zV g t))),(6,.pv (ints (fieldsOf g t))),(7,.pv (pi k))]) (fun _=>[]) (fun k=>k<=(fieldsOf g t).length/\zam g t=(((fieldsOf g t).drop k).all (zcs g (zV g t))&&(zV g t != 1||!decide (t∈zia g t)))) (fun k=>(fieldsOf g t).length - k) 0 ⟨by simp,rfl⟩ (tS) tH ?_;rintro k ⟨hk,hr⟩;by_cases hlt:k < (fieldsOf g t).length
 ·have he:=qJ hlt;obtain ⟨hi0,hi⟩:=ZH (List.getElem_mem hlt);have hef:=Zn (f:=ZI) hi;rw [YI hlt,zcs,zQ hi] at hr
  repeat' (first|(refine shX ?_;first|refine qX he ?_|refine zy rfl (ah hi0 hef) rfl rfl ?_|refine zq rfl (ah hi0 hef) rfl rfl ?_)|refine sK ?_|refine sC (fun _=>?_) (fun _=>?_)|fail)
  all_goals first|(refine ak ?_;first|(simp only [zn,BL,List.length_map] at *;simp only [*,BL,List.length_map];done)|(simp_all [zn];done)|(simp_all [zn];omega)|(simp_all [zn];intros;omega))|(refine ⟨k + 1,⟨by omega,?_⟩,tD,tS,tH⟩;first|(simp only [BL,List.length_map] at *;simp only [*,BL,List.length_map];done)|(simp_all [];done)|(simp_all [];omega)|(simp_all [];intros;omega))|(trace "LEND";trace_state)
 ·rw [drop_end zwy62] at hr;by_cases hk1:zV g t=1
  ·have hkb:(zV g t != 1)=false:=by simp [hk1]
   rw [hkb] at hr;simp only [List.all_nil,Bool.true_and,Bool.false_or] at hr
   repeat' (first|refine Za (t:=8) 0 3 1 zwy69 rfl rfl ?_|(refine shC ?_;first|refine qC (zhd g t hgf) ?_)|(refine yw ?_;first|refine yV zf rfl rfl rfl rfl rfl rfl rfl zwy73 zwy64 rfl rfl ?_)|refine sK ?_|refine sC (fun _=>?_) (fun _=>?_)|fail)
   refine zL (fun x:Nat × List Int=>[(1,.pv (pi t)),(2,.pv (.ptr (zK g) 0)),(8,.own 0),(9,.pv (pi x.1))]) (fun x=>[(0,.row 3 1 (x.2.map pi))])
    (fun x=>x.1<=x.2.length/\PInv g t x.2/\Vz g (g.fields.length + g.types.length + 1 - x.1) x.1 x.2=zia g t) (fun x=>g.fields.length + g.types.length + 1 - x.1) (0,partsOf g t) ⟨by simp,⟨[],by simp⟩,rfl⟩ (tS) ⟨qG rfl zwy63 zB,rfl⟩ ?_
   have hr0:=hr;clear hr hlt hk;rintro ⟨i,met⟩ ⟨hi,hmi,hr⟩;simp only at hi hmi hr;have hml:=hmi.len;rw [show g.fields.length + g.types.length + 1 - i=(g.fields.length + g.types.length - i) + 1 by omega,Vz] at hr;by_cases hlt:i < met.length
   ·have heU:=qJ hlt;rw [List.getElem?_eq_getElem hlt] at hr;simp only at hr;have hpl2:=zbK g met[i]
    repeat' (first|(refine shC ?_;first|refine qC (zhd g met[i] hgf) ?_)|(refine shX ?_;first|refine qX heU ?_)|refine sK ?_|refine sC (fun _=>?_) (fun _=>?_)|fail)
    refine zL (fun x:Nat × List Int=>[(1,.pv (pi t)),(2,.pv (.ptr (zK g) 0)),(8,.own 0),(9,.pv (pi i)),(10,.pv (ints (partsOf g met[i]))),(11,.pv (pi x.1))]) (fun x=>[(0,.row 3 1 (x.2.map pi))])
     (fun x=>x.1<=(partsOf g met[i]).length/\PInv g t x.2/\((partsOf g met[i]).drop x.1).foldl YC x.2=zb4 g met met[i]/\i < x.2.length) (fun x=>(partsOf g met[i]).length - x.1) (0,met) ⟨by simp,hmi,rfl,hlt⟩ (tS) ⟨aB zB,rfl⟩ ?_
    rintro ⟨k,met'⟩ ⟨hk,hmi',hr',hli'⟩;simp only at hk hmi' hr' hli';by_cases hltk:k < (partsOf g met[i]).length
    ·have heF:=qJ hltk;rw [Wv hltk] at hr';have hml:=hmi'.len
     repeat' (first|(refine shC ?_;first|refine qC (XO _ _) ?_)|(refine shX ?_;first|refine qX heF ?_)|(refine yw ?_;first|refine yV zf rfl rfl rfl rfl rfl rfl rfl zwy73 zwy64 rfl rfl ?_)|refine sK ?_|refine sC (fun _=>?_) (fun _=>?_)|fail)
     all_goals refine ⟨(k + 1,YC met' (partsOf g met[i])[k]),⟨hltk,hmi'.add (QU (List.getElem_mem hltk)),hr',ztF hli'⟩,tD,tS,⟨qG rfl ?_ zB,rfl⟩⟩
     all_goals simp_all [YC]
    ·rw [drop_end zwy62] at hr'
     repeat' (first|refine sK ?_|refine sC (fun _=>?_) (fun _=>?_)|fail)
     refine ⟨(i + 1,met'),⟨hli',hmi',?_⟩,tD,tS,⟨qG rfl rfl zB,rfl⟩⟩;simp only;rw [show g.fields.length + g.types.length + 1 - (i + 1)=g.fields.length + g.types.length - i by omega,<-hr,<-hr'];rfl
   ·rw [List.getElem?_eq_none zwy62] at hr;obtain rfl:met=zia g t:=hr
    repeat' (first|(refine shC ?_;first|refine qC (XO _ _) ?_)|refine sK ?_|refine sC (fun _=>?_) (fun _=>?_)|fail)
    exact retq rfl (by rw [hr0];rfl)
  ·have hkb:(zV g t != 1)=true:=by simp [hk1]
   rw [hkb] at hr
   repeat' (first|refine sK ?_|refine sC (fun _=>?_) (fun _=>?_)|fail)
   all_goals first|(refine ak ?_;first|(simp only [zn,BL,List.length_map] at *;simp only [*,BL,List.length_map];done)|(simp_all [zn];done)|(simp_all [zn];omega)|(simp_all [zn];intros;omega))|(refine Yf rfl ?_;first|(simp only [zn,BL,List.length_map] at *;simp only [*,BL,List.length_map];done)|(simp_all [zn];done)|(simp_all [zn];omega)|(simp_all [zn];intros;omega))|skip
def Zi (g:Img) (t:Nat):Int :=
 let td:=g.types.getD t default
 if !Zg td||!QE g t td then 7 else if !Vl g t td then 18 else if !zam g t then 20 else 0
def QG (g:Img):Int × Int :=
 if !yh g then (0,17) else match (List.range g.types.length).find? (fun t=>Zi g t != 0) with
  | some t=>(((t:Nat):Int),Zi g t)
  | none=>(0,0)
def Yz (g:Img):Bool:=(QG g).2==0
theorem yg {g:Img} (h:yh g=true):g.types.length<=32/\g.fields.length<=64/\g.methods.length<=64/\∀ td∈g.types,Zj td g.types.length=true:=by
 simp only [yh,Bool.and_eq_true,decide_eq_true_eq,List.all_eq_true] at h;obtain ⟨⟨⟨⟨⟨⟨⟨h1,h2⟩,h3⟩,_⟩,_⟩,h4⟩,_⟩,_⟩:=h;exact ⟨by omega,by omega,by omega,h4⟩
theorem Yw {td:TD} {n:Int} (h:Zj td n=true):0<=td.flags/\td.flags<=31 /\ -1<=td.ext/\td.ext < n/\td.faces.length<=4/\∀ f∈td.faces,0<=f/\f < n:=by
 simp only [Zj,Bool.and_eq_true,decide_eq_true_eq,List.all_eq_true,XI] at h;obtain ⟨⟨⟨⟨⟨⟨_,h1⟩,h2⟩,h3⟩,h4⟩,h5⟩,h6⟩:=h;exact ⟨h1,h2,h3,h4,by omega,h6⟩
theorem zh1 {g:Img} {k:Nat} (hf:yh g=true) (hk:k < g.types.length) (hno:∀ j,j < k->Zi g j=0) (h:Zi g k≠0):QG g=(((k:Nat):Int),Zi g k):=by
 have:(List.range g.types.length).find? (fun t=>Zi g t != 0)=some k:=by
  rw [List.find?_range_eq_some];exact ⟨by simpa using h,by simpa using hk,fun j hj=>by simp [hno j hj]⟩
 simp [QG,hf,this]
theorem zmH {g:Img} (hf:yh g=true) (hno:∀ j,j < g.types.length->Zi g j=0):QG g=(0,0):=by
 have:(List.range g.types.length).find? (fun t=>Zi g t != 0)=none:=by
  rw [List.find?_eq_none];intro j hj;simp [hno j (List.mem_range.1 hj)]
 simp [QG,hf,this]
theorem zcC {g:Img} {k:Nat} (hlt:k < g.types.length):Zi g k=if !Zg g.types[k]||!QE g k g.types[k] then 7 else if !Vl g k g.types[k] then 18 else if !zam g k then 20 else 0:=by
 rw [Zi,zQ hlt]
theorem zcy {g:Img} {k:Nat} (hlt:k < g.types.length):typeAt g (k:Int)=some g.types[k]:=by
 rw [typeAt,if_pos zwy62];simp [List.getElem?_eq_getElem hlt]
theorem zoE (g:Img):ACall Tryz.prog 141 [zK g] (.tup [pi (QG g).1,pi (QG g).2]):=by
 refine zh zf Tryz.func141 rfl zws Tryz.ntmps141 zwy63 _ rfl (fun hw gB hgB=>?_);have c0:=znA g;cases hf:yh g
 ·rw [hf] at c0
  repeat' (first|(refine shC ?_;first|refine qC c0 ?_)|refine sK ?_|refine sC (fun _=>?_) (fun _=>?_)|fail)
  exact retq rfl (by simp [zn,QG,hf])
 ·rw [hf] at c0;obtain ⟨b1,b2,b3,b4⟩:=yg hf;have hg:g.types.length<=1000:=by omega
  have hgf:g.fields.length<=1000:=by omega
  have hgm:g.methods.length<=1000:=by omega
  have hfc:∀ td∈g.types,td.faces.length<=1000:=fun td h=>by have:=(Yw (b4 td h)).2.2.2.2.1;omega
  repeat' (first|(refine shC ?_;first|refine qC c0 ?_)|refine sK ?_|refine sC (fun _=>?_) (fun _=>?_)|fail)
  refine zL (fun k:Nat=>[(1,.pv (.ptr (zK g) 0)),(4,.pv (pi k))]) (fun _=>[]) (fun k=>k<=g.types.length/\∀ j,j < k->Zi g j=0) (fun k=>g.types.length - k) 0 ⟨by omega,fun j h=>by omega⟩ (tS) tH ?_;rintro k ⟨hk,hno⟩;by_cases hlt:k < g.types.length
  ·have htd:=zcy hlt;have hx:=(Yw (b4 _ (List.getElem_mem hlt))).2.2.2.1;have hat:=zcC hlt;have hfin:=fun h=>zh1 hf hlt hno h
   have hnx:Zi g k=0->∀ j,j < k + 1->Zi g j=0:=fun h j hj=>by
    by_cases e:j=k
    ·subst e;exact h
    ·exact hno j zwy62
   clear hno
   repeat' (first|(refine shC ?_;first|refine qC (zlf g k _ htd) ?_|refine qC (zpv g k _ htd hx hg hfc) ?_|refine qC (zoK g k _ htd hg hgf hgm) ?_|refine qC (zpa g k hg hgf) ?_)|refine sK ?_|refine sC (fun _=>?_) (fun _=>?_)|fail)
   ·rename_i h1;simp only [h1,BL,if_true,Bool.false_eq_true,if_false] at hat;exact retq rfl zwy97
   ·rename_i h1 h2;simp only [h1,h2,BL,if_true,Bool.false_eq_true,if_false] at hat;exact retq rfl zwy97
   ·rename_i h1 h2 h3;simp only [h1,h2,h3,BL,if_true,Bool.false_eq_true,if_false] at hat;exact retq rfl zwy97
   ·rename_i h1 h2 h3 h4;simp only [h1,h2,h3,h4,BL,if_true,Bool.false_eq_true,if_false] at hat;exact retq rfl zwy97
   ·rename_i h1 h2 h3 h4;simp only [h1,h2,h3,h4,BL,if_true,Bool.false_eq_true,if_false] at hat;exact ⟨k + 1,⟨hlt,hnx hat⟩,tD,tS,tH⟩
  ·repeat' (first|refine sK ?_|refine sC (fun _=>?_) (fun _=>?_)|fail)
   obtain rfl:k=g.types.length:=by omega
   exact retq rfl (by simp [zn,zmH hf hno])
theorem zq4 (g:Img):ACall Tryz.prog 92 [zK g] (pb (Yz g)):=by
 refine zh zf Tryz.func92 rfl zws Tryz.ntmps92 zwy63 _ rfl (fun hw gB hgB=>?_)
 repeat' (first|(refine shC ?_;first|refine qC (zoE g) ?_)|refine sA ?_|refine sC (fun _=>?_) (fun _=>?_)|fail)
 all_goals (first|refine ak ?_|refine Yf rfl ?_)
 all_goals (first|(simp_all [zn,Yz];done)|(simp_all [zn,Yz];omega))
set_option maxHeartbeats 20000000
def zat (k:Int) (st:Bool) (o:Int):Ty × Bool:=if k < 0||st then (ty0,false) else if k==1 then (⟨6,o,0,true⟩,true) else (⟨5,o,0,false⟩,true)
theorem zjP (g:Img) (m:Me):ACall Tryz.prog 123 [zK g,zY m] (.tup [yJ (zat (Yb g m.owner) (qU m.flags 1) m.owner).1,pb (zat (Yb g m.owner) (qU m.flags 1) m.owner).2]):=by
 refine zh zf Tryz.func123 rfl zws Tryz.ntmps123 zwy63 _ rfl (fun hw gB hgB=>?_)
 repeat' (first|(refine shC ?_;first|refine qC (QD _ _) ?_)|refine sA ?_|refine sC (fun _=>?_) (fun _=>?_)|fail)
 ·rename_i h1;have hs:zat (Yb g m.owner) (qU m.flags 1) m.owner=(ty0,false):=by simp_all [zat]
  rw [hs];exact retq rfl rfl
 ·rename_i h1 h2;have h3:(qU m.flags 1)=true:=h2;have hs:zat (Yb g m.owner) (qU m.flags 1) m.owner=(ty0,false):=by simp [zat,h3]
  rw [hs];exact retq rfl rfl
 ·rename_i h1 h2 h4;have h3:(qU m.flags 1)=false:=h2;have hs:zat (Yb g m.owner) (qU m.flags 1) m.owner=(⟨6,m.owner,0,true⟩,true):=by rw [zat,h3];simp_all
  rw [hs];exact retq rfl rfl
 ·rename_i h1 h2 h4;have h3:(qU m.flags 1)=false:=h2;have hs:zat (Yb g m.owner) (qU m.flags 1) m.owner=(⟨5,m.owner,0,false⟩,true):=by rw [zat,h3];simp_all
  rw [hs];exact retq rfl rfl
def zvL (x:Ty × Bool) (l:List Ty):List Ty:=(if x.2 then [x.1] else [])++l
theorem zwk1 {G:Prop} (h:G:=by repeat' (first|refine Za (t:=5) 0 32 4 zwy69 rfl rfl ?_|(refine shC ?_;first|refine qC c1 ?_)|(have:=b0;refine yw ?_;first|refine yV zf rfl rfl rfl rfl rfl rfl rfl zwy107 zwy64 rfl rfl ?_)|(have:=b1;refine yw ?_;first|refine yV zf rfl rfl rfl rfl rfl rfl rfl (by show _ * 32<=_;simp;try omega) (by simp;try omega) rfl rfl ?_)|refine sA ?_|refine sC (fun _=>?_) (fun _=>?_)|exact retq rfl rfl|fail)):G:=h
theorem zca (g:Img) (m:Me) (hp:m.params.length<=1000):ACall Tryz.prog 87 [zK g,zY m] (tys (zvL (zat (Yb g m.owner) (qU m.flags 1) m.owner) m.params)):=by
 refine zh zf Tryz.func87 rfl zws Tryz.ntmps87 zwy63 _ rfl (fun hw gB hgB=>?_);have c1:=zjP g m;generalize zat (Yb g m.owner) (qU m.flags 1) m.owner=x at c1 ⊢;obtain ⟨t,b⟩:=x;cases b
 ·have b0:=();exact zwk1
 ·have b1:=();exact zwk1
theorem zrQ:∀ n:Fin 32,zg2 (n.val:Int)=WX (n.val:Int):=by decide +kernel
theorem zjh {f:Int} (h0:0<=f) (h1:f<=31):zg2 f=WX f:=by
 have:=zrQ ⟨f.toNat,by omega⟩;simpa [Int.toNat_of_nonneg h0] using this
theorem Yx {g:Img} (h:Yz g=true):yh g=true:=by
 cases hf:yh g with
 | true=>rfl
 | false=>simp [Yz,QG,hf] at h
theorem ziD {g:Img} (h:yh g=true) (t:Int):Yb g t=zV g t:=by
 unfold Yb zV;cases ht:typeAt g t with
 | none=>rfl
 | some td =>
  have hm:td∈g.types:=by
   unfold typeAt at ht;split at ht
   ·exact List.mem_of_getElem? ht
   ·cases ht
  obtain ⟨h1,h2,_⟩:=Yw ((yg h).2.2.2 td hm);exact zjh h1 h2
set_option maxHeartbeats 20000000
theorem YV (g:Img) (t:Int) (hg:g.types.length<=1000):ACall Tryz.prog 109 [zK g,pi t] (ints (up g t)):=by
 refine zh zf Tryz.func109 rfl zws Tryz.ntmps109 zwy63 _ rfl (fun hw gB hgB=>?_)
 repeat' (first|refine sA ?_|refine sC (fun _=>?_) (fun _=>?_)|fail)
 refine Za (t:=5) 0 3 1 zwy69 rfl rfl ?_;refine zL (fun x:Int × List Int=>[(1,.pv (pi x.1)),(2,.pv (.ptr (zK g) 0)),(5,.own 0)]) (fun x=>[(0,.row 3 1 (x.2.map pi))]) (UpInv g t) (fun x=>g.types.length + 1 - x.2.length) (t,[]) ⟨rfl,by simp,by simp⟩ (tS) ⟨aB zB,rfl⟩ ?_;rintro ⟨t',out⟩ hi;have hlen:=hi.len;simp only at hlen;cases ht:typeAt g t' with
 | none =>
  have hth:there g t'=false:=by
   cases hh:there g t' with
   | false=>rfl
   | true=>obtain ⟨td,h⟩:=(Ya g t').1 hh;rw [ht] at h;cases h
  have c1:ACall Tryz.prog 71 [zK g,pi t'] (pb false):=by rw [<-hth];exact QB g t'
  repeat' (first|(refine shC ?_;first|refine qC c1 ?_)|refine sK ?_|refine sC (fun _=>?_) (fun _=>?_)|fail)
  exact retq rfl (by rw [<-hi.stop (.inl ht)];rfl)
 | some td =>
  have hth:there g t'=true:=(Ya g t').2 ⟨td,ht⟩;have c1:ACall Tryz.prog 71 [zK g,pi t'] (pb true):=by rw [<-hth];exact QB g t'
  obtain ⟨h0,he⟩:=qO ht;by_cases hm:t'∈out
  ·have c2:ACall Tryz.prog 150 [ints out,pi t'] (pb true):=by have:=YZ out t';rwa [decide_eq_true hm] at this
   repeat' (first|(refine shC ?_;first|refine qC c1 ?_|refine qC c2 ?_)|refine sK ?_|refine sC (fun _=>?_) (fun _=>?_)|fail)
   exact retq rfl (by rw [<-hi.stop (.inr hm)];rfl)
  ·have c2:ACall Tryz.prog 150 [ints out,pi t'] (pb false):=by have:=YZ out t';rwa [decide_eq_false hm] at this
   have hnx:=hi.next ht hm
   repeat' (first|(refine shC ?_;first|refine qC c1 ?_|refine qC c2 ?_)|(refine shX ?_;first|refine zy rfl (ah h0 he) rfl rfl ?_|refine zq rfl (ah h0 he) rfl rfl ?_)|(refine yw ?_;first|refine yV zf rfl rfl rfl rfl rfl rfl rfl zwy73 zwy64 rfl rfl ?_)|refine sK ?_|refine sC (fun _=>?_) (fun _=>?_)|fail)
   refine ⟨(td.ext,out++[t']),hnx,by simp;omega,tS,⟨qG rfl zwy63 zB,rfl⟩⟩
theorem zgM (l:List Int) (hb:l.length<=100000):ACall Tryz.prog 43 [ints l] (ints l):=by
 refine zh zf Tryz.func43 rfl zws Tryz.ntmps43 zwy63 _ rfl (fun hw gB hgB=>?_)
 repeat' (first|refine WJ zf rfl rfl rfl rfl rfl rfl rfl (fun bb hbb=>?_)|refine zy rfl (WT zf rfl rfl rfl rfl rfl) rfl rfl ?_|(refine yw ?_;first|refine zy rfl (Xi zf rfl rfl (.inl rfl) rfl rfl zwy73 zwy64) rfl rfl ?_)|refine sA ?_|refine sC (fun _=>?_) (fun _=>?_)|fail)
 ·rename_i h;have:l=[]:=by have:=hbb h;simpa using this
  subst this;exact zbX (t:=2) (ps:=[ints []]) rfl (QX 1 false) rfl rfl
 ·exact retq rfl rfl
def zd0 (l:List Int) (p:Int->Bool):Int:=if l.any p then ((l.findIdx p:Nat):Int) else -1
theorem zaZ (l:List Int) (p:Int->Bool) (f:FuncId) (first cap:List PV) (hp:∀ x∈l,ACall Tryz.prog f (first++[pi x]++cap) (pb (p x))):ACall Tryz.prog 107 [ints l,.fn (.func f) first cap] (pi (zd0 l p)):=by
 refine zh zf Tryz.func107 rfl zws Tryz.ntmps107 zwy63 _ rfl (fun hw gB hgB=>?_);have hl:=zdl hw.1
 repeat' (first|refine sA ?_|refine sC (fun _=>?_) (fun _=>?_)|fail)
 refine zL (fun k:Nat=>[(0,.pv (ints l)),(1,.pv (.fn (.func f) first cap)),(7,.pv (pi l.length)),(8,.pv (pi k))]) (fun _=>[]) (fun k=>k<=l.length/\∀ j (h:j < k) (h2:j < l.length),p l[j]=false) (fun k=>l.length - k) 0 ⟨by omega,fun j h=>by omega⟩ (tS) tH ?_;rintro k ⟨hk,hno⟩;by_cases hlt:k < l.length
 ·have he:=qJ hlt;have c1:=hp _ (List.getElem_mem hlt);cases hpx:p l[k]
  ·rw [hpx] at c1
   repeat' (first|(refine shC ?_;first|refine qV (c1) ?_)|(refine shX ?_;first|refine qX he ?_)|refine sK ?_|refine sC (fun _=>?_) (fun _=>?_)|fail)
   exact ⟨k + 1,⟨hlt,fun j hj h2=>by
    by_cases e:j=k
    ·subst e;exact hpx
    ·exact hno j zwy62 h2⟩,tD,tS,tH⟩
  ·rw [hpx] at c1;have hi:l.findIdx p=k:=by
    rw [List.findIdx_eq hlt];exact ⟨hpx,fun j hj=>hno j hj zwy62⟩
   have ha:l.any p=true:=List.any_eq_true.2 ⟨_,List.getElem_mem hlt,hpx⟩
   repeat' (first|(refine shC ?_;first|refine qV (c1) ?_)|(refine shX ?_;first|refine qX he ?_)|refine sK ?_|refine sC (fun _=>?_) (fun _=>?_)|fail)
   exact retq rfl (by simp [zn,zd0,ha,hi])
 ·have ha:l.any p=false:=by
   rw [List.any_eq_false];intro x hx;obtain ⟨j,hj,rfl⟩:=List.getElem_of_mem hx;simp [hno j zwy62 hj]
  repeat' (first|refine sK ?_|refine sC (fun _=>?_) (fun _=>?_)|fail)
  exact retq rfl (by simp [zn,zd0,ha])
theorem zfu (l:List Int) (f:FuncId) (first cap:List PV) (hp:∀ x∈l,ACall Tryz.prog f (first++[pi x]++cap) (pb false)):ACall Tryz.prog 153 [ints l,.fn (.func f) first cap] (ints l):=by
 refine zh zf Tryz.func153 rfl zws Tryz.ntmps153 zwy63 _ rfl (fun hw gB hgB=>?_);have c1:=zaZ l (fun _=>false) f first cap hp
 rw [show zd0 l (fun _=>false) = -1 by simp [zd0]] at c1
 repeat' (first|(refine shC ?_;first|refine qC c1 ?_)|refine sA ?_|refine sC (fun _=>?_) (fun _=>?_)|fail)
 exact retq rfl rfl
theorem znJ (g:Img) (x:Int):ACall Tryz.prog 154 [pi x,.ptr (zK g) 0] (pb (!there g x)):=by
 refine zh zf Tryz.func154 rfl zws Tryz.ntmps154 zwy63 _ rfl (fun hw gB hgB=>?_)
 repeat' (first|(refine shC ?_;first|refine qC (QB g x) ?_)|refine sA ?_|refine sC (fun _=>?_) (fun _=>?_)|fail)
 all_goals first|(refine ak ?_;first|(simp only [zn,BL,List.length_map] at *;simp only [*,BL,List.length_map];done)|(simp_all [zn];done)|(simp_all [zn];omega)|(simp_all [zn];intros;omega))|(refine Yf rfl ?_;first|(simp only [zn,BL,List.length_map] at *;simp only [*,BL,List.length_map];done)|(simp_all [zn];done)|(simp_all [zn];omega)|(simp_all [zn];intros;omega))|skip
theorem VY (g:Img) (t:Int) (hfc:(yP g t).length<=1000) (hin:∀ f∈yP g t,there g f=true):ACall Tryz.prog 111 [zK g,pi t] (ints (yP g t)):=by
 refine zh zf Tryz.func111 rfl zws Tryz.ntmps111 zwy63 _ rfl (fun hw gB hgB=>?_);cases ht:typeAt g t with
 | none =>
  have hth:there g t=false:=by
   cases hh:there g t with
   | false=>rfl
   | true=>obtain ⟨td,h⟩:=(Ya g t).1 hh;rw [ht] at h;cases h
  have c1:ACall Tryz.prog 71 [zK g,pi t] (pb false):=by rw [<-hth];exact QB g t
  repeat' (first|(refine shC ?_;first|refine qC c1 ?_)|refine sK ?_|refine sC (fun _=>?_) (fun _=>?_)|fail)
  rw [yP,ht];exact zbX (t:=4) (ps:=[ints []]) rfl (QX 1 false) rfl rfl
 | some td =>
  have hth:there g t=true:=(Ya g t).2 ⟨td,ht⟩;have c1:ACall Tryz.prog 71 [zK g,pi t] (pb true):=by rw [<-hth];exact QB g t
  obtain ⟨h0,he⟩:=qO ht;have hfa:yP g t=td.faces:=by rw [yP,ht]
  rw [hfa] at hin hfc ⊢;have c2:=zfu td.faces 154 [] [.ptr (zK g) 0] (fun x hx=>by have:=znJ g x;rw [hin x hx] at this;exact this)
  repeat' (first|(refine shC ?_;first|refine qC c1 ?_|refine zy rfl (zJ rfl rfl (zgM _ zwy62)) rfl rfl ?_|refine zq rfl (zJ rfl rfl (zgM _ zwy62)) rfl rfl ?_|refine qC c2 ?_)|(refine shX ?_;first|refine zy rfl (ah h0 he) rfl rfl ?_|refine zq rfl (ah h0 he) rfl rfl ?_)|refine sK ?_|refine sC (fun _=>?_) (fun _=>?_)|fail)
  exact retq rfl rfl
theorem zmn (g:Img) (t:Int) (hfc:(yP g t).length<=1000) (hin:∀ f∈yP g t,there g f=true):ACall Tryz.prog 113 [pi t,.ptr (zK g) 0] (ints (yP g t)):=by
 refine zh zf Tryz.func113 rfl zws Tryz.ntmps113 zwy63 _ rfl (fun hw gB hgB=>?_)
 repeat' (first|(refine shC ?_;first|refine qC (VY g t hfc hin) ?_)|refine sA ?_|refine sC (fun _=>?_) (fun _=>?_)|fail)
 exact retq rfl rfl
set_option maxHeartbeats 20000000
abbrev hR (met:List Int):HEnv:=[(0,.cell (.own 2)),(1,.cell (.own 3)),(2,.obj (MapSet Tryz.prog 3 3 met)),(3,.row 3 1 (met.map pi))]
structure GOk (G:HEnv):Prop where
 kill:WI 3 G=G
 ids:∀ i h,HEnv.get G i=some h->4<=i
 inn:∀ met,hIn (hR met++G) G=true
theorem zsL {met:List Int} {G:HEnv} {i:Nat} (h:4<=i):HEnv.get (hR met++G) i=HEnv.get G i:=by
 rw [get_append];have:HEnv.get (hR met) i=none:=by
  simp only [hR,HEnv.get_cons,HEnv.get_nil];rw [if_neg zwy62,if_neg zwy62,if_neg zwy62,if_neg zwy62]
 rw [this]
theorem GOk.killHE {G:HEnv} (hG:GOk G) {i:Nat} {h:HE} (hg:HEnv.get G i=some h):Cg.killHE 3 h=h:=by
 have:=Qm 3 G i;rw [hG.kill,hg] at this;simpa using this.symm
theorem zqi {H:HEnv} {met:List Int} {G:HEnv} {env':Env} (hG:GOk G) (h0:H.get 0=some (.cell (.own 2))) (h1:H.get 1=some (.cell (.own 3))) (h2:H.get 2=some (.obj (MapSet Tryz.prog 3 3 met))) (h3:H.get 3=some (.row 3 1 (met.map pi)))
  (hr:∀ i h,4<=i->HEnv.get G i=some h->H.get i=some h) (he:Xm (hR met++G) env'=true):QM H (hR met++G) env':=by
 refine ⟨fun i h hi=>?_,?_⟩
 ·by_cases h4:4<=i
  ·rw [zsL h4] at hi;exact hr i h h4 hi
  ·have:i=0\/i=1\/i=2\/i=3:=by omega
   rw [get_append] at hi;rcases this with rfl|rfl|rfl|rfl
   ·rw [h0];exact hi
   ·rw [h1];exact hi
   ·rw [h2];exact hi
   ·rw [h3];exact hi
 ·rw [he,Bool.true_and];show (true&&(true&&hIn (hR met++G) G))=true
  rw [hG.inn];rfl
theorem zkR {i:Nat} (h:HE) (met:List Int) (G:HEnv) (h4:4<=i) (hg:HEnv.get G i=some h):HEnv.get (hR met++G) i=some h:=by rw [zsL h4];exact hg
theorem ztP {x:Int} (h:0<=x/\x < 100000):(Lit.int .i64 x).wf=true:=by
 simp [Lit.wf,IntKind.has,IntKind.min,IntKind.max,IntKind.bits,IntKind.signed];omega
theorem zlW (l met:List Int) (G:HEnv) (hG:GOk G) (hx:∀ x∈l,0<=x/\x < 100000) (hlen:met.length + l.length<=100000) :
  ACallH Tryz.prog 155 [.pv (ints l),.box 0 0,.box 1 0] (hR met++G) (hR (l.foldl YC met)++G):=by
 refine zk0 Tryz.func155 rfl zws Tryz.ntmps155 zwy63 rfl (fun gB hgB=>?_)
 repeat' (first|refine sA ?_|refine sC (fun _=>?_) (fun _=>?_)|fail)
 refine zL (fun x:Nat × List Int=>[(1,.box 0 0),(2,.box 1 0),(6,.pv (ints l)),(7,.pv (pi l.length)),(8,.pv (pi x.1))]) (fun x=>hR x.2++G)
  (fun x=>x.1<=l.length/\x.2.length<=met.length + x.1/\(l.drop x.1).foldl YC x.2=l.foldl YC met) (fun x=>l.length - x.1) (0,met) ⟨by simp,by simp,rfl⟩ (tS) (zqi hG rfl rfl rfl rfl (fun i h h4 hg=>zkR h met G h4 hg) rfl) ?_
 rintro ⟨k,m⟩ ⟨hk,hml,hr⟩;simp only at hk hml hr;by_cases hlt:k < l.length
 ·have he:=qJ hlt;rw [Wv hlt] at hr;have hwf:=ztP (hx _ (List.getElem_mem hlt));by_cases hm:l[k]∈m
  ·rw [show YC m l[k]=m by simp [YC,hm]] at hr
   repeat' (first|refine zy rfl (zj1 (c:=1) (if_pos hm) zf rfl rfl rfl rfl rfl rfl rfl rfl hwf) rfl rfl ?_|(refine shX ?_;first|refine qX he ?_)|refine sK ?_|refine sC (fun _=>?_) (fun _=>?_)|fail)
   refine ⟨(k + 1,m),⟨hlt,by simp;omega,hr⟩,tD,tS,zqi hG rfl rfl rfl rfl (fun i h h4 hg=>zkR h m G h4 hg) rfl⟩
  ·rw [show YC m l[k]=m++[l[k]] by simp [YC,hm]] at hr
   repeat' (first|refine zy rfl (zj1 (c:=0) (if_neg hm) zf rfl rfl rfl rfl rfl rfl rfl rfl hwf) rfl rfl ?_|refine zk4 hgB.1 zf rfl rfl rfl rfl rfl rfl rfl rfl rfl hwf zwy99 rfl ?_|(refine shX ?_;first|refine qX he ?_)|(refine yw ?_;first|refine yV zf rfl rfl rfl rfl rfl rfl rfl zwy73 zwy64 rfl rfl ?_)|refine sK ?_|refine sC (fun _=>?_) (fun _=>?_)|fail)
   refine ⟨(k + 1,m++[l[k]]),⟨hlt,by simp;omega,hr⟩,tD,tS,zqi hG rfl rfl rfl (by show some (HE.row 3 1 _)=_;simp) (fun i h h4 hg=>?_) rfl⟩;rw [HEnv.get_cons,if_neg zwy62,HEnv.get_cons,if_neg zwy62,Qm,HEnv.get_cons,if_neg zwy62,zsL h4,hg];simp [hG.killHE hg]
 ·rw [drop_end zwy62] at hr;simp only [List.foldl_nil] at hr;subst hr
  repeat' (first|refine sK ?_|refine sC (fun _=>?_) (fun _=>?_)|fail)
  exact ⟨.inl rfl,zqi hG rfl rfl rfl rfl (fun i h h4 hg=>zkR h _ G h4 hg) rfl⟩
def Wj (step:Int->List Int):Nat->Nat->List Int->List Int
 | 0,_,met=>met
 | n + 1,i,met=>match met[i]? with|some u=>Wj step n (i + 1) ((step u).foldl YC met)|none=>met
def Wn (N:Nat) (step:Int->List Int) (l:List Int):List Int:=Wj step (N + 1) 0 (l.foldl YC [])
def NInv (N:Nat) (met:List Int):Prop:=met.Nodup/\∀ y∈met,0<=y/\y < N
theorem NInv.len {N:Nat} {met:List Int} (h:NInv N met):met.length<=N:=ZC _ _ h.1 h.2
theorem NInv.add {N:Nat} {met:List Int} (h:NInv N met) {x:Int} (hx:0<=x/\x < N):NInv N (YC met x):=by
 unfold YC;split
 ·exact h
 ·rename_i hn;refine ⟨?_,?_⟩
  ·rw [List.nodup_append];simp [h.1];intro b hb e;subst e;exact hn hb
  ·intro y hy;simp only [List.mem_append,List.mem_singleton] at hy;rcases hy with hy|rfl
   ·exact h.2 y hy
   ·exact hx
theorem NInv.fold {N:Nat}:∀ (l:List Int) {met:List Int},NInv N met->(∀ x∈l,0<=x/\x < N)->NInv N (l.foldl YC met)
 | [],_,h,_=>h
 | f::l,_,h,hl=>NInv.fold l (h.add (hl f zwy63)) fun x hx=>hl x (by simp [hx])
theorem zed:∀ (l met:List Int),met.length<=(l.foldl YC met).length
 | [],met=>Nat.le_refl _
 | x::l,met=>by
  refine Nat.le_trans ?_ (zed l (YC met x));unfold YC;split <;> simp
theorem zmp {us:Nat->Value} {env2:Env} (h1:WI 3 (qQ us 100 env2)=qQ us 100 env2) (h2:∀ met,hIn (hR met++qQ us 100 env2) (qQ us 100 env2)=true):GOk (qQ us 100 env2) :=
 ⟨h1,fun i h hg=>by have:=(za2 hg).1;omega,h2⟩
theorem zey (N:Nat) (hN:N<=1000) (l:List Int) (step:Int->List Int) (f:FuncId) (first cap:List PV) (hl:∀ x∈l,0<=x/\x < N) (hll:l.length<=10000)
  (hs:∀ x:Int,0<=x->x < (N:Int)->ACall Tryz.prog f (first++[pi x]++cap) (ints (step x))) (hst:∀ x:Int,0<=x->x < (N:Int)->(step x).length<=10000/\∀ y∈step x,0<=y/\y < N) :
  ACall Tryz.prog 112 [ints l,.fn (.func f) first cap] (ints (sortL (Wn N step l))):=by
 refine zh zf Tryz.func112 rfl zws Tryz.ntmps112 zwy63 _ rfl (fun hw gB hgB=>?_);have hm0:NInv N (l.foldl YC []):=NInv.fold l ⟨by simp,by simp⟩ hl
 repeat' (first|refine zpH (kt:=3) (et:=3) 2 rfl rfl rfl rfl rfl ?_|refine zhx 1 3 3 1 zwy69 rfl rfl ?_|refine sA ?_|refine sC (fun _=>?_) (fun _=>?_)|fail)
 refine zu4 [(0,.pv (ints l)),(1,.pv (.fn (.func f) first cap)),(5,.box 0 0),(6,.box 1 0),(7,.fn (.func 155) [] [.box 0 0,.box 1 0]),(11,.fn (.func 155) [] [.box 0 0,.box 1 0]),(12,.pv (ints l))] (hR []) (tS)
  ⟨by repeat (first|exact zB|refine aB ?_),rfl⟩ ?_
 refine zms [(1,.pv (.fn (.func f) first cap)),(5,.box 0 0),(6,.box 1 0),(7,.fn (.func 155) [] [.box 0 0,.box 1 0])] (hR (l.foldl YC [])) 100 hgB rfl rfl rfl rfl (tS) rfl rfl rfl rfl rfl rfl
  (fun us=>zlW l [] _ (zmp rfl (fun _=>rfl)) (fun x hx=>by have:=hl x hx;omega) zwy64) ?_
 repeat' (first|refine sA ?_|refine sC (fun _=>?_) (fun _=>?_)|fail)
 refine zL (fun x:Nat × List Int=>[(1,.pv (.fn (.func f) first cap)),(5,.box 0 0),(6,.box 1 0),(7,.fn (.func 155) [] [.box 0 0,.box 1 0]),(8,.pv (pi x.1))]) (fun x=>hR x.2)
  (fun x=>x.1<=x.2.length/\NInv N x.2/\Wj step (N + 1 - x.1) x.1 x.2=Wn N step l) (fun x=>N + 1 - x.1) (0,l.foldl YC []) ⟨by simp,hm0,rfl⟩ (tS) ⟨by repeat (first|exact zB|refine aB ?_),rfl⟩ ?_
 rintro ⟨i,met⟩ ⟨hi,hmi,hr⟩;simp only at hi hmi hr;have hml:=hmi.len;rw [show N + 1 - i=(N - i) + 1 by omega,Wj] at hr;by_cases hlt:i < met.length
 ·have heU:=qJ hlt;rw [List.getElem?_eq_getElem hlt] at hr;simp only at hr;obtain ⟨hu0,hu1⟩:=hmi.2 _ (List.getElem_mem hlt);obtain ⟨hs1,hs2⟩:=hst _ hu0 hu1;have c1:=hs _ hu0 hu1
  repeat' (first|(refine shC ?_;first|refine qV (c1) ?_)|(refine shX ?_;first|refine qX heU ?_)|refine sK ?_|refine sC (fun _=>?_) (fun _=>?_)|fail)
  refine zms [(1,.pv (.fn (.func f) first cap)),(5,.box 0 0),(6,.box 1 0),(7,.fn (.func 155) [] [.box 0 0,.box 1 0]),(8,.pv (pi i))] (hR ((step met[i]).foldl YC met)) 100 hgB rfl rfl rfl rfl (tS) rfl rfl rfl rfl rfl rfl
   (fun us=>zlW _ met _ (zmp rfl (fun _=>rfl)) (fun x hx=>by have:=hs2 x hx;omega) zwy62) ?_
  repeat' (first|refine sK ?_|refine sC (fun _=>?_) (fun _=>?_)|fail)
  have hmi2:=NInv.fold _ hmi hs2;refine ⟨(i + 1,(step met[i]).foldl YC met),⟨?_,hmi2,?_⟩,by simp only;omega,tS,⟨by repeat (first|exact zB|refine aB ?_),rfl⟩⟩
  ·have:=zed (step met[i]) met;simp only;omega
  ·simp only;rw [show N + 1 - (i + 1)=N - i by omega];exact hr
 ·rw [List.getElem?_eq_none zwy62] at hr;simp only at hr;subst hr
  repeat' (first|refine zu7 [(6,.box 1 0)] hgB rfl rfl ⟨Tryz.f156,Tryz.func156,rfl,by kernel_rfl⟩ rfl rfl (by simp only;omega) (tS) rfl rfl rfl rfl ?_|refine sK ?_|refine sC (fun _=>?_) (fun _=>?_)|fail)
  exact retq rfl rfl
def tyB (a b:Ty):Bool:=a.kind==b.kind&&(a.index==b.index&&(a.dims==b.dims&&(a.ref==b.ref&&true)))
end Go.Cg
