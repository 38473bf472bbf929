/- A part of the walks by abstract values: no statement of its own. -/
import Derived.Test.YtemhfmmhkimhmaaGreatI32
import Derived.Test.YtemhfmmhkimhmaaGreatI30
import Derived.Test.YtemhfmmhkimhmaaGreatI21
import Derived.Test.YtemhfmmhkimhmaaGreatI23
import Derived.Test.YtemhfmmhkimhmaaGreatI24
import Derived.Test.YtemhfmmhkimhmaaGreatI26
import Derived.Test.YtemhfmmhkimhmaaGreatI11
set_option linter.unusedVariables false
set_option linter.unusedSimpArgs false
namespace Go.Cg
open Go.Proofs
set_option maxHeartbeats 20000000
def zcA (x:Pt):PV:=.agg [pi x.c,pi x.p]
def rgs (l:List Pt):PV:=.slc 2 (l.map zcA) false
def Xr (g:Img) (m:Me):PV:=.agg [.slc 4 (g.types.map Zw) false,.slc 7 (g.fields.map ZI) false,.slc 12 (g.methods.map zY) false,pi g.entry,ps m.name,pi m.owner,pi m.flags,tys m.params,pi m.ret.kind,pi m.ret.index,pi m.ret.dims,pb m.ret.ref,tys m.locals,pi m.max,.slc 6 (m.code.map yM) false,.slc 10 (m.clauses.map qR) false]
def zlJ (l:List Pt) (p:Pt->Bool):Int:=if l.any p then ((l.findIdx p:Nat):Int) else -1
theorem zcZ (l:List Pt) (p:Pt->Bool) (f:FuncId) (first cap:List PV) (hp:∀ x∈l,ACall Tryz.prog f (first++[zcA x]++cap) (pb (p x))):ACall Tryz.prog 118 [rgs l,.fn (.func f) first cap] (pi (zlJ l p)):=by
 refine zh zf Tryz.func118 rfl zws Tryz.ntmps118 zwy63 _ rfl (fun hw gB hgB=>?_);have hl:l.length<=9223372036854775807:=by have:=hw.1;simp [rgs,PV.lenOk,maxLen] at this;exact this.1
 repeat' (first|refine sA ?_|refine sC (fun _=>?_) (fun _=>?_)|fail)
 refine zL (fun k:Nat=>[(0,.pv (rgs l)),(1,.pv (.fn (.func f) first cap)),(7,.pv (pi l.length)),(8,.pv (pi k))]) (fun _=>[]) (fun k=>k<=l.length/\∀ j (h:j < k) (h2:j < l.length),p l[j]=false) (fun k=>l.length - k) 0 ⟨by omega,fun j h=>by omega⟩ (tS) tH ?_;rintro k ⟨hk,hno⟩;by_cases hlt:k < l.length
 ·have he:=zS (f:=zcA) hlt;have c1:=hp _ (List.getElem_mem hlt);cases hpx:p l[k]
  ·rw [hpx] at c1
   repeat' (first|(refine shC ?_;first|refine qV (c1) ?_)|(refine shX ?_;first|refine qX he ?_)|refine sK ?_|refine sC (fun _=>?_) (fun _=>?_)|fail)
   exact ⟨k + 1,⟨hlt,fun j hj h2=>by
    by_cases e:j=k
    ·subst e;exact hpx
    ·exact hno j zwy62 h2⟩,tD,tS,tH⟩
  ·rw [hpx] at c1;have hi:l.findIdx p=k:=by
    rw [List.findIdx_eq hlt];exact ⟨hpx,fun j hj=>hno j hj zwy62⟩
   have ha:l.any p=true:=List.any_eq_true.2 ⟨_,List.getElem_mem hlt,hpx⟩
   repeat' (first|(refine shC ?_;first|refine qV (c1) ?_)|(refine shX ?_;first|refine qX he ?_)|refine sK ?_|refine sC (fun _=>?_) (fun _=>?_)|fail)
   exact retq rfl (by simp [zn,zlJ,ha,hi])
 ·have ha:l.any p=false:=by
   rw [List.any_eq_false];intro x hx;obtain ⟨j,hj,rfl⟩:=List.getElem_of_mem hx;simp [hno j zwy62 hj]
  repeat' (first|refine sK ?_|refine sC (fun _=>?_) (fun _=>?_)|fail)
  exact retq rfl (by simp [zn,zlJ,ha])
theorem zeF (l:List Pt) (p:Pt->Bool) (f:FuncId) (first cap:List PV) (hp:∀ x∈l,ACall Tryz.prog f (first++[zcA x]++cap) (pb (p x))):ACall Tryz.prog 83 [rgs l,.fn (.func f) first cap] (pb (l.any p)):=by
 refine zh zf Tryz.func83 rfl zws Tryz.ntmps83 zwy63 _ rfl (fun hw gB hgB=>?_);have c1:=zcZ l p f first cap hp
 repeat' (first|(refine shC ?_;first|refine qC c1 ?_)|refine sA ?_|refine sC (fun _=>?_) (fun _=>?_)|fail)
 refine ak ?_;have:decide (0<=zlJ l p)=l.any p:=by
  unfold zlJ;cases h:l.any p <;> simp
 simp [zn,this]
abbrev zhG (e:Int):Value:=.iface 91 (.int .i64 e)
theorem yF {b:Bool} (h:b=true) (e:Int):ACall Tryz.prog 51 [pb b,pi e] (.tup []):=by
 subst h;refine zh zf Tryz.func51 rfl zws Tryz.ntmps51 zwy63 _ rfl (fun hw gB hgB=>?_)
 repeat' (first|refine sK ?_|refine sC (fun _=>?_) (fun _=>?_)|fail)
 exact Yi rfl rfl
theorem qh {b:Bool} (h:b=false) (e:Int):ACallPan Tryz.prog 51 [.pv (pb b),.pv (pi e)] [] (zhG e):=by
 subst h;refine za0 Tryz.func51 rfl zws Tryz.ntmps51 zwy63 (fun gB hw1=>?_)
 repeat' (first|refine zo 1 2 rfl rfl rfl ?_|refine zy rfl (zj3 rfl Tryz.underlying91 rfl) rfl rfl ?_|refine zkq rfl rfl rfl ?_|refine sK ?_|refine sC (fun _=>?_) (fun _=>?_)|fail)
 exact rfl
theorem goes_call (w:Int):ACall Tryz.prog 53 [pi w] (.tup [pb (zb2 w),pb (Vh w)]):=by
 refine zh zf Tryz.func53 rfl zws Tryz.ntmps53 zwy63 _ rfl (fun hw gB hgB=>?_);rcases Bool.eq_false_or_eq_true (w==0) with h0|h0 <;> rcases Bool.eq_false_or_eq_true (w==1) with h1|h1 <;> rcases Bool.eq_false_or_eq_true (w==2) with h2|h2 <;> rcases Bool.eq_false_or_eq_true (w==4) with h4|h4 <;> (
  repeat' (first|refine sK ?_|refine sC (fun _=>?_) (fun _=>?_)|fail)
  all_goals (refine ak ?_;simp [zn,zb2,Vh,h0,h1,h2,h4]))
theorem zwk12 {G:Prop} (h:G:=by repeat' (first|(refine shC ?_;first|refine qC co ?_)|(refine shX ?_;first|refine zy rfl (ah h0 hei) rfl rfl ?_|refine zq rfl (ah h0 hei) rfl rfl ?_)|refine sK ?_|refine sC (fun _=>?_) (fun _=>?_)|exact retq rfl (by rw [hw];rfl)|fail)):G:=h
theorem zmX (g:Img) (m:Me) (i:Int) (h0:0<=i) (h1:i.toNat < m.code.length):ACall Tryz.prog 54 [Xr g m,pi i] (pi (Qw m i)):=by
 have hei:(m.code.map yM)[i.toNat]?=some (yM (qj m i)):=by rw [qj,zQ h1];exact zS h1
 refine zh zf Tryz.func54 rfl zws Tryz.ntmps54 zwy63 _ rfl (fun hw gB hgB=>?_);by_cases hop:1<=(qj m i).op/\(qj m i).op<=75
 ·have co:=ze7 (qj m i).op hop.1 hop.2;have hw:Qw m i=(ofI (qj m i).op).2.2:=by rw [Qw,decide_eq_true hop.1,decide_eq_true hop.2];rfl
  exact zwk12
 ·have co:=zg3 (qj m i).op zwy62;have hw:Qw m i=0:=by
   rw [Qw];split
   ·rename_i h;simp at h;omega
   ·rfl
  exact zwk12
theorem zd1 (g:Img) (m:Me) (i:Int):ACall Tryz.prog 82 [Xr g m,pi i] (pi (opV m i)):=by
 refine zh zf Tryz.func82 rfl zws Tryz.ntmps82 zwy63 _ rfl (fun hw gB hgB=>?_);by_cases h0:i < 0
 ·have hd:=decide_eq_true h0
  repeat' (first|refine sK ?_|refine sC (fun _=>?_) (fun _=>?_)|fail)
  all_goals (refine ak ?_;simp [zn,opV,h0])
 ·have hd:=decide_eq_false h0;by_cases h1:(((m.code.map yM).length:Nat):Int)<=i
  ·have hd1:=decide_eq_true h1;have hl:(m.code.length:Int)<=i:=by simpa using h1
   repeat' (first|refine sK ?_|refine sC (fun _=>?_) (fun _=>?_)|fail)
   all_goals (refine ak ?_;simp [zn,opV,hl])
  ·have hd1:=decide_eq_false h1;have hl:¬ (m.code.length:Int)<=i:=by simpa using h1
   have h2:i.toNat < m.code.length:=by omega
   have hei:(m.code.map yM)[i.toNat]?=some (yM (qj m i)):=by rw [qj,zQ h2];exact zS h2
   repeat' (first|(refine shX ?_;first|refine qX hei ?_)|refine sK ?_|refine sC (fun _=>?_) (fun _=>?_)|fail)
   all_goals (refine ak ?_;simp [zn,opV,h0,hl])
theorem zeZ (g:Img) (m:Me) (r:Pt) (a b:Int) (h0:0<=r.c) (h1:r.c.toNat < m.clauses.length):ACall Tryz.prog 120 [Xr g m,zcA r,pi a,pi b] (pb (XT m r a b)):=by
 have hec:(m.clauses.map qR)[r.c.toNat]?=some (qR (clV m r)):=zbn h1;rw [XT];generalize clV m r=c at hec ⊢;refine zh zf Tryz.func120 rfl zws Tryz.ntmps120 zwy63 _ rfl (fun hw gB hgB=>?_);rcases Bool.eq_false_or_eq_true (r.p==2) with hp|hp <;> rcases Bool.eq_false_or_eq_true (c.kind==a) with ka|ka <;> rcases Bool.eq_false_or_eq_true (c.kind==b) with kb|kb <;> (
  repeat' (first|(refine shX ?_;first|refine zy rfl (ah h0 hec) rfl rfl ?_|refine zq rfl (ah h0 hec) rfl rfl ?_)|refine sK ?_|refine sC (fun _=>?_) (fun _=>?_)|fail)
  all_goals (refine ak ?_;simp [zn,hp,ka,kb]))
theorem zk5 (r:Pt):ACall Tryz.prog 119 [zcA r] (pb (r.p != 1)):=by
 refine zh zf Tryz.func119 rfl zws Tryz.ntmps119 zwy63 _ rfl (fun hw gB hgB=>?_)
 repeat' (first|refine sA ?_|refine sC (fun _=>?_) (fun _=>?_)|fail)
 exact retq rfl rfl
theorem zpc (t:Ty):ACall Tryz.prog 121 [yI t] (pb t.ref):=by
 refine zh zf Tryz.func121 rfl zws Tryz.ntmps121 zwy63 _ rfl (fun hw gB hgB=>?_)
 repeat' (first|refine sA ?_|refine sC (fun _=>?_) (fun _=>?_)|fail)
 exact retq rfl rfl
theorem zle (g:Img) (m:Me) (r:Pt) (h0:0<=r.c) (h1:r.c.toNat < m.clauses.length):ACall Tryz.prog 85 [zcA r,.ptr (Xr g m) 0] (pb (r.p != 1||(clV m r).tf != 0)):=by
 have hec:(m.clauses.map qR)[r.c.toNat]?=some (qR (clV m r)):=zbn h1;generalize clV m r=c at hec ⊢;refine zh zf Tryz.func85 rfl zws Tryz.ntmps85 zwy63 _ rfl (fun hw gB hgB=>?_);rcases Bool.eq_false_or_eq_true (r.p != 1) with hp|hp <;> (
  repeat' (first|(refine shX ?_;first|refine zy rfl (ah h0 hec) rfl rfl ?_|refine zq rfl (ah h0 hec) rfl rfl ?_)|refine sK ?_|refine sC (fun _=>?_) (fun _=>?_)|fail)
  all_goals (refine ak ?_;simp [zn,hp]))
theorem zpK (g:Img) (k:Int):ACall Tryz.prog 16 [zK g,pi k] (pb (decide (0<=k)&&decide (k < g.methods.length)&&decide (0 < (mAt g k).code.length))):=by
 refine zh zf Tryz.func16 rfl zws Tryz.ntmps16 zwy63 _ rfl (fun hw gB hgB=>?_);by_cases h0:0<=k
 ·have hd:=decide_eq_true h0;by_cases h1:k < (((g.methods.map zY).length:Nat):Int)
  ·have hd1:=decide_eq_true h1;have hl:k < g.methods.length:=by simpa using h1
   have h2:k.toNat < g.methods.length:=by omega
   have hem:(g.methods.map zY)[k.toNat]?=some (zY (mAt g k)):=by rw [mAt,zQ h2];exact zS h2
   repeat' (first|(refine shX ?_;first|refine zy rfl (ah h0 hem) rfl rfl ?_|refine zq rfl (ah h0 hem) rfl rfl ?_)|refine sK ?_|refine sC (fun _=>?_) (fun _=>?_)|fail)
   all_goals (refine ak ?_;simp [zn,h0,hl])
  ·have hd1:=decide_eq_false h1;have hl:¬ k < g.methods.length:=by simpa using h1
   repeat' (first|refine sK ?_|refine sC (fun _=>?_) (fun _=>?_)|fail)
   all_goals (refine ak ?_;simp [zn,hl])
 ·have hd:=decide_eq_false h0
  repeat' (first|refine sK ?_|refine sC (fun _=>?_) (fun _=>?_)|fail)
  all_goals (refine ak ?_;simp [zn,h0])
def zfJ (e:Int):Out:=if e=0 then .ret (.pv (.tup [])) [] else .pan (zhG e)
theorem Yh {tb:Tab} {e:Int} {ex:Exit} {env:Env} {H:HEnv} (h:e=0) (he:ex=.normal\/ex=.ret):zln tb [] (zfJ e) ex env H:=by
 rw [zfJ,if_pos h];exact ⟨he,.inl ⟨[],rfl,rfl,zC,rfl⟩⟩
theorem Zk {tb:Tab} {rs:List ResultVar} {e k:Int} {env:Env} {H:HEnv} (h:e=k) (hk:k≠0):zln tb rs (zfJ e) (.panic [{ v:=zhG k,recovered:=false }]) env H:=by
 rw [zfJ,if_neg (by rw [h];exact hk),h];rfl
structure ClOk (m:Me):Prop where
 n:m.clauses.length<=6
 s:∀ (at_:Int),∀ x∈zea at_ m.clauses,SmP x
 code:m.code.length<=1000
theorem zlm {l:List Cl} {at_:Int} {x:Pt} (h:x∈qL l at_):0<=x.c/\x.c.toNat < l.length:=by
 obtain ⟨j,h1,h2,_⟩:=zeE h;have:x.c=(j:Int):=by
  unfold yK at h2;split at h2 <;> simp at h2 <;> (rcases h2 with h|h|h <;> first|rfl|(rw [h])|skip) <;> simp_all
 omega
set_option maxHeartbeats 8000000 in
theorem zwe (g:Img) (m:Me) (hm:ClOk m) (i:Int) (h0:0<=i) (h1:i.toNat < m.code.length):QO Tryz.prog 79 [.pv (Xr g m),.pv (pi i)] [] (zfJ (onV m i)):=by
 have hei:(m.code.map yM)[i.toNat]?=some (yM (qj m i)):=by rw [qj,zQ h1];exact zS h1
 have cw:=zmX g m i h0 h1;have cg:=goes_call (Qw m i);have hmc:=hm.code;have hw1:IntKind.i64.wrap (i + 1)=i + 1:=wrap_in zwy62 zwy62;have c1:=zkB m.clauses i (i + 1) hm.n (hm.s i) (hm.s (i + 1));have c2:=zkB m.clauses i (qj m i).arg hm.n (hm.s i) (hm.s _);have c3:=zph m.clauses i (qj m i).arg hm.n (hm.s i) (hm.s _);rw [<-hw1] at c1;have hon:onV m i=if zb2 (Qw m i)&&!decide (IntKind.i64.wrap (i + 1) < (((m.code.map yM).length:Nat):Int)) then 11
   else if zb2 (Qw m i)&&!zc3 m.clauses i (IntKind.i64.wrap (i + 1)) then 12
   else if !Vh (Qw m i) then 0
   else if Qw m i==4 then (if zjc m.clauses i (qj m i).arg then 0 else 12)
   else if zc3 m.clauses i (qj m i).arg then 0 else 12:=by rw [hw1,List.length_map];rfl
 rw [hon];generalize qj m i=x at *;generalize Qw m i=w at *;generalize zc3 m.clauses i (IntKind.i64.wrap (i + 1))=p1 at *;generalize zc3 m.clauses i x.arg=p2 at *;generalize zjc m.clauses i x.arg=p3 at *;generalize zb2 w=nx at *;generalize Vh w=pl at *;refine zI zf Tryz.func79 rfl zws Tryz.ntmps79 zwy63 _ rfl (fun gB hw1=>?_);cases nx
 ·cases pl
  ·repeat' (first|(refine shC ?_;first|refine qC cw ?_|refine qC cg ?_)|refine sK ?_|refine sC (fun _=>?_) (fun _=>?_)|fail)
   all_goals first|exact Yh zwy65 (.inr rfl)|exact Yh zwy65 (.inl rfl)
  ·rcases Bool.eq_false_or_eq_true (w==4) with h4|h4
   ·cases p3
    ·repeat' (first|refine zo 9 4 rfl rfl rfl ?_|refine zF ([]) zi rfl rfl rfl tH (qh rfl 12) ?_|(refine shC ?_;first|refine qC cw ?_|refine qC cg ?_|refine qC c3 ?_)|(refine shX ?_;first|refine zy rfl (ah h0 hei) rfl rfl ?_|refine zq rfl (ah h0 hei) rfl rfl ?_)|refine sK ?_|refine sC (fun _=>?_) (fun _=>?_)|fail)
     all_goals exact Zk (k:=12) zwy65 zwy69
    ·repeat' (first|(refine shC ?_;first|refine qC cw ?_|refine qC cg ?_|refine qC c3 ?_|refine qC (yF rfl 12) ?_)|(refine shX ?_;first|refine zy rfl (ah h0 hei) rfl rfl ?_|refine zq rfl (ah h0 hei) rfl rfl ?_)|refine sK ?_|refine sC (fun _=>?_) (fun _=>?_)|fail)
     all_goals first|exact Yh zwy65 (.inr rfl)|exact Yh zwy65 (.inl rfl)
   ·cases p2
    ·repeat' (first|refine zo 10 4 rfl rfl rfl ?_|refine zF ([]) zi rfl rfl rfl tH (qh rfl 12) ?_|(refine shC ?_;first|refine qC cw ?_|refine qC cg ?_|refine qC c2 ?_)|(refine shX ?_;first|refine zy rfl (ah h0 hei) rfl rfl ?_|refine zq rfl (ah h0 hei) rfl rfl ?_)|refine sK ?_|refine sC (fun _=>?_) (fun _=>?_)|fail)
     all_goals exact Zk (k:=12) zwy65 zwy69
    ·repeat' (first|(refine shC ?_;first|refine qC cw ?_|refine qC cg ?_|refine qC c2 ?_|refine qC (yF rfl 12) ?_)|(refine shX ?_;first|refine zy rfl (ah h0 hei) rfl rfl ?_|refine zq rfl (ah h0 hei) rfl rfl ?_)|refine sK ?_|refine sC (fun _=>?_) (fun _=>?_)|fail)
     all_goals first|exact Yh zwy65 (.inr rfl)|exact Yh zwy65 (.inl rfl)
 ·rcases Bool.eq_false_or_eq_true (decide (IntKind.i64.wrap (i + 1) < (((m.code.map yM).length:Nat):Int))) with hd|hd
  ·cases p1
   ·repeat' (first|refine zo 5 5 rfl rfl rfl ?_|refine zF ([]) zi rfl rfl rfl tH (qh rfl 12) ?_|(refine shC ?_;first|refine qC cw ?_|refine qC cg ?_|refine qC (yF hd 11) ?_|refine qC c1 ?_)|refine sK ?_|refine sC (fun _=>?_) (fun _=>?_)|fail)
    all_goals exact Zk (k:=12) zwy65 zwy69
   ·cases pl
    ·repeat' (first|(refine shC ?_;first|refine qC cw ?_|refine qC cg ?_|refine qC (yF hd 11) ?_|refine qC c1 ?_|refine qC (yF rfl 12) ?_)|refine sK ?_|refine sC (fun _=>?_) (fun _=>?_)|fail)
     all_goals first|exact Yh zwy65 (.inr rfl)|exact Yh zwy65 (.inl rfl)
    ·rcases Bool.eq_false_or_eq_true (w==4) with h4|h4
     ·cases p3
      ·repeat' (first|refine zo 9 4 rfl rfl rfl ?_|refine zF ([]) zi rfl rfl rfl tH (qh rfl 12) ?_|(refine shC ?_;first|refine qC cw ?_|refine qC cg ?_|refine qC (yF hd 11) ?_|refine qC c1 ?_|refine qC (yF rfl 12) ?_|refine qC c3 ?_)|(refine shX ?_;first|refine zy rfl (ah h0 hei) rfl rfl ?_|refine zq rfl (ah h0 hei) rfl rfl ?_)|refine sK ?_|refine sC (fun _=>?_) (fun _=>?_)|fail)
       all_goals exact Zk (k:=12) zwy65 zwy69
      ·repeat' (first|(refine shC ?_;first|refine qC cw ?_|refine qC cg ?_|refine qC (yF hd 11) ?_|refine qC c1 ?_|refine qC (yF rfl 12) ?_|refine qC c3 ?_|refine qC (yF rfl 12) ?_)|(refine shX ?_;first|refine zy rfl (ah h0 hei) rfl rfl ?_|refine zq rfl (ah h0 hei) rfl rfl ?_)|refine sK ?_|refine sC (fun _=>?_) (fun _=>?_)|fail)
       all_goals first|exact Yh zwy65 (.inr rfl)|exact Yh zwy65 (.inl rfl)
     ·cases p2
      ·repeat' (first|refine zo 10 4 rfl rfl rfl ?_|refine zF ([]) zi rfl rfl rfl tH (qh rfl 12) ?_|(refine shC ?_;first|refine qC cw ?_|refine qC cg ?_|refine qC (yF hd 11) ?_|refine qC c1 ?_|refine qC (yF rfl 12) ?_|refine qC c2 ?_)|(refine shX ?_;first|refine zy rfl (ah h0 hei) rfl rfl ?_|refine zq rfl (ah h0 hei) rfl rfl ?_)|refine sK ?_|refine sC (fun _=>?_) (fun _=>?_)|fail)
       all_goals exact Zk (k:=12) zwy65 zwy69
      ·repeat' (first|(refine shC ?_;first|refine qC cw ?_|refine qC cg ?_|refine qC (yF hd 11) ?_|refine qC c1 ?_|refine qC (yF rfl 12) ?_|refine qC c2 ?_|refine qC (yF rfl 12) ?_)|(refine shX ?_;first|refine zy rfl (ah h0 hei) rfl rfl ?_|refine zq rfl (ah h0 hei) rfl rfl ?_)|refine sK ?_|refine sC (fun _=>?_) (fun _=>?_)|fail)
       all_goals first|exact Yh zwy65 (.inr rfl)|exact Yh zwy65 (.inl rfl)
  ·repeat' (first|refine zo 4 7 rfl rfl rfl ?_|refine zF ([]) zi rfl rfl rfl tH (qh hd 11) ?_|(refine shC ?_;first|refine qC cw ?_|refine qC cg ?_)|refine sK ?_|refine sC (fun _=>?_) (fun _=>?_)|fail)
   all_goals exact Zk (k:=11) zwy65 zwy69
theorem XW {f:FuncId} {args:List AV} {P:Program} {e:Int} (h:QO P f args [] (zfJ e)) (he:e=0):ACallM P f args [] (.pv (.tup [])) []:=by
 rw [zfJ,if_pos he] at h;exact h
theorem ziw {f:FuncId} {args:List AV} {P:Program} {e:Int} (h:QO P f args [] (zfJ e)) (he:e≠0):ACallPan P f args [] (zhG e):=by
 rw [zfJ,if_neg he] at h;exact h
theorem zwk13 {G:Prop} (h:G:=by repeat' (first|(have:=b0;refine zo 3 22 rfl rfl rfl ?_)|(have:=b1;refine zF ([]) zi rfl rfl rfl tH (qh hle2 11) ?_)|(have:=b2;refine zF ([]) zi rfl rfl rfl tH (qh rfl 11) ?_)|(have:=b3;refine zM 1 13 0 zf rfl zws zws zws rfl rfl rfl rfl rfl rfl rfl rfl rfl rfl rfl rfl rfl rfl (fun _=>rfl) rfl rfl rfl ?_)|(have:=b3;refine ⟨_,_,rfl,rfl,rfl,?_⟩)|(have:=b4;refine zo 5 6 rfl rfl rfl ?_)|(have:=b4;refine zF ([]) zi rfl rfl rfl tH (qh ht 10) ?_)|(have:=b5;refine zo 6 6 rfl rfl rfl ?_)|(have:=b5;refine zF ([]) zi rfl rfl rfl tH (qh rfl 13) ?_)|(refine shC ?_;first|refine qC c0 ?_|(have:=b6;refine qC c1 ?_)|(have:=b6;refine qC c2 ?_)|(have:=b6;refine qC cc ?_)|(have:=b3;refine qC (yF hle 11) ?_)|(have:=b7;refine qC (yF ht 10) ?_)|(have:=b7;refine qC cA ?_)|(have:=b7;refine qC cF ?_)|(have:=b8;refine qC (yF rfl 13) ?_))|(refine shX ?_;first|(have:=b3;refine zy rfl (ah hix hei) rfl rfl ?_)|(have:=b3;refine zq rfl (ah hix hei) rfl rfl ?_)|(have:=b3;refine zy rfl (ah ha0 hem) rfl rfl ?_)|(have:=b3;refine zq rfl (ah ha0 hem) rfl rfl ?_))|refine sK ?_|refine sC (fun _=>?_) (fun _=>?_)|(have:=b0;exact Zk hz zwy69)|(have:=b9;exact Zk hz2 zwy69)|exact Yh hz2 (.inl rfl)|exact Yh hz (.inr rfl)|fail)):G:=h
set_option maxHeartbeats 8000000 in
theorem zsI (g:Img) (m:Me) (hm:ClOk m) (i:Int) (h0:0<=i) (h1:i.toNat < m.code.length)
  (hc:opV m i=47->opV m (i + 1)=43\/opV m (i + 1)=44->(0<=(qj m (i + 1)).arg/\(qj m (i + 1)).arg.toNat < g.methods.length)/\(Xd g m i).params.length<=100):QO Tryz.prog 81 [.pv (Xr g m),.pv (pi i)] [] (zfJ (tailV g m i)):=by
 have hmc:=hm.code;have hwr:IntKind.i64.wrap (i + 1)=i + 1:=wrap_in zwy62 zwy62;have hw2:IntKind.i64.wrap (i + 2)=i + 2:=wrap_in zwy62 zwy62;have c0:=zd1 g m i;have c1:ACall Tryz.prog 82 [Xr g m,pi (IntKind.i64.wrap (i + 1))] (pi (opV m (i + 1))):=by rw [hwr];exact zd1 g m (i + 1)
 have c2:ACall Tryz.prog 82 [Xr g m,pi (IntKind.i64.wrap (i + 2))] (pi (opV m (i + 2))):=by rw [hw2];exact zd1 g m (i + 2)
 have cc:=zeu m.clauses i hm.n (hm.s i);refine zI zf Tryz.func81 rfl zws Tryz.ntmps81 zwy63 _ rfl (fun gB hw1=>?_);have cc:ACall Tryz.prog 84 [cls m.clauses,pi i] (rgs (qL m.clauses i)):=cc;cases h47:(opV m i != 47)
 ·have hwb:(opV m i==47)=true:=by simpa using h47
  cases hb:((opV m (i + 1)==43||opV m (i + 1)==44)&&opV m (i + 2)==46&&(qL m.clauses i).isEmpty)
  ·have hz:tailV g m i=11:=by rw [tailV,h47,hb];rfl
   have hle:(((((qL m.clauses i).map zcA).length:Nat):Int)==0)=(qL m.clauses i).isEmpty:=by cases qL m.clauses i <;> simp;omega
   rcases Bool.eq_false_or_eq_true (opV m (i + 1)==43) with k1|k1
   ·rcases Bool.eq_false_or_eq_true (opV m (i + 2)==46) with k3|k3
    ·rw [k1,k3] at hb;have hle2:(((((qL m.clauses i).map zcA).length:Nat):Int)==0)=false:=by rw [hle];simpa using hb
     have b0:=();have b1:=();have b6:=();exact zwk13
    ·have b0:=();have b2:=();have b6:=();exact zwk13
   ·rcases Bool.eq_false_or_eq_true (opV m (i + 1)==44) with k2|k2
    ·rcases Bool.eq_false_or_eq_true (opV m (i + 2)==46) with k3|k3
     ·rw [k1,k2,k3] at hb;have hle2:(((((qL m.clauses i).map zcA).length:Nat):Int)==0)=false:=by rw [hle];simpa using hb
      have b0:=();have b1:=();have b6:=();exact zwk13
     ·have b0:=();have b2:=();have b6:=();exact zwk13
    ·have b0:=();have b2:=();have b6:=();exact zwk13
  ·simp only [Bool.and_eq_true,Bool.or_eq_true] at hb;obtain ⟨⟨hb1,hb2⟩,hb3⟩:=hb;have hin:(i + 1).toNat < m.code.length:=by
    rcases Nat.lt_or_ge (i + 1).toNat m.code.length with h|h
    ·exact h
    ·have:opV m (i + 1)=0:=by rw [opV];simp;omega
     rw [this] at hb1;simp at hb1
   obtain ⟨⟨ha0,ha1⟩,hpl⟩:=hc (by simpa using hwb) (by simpa using hb1);have hei:(m.code.map yM)[(IntKind.i64.wrap (i + 1)).toNat]?=some (yM (qj m (i + 1))):=by rw [hwr,qj,zQ hin];exact zS hin
   have hem:(g.methods.map zY)[(qj m (i + 1)).arg.toNat]?=some (zY (Xd g m i)):=by rw [Xd,mAt,zQ ha1];exact zS ha1
   have hle:(((((qL m.clauses i).map zcA).length:Nat):Int)==0)=true:=by
    have:qL m.clauses i=[]:=by simpa using hb3
    rw [this];rfl
   have hbb:((opV m (i + 1)==43||opV m (i + 1)==44)&&opV m (i + 2)==46&&(qL m.clauses i).isEmpty)=true:=by simp only [hb2,hb3,Bool.and_true];simpa using hb1
   have hz:tailV g m i=if !tyB (Xd g m i).ret m.ret then 10 else if (Qs g (Xd g m i)).any (fun t=>t.ref) then 13 else 0:=by rw [tailV,h47,hbb];rfl
   have cA:=zb9 g (Xd g m i) zwy62;have cF:=Qk (Qs g (Xd g m i)) (fun t=>t.ref) 121 [] [] (fun t _=>zpc t);have hix:(0:Int)<=IntKind.i64.wrap (i + 1):=by omega
   generalize qj m (i + 1)=x at *;generalize Xd g m i=c at *;cases ht:tyB c.ret m.ret
   ·have hz2:tailV g m i=10:=by rw [hz,ht];rfl
    rcases Bool.eq_false_or_eq_true (opV m (i + 1)==43) with k1|k1
    ·have b3:=();have b4:=();have b6:=();have b9:=();exact zwk13
    ·have k2:(opV m (i + 1)==44)=true:=by rw [k1] at hb1;simpa using hb1
     have b3:=();have b4:=();have b6:=();have b9:=();exact zwk13
   ·cases ha:(Qs g c).any fun t=>t.ref
    ·have hz2:tailV g m i=0:=by rw [hz,ht,ha];rfl
     rw [ha] at cF;rcases Bool.eq_false_or_eq_true (opV m (i + 1)==43) with k1|k1
     ·have b3:=();have b6:=();have b7:=();have b8:=();exact zwk13
     ·have k2:(opV m (i + 1)==44)=true:=by rw [k1] at hb1;simpa using hb1
      have b3:=();have b6:=();have b7:=();have b8:=();exact zwk13
    ·have hz2:tailV g m i=13:=by rw [hz,ht,ha];rfl
     rw [ha] at cF;rcases Bool.eq_false_or_eq_true (opV m (i + 1)==43) with k1|k1
     ·have b3:=();have b5:=();have b6:=();have b7:=();have b9:=();exact zwk13
     ·have k2:(opV m (i + 1)==44)=true:=by rw [k1] at hb1;simpa using hb1
      have b3:=();have b5:=();have b6:=();have b7:=();have b9:=();exact zwk13
 ·have hz:tailV g m i=0:=by rw [tailV,h47];rfl
  exact zwk13
theorem zwk16 {G:Prop} (h:G:=by repeat' (first|(have:=b0;refine zo 4 3 rfl rfl rfl ?_)|(have:=b0;refine zF ([]) zi rfl rfl rfl tH (qh hle 12) ?_)|(have:=b1;refine qc 11 10 rfl zws zws zws zws zws ?_)|(have:=b2;refine qc 26 25 rfl zws zws zws zws zws ?_)|(have:=b3;refine zF ([]) zi rfl rfl rfl tH (qh rfl 12) ?_)|(have:=b4;refine zF ([]) zi rfl rfl rfl tH (qh hh 12) ?_)|(refine shC ?_;first|refine qC cc ?_|refine qC c0 ?_|(have:=b5;refine qC (yF hle 12) ?_)|(have:=b6;refine qC ci ?_)|(have:=b7;refine qC ch ?_)|(have:=b8;refine qC (yF rfl 12) ?_)|(have:=b9;refine qC (yF hh 12) ?_))|(refine shX ?_;first|(have:=b10;refine qX he ?_)|(have:=b11;refine zy rfl (ah hrc hec) rfl rfl ?_)|(have:=b11;refine zq rfl (ah hrc hec) rfl rfl ?_))|refine sK ?_|refine sC (fun _=>?_) (fun _=>?_)|(have:=b12;exact Zk hiv zwy69)|(have:=b13;exact Zk hz zwy69)|exact Yh hiv (.inl rfl)|exact Yh hz (.inl rfl)|fail)):G:=h
set_option maxHeartbeats 8000000 in
theorem zmi (g:Img) (m:Me) (hm:ClOk m) (i:Int) (h0:0<=i) (h1:i.toNat < m.code.length):QO Tryz.prog 80 [.pv (Xr g m),.pv (pi i)] [] (zfJ (Zf m i)):=by
 have hmc:=hm.code;have c0:=zd1 g m i;have cc:ACall Tryz.prog 84 [cls m.clauses,pi i] (rgs (qL m.clauses i)):=zeu m.clauses i hm.n (hm.s i);have hcc:=fun x (hx:x∈qL m.clauses i)=>zlm hx
 have hiv:Zf m i=Zf m i:=rfl
 conv at hiv=>rhs;rw [Zf]
 generalize qL m.clauses i=c at *;refine zI zf Tryz.func80 rfl zws Tryz.ntmps80 zwy63 _ rfl (fun gB hw1=>?_);rcases Bool.eq_false_or_eq_true (opV m i==46) with k1|k1
 ·rw [k1,if_pos rfl] at hiv;have hle:((((c.map zcA).length:Nat):Int)==0)=c.isEmpty:=by cases c <;> simp;omega
  cases he:c.isEmpty
  ·rw [he] at hle hiv;have b0:=();have b12:=();exact zwk16
  ·rw [he] at hle hiv;have b5:=();exact zwk16
 ·rw [k1,if_neg zwy63] at hiv;rcases Bool.eq_false_or_eq_true (opV m i==70) with k2|k2
  ·rw [k2,if_pos rfl] at hiv;have ci:=zcZ c (fun r=>r.p != 1) 119 [] [] (fun r _=>zk5 r);cases ha:c.any (fun r=>r.p != 1)
   ·have e:zlJ c (fun r=>r.p != 1) = -1:=by rw [zlJ,ha];rfl
    have hz:Zf m i=12:=by
     have:c.find? (fun r=>r.p != 1)=none:=by rw [List.find?_eq_none];rw [List.any_eq_false] at ha;exact ha
     rw [hiv,this]
    rw [e] at ci;have b1:=();have b3:=();have b6:=();have b13:=();exact zwk16
   ·have e:zlJ c (fun r=>r.p != 1)=((c.findIdx (fun r=>r.p != 1):Nat):Int):=by rw [zlJ,ha];rfl
    have hlt:c.findIdx (fun r=>r.p != 1) < c.length:=List.findIdx_lt_length.2 (by simpa using ha);have hf:c.find? (fun r=>r.p != 1)=some c[c.findIdx (fun r=>r.p != 1)]:=by rw [List.find?_eq_getElem?_findIdx,List.getElem?_eq_getElem hlt]
    have he:=zS (f:=zcA) hlt;have hr:=hcc _ (List.getElem_mem hlt);rw [hf] at hiv;rw [e] at ci;generalize c[c.findIdx (fun r=>r.p != 1)]=r at *;generalize c.findIdx (fun r=>r.p != 1)=k at *;have ch:=zeZ g m r 1 2 hr.1 hr.2;have hd:decide ((0:Int)<=((k:Nat):Int))=true:=decide_eq_true zwy62;cases hh:XT m r 1 2
    ·rw [hh] at ch;have hz:Zf m i=12:=by rw [hiv];show (if XT m r 1 2=true then 0 else 12)=(12:Int);rw [hh];rfl
     have b1:=();have b3:=();have b6:=();have b7:=();have b10:=();have b13:=();exact zwk16
    ·rw [hh] at ch;have hz:Zf m i=0:=by rw [hiv];show (if XT m r 1 2=true then 0 else 12)=(0:Int);rw [hh];rfl
     have b6:=();have b7:=();have b8:=();have b10:=();exact zwk16
  ·rw [k2,if_neg zwy63] at hiv;rcases Bool.eq_false_or_eq_true (opV m i==72) with k3|k3
   ·rw [k3,if_pos rfl] at hiv;cases c with
    | nil =>
     have b1:=();have b3:=();have b12:=();exact zwk16
    | cons r c =>
     have hr:=hcc r zwy63;have ch:=zeZ g m r 3 4 hr.1 hr.2;have hd:decide ((0:Int) < ((((r::c).map zcA).length:Nat):Int))=true:=decide_eq_true zwy63;have he:((r::c).map zcA)[(0:Int).toNat]?=some (zcA r):=rfl;cases hh:XT m r 3 4
     ·rw [hh] at ch;have hz:Zf m i=12:=by rw [hiv];show (if XT m r 3 4=true then 0 else 12)=(12:Int);rw [hh];rfl
      have b1:=();have b3:=();have b7:=();have b10:=();have b13:=();exact zwk16
     ·rw [hh] at ch;have hz:Zf m i=0:=by rw [hiv];show (if XT m r 3 4=true then 0 else 12)=(0:Int);rw [hh];rfl
      have b7:=();have b8:=();have b10:=();exact zwk16
   ·rw [k3,if_neg zwy63] at hiv;rcases Bool.eq_false_or_eq_true (opV m i==73) with k4|k4
    ·rw [k4,if_pos rfl] at hiv;cases c with
     | nil =>
      have b2:=();have b3:=();have b12:=();exact zwk16
     | cons r c =>
      have hr:=hcc r zwy63;have hwr:IntKind.i64.wrap (i + 1)=i + 1:=wrap_in zwy62 zwy62;have hd:decide ((0:Int) < ((((r::c).map zcA).length:Nat):Int))=true:=decide_eq_true zwy63;have he:((r::c).map zcA)[(0:Int).toNat]?=some (zcA r):=rfl;have hec:(m.clauses.map qR)[r.c.toNat]?=some (qR (clV m r)):=zbn hr.2;have hiv2:Zf m i=if r.p==3&&(clV m r).hf==IntKind.i64.wrap (i + 1) then 0 else 12:=by rw [hiv,hwr]
      generalize clV m r=cl at *;have hrc:=hr.1;cases h3:(r.p==3)
      ·have hz:Zf m i=12:=by rw [hiv2,h3];rfl
       have b2:=();have b3:=();have b10:=();have b13:=();exact zwk16
      ·cases hh:(cl.hf==IntKind.i64.wrap (i + 1))
       ·have hz:Zf m i=12:=by rw [hiv2,h3,hh];rfl
        have b2:=();have b4:=();have b10:=();have b11:=();have b13:=();exact zwk16
       ·have hz:Zf m i=0:=by rw [hiv2,h3,hh];rfl
        have b9:=();have b10:=();have b11:=();exact zwk16
    ·rw [k4,if_neg zwy63] at hiv;exact zwk16
set_option maxHeartbeats 20000000
abbrev lbH (e:PV) (p1:Value):HEnv:=[(1,.cell (.pv e)),(2001,.pin (.box 1 0) p1)]
theorem zeS (p1:Value) (e:Int):DCall Tryz.prog 78 (lbH (pi 0) p1) [.box 1 0] (.panicking [{ v:=zhG e,recovered:=false }]) (.panicking [{ v:=zhG e,recovered:=true }]) (lbH (pi e) p1):=by
 refine Wy Tryz.func78 rfl zws rfl (fun g K ρ w vs hds hf hv c₀ cs hu=>?_);obtain ⟨v1,rfl⟩:=List.length_eq_one_iff.1 hv.1;have r1:=hv.2 0 _ v1 rfl rfl;refine wpS_seq ?_;refine wpS_region ?_;have h1:=zaZ (P:=Tryz.prog) (xt:=20) (v:=.int .i64 e) (w:=w) Tryz.underlying91;simp [wpOpsS,go_sem,recoverD,hu,Tryz.ntmps78,Exit.thenS,zhG,h1];refine zfY (n:=10) (g:=g) (env:=[(0,.box 1 0),(1,.pv (pi e)),(2,.pv (pb true))]) (H:=lbH (pi 0) p1) (QQ:=zsh (lbH (pi e) p1)) ?_
  ⟨by simp,by rw [hds],K,ρ,hf,YD (v:=v1) zwy63 r1 (YD (v:=.int .i64 e) zwy63 (.pv _ _ (.base _ rfl)) (YD (v:=.bool true) zwy63 (.pv _ _ (.base _ rfl)) zb0))⟩
  (fun ex a' w' env' H' hi hq=>⟨hq.1,hi.defers.trans hds,rfl,zfW hi hq.2⟩)
 repeat' (first|refine sK ?_|refine sC (fun _=>?_) (fun _=>?_)|fail)
 exact ⟨.inl rfl,tH⟩
theorem zkh (e:PV) (p1:Value):DCall Tryz.prog 78 (lbH e p1) [.box 1 0] .returning .returning (lbH e p1):=by
 refine Wy Tryz.func78 rfl zws rfl (fun g K ρ w vs hds hf hv c₀ cs hu=>?_);obtain ⟨v1,rfl⟩:=List.length_eq_one_iff.1 hv.1;refine wpS_seq ?_;refine wpS_region ?_;have hz:=ziP (P:=Tryz.prog) (w:=w) (z:=.int .i64 0) zf (ty:=91) rfl;have h1:=zaf (P:=Tryz.prog) (xt:=20) (w:=w) Tryz.underlying91 hz;simp [wpOpsS,go_sem,recoverD,hu,Tryz.ntmps78,Exit.thenS,h1];refine zfY (n:=10) (g:=g) (env:=[(2,.pv (pb false))]) (H:=lbH e p1) (QQ:=zsh (lbH e p1)) ?_
  ⟨by simp,by rw [hds],K,ρ,hf,YD (v:=.bool false) zwy63 (.pv _ _ (.base _ rfl)) zb0⟩
  (fun ex a' w' env' H' hi hq=>⟨hq.1,hi.defers.trans hds,by cases c₀;simp_all,zfW hi hq.2⟩)
 repeat' (first|refine sK ?_|refine sC (fun _=>?_) (fun _=>?_)|fail)
 exact ⟨.inl rfl,tH⟩
theorem zwk14 {G:Prop} (h:G:=by repeat' (first|(have:=b0;refine zo 5 11 rfl rfl rfl ?_)|(have:=b0;refine zbY [] (lbH (pi 0) p1) zi rfl rfl rfl zwy67 rfl (qh h67 11) ?_)|(refine shC ?_;first|(have:=b1;refine qC c0 ?_)|(have:=b1;refine qC c1 ?_)|(have:=b2;refine qC (yF h67 11) ?_)|(have:=b3;refine qC (yF rfl 11) ?_))|(have:=b1;refine zu ?_;first|(refine yH ([]) ([]) (lbH (pi 0) p1) [(1,.pv (pi i)),(2,.pv (.ptr (Xr g m) 0)),(4,.box 1 0)] [] zi rfl rfl rfl ?_ tS rfl rfl rfl (fun _=>XW co ho) ?_;· (repeat (first|exact zC|refine aB ?_)))|(refine yH ([]) ([]) (lbH (pi 0) p1) [(1,.pv (pi i)),(2,.pv (.ptr (Xr g m) 0)),(4,.box 1 0)] [] zi rfl rfl rfl ?_ tS rfl rfl rfl (fun _=>XW ci hi) ?_;· (repeat (first|exact zC|refine aB ?_)))|(refine yH ([]) ([]) (lbH (pi 0) p1) [(1,.pv (pi i)),(2,.pv (.ptr (Xr g m) 0)),(4,.box 1 0)] [] zi rfl rfl rfl ?_ tS rfl rfl rfl (fun _=>XW ct ht) ?_;· (repeat (first|exact zC|refine aB ?_))))|(have:=b4;refine zo 4 2 rfl rfl rfl ?_)|(have:=b4;refine zbY [] (lbH (pi 0) p1) zi rfl rfl rfl zwy67 rfl (ziw ct ht) ?_)|(have:=b4;refine zu ?_;first|(refine yH ([]) ([]) (lbH (pi 0) p1) [(1,.pv (pi i)),(2,.pv (.ptr (Xr g m) 0)),(4,.box 1 0)] [] zi rfl rfl rfl ?_ tS rfl rfl rfl (fun _=>XW co ho) ?_;· (repeat (first|exact zC|refine aB ?_)))|(refine yH ([]) ([]) (lbH (pi 0) p1) [(1,.pv (pi i)),(2,.pv (.ptr (Xr g m) 0)),(4,.box 1 0)] [] zi rfl rfl rfl ?_ tS rfl rfl rfl (fun _=>XW ci hi) ?_;· (repeat (first|exact zC|refine aB ?_))))|(have:=b5;refine zo 3 2 rfl rfl rfl ?_)|(have:=b5;refine zbY [] (lbH (pi 0) p1) zi rfl rfl rfl zwy67 rfl (ziw ci hi) ?_)|(have:=b5;refine zu ?_;first|(refine yH ([]) ([]) (lbH (pi 0) p1) [(1,.pv (pi i)),(2,.pv (.ptr (Xr g m) 0)),(4,.box 1 0)] [] zi rfl rfl rfl ?_ tS rfl rfl rfl (fun _=>XW co ho) ?_;· (repeat (first|exact zC|refine aB ?_))))|(have:=b6;refine zo 2 2 rfl rfl rfl ?_)|(have:=b6;refine zbY [] (lbH (pi 0) p1) zi rfl rfl rfl zwy67 rfl (ziw co ho) ?_)|refine sK ?_|refine sC (fun _=>?_) (fun _=>?_)|(have:=b0;exact ⟨_,_,_,[4],[.box 1 0],[p1],lbH (pi 0) p1,lbH (pi 11) p1,[pi 11],rfl,rfl,tH,⟨⟨2001,rfl⟩,trivial⟩,⟨⟨2001,rfl⟩,trivial⟩,zeS p1 _,rfl,rfl,by decide,tS,rfl,by rw [hl,hn];rfl⟩)|(have:=b7;exact ⟨_,_,_,[4],[.box 1 0],[p1],lbH (pi 0) p1,lbH (pi 0) p1,[pi 0],rfl,rfl,tH,⟨⟨2001,rfl⟩,trivial⟩,⟨⟨2001,rfl⟩,trivial⟩,zkh _ p1,rfl,rfl,by decide,tS,rfl,by rw [hl,hn];rfl⟩)|(have:=b4;exact ⟨_,_,_,[4],[.box 1 0],[p1],lbH (pi 0) p1,lbH (pi (tailV g m i)) p1,[pi (tailV g m i)],rfl,rfl,tH,⟨⟨2001,rfl⟩,trivial⟩,⟨⟨2001,rfl⟩,trivial⟩,zeS p1 _,rfl,rfl,by decide,tS,rfl,by rw [hl];rfl⟩)|(have:=b5;exact ⟨_,_,_,[4],[.box 1 0],[p1],lbH (pi 0) p1,lbH (pi (Zf m i)) p1,[pi (Zf m i)],rfl,rfl,tH,⟨⟨2001,rfl⟩,trivial⟩,⟨⟨2001,rfl⟩,trivial⟩,zeS p1 _,rfl,rfl,by decide,tS,rfl,by rw [hl];rfl⟩)|(have:=b6;exact ⟨_,_,_,[4],[.box 1 0],[p1],lbH (pi 0) p1,lbH (pi (onV m i)) p1,[pi (onV m i)],rfl,rfl,tH,⟨⟨2001,rfl⟩,trivial⟩,⟨⟨2001,rfl⟩,trivial⟩,zeS p1 _,rfl,rfl,by decide,tS,rfl,by rw [hl];rfl⟩)|fail)):G:=h
set_option maxHeartbeats 4000000 in
theorem zr3 (g:Img) (m:Me) (i:Int) (h0:0<=i) (h1:i<=1000) (co:QO Tryz.prog 79 [.pv (Xr g m),.pv (pi i)] [] (zfJ (onV m i)))
  (ci:QO Tryz.prog 80 [.pv (Xr g m),.pv (pi i)] [] (zfJ (Zf m i))) (ct:QO Tryz.prog 81 [.pv (Xr g m),.pv (pi i)] [] (zfJ (tailV g m i))) :
  ACall Tryz.prog 47 [Xr g m,pi i] (pi (YT g m i)):=by
 have hwr:IntKind.i64.wrap (i - 1)=i - 1:=wrap_in zwy62 zwy62;have c0:=zd1 g m i;have c1:ACall Tryz.prog 82 [Xr g m,pi (IntKind.i64.wrap (i - 1))] (pi (opV m (i - 1))):=by rw [hwr];exact zd1 g m (i - 1)
 refine zj9 zf Tryz.func47 rfl zws Tryz.ntmps47 zwy63 _ rfl (fun hw=>?_);refine zbz (zbq fun gB=>?_)
 repeat' (first|refine ZU zf 1 rfl rfl rfl rfl rfl rfl rfl ?_|refine sK ?_|refine sC (fun _=>?_) (fun _=>?_)|fail)
 refine zhN 1 2001 rfl rfl fun p1=>?_
 refine zbz (zgA (k:=1) rfl rfl rfl rfl rfl fun gB=>?_)
 repeat' (first|refine sK ?_|refine sC (fun _=>?_) (fun _=>?_)|fail)
 refine ⟨_,_,[p1],rfl,⟨⟨2001,rfl⟩,trivial⟩,?_⟩;refine zbq fun gB=>?_
 by_cases ho:onV m i=0
 ·by_cases hi:Zf m i=0
  ·by_cases ht:tailV g m i=0
   ·have hl:YT g m i=QJ m i:=by rw [YT,if_neg zwy86,if_neg (by simpa using hi),if_neg (by simpa using ht)]
    cases h68:(opV m i != 68)
    ·cases h67:(opV m (i - 1)==67)
     ·have hn:QJ m i=11:=by rw [QJ];simp_all
      have b0:=();have b1:=();exact zwk14
     ·have hn:QJ m i=0:=by rw [QJ];simp_all
      have b1:=();have b2:=();have b7:=();exact zwk14
    ·have hn:QJ m i=0:=by rw [QJ];simp_all
     have b1:=();have b3:=();have b7:=();exact zwk14
   ·have hl:YT g m i=tailV g m i:=by rw [YT,if_neg zwy86,if_neg (by simpa using hi),if_pos (by simpa using ht)]
    have b4:=();exact zwk14
  ·have hl:YT g m i=Zf m i:=by rw [YT,if_neg zwy86,if_pos (by simpa using hi)]
   have b5:=();exact zwk14
 ·have hl:YT g m i=onV m i:=by rw [YT,if_pos zwy86]
  have b6:=();exact zwk14
set_option maxHeartbeats 1000000 in
theorem zmA (g:Img) (m:Me) (hm:ClOk m):ACall Tryz.prog 48 [Xr g m] (pb (zcn m)):=by
 have cc:ACall Tryz.prog 84 [cls m.clauses,pi 0] (rgs (qL m.clauses 0)):=zeu m.clauses 0 hm.n (hm.s 0);have cf:=zeF (qL m.clauses 0) (fun r=>r.p != 1||(clV m r).tf != 0) 85 [] [.ptr (Xr g m) 0] (fun r hr=>zle g m r (zlm hr).1 (zlm hr).2);refine zh zf Tryz.func48 rfl zws Tryz.ntmps48 zwy63 _ rfl (fun hw gB hgB=>?_);rw [zcn];generalize (qL m.clauses 0).any (fun r=>r.p != 1||(clV m r).tf != 0)=b at cf ⊢
 repeat' (first|(refine shC ?_;first|refine qC cc ?_|refine qC cf ?_)|refine sK ?_|refine sC (fun _=>?_) (fun _=>?_)|fail)
 exact retq rfl rfl
theorem ztA {p:Nat->Bool} {n k:Nat} (hk:k < n) (hp:p k=true) (hno:∀ j,j < k->p j=false):(List.range n).find? p=some k:=by
 rw [List.find?_range_eq_some];exact ⟨hp,by simpa using hk,fun j hj=>by simp [hno j hj]⟩
theorem ztK {p:Nat->Bool} {n:Nat} (hno:∀ j,j < n->p j=false):(List.range n).find? p=none:=by
 rw [List.find?_eq_none];intro j hj;simp [hno j (List.mem_range.1 hj)]
theorem zwk15 {G:Prop} (h:G:=by repeat' (first|(refine shC ?_;first|(have:=b0;refine qC cl ?_)|(have:=b1;refine qC cb ?_))|refine sK ?_|refine sC (fun _=>?_) (fun _=>?_)|exact retq rfl (by rw [ha];rfl)|fail)):G:=h
set_option maxHeartbeats 4000000 in
theorem zuV (g:Img) (m:Me) (hm:ClOk m) (hlk:∀ i:Nat,i < m.code.length->ACall Tryz.prog 47 [Xr g m,pi i] (pi (YT g m i))):ACall Tryz.prog 21 [Xr g m] (.tup [pi (zbf g m).1,pi (zbf g m).2]):=by
 have cb:=zmA g m hm;have hmc:=hm.code;refine zh zf Tryz.func21 rfl zws Tryz.ntmps21 zwy63 _ rfl (fun hw gB hgB=>?_)
 repeat' (first|refine sA ?_|refine sC (fun _=>?_) (fun _=>?_)|fail)
 refine zL (fun k:Nat=>[(1,.pv (.ptr (Xr g m) 0)),(9,.pv (pi m.code.length)),(10,.pv (pi k))]) (fun _=>[]) (fun k=>k<=m.code.length/\∀ j,j < k->(YT g m (j:Nat) != 0)=false) (fun k=>m.code.length - k) 0 ⟨by omega,fun j hj=>absurd hj (Nat.not_lt_zero j)⟩ (tS) tH ?_;rintro k ⟨hk,hno⟩;by_cases hlt:k < m.code.length
 ·have cl:=hlk k hlt;cases he:(YT g m (k:Nat) != 0)
  ·repeat' (first|(refine shC ?_;first|refine qC cl ?_)|refine sK ?_|refine sC (fun _=>?_) (fun _=>?_)|fail)
   exact ⟨k + 1,⟨hlt,fun j hj=>by
    by_cases e:j=k
    ·subst e;exact he
    ·exact hno j zwy62⟩,tD,tS,tH⟩
  ·have ha:zbf g m=(((k:Nat):Int),YT g m k):=by rw [zbf,ztA hlt he hno]
   have b0:=();exact zwk15
 ·have ha:zbf g m=if zcn m then (0,0) else (0,12):=by rw [zbf,ztK fun j hj=>hno j zwy62]
  cases hb:zcn m
  ·rw [hb] at cb ha;have b1:=();exact zwk15
  ·rw [hb] at cb ha;have b1:=();exact zwk15
end Go.Cg
