/- A part of the walks by abstract values: no statement of its own. -/
import Derived.Test.YtdlokcmodgccnaaGreatF41
import Derived.Test.YtdlokcmodgccnaaGreatF40
set_option linter.unusedVariables false
set_option linter.unusedSimpArgs false
namespace Go.Cg
open Go.Proofs
set_option maxHeartbeats 20000000
section
variable {g:Img} {m:Me}
theorem zpt (m:Me) (i:Int):yM m i=0∨yM m i=12:=by
 unfold yM
 split
 ·split <;> simp
 ·split
  ·split
   ·simp
   ·split <;> simp
  ·split
   ·split
    ·simp
    ·split <;> simp
   ·split
    ·split
     ·simp
     ·split <;> simp
    ·simp
theorem ztm {w:Int} {L P1 P2 LV:Bool} (h:(0:Int)=if Yy w&&!L then 11 else if Yy w&&!P1 then 12 else if !YC w then 0 else if w==4 then (if LV then 0 else 12) else if P2 then 0 else 12) :
  w=0∧L=true∧P1=true∨w=1∧P2=true∨w=2∧L=true∧P1=true∧P2=true∨w=4∧LV=true∨((w==0)=false∧(w==1)=false∧(w==2)=false∧(w==4)=false):=by
 by_cases e0:w=0
 ·subst e0;revert h;cases L <;> cases P1 <;> simp [Yy,YC]
 by_cases e1:w=1
 ·subst e1;revert h;cases P2 <;> simp [Yy,YC]
 by_cases e2:w=2
 ·subst e2;revert h;cases L <;> cases P1 <;> cases P2 <;> simp [Yy,YC]
 by_cases e4:w=4
 ·subst e4;revert h;cases LV <;> simp [Yy,YC]
 exact .inr (.inr (.inr (.inr ⟨by simpa using e0,by simpa using e1,by simpa using e2,by simpa using e4⟩)))
theorem zt9 {w on:Int} {L P1 P2 LV:Bool} (h:on=if Yy w&&!L then 11 else if Yy w&&!P1 then 12 else if !YC w then 0 else if w==4 then (if LV then 0 else 12) else if P2 then 0 else 12) (hn:on≠0) :
  w=0∧L=false∧on=11∨w=0∧L=true∧P1=false∧on=12∨w=1∧P2=false∧on=12∨w=2∧L=false∧on=11∨w=2∧L=true∧P1=false∧on=12∨w=2∧L=true∧P1=true∧P2=false∧on=12∨w=4∧LV=false∧on=12:=by
 by_cases e0:w=0
 ·subst e0;subst h;revert hn;cases L <;> cases P1 <;> simp [Yy,YC]
 by_cases e1:w=1
 ·subst e1;subst h;revert hn;cases P2 <;> simp [Yy,YC]
 by_cases e2:w=2
 ·subst e2;subst h;revert hn;cases L <;> cases P1 <;> cases P2 <;> simp [Yy,YC]
 by_cases e4:w=4
 ·subst e4;subst h;revert hn;cases LV <;> simp [Yy,YC]
 exfalso;apply hn;rw [h];simp [Yy,YC,e0,e1,e2,e4]
theorem zmX (h:DocOk g m) {i:Int} (h0:0≤i) (h1:i.toNat < m.code.length):ACall Tryz.prog 22 [zq g,zG m,pi i] (pi (Qu g m i)):=by
 have hs:=h.me.small
 have hwr:IntKind.i64.wrap (i + 1)=i + 1:=wrap_in (by omega) (by omega)
 have hwm:IntKind.i64.wrap (i - 1)=i - 1:=wrap_in (by omega) (by omega)
 have hei:(m.code.map zY)[i.toNat]?=some (zY (zX m i)):=by rw [zX,zx h1];exact zA h1
 have cw:=zoa h h0 h1
 have cp:=zgl h i (IntKind.i64.wrap (i + 1))
 have cq:=zgl h i (zX m i).arg
 have cl:=zkC h i (zX m i).arg
 have ci:=ziG h h0 h1
 have ct:=zlR h h0 h1
 have co:=za7 m i
 have cm:=za7 m (IntKind.i64.wrap (i - 1))
 have hin:=zpt m i
 have hon:onV m i=if Yy (QX m i)&&!decide (IntKind.i64.wrap (i + 1) < (((m.code.map zY).length:Nat):Int)) then 11
   else if Yy (QX m i)&&!zam m.clauses i (IntKind.i64.wrap (i + 1)) then 12
   else if !YC (QX m i) then 0
   else if QX m i==4 then (if zbp m.clauses i (zX m i).arg then 0 else 12)
   else if zam m.clauses i (zX m i).arg then 0 else 12:=by rw [hwr,List.length_map];rfl
 have hge:decide ((((m.code.map zY).length:Nat):Int)≤IntKind.i64.wrap (i + 1))=!decide (IntKind.i64.wrap (i + 1) < (((m.code.map zY).length:Nat):Int)):=by
  by_cases hh:IntKind.i64.wrap (i + 1) < (((m.code.map zY).length:Nat):Int)
  ·rw [decide_eq_true hh,decide_eq_false (by omega)];rfl
  ·rw [decide_eq_false hh,decide_eq_true (by omega)];rfl
 have hlv:Qu g m i=if onV m i != 0 then onV m i else if yM m i != 0 then yM m i else if (if opV m i != 47 then 0 else zcC g m i) != 0 then (if opV m i != 47 then 0 else zcC g m i) else if opV m i==68&&opV m (IntKind.i64.wrap (i - 1)) != 67 then 11 else 0:=by rw [hwm];rfl
 rw [hlv]
 generalize onV m i=on at hon ⊢
 generalize zX m i=x at *
 generalize QX m i=w at *
 generalize decide (IntKind.i64.wrap (i + 1) < (((m.code.map zY).length:Nat):Int))=L at *
 generalize zam m.clauses i (IntKind.i64.wrap (i + 1))=P1 at *
 generalize zam m.clauses i x.arg=P2 at *
 generalize zbp m.clauses i x.arg=LV at *
 generalize yM m i=IN at *
 generalize zcC g m i=T at *
 generalize opV m i=o at *
 generalize opV m (IntKind.i64.wrap (i - 1))=om at *
 by_cases h0n:on=0
 ·rw [h0n] at hon ⊢
  have hf:w=0∧L=true∧P1=true∨w=1∧P2=true∨w=2∧L=true∧P1=true∧P2=true∨w=4∧LV=true∨((w==0)=false∧(w==1)=false∧(w==2)=false∧(w==4)=false):=by
   exact ztm hon
  have hrest:(∃ r:Int,IN=12∧r=12)∨IN=0∧(o==47)=true∧(T != 0)=true∨IN=0∧(o==47)=true∧(T != 0)=false∧(o==68)=false∨IN=0∧(o==47)=false∧(o==68)=true∧(om != 67)=true∨IN=0∧(o==47)=false∧(o==68)=true∧(om != 67)=false∨IN=0∧(o==47)=false∧(o==68)=false:=by
   rcases hin with rfl|rfl
   ·right
    by_cases h47:o=47
    ·subst h47
     by_cases hT:T=0
     ·exact .inr (.inl ⟨rfl,rfl,by simp [hT],rfl⟩)
     ·exact .inl ⟨rfl,rfl,by simpa using hT⟩
    ·by_cases h68:o=68
     ·subst h68
      by_cases hm:om=67
      ·exact .inr (.inr (.inr (.inl ⟨rfl,rfl,rfl,by simp [hm]⟩)))
      ·exact .inr (.inr (.inl ⟨rfl,rfl,rfl,by simpa using hm⟩))
     ·exact .inr (.inr (.inr (.inr ⟨rfl,by simpa using h47,by simpa using h68⟩)))
   ·exact .inl ⟨12,rfl,rfl⟩
  clear hon hin h0n hlv
  rcases hf with ⟨rfl,rfl,rfl⟩|⟨rfl,rfl⟩|⟨rfl,rfl,rfl,rfl⟩|⟨rfl,rfl⟩|⟨w0,w1,w2,w4⟩ <;> rcases hrest with ⟨_,rfl,_⟩|⟨rfl,o1,t1⟩|⟨rfl,o1,t1,o2⟩|⟨rfl,o1,o2,m1⟩|⟨rfl,o1,o2,m1⟩|⟨rfl,o1,o2⟩
  all_goals
   have hge2:=hge
   try simp only [Bool.not_true] at hge2
   refine zf zh Tryz.func22 rfl (by kernel_rfl) Tryz.ntmps22 (by simp) _ rfl (fun hw gB hgB=>?_)
   repeat' (first|(refine shC ?_;first|refine qC cw ?_|refine qC cp ?_|refine qC cq ?_|refine qC cl ?_|refine qC ci ?_|refine qC co ?_|refine qC cm ?_|refine qC ct ?_)|(refine shX ?_;first|refine zu rfl (zk zh rfl rfl rfl rfl rfl rfl h0 hei) rfl rfl ?_|refine AD.step _ _ _ _ _ rfl (zk zh rfl rfl rfl rfl rfl rfl h0 hei) rfl rfl ?_)|refine sK ?_|refine sC (fun _=>?_) (fun _=>?_)|fail)
   refine retq rfl ?_
   simp_all [zi]
 ·have hf:w=0∧L=false∧on=11∨w=0∧L=true∧P1=false∧on=12∨w=1∧P2=false∧on=12∨w=2∧L=false∧on=11∨w=2∧L=true∧P1=false∧on=12∨w=2∧L=true∧P1=true∧P2=false∧on=12∨w=4∧LV=false∧on=12:=by
   exact zt9 hon h0n
  clear hon hin h0n hlv
  rcases hf with ⟨rfl,rfl,rfl⟩|⟨rfl,rfl,rfl,rfl⟩|⟨rfl,rfl,rfl⟩|⟨rfl,rfl,rfl⟩|⟨rfl,rfl,rfl,rfl⟩|⟨rfl,rfl,rfl,rfl,rfl⟩|⟨rfl,rfl,rfl⟩
  all_goals
   have hge2:=hge
   try simp only [Bool.not_true,Bool.not_false] at hge2
   refine zf zh Tryz.func22 rfl (by kernel_rfl) Tryz.ntmps22 (by simp) _ rfl (fun hw gB hgB=>?_)
   repeat' (first|(refine shC ?_;first|refine qC cw ?_|refine qC cp ?_|refine qC cq ?_|refine qC cl ?_|refine qC ci ?_|refine qC co ?_|refine qC cm ?_|refine qC ct ?_)|(refine shX ?_;first|refine zu rfl (zk zh rfl rfl rfl rfl rfl rfl h0 hei) rfl rfl ?_|refine AD.step _ _ _ _ _ rfl (zk zh rfl rfl rfl rfl rfl rfl h0 hei) rfl rfl ?_)|refine sK ?_|refine sC (fun _=>?_) (fun _=>?_)|fail)
   exact retq rfl rfl
theorem zmO {g:Img} {k:Int} (hm:mOk g k) (h:DocOk g (mAt g k)):ACall Tryz.prog 11 [zq g,pi k] (.tup [pi (Vm g (mAt g k)).1,pi (Vm g (mAt g k)).2]):=by
 have hs:=h.me.small
 have he:(g.methods.map zG)[k.toNat]?=some (zG (mAt g k)):=by rw [mAt,zx hm.2];exact zA hm.2
 have hk0:=hm.1
 have cc:=YA h 0
 have hcc:=fun x (hx:x∈yh (mAt g k).clauses 0)=>Wn hx
 have hl18:=(zaU h 0 0).n
 have clk:=fun (i:Nat) (hi:i < (mAt g k).code.length)=>zmX h (i:=(i:Int)) (by omega) (by omega)
 generalize mAt g k=m at *
 refine zf zh Tryz.func11 rfl (by kernel_rfl) Tryz.ntmps11 (by simp) _ rfl (fun hw gB hgB=>?_)
 repeat' (first|(refine shX ?_;first|refine zu rfl (zk zh rfl rfl rfl rfl rfl rfl hk0 he) rfl rfl ?_|refine AD.step _ _ _ _ _ rfl (zk zh rfl rfl rfl rfl rfl rfl hk0 he) rfl rfl ?_)|refine sK ?_|refine sC (fun _=>?_) (fun _=>?_)|fail)
 refine zo (fun i:Nat=>[(2,.pv (.ptr (zq g) 0)),(6,.box 0 0),(7,.pv (pi i))]) (fun _=>[(0,.cell (.pv (zG m)))]) (fun i=>i≤m.code.length∧∀ j,j < i→(Qu g m (j:Nat) != 0)=false) (fun i=>m.code.length - i) 0 ⟨by omega,fun j hj=>absurd hj (Nat.not_lt_zero j)⟩ (tS) tH ?_
 rintro i ⟨hi,hno⟩
 by_cases hlt:i < m.code.length
 ·have d1:decide ((i:Int) < (((m.code.map zY).length:Nat):Int))=true:=decide_eq_true (by rw [List.length_map];omega)
  have cl:=clk i hlt
  cases hl:(Qu g m (i:Nat) != 0)
  ·repeat' (first|(refine shC ?_;first|refine qC cl ?_)|refine sK ?_|refine sC (fun _=>?_) (fun _=>?_)|fail)
   exact ⟨i + 1,⟨hlt,fun j hj=>by
    by_cases e:j=i
    ·subst e;exact hl
    ·exact hno j (by omega)⟩,by show m.code.length - (i + 1) < m.code.length - i;omega,tS,tH⟩
  ·have ha:Vm g m=(((i:Nat):Int),Qu g m i):=by rw [Vm,zlZ hlt hl hno]
   repeat' (first|(refine shC ?_;first|refine qC cl ?_)|refine sK ?_|refine sC (fun _=>?_) (fun _=>?_)|fail)
   exact retq rfl (by rw [ha];rfl)
 ·have d1:decide ((i:Int) < (((m.code.map zY).length:Nat):Int))=false:=decide_eq_false (by rw [List.length_map];omega)
  have ha:Vm g m=if zbL m then (0,0) else (0,12):=by rw [Vm,zlX fun j hj=>hno j (by omega)]
  rw [ha]
  unfold zbL
  clear ha hno
  generalize yh m.clauses 0=c at *
  repeat' (first|(refine shC ?_;first|refine qC cc ?_)|refine sK ?_|refine sC (fun _=>?_) (fun _=>?_)|fail)
  refine zo (fun n:Nat=>[(6,.box 0 0),(9,.pv (rgs c)),(10,.pv (pi n))]) (fun _=>[(0,.cell (.pv (zG m)))]) (fun n=>n≤c.length∧(c.any fun r=>r.p != 1||(clV m r).tf != 0)=(c.drop n).any fun r=>r.p != 1||(clV m r).tf != 0) (fun n=>c.length - n) 0 ⟨Nat.zero_le _,rfl⟩ (tS) tH ?_
  rintro n ⟨hn,hr⟩
  by_cases hln:n < c.length
  ·have d2:decide ((n:Int) < (((c.map qN).length:Nat):Int))=true:=decide_eq_true (by rw [List.length_map];omega)
   have her:=zA (f:=qN) hln
   have hrm:=List.getElem_mem hln
   rw [QF hln] at hr
   generalize c[n]=r at her hrm hr
   have hrc:=hcc r hrm
   have hc0:=hrc.1
   have hek:(m.clauses.map yI)[r.c.toNat]?=some (yI (clV m r)):=by rw [clV,zx hrc.2];exact zA hrc.2
   rcases Bool.eq_false_or_eq_true (r.p != 1) with p1|p1
   ·rw [p1,Bool.true_or,Bool.true_or] at hr
    repeat' (first|(refine shX ?_;first|refine qX her ?_)|refine sK ?_|refine sC (fun _=>?_) (fun _=>?_)|fail)
    exact retq rfl (by rw [hr];rfl)
   ·rcases Bool.eq_false_or_eq_true ((clV m r).tf != 0) with f1|f1
    ·rw [p1,f1,Bool.or_true,Bool.true_or] at hr
     repeat' (first|(refine shX ?_;first|refine qX her ?_|refine zu rfl (zk zh rfl rfl rfl rfl rfl rfl hc0 hek) rfl rfl ?_|refine AD.step _ _ _ _ _ rfl (zk zh rfl rfl rfl rfl rfl rfl hc0 hek) rfl rfl ?_)|refine sK ?_|refine sC (fun _=>?_) (fun _=>?_)|fail)
     exact retq rfl (by rw [hr];rfl)
    ·rw [p1,f1,Bool.or_false,Bool.false_or] at hr
     repeat' (first|(refine shX ?_;first|refine qX her ?_|refine zu rfl (zk zh rfl rfl rfl rfl rfl rfl hc0 hek) rfl rfl ?_|refine AD.step _ _ _ _ _ rfl (zk zh rfl rfl rfl rfl rfl rfl hc0 hek) rfl rfl ?_)|refine sK ?_|refine sC (fun _=>?_) (fun _=>?_)|fail)
     exact ⟨n + 1,⟨hln,hr⟩,by show c.length - (n + 1) < c.length - n;omega,tS,tH⟩
  ·have d2:decide ((n:Int) < (((c.map qN).length:Nat):Int))=false:=decide_eq_false (by rw [List.length_map];omega)
   rw [List.drop_of_length_le (by omega)] at hr
   repeat' (first|refine sK ?_|refine sC (fun _=>?_) (fun _=>?_)|fail)
   exact retq rfl (by rw [hr];rfl)
end
theorem zqX {g:Img} (hc:(yC g).2=0) {k:Int} (hm:mOk g k):DocOk g (mAt g k):=by
 refine ⟨YV (Xk (Xr hc).1).formed hm,(Xr hc).1,fun i h0 h1 hop=>?_⟩
 have:=(zrE hc hm h0 h1).m (by rcases hop with h|h <;> simp [h])
 exact ⟨this.1,this.2.1⟩
theorem zj4 (g:Img) (m:Int):ACall Tryz.prog 10 [zq g,pi m] (pb (WE g&&XA g m)):=by
 have c1:=zjJ g
 rw [show ((yC g).2==0)=WE g from rfl] at c1
 cases hwl:WE g
 ·rw [hwl] at c1
  refine zf zh Tryz.func10 rfl (by kernel_rfl) Tryz.ntmps10 (by simp) _ rfl (fun hw gB hgB=>?_)
  repeat' (first|(refine shC ?_;first|refine qC c1 ?_)|refine sK ?_|refine sC (fun _=>?_) (fun _=>?_)|fail)
  exact retq rfl rfl
 ·rw [hwl] at c1
  by_cases h0:0≤m
  ·have e0:decide (0≤m)=true:=decide_eq_true h0
   by_cases h1:m < g.methods.length
   ·have e1:decide (m < (((g.methods.map zG).length:Nat):Int))=true:=decide_eq_true (by rw [List.length_map];exact h1)
    have hl:m.toNat < g.methods.length:=by omega
    have he:(g.methods.map zG)[m.toNat]?=some (zG (mAt g m)):=by rw [mAt,zx hl];exact zA hl
    refine zf zh Tryz.func10 rfl (by kernel_rfl) Tryz.ntmps10 (by simp) _ rfl (fun hw gB hgB=>?_)
    repeat' (first|(refine shC ?_;first|refine qC c1 ?_)|(refine shX ?_;first|refine zu rfl (zk zh rfl rfl rfl rfl rfl rfl h0 he) rfl rfl ?_|refine AD.step _ _ _ _ _ rfl (zk zh rfl rfl rfl rfl rfl rfl h0 he) rfl rfl ?_)|refine sK ?_|refine sC (fun _=>?_) (fun _=>?_)|fail)
    refine retq rfl ?_
    simp [zi,XA,h0,h1]
   ·have e1:decide (m < (((g.methods.map zG).length:Nat):Int))=false:=decide_eq_false (by rw [List.length_map];exact h1)
    refine zf zh Tryz.func10 rfl (by kernel_rfl) Tryz.ntmps10 (by simp) _ rfl (fun hw gB hgB=>?_)
    repeat' (first|(refine shC ?_;first|refine qC c1 ?_)|refine sK ?_|refine sC (fun _=>?_) (fun _=>?_)|fail)
    refine retq rfl ?_
    simp [zi,XA,h1]
  ·have e0:decide (0≤m)=false:=decide_eq_false h0
   refine zf zh Tryz.func10 rfl (by kernel_rfl) Tryz.ntmps10 (by simp) _ rfl (fun hw gB hgB=>?_)
   repeat' (first|(refine shC ?_;first|refine qC c1 ?_)|refine sK ?_|refine sC (fun _=>?_) (fun _=>?_)|fail)
   refine retq rfl ?_
   simp [zi,XA,h0]
theorem zgt (g:Img) (hx:OkA g) (m:Int):ACall Tryz.prog 3 [zq g,pi m] (pb true):=by
 have c1:=zkK g
 have c2:=zpu g hx m
 have c3:=zj4 g m
 cases hv:zg1 g
 ·rw [hv] at c1
  cases hk:(WE g&&XA g m)
  ·rw [zfJ,hk,if_neg (by simp)] at c2
   rw [hk] at c3
   refine zf zh Tryz.func3 rfl (by kernel_rfl) Tryz.ntmps3 (by simp) _ rfl (fun hw gB hgB=>?_)
   repeat' (first|(refine shC ?_;first|refine qC zbF ?_|refine qC c1 ?_|refine qC c2 ?_|refine qC c3 ?_)|refine sK ?_|refine sC (fun _=>?_) (fun _=>?_)|fail)
   exact retq rfl rfl
  ·rw [zfJ,hk,if_pos rfl] at c2
   rw [hk] at c3
   simp only [Bool.and_eq_true,WE,XA,beq_iff_eq,decide_eq_true_eq] at hk
   have hm:mOk g m:=⟨hk.2.1.1,by omega⟩
   have c4:=zmO hm (zqX hk.1 hm)
   refine zf zh Tryz.func3 rfl (by kernel_rfl) Tryz.ntmps3 (by simp) _ rfl (fun hw gB hgB=>?_)
   repeat' (first|(refine shC ?_;first|refine qC zbF ?_|refine qC c1 ?_|refine qC c2 ?_|refine qC c3 ?_|refine qC c4 ?_)|refine sK ?_|refine sC (fun _=>?_) (fun _=>?_)|fail)
   all_goals exact retq rfl (by simp [zi])
 ·rw [hv] at c1
  refine zf zh Tryz.func3 rfl (by kernel_rfl) Tryz.ntmps3 (by simp) _ rfl (fun hw gB hgB=>?_)
  repeat' (first|(refine shC ?_;first|refine qC zbF ?_|refine qC c1 ?_)|refine sK ?_|refine sC (fun _=>?_) (fun _=>?_)|fail)
  exact retq rfl rfl
end Go.Cg
