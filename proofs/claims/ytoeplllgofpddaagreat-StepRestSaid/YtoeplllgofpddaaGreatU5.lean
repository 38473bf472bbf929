/- A part of the walks by abstract values: no statement of its own. -/
import Derived.Test.YtoeplllgofpddaaGreatU4
set_option linter.unusedVariables false
set_option linter.unusedSimpArgs false
namespace Go.Cg
open Go.Proofs
set_option maxHeartbeats 20000000
def names06:ByteArray:={ data:=((([110,111,112,32,108,100,97,114,103,32,115,116,97,114,103,32,108,100,97,114,103,97,32,108,100,108,111,99,32,115,116,108,111,99,32,108,100,108,111,99,97,32,108,100,99,52,32,108,100,99,56,32,108,100].append [110,117,108,108,32,100,117,112,32,112,111,112,32,97,100,100,32,115,117,98,32,109,117,108,32,100,105,118,32,114,101,109,32,97,110,100,32,111,114,32,120,111,114,32,115,104,108,32,115,104,114,32,110,101]).append ([103,32,110,111,116,32,97,100,100,111,118,102,32,115,117,98,111,118,102,32,109,117,108,111,118,102,32,99,111,110,118,52,32,99,111,110,118,56,32,99,111,110,118,111,118,102,52,32,99,101,113,32,99,103].append [116,32,99,108,116,32,98,114,32,98,114,116,114,117,101,32,98,114,102,97,108,115,101,32,98,101,113,32,98,103,101,32,98,103,116,32,98,108,101,32,98,108,116,32,98,110,101,32,99,97,108,108,32,99])).append (([97,108,108,118,105,114,116,32,110,101,119,111,98,106,32,114,101,116,32,116,97,105,108,32,108,100,102,108,100,32,115,116,102,108,100,32,108,100,102,108,100,97,32,108,100,115,102,108,100,32,115,116,115,102].append [108,100,32,108,100,115,102,108,100,97,32,108,100,111,98,106,32,115,116,111,98,106,32,105,110,105,116,111,98,106,32,110,101,119,97,114,114,32,108,100,108,101,110,32,108,100,101,108,101,109,32,115,116,101]).append ([108,101,109,32,108,100,101,108,101,109,97,32,98,111,120,32,117,110,98,111,120,32,117,110,98,111,120,97,110,121,32,99,97,115,116,99,108,97,115,115,32,105,115,105,110,115,116,32,108,100,102,116,110,32].append [110,101,119,100,101,108,32,116,104,114,111,119,32,114,101,116,104,114,111,119,32,108,101,97,118,101,32,101,110,100,102,105,110,97,108,108,121,32,101,110,100,102,105,108,116,101,114,32,105,110,32,111,117,116,32]))).toArray }
def operands06:ByteArray:={ data:=([48,52,52,52,51,51,51,49,50,48,48,48,48,48,48,48,48,48,48,48,48,48,48,48,48,48,48,48,48,48,48,48,48,53,53,53,53].append [53,53,53,53,53,54,54,54,48,48,55,55,55,55,55,55,56,56,56,56,48,56,56,56,56,56,56,56,56,54,56,48,48,53,48,48,48,48]).toArray }
def flows06:ByteArray:={ data:=([48,48,48,48,48,48,48,48,48,48,48,48,48,48,48,48,48,48,48,48,48,48,48,48,48,48,48,48,48,48,48,48,48,49,50,50,50].append [50,50,50,50,50,48,48,48,51,48,48,48,48,48,48,48,48,48,48,48,48,48,48,48,48,48,48,48,48,48,48,51,51,52,53,53,48,48]).toArray }
theorem zd9:names06.size=433:=by kernel_rfl
theorem zf1:operands06.size=75:=by kernel_rfl
theorem zjP:flows06.size=75:=by kernel_rfl
def zdD (op:Int):Nat→Nat→Nat→Nat→ByteArray
 | 0,_,_,_=>ByteArray.empty
 | m + 1,i,n,from_=>if i < 433 then
   (if ((names06.data.toList.getD i 0).toNat:Int)==32 then (if (n:Int)==op then names06.extract from_ i else zdD op m (i + 1) (n + 1) (i + 1)) else zdD op m (i + 1) n from_) else ByteArray.empty
def zho (op:Int):ByteArray:=zdD op 434 0 1 0
set_option maxRecDepth 100000 in
theorem zpV (op:Int):ACall Tryz.prog 188 [pi op] (ps (zho op)):=by
 refine zh zf Tryz.func188 rfl (by kernel_rfl) Tryz.ntmps188 (by simp) _ rfl (fun hw gB hgB=>?_)
 repeat' (first|refine sA ?_|refine sC (fun _=>?_) (fun _=>?_)|fail)
 refine zJ (fun x:Nat × Nat × Nat=>[(0,.pv (pi op)),(5,.pv (pi x.1)),(3,.pv (pi x.2.1)),(4,.pv (pi x.2.2))]) (fun _=>[]) (fun x=>x.1≤433∧x.2.1≤x.1 + 1∧x.2.2≤x.1∧zdD op (434 - x.1) x.1 x.2.1 x.2.2=zho op) (fun x=>433 - x.1) (0,1,0) ⟨by simp,by simp,by simp,rfl⟩ (tS) tH ?_
 rintro ⟨k,n,f⟩ ⟨hk,hn,hf,hr⟩
 simp only at hk hn hf hr
 rw [show 434 - k=(433 - k) + 1 by omega,zdD] at hr
 by_cases hlt:k < 433
 ·have hsz:k < names06.size:=by rw [zd9];exact hlt
  have hb:=zem hsz
  have hg:names06.data.toList.getD k 0=names06.data.toList[k]'(by simpa using hsz):=by rw [List.getD_eq_getElem?_getD,List.getElem?_eq_getElem (by simpa using hsz)];rfl
  rw [if_pos hlt,hg] at hr
  generalize names06.data.toList[k]'(by simpa using hsz)=b at hb hr
  clear hg
  repeat' (first|refine zB rfl (zlF (s:=names06) (l:=f) (h:=k) zf rfl rfl rfl rfl rfl (by omega) (by omega) (by rw [zd9];omega)) rfl rfl ?_|(refine shI ?_;first|refine zB rfl (WI zf rfl rfl rfl rfl (by omega) hb) rfl rfl ?_|refine AD.step _ _ _ _ _ rfl (WI zf rfl rfl rfl rfl (by omega) hb) rfl rfl ?_)|refine sK ?_|refine sC (fun _=>?_) (fun _=>?_)|fail)
  ·refine retq rfl ?_;simp_all [zk]
  ·have hr2:zdD op (433 - k) (k + 1) (n + 1) (k + 1)=zho op:=by simp_all
   exact ⟨(k + 1,n + 1,k + 1),⟨by simp;omega,by simp;omega,by simp,by simp only;rw [show 434 - (k + 1)=433 - k by omega];exact hr2⟩,tD,tS,tH⟩
  ·have hr2:zdD op (433 - k) (k + 1) n f=zho op:=by simp_all
   exact ⟨(k + 1,n,f),⟨by simp;omega,by simp;omega,by simp;omega,by simp only;rw [show 434 - (k + 1)=433 - k by omega];exact hr2⟩,tD,tS,tH⟩
 ·rw [if_neg hlt] at hr
  repeat' (first|refine sK ?_|refine sC (fun _=>?_) (fun _=>?_)|fail)
  rw [←hr]
  exact retq rfl rfl
def digit (s:ByteArray) (op:Int):Int:=IntKind.i64.wrap (IntKind.u8.wrap (((s.data.toList.getD (op - 1).toNat 0).toNat:Int) - 48))
def yF (op:Int):Int:=digit operands06 op
def zqM (op:Int):Int:=digit flows06 op
def zbA (s:ByteArray) (o f:Int):PV:=.agg [ps s,pi o,pi f]
theorem znF (op:Int) (h:op < 1∨75 < op):ACall Tryz.prog 154 [pi op] (.tup [zbA ByteArray.empty 0 0,pi 3]):=by
 refine zh zf Tryz.func154 rfl (by kernel_rfl) Tryz.ntmps154 (by simp) _ rfl (fun hw gB hgB=>?_)
 by_cases h1:op < 1
 ·repeat' (first|refine sK ?_|refine sC (fun _=>?_) (fun _=>?_)|fail)
  all_goals exact retq rfl rfl
 ·have h2:75 < op:=by omega
  repeat' (first|refine sK ?_|refine sC (fun _=>?_) (fun _=>?_)|fail)
  all_goals exact retq rfl rfl
theorem zgj (op:Int) (h1:1≤op) (h2:op≤75):ACall Tryz.prog 154 [pi op] (.tup [zbA (zho op) (yF op) (zqM op),pi 0]):=by
 refine zh zf Tryz.func154 rfl (by kernel_rfl) Tryz.ntmps154 (by simp) _ rfl (fun hw gB hgB=>?_)
 have hk1:(op - 1).toNat < operands06.size:=by rw [zf1];omega
 have hk2:(op - 1).toNat < flows06.size:=by rw [zjP];omega
 have hw1:IntKind.i64.wrap (op - 1)=(((op - 1).toNat:Nat):Int):=by rw [wrap_in (by omega) (by omega)];omega
 have hb1:=zem hk1
 have hb2:=zem hk2
 rw [←hw1] at hb1 hb2
 repeat' (first|refine zdT 13 (by kernel_rfl) (by kernel_rfl) (by kernel_rfl) (by decide) ?_|(refine shC ?_;first|refine qC (zpV op) ?_)|(refine shI ?_;first|refine zB rfl (WI zf rfl rfl rfl rfl (by omega) hb1) rfl rfl ?_|refine AD.step _ _ _ _ _ rfl (WI zf rfl rfl rfl rfl (by omega) hb1) rfl rfl ?_|refine zB rfl (WI zf rfl rfl rfl rfl (by omega) hb2) rfl rfl ?_|refine AD.step _ _ _ _ _ rfl (WI zf rfl rfl rfl rfl (by omega) hb2) rfl rfl ?_)|refine sK ?_|refine sC (fun _=>?_) (fun _=>?_)|fail)
 refine retq rfl ?_
 have e1:∀ (s:ByteArray) (h:(op - 1).toNat < s.data.toList.length),s.data.toList.getD (op - 1).toNat 0=s.data.toList[(op - 1).toNat]:=fun s h=>by rw [List.getD_eq_getElem?_getD,List.getElem?_eq_getElem h];rfl
 rw [yF,zqM,digit,digit,e1 _ (by simpa using hk1),e1 _ (by simpa using hk2)]
 rfl
def ty0:Ty:=⟨0,0,0,false⟩
def QU (x:Ins):Int :=
 if x.op < 1∨75 < x.op then 3
 else if (zaU (yF x.op)).1 < x.arg∨x.arg < (zaU (yF x.op)).2 then 17
 else if yF x.op≠8∧x.t≠ty0 then 17
 else if yF x.op=8∧Zy x.t 1=false then 17
 else 0
theorem zfT (x:Ins):ACall Tryz.prog 296 [ZP x] (pi (QU x)):=by
 refine zh zf Tryz.func296 rfl (by kernel_rfl) Tryz.ntmps296 (by simp) _ rfl (fun hw gB hgB=>?_)
 by_cases hop:x.op < 1∨75 < x.op
 ·repeat' (first|(refine shC ?_;first|refine qC (znF _ hop) ?_)|refine sA ?_|refine sC (fun _=>?_) (fun _=>?_)|fail)
  exact retq rfl (by simp [zk,QU,hop])
 ·have hty:=QA x.t ty0
  simp only [ty0] at hty
  repeat' (first|(refine shC ?_;first|refine zB rfl (zG rfl rfl (zgj _ (by omega) (by omega))) rfl rfl ?_|refine AD.step _ _ _ _ _ rfl (zG rfl rfl (zgj _ (by omega) (by omega))) rfl rfl ?_|refine qC (zpF _) ?_|refine qC (zhr _ _) ?_)|refine sA ?_|refine sC (fun _=>?_) (fun _=>?_)|fail)
  all_goals refine retq rfl ?_
  all_goals simp only [QU,ty0,if_neg hop]
  all_goals simp_all [zk]
  all_goals (rename_i h)
  ·exact of_decide_eq_false h
  ·rw [if_neg (by omega),if_pos (of_decide_eq_true h)]
set_option maxHeartbeats 20000000
def bounds (c:Cl) (part:Int):Int × Int :=
 if part==1 then (c.tf,c.tt) else if part==2 then (c.hf,c.ht) else if c.kind==2 then (c.filter,c.hf) else (0,0)
theorem Qx (c:Cl) (p:Int):ACall Tryz.prog 313 [ZB c,pi p] (.tup [pi (bounds c p).1,pi (bounds c p).2]):=by
 refine zh zf Tryz.func313 rfl (by kernel_rfl) Tryz.ntmps313 (by simp) _ rfl (fun hw gB hgB=>?_)
 repeat' (first|refine sA ?_|refine sC (fun _=>?_) (fun _=>?_)|fail)
 all_goals (refine retq rfl ?_)
 all_goals (simp_all [bounds,zk])
def meet (a:Cl) (p:Int) (b:Cl) (q:Int):Bool :=
 decide ((bounds a p).1 < (bounds b q).2)&&decide ((bounds b q).1 < (bounds a p).2)&&decide ((bounds a p).1 < (bounds a p).2)&&decide ((bounds b q).1 < (bounds b q).2)
theorem zbf (a:Cl) (p:Int) (b:Cl) (q:Int):ACall Tryz.prog 312 [ZB a,pi p,ZB b,pi q] (pb (meet a p b q)):=by
 refine zh zf Tryz.func312 rfl (by kernel_rfl) Tryz.ntmps312 (by simp) _ rfl (fun hw gB hgB=>?_)
 repeat' (first|(refine shC ?_;first|refine qC (Qx a p) ?_|refine qC (Qx b q) ?_)|refine sA ?_|refine sC (fun _=>?_) (fun _=>?_)|fail)
 all_goals (first|refine retq rfl ?_|refine ZN rfl ?_)
 all_goals (first|(simp_all [zk,meet];done)|(simp_all [zk,meet];omega))
def within (a:Cl) (p:Int) (b:Cl) (q:Int):Bool :=
 if (bounds a p).1==0&&(bounds a p).2==0 then true
 else decide ((bounds b q).1≤(bounds a p).1)&&decide ((bounds a p).2≤(bounds b q).2)&&(decide ((bounds b q).1 < (bounds a p).1)||decide ((bounds a p).2 < (bounds b q).2))
theorem Yw (a:Cl) (p:Int) (b:Cl) (q:Int):ACall Tryz.prog 314 [ZB a,pi p,ZB b,pi q] (pb (within a p b q)):=by
 refine zh zf Tryz.func314 rfl (by kernel_rfl) Tryz.ntmps314 (by simp) _ rfl (fun hw gB hgB=>?_)
 repeat' (first|(refine shC ?_;first|refine qC (Qx a p) ?_|refine qC (Qx b q) ?_)|refine sA ?_|refine sC (fun _=>?_) (fun _=>?_)|fail)
 all_goals (first|refine retq rfl ?_|refine ZN rfl ?_)
 all_goals (first|(simp_all [zk,within];done)|(simp_all [zk,within];omega))
set_option maxHeartbeats 20000000
def zay (n:Int) (c:Cl):Bool:=decide (0≤c.tf)&&decide (c.tf < c.tt)&&decide (c.tt≤n)
def zcQ (n:Int) (c:Cl):Bool:=decide (0≤c.hf)&&decide (c.hf < c.ht)&&decide (c.ht≤n)
def XE (n:Int) (c:Cl):Int :=
 if decide (c.kind < 1)||decide (4 < c.kind)||!zay n c||!zcQ n c then 3
 else if c.kind==2&&(decide (c.filter < 0)||decide (c.hf≤c.filter))||c.kind != 2&&c.filter != -1 then 3
 else if meet c 1 c 2||meet c 1 c 3||meet c 2 c 3 then 12
 else 0
theorem zgP (n:Int) (c:Cl):ACall Tryz.prog 310 [pi n,ZB c] (pi (XE n c)):=by
 refine zh zf Tryz.func310 rfl (by kernel_rfl) Tryz.ntmps310 (by simp) _ rfl (fun hw gB hgB=>?_)
 refine Qo [(0,.pv (pi n)),(3,.pv (.ptr (ZB c) 0))] [] ?_ ?_
 ·repeat' (first|refine sA ?_|refine sC (fun _=>?_) (fun _=>?_)|fail)
  all_goals (refine ⟨?_,tH⟩;repeat (first|exact yS|refine yG rfl ?_|(refine zed rfl ?_ ?_;· (first|(simp_all [zay];done)|(simp_all [zay];omega)))|(refine Zc rfl ?_ ?_;· (rw [wrap_in (by omega) (by omega)] <;> omega))))
 refine Qo [(0,.pv (pi n)),(3,.pv (.ptr (ZB c) 0)),(5,.pv (pb (zay n c)))] [] ?_ ?_
 ·repeat' (first|refine sA ?_|refine sC (fun _=>?_) (fun _=>?_)|fail)
  all_goals (refine ⟨?_,tH⟩;repeat (first|exact yS|refine yG rfl ?_|(refine zed rfl ?_ ?_;· (first|(simp_all [zay];done)|(simp_all [zay];omega)))|(refine Zc rfl ?_ ?_;· (rw [wrap_in (by omega) (by omega)] <;> omega))))
 refine Qo [(0,.pv (pi n)),(3,.pv (.ptr (ZB c) 0)),(5,.pv (pb (zay n c))),(6,.pv (pb (zcQ n c)))] [] ?_ ?_
 ·repeat' (first|refine sA ?_|refine sC (fun _=>?_) (fun _=>?_)|fail)
  all_goals (refine ⟨?_,tH⟩;repeat (first|exact yS|refine yG rfl ?_|(refine zed rfl ?_ ?_;· (first|(simp_all [zcQ];done)|(simp_all [zcQ];omega)))|(refine Zc rfl ?_ ?_;· (rw [wrap_in (by omega) (by omega)] <;> omega))))
 repeat' (first|(refine shC ?_;first|refine qC (zbf c 1 c 2) ?_|refine qC (zbf c 1 c 3) ?_|refine qC (zbf c 2 c 3) ?_)|refine sA ?_|refine sC (fun _=>?_) (fun _=>?_)|fail)
 all_goals (first|refine retq rfl ?_|refine ZN rfl ?_)
 all_goals (first|(simp_all [zk,XE];done)|(simp_all [zk,XE];omega))
def ZV (a b:Cl) (q:Int):Bool:=decide ((bounds b q).1 < (bounds b q).2)&&within a 1 b q&&within a 2 b q&&within a 3 b q
def zky (a b:Cl) (q:Int):Bool:=q==1||!(a.hf==(bounds b q).1||a.kind==2&&a.filter==(bounds b q).1)
def badM (a b:Cl) (p q:Int):Bool:=meet a p b q&&!((a.tf==b.tf&&a.tt==b.tt)&&p==1&&q==1)
def XG (a b:Cl):Bool :=
 if ZV a b 1 then zky a b 1 else if ZV a b 2 then zky a b 2 else if ZV a b 3 then zky a b 3
 else !(badM a b 1 1||badM a b 1 2||badM a b 1 3||badM a b 2 1||badM a b 2 2||badM a b 2 3||badM a b 3 1||badM a b 3 2||badM a b 3 3)
def WZ (a b:Cl) (k:Nat):Bool:=(List.range k).any fun i=>badM a b (i / 3 + 1:Nat) (i % 3 + 1:Nat)
theorem zkr (a b:Cl) (k:Nat):WZ a b (k + 1)=(WZ a b k||badM a b (k / 3 + 1:Nat) (k % 3 + 1:Nat)):=by
 simp [WZ,List.range_succ]
theorem zma (a b:Cl):WZ a b 9=(badM a b 1 1||badM a b 1 2||badM a b 1 3||badM a b 2 1||badM a b 2 2||badM a b 2 3||badM a b 3 1||badM a b 3 2||badM a b 3 3):=by
 simp [WZ,List.range_succ,Bool.or_assoc]
theorem zsI {a b:Cl} {k:Nat} (h1:1≤k) (h3:k≤3) (hno:∀ q:Nat,1≤q→q < k→ZV a b q=false) (hc:ZV a b k=true):XG a b=zky a b k:=by
 rcases (by omega:k=1∨k=2∨k=3) with rfl|rfl|rfl
 ·have hc:ZV a b 1=true:=hc
  simp [XG,hc]
 ·have e1:ZV a b 1=false:=hno 1 (by omega) (by omega)
  have hc:ZV a b 2=true:=hc
  simp [XG,hc,e1]
 ·have e1:ZV a b 1=false:=hno 1 (by omega) (by omega)
  have e2:ZV a b 2=false:=hno 2 (by omega) (by omega)
  have hc:ZV a b 3=true:=hc
  simp [XG,hc,e1,e2]
theorem zse {a b:Cl} (hno:∀ q:Nat,1≤q→q < 4→ZV a b q=false):XG a b=!WZ a b 9:=by
 have e1:ZV a b 1=false:=hno 1 (by omega) (by omega)
 have e2:ZV a b 2=false:=hno 2 (by omega) (by omega)
 have e3:ZV a b 3=false:=hno 3 (by omega) (by omega)
 rw [zma];simp [XG,e1,e2,e3]
theorem zoN {a b:Cl} {k:Nat} (hk:k < 9) (h:badM a b (k / 3 + 1:Nat) (k % 3 + 1:Nat)=true):WZ a b 9=true:=by
 simp only [WZ,List.any_eq_true,List.mem_range]
 exact ⟨k,hk,h⟩
theorem zfG (a b:Cl):ACall Tryz.prog 311 [ZB a,ZB b] (pb (XG a b)):=by
 refine zh zf Tryz.func311 rfl (by kernel_rfl) Tryz.ntmps311 (by simp) _ rfl (fun hw gB hgB=>?_)
 refine Qo [(2,.pv (.ptr (ZB a) 0)),(3,.pv (.ptr (ZB b) 0))] [] ?_ ?_
 ·repeat' (first|refine sA ?_|refine sC (fun _=>?_) (fun _=>?_)|fail)
  all_goals (refine ⟨?_,tH⟩;repeat (first|exact yS|refine yG rfl ?_|(refine zed rfl ?_ ?_;· (first|(simp_all [ZV];done)|(simp_all [ZV];omega)))|(refine Zc rfl ?_ ?_;· (rw [wrap_in (by omega) (by omega)] <;> omega))))
 by_cases hall:∀ q:Nat,1≤q→q < 4→ZV a b q=false
 ·refine Qo [(2,.pv (.ptr (ZB a) 0)),(3,.pv (.ptr (ZB b) 0))] [] ?_ ?_
  ·repeat' (first|refine sA ?_|refine sC (fun _=>?_) (fun _=>?_)|fail)
   refine zJ (fun k:Nat=>[(2,.pv (.ptr (ZB a) 0)),(3,.pv (.ptr (ZB b) 0)),(5,.pv (pi k))]) (fun _=>[]) (fun k=>1≤k∧k≤4) (fun k=>4 - k) 1 ⟨by omega,by omega⟩ (tS) tH ?_
   rintro k ⟨hk1,hk2⟩
   by_cases hlt:k≤3
   ·have hc:=hall k hk1 (by omega)
    repeat' (first|(refine shC ?_;first|refine qC (Qx b k) ?_|refine qC (Yw a 1 b k) ?_|refine qC (Yw a 2 b k) ?_|refine qC (Yw a 3 b k) ?_)|refine sK ?_|refine sC (fun _=>?_) (fun _=>?_)|fail)
    all_goals first
     | exact ⟨k + 1,⟨by omega,by omega⟩,tD,tS,tH⟩
     | (exfalso;simp_all [ZV];done)
   ·repeat' (first|refine sK ?_|refine sC (fun _=>?_) (fun _=>?_)|fail)
    exact ⟨tS,tH⟩
  have hfin:=zse hall
  refine Qo [(2,.pv (.ptr (ZB a) 0)),(3,.pv (.ptr (ZB b) 0)),(8,.pv (pb (a.tf==b.tf&&a.tt==b.tt)))] [] ?_ ?_
  ·repeat' (first|refine sA ?_|refine sC (fun _=>?_) (fun _=>?_)|fail)
   all_goals (refine ⟨?_,tH⟩;repeat (first|exact yS|refine yG rfl ?_|(refine zed rfl ?_ ?_;· (first|(simp_all [ZV];done)|(simp_all [ZV];omega)))|(refine Zc rfl ?_ ?_;· (rw [wrap_in (by omega) (by omega)] <;> omega))))
  repeat' (first|refine sA ?_|refine sC (fun _=>?_) (fun _=>?_)|fail)
  refine zJ (fun k:Nat=>[(2,.pv (.ptr (ZB a) 0)),(3,.pv (.ptr (ZB b) 0)),(8,.pv (pb (a.tf==b.tf&&a.tt==b.tt))),(9,.pv (pi k))]) (fun _=>[]) (fun k=>1≤k∧k≤4∧WZ a b (3 * (k - 1))=false) (fun k=>4 - k) 1 ⟨by omega,by omega,rfl⟩ (tS) tH ?_
  rintro k ⟨hk1,hk2,hno⟩
  by_cases hlt:k≤3
  ·repeat' (first|refine sK ?_|refine sC (fun _=>?_) (fun _=>?_)|fail)
   refine zJ (fun m:Nat=>[(2,.pv (.ptr (ZB a) 0)),(3,.pv (.ptr (ZB b) 0)),(8,.pv (pb (a.tf==b.tf&&a.tt==b.tt))),(9,.pv (pi k)),(10,.pv (pi m))]) (fun _=>[]) (fun m=>1≤m∧m≤4∧WZ a b (3 * (k - 1) + (m - 1))=false) (fun m=>4 - m) 1 ⟨by omega,by omega,hno⟩ (tS) tH ?_
   rintro m ⟨hm1,hm2,hno⟩
   by_cases hltm:m≤3
   ·have hidx:badM a b ((3 * (k - 1) + (m - 1)) / 3 + 1:Nat) ((3 * (k - 1) + (m - 1)) % 3 + 1:Nat)=badM a b k m:=by
     have e1:(3 * (k - 1) + (m - 1)) / 3 + 1=k:=by omega
     have e2:(3 * (k - 1) + (m - 1)) % 3 + 1=m:=by omega
     rw [e1,e2]
    have hsucc:=zkr a b (3 * (k - 1) + (m - 1))
    rw [hidx,hno,Bool.false_or] at hsucc
    cases hb:badM a b k m
    ·have hnext:WZ a b (3 * (k - 1) + (m + 1 - 1))=false:=by
      rw [show 3 * (k - 1) + (m + 1 - 1)=3 * (k - 1) + (m - 1) + 1 by omega,hsucc,hb]
     clear hsucc hidx
     repeat' (first|(refine shC ?_;first|refine qC (zbf a k b m) ?_)|refine sK ?_|refine sC (fun _=>?_) (fun _=>?_)|fail)
     all_goals first
      | exact ⟨m + 1,⟨by omega,by omega,hnext⟩,tD,tS,tH⟩
      | (exfalso;simp_all [badM];done)
    ·have hbad:=zoN (a:=a) (b:=b) (k:=3 * (k - 1) + (m - 1)) (by omega) (by rw [hidx];exact hb)
     clear hsucc hidx
     repeat' (first|(refine shC ?_;first|refine qC (zbf a k b m) ?_)|refine sK ?_|refine sC (fun _=>?_) (fun _=>?_)|fail)
     all_goals first
      | exact retq rfl (by simp [zk,hfin,hbad])
      | (exfalso;simp_all [badM];done)
   ·repeat' (first|refine sK ?_|refine sC (fun _=>?_) (fun _=>?_)|fail)
    have:m=4:=by omega
    subst this
    exact ⟨k + 1,⟨by omega,by omega,by rw [show 3 * (k + 1 - 1)=3 * (k - 1) + (4 - 1) by omega];exact hno⟩,tD,tS,tH⟩
  ·repeat' (first|refine sK ?_|refine sC (fun _=>?_) (fun _=>?_)|fail)
   have:k=4:=by omega
   subst this
   exact retq rfl (by simp [zk,hfin,show WZ a b 9=false from hno])
 ·
  have hex:∃ k:Nat,1≤k∧k≤3∧ZV a b k=true∧∀ q:Nat,1≤q→q < k→ZV a b q=false:=by
   cases h1:ZV a b 1
   ·cases h2:ZV a b 2
    ·cases h3:ZV a b 3
     ·exact (hall (fun q q1 q2=>by rcases (by omega:q=1∨q=2∨q=3) with rfl|rfl|rfl <;> assumption)).elim
     ·exact ⟨3,by omega,by omega,h3,fun q q1 q2=>by rcases (by omega:q=1∨q=2) with rfl|rfl <;> assumption⟩
    ·exact ⟨2,by omega,by omega,h2,fun q q1 q2=>by (obtain rfl:q=1:=by omega);assumption⟩
   ·exact ⟨1,by omega,by omega,h1,fun q q1 q2=>by omega⟩
  obtain ⟨k0,hk1,hk3,hc0,hno0⟩:=hex
  have hfin:=zsI hk1 hk3 hno0 hc0
  clear hall
  repeat' (first|refine sA ?_|refine sC (fun _=>?_) (fun _=>?_)|fail)
  refine zJ (fun k:Nat=>[(2,.pv (.ptr (ZB a) 0)),(3,.pv (.ptr (ZB b) 0)),(5,.pv (pi k))]) (fun _=>[]) (fun k=>1≤k∧k≤k0) (fun k=>4 - k) 1 ⟨by omega,by omega⟩ (tS) tH ?_
  rintro k ⟨hj1,hj2⟩
  have hlt:k≤3:=by omega
  by_cases he:k=k0
  ·subst he
   repeat' (first|(refine shC ?_;first|refine qC (Qx b k) ?_|refine qC (Yw a 1 b k) ?_|refine qC (Yw a 2 b k) ?_|refine qC (Yw a 3 b k) ?_)|refine sK ?_|refine sC (fun _=>?_) (fun _=>?_)|fail)
   all_goals first
    | (refine retq rfl ?_;simp_all [zk,zky];done)
    | (exfalso;simp_all [ZV];done)
    | (refine retq rfl ?_;simp_all [zk,zky];omega)
  ·have hc:=hno0 k hj1 (by omega)
   repeat' (first|(refine shC ?_;first|refine qC (Qx b k) ?_|refine qC (Yw a 1 b k) ?_|refine qC (Yw a 2 b k) ?_|refine qC (Yw a 3 b k) ?_)|refine sK ?_|refine sC (fun _=>?_) (fun _=>?_)|fail)
   all_goals first
    | exact ⟨k + 1,⟨by omega,by omega⟩,tD,tS,tH⟩
    | (exfalso;simp_all [ZV];done)
set_option maxHeartbeats 20000000
def cls (l:List Cl):PV:=.slc 10 (l.map ZB) false
theorem zn8 {l:List Cl} (h:(cls l).lenOk):l.length≤9223372036854775807:=by
 simp [cls,PV.lenOk,maxLen] at h;exact h.1
theorem zj6 {l:List Cl} {k:Nat} (h:k < l.length):(l.map ZB)[k]?=some (ZB (l.getD k default)):=by simp [h]
def Xg (l:List Cl) (i m:Nat):Bool:=(List.range m).any fun k=>!XG (l.getD k default) (l.getD i default)
theorem zdX (l:List Cl) (i m:Nat):Xg l i (m + 1)=(Xg l i m||!XG (l.getD m default) (l.getD i default)):=by simp [Xg,List.range_succ]
def Qn (n:Int) (l:List Cl) (i:Nat):Int :=
 if XE n (l.getD i default) != 0 then XE n (l.getD i default) else if Xg l i i then 12 else 0
def QJ (n:Int) (l:List Cl):Int × Int :=
 if 6 < l.length then (0,4) else match (List.range l.length).find? (fun i=>Qn n l i != 0) with
  | some i=>(((i:Nat):Int),Qn n l i)
  | none=>(0,0)
theorem zbM {n:Int} {l:List Cl} {k:Nat} (h6:¬ 6 < l.length) (hk:k < l.length) (hno:∀ j,j < k→Qn n l j=0) (h:Qn n l k≠0):QJ n l=(((k:Nat):Int),Qn n l k):=by
 have:(List.range l.length).find? (fun i=>Qn n l i != 0)=some k:=by
  rw [List.find?_range_eq_some]
  exact ⟨by simpa using h,by simpa using hk,fun j hj=>by simp [hno j hj]⟩
 simp [QJ,h6,this]
theorem zgM {n:Int} {l:List Cl} (h6:¬ 6 < l.length) (hno:∀ j,j < l.length→Qn n l j=0):QJ n l=(0,0):=by
 have:(List.range l.length).find? (fun i=>Qn n l i != 0)=none:=by
  rw [List.find?_eq_none]
  intro j hj
  simp [hno j (List.mem_range.1 hj)]
 simp [QJ,h6,this]
theorem zi6 (n:Int) (l:List Cl):ACall Tryz.prog 307 [pi n,cls l] (.tup [pi (QJ n l).1,pi (QJ n l).2]):=by
 refine zh zf Tryz.func307 rfl (by kernel_rfl) Tryz.ntmps307 (by simp) _ rfl (fun hw gB hgB=>?_)
 have hl:=zn8 hw.2.1
 by_cases h6:6 < l.length
 ·repeat' (first|refine sK ?_|refine sC (fun _=>?_) (fun _=>?_)|fail)
  exact retq rfl (by simp [zk,QJ,h6])
 ·repeat' (first|refine sK ?_|refine sC (fun _=>?_) (fun _=>?_)|fail)
  refine zJ (fun k:Nat=>[(0,.pv (pi n)),(1,.pv (cls l)),(6,.pv (pi k))]) (fun _=>[]) (fun k=>k≤l.length∧∀ j,j < k→Qn n l j=0) (fun k=>l.length - k) 0 ⟨by omega,fun j h=>by omega⟩ (tS) tH ?_
  rintro k ⟨hk,hno⟩
  by_cases hlt:k < l.length
  ·have he:=zj6 hlt
   cases ha:(XE n (l.getD k default) != 0)
   ·repeat' (first|(refine shC ?_;first|refine qC (zgP n (l.getD k default)) ?_)|(refine shX ?_;first|refine qX he ?_)|refine sK ?_|refine sC (fun _=>?_) (fun _=>?_)|fail)
    refine zJ (fun m:Nat=>[(0,.pv (pi n)),(1,.pv (cls l)),(6,.pv (pi k)),(8,.pv (pi m))]) (fun _=>[]) (fun m=>m≤k∧Xg l k m=false) (fun m=>k - m) 0 ⟨by omega,rfl⟩ (tS) tH ?_
    rintro m ⟨hm,hpb⟩
    by_cases hltm:m < k
    ·have hem:=zj6 (show m < l.length by omega)
     have hps:=zdX l k m
     cases hf:XG (l.getD m default) (l.getD k default)
     ·have hat:Qn n l k=12:=by
       have:Xg l k k=true:=by
        simp only [Xg,List.any_eq_true,List.mem_range]
        exact ⟨m,hltm,by rw [hf];rfl⟩
       unfold Qn;rw [ha];simp [this]
      have hfin:=zbM h6 hlt hno (by rw [hat];decide)
      clear hps
      repeat' (first|(refine shC ?_;first|refine qC (zfG (l.getD m default) (l.getD k default)) ?_)|(refine shX ?_;first|refine qX he ?_|refine qX hem ?_)|refine sK ?_|refine sC (fun _=>?_) (fun _=>?_)|fail)
      ·exact retq rfl (by simp [zk,hfin,hat])
      ·exfalso;simp_all
     ·have hpm:Xg l k (m + 1)=false:=by rw [hps,hpb,hf];rfl
      clear hps
      repeat' (first|(refine shC ?_;first|refine qC (zfG (l.getD m default) (l.getD k default)) ?_)|(refine shX ?_;first|refine qX he ?_|refine qX hem ?_)|refine sK ?_|refine sC (fun _=>?_) (fun _=>?_)|fail)
      ·exfalso;simp_all
      ·exact ⟨m + 1,⟨by omega,hpm⟩,tD,tS,tH⟩
    ·repeat' (first|refine sK ?_|refine sC (fun _=>?_) (fun _=>?_)|fail)
     have:m=k:=by omega
     subst this
     have hat:Qn n l m=0:=by unfold Qn;rw [ha];simp [hpb]
     exact ⟨m + 1,⟨by omega,fun j hj=>by
      by_cases e:j=m
      ·subst e;exact hat
      ·exact hno j (by omega)⟩,tD,tS,tH⟩
   ·have hat:Qn n l k=XE n (l.getD k default):=by unfold Qn;rw [ha];simp
    have hfin:=zbM h6 hlt hno (by rw [hat];simpa using ha)
    repeat' (first|(refine shC ?_;first|refine qC (zgP n (l.getD k default)) ?_)|(refine shX ?_;first|refine qX he ?_)|refine sK ?_|refine sC (fun _=>?_) (fun _=>?_)|fail)
    exact retq rfl (by simp [zk,hfin,hat])
  ·repeat' (first|refine sK ?_|refine sC (fun _=>?_) (fun _=>?_)|fail)
   have:k=l.length:=by omega
   subst this
   exact retq rfl (by simp [zk,zgM h6 hno])
def zaI (n:Int) (l:List Cl):Bool:=(QJ n l).2==0
theorem znh (n:Int) (l:List Cl):ACall Tryz.prog 297 [pi n,cls l] (pb (zaI n l)):=by
 refine zh zf Tryz.func297 rfl (by kernel_rfl) Tryz.ntmps297 (by simp) _ rfl (fun hw gB hgB=>?_)
 repeat' (first|(refine shC ?_;first|refine qC (zi6 n l) ?_)|refine sA ?_|refine sC (fun _=>?_) (fun _=>?_)|fail)
 all_goals (first|refine retq rfl ?_|refine ZN rfl ?_)
 all_goals (first|(simp_all [zk,zaI];done)|(simp_all [zk,zaI];omega))
set_option maxHeartbeats 20000000

/-! images: how long;formed -/
theorem zgn {α:Type} {f:α→PV} {sz:Nat} {l:List α} (h:(PV.slc sz (l.map f) false).lenOk):l.length≤9223372036854775807:=by
  simp [PV.lenOk,maxLen] at h;exact h.1
theorem yu {α:Type} {f:α→PV} {l:List α} {k:Nat} (h:k < l.length):(l.map f)[((k:Int)).toNat]?=some (f l[k]):=by simp [h]

def QV (n:Int) (f:Int):Bool:=decide (0≤f)&&decide (f < n)
def qR (t:TD) (n:Int):Bool :=
  Vm t.name&&decide (0≤t.flags)&&decide (t.flags≤31)&&decide (-1≤t.ext)&&decide (t.ext < n)&&decide ((t.faces.length:Int)≤4)&&t.faces.all (QV n)
theorem zf7 (t:TD) (n:Int):ACall Tryz.prog 257 [ZA t,pi n] (pb (qR t n)):=by
  refine zh zf Tryz.func257 rfl (by kernel_rfl) Tryz.ntmps257 (by simp) _ rfl (fun hw gB hgB=>?_)
  have hl:t.faces.length≤9223372036854775807:=zcD hw.1.2.2.2.1
  repeat' (first|(refine shC ?_;first|refine qC (zcW _) ?_)|refine sA ?_|refine sC (fun _=>?_) (fun _=>?_)|fail)
  all_goals first|(refine retq rfl ?_;first|(simp only [zk,qR,BL,List.length_map] at *;simp only [*,BL,List.length_map];done)|(simp_all [zk,qR];done)|(simp_all [zk,qR];omega)|(simp_all [zk,qR];intros;omega))|(refine ZN rfl ?_;first|(simp only [zk,qR,BL,List.length_map] at *;simp only [*,BL,List.length_map];done)|(simp_all [zk,qR];done)|(simp_all [zk,qR];omega)|(simp_all [zk,qR];intros;omega))|skip
  refine zJ (fun k:Nat=>[(1,.pv (pi n)),(2,.pv (.ptr (ZA t) 0)),(5,.pv (pi k))]) (fun _=>[]) (fun k=>k≤t.faces.length∧qR t n=(t.faces.drop k).all (QV n)) (fun k=>t.faces.length - k) 0 ⟨by simp,by simp_all [qR]⟩ (tS) tH ?_
  rintro k ⟨hk,hr⟩
  by_cases hlt:k < t.faces.length
  · have he:=qB hlt
    rw [Yl hlt] at hr
    repeat' (first|(refine shX ?_;first|refine qX he ?_)|refine sK ?_|refine sC (fun _=>?_) (fun _=>?_)|fail)
    all_goals first|(refine retq rfl ?_;first|(simp only [zk,QV,BL,List.length_map] at *;simp only [*,BL,List.length_map];done)|(simp_all [zk,QV];done)|(simp_all [zk,QV];omega)|(simp_all [zk,QV];intros;omega))|(refine ⟨k + 1,⟨by omega,?_⟩,tD,tS,tH⟩;first|(simp only [QV,BL,List.length_map] at *;simp only [*,BL,List.length_map];done)|(simp_all [QV];done)|(simp_all [QV];omega)|(simp_all [QV];intros;omega))|(trace "LEND";trace_state)
  · rw [drop_end (by omega)] at hr
    repeat' (first|refine sK ?_|refine sC (fun _=>?_) (fun _=>?_)|fail)
    all_goals first|(refine retq rfl ?_;first|(simp only [zk,BL,List.length_map] at *;simp only [*,BL,List.length_map];done)|(simp_all [zk];done)|(simp_all [zk];omega)|(simp_all [zk];intros;omega))|(refine ZN rfl ?_;first|(simp only [zk,BL,List.length_map] at *;simp only [*,BL,List.length_map];done)|(simp_all [zk];done)|(simp_all [zk];omega)|(simp_all [zk];intros;omega))|skip

def codeOk (g:Img) (m:Me) (x:Ins):Bool:=QU x==0 &&
  (if yF x.op==5 then decide (x.arg < (m.code.length:Int)) else if yF x.op==6 then decide (x.arg < (g.methods.length:Int))
   else if yF x.op==7 then decide (x.arg < (g.fields.length:Int)) else if yF x.op==8 then zeZ x.t g.types.length else true)
theorem ziJ {x:Ins} (h:(QU x != 0)=false):1≤x.op∧x.op≤75:=by
  simp [QU] at h
  by_cases h1:x.op < 1∨75 < x.op
  · simp [h1] at h
  · omega
def zaA (t:Ty):Bool:=(t.kind==0&&(t.index==0&&(t.dims==0&&(t.ref==false&&true))))
def Zr (g:Img) (c:Cl):Bool:=!((c.kind==1&&!QG c.t 1 g.types.length)||(c.kind != 1&&!zaA c.t))
def ZL (g:Img) (m:Me):Bool:=decide ((m.code.length:Int)≤160)&&m.code.all (codeOk g m)&&m.clauses.all (Zr g)&&zaI m.code.length m.clauses
theorem zge (m:Me) (g:Img):ACall Tryz.prog 279 [yL m,zH g] (pb (ZL g m)):=by
  refine zh zf Tryz.func279 rfl (by kernel_rfl) Tryz.ntmps279 (by simp) _ rfl (fun hw gB hgB=>?_)
  have hl1:m.code.length≤9223372036854775807:=zgn (f:=ZP) (sz:=6) (by have:=hw.1;simp only [yL,PV.lenOk,lensOk] at this ⊢;simp_all)
  have hl2:m.clauses.length≤9223372036854775807:=zgn (f:=ZB) (sz:=10) (by have:=hw.1;simp only [yL,PV.lenOk,lensOk] at this ⊢;simp_all)
  repeat' (first|refine sA ?_|refine sC (fun _=>?_) (fun _=>?_)|fail)
  all_goals first|(refine retq rfl ?_;first|(simp only [zk,ZL,BL,List.length_map] at *;simp only [*,BL,List.length_map];done)|(simp_all [zk,ZL];done)|(simp_all [zk,ZL];omega)|(simp_all [zk,ZL];intros;omega))|(refine ZN rfl ?_;first|(simp only [zk,ZL,BL,List.length_map] at *;simp only [*,BL,List.length_map];done)|(simp_all [zk,ZL];done)|(simp_all [zk,ZL];omega)|(simp_all [zk,ZL];intros;omega))|skip
  refine zJ (fun k:Nat=>[(2,.pv (.ptr (yL m) 0)),(3,.pv (.ptr (zH g) 0)),(5,.pv (pi k))]) (fun _=>[]) (fun k=>k≤m.code.length∧ZL g m=((m.code.drop k).all (codeOk g m)&&m.clauses.all (Zr g)&&zaI m.code.length m.clauses)) (fun k=>m.code.length - k) 0 ⟨by simp,by simp_all [ZL]⟩ (tS) tH ?_
  rintro k ⟨hk,hr⟩
  by_cases hlt:k < m.code.length
  · have he:=yu (f:=ZP) hlt
    rw [Yl hlt] at hr
    by_cases hf:QU m.code[k]=0
    · obtain ⟨h1,h2⟩:=ziJ (x:=m.code[k]) (by simp [hf])
      repeat' (first|(refine shC ?_;first|refine qC (zfT _) ?_|refine qC (zgj _ h1 h2) ?_|refine qC (zl8 _ _) ?_)|(refine shX ?_;first|refine qX he ?_)|refine sK ?_|refine sC (fun _=>?_) (fun _=>?_)|fail)
      all_goals first|(refine retq rfl ?_;first|(simp only [zk,codeOk,BL,List.length_map] at *;simp only [*,BL,List.length_map];done)|(simp_all [zk,codeOk];done)|(simp_all [zk,codeOk];omega)|(simp_all [zk,codeOk];intros;omega))|(refine ⟨k + 1,⟨by omega,?_⟩,tD,tS,tH⟩;first|(simp only [codeOk,BL,List.length_map] at *;simp only [*,BL,List.length_map];done)|(simp_all [codeOk];done)|(simp_all [codeOk];omega)|(simp_all [codeOk];intros;omega))|(trace "LEND";trace_state)
    · repeat' (first|(refine shC ?_;first|refine qC (zfT _) ?_)|(refine shX ?_;first|refine qX he ?_)|refine sK ?_|refine sC (fun _=>?_) (fun _=>?_)|fail)
      all_goals first|(refine retq rfl ?_;first|(simp only [zk,codeOk,BL,List.length_map] at *;simp only [*,BL,List.length_map];done)|(simp_all [zk,codeOk];done)|(simp_all [zk,codeOk];omega)|(simp_all [zk,codeOk];intros;omega))|(refine ⟨k + 1,⟨by omega,?_⟩,tD,tS,tH⟩;first|(simp only [codeOk,BL,List.length_map] at *;simp only [*,BL,List.length_map];done)|(simp_all [codeOk];done)|(simp_all [codeOk];omega)|(simp_all [codeOk];intros;omega))|(trace "LEND";trace_state)
  · rw [drop_end (by omega)] at hr
    repeat' (first|refine sK ?_|refine sC (fun _=>?_) (fun _=>?_)|fail)
    refine zJ (fun k:Nat=>[(2,.pv (.ptr (yL m) 0)),(3,.pv (.ptr (zH g) 0)),(9,.pv (pi k))]) (fun _=>[]) (fun k=>k≤m.clauses.length∧ZL g m=((m.clauses.drop k).all (Zr g)&&zaI m.code.length m.clauses)) (fun k=>m.clauses.length - k) 0 ⟨by simp,by simp_all⟩ (tS) tH ?_
    clear hk hr hlt
    rintro k ⟨hk,hr⟩
    by_cases hlt:k < m.clauses.length
    · have he:=yu (f:=ZB) hlt
      rw [Yl hlt] at hr
      repeat' (first|(refine shC ?_;first|refine qC (za5 _ _ _) ?_)|(refine shX ?_;first|refine qX he ?_)|refine sK ?_|refine sC (fun _=>?_) (fun _=>?_)|fail)
      all_goals first|(refine retq rfl ?_;first|(simp only [zk,Zr,zaA,BL,List.length_map] at *;simp only [*,BL,List.length_map];done)|(simp_all [zk,Zr,zaA];done)|(simp_all [zk,Zr,zaA];omega)|(simp_all [zk,Zr,zaA];intros;omega))|(refine ⟨k + 1,⟨by omega,?_⟩,tD,tS,tH⟩;first|(simp only [Zr,zaA,BL,List.length_map] at *;simp only [*,BL,List.length_map];done)|(simp_all [Zr,zaA];done)|(simp_all [Zr,zaA];omega)|(simp_all [Zr,zaA];intros;omega))|(trace "LEND";trace_state)
    · rw [drop_end (by omega)] at hr
      repeat' (first|(refine shC ?_;first|refine qC (znh _ _) ?_)|refine sK ?_|refine sC (fun _=>?_) (fun _=>?_)|fail)
      all_goals first|(refine retq rfl ?_;first|(simp only [zk,BL,List.length_map] at *;simp only [*,BL,List.length_map];done)|(simp_all [zk];done)|(simp_all [zk];omega)|(simp_all [zk];intros;omega))|(refine ZN rfl ?_;first|(simp only [zk,BL,List.length_map] at *;simp only [*,BL,List.length_map];done)|(simp_all [zk];done)|(simp_all [zk];omega)|(simp_all [zk];intros;omega))|skip
set_option maxHeartbeats 20000000
def qL (g:Img) (m:Me):Bool :=
 Vm m.name&&decide (0≤m.flags)&&decide (m.flags≤31)&&decide (0≤m.max)&&decide (m.max≤12)&&decide ((m.params.length:Int)≤6)&&decide ((m.locals.length:Int)≤12)&&QG m.ret 3 g.types.length
 && m.params.all (fun t=>QG t 2 g.types.length)&&m.locals.all (fun t=>QG t 2 g.types.length)&&ZL g m
theorem zaQ (m:Me) (g:Img):ACall Tryz.prog 260 [yL m,zH g] (pb (qL g m)):=by
 refine zh zf Tryz.func260 rfl (by kernel_rfl) Tryz.ntmps260 (by simp) _ rfl (fun hw gB hgB=>?_)
 have hl1:m.params.length≤9223372036854775807:=zgn (f:=yJ) (sz:=4) (by have:=hw.1;simp only [yL,tys,PV.lenOk,lensOk] at this ⊢;simp_all)
 have hl2:m.locals.length≤9223372036854775807:=zgn (f:=yJ) (sz:=4) (by have:=hw.1;simp only [yL,tys,PV.lenOk,lensOk] at this ⊢;simp_all)
 repeat' (first|(refine shC ?_;first|refine qC (zcW _) ?_|refine qC (za5 _ _ _) ?_)|refine sA ?_|refine sC (fun _=>?_) (fun _=>?_)|fail)
 all_goals first|(refine retq rfl ?_;first|(simp only [zk,qL,BL,List.length_map] at *;simp only [*,BL,List.length_map];done)|(simp_all [zk,qL];done)|(simp_all [zk,qL];omega)|(simp_all [zk,qL];intros;omega))|(refine ZN rfl ?_;first|(simp only [zk,qL,BL,List.length_map] at *;simp only [*,BL,List.length_map];done)|(simp_all [zk,qL];done)|(simp_all [zk,qL];omega)|(simp_all [zk,qL];intros;omega))|skip
 refine zJ (fun k:Nat=>[(2,.pv (.ptr (yL m) 0)),(3,.pv (.ptr (zH g) 0)),(5,.pv (pi (g.types.length:Int))),(6,.pv (pi k))]) (fun _=>[]) (fun k=>k≤m.params.length∧qL g m=((m.params.drop k).all (fun t=>QG t 2 g.types.length)&&m.locals.all (fun t=>QG t 2 g.types.length)&&ZL g m)) (fun k=>m.params.length - k) 0 ⟨by simp,by simp_all [qL]⟩ (tS) tH ?_
 rintro k ⟨hk,hr⟩
 by_cases hlt:k < m.params.length
 ·have he:=yu (f:=yJ) hlt
  rw [Yl hlt] at hr
  repeat' (first|(refine shC ?_;first|refine qC (za5 _ _ _) ?_)|(refine shX ?_;first|refine qX he ?_)|refine sK ?_|refine sC (fun _=>?_) (fun _=>?_)|fail)
  all_goals first|(refine retq rfl ?_;first|(simp only [zk,BL,List.length_map] at *;simp only [*,BL,List.length_map];done)|(simp_all [zk];done)|(simp_all [zk];omega)|(simp_all [zk];intros;omega))|(refine ⟨k + 1,⟨by omega,?_⟩,tD,tS,tH⟩;first|(simp only [BL,List.length_map] at *;simp only [*,BL,List.length_map];done)|(simp_all [];done)|(simp_all [];omega)|(simp_all [];intros;omega))|(trace "LEND";trace_state)
 ·rw [drop_end (by omega)] at hr
  repeat' (first|refine sK ?_|refine sC (fun _=>?_) (fun _=>?_)|fail)
  refine zJ (fun k:Nat=>[(2,.pv (.ptr (yL m) 0)),(3,.pv (.ptr (zH g) 0)),(5,.pv (pi (g.types.length:Int))),(7,.pv (pi k))]) (fun _=>[]) (fun k=>k≤m.locals.length∧qL g m=((m.locals.drop k).all (fun t=>QG t 2 g.types.length)&&ZL g m)) (fun k=>m.locals.length - k) 0 ⟨by simp,by simp_all⟩ (tS) tH ?_
  clear hk hr hlt
  rintro k ⟨hk,hr⟩
  by_cases hlt:k < m.locals.length
  ·have he:=yu (f:=yJ) hlt
   rw [Yl hlt] at hr
   repeat' (first|(refine shC ?_;first|refine qC (za5 _ _ _) ?_)|(refine shX ?_;first|refine qX he ?_)|refine sK ?_|refine sC (fun _=>?_) (fun _=>?_)|fail)
   all_goals first|(refine retq rfl ?_;first|(simp only [zk,BL,List.length_map] at *;simp only [*,BL,List.length_map];done)|(simp_all [zk];done)|(simp_all [zk];omega)|(simp_all [zk];intros;omega))|(refine ⟨k + 1,⟨by omega,?_⟩,tD,tS,tH⟩;first|(simp only [BL,List.length_map] at *;simp only [*,BL,List.length_map];done)|(simp_all [];done)|(simp_all [];omega)|(simp_all [];intros;omega))|(trace "LEND";trace_state)
  ·rw [drop_end (by omega)] at hr
   repeat' (first|(refine shC ?_;first|refine qC (zge _ _) ?_)|refine sK ?_|refine sC (fun _=>?_) (fun _=>?_)|fail)
   all_goals first|(refine retq rfl ?_;first|(simp only [zk,BL,List.length_map] at *;simp only [*,BL,List.length_map];done)|(simp_all [zk];done)|(simp_all [zk];omega)|(simp_all [zk];intros;omega))|(refine ZN rfl ?_;first|(simp only [zk,BL,List.length_map] at *;simp only [*,BL,List.length_map];done)|(simp_all [zk];done)|(simp_all [zk];omega)|(simp_all [zk];intros;omega))|skip
def zdl (t:TD):Bool:=!decide ((t.faces.length:Int)≤20)||!decide ((t.name.size:Int)≤100)
def zcg (m:Me):Bool:=!decide ((m.params.length:Int)≤30)||!decide ((m.locals.length:Int)≤30)||!decide ((m.code.length:Int)≤200)||!decide ((m.clauses.length:Int)≤20)||!decide ((m.name.size:Int)≤100)
def zaq (g:Img):Bool:=!decide ((g.types.length:Int)≤40)||!decide ((g.fields.length:Int)≤80)||!decide ((g.methods.length:Int)≤80)||g.types.any zdl||g.methods.any zcg
theorem ze9 (g:Img):ACall Tryz.prog 22 [zH g] (pb (zaq g)):=by
 refine zh zf Tryz.func22 rfl (by kernel_rfl) Tryz.ntmps22 (by simp) _ rfl (fun hw gB hgB=>?_)
 repeat' (first|refine sA ?_|refine sC (fun _=>?_) (fun _=>?_)|fail)
 all_goals first|(refine retq rfl ?_;first|(simp only [zk,zaq,BL,List.length_map] at *;simp only [*,BL,List.length_map];done)|(simp_all [zk,zaq];done)|(simp_all [zk,zaq];omega)|(simp_all [zk,zaq];intros;omega))|(refine ZN rfl ?_;first|(simp only [zk,zaq,BL,List.length_map] at *;simp only [*,BL,List.length_map];done)|(simp_all [zk,zaq];done)|(simp_all [zk,zaq];omega)|(simp_all [zk,zaq];intros;omega))|skip
 refine zJ (fun k:Nat=>[(1,.pv (.ptr (zH g) 0)),(3,.pv (pi k))]) (fun _=>[]) (fun k=>k≤g.types.length∧zaq g=((g.types.drop k).any zdl||g.methods.any zcg)) (fun k=>g.types.length - k) 0 ⟨by simp,by simp_all [zaq]⟩ (tS) tH ?_
 have ht:g.types.length≤40:=by simp_all;omega
 have hm:g.methods.length≤80:=by simp_all;omega
 rintro k ⟨hk,hr⟩
 by_cases hlt:k < g.types.length
 ·have he:=yu (f:=ZA) hlt
  rw [WS hlt] at hr
  repeat' (first|(refine shX ?_;first|refine qX he ?_)|refine sK ?_|refine sC (fun _=>?_) (fun _=>?_)|fail)
  all_goals first|(refine retq rfl ?_;first|(simp only [zk,zdl,BL,List.length_map] at *;simp only [*,BL,List.length_map];done)|(simp_all [zk,zdl];done)|(simp_all [zk,zdl];omega)|(simp_all [zk,zdl];intros;omega))|(refine ⟨k + 1,⟨by omega,?_⟩,tD,tS,tH⟩;first|(simp only [zdl,BL,List.length_map] at *;simp only [*,BL,List.length_map];done)|(simp_all [zdl];done)|(simp_all [zdl];omega)|(simp_all [zdl];intros;omega))|(trace "LEND";trace_state)
 ·rw [drop_end (by omega)] at hr
  repeat' (first|refine sK ?_|refine sC (fun _=>?_) (fun _=>?_)|fail)
  refine zJ (fun k:Nat=>[(1,.pv (.ptr (zH g) 0)),(4,.pv (pi k))]) (fun _=>[]) (fun k=>k≤g.methods.length∧zaq g=(g.methods.drop k).any zcg) (fun k=>g.methods.length - k) 0 ⟨by simp,by simp_all⟩ (tS) tH ?_
  clear hk hr hlt
  rintro k ⟨hk,hr⟩
  by_cases hlt:k < g.methods.length
  ·have he:=yu (f:=yL) hlt
   rw [WS hlt] at hr
   repeat' (first|(refine shX ?_;first|refine qX he ?_)|refine sK ?_|refine sC (fun _=>?_) (fun _=>?_)|fail)
   all_goals first|(refine retq rfl ?_;first|(simp only [zk,zcg,BL,List.length_map] at *;simp only [*,BL,List.length_map];done)|(simp_all [zk,zcg];done)|(simp_all [zk,zcg];omega)|(simp_all [zk,zcg];intros;omega))|(refine ⟨k + 1,⟨by omega,?_⟩,tD,tS,tH⟩;first|(simp only [zcg,BL,List.length_map] at *;simp only [*,BL,List.length_map];done)|(simp_all [zcg];done)|(simp_all [zcg];omega)|(simp_all [zcg];intros;omega))|(trace "LEND";trace_state)
  ·rw [drop_end (by omega)] at hr
   repeat' (first|refine sK ?_|refine sC (fun _=>?_) (fun _=>?_)|fail)
   all_goals first|(refine retq rfl ?_;first|(simp only [zk,BL,List.length_map] at *;simp only [*,BL,List.length_map];done)|(simp_all [zk];done)|(simp_all [zk];omega)|(simp_all [zk];intros;omega))|(refine ZN rfl ?_;first|(simp only [zk,BL,List.length_map] at *;simp only [*,BL,List.length_map];done)|(simp_all [zk];done)|(simp_all [zk];omega)|(simp_all [zk];intros;omega))|skip
def zer (g:Img) (i:Nat):Bool :=
 let f:=g.fields.getD i default
 Vm f.name&&decide (0≤f.owner)&&decide (f.owner < g.types.length)&&(i==0||decide ((g.fields.getD (i - 1) default).owner≤f.owner))&&QG f.ty 1 g.types.length
def zb8 (g:Img) (i:Nat):Bool :=
 let m:=g.methods.getD i default
 decide (0≤m.owner)&&decide (m.owner < g.types.length)&&(i==0||decide ((g.methods.getD (i - 1) default).owner≤m.owner))&&qL g m
def yg (g:Img):Bool :=
 decide ((g.types.length:Int)≤32)&&decide ((g.fields.length:Int)≤64)&&decide ((g.methods.length:Int)≤64)&&decide (-1≤g.entry)&&decide (g.entry < g.methods.length)
 && g.types.all (fun t=>qR t g.types.length)&&(List.range g.fields.length).all (zer g)&&(List.range g.methods.length).all (zb8 g)
theorem qF {p:Nat→Bool} {n k:Nat} (h:k < n):((List.range n).drop k).all p=(p k&&((List.range n).drop (k + 1)).all p):=by
 rw [Yl (by simpa using h)];simp
theorem zgQ {p:Nat→Bool} {n k:Nat} (h:k < n):((List.range n).drop k).any p=(p k||((List.range n).drop (k + 1)).any p):=by
 rw [WS (by simpa using h)];simp
theorem zL {α:Type} {d:α} {l:List α} {k:Nat} (h:k < l.length):l.getD k d=l[k]:=by rw [List.getD_eq_getElem?_getD,List.getElem?_eq_getElem h];rfl
theorem zjj {g:Img} (h:(zH g).lenOk):g.types.length≤9223372036854775807∧g.fields.length≤9223372036854775807∧g.methods.length≤9223372036854775807:=by
 simp only [zH,PV.lenOk,lensOk,maxLen,List.length_map] at h
 exact ⟨h.1.1,h.2.1.1,h.2.2.1.1⟩
theorem zkv {g:Img} {k:Nat} (h:k < g.fields.length):zer g k=(Vm g.fields[k].name&&decide (0≤g.fields[k].owner)&&decide (g.fields[k].owner < g.types.length)&&(k==0||decide ((g.fields.getD (k - 1) default).owner≤g.fields[k].owner))&&QG g.fields[k].ty 1 g.types.length):=by
 rw [zer,zL h]
theorem zrJ {g:Img} {k:Nat} (h:k < g.methods.length):zb8 g k=(decide (0≤g.methods[k].owner)&&decide (g.methods[k].owner < g.types.length)&&(k==0||decide ((g.methods.getD (k - 1) default).owner≤g.methods[k].owner))&&qL g g.methods[k]):=by
 rw [zb8,zL h]
set_option maxHeartbeats 1000000 in
theorem zmc (g:Img):ACall Tryz.prog 227 [zH g] (pb (yg g)):=by
 refine zh zf Tryz.func227 rfl (by kernel_rfl) Tryz.ntmps227 (by simp) _ rfl (fun hw gB hgB=>?_)
 obtain ⟨hl1,hl2,hl3⟩:=zjj hw.1
 repeat' (first|refine sA ?_|refine sC (fun _=>?_) (fun _=>?_)|fail)
 all_goals first|(refine retq rfl ?_;first|(simp only [zk,yg,BL,List.length_map] at *;simp only [*,BL,List.length_map];done)|(simp_all [zk,yg];done)|(simp_all [zk,yg];omega)|(simp_all [zk,yg];intros;omega))|(refine ZN rfl ?_;first|(simp only [zk,yg,BL,List.length_map] at *;simp only [*,BL,List.length_map];done)|(simp_all [zk,yg];done)|(simp_all [zk,yg];omega)|(simp_all [zk,yg];intros;omega))|skip
 refine zJ (fun k:Nat=>[(1,.pv (.ptr (zH g) 0)),(3,.pv (pi (g.types.length:Int))),(4,.pv (pi k))]) (fun _=>[]) (fun k=>k≤g.types.length∧yg g=((g.types.drop k).all (fun t=>qR t g.types.length)&&(List.range g.fields.length).all (zer g)&&(List.range g.methods.length).all (zb8 g))) (fun k=>g.types.length - k) 0 ⟨by simp,by simp_all [yg]⟩ (tS) tH ?_
 rintro k ⟨hk,hr⟩
 by_cases hlt:k < g.types.length
 ·have he:=yu (f:=ZA) hlt
  rw [Yl hlt] at hr
  repeat' (first|(refine shC ?_;first|refine qC (zf7 _ _) ?_)|(refine shX ?_;first|refine qX he ?_)|refine sK ?_|refine sC (fun _=>?_) (fun _=>?_)|fail)
  all_goals first|(refine retq rfl ?_;first|(simp only [zk,BL,List.length_map] at *;simp only [*,BL,List.length_map];done)|(simp_all [zk];done)|(simp_all [zk];omega)|(simp_all [zk];intros;omega))|(refine ⟨k + 1,⟨by omega,?_⟩,tD,tS,tH⟩;first|(simp only [BL,List.length_map] at *;simp only [*,BL,List.length_map];done)|(simp_all [];done)|(simp_all [];omega)|(simp_all [];intros;omega))|(trace "LEND";trace_state)
 ·rw [drop_end (by omega)] at hr
  repeat' (first|refine sK ?_|refine sC (fun _=>?_) (fun _=>?_)|fail)
  refine zJ (fun k:Nat=>[(1,.pv (.ptr (zH g) 0)),(3,.pv (pi (g.types.length:Int))),(5,.pv (pi k))]) (fun _=>[]) (fun k=>k≤g.fields.length∧yg g=(((List.range g.fields.length).drop k).all (zer g)&&(List.range g.methods.length).all (zb8 g))) (fun k=>g.fields.length - k) 0 ⟨by simp,by simp_all⟩ (tS) tH ?_
  clear hk hr hlt
  rintro k ⟨hk,hr⟩
  by_cases hlt:k < g.fields.length
  ·have he:=yu (f:=ZK) hlt
   rw [qF hlt,zkv hlt] at hr
   by_cases hk0:k=0
   ·subst hk0
    repeat' (first|(refine shC ?_;first|refine qC (zcW _) ?_|refine qC (za5 _ _ _) ?_)|(refine shX ?_;first|refine qX he ?_)|refine sK ?_|refine sC (fun _=>?_) (fun _=>?_)|fail)
    all_goals first|(refine retq rfl ?_;first|(simp only [zk,BL,List.length_map] at *;simp only [*,BL,List.length_map];done)|(simp_all [zk];done)|(simp_all [zk];omega)|(simp_all [zk];intros;omega))|(refine ⟨0 + 1,⟨by omega,?_⟩,tD,tS,tH⟩;first|(simp only [BL,List.length_map] at *;simp only [*,BL,List.length_map];done)|(simp_all [];done)|(simp_all [];omega)|(simp_all [];intros;omega))|(trace "LEND";trace_state)
   ·have hlp:k - 1 < g.fields.length:=by omega
    have hw1:IntKind.i64.wrap ((k:Int) - 1)=((k - 1:Nat):Int):=by rw [wrap_in (by omega) (by omega)];omega
    have hep:=yu (f:=ZK) hlp
    rw [←hw1] at hep
    rw [zL hlp,beq_eq_false_iff_ne.2 hk0] at hr
    repeat' (first|(refine shC ?_;first|refine qC (zcW _) ?_|refine qC (za5 _ _ _) ?_)|(refine shX ?_;first|refine qX he ?_|refine zB rfl (zl zf rfl rfl rfl rfl rfl rfl (by rw [hw1];omega) hep) rfl rfl ?_|refine AD.step _ _ _ _ _ rfl (zl zf rfl rfl rfl rfl rfl rfl (by rw [hw1];omega) hep) rfl rfl ?_)|refine sK ?_|refine sC (fun _=>?_) (fun _=>?_)|fail)
    all_goals first|(refine retq rfl ?_;first|(simp only [zk,BL,List.length_map] at *;simp only [*,BL,List.length_map];done)|(simp_all [zk];done)|(simp_all [zk];omega)|(simp_all [zk];intros;omega))|(refine ⟨k + 1,⟨by omega,?_⟩,tD,tS,tH⟩;first|(simp only [BL,List.length_map] at *;simp only [*,BL,List.length_map];done)|(simp_all [];done)|(simp_all [];omega)|(simp_all [];intros;omega))|(trace "LEND";trace_state)
  ·rw [drop_end (by simp;omega)] at hr
   repeat' (first|refine sK ?_|refine sC (fun _=>?_) (fun _=>?_)|fail)
   refine zJ (fun k:Nat=>[(1,.pv (.ptr (zH g) 0)),(3,.pv (pi (g.types.length:Int))),(7,.pv (pi k))]) (fun _=>[]) (fun k=>k≤g.methods.length∧yg g=(((List.range g.methods.length).drop k).all (zb8 g))) (fun k=>g.methods.length - k) 0 ⟨by simp,by simp_all⟩ (tS) tH ?_
   clear hk hr hlt
   rintro k ⟨hk,hr⟩
   by_cases hlt:k < g.methods.length
   ·have he:=yu (f:=yL) hlt
    rw [qF hlt,zrJ hlt] at hr
    by_cases hk0:k=0
    ·subst hk0
     repeat' (first|(refine shC ?_;first|refine qC (zaQ _ _) ?_)|(refine shX ?_;first|refine qX he ?_)|refine sK ?_|refine sC (fun _=>?_) (fun _=>?_)|fail)
     all_goals first|(refine retq rfl ?_;first|(simp only [zk,BL,List.length_map] at *;simp only [*,BL,List.length_map];done)|(simp_all [zk];done)|(simp_all [zk];omega)|(simp_all [zk];intros;omega))|(refine ⟨0 + 1,⟨by omega,?_⟩,tD,tS,tH⟩;first|(simp only [BL,List.length_map] at *;simp only [*,BL,List.length_map];done)|(simp_all [];done)|(simp_all [];omega)|(simp_all [];intros;omega))|(trace "LEND";trace_state)
    ·have hlp:k - 1 < g.methods.length:=by omega
     have hw1:IntKind.i64.wrap ((k:Int) - 1)=((k - 1:Nat):Int):=by rw [wrap_in (by omega) (by omega)];omega
     have hep:=yu (f:=yL) hlp
     rw [←hw1] at hep
     rw [zL hlp,beq_eq_false_iff_ne.2 hk0] at hr
     repeat' (first|(refine shC ?_;first|refine qC (zaQ _ _) ?_)|(refine shX ?_;first|refine qX he ?_|refine zB rfl (zl zf rfl rfl rfl rfl rfl rfl (by rw [hw1];omega) hep) rfl rfl ?_|refine AD.step _ _ _ _ _ rfl (zl zf rfl rfl rfl rfl rfl rfl (by rw [hw1];omega) hep) rfl rfl ?_)|refine sK ?_|refine sC (fun _=>?_) (fun _=>?_)|fail)
     all_goals first|(refine retq rfl ?_;first|(simp only [zk,BL,List.length_map] at *;simp only [*,BL,List.length_map];done)|(simp_all [zk];done)|(simp_all [zk];omega)|(simp_all [zk];intros;omega))|(refine ⟨k + 1,⟨by omega,?_⟩,tD,tS,tH⟩;first|(simp only [BL,List.length_map] at *;simp only [*,BL,List.length_map];done)|(simp_all [];done)|(simp_all [];omega)|(simp_all [];intros;omega))|(trace "LEND";trace_state)
   ·rw [drop_end (by simp;omega)] at hr
    repeat' (first|refine sK ?_|refine sC (fun _=>?_) (fun _=>?_)|fail)
    all_goals first|(refine retq rfl ?_;first|(simp only [zk,BL,List.length_map] at *;simp only [*,BL,List.length_map];done)|(simp_all [zk];done)|(simp_all [zk];omega)|(simp_all [zk];intros;omega))|(refine ZN rfl ?_;first|(simp only [zk,BL,List.length_map] at *;simp only [*,BL,List.length_map];done)|(simp_all [zk];done)|(simp_all [zk];omega)|(simp_all [zk];intros;omega))|skip
set_option maxHeartbeats 20000000
def yM (f k:Int):Bool:=(IntKind.i64.wrap (f.tdiv k)).tmod 2==1
theorem ziq (f:Int):ACall Tryz.prog 156 [pi f,pi 2] (pb (yM f 2)):=by
 refine zh zf Tryz.func156 rfl (by kernel_rfl) Tryz.ntmps156 (by simp) _ rfl (fun hw gB hgB=>?_)
 repeat' (first|refine sA ?_|refine sC (fun _=>?_) (fun _=>?_)|fail)
 exact retq rfl rfl
theorem ziT (f:Int):ACall Tryz.prog 156 [pi f,pi 1] (pb (yM f 1)):=by
 refine zh zf Tryz.func156 rfl (by kernel_rfl) Tryz.ntmps156 (by simp) _ rfl (fun hw gB hgB=>?_)
 repeat' (first|refine sA ?_|refine sC (fun _=>?_) (fun _=>?_)|fail)
 exact retq rfl rfl
theorem zoy (f:Int):ACall Tryz.prog 156 [pi f,pi 4] (pb (yM f 4)):=by
 refine zh zf Tryz.func156 rfl (by kernel_rfl) Tryz.ntmps156 (by simp) _ rfl (fun hw gB hgB=>?_)
 repeat' (first|refine sA ?_|refine sC (fun _=>?_) (fun _=>?_)|fail)
 exact retq rfl rfl
theorem ze4 (f:Int):ACall Tryz.prog 156 [pi f,pi 8] (pb (yM f 8)):=by
 refine zh zf Tryz.func156 rfl (by kernel_rfl) Tryz.ntmps156 (by simp) _ rfl (fun hw gB hgB=>?_)
 repeat' (first|refine sA ?_|refine sC (fun _=>?_) (fun _=>?_)|fail)
 exact retq rfl rfl
theorem zg1 (f:Int):ACall Tryz.prog 156 [pi f,pi 16] (pb (yM f 16)):=by
 refine zh zf Tryz.func156 rfl (by kernel_rfl) Tryz.ntmps156 (by simp) _ rfl (fun hw gB hgB=>?_)
 repeat' (first|refine sA ?_|refine sC (fun _=>?_) (fun _=>?_)|fail)
 exact retq rfl rfl
def XV (f:Int):Int:=if yM f 2 then 2 else if yM f 1 then 1 else if yM f 16 then 3 else 0
def typeAt (g:Img) (t:Int):Option TD:=if 0≤t then g.types[t.toNat]? else none
theorem ZM (g:Img) (t:Int):there g t=true↔∃ td,typeAt g t=some td:=by
 simp only [there,typeAt,Bool.and_eq_true,decide_eq_true_eq]
 constructor
 ·rintro ⟨h1,h2⟩
  rw [if_pos h1]
  exact ⟨_,List.getElem?_eq_getElem (by omega)⟩
 ·rintro ⟨td,h⟩
  split at h
  ·rename_i h0
   have:=(List.getElem?_eq_some_iff.1 h).1
   omega
  ·cases h
theorem qA {g:Img} {t:Int} {td:TD} (h:typeAt g t=some td):0≤t∧(g.types.map ZA)[t.toNat]?=some (ZA td):=by
 unfold typeAt at h
 split at h
 ·rename_i h0;exact ⟨h0,by simp [h]⟩
 ·cases h
def zN (g:Img) (t:Int):Int:=match typeAt g t with|some td=>XV td.flags|none => -1
theorem qZ (g:Img) (t:Int):ACall Tryz.prog 106 [zH g,pi t] (pi (zN g t)):=by
 refine zh zf Tryz.func106 rfl (by kernel_rfl) Tryz.ntmps106 (by simp) _ rfl (fun hw gB hgB=>?_)
 by_cases h:there g t=true
 ·have c1:ACall Tryz.prog 155 [zH g,pi t] (pb true):=by rw [←h];exact YF g t
  obtain ⟨td,htd⟩:=(ZM g t).1 h
  obtain ⟨h0,he⟩:=qA htd
  repeat' (first|(refine shC ?_;first|refine qC c1 ?_|refine qC (ziq _) ?_|refine qC (ziT _) ?_|refine qC (zg1 _) ?_)|(refine shX ?_;first|refine zB rfl (zl zf rfl rfl rfl rfl rfl rfl h0 he) rfl rfl ?_|refine AD.step _ _ _ _ _ rfl (zl zf rfl rfl rfl rfl rfl rfl h0 he) rfl rfl ?_)|refine sA ?_|refine sC (fun _=>?_) (fun _=>?_)|fail)
  all_goals (refine retq rfl ?_)
  all_goals (simp_all [zN,XV,zk])
 ·have c1:ACall Tryz.prog 155 [zH g,pi t] (pb false):=by rw [←Bool.eq_false_iff.2 h];exact YF g t
  have hn:typeAt g t=none:=by
   cases e:typeAt g t with
   | none=>rfl
   | some td=>exact (h ((ZM g t).2 ⟨td,e⟩)).elim
  repeat' (first|(refine shC ?_;first|refine qC c1 ?_)|refine sA ?_|refine sC (fun _=>?_) (fun _=>?_)|fail)
  exact retq rfl (by simp [zk,zN,hn])
def qK (f k:Int):Bool:=IntKind.i64.wrap ((BitVec.ofInt IntKind.i64.bits f &&& BitVec.ofInt IntKind.i64.bits k).toNat:Int) != 0
def zfq (f:Int):Int:=if qK f 2 then 2 else if qK f 1 then 1 else if qK f 16 then 3 else 0
def Yt (g:Img) (t:Int):Int:=match typeAt g t with|some td=>zfq td.flags|none => -1
theorem zeU (td:TD):ACall Tryz.prog 98 [ZA td] (pi (zfq td.flags)):=by
 refine zh zf Tryz.func98 rfl (by kernel_rfl) Tryz.ntmps98 (by simp) _ rfl (fun hw gB hgB=>?_)
 repeat' (first|refine sA ?_|refine sC (fun _=>?_) (fun _=>?_)|fail)
 all_goals (refine retq rfl ?_)
 all_goals (simp_all [zfq,qK,zk])
theorem Qz (g:Img) (t:Int):ACall Tryz.prog 58 [zH g,pi t] (pi (Yt g t)):=by
 refine zh zf Tryz.func58 rfl (by kernel_rfl) Tryz.ntmps58 (by simp) _ rfl (fun hw gB hgB=>?_)
 by_cases h:there g t=true
 ·have c1:ACall Tryz.prog 97 [zH g,pi t] (pb true):=by rw [←h];exact YV g t
  obtain ⟨td,htd⟩:=(ZM g t).1 h
  obtain ⟨h0,he⟩:=qA htd
  repeat' (first|(refine shC ?_;first|refine qC c1 ?_|refine qC (zeU td) ?_)|(refine shX ?_;first|refine zB rfl (zl zf rfl rfl rfl rfl rfl rfl h0 he) rfl rfl ?_|refine AD.step _ _ _ _ _ rfl (zl zf rfl rfl rfl rfl rfl rfl h0 he) rfl rfl ?_)|refine sA ?_|refine sC (fun _=>?_) (fun _=>?_)|fail)
  exact retq rfl (by simp [zk,Yt,htd])
 ·have c1:ACall Tryz.prog 97 [zH g,pi t] (pb false):=by rw [←Bool.eq_false_iff.2 h];exact YV g t
  have hn:typeAt g t=none:=by
   cases e:typeAt g t with
   | none=>rfl
   | some td=>exact (h ((ZM g t).2 ⟨td,e⟩)).elim
  repeat' (first|(refine shC ?_;first|refine qC c1 ?_)|refine sA ?_|refine sC (fun _=>?_) (fun _=>?_)|fail)
  exact retq rfl (by simp [zk,Yt,hn])
end Go.Cg
namespace Go.Cg
theorem Zu:∀ (n:Nat) (l:List Int),l.Nodup→(∀ x∈l,0≤x∧x < n)→l.length≤n
 | 0,l,_,h=>by
  cases l with
  | nil=>simp
  | cons x l=>have:=h x (by simp);omega
 | n + 1,l,hd,h=>by
  by_cases hm:(n:Int)∈l
  ·have h1:=Zu n (l.erase n) (hd.erase _) (fun x hx=>by
    rw [hd.mem_erase_iff] at hx
    have:=h x hx.2
    omega)
   rw [List.length_erase_of_mem hm] at h1
   omega
  ·have:=Zu n l hd (fun x hx=>by
    have:=h x hx
    have hne:x≠n:=by rintro rfl;exact hm hx
    omega)
   omega
end Go.Cg
namespace Go.Cg
open Go.Proofs
def zba (g:Img):Nat→Int→List Int→List Int
 | 0,_,out=>out
 | n + 1,t,out=>match typeAt g t with
  | some td=>if t∈out then out else zba g n td.ext (out++[t])
  | none=>out
def up (g:Img) (t:Int):List Int:=zba g (g.types.length + 1) t []
def UpInv (g:Img) (t0:Int) (x:Int × List Int):Prop:=zba g (g.types.length + 1 - x.2.length) x.1 x.2=up g t0∧x.2.Nodup∧∀ y∈x.2,0≤y∧y < g.types.length
theorem Wh {g:Img} {t:Int} {td:TD} (h:typeAt g t=some td):0≤t∧t < g.types.length:=by
 unfold typeAt at h
 split at h
 ·have:=(List.getElem?_eq_some_iff.1 h).1;omega
 ·cases h
theorem UpInv.len {g:Img} {t0:Int} {x:Int × List Int} (h:UpInv g t0 x):x.2.length≤g.types.length:=Zu _ _ h.2.1 h.2.2
theorem UpInv.next {g:Img} {t0:Int} {t:Int} {out:List Int} {td:TD} (h:UpInv g t0 (t,out)) (ht:typeAt g t=some td) (hn:t∉out):UpInv g t0 (td.ext,out++[t]):=by
 have hl:=h.len
 obtain ⟨h1,h2,h3⟩:=h
 simp only at h1 h2 h3 hl
 rw [show g.types.length + 1 - out.length=(g.types.length + 1 - (out++[t]).length) + 1 by simp;omega,zba,ht] at h1
 simp only [hn,if_false] at h1
 refine ⟨h1,?_,?_⟩
 ·rw [List.nodup_append];simp [h2];intro a ha e;subst e;exact hn ha
 ·intro y hy
  simp only [List.mem_append,List.mem_singleton] at hy
  rcases hy with hy|rfl
  ·exact h3 y hy
  ·exact Wh ht
theorem UpInv.stop {g:Img} {t0:Int} {t:Int} {out:List Int} (h:UpInv g t0 (t,out)) (hs:typeAt g t=none∨t∈out):out=up g t0:=by
 have hl:=h.len
 obtain ⟨h1,h2,h3⟩:=h
 simp only at h1 h2 h3 hl
 rw [show g.types.length + 1 - out.length=(g.types.length - out.length) + 1 by omega,zba] at h1
 cases ht:typeAt g t with
 | none=>rw [ht] at h1;exact h1
 | some td =>
  rcases hs with hs|hs
  ·rw [ht] at hs;cases hs
  ·rw [ht] at h1;simpa [hs] using h1
set_option maxHeartbeats 1000000 in
theorem Xz (g:Img) (t:Int) (hg:g.types.length≤1000):ACall Tryz.prog 111 [zH g,pi t] (ints (up g t)):=by
 refine zh zf Tryz.func111 rfl (by kernel_rfl) Tryz.ntmps111 (by simp) _ rfl (fun hw gB hgB=>?_)
 repeat' (first|refine sA ?_|refine sC (fun _=>?_) (fun _=>?_)|fail)
 refine qY (t:=5) 0 3 1 (by decide) rfl rfl ?_
 refine zJ (fun x:Int × List Int=>[(1,.pv (pi x.1)),(2,.pv (.ptr (zH g) 0)),(5,.own 0)]) (fun x=>[(0,.row 3 1 (x.2.map pi))]) (UpInv g t) (fun x=>g.types.length + 1 - x.2.length) (t,[]) ⟨rfl,by simp,by simp⟩ (tS) ⟨zT rfl zK,rfl⟩ ?_
 rintro ⟨t',out⟩ hi
 have hlen:=hi.len
 simp only at hlen
 cases ht:typeAt g t' with
 | none =>
  have hth:there g t'=false:=by
   cases hh:there g t' with
   | false=>rfl
   | true=>obtain ⟨td,h⟩:=(ZM g t').1 hh;rw [ht] at h;cases h
  have c1:ACall Tryz.prog 155 [zH g,pi t'] (pb false):=by rw [←hth];exact YF g t'
  repeat' (first|(refine shC ?_;first|refine qC c1 ?_)|refine sK ?_|refine sC (fun _=>?_) (fun _=>?_)|fail)
  exact retq rfl (by rw [←hi.stop (.inl ht)];rfl)
 | some td =>
  have hth:there g t'=true:=(ZM g t').2 ⟨td,ht⟩
  have c1:ACall Tryz.prog 155 [zH g,pi t'] (pb true):=by rw [←hth];exact YF g t'
  obtain ⟨h0,he⟩:=qA ht
  by_cases hm:t'∈out
  ·have c2:ACall Tryz.prog 110 [ints out,pi t'] (pb true):=by have:=Qu out t';rwa [decide_eq_true hm] at this
   repeat' (first|(refine shC ?_;first|refine qC c1 ?_|refine qC c2 ?_)|refine sK ?_|refine sC (fun _=>?_) (fun _=>?_)|fail)
   exact retq rfl (by rw [←hi.stop (.inr hm)];rfl)
  ·have c2:ACall Tryz.prog 110 [ints out,pi t'] (pb false):=by have:=Qu out t';rwa [decide_eq_false hm] at this
   have hnx:=hi.next ht hm
   repeat' (first|(refine shC ?_;first|refine qC c1 ?_|refine qC c2 ?_)|(refine shX ?_;first|refine zB rfl (zl zf rfl rfl rfl rfl rfl rfl h0 he) rfl rfl ?_|refine AD.step _ _ _ _ _ rfl (zl zf rfl rfl rfl rfl rfl rfl h0 he) rfl rfl ?_)|(refine yH ?_;first|refine yU zf rfl rfl rfl rfl rfl rfl rfl (by show _ * 8≤_;simp;omega) (by simp;omega) rfl rfl ?_)|refine sK ?_|refine sC (fun _=>?_) (fun _=>?_)|fail)
   refine ⟨(td.ext,out++[t']),hnx,by simp;omega,tS,⟨qG rfl (by simp) zK,rfl⟩⟩
theorem zlA {g:Img}:∀ (n:Nat) (t:Int) (out:List Int),out.Nodup→(∀ y∈out,0≤y∧y < g.types.length)→(zba g n t out).Nodup∧∀ y∈zba g n t out,0≤y∧y < g.types.length
 | 0,t,out,h1,h2=>⟨h1,h2⟩
 | n + 1,t,out,h1,h2=>by
  rw [zba]
  cases ht:typeAt g t with
  | none=>exact ⟨h1,h2⟩
  | some td =>
   by_cases hm:t∈out
   ·simp only [hm,if_true];exact ⟨h1,h2⟩
   ·simp only [hm,if_false]
    refine zlA n td.ext (out++[t]) ?_ ?_
    ·rw [List.nodup_append];simp [h1];intro a ha e;subst e;exact hm ha
    ·intro y hy
     simp only [List.mem_append,List.mem_singleton] at hy
     rcases hy with hy|rfl
     ·exact h2 y hy
     ·exact Wh ht
theorem XY (g:Img) (t:Int):(up g t).Nodup∧∀ y∈up g t,0≤y∧y < g.types.length:=zlA _ t [] (by simp) (by simp)
theorem ZX {g:Img} {t:Int} (h:0≤t∧t < g.types.length):∃ td,typeAt g t=some td :=
 ⟨_,by rw [typeAt,if_pos h.1];exact List.getElem?_eq_getElem (by omega)⟩
def yQ (g:Img) (u:Int):List Int:=match typeAt g u with|some td=>td.faces|none=>[]
def za9 (g:Img) (met:List Int) (f:Int):List Int:=if there g f=true∧f∉met then met++[f] else met
def MInv (g:Img) (met:List Int):Prop:=met.Nodup∧∀ y∈met,0≤y∧y < g.types.length
theorem MInv.len {g:Img} {met:List Int} (h:MInv g met):met.length≤g.types.length:=Zu _ _ h.1 h.2
theorem zrm {g:Img} {t:Int} (h:there g t=true):0≤t∧t < g.types.length:=by
 obtain ⟨td,h⟩:=(ZM g t).1 h;exact Wh h
theorem MInv.add {g:Img} {met:List Int} (h:MInv g met) (f:Int):MInv g (za9 g met f):=by
 unfold za9
 split
 ·rename_i hc
  refine ⟨?_,?_⟩
  ·rw [List.nodup_append];simp [h.1];intro a ha e;subst e;exact hc.2 ha
  ·intro y hy
   simp only [List.mem_append,List.mem_singleton] at hy
   rcases hy with hy|rfl
   ·exact h.2 y hy
   ·exact zrm hc.1
 ·exact h
def Vx (g:Img) (met:List Int) (u:Int):List Int:=(yQ g u).foldl (za9 g) met
def zrl (g:Img) (t:Int):List Int:=(up g t).foldl (Vx g) []
def ziy (g:Img):Nat→Nat→List Int→List Int
 | 0,_,met=>met
 | n + 1,i,met=>match met[i]? with|some u=>ziy g n (i + 1) (Vx g met u)|none=>met
def znl (g:Img) (t:Int):List Int:=ziy g (g.types.length + 1) 0 (zrl g t)
def nums (n:Nat):List Int:=(List.range n).map fun i:Nat=>(i:Int)
def Zz (g:Img) (t:Int):List Int:=(nums g.types.length).filter fun f=>decide (f∈znl g t)
theorem Xl {α β:Type} {f:β→α→β} {l:List α} {k:Nat} {b:β} (h:k < l.length):(l.drop k).foldl f b=(l.drop (k + 1)).foldl f (f b l[k]):=by rw [drop_cons h];rfl
theorem zrn {g:Img} {met:List Int} {f:Int} {i:Nat} (h:i < met.length):i < (za9 g met f).length:=by
 unfold za9;split
 ·simp;omega
 ·exact h
theorem zq0 {g:Img} {met:List Int} {f:Int} {i:Nat} {x:Int} (h:i < met.length) (hx:met[i]?=some x):(za9 g met f)[i]?=some x:=by
 unfold za9;split
 ·rw [List.getElem?_append_left h];exact hx
 ·exact hx
set_option maxHeartbeats 1000000 in
theorem zaF (g:Img) (t:Int) (hg:g.types.length≤1000) (hfc:∀ td∈g.types,td.faces.length≤1000):ACall Tryz.prog 112 [zH g,pi t] (ints (Zz g t)):=by
 refine zh zf Tryz.func112 rfl (by kernel_rfl) Tryz.ntmps112 (by simp) _ rfl (fun hw gB hgB=>?_)
 have hui:=XY g t
 have hul:=Zu _ _ hui.1 hui.2
 repeat' (first|(refine shC ?_;first|refine qC (Xz g t hg) ?_)|refine sA ?_|refine sC (fun _=>?_) (fun _=>?_)|fail)
 refine qY (t:=5) 0 3 1 (by decide) rfl rfl ?_
 refine zJ (fun x:Nat × List Int=>[(2,.pv (.ptr (zH g) 0)),(5,.own 0),(6,.pv (ints (up g t))),(7,.pv (pi x.1))]) (fun x=>[(0,.row 3 1 (x.2.map pi))])
  (fun x=>x.1≤(up g t).length∧MInv g x.2∧((up g t).drop x.1).foldl (Vx g) x.2=zrl g t) (fun x=>(up g t).length - x.1) (0,[]) ⟨by simp,⟨by simp,by simp⟩,rfl⟩ (tS) ⟨zT rfl zK,rfl⟩ ?_
 rintro ⟨i,met⟩ ⟨hi,hmi,hr⟩
 simp only at hi hmi hr
 by_cases hlt:i < (up g t).length
 ·have heU:=qB hlt
  obtain ⟨td,htd⟩:=ZX (hui.2 _ (List.getElem_mem hlt))
  obtain ⟨h0,heT⟩:=qA htd
  have hfl:td.faces.length≤1000:=hfc td (by have:=htd;rw [typeAt,if_pos h0] at this;exact List.mem_of_getElem? this)
  rw [Xl hlt,show Vx g met (up g t)[i]=td.faces.foldl (za9 g) met by rw [Vx,yQ,htd]] at hr
  repeat' (first|refine sK ?_|refine sC (fun _=>?_) (fun _=>?_)|fail)
  refine zJ (fun x:Nat × List Int=>[(2,.pv (.ptr (zH g) 0)),(5,.own 0),(6,.pv (ints (up g t))),(7,.pv (pi i)),(8,.pv (pi x.1))]) (fun x=>[(0,.row 3 1 (x.2.map pi))])
   (fun x=>x.1≤td.faces.length∧MInv g x.2∧(td.faces.drop x.1).foldl (za9 g) x.2=td.faces.foldl (za9 g) met) (fun x=>td.faces.length - x.1) (0,met) ⟨by simp,hmi,rfl⟩ (tS) ⟨zT rfl zK,rfl⟩ ?_
  rintro ⟨k,met'⟩ ⟨hk,hmi',hr'⟩
  simp only at hk hmi' hr'
  by_cases hltk:k < td.faces.length
  ·have heF:=qB hltk
   rw [Xl hltk] at hr'
   have hml:=hmi'.len
   repeat' (first|(refine shC ?_;first|refine qC (YF _ _) ?_|refine qC (Qu _ _) ?_)|(refine shX ?_;first|refine qX heU ?_|refine zB rfl (zl zf rfl rfl rfl rfl rfl rfl h0 heT) rfl rfl ?_|refine AD.step _ _ _ _ _ rfl (zl zf rfl rfl rfl rfl rfl rfl h0 heT) rfl rfl ?_|refine qX heF ?_)|(refine yH ?_;first|refine yU zf rfl rfl rfl rfl rfl rfl rfl (by show _ * 8≤_;simp;omega) (by simp;omega) rfl rfl ?_)|refine sK ?_|refine sC (fun _=>?_) (fun _=>?_)|fail)
   all_goals refine ⟨(k + 1,za9 g met' td.faces[k]),⟨hltk,hmi'.add _,hr'⟩,tD,tS,⟨qG rfl ?_ zK,rfl⟩⟩
   all_goals simp_all [za9]
  ·rw [drop_end (by omega)] at hr'
   repeat' (first|(refine shX ?_;first|refine qX heU ?_|refine zB rfl (zl zf rfl rfl rfl rfl rfl rfl h0 heT) rfl rfl ?_|refine AD.step _ _ _ _ _ rfl (zl zf rfl rfl rfl rfl rfl rfl h0 heT) rfl rfl ?_)|refine sK ?_|refine sC (fun _=>?_) (fun _=>?_)|fail)
   refine ⟨(i + 1,met'),⟨hlt,hmi',by rw [←hr,←hr'];rfl⟩,tD,tS,⟨qG rfl rfl zK,rfl⟩⟩
 ·rw [drop_end (by omega)] at hr
  repeat' (first|refine sK ?_|refine sC (fun _=>?_) (fun _=>?_)|fail)
  obtain rfl:met=zrl g t:=hr
  refine zJ (fun x:Nat × List Int=>[(2,.pv (.ptr (zH g) 0)),(5,.own 0),(10,.pv (pi x.1))]) (fun x=>[(0,.row 3 1 (x.2.map pi))])
   (fun x=>x.1≤x.2.length∧MInv g x.2∧ziy g (g.types.length + 1 - x.1) x.1 x.2=znl g t) (fun x=>g.types.length + 1 - x.1) (0,zrl g t) ⟨by simp,hmi,rfl⟩ (tS) ⟨zT rfl zK,rfl⟩ ?_
  clear hi hmi hlt
  rintro ⟨i,met⟩ ⟨hi,hmi,hr⟩
  simp only at hi hmi hr
  have hml:=hmi.len
  rw [show g.types.length + 1 - i=(g.types.length - i) + 1 by omega,ziy] at hr
  by_cases hlt:i < met.length
  ·have heU:=qB hlt
   obtain ⟨td,htd⟩:=ZX (hmi.2 _ (List.getElem_mem hlt))
   obtain ⟨h0,heT⟩:=qA htd
   have hfl:td.faces.length≤1000:=hfc td (by have:=htd;rw [typeAt,if_pos h0] at this;exact List.mem_of_getElem? this)
   rw [List.getElem?_eq_getElem hlt] at hr
   simp only at hr
   rw [show Vx g met met[i]=td.faces.foldl (za9 g) met by rw [Vx,yQ,htd]] at hr
   repeat' (first|refine sK ?_|refine sC (fun _=>?_) (fun _=>?_)|fail)
   refine zJ (fun x:Nat × List Int=>[(2,.pv (.ptr (zH g) 0)),(5,.own 0),(10,.pv (pi i)),(11,.pv (pi x.1))]) (fun x=>[(0,.row 3 1 (x.2.map pi))])
    (fun x=>x.1≤td.faces.length∧MInv g x.2∧(td.faces.drop x.1).foldl (za9 g) x.2=td.faces.foldl (za9 g) met∧i < x.2.length∧x.2[i]?=some met[i]) (fun x=>td.faces.length - x.1) (0,met) ⟨by simp,hmi,rfl,hlt,List.getElem?_eq_getElem hlt⟩ (tS) ⟨zT rfl zK,rfl⟩ ?_
   rintro ⟨k,met'⟩ ⟨hk,hmi',hr',hli',hgi'⟩
   simp only at hk hmi' hr' hli' hgi'
   have heU':=qB hli'
   rw [List.getElem?_eq_getElem hli',Option.some.injEq] at hgi'
   rw [hgi'] at heU'
   by_cases hltk:k < td.faces.length
   ·have heF:=qB hltk
    rw [Xl hltk] at hr'
    have hml:=hmi'.len
    repeat' (first|(refine shC ?_;first|refine qC (YF _ _) ?_|refine qC (Qu _ _) ?_)|(refine shX ?_;first|refine qX heU' ?_|refine zB rfl (zl zf rfl rfl rfl rfl rfl rfl h0 heT) rfl rfl ?_|refine AD.step _ _ _ _ _ rfl (zl zf rfl rfl rfl rfl rfl rfl h0 heT) rfl rfl ?_|refine qX heF ?_)|(refine yH ?_;first|refine yU zf rfl rfl rfl rfl rfl rfl rfl (by show _ * 8≤_;simp;omega) (by simp;omega) rfl rfl ?_)|refine sK ?_|refine sC (fun _=>?_) (fun _=>?_)|fail)
    all_goals refine ⟨(k + 1,za9 g met' td.faces[k]),⟨hltk,hmi'.add _,hr',zrn hli',zq0 hli' (by rw [List.getElem?_eq_getElem hli',hgi'])⟩,tD,tS,⟨qG rfl ?_ zK,rfl⟩⟩
    all_goals simp_all [za9]
   ·rw [drop_end (by omega)] at hr'
    repeat' (first|(refine shX ?_;first|refine qX heU' ?_|refine zB rfl (zl zf rfl rfl rfl rfl rfl rfl h0 heT) rfl rfl ?_|refine AD.step _ _ _ _ _ rfl (zl zf rfl rfl rfl rfl rfl rfl h0 heT) rfl rfl ?_)|refine sK ?_|refine sC (fun _=>?_) (fun _=>?_)|fail)
    refine ⟨(i + 1,met'),⟨hli',hmi',?_⟩,tD,tS,⟨qG rfl rfl zK,rfl⟩⟩
    simp only
    rw [show g.types.length + 1 - (i + 1)=g.types.length - i by omega,←hr,←hr'];rfl
  ·rw [List.getElem?_eq_none (by omega)] at hr
   obtain rfl:met=znl g t:=hr
   repeat' (first|refine sK ?_|refine sC (fun _=>?_) (fun _=>?_)|fail)
   clear hi hlt
   refine qY (t:=13) 1 3 1 (by decide) rfl rfl ?_
   refine zJ (fun x:Nat × List Int=>[(2,.pv (.ptr (zH g) 0)),(5,.own 0),(13,.own 1),(14,.pv (pi x.1))]) (fun x=>[(0,.row 3 1 ((znl g t).map pi)),(1,.row 3 1 (x.2.map pi))])
    (fun x=>x.1≤g.types.length∧x.2.length≤x.1∧x.2++((nums g.types.length).drop x.1).filter (fun f=>decide (f∈znl g t))=Zz g t) (fun x=>g.types.length - x.1) (0,[]) ⟨by simp,by simp,rfl⟩ (tS) ⟨zT rfl (zT rfl zK),rfl⟩ ?_
   rintro ⟨k,out⟩ ⟨hk,hol,hr⟩
   simp only at hk hol hr
   by_cases hlt:k < g.types.length
   ·rw [drop_cons (by simpa [nums] using hlt),List.filter_cons,show (nums g.types.length)[k]'(by simpa [nums] using hlt)=(k:Int) by simp [nums]] at hr
    repeat' (first|(refine shC ?_;first|refine qC (Qu _ _) ?_)|(refine yH ?_;first|refine yU zf rfl rfl rfl rfl rfl rfl rfl (by show _ * 8≤_;simp;omega) (by simp;omega) rfl rfl ?_)|refine sK ?_|refine sC (fun _=>?_) (fun _=>?_)|fail)
    ·rename_i hx
     simp only at hx
     rw [hx] at hr
     exact ⟨(k + 1,out++[(k:Int)]),⟨by simp;omega,by simp;omega,by simpa using hr⟩,tD,tS,⟨zT rfl (qG rfl (by simp) zK),rfl⟩⟩
    ·rename_i hx
     simp only at hx
     rw [hx] at hr
     exact ⟨(k + 1,out),⟨by simp;omega,by simp;omega,by simpa using hr⟩,tD,tS,⟨zT rfl (qG rfl rfl zK),rfl⟩⟩
   ·rw [drop_end (by simp [nums];omega)] at hr
    repeat' (first|refine sK ?_|refine sC (fun _=>?_) (fun _=>?_)|fail)
    exact retq rfl (by rw [←hr];simp [zk,ints])
end Go.Cg
