/- A part of the walks by abstract values: no statement of its own. -/
import Derived.Test.YtemhfmmhkimhmaaGreatI11
import Derived.Test.YtemhfmmhkimhmaaGreatI9
set_option linter.unusedVariables false
set_option linter.unusedSimpArgs false
namespace Go.Cg
open Go.Proofs
set_option maxHeartbeats 20000000
def zlT (b:UInt8):Bool:=!(decide ((b.toNat:Int) < 33)||decide (126 < (b.toNat:Int)))
def zal (s:ByteArray):Bool:=s.data.toList.all zlT&&(decide (0 < (s.size:Int))&&decide ((s.size:Int)<=24))
theorem zqK {s:ByteArray} (h:(ps s).lenOk):s.size<=9223372036854775807:=by
 simp [PV.lenOk,Xh,maxLen] at h;exact of_decide_eq_true h
theorem ze1 {s:ByteArray} {k:Nat} (h:k < s.size):s[((k:Int)).toNat]?=some (s.data.toList[k]'zwy102):=by
 simp only [Int.toNat_natCast];rw [getElem?_pos s k h];simp [ByteArray.getElem_eq_getElem_data]
theorem zdI (s:ByteArray):ACall Tryz.prog 217 [ps s] (pb (zal s)):=by
 refine zh zf Tryz.func217 rfl zws Tryz.ntmps217 zwy63 _ rfl (fun hw gB hgB=>?_);have hl:=zqK hw.1
 repeat' (first|refine sA ?_|refine sC (fun _=>?_) (fun _=>?_)|fail)
 refine zL (fun k:Nat=>[(0,.pv (ps s)),(3,.pv (pi k))]) (fun _=>[]) (fun k=>k<=s.size/\s.data.toList.all zlT=(s.data.toList.drop k).all zlT) (fun k=>s.size - k) 0 ⟨by simp,by simp⟩ (tS) tH ?_;rintro k ⟨hk,hr⟩;by_cases hlt:k < s.size
 ·have hb:=ze1 hlt;rw [YJ zwy80] at hr
  repeat' (first|(refine shI ?_;first|refine zy rfl (VF zf rfl rfl rfl rfl zwy62 hb) rfl rfl ?_|refine zq rfl (VF zf rfl rfl rfl rfl zwy62 hb) rfl rfl ?_)|refine sK ?_|refine sC (fun _=>?_) (fun _=>?_)|fail)
  all_goals first
   | exact ⟨k + 1,⟨by omega,by simp_all [zlT]⟩,tD,tS,tH⟩
   | (refine ak ?_;simp_all [zn,zal,zlT];done)
 ·rw [drop_end zwy64] at hr
  repeat' (first|refine sK ?_|refine sC (fun _=>?_) (fun _=>?_)|fail)
  all_goals (refine ak ?_;simp_all [zn,zal];done)
def zad (o:Int):Int × Int :=
 if o==1 then (2147483647,-2147483648) else if o==2 then (9223372036854775807,-9223372036854775808) else if o==3 then (11,0) else if o==4 then (6,0) else if o==5 then (159,0)
 else if o==6||o==7 then (63,0) else (0,0)
theorem zrS (o:Int):ACall Tryz.prog 280 [pi o] (.tup [pi (zad o).1,pi (zad o).2]):=by
 refine zh zf Tryz.func280 rfl zws Tryz.ntmps280 zwy63 _ rfl (fun hw gB hgB=>?_)
 repeat' (first|refine sA ?_|refine sC (fun _=>?_) (fun _=>?_)|fail)
 all_goals (refine ak ?_)
 all_goals (simp_all [zn,zad])
set_option maxHeartbeats 20000000
def names06:ByteArray:={ data:=((([110,111,112,32,108,100,97,114,103,32,115,116,97,114,103,32,108,100,97,114,103,97,32,108,100,108,111,99,32,115,116,108,111,99,32,108,100,108,111,99,97,32,108,100,99,52,32,108,100,99,56,32,108,100].append [110,117,108,108,32,100,117,112,32,112,111,112,32,97,100,100,32,115,117,98,32,109,117,108,32,100,105,118,32,114,101,109,32,97,110,100,32,111,114,32,120,111,114,32,115,104,108,32,115,104,114,32,110,101]).append ([103,32,110,111,116,32,97,100,100,111,118,102,32,115,117,98,111,118,102,32,109,117,108,111,118,102,32,99,111,110,118,52,32,99,111,110,118,56,32,99,111,110,118,111,118,102,52,32,99,101,113,32,99,103].append [116,32,99,108,116,32,98,114,32,98,114,116,114,117,101,32,98,114,102,97,108,115,101,32,98,101,113,32,98,103,101,32,98,103,116,32,98,108,101,32,98,108,116,32,98,110,101,32,99,97,108,108,32,99])).append (([97,108,108,118,105,114,116,32,110,101,119,111,98,106,32,114,101,116,32,116,97,105,108,32,108,100,102,108,100,32,115,116,102,108,100,32,108,100,102,108,100,97,32,108,100,115,102,108,100,32,115,116,115,102].append [108,100,32,108,100,115,102,108,100,97,32,108,100,111,98,106,32,115,116,111,98,106,32,105,110,105,116,111,98,106,32,110,101,119,97,114,114,32,108,100,108,101,110,32,108,100,101,108,101,109,32,115,116,101]).append ([108,101,109,32,108,100,101,108,101,109,97,32,98,111,120,32,117,110,98,111,120,32,117,110,98,111,120,97,110,121,32,99,97,115,116,99,108,97,115,115,32,105,115,105,110,115,116,32,108,100,102,116,110,32].append [110,101,119,100,101,108,32,116,104,114,111,119,32,114,101,116,104,114,111,119,32,108,101,97,118,101,32,101,110,100,102,105,110,97,108,108,121,32,101,110,100,102,105,108,116,101,114,32,105,110,32,111,117,116,32]))).toArray }
def operands06:ByteArray:={ data:=([48,52,52,52,51,51,51,49,50,48,48,48,48,48,48,48,48,48,48,48,48,48,48,48,48,48,48,48,48,48,48,48,48,53,53,53,53].append [53,53,53,53,53,54,54,54,48,48,55,55,55,55,55,55,56,56,56,56,48,56,56,56,56,56,56,56,56,54,56,48,48,53,48,48,48,48]).toArray }
def flows06:ByteArray:={ data:=([48,48,48,48,48,48,48,48,48,48,48,48,48,48,48,48,48,48,48,48,48,48,48,48,48,48,48,48,48,48,48,48,48,49,50,50,50].append [50,50,50,50,50,48,48,48,51,48,48,48,48,48,48,48,48,48,48,48,48,48,48,48,48,48,48,48,48,48,48,51,51,52,53,53,48,48]).toArray }
theorem zfI:names06.size=433:=by kernel_rfl
theorem zho:operands06.size=75:=by kernel_rfl
theorem zk8:flows06.size=75:=by kernel_rfl
def zeR (op:Int):Nat->Nat->Nat->Nat->ByteArray
 | 0,_,_,_=>ByteArray.empty
 | m + 1,i,n,from_=>if i < 433 then
   (if ((names06.data.toList.getD i 0).toNat:Int)==32 then (if (n:Int)==op then names06.extract from_ i else zeR op m (i + 1) (n + 1) (i + 1)) else zeR op m (i + 1) n from_) else ByteArray.empty
def zjs (op:Int):ByteArray:=zeR op 434 0 1 0
set_option maxRecDepth 100000 in
theorem zqX (op:Int):ACall Tryz.prog 97 [pi op] (ps (zjs op)):=by
 refine zh zf Tryz.func97 rfl zws Tryz.ntmps97 zwy63 _ rfl (fun hw gB hgB=>?_)
 repeat' (first|refine sA ?_|refine sC (fun _=>?_) (fun _=>?_)|fail)
 refine zL (fun x:Nat × Nat × Nat=>[(0,.pv (pi op)),(5,.pv (pi x.1)),(3,.pv (pi x.2.1)),(4,.pv (pi x.2.2))]) (fun _=>[]) (fun x=>x.1<=433/\x.2.1<=x.1 + 1/\x.2.2<=x.1/\zeR op (434 - x.1) x.1 x.2.1 x.2.2=zjs op) (fun x=>433 - x.1) (0,1,0) ⟨by simp,by simp,by simp,rfl⟩ (tS) tH ?_;rintro ⟨k,n,f⟩ ⟨hk,hn,hf,hr⟩;simp only at hk hn hf hr;rw [show 434 - k=(433 - k) + 1 by omega,zeR] at hr;by_cases hlt:k < 433
 ·have hsz:k < names06.size:=by rw [zfI];exact hlt
  have hb:=ze1 hsz;have hg:names06.data.toList.getD k 0=names06.data.toList[k]'(by simpa using hsz):=by rw [List.getD_eq_getElem?_getD,List.getElem?_eq_getElem (by simpa using hsz)];rfl
  rw [if_pos hlt,hg] at hr;generalize names06.data.toList[k]'(by simpa using hsz)=b at hb hr;clear hg
  repeat' (first|refine zy rfl (znH (s:=names06) (l:=f) (h:=k) zf rfl rfl rfl rfl rfl zwy62 zwy62 (by rw [zfI];omega)) rfl rfl ?_|(refine shI ?_;first|refine zy rfl (VF zf rfl rfl rfl rfl zwy62 hb) rfl rfl ?_|refine zq rfl (VF zf rfl rfl rfl rfl zwy62 hb) rfl rfl ?_)|refine sK ?_|refine sC (fun _=>?_) (fun _=>?_)|fail)
  ·refine ak ?_;simp_all [zn]
  ·have hr2:zeR op (433 - k) (k + 1) (n + 1) (k + 1)=zjs op:=by simp_all
   exact ⟨(k + 1,n + 1,k + 1),⟨by simp;omega,by simp;omega,by simp,by simp only;rw [show 434 - (k + 1)=433 - k by omega];exact hr2⟩,tD,tS,tH⟩
  ·have hr2:zeR op (433 - k) (k + 1) n f=zjs op:=by simp_all
   exact ⟨(k + 1,n,f),⟨by simp;omega,by simp;omega,by simp;omega,by simp only;rw [show 434 - (k + 1)=433 - k by omega];exact hr2⟩,tD,tS,tH⟩
 ·rw [if_neg hlt] at hr
  repeat' (first|refine sK ?_|refine sC (fun _=>?_) (fun _=>?_)|fail)
  rw [<-hr];exact retq rfl rfl
def digit (s:ByteArray) (op:Int):Int:=IntKind.i64.wrap (IntKind.u8.wrap (((s.data.toList.getD (op - 1).toNat 0).toNat:Int) - 48))
def yB (op:Int):Int:=digit operands06 op
def zuJ (op:Int):Int:=digit flows06 op
def zcz (s:ByteArray) (o f:Int):PV:=.agg [ps s,pi o,pi f]
theorem zpa (op:Int) (h:op < 1\/75 < op):ACall Tryz.prog 57 [pi op] (.tup [zcz ByteArray.empty 0 0,pi 3]):=by
 refine zh zf Tryz.func57 rfl zws Tryz.ntmps57 zwy63 _ rfl (fun hw gB hgB=>?_);by_cases h1:op < 1
 ·repeat' (first|refine sK ?_|refine sC (fun _=>?_) (fun _=>?_)|fail)
  all_goals exact retq rfl rfl
 ·have h2:75 < op:=by omega
  repeat' (first|refine sK ?_|refine sC (fun _=>?_) (fun _=>?_)|fail)
  all_goals exact retq rfl rfl
theorem zhQ (op:Int) (h1:1<=op) (h2:op<=75):ACall Tryz.prog 57 [pi op] (.tup [zcz (zjs op) (yB op) (zuJ op),pi 0]):=by
 refine zh zf Tryz.func57 rfl zws Tryz.ntmps57 zwy63 _ rfl (fun hw gB hgB=>?_);have hk1:(op - 1).toNat < operands06.size:=by rw [zho];omega
 have hk2:(op - 1).toNat < flows06.size:=by rw [zk8];omega
 have hw1:IntKind.i64.wrap (op - 1)=(((op - 1).toNat:Nat):Int):=by rw [wrap_in zwy62 zwy62];omega
 have hb1:=ze1 hk1;have hb2:=ze1 hk2;rw [<-hw1] at hb1 hb2
 repeat' (first|refine zfo 13 zws zws zws zwy69 ?_|(refine shC ?_;first|refine qC (zqX op) ?_)|(refine shI ?_;first|refine zy rfl (VF zf rfl rfl rfl rfl zwy62 hb1) rfl rfl ?_|refine zq rfl (VF zf rfl rfl rfl rfl zwy62 hb1) rfl rfl ?_|refine zy rfl (VF zf rfl rfl rfl rfl zwy62 hb2) rfl rfl ?_|refine zq rfl (VF zf rfl rfl rfl rfl zwy62 hb2) rfl rfl ?_)|refine sK ?_|refine sC (fun _=>?_) (fun _=>?_)|fail)
 refine ak ?_;have e1:∀ (s:ByteArray) (h:(op - 1).toNat < s.data.toList.length),s.data.toList.getD (op - 1).toNat 0=s.data.toList[(op - 1).toNat]:=fun s h=>by rw [List.getD_eq_getElem?_getD,List.getElem?_eq_getElem h];rfl
 rw [yB,zuJ,digit,digit,e1 _ (by simpa using hk1),e1 _ (by simpa using hk2)];rfl
def ty0:Ty:=⟨0,0,0,false⟩
def Xa (x:Ins):Int :=
 if x.op < 1\/75 < x.op then 3
 else if (zad (yB x.op)).1 < x.arg\/x.arg < (zad (yB x.op)).2 then 17
 else if yB x.op≠8/\x.t≠ty0 then 17
 else if yB x.op=8/\ZQ x.t 1=false then 17
 else 0
theorem zgV (x:Ins):ACall Tryz.prog 264 [yM x] (pi (Xa x)):=by
 refine zh zf Tryz.func264 rfl zws Tryz.ntmps264 zwy63 _ rfl (fun hw gB hgB=>?_);by_cases hop:x.op < 1\/75 < x.op
 ·repeat' (first|(refine shC ?_;first|refine qC (zpa _ hop) ?_)|refine sA ?_|refine sC (fun _=>?_) (fun _=>?_)|fail)
  exact retq rfl (by simp [zn,Xa,hop])
 ·have hty:=XQ x.t ty0;simp only [ty0] at hty
  repeat' (first|(refine shC ?_;first|refine zy rfl (zJ rfl rfl (zhQ _ zwy62 zwy62)) rfl rfl ?_|refine zq rfl (zJ rfl rfl (zhQ _ zwy62 zwy62)) rfl rfl ?_|refine qC (zrS _) ?_|refine qC (zhW _ _) ?_)|refine sA ?_|refine sC (fun _=>?_) (fun _=>?_)|fail)
  all_goals refine ak ?_
  all_goals simp only [Xa,ty0,if_neg hop]
  all_goals simp_all [zn]
  all_goals (rename_i h)
  ·exact of_decide_eq_false h
  ·rw [if_neg zwy62,if_pos (of_decide_eq_true h)]
set_option maxHeartbeats 20000000
theorem zhR {α:Type} {f:α->PV} {sz:Nat} {l:List α} (h:(PV.slc sz (l.map f) false).lenOk):l.length<=9223372036854775807:=by
 simp [PV.lenOk,maxLen] at h;exact h.1
theorem zS {α:Type} {f:α->PV} {l:List α} {k:Nat} (h:k < l.length):(l.map f)[((k:Int)).toNat]?=some (f l[k]):=by simp [h]
def XK (n:Int) (f:Int):Bool:=decide (0<=f)&&decide (f < n)
def Zm (t:TD) (n:Int):Bool :=
 zal t.name&&decide (0<=t.flags)&&decide (t.flags<=31)&&decide (-1<=t.ext)&&decide (t.ext < n)&&decide ((t.faces.length:Int)<=4)&&t.faces.all (XK n)
theorem zhz (t:TD) (n:Int):ACall Tryz.prog 216 [Zw t,pi n] (pb (Zm t n)):=by
 refine zh zf Tryz.func216 rfl zws Tryz.ntmps216 zwy63 _ rfl (fun hw gB hgB=>?_);have hl:t.faces.length<=9223372036854775807:=zdk hw.1.2.2.2.1
 repeat' (first|(refine shC ?_;first|refine qC (zdI _) ?_)|refine sA ?_|refine sC (fun _=>?_) (fun _=>?_)|fail)
 all_goals first|(refine ak ?_;first|(simp only [zn,Zm,BL,List.length_map] at *;simp only [*,BL,List.length_map];done)|(simp_all [zn,Zm];done)|(simp_all [zn,Zm];omega)|(simp_all [zn,Zm];intros;omega))|(refine Yi rfl ?_;first|(simp only [zn,Zm,BL,List.length_map] at *;simp only [*,BL,List.length_map];done)|(simp_all [zn,Zm];done)|(simp_all [zn,Zm];omega)|(simp_all [zn,Zm];intros;omega))|skip
 refine zL (fun k:Nat=>[(1,.pv (pi n)),(2,.pv (.ptr (Zw t) 0)),(5,.pv (pi k))]) (fun _=>[]) (fun k=>k<=t.faces.length/\Zm t n=(t.faces.drop k).all (XK n)) (fun k=>t.faces.length - k) 0 ⟨by simp,by simp_all [Zm]⟩ (tS) tH ?_;rintro k ⟨hk,hr⟩;by_cases hlt:k < t.faces.length
 ·have he:=qI hlt;rw [YJ hlt] at hr
  repeat' (first|(refine shX ?_;first|refine qX he ?_)|refine sK ?_|refine sC (fun _=>?_) (fun _=>?_)|fail)
  all_goals first|(refine ak ?_;first|(simp only [zn,XK,BL,List.length_map] at *;simp only [*,BL,List.length_map];done)|(simp_all [zn,XK];done)|(simp_all [zn,XK];omega)|(simp_all [zn,XK];intros;omega))|(refine ⟨k + 1,⟨by omega,?_⟩,tD,tS,tH⟩;first|(simp only [XK,BL,List.length_map] at *;simp only [*,BL,List.length_map];done)|(simp_all [XK];done)|(simp_all [XK];omega)|(simp_all [XK];intros;omega))|(trace "LEND";trace_state)
 ·rw [drop_end zwy62] at hr
  repeat' (first|refine sK ?_|refine sC (fun _=>?_) (fun _=>?_)|fail)
  all_goals first|(refine ak ?_;first|(simp only [zn,BL,List.length_map] at *;simp only [*,BL,List.length_map];done)|(simp_all [zn];done)|(simp_all [zn];omega)|(simp_all [zn];intros;omega))|(refine Yi rfl ?_;first|(simp only [zn,BL,List.length_map] at *;simp only [*,BL,List.length_map];done)|(simp_all [zn];done)|(simp_all [zn];omega)|(simp_all [zn];intros;omega))|skip
def codeOk (g:Img) (m:Me) (x:Ins):Bool:=Xa x==0 &&
 (if yB x.op==5 then decide (x.arg < (m.code.length:Int)) else if yB x.op==6 then decide (x.arg < (g.methods.length:Int))
  else if yB x.op==7 then decide (x.arg < (g.fields.length:Int)) else if yB x.op==8 then zgt x.t g.types.length else true)
theorem zkC {x:Ins} (h:(Xa x != 0)=false):1<=x.op/\x.op<=75:=by
 simp [Xa] at h;by_cases h1:x.op < 1\/75 < x.op
 ·simp [h1] at h
 ·omega
def zbl (t:Ty):Bool:=(t.kind==0&&(t.index==0&&(t.dims==0&&(t.ref==false&&true))))
def Zo (g:Img) (c:Cl):Bool:=!((c.kind==1&&!Xv c.t 1 g.types.length)||(c.kind != 1&&!zbl c.t))
def Zv (g:Img) (m:Me):Bool:=decide ((m.code.length:Int)<=160)&&m.code.all (codeOk g m)&&m.clauses.all (Zo g)&&XZ m.code.length m.clauses
theorem zhB (m:Me) (g:Img):ACall Tryz.prog 248 [zY m,zK g] (pb (Zv g m)):=by
 refine zh zf Tryz.func248 rfl zws Tryz.ntmps248 zwy63 _ rfl (fun hw gB hgB=>?_);have hl1:m.code.length<=9223372036854775807:=zhR (f:=yM) (sz:=6) (by have:=hw.1;simp only [zY,PV.lenOk,lensOk] at this ⊢;simp_all);have hl2:m.clauses.length<=9223372036854775807:=zhR (f:=qR) (sz:=10) (by have:=hw.1;simp only [zY,PV.lenOk,lensOk] at this ⊢;simp_all)
 repeat' (first|refine sA ?_|refine sC (fun _=>?_) (fun _=>?_)|fail)
 all_goals first|(refine ak ?_;first|(simp only [zn,Zv,BL,List.length_map] at *;simp only [*,BL,List.length_map];done)|(simp_all [zn,Zv];done)|(simp_all [zn,Zv];omega)|(simp_all [zn,Zv];intros;omega))|(refine Yi rfl ?_;first|(simp only [zn,Zv,BL,List.length_map] at *;simp only [*,BL,List.length_map];done)|(simp_all [zn,Zv];done)|(simp_all [zn,Zv];omega)|(simp_all [zn,Zv];intros;omega))|skip
 refine zL (fun k:Nat=>[(2,.pv (.ptr (zY m) 0)),(3,.pv (.ptr (zK g) 0)),(5,.pv (pi k))]) (fun _=>[]) (fun k=>k<=m.code.length/\Zv g m=((m.code.drop k).all (codeOk g m)&&m.clauses.all (Zo g)&&XZ m.code.length m.clauses)) (fun k=>m.code.length - k) 0 ⟨by simp,by simp_all [Zv]⟩ (tS) tH ?_;rintro k ⟨hk,hr⟩;by_cases hlt:k < m.code.length
 ·have he:=zS (f:=yM) hlt;rw [YJ hlt] at hr;by_cases hf:Xa m.code[k]=0
  ·obtain ⟨h1,h2⟩:=zkC (x:=m.code[k]) (by simp [hf])
   repeat' (first|(refine shC ?_;first|refine qC (zgV _) ?_|refine qC (zhQ _ h1 h2) ?_|refine qC (znm _ _) ?_)|(refine shX ?_;first|refine qX he ?_)|refine sK ?_|refine sC (fun _=>?_) (fun _=>?_)|fail)
   all_goals first|(refine ak ?_;first|(simp only [zn,codeOk,BL,List.length_map] at *;simp only [*,BL,List.length_map];done)|(simp_all [zn,codeOk];done)|(simp_all [zn,codeOk];omega)|(simp_all [zn,codeOk];intros;omega))|(refine ⟨k + 1,⟨by omega,?_⟩,tD,tS,tH⟩;first|(simp only [codeOk,BL,List.length_map] at *;simp only [*,BL,List.length_map];done)|(simp_all [codeOk];done)|(simp_all [codeOk];omega)|(simp_all [codeOk];intros;omega))|(trace "LEND";trace_state)
  ·repeat' (first|(refine shC ?_;first|refine qC (zgV _) ?_)|(refine shX ?_;first|refine qX he ?_)|refine sK ?_|refine sC (fun _=>?_) (fun _=>?_)|fail)
   all_goals first|(refine ak ?_;first|(simp only [zn,codeOk,BL,List.length_map] at *;simp only [*,BL,List.length_map];done)|(simp_all [zn,codeOk];done)|(simp_all [zn,codeOk];omega)|(simp_all [zn,codeOk];intros;omega))|(refine ⟨k + 1,⟨by omega,?_⟩,tD,tS,tH⟩;first|(simp only [codeOk,BL,List.length_map] at *;simp only [*,BL,List.length_map];done)|(simp_all [codeOk];done)|(simp_all [codeOk];omega)|(simp_all [codeOk];intros;omega))|(trace "LEND";trace_state)
 ·rw [drop_end zwy62] at hr
  repeat' (first|refine sK ?_|refine sC (fun _=>?_) (fun _=>?_)|fail)
  refine zL (fun k:Nat=>[(2,.pv (.ptr (zY m) 0)),(3,.pv (.ptr (zK g) 0)),(9,.pv (pi k))]) (fun _=>[]) (fun k=>k<=m.clauses.length/\Zv g m=((m.clauses.drop k).all (Zo g)&&XZ m.code.length m.clauses)) (fun k=>m.clauses.length - k) 0 ⟨by simp,by simp_all⟩ (tS) tH ?_;clear hk hr hlt;rintro k ⟨hk,hr⟩;by_cases hlt:k < m.clauses.length
  ·have he:=zS (f:=qR) hlt;rw [YJ hlt] at hr
   repeat' (first|(refine shC ?_;first|refine qC (zb7 _ _ _) ?_)|(refine shX ?_;first|refine qX he ?_)|refine sK ?_|refine sC (fun _=>?_) (fun _=>?_)|fail)
   all_goals first|(refine ak ?_;first|(simp only [zn,Zo,zbl,BL,List.length_map] at *;simp only [*,BL,List.length_map];done)|(simp_all [zn,Zo,zbl];done)|(simp_all [zn,Zo,zbl];omega)|(simp_all [zn,Zo,zbl];intros;omega))|(refine ⟨k + 1,⟨by omega,?_⟩,tD,tS,tH⟩;first|(simp only [Zo,zbl,BL,List.length_map] at *;simp only [*,BL,List.length_map];done)|(simp_all [Zo,zbl];done)|(simp_all [Zo,zbl];omega)|(simp_all [Zo,zbl];intros;omega))|(trace "LEND";trace_state)
  ·rw [drop_end zwy62] at hr
   repeat' (first|(refine shC ?_;first|refine qC (zoF _ _) ?_)|refine sK ?_|refine sC (fun _=>?_) (fun _=>?_)|fail)
   all_goals first|(refine ak ?_;first|(simp only [zn,BL,List.length_map] at *;simp only [*,BL,List.length_map];done)|(simp_all [zn];done)|(simp_all [zn];omega)|(simp_all [zn];intros;omega))|(refine Yi rfl ?_;first|(simp only [zn,BL,List.length_map] at *;simp only [*,BL,List.length_map];done)|(simp_all [zn];done)|(simp_all [zn];omega)|(simp_all [zn];intros;omega))|skip
set_option maxHeartbeats 20000000
def yX (g:Img) (m:Me):Bool :=
 zal m.name&&decide (0<=m.flags)&&decide (m.flags<=31)&&decide (0<=m.max)&&decide (m.max<=12)&&decide ((m.params.length:Int)<=6)&&decide ((m.locals.length:Int)<=12)&&Xv m.ret 3 g.types.length
 && m.params.all (fun t=>Xv t 2 g.types.length)&&m.locals.all (fun t=>Xv t 2 g.types.length)&&Zv g m
theorem zbo (m:Me) (g:Img):ACall Tryz.prog 219 [zY m,zK g] (pb (yX g m)):=by
 refine zh zf Tryz.func219 rfl zws Tryz.ntmps219 zwy63 _ rfl (fun hw gB hgB=>?_);have hl1:m.params.length<=9223372036854775807:=zhR (f:=yI) (sz:=4) (by have:=hw.1;simp only [zY,tys,PV.lenOk,lensOk] at this ⊢;simp_all);have hl2:m.locals.length<=9223372036854775807:=zhR (f:=yI) (sz:=4) (by have:=hw.1;simp only [zY,tys,PV.lenOk,lensOk] at this ⊢;simp_all)
 repeat' (first|(refine shC ?_;first|refine qC (zdI _) ?_|refine qC (zb7 _ _ _) ?_)|refine sA ?_|refine sC (fun _=>?_) (fun _=>?_)|fail)
 all_goals first|(refine ak ?_;first|(simp only [zn,yX,BL,List.length_map] at *;simp only [*,BL,List.length_map];done)|(simp_all [zn,yX];done)|(simp_all [zn,yX];omega)|(simp_all [zn,yX];intros;omega))|(refine Yi rfl ?_;first|(simp only [zn,yX,BL,List.length_map] at *;simp only [*,BL,List.length_map];done)|(simp_all [zn,yX];done)|(simp_all [zn,yX];omega)|(simp_all [zn,yX];intros;omega))|skip
 refine zL (fun k:Nat=>[(2,.pv (.ptr (zY m) 0)),(3,.pv (.ptr (zK g) 0)),(5,.pv (pi (g.types.length:Int))),(6,.pv (pi k))]) (fun _=>[]) (fun k=>k<=m.params.length/\yX g m=((m.params.drop k).all (fun t=>Xv t 2 g.types.length)&&m.locals.all (fun t=>Xv t 2 g.types.length)&&Zv g m)) (fun k=>m.params.length - k) 0 ⟨by simp,by simp_all [yX]⟩ (tS) tH ?_;rintro k ⟨hk,hr⟩;by_cases hlt:k < m.params.length
 ·have he:=zS (f:=yI) hlt;rw [YJ hlt] at hr
  repeat' (first|(refine shC ?_;first|refine qC (zb7 _ _ _) ?_)|(refine shX ?_;first|refine qX he ?_)|refine sK ?_|refine sC (fun _=>?_) (fun _=>?_)|fail)
  all_goals first|(refine ak ?_;first|(simp only [zn,BL,List.length_map] at *;simp only [*,BL,List.length_map];done)|(simp_all [zn];done)|(simp_all [zn];omega)|(simp_all [zn];intros;omega))|(refine ⟨k + 1,⟨by omega,?_⟩,tD,tS,tH⟩;first|(simp only [BL,List.length_map] at *;simp only [*,BL,List.length_map];done)|(simp_all [];done)|(simp_all [];omega)|(simp_all [];intros;omega))|(trace "LEND";trace_state)
 ·rw [drop_end zwy62] at hr
  repeat' (first|refine sK ?_|refine sC (fun _=>?_) (fun _=>?_)|fail)
  refine zL (fun k:Nat=>[(2,.pv (.ptr (zY m) 0)),(3,.pv (.ptr (zK g) 0)),(5,.pv (pi (g.types.length:Int))),(7,.pv (pi k))]) (fun _=>[]) (fun k=>k<=m.locals.length/\yX g m=((m.locals.drop k).all (fun t=>Xv t 2 g.types.length)&&Zv g m)) (fun k=>m.locals.length - k) 0 ⟨by simp,by simp_all⟩ (tS) tH ?_;clear hk hr hlt;rintro k ⟨hk,hr⟩;by_cases hlt:k < m.locals.length
  ·have he:=zS (f:=yI) hlt;rw [YJ hlt] at hr
   repeat' (first|(refine shC ?_;first|refine qC (zb7 _ _ _) ?_)|(refine shX ?_;first|refine qX he ?_)|refine sK ?_|refine sC (fun _=>?_) (fun _=>?_)|fail)
   all_goals first|(refine ak ?_;first|(simp only [zn,BL,List.length_map] at *;simp only [*,BL,List.length_map];done)|(simp_all [zn];done)|(simp_all [zn];omega)|(simp_all [zn];intros;omega))|(refine ⟨k + 1,⟨by omega,?_⟩,tD,tS,tH⟩;first|(simp only [BL,List.length_map] at *;simp only [*,BL,List.length_map];done)|(simp_all [];done)|(simp_all [];omega)|(simp_all [];intros;omega))|(trace "LEND";trace_state)
  ·rw [drop_end zwy62] at hr
   repeat' (first|(refine shC ?_;first|refine qC (zhB _ _) ?_)|refine sK ?_|refine sC (fun _=>?_) (fun _=>?_)|fail)
   all_goals first|(refine ak ?_;first|(simp only [zn,BL,List.length_map] at *;simp only [*,BL,List.length_map];done)|(simp_all [zn];done)|(simp_all [zn];omega)|(simp_all [zn];intros;omega))|(refine Yi rfl ?_;first|(simp only [zn,BL,List.length_map] at *;simp only [*,BL,List.length_map];done)|(simp_all [zn];done)|(simp_all [zn];omega)|(simp_all [zn];intros;omega))|skip
def zdF (t:TD):Bool:=!decide ((t.faces.length:Int)<=20)||!decide ((t.name.size:Int)<=100)
def zc2 (m:Me):Bool:=!decide ((m.params.length:Int)<=30)||!decide ((m.locals.length:Int)<=30)||!decide ((m.code.length:Int)<=200)||!decide ((m.clauses.length:Int)<=20)||!decide ((m.name.size:Int)<=100)
def Vb (g:Img):Bool:=!decide ((g.types.length:Int)<=40)||!decide ((g.fields.length:Int)<=80)||!decide ((g.methods.length:Int)<=80)||g.types.any zdF||g.methods.any zc2
theorem zri (g:Img):ACall Tryz.prog 13 [zK g] (pb (Vb g)):=by
 refine zh zf Tryz.func13 rfl zws Tryz.ntmps13 zwy63 _ rfl (fun hw gB hgB=>?_)
 repeat' (first|refine sA ?_|refine sC (fun _=>?_) (fun _=>?_)|fail)
 all_goals first|(refine ak ?_;first|(simp only [zn,Vb,BL,List.length_map] at *;simp only [*,BL,List.length_map];done)|(simp_all [zn,Vb];done)|(simp_all [zn,Vb];omega)|(simp_all [zn,Vb];intros;omega))|(refine Yi rfl ?_;first|(simp only [zn,Vb,BL,List.length_map] at *;simp only [*,BL,List.length_map];done)|(simp_all [zn,Vb];done)|(simp_all [zn,Vb];omega)|(simp_all [zn,Vb];intros;omega))|skip
 refine zL (fun k:Nat=>[(1,.pv (.ptr (zK g) 0)),(3,.pv (pi k))]) (fun _=>[]) (fun k=>k<=g.types.length/\Vb g=((g.types.drop k).any zdF||g.methods.any zc2)) (fun k=>g.types.length - k) 0 ⟨by simp,by simp_all [Vb]⟩ (tS) tH ?_;have ht:g.types.length<=40:=by simp_all;omega
 have hm:g.methods.length<=80:=by simp_all;omega
 rintro k ⟨hk,hr⟩;by_cases hlt:k < g.types.length
 ·have he:=zS (f:=Zw) hlt;rw [VW hlt] at hr
  repeat' (first|(refine shX ?_;first|refine qX he ?_)|refine sK ?_|refine sC (fun _=>?_) (fun _=>?_)|fail)
  all_goals first|(refine ak ?_;first|(simp only [zn,zdF,BL,List.length_map] at *;simp only [*,BL,List.length_map];done)|(simp_all [zn,zdF];done)|(simp_all [zn,zdF];omega)|(simp_all [zn,zdF];intros;omega))|(refine ⟨k + 1,⟨by omega,?_⟩,tD,tS,tH⟩;first|(simp only [zdF,BL,List.length_map] at *;simp only [*,BL,List.length_map];done)|(simp_all [zdF];done)|(simp_all [zdF];omega)|(simp_all [zdF];intros;omega))|(trace "LEND";trace_state)
 ·rw [drop_end zwy62] at hr
  repeat' (first|refine sK ?_|refine sC (fun _=>?_) (fun _=>?_)|fail)
  refine zL (fun k:Nat=>[(1,.pv (.ptr (zK g) 0)),(4,.pv (pi k))]) (fun _=>[]) (fun k=>k<=g.methods.length/\Vb g=(g.methods.drop k).any zc2) (fun k=>g.methods.length - k) 0 ⟨by simp,by simp_all⟩ (tS) tH ?_;clear hk hr hlt;rintro k ⟨hk,hr⟩;by_cases hlt:k < g.methods.length
  ·have he:=zS (f:=zY) hlt;rw [VW hlt] at hr
   repeat' (first|(refine shX ?_;first|refine qX he ?_)|refine sK ?_|refine sC (fun _=>?_) (fun _=>?_)|fail)
   all_goals first|(refine ak ?_;first|(simp only [zn,zc2,BL,List.length_map] at *;simp only [*,BL,List.length_map];done)|(simp_all [zn,zc2];done)|(simp_all [zn,zc2];omega)|(simp_all [zn,zc2];intros;omega))|(refine ⟨k + 1,⟨by omega,?_⟩,tD,tS,tH⟩;first|(simp only [zc2,BL,List.length_map] at *;simp only [*,BL,List.length_map];done)|(simp_all [zc2];done)|(simp_all [zc2];omega)|(simp_all [zc2];intros;omega))|(trace "LEND";trace_state)
  ·rw [drop_end zwy62] at hr
   repeat' (first|refine sK ?_|refine sC (fun _=>?_) (fun _=>?_)|fail)
   all_goals first|(refine ak ?_;first|(simp only [zn,BL,List.length_map] at *;simp only [*,BL,List.length_map];done)|(simp_all [zn];done)|(simp_all [zn];omega)|(simp_all [zn];intros;omega))|(refine Yi rfl ?_;first|(simp only [zn,BL,List.length_map] at *;simp only [*,BL,List.length_map];done)|(simp_all [zn];done)|(simp_all [zn];omega)|(simp_all [zn];intros;omega))|skip
def zcU (g:Img) (i:Nat):Bool :=
 let f:=g.fields.getD i default
 zal f.name&&decide (0<=f.owner)&&decide (f.owner < g.types.length)&&(i==0||decide ((g.fields.getD (i - 1) default).owner<=f.owner))&&Xv f.ty 1 g.types.length
def zaX (g:Img) (i:Nat):Bool :=
 let m:=g.methods.getD i default
 decide (0<=m.owner)&&decide (m.owner < g.types.length)&&(i==0||decide ((g.methods.getD (i - 1) default).owner<=m.owner))&&yX g m
def yh (g:Img):Bool :=
 decide ((g.types.length:Int)<=32)&&decide ((g.fields.length:Int)<=64)&&decide ((g.methods.length:Int)<=64)&&decide (-1<=g.entry)&&decide (g.entry < g.methods.length)
 && g.types.all (fun t=>Zm t g.types.length)&&(List.range g.fields.length).all (zcU g)&&(List.range g.methods.length).all (zaX g)
theorem qM {p:Nat->Bool} {n k:Nat} (h:k < n):((List.range n).drop k).all p=(p k&&((List.range n).drop (k + 1)).all p):=by
 rw [YJ zwy102];simp
theorem zh5 {p:Nat->Bool} {n k:Nat} (h:k < n):((List.range n).drop k).any p=(p k||((List.range n).drop (k + 1)).any p):=by
 rw [VW zwy102];simp
theorem zQ {α:Type} {d:α} {l:List α} {k:Nat} (h:k < l.length):l.getD k d=l[k]:=by rw [List.getD_eq_getElem?_getD,List.getElem?_eq_getElem h];rfl
theorem zlL {g:Img} (h:(zK g).lenOk):g.types.length<=9223372036854775807/\g.fields.length<=9223372036854775807/\g.methods.length<=9223372036854775807:=by
 simp only [zK,PV.lenOk,lensOk,maxLen,List.length_map] at h;exact ⟨h.1.1,h.2.1.1,h.2.2.1.1⟩
theorem zm1 {g:Img} {k:Nat} (h:k < g.fields.length):zcU g k=(zal g.fields[k].name&&decide (0<=g.fields[k].owner)&&decide (g.fields[k].owner < g.types.length)&&(k==0||decide ((g.fields.getD (k - 1) default).owner<=g.fields[k].owner))&&Xv g.fields[k].ty 1 g.types.length):=by
 rw [zcU,zQ h]
theorem ztt {g:Img} {k:Nat} (h:k < g.methods.length):zaX g k=(decide (0<=g.methods[k].owner)&&decide (g.methods[k].owner < g.types.length)&&(k==0||decide ((g.methods.getD (k - 1) default).owner<=g.methods[k].owner))&&yX g g.methods[k]):=by
 rw [zaX,zQ h]
set_option maxHeartbeats 1000000 in
theorem zmn (g:Img):ACall Tryz.prog 193 [zK g] (pb (yh g)):=by
 refine zh zf Tryz.func193 rfl zws Tryz.ntmps193 zwy63 _ rfl (fun hw gB hgB=>?_);obtain ⟨hl1,hl2,hl3⟩:=zlL hw.1
 repeat' (first|refine sA ?_|refine sC (fun _=>?_) (fun _=>?_)|fail)
 all_goals first|(refine ak ?_;first|(simp only [zn,yh,BL,List.length_map] at *;simp only [*,BL,List.length_map];done)|(simp_all [zn,yh];done)|(simp_all [zn,yh];omega)|(simp_all [zn,yh];intros;omega))|(refine Yi rfl ?_;first|(simp only [zn,yh,BL,List.length_map] at *;simp only [*,BL,List.length_map];done)|(simp_all [zn,yh];done)|(simp_all [zn,yh];omega)|(simp_all [zn,yh];intros;omega))|skip
 refine zL (fun k:Nat=>[(1,.pv (.ptr (zK g) 0)),(3,.pv (pi (g.types.length:Int))),(4,.pv (pi k))]) (fun _=>[]) (fun k=>k<=g.types.length/\yh g=((g.types.drop k).all (fun t=>Zm t g.types.length)&&(List.range g.fields.length).all (zcU g)&&(List.range g.methods.length).all (zaX g))) (fun k=>g.types.length - k) 0 ⟨by simp,by simp_all [yh]⟩ (tS) tH ?_;rintro k ⟨hk,hr⟩;by_cases hlt:k < g.types.length
 ·have he:=zS (f:=Zw) hlt;rw [YJ hlt] at hr
  repeat' (first|(refine shC ?_;first|refine qC (zhz _ _) ?_)|(refine shX ?_;first|refine qX he ?_)|refine sK ?_|refine sC (fun _=>?_) (fun _=>?_)|fail)
  all_goals first|(refine ak ?_;first|(simp only [zn,BL,List.length_map] at *;simp only [*,BL,List.length_map];done)|(simp_all [zn];done)|(simp_all [zn];omega)|(simp_all [zn];intros;omega))|(refine ⟨k + 1,⟨by omega,?_⟩,tD,tS,tH⟩;first|(simp only [BL,List.length_map] at *;simp only [*,BL,List.length_map];done)|(simp_all [];done)|(simp_all [];omega)|(simp_all [];intros;omega))|(trace "LEND";trace_state)
 ·rw [drop_end zwy62] at hr
  repeat' (first|refine sK ?_|refine sC (fun _=>?_) (fun _=>?_)|fail)
  refine zL (fun k:Nat=>[(1,.pv (.ptr (zK g) 0)),(3,.pv (pi (g.types.length:Int))),(5,.pv (pi k))]) (fun _=>[]) (fun k=>k<=g.fields.length/\yh g=(((List.range g.fields.length).drop k).all (zcU g)&&(List.range g.methods.length).all (zaX g))) (fun k=>g.fields.length - k) 0 ⟨by simp,by simp_all⟩ (tS) tH ?_;clear hk hr hlt;rintro k ⟨hk,hr⟩;by_cases hlt:k < g.fields.length
  ·have he:=zS (f:=ZI) hlt;rw [qM hlt,zm1 hlt] at hr;by_cases hk0:k=0
   ·subst hk0
    repeat' (first|(refine shC ?_;first|refine qC (zdI _) ?_|refine qC (zb7 _ _ _) ?_)|(refine shX ?_;first|refine qX he ?_)|refine sK ?_|refine sC (fun _=>?_) (fun _=>?_)|fail)
    all_goals first|(refine ak ?_;first|(simp only [zn,BL,List.length_map] at *;simp only [*,BL,List.length_map];done)|(simp_all [zn];done)|(simp_all [zn];omega)|(simp_all [zn];intros;omega))|(refine ⟨0 + 1,⟨by omega,?_⟩,tD,tS,tH⟩;first|(simp only [BL,List.length_map] at *;simp only [*,BL,List.length_map];done)|(simp_all [];done)|(simp_all [];omega)|(simp_all [];intros;omega))|(trace "LEND";trace_state)
   ·have hlp:k - 1 < g.fields.length:=by omega
    have hw1:IntKind.i64.wrap ((k:Int) - 1)=((k - 1:Nat):Int):=by rw [wrap_in zwy62 zwy62];omega
    have hep:=zS (f:=ZI) hlp;rw [<-hw1] at hep;rw [zQ hlp,beq_eq_false_iff_ne.2 hk0] at hr
    repeat' (first|(refine shC ?_;first|refine qC (zdI _) ?_|refine qC (zb7 _ _ _) ?_)|(refine shX ?_;first|refine qX he ?_|refine zy rfl (zk zf rfl rfl rfl rfl rfl rfl zwy95 hep) rfl rfl ?_|refine zq rfl (zk zf rfl rfl rfl rfl rfl rfl zwy95 hep) rfl rfl ?_)|refine sK ?_|refine sC (fun _=>?_) (fun _=>?_)|fail)
    all_goals first|(refine ak ?_;first|(simp only [zn,BL,List.length_map] at *;simp only [*,BL,List.length_map];done)|(simp_all [zn];done)|(simp_all [zn];omega)|(simp_all [zn];intros;omega))|(refine ⟨k + 1,⟨by omega,?_⟩,tD,tS,tH⟩;first|(simp only [BL,List.length_map] at *;simp only [*,BL,List.length_map];done)|(simp_all [];done)|(simp_all [];omega)|(simp_all [];intros;omega))|(trace "LEND";trace_state)
  ·rw [drop_end zwy64] at hr
   repeat' (first|refine sK ?_|refine sC (fun _=>?_) (fun _=>?_)|fail)
   refine zL (fun k:Nat=>[(1,.pv (.ptr (zK g) 0)),(3,.pv (pi (g.types.length:Int))),(7,.pv (pi k))]) (fun _=>[]) (fun k=>k<=g.methods.length/\yh g=(((List.range g.methods.length).drop k).all (zaX g))) (fun k=>g.methods.length - k) 0 ⟨by simp,by simp_all⟩ (tS) tH ?_;clear hk hr hlt;rintro k ⟨hk,hr⟩;by_cases hlt:k < g.methods.length
   ·have he:=zS (f:=zY) hlt;rw [qM hlt,ztt hlt] at hr;by_cases hk0:k=0
    ·subst hk0
     repeat' (first|(refine shC ?_;first|refine qC (zbo _ _) ?_)|(refine shX ?_;first|refine qX he ?_)|refine sK ?_|refine sC (fun _=>?_) (fun _=>?_)|fail)
     all_goals first|(refine ak ?_;first|(simp only [zn,BL,List.length_map] at *;simp only [*,BL,List.length_map];done)|(simp_all [zn];done)|(simp_all [zn];omega)|(simp_all [zn];intros;omega))|(refine ⟨0 + 1,⟨by omega,?_⟩,tD,tS,tH⟩;first|(simp only [BL,List.length_map] at *;simp only [*,BL,List.length_map];done)|(simp_all [];done)|(simp_all [];omega)|(simp_all [];intros;omega))|(trace "LEND";trace_state)
    ·have hlp:k - 1 < g.methods.length:=by omega
     have hw1:IntKind.i64.wrap ((k:Int) - 1)=((k - 1:Nat):Int):=by rw [wrap_in zwy62 zwy62];omega
     have hep:=zS (f:=zY) hlp;rw [<-hw1] at hep;rw [zQ hlp,beq_eq_false_iff_ne.2 hk0] at hr
     repeat' (first|(refine shC ?_;first|refine qC (zbo _ _) ?_)|(refine shX ?_;first|refine qX he ?_|refine zy rfl (zk zf rfl rfl rfl rfl rfl rfl zwy95 hep) rfl rfl ?_|refine zq rfl (zk zf rfl rfl rfl rfl rfl rfl zwy95 hep) rfl rfl ?_)|refine sK ?_|refine sC (fun _=>?_) (fun _=>?_)|fail)
     all_goals first|(refine ak ?_;first|(simp only [zn,BL,List.length_map] at *;simp only [*,BL,List.length_map];done)|(simp_all [zn];done)|(simp_all [zn];omega)|(simp_all [zn];intros;omega))|(refine ⟨k + 1,⟨by omega,?_⟩,tD,tS,tH⟩;first|(simp only [BL,List.length_map] at *;simp only [*,BL,List.length_map];done)|(simp_all [];done)|(simp_all [];omega)|(simp_all [];intros;omega))|(trace "LEND";trace_state)
   ·rw [drop_end zwy64] at hr
    repeat' (first|refine sK ?_|refine sC (fun _=>?_) (fun _=>?_)|fail)
    all_goals first|(refine ak ?_;first|(simp only [zn,BL,List.length_map] at *;simp only [*,BL,List.length_map];done)|(simp_all [zn];done)|(simp_all [zn];omega)|(simp_all [zn];intros;omega))|(refine Yi rfl ?_;first|(simp only [zn,BL,List.length_map] at *;simp only [*,BL,List.length_map];done)|(simp_all [zn];done)|(simp_all [zn];omega)|(simp_all [zn];intros;omega))|skip
def zar (g:Img):Nat->Int->List Int->List Int
 | 0,_,out=>out
 | n + 1,t,out=>match typeAt g t with
  | some td=>if t∈out then out else zar g n td.ext (out++[t])
  | none=>out
def up (g:Img) (t:Int):List Int:=zar g (g.types.length + 1) t []
def UpInv (g:Img) (t0:Int) (x:Int × List Int):Prop:=zar g (g.types.length + 1 - x.2.length) x.1 x.2=up g t0/\x.2.Nodup/\∀ y∈x.2,0<=y/\y < g.types.length
theorem Ve {g:Img} {t:Int} {td:TD} (h:typeAt g t=some td):0<=t/\t < g.types.length:=by
 unfold typeAt at h;split at h
 ·have:=(List.getElem?_eq_some_iff.1 h).1;omega
 ·cases h
theorem UpInv.len {g:Img} {t0:Int} {x:Int × List Int} (h:UpInv g t0 x):x.2.length<=g.types.length:=ZF _ _ h.2.1 h.2.2
theorem UpInv.next {g:Img} {t0:Int} {t:Int} {out:List Int} {td:TD} (h:UpInv g t0 (t,out)) (ht:typeAt g t=some td) (hn:t∉out):UpInv g t0 (td.ext,out++[t]):=by
 have hl:=h.len;obtain ⟨h1,h2,h3⟩:=h;simp only at h1 h2 h3 hl;rw [show g.types.length + 1 - out.length=(g.types.length + 1 - (out++[t]).length) + 1 by simp;omega,zar,ht] at h1;simp only [hn,if_false] at h1;refine ⟨h1,?_,?_⟩
 ·rw [List.nodup_append];simp [h2];intro a ha e;subst e;exact hn ha
 ·intro y hy;simp only [List.mem_append,List.mem_singleton] at hy;rcases hy with hy|rfl
  ·exact h3 y hy
  ·exact Ve ht
theorem UpInv.stop {g:Img} {t0:Int} {t:Int} {out:List Int} (h:UpInv g t0 (t,out)) (hs:typeAt g t=none\/t∈out):out=up g t0:=by
 have hl:=h.len;obtain ⟨h1,h2,h3⟩:=h;simp only at h1 h2 h3 hl;rw [show g.types.length + 1 - out.length=(g.types.length - out.length) + 1 by omega,zar] at h1;cases ht:typeAt g t with
 | none=>rw [ht] at h1;exact h1
 | some td =>
  rcases hs with hs|hs
  ·rw [ht] at hs;cases hs
  ·rw [ht] at h1;simpa [hs] using h1
set_option maxHeartbeats 1000000 in
theorem za3 (g:Img) (t:Int) (hg:g.types.length<=1000):ACall Tryz.prog 94 [zK g,pi t] (ints (up g t)):=by
 refine zh zf Tryz.func94 rfl zws Tryz.ntmps94 zwy63 _ rfl (fun hw gB hgB=>?_)
 repeat' (first|refine sA ?_|refine sC (fun _=>?_) (fun _=>?_)|fail)
 refine Za (t:=5) 0 3 1 zwy69 rfl rfl ?_;refine zL (fun x:Int × List Int=>[(1,.pv (pi x.1)),(2,.pv (.ptr (zK g) 0)),(5,.own 0)]) (fun x=>[(0,.row 3 1 (x.2.map pi))]) (UpInv g t) (fun x=>g.types.length + 1 - x.2.length) (t,[]) ⟨rfl,by simp,by simp⟩ (tS) ⟨aB zC,rfl⟩ ?_;rintro ⟨t',out⟩ hi;have hlen:=hi.len;simp only at hlen;cases ht:typeAt g t' with
 | none =>
  have hth:there g t'=false:=by
   cases hh:there g t' with
   | false=>rfl
   | true=>obtain ⟨td,h⟩:=(Yf g t').1 hh;rw [ht] at h;cases h
  have c1:ACall Tryz.prog 58 [zK g,pi t'] (pb false):=by rw [<-hth];exact Qd g t'
  repeat' (first|(refine shC ?_;first|refine qC c1 ?_)|refine sK ?_|refine sC (fun _=>?_) (fun _=>?_)|fail)
  exact retq rfl (by rw [<-hi.stop (.inl ht)];rfl)
 | some td =>
  have hth:there g t'=true:=(Yf g t').2 ⟨td,ht⟩;have c1:ACall Tryz.prog 58 [zK g,pi t'] (pb true):=by rw [<-hth];exact Qd g t'
  obtain ⟨h0,he⟩:=qN ht;by_cases hm:t'∈out
  ·have c2:ACall Tryz.prog 95 [ints out,pi t'] (pb true):=by have:=XP out t';rwa [decide_eq_true hm] at this
   repeat' (first|(refine shC ?_;first|refine qC c1 ?_|refine qC c2 ?_)|refine sK ?_|refine sC (fun _=>?_) (fun _=>?_)|fail)
   exact retq rfl (by rw [<-hi.stop (.inr hm)];rfl)
  ·have c2:ACall Tryz.prog 95 [ints out,pi t'] (pb false):=by have:=XP out t';rwa [decide_eq_false hm] at this
   have hnx:=hi.next ht hm
   repeat' (first|(refine shC ?_;first|refine qC c1 ?_|refine qC c2 ?_)|(refine shX ?_;first|refine zy rfl (ah h0 he) rfl rfl ?_|refine zq rfl (ah h0 he) rfl rfl ?_)|(refine yj ?_;first|refine yV zf rfl rfl rfl rfl rfl rfl rfl zwy72 zwy64 rfl rfl ?_)|refine sK ?_|refine sC (fun _=>?_) (fun _=>?_)|fail)
   refine ⟨(td.ext,out++[t']),hnx,by simp;omega,tS,⟨qH rfl zwy63 zC,rfl⟩⟩
theorem zoC {g:Img}:∀ (n:Nat) (t:Int) (out:List Int),out.Nodup->(∀ y∈out,0<=y/\y < g.types.length)->(zar g n t out).Nodup/\∀ y∈zar g n t out,0<=y/\y < g.types.length
 | 0,t,out,h1,h2=>⟨h1,h2⟩
 | n + 1,t,out,h1,h2=>by
  rw [zar];cases ht:typeAt g t with
  | none=>exact ⟨h1,h2⟩
  | some td =>
   by_cases hm:t∈out
   ·simp only [hm,if_true];exact ⟨h1,h2⟩
   ·simp only [hm,if_false];refine zoC n td.ext (out++[t]) ?_ ?_
    ·rw [List.nodup_append];simp [h1];intro a ha e;subst e;exact hm ha
    ·intro y hy;simp only [List.mem_append,List.mem_singleton] at hy;rcases hy with hy|rfl
     ·exact h2 y hy
     ·exact Ve ht
theorem WS (g:Img) (t:Int):(up g t).Nodup/\∀ y∈up g t,0<=y/\y < g.types.length:=zoC _ t [] zwy63 zwy63
theorem Yv {g:Img} {t:Int} (h:0<=t/\t < g.types.length):∃ td,typeAt g t=some td :=
 ⟨_,by rw [typeAt,if_pos h.1];exact List.getElem?_eq_getElem zwy62⟩
def yP (g:Img) (u:Int):List Int:=match typeAt g u with|some td=>td.faces|none=>[]
def zav (g:Img) (met:List Int) (f:Int):List Int:=if there g f=true/\f∉met then met++[f] else met
def MInv (g:Img) (met:List Int):Prop:=met.Nodup/\∀ y∈met,0<=y/\y < g.types.length
theorem MInv.len {g:Img} {met:List Int} (h:MInv g met):met.length<=g.types.length:=ZF _ _ h.1 h.2
theorem zui {g:Img} {t:Int} (h:there g t=true):0<=t/\t < g.types.length:=by
 obtain ⟨td,h⟩:=(Yf g t).1 h;exact Ve h
theorem MInv.add {g:Img} {met:List Int} (h:MInv g met) (f:Int):MInv g (zav g met f):=by
 unfold zav;split
 ·rename_i hc;refine ⟨?_,?_⟩
  ·rw [List.nodup_append];simp [h.1];intro a ha e;subst e;exact hc.2 ha
  ·intro y hy;simp only [List.mem_append,List.mem_singleton] at hy;rcases hy with hy|rfl
   ·exact h.2 y hy
   ·exact zui hc.1
 ·exact h
theorem MInv.fold {g:Img}:∀ (l:List Int) {met:List Int},MInv g met->MInv g (l.foldl (zav g) met)
 | [],_,h=>h
 | f::l,_,h=>MInv.fold l (h.add f)
def XF (g:Img) (met:List Int) (u:Int):List Int:=(yP g u).foldl (zav g) met
theorem MInv.step {g:Img} {met:List Int} (h:MInv g met) (u:Int):MInv g (XF g met u):=MInv.fold _ h
def znA (g:Img) (t:Int):List Int:=(up g t).foldl (XF g) []
def zed (g:Img):Nat->Nat->List Int->List Int
 | 0,_,met=>met
 | n + 1,i,met=>match met[i]? with|some u=>zed g n (i + 1) (XF g met u)|none=>met
def zjy (g:Img) (t:Int):List Int:=zed g (g.types.length + 1) 0 (znA g t)
def nums (n:Nat):List Int:=(List.range n).map fun i:Nat=>(i:Int)
def Zr (g:Img) (t:Int):List Int:=(nums g.types.length).filter fun f=>decide (f∈zjy g t)
theorem Wp {α β:Type} {f:β->α->β} {l:List α} {k:Nat} {b:β} (h:k < l.length):(l.drop k).foldl f b=(l.drop (k + 1)).foldl f (f b l[k]):=by rw [drop_cons h];rfl
theorem zto {g:Img} {met:List Int} {f:Int} {i:Nat} (h:i < met.length):i < (zav g met f).length:=by
 unfold zav;split
 ·simp;omega
 ·exact h
theorem ztP {g:Img} {met:List Int} {f:Int} {i:Nat} {x:Int} (h:i < met.length) (hx:met[i]?=some x):(zav g met f)[i]?=some x:=by
 unfold zav;split
 ·rw [List.getElem?_append_left h];exact hx
 ·exact hx
set_option maxHeartbeats 1000000 in
theorem zgU (g:Img) (t:Int) (hg:g.types.length<=1000) (hfc:∀ td∈g.types,td.faces.length<=1000):ACall Tryz.prog 62 [zK g,pi t] (ints (Zr g t)):=by
 refine zh zf Tryz.func62 rfl zws Tryz.ntmps62 zwy63 _ rfl (fun hw gB hgB=>?_);have hui:=WS g t;have hul:=ZF _ _ hui.1 hui.2
 repeat' (first|(refine shC ?_;first|refine qC (za3 g t hg) ?_)|refine sA ?_|refine sC (fun _=>?_) (fun _=>?_)|fail)
 refine Za (t:=5) 0 3 1 zwy69 rfl rfl ?_;refine zL (fun x:Nat × List Int=>[(2,.pv (.ptr (zK g) 0)),(5,.own 0),(6,.pv (ints (up g t))),(7,.pv (pi x.1))]) (fun x=>[(0,.row 3 1 (x.2.map pi))])
  (fun x=>x.1<=(up g t).length/\MInv g x.2/\((up g t).drop x.1).foldl (XF g) x.2=znA g t) (fun x=>(up g t).length - x.1) (0,[]) ⟨by simp,⟨by simp,by simp⟩,rfl⟩ (tS) ⟨aB zC,rfl⟩ ?_
 rintro ⟨i,met⟩ ⟨hi,hmi,hr⟩;simp only at hi hmi hr;by_cases hlt:i < (up g t).length
 ·have heU:=qI hlt;obtain ⟨td,htd⟩:=Yv (hui.2 _ (List.getElem_mem hlt));obtain ⟨h0,heT⟩:=qN htd;have hfl:td.faces.length<=1000:=hfc td zwy87;rw [Wp hlt,show XF g met (up g t)[i]=td.faces.foldl (zav g) met by rw [XF,yP,htd]] at hr
  repeat' (first|refine sK ?_|refine sC (fun _=>?_) (fun _=>?_)|fail)
  refine zL (fun x:Nat × List Int=>[(2,.pv (.ptr (zK g) 0)),(5,.own 0),(6,.pv (ints (up g t))),(7,.pv (pi i)),(8,.pv (pi x.1))]) (fun x=>[(0,.row 3 1 (x.2.map pi))])
   (fun x=>x.1<=td.faces.length/\MInv g x.2/\(td.faces.drop x.1).foldl (zav g) x.2=td.faces.foldl (zav g) met) (fun x=>td.faces.length - x.1) (0,met) ⟨by simp,hmi,rfl⟩ (tS) ⟨aB zC,rfl⟩ ?_
  rintro ⟨k,met'⟩ ⟨hk,hmi',hr'⟩;simp only at hk hmi' hr';by_cases hltk:k < td.faces.length
  ·have heF:=qI hltk;rw [Wp hltk] at hr';have hml:=hmi'.len
   repeat' (first|(refine shC ?_;first|refine qC (Qd _ _) ?_|refine qC (XP _ _) ?_)|(refine shX ?_;first|refine qX heU ?_|refine zy rfl (ah h0 heT) rfl rfl ?_|refine zq rfl (ah h0 heT) rfl rfl ?_|refine qX heF ?_)|(refine yj ?_;first|refine yV zf rfl rfl rfl rfl rfl rfl rfl zwy72 zwy64 rfl rfl ?_)|refine sK ?_|refine sC (fun _=>?_) (fun _=>?_)|fail)
   all_goals refine ⟨(k + 1,zav g met' td.faces[k]),⟨hltk,hmi'.add _,hr'⟩,tD,tS,⟨qH rfl ?_ zC,rfl⟩⟩
   all_goals simp_all [zav]
  ·rw [drop_end zwy62] at hr'
   repeat' (first|(refine shX ?_;first|refine qX heU ?_|refine zy rfl (ah h0 heT) rfl rfl ?_|refine zq rfl (ah h0 heT) rfl rfl ?_)|refine sK ?_|refine sC (fun _=>?_) (fun _=>?_)|fail)
   refine ⟨(i + 1,met'),⟨hlt,hmi',by rw [<-hr,<-hr'];rfl⟩,tD,tS,⟨qH rfl rfl zC,rfl⟩⟩
 ·rw [drop_end zwy62] at hr
  repeat' (first|refine sK ?_|refine sC (fun _=>?_) (fun _=>?_)|fail)
  obtain rfl:met=znA g t:=hr;refine zL (fun x:Nat × List Int=>[(2,.pv (.ptr (zK g) 0)),(5,.own 0),(10,.pv (pi x.1))]) (fun x=>[(0,.row 3 1 (x.2.map pi))])
   (fun x=>x.1<=x.2.length/\MInv g x.2/\zed g (g.types.length + 1 - x.1) x.1 x.2=zjy g t) (fun x=>g.types.length + 1 - x.1) (0,znA g t) ⟨by simp,hmi,rfl⟩ (tS) ⟨aB zC,rfl⟩ ?_
  clear hi hmi hlt;rintro ⟨i,met⟩ ⟨hi,hmi,hr⟩;simp only at hi hmi hr;have hml:=hmi.len;rw [show g.types.length + 1 - i=(g.types.length - i) + 1 by omega,zed] at hr;by_cases hlt:i < met.length
  ·have heU:=qI hlt;obtain ⟨td,htd⟩:=Yv (hmi.2 _ (List.getElem_mem hlt));obtain ⟨h0,heT⟩:=qN htd;have hfl:td.faces.length<=1000:=hfc td zwy87;rw [List.getElem?_eq_getElem hlt] at hr;simp only at hr;rw [show XF g met met[i]=td.faces.foldl (zav g) met by rw [XF,yP,htd]] at hr
   repeat' (first|refine sK ?_|refine sC (fun _=>?_) (fun _=>?_)|fail)
   refine zL (fun x:Nat × List Int=>[(2,.pv (.ptr (zK g) 0)),(5,.own 0),(10,.pv (pi i)),(11,.pv (pi x.1))]) (fun x=>[(0,.row 3 1 (x.2.map pi))])
    (fun x=>x.1<=td.faces.length/\MInv g x.2/\(td.faces.drop x.1).foldl (zav g) x.2=td.faces.foldl (zav g) met/\i < x.2.length/\x.2[i]?=some met[i]) (fun x=>td.faces.length - x.1) (0,met) ⟨by simp,hmi,rfl,hlt,List.getElem?_eq_getElem hlt⟩ (tS) ⟨aB zC,rfl⟩ ?_
   rintro ⟨k,met'⟩ ⟨hk,hmi',hr',hli',hgi'⟩;simp only at hk hmi' hr' hli' hgi';have heU':=qI hli';rw [List.getElem?_eq_getElem hli',Option.some.injEq] at hgi';rw [hgi'] at heU';by_cases hltk:k < td.faces.length
   ·have heF:=qI hltk;rw [Wp hltk] at hr';have hml:=hmi'.len
    repeat' (first|(refine shC ?_;first|refine qC (Qd _ _) ?_|refine qC (XP _ _) ?_)|(refine shX ?_;first|refine qX heU' ?_|refine zy rfl (ah h0 heT) rfl rfl ?_|refine zq rfl (ah h0 heT) rfl rfl ?_|refine qX heF ?_)|(refine yj ?_;first|refine yV zf rfl rfl rfl rfl rfl rfl rfl zwy72 zwy64 rfl rfl ?_)|refine sK ?_|refine sC (fun _=>?_) (fun _=>?_)|fail)
    all_goals refine ⟨(k + 1,zav g met' td.faces[k]),⟨hltk,hmi'.add _,hr',zto hli',ztP hli' (by rw [List.getElem?_eq_getElem hli',hgi'])⟩,tD,tS,⟨qH rfl ?_ zC,rfl⟩⟩
    all_goals simp_all [zav]
   ·rw [drop_end zwy62] at hr'
    repeat' (first|(refine shX ?_;first|refine qX heU' ?_|refine zy rfl (ah h0 heT) rfl rfl ?_|refine zq rfl (ah h0 heT) rfl rfl ?_)|refine sK ?_|refine sC (fun _=>?_) (fun _=>?_)|fail)
    refine ⟨(i + 1,met'),⟨hli',hmi',?_⟩,tD,tS,⟨qH rfl rfl zC,rfl⟩⟩;simp only;rw [show g.types.length + 1 - (i + 1)=g.types.length - i by omega,<-hr,<-hr'];rfl
  ·rw [List.getElem?_eq_none zwy62] at hr;obtain rfl:met=zjy g t:=hr
   repeat' (first|refine sK ?_|refine sC (fun _=>?_) (fun _=>?_)|fail)
   clear hi hlt;refine Za (t:=13) 1 3 1 zwy69 rfl rfl ?_;refine zL (fun x:Nat × List Int=>[(2,.pv (.ptr (zK g) 0)),(5,.own 0),(13,.own 1),(14,.pv (pi x.1))]) (fun x=>[(0,.row 3 1 ((zjy g t).map pi)),(1,.row 3 1 (x.2.map pi))])
    (fun x=>x.1<=g.types.length/\x.2.length<=x.1/\x.2++((nums g.types.length).drop x.1).filter (fun f=>decide (f∈zjy g t))=Zr g t) (fun x=>g.types.length - x.1) (0,[]) ⟨by simp,by simp,rfl⟩ (tS) ⟨zA rfl (aB zC),rfl⟩ ?_
   rintro ⟨k,out⟩ ⟨hk,hol,hr⟩;simp only at hk hol hr;by_cases hlt:k < g.types.length
   ·rw [drop_cons zwy103,List.filter_cons,show (nums g.types.length)[k]'zwy103=(k:Int) by simp [nums]] at hr
    repeat' (first|(refine shC ?_;first|refine qC (XP _ _) ?_)|(refine yj ?_;first|refine yV zf rfl rfl rfl rfl rfl rfl rfl zwy72 zwy64 rfl rfl ?_)|refine sK ?_|refine sC (fun _=>?_) (fun _=>?_)|fail)
    ·rename_i hx;simp only at hx;rw [hx] at hr;exact ⟨(k + 1,out++[(k:Int)]),⟨by simp;omega,by simp;omega,by simpa using hr⟩,tD,tS,⟨zA rfl (qH rfl zwy63 zC),rfl⟩⟩
    ·rename_i hx;simp only at hx;rw [hx] at hr;exact ⟨(k + 1,out),⟨by simp;omega,by simp;omega,by simpa using hr⟩,tD,tS,⟨zA rfl (qH rfl rfl zC),rfl⟩⟩
   ·rw [drop_end (by simp [nums];omega)] at hr
    repeat' (first|refine sK ?_|refine sC (fun _=>?_) (fun _=>?_)|fail)
    exact retq rfl zwy90
end Go.Cg
