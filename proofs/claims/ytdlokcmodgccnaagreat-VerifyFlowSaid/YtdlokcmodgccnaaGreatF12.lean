/- A part of the walks by abstract values: no statement of its own. -/
import Derived.Test.YtdlokcmodgccnaaGreatF9
import Derived.Test.YtdlokcmodgccnaaGreatF7
set_option linter.unusedVariables false
set_option linter.unusedSimpArgs false
namespace Go.Cg
open Go.Proofs
set_option maxHeartbeats 20000000
def zkQ (b:UInt8):Bool:=!(decide ((b.toNat:Int) < 33)||decide (126 < (b.toNat:Int)))
def Va (s:ByteArray):Bool:=s.data.toList.all zkQ&&(decide (0 < (s.size:Int))&&decide ((s.size:Int)≤24))
theorem zoI {s:ByteArray} (h:(ps s).lenOk):s.size≤9223372036854775807:=by
 simp [PV.lenOk,Qz,maxLen] at h;exact of_decide_eq_true h
theorem zeE {s:ByteArray} {k:Nat} (h:k < s.size):s[((k:Int)).toNat]?=some (s.data.toList[k]'(by simpa using h)):=by
 simp only [Int.toNat_natCast]
 rw [getElem?_pos s k h]
 simp [ByteArray.getElem_eq_getElem_data]
theorem zcV (s:ByteArray):ACall Tryz.prog 262 [ps s] (pb (Va s)):=by
 refine zf zh Tryz.func262 rfl (by kernel_rfl) Tryz.ntmps262 (by simp) _ rfl (fun hw gB hgB=>?_)
 have hl:=zoI hw.1
 repeat' (first|refine sA ?_|refine sC (fun _=>?_) (fun _=>?_)|fail)
 refine zo (fun k:Nat=>[(0,.pv (ps s)),(3,.pv (pi k))]) (fun _=>[]) (fun k=>k≤s.size∧s.data.toList.all zkQ=(s.data.toList.drop k).all zkQ) (fun k=>s.size - k) 0 ⟨by simp,by simp⟩ (tS) tH ?_
 rintro k ⟨hk,hr⟩
 by_cases hlt:k < s.size
 ·have hb:=zeE hlt
  rw [ZO (by simpa using hlt)] at hr
  repeat' (first|(refine shI ?_;first|refine zu rfl (Ws zh rfl rfl rfl rfl (by omega) hb) rfl rfl ?_|refine AD.step _ _ _ _ _ rfl (Ws zh rfl rfl rfl rfl (by omega) hb) rfl rfl ?_)|refine sK ?_|refine sC (fun _=>?_) (fun _=>?_)|fail)
  all_goals first
   | exact ⟨k + 1,⟨by omega,by simp_all [zkQ]⟩,tD,tS,tH⟩
   | (refine retq rfl ?_;simp_all [zi,Va,zkQ];done)
 ·rw [drop_end (by simp;omega)] at hr
  repeat' (first|refine sK ?_|refine sC (fun _=>?_) (fun _=>?_)|fail)
  all_goals (refine retq rfl ?_;simp_all [zi,Va];done)
def zaK (o:Int):Int × Int :=
 if o==1 then (2147483647,-2147483648) else if o==2 then (9223372036854775807,-9223372036854775808) else if o==3 then (11,0) else if o==4 then (6,0) else if o==5 then (159,0)
 else if o==6||o==7 then (63,0) else (0,0)
theorem zpx (o:Int):ACall Tryz.prog 306 [pi o] (.tup [pi (zaK o).1,pi (zaK o).2]):=by
 refine zf zh Tryz.func306 rfl (by kernel_rfl) Tryz.ntmps306 (by simp) _ rfl (fun hw gB hgB=>?_)
 repeat' (first|refine sA ?_|refine sC (fun _=>?_) (fun _=>?_)|fail)
 all_goals (refine retq rfl ?_)
 all_goals (simp_all [zi,zaK])
set_option maxHeartbeats 20000000
def names06:ByteArray:={ data:=((([110,111,112,32,108,100,97,114,103,32,115,116,97,114,103,32,108,100,97,114,103,97,32,108,100,108,111,99,32,115,116,108,111,99,32,108,100,108,111,99,97,32,108,100,99,52,32,108,100,99,56,32,108,100].append [110,117,108,108,32,100,117,112,32,112,111,112,32,97,100,100,32,115,117,98,32,109,117,108,32,100,105,118,32,114,101,109,32,97,110,100,32,111,114,32,120,111,114,32,115,104,108,32,115,104,114,32,110,101]).append ([103,32,110,111,116,32,97,100,100,111,118,102,32,115,117,98,111,118,102,32,109,117,108,111,118,102,32,99,111,110,118,52,32,99,111,110,118,56,32,99,111,110,118,111,118,102,52,32,99,101,113,32,99,103].append [116,32,99,108,116,32,98,114,32,98,114,116,114,117,101,32,98,114,102,97,108,115,101,32,98,101,113,32,98,103,101,32,98,103,116,32,98,108,101,32,98,108,116,32,98,110,101,32,99,97,108,108,32,99])).append (([97,108,108,118,105,114,116,32,110,101,119,111,98,106,32,114,101,116,32,116,97,105,108,32,108,100,102,108,100,32,115,116,102,108,100,32,108,100,102,108,100,97,32,108,100,115,102,108,100,32,115,116,115,102].append [108,100,32,108,100,115,102,108,100,97,32,108,100,111,98,106,32,115,116,111,98,106,32,105,110,105,116,111,98,106,32,110,101,119,97,114,114,32,108,100,108,101,110,32,108,100,101,108,101,109,32,115,116,101]).append ([108,101,109,32,108,100,101,108,101,109,97,32,98,111,120,32,117,110,98,111,120,32,117,110,98,111,120,97,110,121,32,99,97,115,116,99,108,97,115,115,32,105,115,105,110,115,116,32,108,100,102,116,110,32].append [110,101,119,100,101,108,32,116,104,114,111,119,32,114,101,116,104,114,111,119,32,108,101,97,118,101,32,101,110,100,102,105,110,97,108,108,121,32,101,110,100,102,105,108,116,101,114,32,105,110,32,111,117,116,32]))).toArray }
def operands06:ByteArray:={ data:=([48,52,52,52,51,51,51,49,50,48,48,48,48,48,48,48,48,48,48,48,48,48,48,48,48,48,48,48,48,48,48,48,48,53,53,53,53].append [53,53,53,53,53,54,54,54,48,48,55,55,55,55,55,55,56,56,56,56,48,56,56,56,56,56,56,56,56,54,56,48,48,53,48,48,48,48]).toArray }
def flows06:ByteArray:={ data:=([48,48,48,48,48,48,48,48,48,48,48,48,48,48,48,48,48,48,48,48,48,48,48,48,48,48,48,48,48,48,48,48,48,49,50,50,50].append [50,50,50,50,50,48,48,48,51,48,48,48,48,48,48,48,48,48,48,48,48,48,48,48,48,48,48,48,48,48,48,51,51,52,53,53,48,48]).toArray }
theorem zeh:names06.size=433:=by kernel_rfl
theorem zgC:operands06.size=75:=by kernel_rfl
theorem zjP:flows06.size=75:=by kernel_rfl
def zdC (op:Int):Nat→Nat→Nat→Nat→ByteArray
 | 0,_,_,_=>ByteArray.empty
 | m + 1,i,n,from_=>if i < 433 then
   (if ((names06.data.toList.getD i 0).toNat:Int)==32 then (if (n:Int)==op then names06.extract from_ i else zdC op m (i + 1) (n + 1) (i + 1)) else zdC op m (i + 1) n from_) else ByteArray.empty
def zif (op:Int):ByteArray:=zdC op 434 0 1 0
set_option maxRecDepth 100000 in
theorem zqA (op:Int):ACall Tryz.prog 111 [pi op] (ps (zif op)):=by
 refine zf zh Tryz.func111 rfl (by kernel_rfl) Tryz.ntmps111 (by simp) _ rfl (fun hw gB hgB=>?_)
 repeat' (first|refine sA ?_|refine sC (fun _=>?_) (fun _=>?_)|fail)
 refine zo (fun x:Nat × Nat × Nat=>[(0,.pv (pi op)),(5,.pv (pi x.1)),(3,.pv (pi x.2.1)),(4,.pv (pi x.2.2))]) (fun _=>[]) (fun x=>x.1≤433∧x.2.1≤x.1 + 1∧x.2.2≤x.1∧zdC op (434 - x.1) x.1 x.2.1 x.2.2=zif op) (fun x=>433 - x.1) (0,1,0) ⟨by simp,by simp,by simp,rfl⟩ (tS) tH ?_
 rintro ⟨k,n,f⟩ ⟨hk,hn,hf,hr⟩
 simp only at hk hn hf hr
 rw [show 434 - k=(433 - k) + 1 by omega,zdC] at hr
 by_cases hlt:k < 433
 ·have hsz:k < names06.size:=by rw [zeh];exact hlt
  have hb:=zeE hsz
  have hg:names06.data.toList.getD k 0=names06.data.toList[k]'(by simpa using hsz):=by rw [List.getD_eq_getElem?_getD,List.getElem?_eq_getElem (by simpa using hsz)];rfl
  rw [if_pos hlt,hg] at hr
  generalize names06.data.toList[k]'(by simpa using hsz)=b at hb hr
  clear hg
  repeat' (first|refine zu rfl (zmL (s:=names06) (l:=f) (h:=k) zh rfl rfl rfl rfl rfl (by omega) (by omega) (by rw [zeh];omega)) rfl rfl ?_|(refine shI ?_;first|refine zu rfl (Ws zh rfl rfl rfl rfl (by omega) hb) rfl rfl ?_|refine AD.step _ _ _ _ _ rfl (Ws zh rfl rfl rfl rfl (by omega) hb) rfl rfl ?_)|refine sK ?_|refine sC (fun _=>?_) (fun _=>?_)|fail)
  ·refine retq rfl ?_;simp_all [zi]
  ·have hr2:zdC op (433 - k) (k + 1) (n + 1) (k + 1)=zif op:=by simp_all
   exact ⟨(k + 1,n + 1,k + 1),⟨by simp;omega,by simp;omega,by simp,by simp only;rw [show 434 - (k + 1)=433 - k by omega];exact hr2⟩,tD,tS,tH⟩
  ·have hr2:zdC op (433 - k) (k + 1) n f=zif op:=by simp_all
   exact ⟨(k + 1,n,f),⟨by simp;omega,by simp;omega,by simp;omega,by simp only;rw [show 434 - (k + 1)=433 - k by omega];exact hr2⟩,tD,tS,tH⟩
 ·rw [if_neg hlt] at hr
  repeat' (first|refine sK ?_|refine sC (fun _=>?_) (fun _=>?_)|fail)
  rw [←hr]
  exact retq rfl rfl
def digit (s:ByteArray) (op:Int):Int:=IntKind.i64.wrap (IntKind.u8.wrap (((s.data.toList.getD (op - 1).toNat 0).toNat:Int) - 48))
def zN (op:Int):Int:=digit operands06 op
def zkH (op:Int):Int:=digit flows06 op
def zby (s:ByteArray) (o f:Int):PV:=.agg [ps s,pi o,pi f]
theorem zng (op:Int) (h:op < 1∨75 < op):ACall Tryz.prog 66 [pi op] (.tup [zby ByteArray.empty 0 0,pi 3]):=by
 refine zf zh Tryz.func66 rfl (by kernel_rfl) Tryz.ntmps66 (by simp) _ rfl (fun hw gB hgB=>?_)
 by_cases h1:op < 1
 ·repeat' (first|refine sK ?_|refine sC (fun _=>?_) (fun _=>?_)|fail)
  all_goals exact retq rfl rfl
 ·have h2:75 < op:=by omega
  repeat' (first|refine sK ?_|refine sC (fun _=>?_) (fun _=>?_)|fail)
  all_goals exact retq rfl rfl
theorem zeg (op:Int) (h1:1≤op) (h2:op≤75):ACall Tryz.prog 66 [pi op] (.tup [zby (zif op) (zN op) (zkH op),pi 0]):=by
 refine zf zh Tryz.func66 rfl (by kernel_rfl) Tryz.ntmps66 (by simp) _ rfl (fun hw gB hgB=>?_)
 have hk1:(op - 1).toNat < operands06.size:=by rw [zgC];omega
 have hk2:(op - 1).toNat < flows06.size:=by rw [zjP];omega
 have hw1:IntKind.i64.wrap (op - 1)=(((op - 1).toNat:Nat):Int):=by rw [wrap_in (by omega) (by omega)];omega
 have hb1:=zeE hk1
 have hb2:=zeE hk2
 rw [←hw1] at hb1 hb2
 repeat' (first|refine zd2 13 (by kernel_rfl) (by kernel_rfl) (by kernel_rfl) (by decide) ?_|(refine shC ?_;first|refine qC (zqA op) ?_)|(refine shI ?_;first|refine zu rfl (Ws zh rfl rfl rfl rfl (by omega) hb1) rfl rfl ?_|refine AD.step _ _ _ _ _ rfl (Ws zh rfl rfl rfl rfl (by omega) hb1) rfl rfl ?_|refine zu rfl (Ws zh rfl rfl rfl rfl (by omega) hb2) rfl rfl ?_|refine AD.step _ _ _ _ _ rfl (Ws zh rfl rfl rfl rfl (by omega) hb2) rfl rfl ?_)|refine sK ?_|refine sC (fun _=>?_) (fun _=>?_)|fail)
 refine retq rfl ?_
 have e1:∀ (s:ByteArray) (h:(op - 1).toNat < s.data.toList.length),s.data.toList.getD (op - 1).toNat 0=s.data.toList[(op - 1).toNat]:=fun s h=>by rw [List.getD_eq_getElem?_getD,List.getElem?_eq_getElem h];rfl
 rw [zN,zkH,digit,digit,e1 _ (by simpa using hk1),e1 _ (by simpa using hk2)]
 rfl
def ty0:Ty:=⟨0,0,0,false⟩
def Qy (x:Ins):Int :=
 if x.op < 1∨75 < x.op then 3
 else if (zaK (zN x.op)).1 < x.arg∨x.arg < (zaK (zN x.op)).2 then 17
 else if zN x.op≠8∧x.t≠ty0 then 17
 else if zN x.op=8∧Ze x.t 1=false then 17
 else 0
theorem zf4 (x:Ins):ACall Tryz.prog 298 [zY x] (pi (Qy x)):=by
 refine zf zh Tryz.func298 rfl (by kernel_rfl) Tryz.ntmps298 (by simp) _ rfl (fun hw gB hgB=>?_)
 by_cases hop:x.op < 1∨75 < x.op
 ·repeat' (first|(refine shC ?_;first|refine qC (zng _ hop) ?_)|refine sA ?_|refine sC (fun _=>?_) (fun _=>?_)|fail)
  exact retq rfl (by simp [zi,Qy,hop])
 ·have hty:=QD x.t ty0
  simp only [ty0] at hty
  repeat' (first|(refine shC ?_;first|refine zu rfl (qw rfl rfl (zeg _ (by omega) (by omega))) rfl rfl ?_|refine AD.step _ _ _ _ _ rfl (qw rfl rfl (zeg _ (by omega) (by omega))) rfl rfl ?_|refine qC (zpx _) ?_|refine qC (zhY _ _) ?_)|refine sA ?_|refine sC (fun _=>?_) (fun _=>?_)|fail)
  all_goals refine retq rfl ?_
  all_goals simp only [Qy,ty0,if_neg hop]
  all_goals simp_all [zi]
  all_goals (rename_i h)
  ·exact of_decide_eq_false h
  ·rw [if_neg (by omega),if_pos (of_decide_eq_true h)]
set_option maxHeartbeats 20000000

/-! images: how long;formed -/
theorem zgQ {α:Type} {f:α→PV} {sz:Nat} {l:List α} (h:(PV.slc sz (l.map f) false).lenOk):l.length≤9223372036854775807:=by
  simp [PV.lenOk,maxLen] at h;exact h.1
theorem zA {α:Type} {f:α→PV} {l:List α} {k:Nat} (h:k < l.length):(l.map f)[((k:Int)).toNat]?=some (f l[k]):=by simp [h]

def Qx (n:Int) (f:Int):Bool:=decide (0≤f)&&decide (f < n)
def qy (t:TD) (n:Int):Bool :=
  Va t.name&&decide (0≤t.flags)&&decide (t.flags≤31)&&decide (-1≤t.ext)&&decide (t.ext < n)&&decide ((t.faces.length:Int)≤4)&&t.faces.all (Qx n)
theorem zgE (t:TD) (n:Int):ACall Tryz.prog 261 [Zb t,pi n] (pb (qy t n)):=by
  refine zf zh Tryz.func261 rfl (by kernel_rfl) Tryz.ntmps261 (by simp) _ rfl (fun hw gB hgB=>?_)
  have hl:t.faces.length≤9223372036854775807:=zcv hw.1.2.2.2.1
  repeat' (first|(refine shC ?_;first|refine qC (zcV _) ?_)|refine sA ?_|refine sC (fun _=>?_) (fun _=>?_)|fail)
  all_goals first|(refine retq rfl ?_;first|(simp only [zi,qy,BL,List.length_map] at *;simp only [*,BL,List.length_map];done)|(simp_all [zi,qy];done)|(simp_all [zi,qy];omega)|(simp_all [zi,qy];intros;omega))|(refine ZA rfl ?_;first|(simp only [zi,qy,BL,List.length_map] at *;simp only [*,BL,List.length_map];done)|(simp_all [zi,qy];done)|(simp_all [zi,qy];omega)|(simp_all [zi,qy];intros;omega))|skip
  refine zo (fun k:Nat=>[(1,.pv (pi n)),(2,.pv (.ptr (Zb t) 0)),(5,.pv (pi k))]) (fun _=>[]) (fun k=>k≤t.faces.length∧qy t n=(t.faces.drop k).all (Qx n)) (fun k=>t.faces.length - k) 0 ⟨by simp,by simp_all [qy]⟩ (tS) tH ?_
  rintro k ⟨hk,hr⟩
  by_cases hlt:k < t.faces.length
  · have he:=yT hlt
    rw [ZO hlt] at hr
    repeat' (first|(refine shX ?_;first|refine qX he ?_)|refine sK ?_|refine sC (fun _=>?_) (fun _=>?_)|fail)
    all_goals first|(refine retq rfl ?_;first|(simp only [zi,Qx,BL,List.length_map] at *;simp only [*,BL,List.length_map];done)|(simp_all [zi,Qx];done)|(simp_all [zi,Qx];omega)|(simp_all [zi,Qx];intros;omega))|(refine ⟨k + 1,⟨by omega,?_⟩,tD,tS,tH⟩;first|(simp only [Qx,BL,List.length_map] at *;simp only [*,BL,List.length_map];done)|(simp_all [Qx];done)|(simp_all [Qx];omega)|(simp_all [Qx];intros;omega))|(trace "LEND";trace_state)
  · rw [drop_end (by omega)] at hr
    repeat' (first|refine sK ?_|refine sC (fun _=>?_) (fun _=>?_)|fail)
    all_goals first|(refine retq rfl ?_;first|(simp only [zi,BL,List.length_map] at *;simp only [*,BL,List.length_map];done)|(simp_all [zi];done)|(simp_all [zi];omega)|(simp_all [zi];intros;omega))|(refine ZA rfl ?_;first|(simp only [zi,BL,List.length_map] at *;simp only [*,BL,List.length_map];done)|(simp_all [zi];done)|(simp_all [zi];omega)|(simp_all [zi];intros;omega))|skip

def codeOk (g:Img) (m:Me) (x:Ins):Bool:=Qy x==0 &&
  (if zN x.op==5 then decide (x.arg < (m.code.length:Int)) else if zN x.op==6 then decide (x.arg < (g.methods.length:Int))
   else if zN x.op==7 then decide (x.arg < (g.fields.length:Int)) else if zN x.op==8 then zeW x.t g.types.length else true)
theorem zeZ {x:Ins} (h:(Qy x != 0)=false):1≤x.op∧x.op≤75:=by
  simp [Qy] at h
  by_cases h1:x.op < 1∨75 < x.op
  · simp [h1] at h
  · omega
def zah (t:Ty):Bool:=(t.kind==0&&(t.index==0&&(t.dims==0&&(t.ref==false&&true))))
def qQ (g:Img) (c:Cl):Bool:=!((c.kind==1&&!Qm c.t 1 g.types.length)||(c.kind != 1&&!zah c.t))
def Zf (g:Img) (m:Me):Bool:=decide ((m.code.length:Int)≤160)&&m.code.all (codeOk g m)&&m.clauses.all (qQ g)&&Wq m.code.length m.clauses
theorem zgu (m:Me) (g:Img):ACall Tryz.prog 284 [zG m,zq g] (pb (Zf g m)):=by
  refine zf zh Tryz.func284 rfl (by kernel_rfl) Tryz.ntmps284 (by simp) _ rfl (fun hw gB hgB=>?_)
  have hl1:m.code.length≤9223372036854775807:=zgQ (f:=zY) (sz:=6) (by have:=hw.1;simp only [zG,PV.lenOk,lensOk] at this ⊢;simp_all)
  have hl2:m.clauses.length≤9223372036854775807:=zgQ (f:=yI) (sz:=10) (by have:=hw.1;simp only [zG,PV.lenOk,lensOk] at this ⊢;simp_all)
  repeat' (first|refine sA ?_|refine sC (fun _=>?_) (fun _=>?_)|fail)
  all_goals first|(refine retq rfl ?_;first|(simp only [zi,Zf,BL,List.length_map] at *;simp only [*,BL,List.length_map];done)|(simp_all [zi,Zf];done)|(simp_all [zi,Zf];omega)|(simp_all [zi,Zf];intros;omega))|(refine ZA rfl ?_;first|(simp only [zi,Zf,BL,List.length_map] at *;simp only [*,BL,List.length_map];done)|(simp_all [zi,Zf];done)|(simp_all [zi,Zf];omega)|(simp_all [zi,Zf];intros;omega))|skip
  refine zo (fun k:Nat=>[(2,.pv (.ptr (zG m) 0)),(3,.pv (.ptr (zq g) 0)),(5,.pv (pi k))]) (fun _=>[]) (fun k=>k≤m.code.length∧Zf g m=((m.code.drop k).all (codeOk g m)&&m.clauses.all (qQ g)&&Wq m.code.length m.clauses)) (fun k=>m.code.length - k) 0 ⟨by simp,by simp_all [Zf]⟩ (tS) tH ?_
  rintro k ⟨hk,hr⟩
  by_cases hlt:k < m.code.length
  · have he:=zA (f:=zY) hlt
    rw [ZO hlt] at hr
    by_cases hf:Qy m.code[k]=0
    · obtain ⟨h1,h2⟩:=zeZ (x:=m.code[k]) (by simp [hf])
      repeat' (first|(refine shC ?_;first|refine qC (zf4 _) ?_|refine qC (zeg _ h1 h2) ?_|refine qC (zk3 _ _) ?_)|(refine shX ?_;first|refine qX he ?_)|refine sK ?_|refine sC (fun _=>?_) (fun _=>?_)|fail)
      all_goals first|(refine retq rfl ?_;first|(simp only [zi,codeOk,BL,List.length_map] at *;simp only [*,BL,List.length_map];done)|(simp_all [zi,codeOk];done)|(simp_all [zi,codeOk];omega)|(simp_all [zi,codeOk];intros;omega))|(refine ⟨k + 1,⟨by omega,?_⟩,tD,tS,tH⟩;first|(simp only [codeOk,BL,List.length_map] at *;simp only [*,BL,List.length_map];done)|(simp_all [codeOk];done)|(simp_all [codeOk];omega)|(simp_all [codeOk];intros;omega))|(trace "LEND";trace_state)
    · repeat' (first|(refine shC ?_;first|refine qC (zf4 _) ?_)|(refine shX ?_;first|refine qX he ?_)|refine sK ?_|refine sC (fun _=>?_) (fun _=>?_)|fail)
      all_goals first|(refine retq rfl ?_;first|(simp only [zi,codeOk,BL,List.length_map] at *;simp only [*,BL,List.length_map];done)|(simp_all [zi,codeOk];done)|(simp_all [zi,codeOk];omega)|(simp_all [zi,codeOk];intros;omega))|(refine ⟨k + 1,⟨by omega,?_⟩,tD,tS,tH⟩;first|(simp only [codeOk,BL,List.length_map] at *;simp only [*,BL,List.length_map];done)|(simp_all [codeOk];done)|(simp_all [codeOk];omega)|(simp_all [codeOk];intros;omega))|(trace "LEND";trace_state)
  · rw [drop_end (by omega)] at hr
    repeat' (first|refine sK ?_|refine sC (fun _=>?_) (fun _=>?_)|fail)
    refine zo (fun k:Nat=>[(2,.pv (.ptr (zG m) 0)),(3,.pv (.ptr (zq g) 0)),(9,.pv (pi k))]) (fun _=>[]) (fun k=>k≤m.clauses.length∧Zf g m=((m.clauses.drop k).all (qQ g)&&Wq m.code.length m.clauses)) (fun k=>m.clauses.length - k) 0 ⟨by simp,by simp_all⟩ (tS) tH ?_
    clear hk hr hlt
    rintro k ⟨hk,hr⟩
    by_cases hlt:k < m.clauses.length
    · have he:=zA (f:=yI) hlt
      rw [ZO hlt] at hr
      repeat' (first|(refine shC ?_;first|refine qC (zbd _ _ _) ?_)|(refine shX ?_;first|refine qX he ?_)|refine sK ?_|refine sC (fun _=>?_) (fun _=>?_)|fail)
      all_goals first|(refine retq rfl ?_;first|(simp only [zi,qQ,zah,BL,List.length_map] at *;simp only [*,BL,List.length_map];done)|(simp_all [zi,qQ,zah];done)|(simp_all [zi,qQ,zah];omega)|(simp_all [zi,qQ,zah];intros;omega))|(refine ⟨k + 1,⟨by omega,?_⟩,tD,tS,tH⟩;first|(simp only [qQ,zah,BL,List.length_map] at *;simp only [*,BL,List.length_map];done)|(simp_all [qQ,zah];done)|(simp_all [qQ,zah];omega)|(simp_all [qQ,zah];intros;omega))|(trace "LEND";trace_state)
    · rw [drop_end (by omega)] at hr
      repeat' (first|(refine shC ?_;first|refine qC (zop _ _) ?_)|refine sK ?_|refine sC (fun _=>?_) (fun _=>?_)|fail)
      all_goals first|(refine retq rfl ?_;first|(simp only [zi,BL,List.length_map] at *;simp only [*,BL,List.length_map];done)|(simp_all [zi];done)|(simp_all [zi];omega)|(simp_all [zi];intros;omega))|(refine ZA rfl ?_;first|(simp only [zi,BL,List.length_map] at *;simp only [*,BL,List.length_map];done)|(simp_all [zi];done)|(simp_all [zi];omega)|(simp_all [zi];intros;omega))|skip
set_option maxHeartbeats 20000000
def yV (g:Img) (m:Me):Bool :=
 Va m.name&&decide (0≤m.flags)&&decide (m.flags≤31)&&decide (0≤m.max)&&decide (m.max≤12)&&decide ((m.params.length:Int)≤6)&&decide ((m.locals.length:Int)≤12)&&Qm m.ret 3 g.types.length
 && m.params.all (fun t=>Qm t 2 g.types.length)&&m.locals.all (fun t=>Qm t 2 g.types.length)&&Zf g m
theorem zai (m:Me) (g:Img):ACall Tryz.prog 264 [zG m,zq g] (pb (yV g m)):=by
 refine zf zh Tryz.func264 rfl (by kernel_rfl) Tryz.ntmps264 (by simp) _ rfl (fun hw gB hgB=>?_)
 have hl1:m.params.length≤9223372036854775807:=zgQ (f:=yK) (sz:=4) (by have:=hw.1;simp only [zG,tys,PV.lenOk,lensOk] at this ⊢;simp_all)
 have hl2:m.locals.length≤9223372036854775807:=zgQ (f:=yK) (sz:=4) (by have:=hw.1;simp only [zG,tys,PV.lenOk,lensOk] at this ⊢;simp_all)
 repeat' (first|(refine shC ?_;first|refine qC (zcV _) ?_|refine qC (zbd _ _ _) ?_)|refine sA ?_|refine sC (fun _=>?_) (fun _=>?_)|fail)
 all_goals first|(refine retq rfl ?_;first|(simp only [zi,yV,BL,List.length_map] at *;simp only [*,BL,List.length_map];done)|(simp_all [zi,yV];done)|(simp_all [zi,yV];omega)|(simp_all [zi,yV];intros;omega))|(refine ZA rfl ?_;first|(simp only [zi,yV,BL,List.length_map] at *;simp only [*,BL,List.length_map];done)|(simp_all [zi,yV];done)|(simp_all [zi,yV];omega)|(simp_all [zi,yV];intros;omega))|skip
 refine zo (fun k:Nat=>[(2,.pv (.ptr (zG m) 0)),(3,.pv (.ptr (zq g) 0)),(5,.pv (pi (g.types.length:Int))),(6,.pv (pi k))]) (fun _=>[]) (fun k=>k≤m.params.length∧yV g m=((m.params.drop k).all (fun t=>Qm t 2 g.types.length)&&m.locals.all (fun t=>Qm t 2 g.types.length)&&Zf g m)) (fun k=>m.params.length - k) 0 ⟨by simp,by simp_all [yV]⟩ (tS) tH ?_
 rintro k ⟨hk,hr⟩
 by_cases hlt:k < m.params.length
 ·have he:=zA (f:=yK) hlt
  rw [ZO hlt] at hr
  repeat' (first|(refine shC ?_;first|refine qC (zbd _ _ _) ?_)|(refine shX ?_;first|refine qX he ?_)|refine sK ?_|refine sC (fun _=>?_) (fun _=>?_)|fail)
  all_goals first|(refine retq rfl ?_;first|(simp only [zi,BL,List.length_map] at *;simp only [*,BL,List.length_map];done)|(simp_all [zi];done)|(simp_all [zi];omega)|(simp_all [zi];intros;omega))|(refine ⟨k + 1,⟨by omega,?_⟩,tD,tS,tH⟩;first|(simp only [BL,List.length_map] at *;simp only [*,BL,List.length_map];done)|(simp_all [];done)|(simp_all [];omega)|(simp_all [];intros;omega))|(trace "LEND";trace_state)
 ·rw [drop_end (by omega)] at hr
  repeat' (first|refine sK ?_|refine sC (fun _=>?_) (fun _=>?_)|fail)
  refine zo (fun k:Nat=>[(2,.pv (.ptr (zG m) 0)),(3,.pv (.ptr (zq g) 0)),(5,.pv (pi (g.types.length:Int))),(7,.pv (pi k))]) (fun _=>[]) (fun k=>k≤m.locals.length∧yV g m=((m.locals.drop k).all (fun t=>Qm t 2 g.types.length)&&Zf g m)) (fun k=>m.locals.length - k) 0 ⟨by simp,by simp_all⟩ (tS) tH ?_
  clear hk hr hlt
  rintro k ⟨hk,hr⟩
  by_cases hlt:k < m.locals.length
  ·have he:=zA (f:=yK) hlt
   rw [ZO hlt] at hr
   repeat' (first|(refine shC ?_;first|refine qC (zbd _ _ _) ?_)|(refine shX ?_;first|refine qX he ?_)|refine sK ?_|refine sC (fun _=>?_) (fun _=>?_)|fail)
   all_goals first|(refine retq rfl ?_;first|(simp only [zi,BL,List.length_map] at *;simp only [*,BL,List.length_map];done)|(simp_all [zi];done)|(simp_all [zi];omega)|(simp_all [zi];intros;omega))|(refine ⟨k + 1,⟨by omega,?_⟩,tD,tS,tH⟩;first|(simp only [BL,List.length_map] at *;simp only [*,BL,List.length_map];done)|(simp_all [];done)|(simp_all [];omega)|(simp_all [];intros;omega))|(trace "LEND";trace_state)
  ·rw [drop_end (by omega)] at hr
   repeat' (first|(refine shC ?_;first|refine qC (zgu _ _) ?_)|refine sK ?_|refine sC (fun _=>?_) (fun _=>?_)|fail)
   all_goals first|(refine retq rfl ?_;first|(simp only [zi,BL,List.length_map] at *;simp only [*,BL,List.length_map];done)|(simp_all [zi];done)|(simp_all [zi];omega)|(simp_all [zi];intros;omega))|(refine ZA rfl ?_;first|(simp only [zi,BL,List.length_map] at *;simp only [*,BL,List.length_map];done)|(simp_all [zi];done)|(simp_all [zi];omega)|(simp_all [zi];intros;omega))|skip
def zc9 (t:TD):Bool:=!decide ((t.faces.length:Int)≤20)||!decide ((t.name.size:Int)≤100)
def zcB (m:Me):Bool:=!decide ((m.params.length:Int)≤30)||!decide ((m.locals.length:Int)≤30)||!decide ((m.code.length:Int)≤200)||!decide ((m.clauses.length:Int)≤20)||!decide ((m.name.size:Int)≤100)
def zaE (g:Img):Bool:=!decide ((g.types.length:Int)≤40)||!decide ((g.fields.length:Int)≤80)||!decide ((g.methods.length:Int)≤80)||g.types.any zc9||g.methods.any zcB
theorem zp7 (g:Img):ACall Tryz.prog 17 [zq g] (pb (zaE g)):=by
 refine zf zh Tryz.func17 rfl (by kernel_rfl) Tryz.ntmps17 (by simp) _ rfl (fun hw gB hgB=>?_)
 repeat' (first|refine sA ?_|refine sC (fun _=>?_) (fun _=>?_)|fail)
 all_goals first|(refine retq rfl ?_;first|(simp only [zi,zaE,BL,List.length_map] at *;simp only [*,BL,List.length_map];done)|(simp_all [zi,zaE];done)|(simp_all [zi,zaE];omega)|(simp_all [zi,zaE];intros;omega))|(refine ZA rfl ?_;first|(simp only [zi,zaE,BL,List.length_map] at *;simp only [*,BL,List.length_map];done)|(simp_all [zi,zaE];done)|(simp_all [zi,zaE];omega)|(simp_all [zi,zaE];intros;omega))|skip
 refine zo (fun k:Nat=>[(1,.pv (.ptr (zq g) 0)),(3,.pv (pi k))]) (fun _=>[]) (fun k=>k≤g.types.length∧zaE g=((g.types.drop k).any zc9||g.methods.any zcB)) (fun k=>g.types.length - k) 0 ⟨by simp,by simp_all [zaE]⟩ (tS) tH ?_
 have ht:g.types.length≤40:=by simp_all;omega
 have hm:g.methods.length≤80:=by simp_all;omega
 rintro k ⟨hk,hr⟩
 by_cases hlt:k < g.types.length
 ·have he:=zA (f:=Zb) hlt
  rw [QF hlt] at hr
  repeat' (first|(refine shX ?_;first|refine qX he ?_)|refine sK ?_|refine sC (fun _=>?_) (fun _=>?_)|fail)
  all_goals first|(refine retq rfl ?_;first|(simp only [zi,zc9,BL,List.length_map] at *;simp only [*,BL,List.length_map];done)|(simp_all [zi,zc9];done)|(simp_all [zi,zc9];omega)|(simp_all [zi,zc9];intros;omega))|(refine ⟨k + 1,⟨by omega,?_⟩,tD,tS,tH⟩;first|(simp only [zc9,BL,List.length_map] at *;simp only [*,BL,List.length_map];done)|(simp_all [zc9];done)|(simp_all [zc9];omega)|(simp_all [zc9];intros;omega))|(trace "LEND";trace_state)
 ·rw [drop_end (by omega)] at hr
  repeat' (first|refine sK ?_|refine sC (fun _=>?_) (fun _=>?_)|fail)
  refine zo (fun k:Nat=>[(1,.pv (.ptr (zq g) 0)),(4,.pv (pi k))]) (fun _=>[]) (fun k=>k≤g.methods.length∧zaE g=(g.methods.drop k).any zcB) (fun k=>g.methods.length - k) 0 ⟨by simp,by simp_all⟩ (tS) tH ?_
  clear hk hr hlt
  rintro k ⟨hk,hr⟩
  by_cases hlt:k < g.methods.length
  ·have he:=zA (f:=zG) hlt
   rw [QF hlt] at hr
   repeat' (first|(refine shX ?_;first|refine qX he ?_)|refine sK ?_|refine sC (fun _=>?_) (fun _=>?_)|fail)
   all_goals first|(refine retq rfl ?_;first|(simp only [zi,zcB,BL,List.length_map] at *;simp only [*,BL,List.length_map];done)|(simp_all [zi,zcB];done)|(simp_all [zi,zcB];omega)|(simp_all [zi,zcB];intros;omega))|(refine ⟨k + 1,⟨by omega,?_⟩,tD,tS,tH⟩;first|(simp only [zcB,BL,List.length_map] at *;simp only [*,BL,List.length_map];done)|(simp_all [zcB];done)|(simp_all [zcB];omega)|(simp_all [zcB];intros;omega))|(trace "LEND";trace_state)
  ·rw [drop_end (by omega)] at hr
   repeat' (first|refine sK ?_|refine sC (fun _=>?_) (fun _=>?_)|fail)
   all_goals first|(refine retq rfl ?_;first|(simp only [zi,BL,List.length_map] at *;simp only [*,BL,List.length_map];done)|(simp_all [zi];done)|(simp_all [zi];omega)|(simp_all [zi];intros;omega))|(refine ZA rfl ?_;first|(simp only [zi,BL,List.length_map] at *;simp only [*,BL,List.length_map];done)|(simp_all [zi];done)|(simp_all [zi];omega)|(simp_all [zi];intros;omega))|skip
def zec (g:Img) (i:Nat):Bool :=
 let f:=g.fields.getD i default
 Va f.name&&decide (0≤f.owner)&&decide (f.owner < g.types.length)&&(i==0||decide ((g.fields.getD (i - 1) default).owner≤f.owner))&&Qm f.ty 1 g.types.length
def zb2 (g:Img) (i:Nat):Bool :=
 let m:=g.methods.getD i default
 decide (0≤m.owner)&&decide (m.owner < g.types.length)&&(i==0||decide ((g.methods.getD (i - 1) default).owner≤m.owner))&&yV g m
def zJ (g:Img):Bool :=
 decide ((g.types.length:Int)≤32)&&decide ((g.fields.length:Int)≤64)&&decide ((g.methods.length:Int)≤64)&&decide (-1≤g.entry)&&decide (g.entry < g.methods.length)
 && g.types.all (fun t=>qy t g.types.length)&&(List.range g.fields.length).all (zec g)&&(List.range g.methods.length).all (zb2 g)
theorem yZ {p:Nat→Bool} {n k:Nat} (h:k < n):((List.range n).drop k).all p=(p k&&((List.range n).drop (k + 1)).all p):=by
 rw [ZO (by simpa using h)];simp
theorem zhi {p:Nat→Bool} {n k:Nat} (h:k < n):((List.range n).drop k).any p=(p k||((List.range n).drop (k + 1)).any p):=by
 rw [QF (by simpa using h)];simp
theorem zx {α:Type} {d:α} {l:List α} {k:Nat} (h:k < l.length):l.getD k d=l[k]:=by rw [List.getD_eq_getElem?_getD,List.getElem?_eq_getElem h];rfl
theorem zjS {g:Img} (h:(zq g).lenOk):g.types.length≤9223372036854775807∧g.fields.length≤9223372036854775807∧g.methods.length≤9223372036854775807:=by
 simp only [zq,PV.lenOk,lensOk,maxLen,List.length_map] at h
 exact ⟨h.1.1,h.2.1.1,h.2.2.1.1⟩
theorem zmz {g:Img} {k:Nat} (h:k < g.fields.length):zec g k=(Va g.fields[k].name&&decide (0≤g.fields[k].owner)&&decide (g.fields[k].owner < g.types.length)&&(k==0||decide ((g.fields.getD (k - 1) default).owner≤g.fields[k].owner))&&Qm g.fields[k].ty 1 g.types.length):=by
 rw [zec,zx h]
theorem zrp {g:Img} {k:Nat} (h:k < g.methods.length):zb2 g k=(decide (0≤g.methods[k].owner)&&decide (g.methods[k].owner < g.types.length)&&(k==0||decide ((g.methods.getD (k - 1) default).owner≤g.methods[k].owner))&&yV g g.methods[k]):=by
 rw [zb2,zx h]
set_option maxHeartbeats 1000000 in
theorem zm4 (g:Img):ACall Tryz.prog 231 [zq g] (pb (zJ g)):=by
 refine zf zh Tryz.func231 rfl (by kernel_rfl) Tryz.ntmps231 (by simp) _ rfl (fun hw gB hgB=>?_)
 obtain ⟨hl1,hl2,hl3⟩:=zjS hw.1
 repeat' (first|refine sA ?_|refine sC (fun _=>?_) (fun _=>?_)|fail)
 all_goals first|(refine retq rfl ?_;first|(simp only [zi,zJ,BL,List.length_map] at *;simp only [*,BL,List.length_map];done)|(simp_all [zi,zJ];done)|(simp_all [zi,zJ];omega)|(simp_all [zi,zJ];intros;omega))|(refine ZA rfl ?_;first|(simp only [zi,zJ,BL,List.length_map] at *;simp only [*,BL,List.length_map];done)|(simp_all [zi,zJ];done)|(simp_all [zi,zJ];omega)|(simp_all [zi,zJ];intros;omega))|skip
 refine zo (fun k:Nat=>[(1,.pv (.ptr (zq g) 0)),(3,.pv (pi (g.types.length:Int))),(4,.pv (pi k))]) (fun _=>[]) (fun k=>k≤g.types.length∧zJ g=((g.types.drop k).all (fun t=>qy t g.types.length)&&(List.range g.fields.length).all (zec g)&&(List.range g.methods.length).all (zb2 g))) (fun k=>g.types.length - k) 0 ⟨by simp,by simp_all [zJ]⟩ (tS) tH ?_
 rintro k ⟨hk,hr⟩
 by_cases hlt:k < g.types.length
 ·have he:=zA (f:=Zb) hlt
  rw [ZO hlt] at hr
  repeat' (first|(refine shC ?_;first|refine qC (zgE _ _) ?_)|(refine shX ?_;first|refine qX he ?_)|refine sK ?_|refine sC (fun _=>?_) (fun _=>?_)|fail)
  all_goals first|(refine retq rfl ?_;first|(simp only [zi,BL,List.length_map] at *;simp only [*,BL,List.length_map];done)|(simp_all [zi];done)|(simp_all [zi];omega)|(simp_all [zi];intros;omega))|(refine ⟨k + 1,⟨by omega,?_⟩,tD,tS,tH⟩;first|(simp only [BL,List.length_map] at *;simp only [*,BL,List.length_map];done)|(simp_all [];done)|(simp_all [];omega)|(simp_all [];intros;omega))|(trace "LEND";trace_state)
 ·rw [drop_end (by omega)] at hr
  repeat' (first|refine sK ?_|refine sC (fun _=>?_) (fun _=>?_)|fail)
  refine zo (fun k:Nat=>[(1,.pv (.ptr (zq g) 0)),(3,.pv (pi (g.types.length:Int))),(5,.pv (pi k))]) (fun _=>[]) (fun k=>k≤g.fields.length∧zJ g=(((List.range g.fields.length).drop k).all (zec g)&&(List.range g.methods.length).all (zb2 g))) (fun k=>g.fields.length - k) 0 ⟨by simp,by simp_all⟩ (tS) tH ?_
  clear hk hr hlt
  rintro k ⟨hk,hr⟩
  by_cases hlt:k < g.fields.length
  ·have he:=zA (f:=Yc) hlt
   rw [yZ hlt,zmz hlt] at hr
   by_cases hk0:k=0
   ·subst hk0
    repeat' (first|(refine shC ?_;first|refine qC (zcV _) ?_|refine qC (zbd _ _ _) ?_)|(refine shX ?_;first|refine qX he ?_)|refine sK ?_|refine sC (fun _=>?_) (fun _=>?_)|fail)
    all_goals first|(refine retq rfl ?_;first|(simp only [zi,BL,List.length_map] at *;simp only [*,BL,List.length_map];done)|(simp_all [zi];done)|(simp_all [zi];omega)|(simp_all [zi];intros;omega))|(refine ⟨0 + 1,⟨by omega,?_⟩,tD,tS,tH⟩;first|(simp only [BL,List.length_map] at *;simp only [*,BL,List.length_map];done)|(simp_all [];done)|(simp_all [];omega)|(simp_all [];intros;omega))|(trace "LEND";trace_state)
   ·have hlp:k - 1 < g.fields.length:=by omega
    have hw1:IntKind.i64.wrap ((k:Int) - 1)=((k - 1:Nat):Int):=by rw [wrap_in (by omega) (by omega)];omega
    have hep:=zA (f:=Yc) hlp
    rw [←hw1] at hep
    rw [zx hlp,beq_eq_false_iff_ne.2 hk0] at hr
    repeat' (first|(refine shC ?_;first|refine qC (zcV _) ?_|refine qC (zbd _ _ _) ?_)|(refine shX ?_;first|refine qX he ?_|refine zu rfl (zk zh rfl rfl rfl rfl rfl rfl (by rw [hw1];omega) hep) rfl rfl ?_|refine AD.step _ _ _ _ _ rfl (zk zh rfl rfl rfl rfl rfl rfl (by rw [hw1];omega) hep) rfl rfl ?_)|refine sK ?_|refine sC (fun _=>?_) (fun _=>?_)|fail)
    all_goals first|(refine retq rfl ?_;first|(simp only [zi,BL,List.length_map] at *;simp only [*,BL,List.length_map];done)|(simp_all [zi];done)|(simp_all [zi];omega)|(simp_all [zi];intros;omega))|(refine ⟨k + 1,⟨by omega,?_⟩,tD,tS,tH⟩;first|(simp only [BL,List.length_map] at *;simp only [*,BL,List.length_map];done)|(simp_all [];done)|(simp_all [];omega)|(simp_all [];intros;omega))|(trace "LEND";trace_state)
  ·rw [drop_end (by simp;omega)] at hr
   repeat' (first|refine sK ?_|refine sC (fun _=>?_) (fun _=>?_)|fail)
   refine zo (fun k:Nat=>[(1,.pv (.ptr (zq g) 0)),(3,.pv (pi (g.types.length:Int))),(7,.pv (pi k))]) (fun _=>[]) (fun k=>k≤g.methods.length∧zJ g=(((List.range g.methods.length).drop k).all (zb2 g))) (fun k=>g.methods.length - k) 0 ⟨by simp,by simp_all⟩ (tS) tH ?_
   clear hk hr hlt
   rintro k ⟨hk,hr⟩
   by_cases hlt:k < g.methods.length
   ·have he:=zA (f:=zG) hlt
    rw [yZ hlt,zrp hlt] at hr
    by_cases hk0:k=0
    ·subst hk0
     repeat' (first|(refine shC ?_;first|refine qC (zai _ _) ?_)|(refine shX ?_;first|refine qX he ?_)|refine sK ?_|refine sC (fun _=>?_) (fun _=>?_)|fail)
     all_goals first|(refine retq rfl ?_;first|(simp only [zi,BL,List.length_map] at *;simp only [*,BL,List.length_map];done)|(simp_all [zi];done)|(simp_all [zi];omega)|(simp_all [zi];intros;omega))|(refine ⟨0 + 1,⟨by omega,?_⟩,tD,tS,tH⟩;first|(simp only [BL,List.length_map] at *;simp only [*,BL,List.length_map];done)|(simp_all [];done)|(simp_all [];omega)|(simp_all [];intros;omega))|(trace "LEND";trace_state)
    ·have hlp:k - 1 < g.methods.length:=by omega
     have hw1:IntKind.i64.wrap ((k:Int) - 1)=((k - 1:Nat):Int):=by rw [wrap_in (by omega) (by omega)];omega
     have hep:=zA (f:=zG) hlp
     rw [←hw1] at hep
     rw [zx hlp,beq_eq_false_iff_ne.2 hk0] at hr
     repeat' (first|(refine shC ?_;first|refine qC (zai _ _) ?_)|(refine shX ?_;first|refine qX he ?_|refine zu rfl (zk zh rfl rfl rfl rfl rfl rfl (by rw [hw1];omega) hep) rfl rfl ?_|refine AD.step _ _ _ _ _ rfl (zk zh rfl rfl rfl rfl rfl rfl (by rw [hw1];omega) hep) rfl rfl ?_)|refine sK ?_|refine sC (fun _=>?_) (fun _=>?_)|fail)
     all_goals first|(refine retq rfl ?_;first|(simp only [zi,BL,List.length_map] at *;simp only [*,BL,List.length_map];done)|(simp_all [zi];done)|(simp_all [zi];omega)|(simp_all [zi];intros;omega))|(refine ⟨k + 1,⟨by omega,?_⟩,tD,tS,tH⟩;first|(simp only [BL,List.length_map] at *;simp only [*,BL,List.length_map];done)|(simp_all [];done)|(simp_all [];omega)|(simp_all [];intros;omega))|(trace "LEND";trace_state)
   ·rw [drop_end (by simp;omega)] at hr
    repeat' (first|refine sK ?_|refine sC (fun _=>?_) (fun _=>?_)|fail)
    all_goals first|(refine retq rfl ?_;first|(simp only [zi,BL,List.length_map] at *;simp only [*,BL,List.length_map];done)|(simp_all [zi];done)|(simp_all [zi];omega)|(simp_all [zi];intros;omega))|(refine ZA rfl ?_;first|(simp only [zi,BL,List.length_map] at *;simp only [*,BL,List.length_map];done)|(simp_all [zi];done)|(simp_all [zi];omega)|(simp_all [zi];intros;omega))|skip
def za0 (g:Img):Nat→Int→List Int→List Int
 | 0,_,out=>out
 | n + 1,t,out=>match typeAt g t with
  | some td=>if t∈out then out else za0 g n td.ext (out++[t])
  | none=>out
def up (g:Img) (t:Int):List Int:=za0 g (g.types.length + 1) t []
def UpInv (g:Img) (t0:Int) (x:Int × List Int):Prop:=za0 g (g.types.length + 1 - x.2.length) x.1 x.2=up g t0∧x.2.Nodup∧∀ y∈x.2,0≤y∧y < g.types.length
theorem XJ {g:Img} {t:Int} {td:TD} (h:typeAt g t=some td):0≤t∧t < g.types.length:=by
 unfold typeAt at h
 split at h
 ·have:=(List.getElem?_eq_some_iff.1 h).1;omega
 ·cases h
theorem UpInv.len {g:Img} {t0:Int} {x:Int × List Int} (h:UpInv g t0 x):x.2.length≤g.types.length:=qR _ _ h.2.1 h.2.2
theorem UpInv.next {g:Img} {t0:Int} {t:Int} {out:List Int} {td:TD} (h:UpInv g t0 (t,out)) (ht:typeAt g t=some td) (hn:t∉out):UpInv g t0 (td.ext,out++[t]):=by
 have hl:=h.len
 obtain ⟨h1,h2,h3⟩:=h
 simp only at h1 h2 h3 hl
 rw [show g.types.length + 1 - out.length=(g.types.length + 1 - (out++[t]).length) + 1 by simp;omega,za0,ht] at h1
 simp only [hn,if_false] at h1
 refine ⟨h1,?_,?_⟩
 ·rw [List.nodup_append];simp [h2];intro a ha e;subst e;exact hn ha
 ·intro y hy
  simp only [List.mem_append,List.mem_singleton] at hy
  rcases hy with hy|rfl
  ·exact h3 y hy
  ·exact XJ ht
theorem UpInv.stop {g:Img} {t0:Int} {t:Int} {out:List Int} (h:UpInv g t0 (t,out)) (hs:typeAt g t=none∨t∈out):out=up g t0:=by
 have hl:=h.len
 obtain ⟨h1,h2,h3⟩:=h
 simp only at h1 h2 h3 hl
 rw [show g.types.length + 1 - out.length=(g.types.length - out.length) + 1 by omega,za0] at h1
 cases ht:typeAt g t with
 | none=>rw [ht] at h1;exact h1
 | some td =>
  rcases hs with hs|hs
  ·rw [ht] at hs;cases hs
  ·rw [ht] at h1;simpa [hs] using h1
set_option maxHeartbeats 1000000 in
theorem VH (g:Img) (t:Int) (hg:g.types.length≤1000):ACall Tryz.prog 147 [zq g,pi t] (ints (up g t)):=by
 refine zf zh Tryz.func147 rfl (by kernel_rfl) Tryz.ntmps147 (by simp) _ rfl (fun hw gB hgB=>?_)
 repeat' (first|refine sA ?_|refine sC (fun _=>?_) (fun _=>?_)|fail)
 refine yS (t:=5) 0 3 1 (by decide) rfl rfl ?_
 refine zo (fun x:Int × List Int=>[(1,.pv (pi x.1)),(2,.pv (.ptr (zq g) 0)),(5,.own 0)]) (fun x=>[(0,.row 3 1 (x.2.map pi))]) (UpInv g t) (fun x=>g.types.length + 1 - x.2.length) (t,[]) ⟨rfl,by simp,by simp⟩ (tS) ⟨zn rfl zl,rfl⟩ ?_
 rintro ⟨t',out⟩ hi
 have hlen:=hi.len
 simp only at hlen
 cases ht:typeAt g t' with
 | none =>
  have hth:there g t'=false:=by
   cases hh:there g t' with
   | false=>rfl
   | true=>obtain ⟨td,h⟩:=(Zu g t').1 hh;rw [ht] at h;cases h
  have c1:ACall Tryz.prog 105 [zq g,pi t'] (pb false):=by rw [←hth];exact Yg g t'
  repeat' (first|(refine shC ?_;first|refine qC c1 ?_)|refine sK ?_|refine sC (fun _=>?_) (fun _=>?_)|fail)
  exact retq rfl (by rw [←hi.stop (.inl ht)];rfl)
 | some td =>
  have hth:there g t'=true:=(Zu g t').2 ⟨td,ht⟩
  have c1:ACall Tryz.prog 105 [zq g,pi t'] (pb true):=by rw [←hth];exact Yg g t'
  obtain ⟨h0,he⟩:=yQ ht
  by_cases hm:t'∈out
  ·have c2:ACall Tryz.prog 148 [ints out,pi t'] (pb true):=by have:=QE out t';rwa [decide_eq_true hm] at this
   repeat' (first|(refine shC ?_;first|refine qC c1 ?_|refine qC c2 ?_)|refine sK ?_|refine sC (fun _=>?_) (fun _=>?_)|fail)
   exact retq rfl (by rw [←hi.stop (.inr hm)];rfl)
  ·have c2:ACall Tryz.prog 148 [ints out,pi t'] (pb false):=by have:=QE out t';rwa [decide_eq_false hm] at this
   have hnx:=hi.next ht hm
   repeat' (first|(refine shC ?_;first|refine qC c1 ?_|refine qC c2 ?_)|(refine shX ?_;first|refine zu rfl (zk zh rfl rfl rfl rfl rfl rfl h0 he) rfl rfl ?_|refine AD.step _ _ _ _ _ rfl (zk zh rfl rfl rfl rfl rfl rfl h0 he) rfl rfl ?_)|(refine zI ?_;first|refine yc zh rfl rfl rfl rfl rfl rfl rfl (by show _ * 8≤_;simp;omega) (by simp;omega) rfl rfl ?_)|refine sK ?_|refine sC (fun _=>?_) (fun _=>?_)|fail)
   refine ⟨(td.ext,out++[t']),hnx,by simp;omega,tS,⟨yX rfl (by simp) zl,rfl⟩⟩
theorem zme {g:Img}:∀ (n:Nat) (t:Int) (out:List Int),out.Nodup→(∀ y∈out,0≤y∧y < g.types.length)→(za0 g n t out).Nodup∧∀ y∈za0 g n t out,0≤y∧y < g.types.length
 | 0,t,out,h1,h2=>⟨h1,h2⟩
 | n + 1,t,out,h1,h2=>by
  rw [za0]
  cases ht:typeAt g t with
  | none=>exact ⟨h1,h2⟩
  | some td =>
   by_cases hm:t∈out
   ·simp only [hm,if_true];exact ⟨h1,h2⟩
   ·simp only [hm,if_false]
    refine zme n td.ext (out++[t]) ?_ ?_
    ·rw [List.nodup_append];simp [h1];intro a ha e;subst e;exact hm ha
    ·intro y hy
     simp only [List.mem_append,List.mem_singleton] at hy
     rcases hy with hy|rfl
     ·exact h2 y hy
     ·exact XJ ht
theorem XR (g:Img) (t:Int):(up g t).Nodup∧∀ y∈up g t,0≤y∧y < g.types.length:=zme _ t [] (by simp) (by simp)
theorem ZF {g:Img} {t:Int} (h:0≤t∧t < g.types.length):∃ td,typeAt g t=some td :=
 ⟨_,by rw [typeAt,if_pos h.1];exact List.getElem?_eq_getElem (by omega)⟩
def yg (g:Img) (u:Int):List Int:=match typeAt g u with|some td=>td.faces|none=>[]
def zaP (g:Img) (met:List Int) (f:Int):List Int:=if there g f=true∧f∉met then met++[f] else met
def MInv (g:Img) (met:List Int):Prop:=met.Nodup∧∀ y∈met,0≤y∧y < g.types.length
theorem MInv.len {g:Img} {met:List Int} (h:MInv g met):met.length≤g.types.length:=qR _ _ h.1 h.2
theorem zr5 {g:Img} {t:Int} (h:there g t=true):0≤t∧t < g.types.length:=by
 obtain ⟨td,h⟩:=(Zu g t).1 h;exact XJ h
theorem MInv.add {g:Img} {met:List Int} (h:MInv g met) (f:Int):MInv g (zaP g met f):=by
 unfold zaP
 split
 ·rename_i hc
  refine ⟨?_,?_⟩
  ·rw [List.nodup_append];simp [h.1];intro a ha e;subst e;exact hc.2 ha
  ·intro y hy
   simp only [List.mem_append,List.mem_singleton] at hy
   rcases hy with hy|rfl
   ·exact h.2 y hy
   ·exact zr5 hc.1
 ·exact h
theorem MInv.fold {g:Img}:∀ (l:List Int) {met:List Int},MInv g met→MInv g (l.foldl (zaP g) met)
 | [],_,h=>h
 | f::l,_,h=>MInv.fold l (h.add f)
def Wi (g:Img) (met:List Int) (u:Int):List Int:=(yg g u).foldl (zaP g) met
theorem MInv.step {g:Img} {met:List Int} (h:MInv g met) (u:Int):MInv g (Wi g met u):=MInv.fold _ h
def zse (g:Img) (t:Int):List Int:=(up g t).foldl (Wi g) []
def zjB (g:Img):Nat→Nat→List Int→List Int
 | 0,_,met=>met
 | n + 1,i,met=>match met[i]? with|some u=>zjB g n (i + 1) (Wi g met u)|none=>met
def znu (g:Img) (t:Int):List Int:=zjB g (g.types.length + 1) 0 (zse g t)
def nums (n:Nat):List Int:=(List.range n).map fun i:Nat=>(i:Int)
def Zi (g:Img) (t:Int):List Int:=(nums g.types.length).filter fun f=>decide (f∈znu g t)
theorem QW {α β:Type} {f:β→α→β} {l:List α} {k:Nat} {b:β} (h:k < l.length):(l.drop k).foldl f b=(l.drop (k + 1)).foldl f (f b l[k]):=by rw [drop_cons h];rfl
theorem zrG {g:Img} {met:List Int} {f:Int} {i:Nat} (h:i < met.length):i < (zaP g met f).length:=by
 unfold zaP;split
 ·simp;omega
 ·exact h
theorem zqW {g:Img} {met:List Int} {f:Int} {i:Nat} {x:Int} (h:i < met.length) (hx:met[i]?=some x):(zaP g met f)[i]?=some x:=by
 unfold zaP;split
 ·rw [List.getElem?_append_left h];exact hx
 ·exact hx
set_option maxHeartbeats 1000000 in
theorem zfP (g:Img) (t:Int) (hg:g.types.length≤1000) (hfc:∀ td∈g.types,td.faces.length≤1000):ACall Tryz.prog 109 [zq g,pi t] (ints (Zi g t)):=by
 refine zf zh Tryz.func109 rfl (by kernel_rfl) Tryz.ntmps109 (by simp) _ rfl (fun hw gB hgB=>?_)
 have hui:=XR g t
 have hul:=qR _ _ hui.1 hui.2
 repeat' (first|(refine shC ?_;first|refine qC (VH g t hg) ?_)|refine sA ?_|refine sC (fun _=>?_) (fun _=>?_)|fail)
 refine yS (t:=5) 0 3 1 (by decide) rfl rfl ?_
 refine zo (fun x:Nat × List Int=>[(2,.pv (.ptr (zq g) 0)),(5,.own 0),(6,.pv (ints (up g t))),(7,.pv (pi x.1))]) (fun x=>[(0,.row 3 1 (x.2.map pi))])
  (fun x=>x.1≤(up g t).length∧MInv g x.2∧((up g t).drop x.1).foldl (Wi g) x.2=zse g t) (fun x=>(up g t).length - x.1) (0,[]) ⟨by simp,⟨by simp,by simp⟩,rfl⟩ (tS) ⟨zn rfl zl,rfl⟩ ?_
 rintro ⟨i,met⟩ ⟨hi,hmi,hr⟩
 simp only at hi hmi hr
 by_cases hlt:i < (up g t).length
 ·have heU:=yT hlt
  obtain ⟨td,htd⟩:=ZF (hui.2 _ (List.getElem_mem hlt))
  obtain ⟨h0,heT⟩:=yQ htd
  have hfl:td.faces.length≤1000:=hfc td (by have:=htd;rw [typeAt,if_pos h0] at this;exact List.mem_of_getElem? this)
  rw [QW hlt,show Wi g met (up g t)[i]=td.faces.foldl (zaP g) met by rw [Wi,yg,htd]] at hr
  repeat' (first|refine sK ?_|refine sC (fun _=>?_) (fun _=>?_)|fail)
  refine zo (fun x:Nat × List Int=>[(2,.pv (.ptr (zq g) 0)),(5,.own 0),(6,.pv (ints (up g t))),(7,.pv (pi i)),(8,.pv (pi x.1))]) (fun x=>[(0,.row 3 1 (x.2.map pi))])
   (fun x=>x.1≤td.faces.length∧MInv g x.2∧(td.faces.drop x.1).foldl (zaP g) x.2=td.faces.foldl (zaP g) met) (fun x=>td.faces.length - x.1) (0,met) ⟨by simp,hmi,rfl⟩ (tS) ⟨zn rfl zl,rfl⟩ ?_
  rintro ⟨k,met'⟩ ⟨hk,hmi',hr'⟩
  simp only at hk hmi' hr'
  by_cases hltk:k < td.faces.length
  ·have heF:=yT hltk
   rw [QW hltk] at hr'
   have hml:=hmi'.len
   repeat' (first|(refine shC ?_;first|refine qC (Yg _ _) ?_|refine qC (QE _ _) ?_)|(refine shX ?_;first|refine qX heU ?_|refine zu rfl (zk zh rfl rfl rfl rfl rfl rfl h0 heT) rfl rfl ?_|refine AD.step _ _ _ _ _ rfl (zk zh rfl rfl rfl rfl rfl rfl h0 heT) rfl rfl ?_|refine qX heF ?_)|(refine zI ?_;first|refine yc zh rfl rfl rfl rfl rfl rfl rfl (by show _ * 8≤_;simp;omega) (by simp;omega) rfl rfl ?_)|refine sK ?_|refine sC (fun _=>?_) (fun _=>?_)|fail)
   all_goals refine ⟨(k + 1,zaP g met' td.faces[k]),⟨hltk,hmi'.add _,hr'⟩,tD,tS,⟨yX rfl ?_ zl,rfl⟩⟩
   all_goals simp_all [zaP]
  ·rw [drop_end (by omega)] at hr'
   repeat' (first|(refine shX ?_;first|refine qX heU ?_|refine zu rfl (zk zh rfl rfl rfl rfl rfl rfl h0 heT) rfl rfl ?_|refine AD.step _ _ _ _ _ rfl (zk zh rfl rfl rfl rfl rfl rfl h0 heT) rfl rfl ?_)|refine sK ?_|refine sC (fun _=>?_) (fun _=>?_)|fail)
   refine ⟨(i + 1,met'),⟨hlt,hmi',by rw [←hr,←hr'];rfl⟩,tD,tS,⟨yX rfl rfl zl,rfl⟩⟩
 ·rw [drop_end (by omega)] at hr
  repeat' (first|refine sK ?_|refine sC (fun _=>?_) (fun _=>?_)|fail)
  obtain rfl:met=zse g t:=hr
  refine zo (fun x:Nat × List Int=>[(2,.pv (.ptr (zq g) 0)),(5,.own 0),(10,.pv (pi x.1))]) (fun x=>[(0,.row 3 1 (x.2.map pi))])
   (fun x=>x.1≤x.2.length∧MInv g x.2∧zjB g (g.types.length + 1 - x.1) x.1 x.2=znu g t) (fun x=>g.types.length + 1 - x.1) (0,zse g t) ⟨by simp,hmi,rfl⟩ (tS) ⟨zn rfl zl,rfl⟩ ?_
  clear hi hmi hlt
  rintro ⟨i,met⟩ ⟨hi,hmi,hr⟩
  simp only at hi hmi hr
  have hml:=hmi.len
  rw [show g.types.length + 1 - i=(g.types.length - i) + 1 by omega,zjB] at hr
  by_cases hlt:i < met.length
  ·have heU:=yT hlt
   obtain ⟨td,htd⟩:=ZF (hmi.2 _ (List.getElem_mem hlt))
   obtain ⟨h0,heT⟩:=yQ htd
   have hfl:td.faces.length≤1000:=hfc td (by have:=htd;rw [typeAt,if_pos h0] at this;exact List.mem_of_getElem? this)
   rw [List.getElem?_eq_getElem hlt] at hr
   simp only at hr
   rw [show Wi g met met[i]=td.faces.foldl (zaP g) met by rw [Wi,yg,htd]] at hr
   repeat' (first|refine sK ?_|refine sC (fun _=>?_) (fun _=>?_)|fail)
   refine zo (fun x:Nat × List Int=>[(2,.pv (.ptr (zq g) 0)),(5,.own 0),(10,.pv (pi i)),(11,.pv (pi x.1))]) (fun x=>[(0,.row 3 1 (x.2.map pi))])
    (fun x=>x.1≤td.faces.length∧MInv g x.2∧(td.faces.drop x.1).foldl (zaP g) x.2=td.faces.foldl (zaP g) met∧i < x.2.length∧x.2[i]?=some met[i]) (fun x=>td.faces.length - x.1) (0,met) ⟨by simp,hmi,rfl,hlt,List.getElem?_eq_getElem hlt⟩ (tS) ⟨zn rfl zl,rfl⟩ ?_
   rintro ⟨k,met'⟩ ⟨hk,hmi',hr',hli',hgi'⟩
   simp only at hk hmi' hr' hli' hgi'
   have heU':=yT hli'
   rw [List.getElem?_eq_getElem hli',Option.some.injEq] at hgi'
   rw [hgi'] at heU'
   by_cases hltk:k < td.faces.length
   ·have heF:=yT hltk
    rw [QW hltk] at hr'
    have hml:=hmi'.len
    repeat' (first|(refine shC ?_;first|refine qC (Yg _ _) ?_|refine qC (QE _ _) ?_)|(refine shX ?_;first|refine qX heU' ?_|refine zu rfl (zk zh rfl rfl rfl rfl rfl rfl h0 heT) rfl rfl ?_|refine AD.step _ _ _ _ _ rfl (zk zh rfl rfl rfl rfl rfl rfl h0 heT) rfl rfl ?_|refine qX heF ?_)|(refine zI ?_;first|refine yc zh rfl rfl rfl rfl rfl rfl rfl (by show _ * 8≤_;simp;omega) (by simp;omega) rfl rfl ?_)|refine sK ?_|refine sC (fun _=>?_) (fun _=>?_)|fail)
    all_goals refine ⟨(k + 1,zaP g met' td.faces[k]),⟨hltk,hmi'.add _,hr',zrG hli',zqW hli' (by rw [List.getElem?_eq_getElem hli',hgi'])⟩,tD,tS,⟨yX rfl ?_ zl,rfl⟩⟩
    all_goals simp_all [zaP]
   ·rw [drop_end (by omega)] at hr'
    repeat' (first|(refine shX ?_;first|refine qX heU' ?_|refine zu rfl (zk zh rfl rfl rfl rfl rfl rfl h0 heT) rfl rfl ?_|refine AD.step _ _ _ _ _ rfl (zk zh rfl rfl rfl rfl rfl rfl h0 heT) rfl rfl ?_)|refine sK ?_|refine sC (fun _=>?_) (fun _=>?_)|fail)
    refine ⟨(i + 1,met'),⟨hli',hmi',?_⟩,tD,tS,⟨yX rfl rfl zl,rfl⟩⟩
    simp only
    rw [show g.types.length + 1 - (i + 1)=g.types.length - i by omega,←hr,←hr'];rfl
  ·rw [List.getElem?_eq_none (by omega)] at hr
   obtain rfl:met=znu g t:=hr
   repeat' (first|refine sK ?_|refine sC (fun _=>?_) (fun _=>?_)|fail)
   clear hi hlt
   refine yS (t:=13) 1 3 1 (by decide) rfl rfl ?_
   refine zo (fun x:Nat × List Int=>[(2,.pv (.ptr (zq g) 0)),(5,.own 0),(13,.own 1),(14,.pv (pi x.1))]) (fun x=>[(0,.row 3 1 ((znu g t).map pi)),(1,.row 3 1 (x.2.map pi))])
    (fun x=>x.1≤g.types.length∧x.2.length≤x.1∧x.2++((nums g.types.length).drop x.1).filter (fun f=>decide (f∈znu g t))=Zi g t) (fun x=>g.types.length - x.1) (0,[]) ⟨by simp,by simp,rfl⟩ (tS) ⟨zn rfl (zn rfl zl),rfl⟩ ?_
   rintro ⟨k,out⟩ ⟨hk,hol,hr⟩
   simp only at hk hol hr
   by_cases hlt:k < g.types.length
   ·rw [drop_cons (by simpa [nums] using hlt),List.filter_cons,show (nums g.types.length)[k]'(by simpa [nums] using hlt)=(k:Int) by simp [nums]] at hr
    repeat' (first|(refine shC ?_;first|refine qC (QE _ _) ?_)|(refine zI ?_;first|refine yc zh rfl rfl rfl rfl rfl rfl rfl (by show _ * 8≤_;simp;omega) (by simp;omega) rfl rfl ?_)|refine sK ?_|refine sC (fun _=>?_) (fun _=>?_)|fail)
    ·rename_i hx
     simp only at hx
     rw [hx] at hr
     exact ⟨(k + 1,out++[(k:Int)]),⟨by simp;omega,by simp;omega,by simpa using hr⟩,tD,tS,⟨zn rfl (yX rfl (by simp) zl),rfl⟩⟩
    ·rename_i hx
     simp only at hx
     rw [hx] at hr
     exact ⟨(k + 1,out),⟨by simp;omega,by simp;omega,by simpa using hr⟩,tD,tS,⟨zn rfl (yX rfl rfl zl),rfl⟩⟩
   ·rw [drop_end (by simp [nums];omega)] at hr
    repeat' (first|refine sK ?_|refine sC (fun _=>?_) (fun _=>?_)|fail)
    exact retq rfl (by rw [←hr];simp [zi,ints])
end Go.Cg
