/- A part of the walks by abstract values: no statement of its own. -/
import Derived.Test.YtdngpcmllgnbjaaGreatE35
import Derived.Test.YtdngpcmllgnbjaaGreatE13
import Derived.Test.YtdngpcmllgnbjaaGreatE14
import Derived.Test.YtdngpcmllgnbjaaGreatE19
import Derived.Test.YtdngpcmllgnbjaaGreatE8
import Derived.Test.YtdngpcmllgnbjaaGreatE36
set_option linter.unusedVariables false
set_option linter.unusedSimpArgs false
namespace Go.Cg
open Go.Proofs
set_option maxHeartbeats 20000000
def Xo (g:Img) (k:Nat):List Int:=(List.range k).map fun t:Nat=>zF g (t:Int)
def zbA (g:Img) (k:Nat):List (List Ty):=(List.range k).map fun t:Nat=>QL g (t:Int)
def zaS (g:Img):Nat→List (PV × Int)
 | 0=>[]
 | k + 1=>if zF g (k:Int)==1 then zaS g k++[(yK ⟨6,(k:Int),0,false⟩,((cellsA g ⟨6,(k:Int),0,false⟩).length:Int))] else zaS g k
theorem zmw (g:Img) (k:Nat):Xo g (k + 1)=Xo g k++[zF g (k:Int)]:=by simp [Xo,List.range_succ]
theorem zoD (g:Img) (k:Nat):zbA g (k + 1)=zbA g k++[QL g (k:Int)]:=by simp [zbA,List.range_succ]
theorem eqTy (a b:Int):eqE tb 8 44 (.agg [pi 6,pi a,pi 0,pb false]) (.agg [pi 6,pi b,pi 0,pb false])=some (a==b):=by
 have:eqE tb 8 44 (.agg [pi 6,pi a,pi 0,pb false]) (.agg [pi 6,pi b,pi 0,pb false])=some ((6:Int)==6&&((a==b)&&((0:Int)==0&&((false==false)&&true)))):=rfl
 rw [this];simp
theorem ziZ (g:Img) (a:Nat):∀ k,k≤a→zca tb 44 (.agg [pi 6,pi (a:Int),pi 0,pb false]) (zaS g k)=some none
 | 0,_=>rfl
 | k + 1,h=>by
  have ih:=ziZ g a k (by omega)
  rw [zaS]
  split
  ·have key:∀ (l:List (PV × Int)) (e:PV × Int),zca tb 44 (.agg [pi 6,pi (a:Int),pi 0,pb false]) l=some none→eqE tb 8 44 (.agg [pi 6,pi (a:Int),pi 0,pb false]) e.1=some false→zca tb 44 (.agg [pi 6,pi (a:Int),pi 0,pb false]) (l++[e])=some none:=by
    intro l e hl he
    induction l with
    | nil=>simp [zca,he]
    | cons x l ihl =>
     obtain ⟨q,v⟩:=x
     rw [zca] at hl
     rw [List.cons_append,zca]
     split at hl
     ·cases hl
     ·exact ihl hl
     ·cases hl
   refine key _ _ ih ?_
   show eqE tb 8 44 (.agg [pi 6,pi (a:Int),pi 0,pb false]) (.agg [pi 6,pi (k:Int),pi 0,pb false])=some false
   rw [eqTy]
   simp;omega
  ·exact ih
def wsG (fa N:Nat):Nat→List Int
 | 0=>List.replicate N 0
 | k + 1=>(wsG fa N k).set (fa + k) (zuC ⟨7,((k + 1:Nat):Int),0,false⟩)
theorem zgB (fa N:Nat):∀ k,(wsG fa N k).length=N
 | 0=>by simp [wsG]
 | k + 1=>by rw [wsG,List.length_set,zgB fa N k]
abbrev znM (g:Img):PV:=.slc 1 ((zbA g g.types.length).map tys) false
abbrev zkq (g:Img):PV:=.slc 1 ((Xo g g.types.length).map pi) false
abbrev gH (g:Img) (ws:List Int) (fa hp fr u:Int):HEnv:=[(0,.cell (.agg [.own 7,.pv (znM g),.pv (zkq g),.own 8,.pv (u64 fa),.pv (u64 hp),.pv (u64 fr),.pv (pi u)])),(7,.mrow 102 1 (ws.map u64)),(8,.obj (TMap (zaS g g.types.length)))]
abbrev gPV (g:Img) (ws:List Int) (mv:Value) (fa hp fr u:Int):PV:=.agg [.slc 1 (ws.map u64) false,znM g,zkq g,.base mv,u64 fa,u64 hp,u64 fr,pi u]
theorem zfA (g:Img) (ws:List Int) (mv:Value) (fa hp fr u k:Int) (h0:0≤fa) (h9:fa≤10000) (h1:1≤k) (h7:k≤7):ACall Tryz.prog 93 [.ptr (gPV g ws mv fa hp fr u) 0,pi k] (u64 (fa + k - 1)):=by
 have hd1:decide (k < 1)=false:=decide_eq_false (by omega)
 have hd2:decide (7 < k)=false:=decide_eq_false (by omega)
 refine zf zh Tryz.func93 rfl (by kernel_rfl) Tryz.ntmps93 (by simp) _ rfl (fun hw gB hgB=>?_)
 repeat' (first|refine zo rfl (yI (b:=false) rfl Tryz.underlying103 rfl rfl) rfl rfl ?_|refine AD.step _ _ _ _ _ rfl (yI (b:=false) rfl Tryz.underlying103 rfl rfl) rfl rfl ?_|refine sK ?_|refine sC (fun _=>?_) (fun _=>?_)|fail)
 exact retq rfl (by
  simp only [zn]
  rw [qO (a:=k) (by omega) (by omega),qO (a:=fa + k) (by omega) (by omega),qO (by omega) (by omega)])
theorem zr7 {P:Prop} (h:P:=by repeat (first|exact yu|refine zY rfl ?_|(refine qK rfl ?_ ?_;· (first|omega|(rw [wrap_in (by omega) (by omega)] <;> omega)|(rw [qO (by omega) (by omega)] <;> omega)|(dsimp only;rw [qO (by omega) (by omega)] <;> omega)|(simp;done))))):P:=h
theorem zq2 (g:Img) (hx:OkA g) (hfi:Qi g=true) (w:Int) (h0:0≤w) (h1:w≤4096):ACallM Tryz.prog 86 [.pv (zx g),.pv (pi w)] [] (.box 0 0)
  (gH g (wsG (1 + (Zk g).length) (8 + (Zk g).length + w.toNat + 16384) 7) ((1 + (Zk g).length:Nat):Int) ((8 + (Zk g).length:Nat):Int) ((8 + (Zk g).length + w.toNat:Nat):Int) 0) true:=by
 have hF:=YT hfi
 have hN:=(zI hF.formed).1
 have c0:=zbN g hx
 have c1:=ziv g hx
 obtain ⟨S,hS⟩:∃ S,S=(Zk g).length:=⟨_,rfl⟩
 have hSb:S≤512:=by
  rw [hS,Zk,hfi]
  exact zrg hF _
 have hch:(Qa g).2=0:=by rw [Qi] at hfi;simpa using hfi
 have hce:((Qa g).2 != 0)=false:=by rw [hch];rfl
 have hd1:decide (w < 0)=false:=decide_eq_false (by omega)
 have hd2:decide (4096 < w)=false:=decide_eq_false (by omega)
 refine zC zh Tryz.func86 rfl (by kernel_rfl) Tryz.ntmps86 (by simp) _ rfl (fun gB hw1=>?_)
 repeat' (first|refine zev rfl hd2 ?_|(refine shC ?_;first|refine qC c0 ?_)|refine sK ?_|refine sC (fun _=>?_) (fun _=>?_)|fail)
 repeat' (first|refine zb1 8 rfl rfl rfl rfl rfl ?_|refine zo rfl (Yi zh rfl ⟨_,rfl⟩ rfl rfl rfl rfl rfl rfl) rfl rfl ?_|refine Zz 0 41 1 65 1 (by decide) rfl rfl rfl rfl ?_|refine Zz 0 42 2 3 1 (by decide) rfl rfl rfl rfl ?_|(refine Zb ?_;first|refine Yt 0 rfl rfl rfl rfl rfl rfl ?_)|refine sK ?_|refine sC (fun _=>?_) (fun _=>?_)|fail)
 refine zB (fun k:Nat=>[(1,.pv (pi w)),(2,.pv (.ptr (zx g) 0)),(7,.box 0 0),(31,.pv (pi g.types.length)),(32,.pv (pi k))])
  (fun k=>[(0,.cell (.agg [.pv zu1,.own 41,.own 42,.own 8,.pv (u64 0),.pv (u64 0),.pv (u64 0),.pv (pi 0)])),(41,.row 65 1 ((zbA g k).map tys)),(42,.row 3 1 ((Xo g k).map pi)),(8,.obj (TMap (zaS g k)))]) (fun k=>k≤g.types.length) (fun k=>g.types.length - k) 0 (by omega) zr7 ⟨by repeat (first|exact zk|refine zi rfl ?_),rfl⟩ ?_
 rintro k hk
 by_cases hlt:k < g.types.length
 ·have hdk:decide ((k:Int) < (g.types.length:Int))=true:=decide_eq_true (by omega)
  have cK:=za2 g (k:Int)
  rw [zcb hF.formed] at cK
  have cO:=zkk g hx (k:Int)
  have cW:=zhJ g hx ⟨6,(k:Int),0,false⟩
  have hkl:(Xo g k).length=k:=by simp [Xo]
  have hol:(zbA g k).length=k:=by simp [zbA]
  have hex:((Xo g k).map pi++[pi (zF g (k:Int))])[((k:Int)).toNat]?=some (pi (zF g (k:Int))):=by
   rw [Int.toNat_natCast,List.getElem?_append_right (by rw [List.length_map,hkl];omega),List.length_map,hkl,Nat.sub_self];rfl
  have hK:(Xo g k).map pi++[pi (zF g (k:Int))]=(Xo g (k + 1)).map pi:=by rw [zmw,List.map_append];rfl
  have hO:(zbA g k).map tys++[tys (QL g (k:Int))]=(zbA g (k + 1)).map tys:=by rw [zoD,List.map_append];rfl
  have hbK:(((Xo g k).map pi).length + [pi (zF g (k:Int))].length) * 8≤140737488355328∧((Xo g k).map pi).length + [pi (zF g (k:Int))].length≤140737488355328:=by simp only [List.length_map,hkl,List.length_cons,List.length_nil];omega
  have hbO:(((zbA g k).map tys).length + [tys (QL g (k:Int))].length) * 24≤140737488355328∧((zbA g k).map tys).length + [tys (QL g (k:Int))].length≤140737488355328:=by simp only [List.length_map,hol,List.length_cons,List.length_nil];omega
  by_cases hk1:zF g (k:Int)=1
  ·have hkb:(zF g (k:Int)==1)=true:=by simp [hk1]
   have hE:zaS g k++[(.agg [pi 6,pi (k:Int),pi 0,pb false],((cellsA g ⟨6,(k:Int),0,false⟩).length:Int))]=zaS g (k + 1):=by rw [zaS,if_pos hkb];rfl
   repeat' (first|refine zea 9 0 (by kernel_rfl) (by kernel_rfl) rfl rfl rfl rfl rfl rfl rfl (zew rfl rfl rfl) (by kernel_rfl) ?_|refine ziI (hw1 rfl) zh rfl rfl rfl rfl rfl rfl rfl rfl rfl rfl rfl (ziZ g k k (Nat.le_refl _)) rfl ?_|refine yG 9 8 rfl (by kernel_rfl) (by kernel_rfl) (by kernel_rfl) (by kernel_rfl) (by kernel_rfl) ?_|(refine shC ?_;first|refine qC cK ?_|refine qC cO ?_|refine qC cW ?_)|(refine shX ?_;first|refine qX hex ?_)|(refine zL ?_;first|refine zX zh rfl rfl rfl rfl rfl rfl rfl (show _ * 8≤_ from hbK.1) hbK.2 rfl rfl ?_|refine zX zh rfl rfl rfl rfl rfl rfl rfl (show _ * 24≤_ from hbO.1) hbO.2 rfl rfl ?_)|refine sK ?_|refine sC (fun _=>?_) (fun _=>?_)|fail)
   exact ⟨k + 1,hlt,tD,zr7,⟨by repeat (first|exact zk|refine zi rfl ?_|refine qw rfl hO ?_|refine qw rfl hK ?_|refine zi (by rw [←hE];rfl) ?_),rfl⟩⟩
  ·have hkb:(zF g (k:Int)==1)=false:=by simp [hk1]
   have hE:zaS g k=zaS g (k + 1):=by rw [zaS,if_neg (by simp [hkb])]
   repeat' (first|refine zea 9 0 (by kernel_rfl) (by kernel_rfl) rfl rfl rfl rfl rfl rfl rfl (zew rfl rfl rfl) (by kernel_rfl) ?_|(refine shC ?_;first|refine qC cK ?_|refine qC cO ?_)|(refine shX ?_;first|refine qX hex ?_)|(refine zL ?_;first|refine zX zh rfl rfl rfl rfl rfl rfl rfl (show _ * 8≤_ from hbK.1) hbK.2 rfl rfl ?_|refine zX zh rfl rfl rfl rfl rfl rfl rfl (show _ * 24≤_ from hbO.1) hbO.2 rfl rfl ?_)|refine sK ?_|refine sC (fun _=>?_) (fun _=>?_)|fail)
   exact ⟨k + 1,hlt,tD,zr7,⟨by repeat (first|exact zk|refine zi rfl ?_|refine qw rfl hO ?_|refine qw rfl hK ?_|refine zi (by rw [←hE];rfl) ?_),rfl⟩⟩
 ·have hk2:k=g.types.length:=by omega
  subst hk2
  have hdk:decide ((g.types.length:Int) < (g.types.length:Int))=false:=decide_eq_false (by omega)
  obtain ⟨N,hN2⟩:∃ N,N=8 + S + w.toNat + 16384:=⟨_,rfl⟩
  obtain ⟨E1,hE1⟩:∃ E,E=IntKind.u64.wrap (1 + IntKind.u64.wrap ((((Zk g).map yK).length:Nat):Int)):=⟨_,rfl⟩
  have e1:E1=((1 + S:Nat):Int):=by rw [hE1,List.length_map,←hS,qO (a:=(S:Int)) (by omega) (by omega),qO (by omega) (by omega)];omega
  obtain ⟨E2,hE2⟩:∃ E,E=IntKind.u64.wrap (E1 + 7):=⟨_,rfl⟩
  have e2:E2=((8 + S:Nat):Int):=by rw [hE2,e1,qO (by omega) (by omega)];omega
  obtain ⟨E3,hE3⟩:∃ E,E=IntKind.u64.wrap (E2 + IntKind.u64.wrap w):=⟨_,rfl⟩
  have e3:E3=((8 + S + w.toNat:Nat):Int):=by rw [hE3,e2,qO (a:=w) (by omega) (by omega),qO (by omega) (by omega)];omega
  have hmi:IntKind.u64.wrap (E3 + 16384)=((N:Nat):Int):=by rw [e3,qO (by omega) (by omega)];omega
  rw [hE3,hE2,hE1] at hmi
  rw [←hS,←hN2]
  repeat' (first|refine YM 0 41 1 rfl rfl rfl ?_|refine YM 0 42 2 rfl rfl rfl ?_|refine zlc (m:=N) (sz:=1) zh 7 rfl rfl rfl rfl rfl hmi rfl rfl (by show 8 * _≤_;omega) (by simp [maxLen];omega) rfl rfl rfl ?_|(refine shC ?_;first|refine qC c1 ?_)|refine sK ?_|refine sC (fun _=>?_) (fun _=>?_)|fail)
  refine zB (fun j:Nat=>[(7,.box 0 0),(10,.pv (pi ((j + 1:Nat):Int)))]) (fun j=>gH g (wsG (1 + S) N j) ((1 + S:Nat):Int) ((8 + S:Nat):Int) ((8 + S + w.toNat:Nat):Int) 0) (fun j=>j≤7) (fun j=>7 - j) 0 (by omega) zr7
   ⟨zi (show some (HE.cell (.agg [.own 7,.pv (znM g),.pv (zkq g),.own 8,.pv (u64 (IntKind.u64.wrap (1 + IntKind.u64.wrap ((((Zk g).map yK).length:Nat):Int)))),.pv (u64 (IntKind.u64.wrap (IntKind.u64.wrap (1 + IntKind.u64.wrap ((((Zk g).map yK).length:Nat):Int)) + 7))),.pv (u64 (IntKind.u64.wrap (IntKind.u64.wrap (IntKind.u64.wrap (1 + IntKind.u64.wrap ((((Zk g).map yK).length:Nat):Int)) + 7) + IntKind.u64.wrap w))),.pv (pi 0)]))=_ from by
    rw [←hE1,←hE2,←hE3,e3,e2,e1]) (qE rfl (by rw [wsG,List.map_replicate]) (zi rfl zk)),rfl⟩ ?_
  rintro j hj
  by_cases hlt:j < 7
  ·have hl:=zgB (1 + S) N j
   have hil:1 + S + j < ((wsG (1 + S) N j).map u64).length:=by rw [List.length_map,hl];omega
   have hpp:((wsG (1 + S) N j).map u64)[1 + S + j]?=some (u64 ((wsG (1 + S) N j)[1 + S + j]'(by rw [hl];omega))):=by rw [List.getElem?_map,List.getElem?_eq_getElem (by rw [hl];omega)];rfl
   have hix:((1 + S:Nat):Int) + ((j + 1:Nat):Int) - 1=((1 + S + j:Nat):Int):=by omega
   repeat' (first|refine yG 12 11 rfl (by kernel_rfl) (by kernel_rfl) (by kernel_rfl) (by kernel_rfl) (by kernel_rfl) ?_|refine zo (r:=.pv (u64 _)) rfl (zph (args:=fun ρ=>[.ptr (gPV g (wsG (1 + S) N j) (ρ 8) ((1 + S:Nat):Int) ((8 + S:Nat):Int) ((8 + S + w.toNat:Nat):Int) 0) 0,pi ((j + 1:Nat):Int)]) rfl (fun _=>rfl) (fun ρ=>zfA g (wsG (1 + S) N j) (ρ 8) ((1 + S:Nat):Int) ((8 + S:Nat):Int) ((8 + S + w.toNat:Nat):Int) 0 ((j + 1:Nat):Int) (by omega) (by omega) (by omega) (by omega))) rfl rfl ?_|refine AD.step _ _ _ (.pv (u64 _)) _ rfl (zph (args:=fun ρ=>[.ptr (gPV g (wsG (1 + S) N j) (ρ 8) ((1 + S:Nat):Int) ((8 + S:Nat):Int) ((8 + S + w.toNat:Nat):Int) 0) 0,pi ((j + 1:Nat):Int)]) rfl (fun _=>rfl) (fun ρ=>zfA g (wsG (1 + S) N j) (ρ 8) ((1 + S:Nat):Int) ((8 + S:Nat):Int) ((8 + S + w.toNat:Nat):Int) 0 ((j + 1:Nat):Int) (by omega) (by omega) (by omega) (by omega))) rfl rfl ?_|(refine shC ?_;first|refine qC (zqf ⟨7,((j + 1:Nat):Int),0,false⟩) ?_)|(refine shX ?_;first|refine zo rfl (zK (k:=1 + S + j) zh rfl rfl rfl rfl rfl rfl rfl hix hil) rfl rfl ?_|refine AD.step _ _ _ _ _ rfl (zK (k:=1 + S + j) zh rfl rfl rfl rfl rfl rfl rfl hix hil) rfl rfl ?_)|(refine qA ?_;first|refine ZL (k:=1 + S + j) (j:=0) zh rfl rfl rfl rfl rfl hpp rfl rfl rfl rfl rfl ?_)|refine sK ?_|refine sC (fun _=>?_) (fun _=>?_)|fail)
   exact ⟨j + 1,hlt,tD,zr7,⟨zi rfl (qE rfl (by rw [wsG,List.map_set]) (zi rfl zk)),rfl⟩⟩
  ·have hj2:j=7:=by omega
   subst hj2
   repeat' (first|refine sK ?_|refine sC (fun _=>?_) (fun _=>?_)|fail)
   exact ⟨.inr rfl,.inr ⟨4,rfl,rfl,⟨by repeat (first|exact zk|refine zi rfl ?_),rfl⟩⟩⟩
section
variable {g:Img} {k i d:Int}
end
set_option maxHeartbeats 20000000
abbrev zir (o1 o2:PV) (fa hp:Int) (X8:Obj→Prop) (ws:List Int) (fr used:Int):HEnv:=[(0,.cell (.agg [.own 7,.pv o1,.pv o2,.own 8,.pv (u64 fa),.pv (u64 hp),.pv (u64 fr),.pv (pi used)])),(7,.mrow 102 1 (ws.map u64)),(8,.obj X8)]
abbrev meX (o1 o2:PV) (fa hp:Int) (ws:List Int) (mv:Value) (fr used:Int):PV:=.agg [.slc 1 (ws.map u64) false,o1,o2,.base mv,u64 fa,u64 hp,u64 fr,pi used]
abbrev skX (o1 o2:PV) (fa hp:Int) (X8:Obj→Prop) (ws:List Int) (fr lim:Int) (fs:List Fr):HEnv:=[(0,.cell (.agg [.own 7,.pv o1,.pv o2,.own 8,.pv (u64 fa),.pv (u64 hp),.pv (u64 fr),.pv (pi 0)])),(7,.mrow 102 1 (ws.map u64)),(8,.obj X8),(30,.cell (.agg [.box 0 0,.pv (pi lim),.own 37])),(37,.mrow 228 5 (fs.map WB))]
abbrev stX (o1 o2:PV) (fa hp:Int) (ws:List Int) (mv:Value) (fr lim:Int) (fs:List Fr):PV:=.agg [.ptr (meX o1 o2 fa hp ws mv fr 0) 0,pi lim,.slc 5 (fs.map WB) false]
section
variable {e1 e2:List PV} {fa hq0:Int} {X8:Obj→Prop}
theorem zj3 (ws:List Int) (mv:Value) (fr used:Int):ACall Tryz.prog 89 [.ptr (meX (.slc 1 e1 false) (.slc 1 e2 false) fa hq0 ws mv fr used) 0] (u64 fr):=by
 refine zf zh Tryz.func89 rfl (by kernel_rfl) Tryz.ntmps89 (by simp) _ rfl (fun hw gB hgB=>?_)
 repeat' (first|refine zo rfl (yI (b:=false) rfl Tryz.underlying103 rfl rfl) rfl rfl ?_|refine AD.step _ _ _ _ _ rfl (yI (b:=false) rfl Tryz.underlying103 rfl rfl) rfl rfl ?_|refine sA ?_|refine sC (fun _=>?_) (fun _=>?_)|fail)
 exact retq rfl rfl
theorem znK (ws:List Int) (mv:Value) (fr u a:Int) (h0:0≤a) (hl:ws.length≤100000):ACall Tryz.prog 50 [.ptr (meX (.slc 1 e1 false) (.slc 1 e2 false) fa hq0 ws mv fr u) 0,u64 a] (u64 (zim ws a)):=by
 have hw:IntKind.u64.wrap (((ws.map u64).length:Nat):Int)=ws.length:=by rw [List.length_map,qO (by omega) (by omega)]
 by_cases h:a < ws.length
 ·have he:(ws.map u64)[a.toNat]?=some (u64 ws[a.toNat]):=by simp
  have hd:decide (IntKind.u64.wrap (((ws.map u64).length:Nat):Int)≤a)=false:=decide_eq_false (by rw [hw];omega)
  rw [zim,if_pos h,List.getD_eq_getElem?_getD,List.getElem?_eq_getElem (by omega)]
  refine zf zh Tryz.func50 rfl (by kernel_rfl) Tryz.ntmps50 (by simp) _ rfl (fun hw gB hgB=>?_)
  repeat' (first|refine zo rfl (yI (b:=false) rfl Tryz.underlying103 rfl rfl) rfl rfl ?_|refine AD.step _ _ _ _ _ rfl (yI (b:=false) rfl Tryz.underlying103 rfl rfl) rfl rfl ?_|(refine shX ?_;first|refine zo rfl (zl zh rfl rfl rfl rfl rfl rfl h0 he) rfl rfl ?_|refine AD.step _ _ _ _ _ rfl (zl zh rfl rfl rfl rfl rfl rfl h0 he) rfl rfl ?_)|refine sK ?_|refine sC (fun _=>?_) (fun _=>?_)|fail)
  exact retq rfl rfl
 ·rw [zim,if_neg h]
  have hd:decide (IntKind.u64.wrap (((ws.map u64).length:Nat):Int)≤a)=true:=decide_eq_true (by rw [hw];omega)
  refine zf zh Tryz.func50 rfl (by kernel_rfl) Tryz.ntmps50 (by simp) _ rfl (fun hw gB hgB=>?_)
  repeat' (first|refine zo rfl (yI (b:=false) rfl Tryz.underlying103 rfl rfl) rfl rfl ?_|refine AD.step _ _ _ _ _ rfl (yI (b:=false) rfl Tryz.underlying103 rfl rfl) rfl rfl ?_|refine sK ?_|refine sC (fun _=>?_) (fun _=>?_)|fail)
  exact retq rfl rfl
theorem zeQ (ws:List Int) (fr u a x:Int) (h0:0≤a) (hl:ws.length≤100000) (us:Nat→Value):ACallM Tryz.prog 177 [.box 0 0,.pv (u64 a),.pv (u64 x)] (zir (.slc 1 e1 false) (.slc 1 e2 false) fa hq0 X8 ws fr u++zJ us [0]) (.pv (.tup [])) (zir (.slc 1 e1 false) (.slc 1 e2 false) fa hq0 X8 (zeq ws a x) fr u++zJ us [0]):=by
 have hw:IntKind.u64.wrap (((ws.map u64).length:Nat):Int)=ws.length:=by rw [List.length_map,qO (by omega) (by omega)]
 by_cases h:0 < a∧a < ws.length
 ·have hd1:decide (0 < a)=true:=decide_eq_true h.1
  have hd2:decide (a < IntKind.u64.wrap (((ws.map u64).length:Nat):Int))=true:=decide_eq_true (by rw [hw];exact h.2)
  have hil:a.toNat < (ws.map u64).length:=by rw [List.length_map];omega
  have hpp:(ws.map u64)[a.toNat]?=some (u64 (ws[a.toNat]'(by omega))):=by rw [List.getElem?_map,List.getElem?_eq_getElem (by omega)];rfl
  refine zC zh Tryz.func177 rfl (by kernel_rfl) Tryz.ntmps177 (by simp) _ rfl (fun gB hw1=>?_)
  repeat' (first|refine zo rfl (zav (b:=false) rfl Tryz.underlying103 rfl rfl) rfl rfl ?_|refine sM ?_|(refine shX ?_;first|refine zo rfl (zK (k:=a.toNat) zh rfl rfl rfl rfl rfl rfl rfl (by omega) hil) rfl rfl ?_|refine AD.step _ _ _ _ _ rfl (zK (k:=a.toNat) zh rfl rfl rfl rfl rfl rfl rfl (by omega) hil) rfl rfl ?_)|(refine qA ?_;first|refine ZL (k:=a.toNat) (j:=0) zh rfl rfl rfl rfl rfl hpp rfl rfl rfl rfl rfl ?_)|refine sK ?_|refine sC (fun _=>?_) (fun _=>?_)|fail)
  exact ⟨.inl rfl,.inl ⟨[],rfl,rfl,⟨zi rfl (qE rfl (by rw [zeq,if_pos h,List.map_set]) (by repeat (first|exact zk|refine zi rfl ?_))),rfl⟩⟩⟩
 ·have hp:zeq ws a x=ws:=by rw [zeq,if_neg h]
  rw [hp]
  by_cases h1:0 < a
  ·have hd1:decide (0 < a)=true:=decide_eq_true h1
   have hd2:decide (a < IntKind.u64.wrap (((ws.map u64).length:Nat):Int))=false:=decide_eq_false (by rw [hw];omega)
   refine zC zh Tryz.func177 rfl (by kernel_rfl) Tryz.ntmps177 (by simp) _ rfl (fun gB hw1=>?_)
   repeat' (first|refine zo rfl (zav (b:=false) rfl Tryz.underlying103 rfl rfl) rfl rfl ?_|refine sM ?_|refine sK ?_|refine sC (fun _=>?_) (fun _=>?_)|fail)
   exact ⟨.inl rfl,.inl ⟨[],rfl,rfl,⟨by repeat (first|exact zk|refine zi rfl ?_),rfl⟩⟩⟩
  ·have hd1:decide (0 < a)=false:=decide_eq_false h1
   refine zC zh Tryz.func177 rfl (by kernel_rfl) Tryz.ntmps177 (by simp) _ rfl (fun gB hw1=>?_)
   repeat' (first|refine zo rfl (zav (b:=false) rfl Tryz.underlying103 rfl rfl) rfl rfl ?_|refine sM ?_|refine sK ?_|refine sC (fun _=>?_) (fun _=>?_)|fail)
   exact ⟨.inl rfl,.inl ⟨[],rfl,rfl,⟨by repeat (first|exact zk|refine zi rfl ?_),rfl⟩⟩⟩
theorem Ym (ws:List Int) (mv:Value) (fr lim:Int) (fs:List Fr):ACall Tryz.prog 60 [.ptr (stX (.slc 1 e1 false) (.slc 1 e2 false) fa hq0 ws mv fr lim fs) 0] (pi fs.length):=by
 refine zf zh Tryz.func60 rfl (by kernel_rfl) Tryz.ntmps60 (by simp) _ rfl (fun hw gB hgB=>?_)
 repeat' (first|refine zo rfl (yI (b:=false) rfl Tryz.underlying141 rfl rfl) rfl rfl ?_|refine sA ?_|refine sC (fun _=>?_) (fun _=>?_)|fail)
 exact retq rfl (by rw [List.length_map];rfl)
theorem zhg (ws:List Int) (mv:Value) (fr lim:Int) (fs:List Fr):ACall Tryz.prog 331 [.ptr (stX (.slc 1 e1 false) (.slc 1 e2 false) fa hq0 ws mv fr lim fs) 0] (pb (decide (lim≤(fs.length:Int)))):=by
 refine zf zh Tryz.func331 rfl (by kernel_rfl) Tryz.ntmps331 (by simp) _ rfl (fun hw gB hgB=>?_)
 repeat' (first|refine AD.step _ _ _ _ _ rfl (yI (b:=false) rfl Tryz.underlying141 rfl rfl) rfl rfl ?_|refine sA ?_|refine sC (fun _=>?_) (fun _=>?_)|fail)
 exact retq rfl (by rw [List.length_map];rfl)
theorem zei (ws:List Int) (mv:Value) (fr lim k:Int) (fs:List Fr):ACall Tryz.prog 123 [.ptr (stX (.slc 1 e1 false) (.slc 1 e2 false) fa hq0 ws mv fr lim fs) 0,pi k] (pb (decide (0≤k∧k < (fs.length:Int)))):=by
 by_cases h0:0≤k
 ·have hd:decide (0≤k)=true:=decide_eq_true h0
  refine zf zh Tryz.func123 rfl (by kernel_rfl) Tryz.ntmps123 (by simp) _ rfl (fun hw gB hgB=>?_)
  repeat' (first|refine zo rfl (zav (b:=false) rfl Tryz.underlying141 rfl rfl) rfl rfl ?_|refine sK ?_|refine sC (fun _=>?_) (fun _=>?_)|fail)
  exact retq rfl (by simp only [List.length_map,h0,true_and];rfl)
 ·have hd:decide (0≤k)=false:=decide_eq_false h0
  refine zf zh Tryz.func123 rfl (by kernel_rfl) Tryz.ntmps123 (by simp) _ rfl (fun hw gB hgB=>?_)
  repeat' (first|refine zo rfl (zav (b:=false) rfl Tryz.underlying141 rfl rfl) rfl rfl ?_|refine sK ?_|refine sC (fun _=>?_) (fun _=>?_)|fail)
  exact retq rfl (by simp only [h0,false_and,decide_false];rfl)
theorem zm2 (ws:List Int) (mv:Value) (fr lim:Int) (fs:List Fr) (h0:0≤fr) (h1:fr≤10000) (hf:fs.length≤64):ACall Tryz.prog 332 [.ptr (stX (.slc 1 e1 false) (.slc 1 e2 false) fa hq0 ws mv fr lim fs) 0] (u64 (fr + 256 * fs.length)):=by
 refine zf zh Tryz.func332 rfl (by kernel_rfl) Tryz.ntmps332 (by simp) _ rfl (fun hw gB hgB=>?_)
 repeat' (first|(refine shC ?_;first|refine qC (zj3 ws mv fr 0) ?_)|refine sA ?_|refine sC (fun _=>?_) (fun _=>?_)|fail)
 exact retq rfl (by
  simp only [zn,List.length_map]
  rw [qO (a:=(fs.length:Int)) (by omega) (by omega),qO (a:=(fs.length:Int) * 256) (by omega) (by omega),qO (by omega) (by omega)]
  congr 2;omega)
theorem zoM (ws:List Int) (fr lim:Int) (h1:1≤lim) (h2:lim≤64) (us:Nat→Value):ACallM Tryz.prog 110 [.box 0 0,.pv (pi lim)] (zir (.slc 1 e1 false) (.slc 1 e2 false) fa hq0 X8 ws fr 0++zJ us [0]) (.box 30 0) (skX (.slc 1 e1 false) (.slc 1 e2 false) fa hq0 X8 ws fr lim []++zJ us [0]):=by
 have hd1:decide (lim < 1)=false:=decide_eq_false (by omega)
 have hd2:decide (64 < lim)=false:=decide_eq_false (by omega)
 refine zC zh Tryz.func110 rfl (by kernel_rfl) Tryz.ntmps110 (by simp) _ rfl (fun gB hw1=>?_)
 repeat' (first|refine zo rfl (yI (b:=false) rfl Tryz.underlying103 rfl rfl) rfl rfl ?_|refine AD.step _ _ _ _ _ rfl (yI (b:=false) rfl Tryz.underlying103 rfl rfl) rfl rfl ?_|refine zaa 30 37 2 228 5 (by decide) rfl rfl rfl rfl ?_|refine zo rfl (Yi zh rfl ⟨_,rfl⟩ rfl rfl rfl rfl rfl rfl) rfl rfl ?_|(refine Zb ?_;first|refine Yt 30 rfl rfl rfl rfl rfl rfl ?_)|refine sK ?_|refine sC (fun _=>?_) (fun _=>?_)|fail)
 exact ⟨.inr rfl,.inr ⟨4,rfl,rfl,⟨by repeat (first|exact zk|refine zi rfl ?_),rfl⟩⟩⟩
theorem zjd (ws:List Int) (fr lim:Int) (l:List Fr) (f:Fr) (hf:l.length≤63) (us:Nat→Value):ACallM Tryz.prog 333 [.box 30 0] (skX (.slc 1 e1 false) (.slc 1 e2 false) fa hq0 X8 ws fr lim (l++[f])++zJ us [0,30]) (.ad 37 (l.length * 5)) (skX (.slc 1 e1 false) (.slc 1 e2 false) fa hq0 X8 ws fr lim (l++[f])++zJ us [0,30]):=by
 have hd:decide ((((l++[f]).length:Nat):Int)=0)=false:=decide_eq_false (by simp only [List.length_append,List.length_cons,List.length_nil];omega)
 have hm:IntKind.i64.wrap ((((l++[f]).map WB).length:Int) - 1)=((l.length:Nat):Int):=by
  simp only [List.length_map,List.length_append,List.length_cons,List.length_nil]
  rw [wrap_in (by omega) (by omega)];omega
 have hl:l.length < ((l++[f]).map WB).length:=by simp
 refine zC zh Tryz.func333 rfl (by kernel_rfl) Tryz.ntmps333 (by simp) _ rfl (fun gB hw1=>?_)
 repeat' (first|refine zo (r:=.pv (pi _)) rfl (Yf (args:=fun ρ=>[.ptr (stX (.slc 1 e1 false) (.slc 1 e2 false) fa hq0 ws (ρ 8) fr lim (l++[f])) 0]) rfl (fun _=>rfl) (fun ρ=>Ym ws (ρ 8) fr lim (l++[f]))) rfl rfl ?_|refine AD.step _ _ _ (.pv (pi _)) _ rfl (Yf (args:=fun ρ=>[.ptr (stX (.slc 1 e1 false) (.slc 1 e2 false) fa hq0 ws (ρ 8) fr lim (l++[f])) 0]) rfl (fun _=>rfl) (fun ρ=>Ym ws (ρ 8) fr lim (l++[f]))) rfl rfl ?_|refine sM ?_|(refine shX ?_;first|refine zo rfl (zK (k:=l.length) zh rfl rfl rfl rfl rfl rfl rfl hm hl) rfl rfl ?_|refine AD.step _ _ _ _ _ rfl (zK (k:=l.length) zh rfl rfl rfl rfl rfl rfl rfl hm hl) rfl rfl ?_)|refine sK ?_|refine sC (fun _=>?_) (fun _=>?_)|fail)
 exact ⟨.inr rfl,.inr ⟨2,rfl,rfl,⟨by repeat (first|exact zk|refine zi rfl ?_),rfl⟩⟩⟩
theorem VH (ws:List Int) (mv:Value) (fr lim a:Int) (n:Nat) (fs:List Fr) (hn:n≤200) (hl:ws.length≤100000):ACallR Tryz.prog 124 [.ptr (stX (.slc 1 e1 false) (.slc 1 e2 false) fa hq0 ws mv fr lim fs) 0,u64 a,pi n] 102 1 ((zdm ws a n).map u64):=by
 have hmi:(n:Int)=((n:Nat):Int):=rfl
 refine zaY Tryz.func124 rfl (by kernel_rfl) Tryz.ntmps124 (by simp) rfl (fun hw gB hgB=>?_)
 repeat' (first|refine zlc (m:=n) (sz:=1) zh 40 rfl rfl rfl rfl rfl hmi rfl rfl (by show 8 * _≤_;omega) (by simp [maxLen];omega) rfl rfl rfl ?_|refine sM ?_|refine sK ?_|refine sC (fun _=>?_) (fun _=>?_)|fail)
 refine zB (fun k:Nat=>[(0,.pv (.ptr (stX (.slc 1 e1 false) (.slc 1 e2 false) fa hq0 ws mv fr lim fs) 0)),(1,.pv (u64 a)),(7,.own 40),(12,.pv (pi n)),(13,.pv (pi k))])
  (fun k=>[(40,.mrow 102 1 ((List.range n).map (zdU ws a k)))]) (fun k=>k≤n) (fun k=>n - k) 0 (by omega) tSU
  ⟨za1 rfl (ztu (fun p _=>by simp [zdU])) zk,rfl⟩ ?_
 rintro k hk
 by_cases hlt:k < n
 ·have hkl:k < ((List.range n).map (zdU ws a k)).length:=by simpa using hlt
  have hg:((List.range n).map (zdU ws a k))[k]?=some (u64 0):=by rw [zt1 hlt,zdU,if_neg (by omega)]
  repeat' (first|(refine shC ?_;first|refine qC (znK ws mv fr 0 (IntKind.u64.wrap (a + IntKind.u64.wrap (k:Int))) (Wx _) hl) ?_)|(refine shX ?_;first|refine zo rfl (zK (k:=k) zh rfl rfl rfl rfl rfl rfl rfl rfl hkl) rfl rfl ?_|refine AD.step _ _ _ _ _ rfl (zK (k:=k) zh rfl rfl rfl rfl rfl rfl rfl rfl hkl) rfl rfl ?_)|(refine qA ?_;first|refine ZL (k:=k) (j:=0) zh rfl rfl rfl rfl rfl hg rfl rfl rfl rfl rfl ?_)|refine sK ?_|refine sC (fun _=>?_) (fun _=>?_)|fail)
  refine ⟨k + 1,hlt,tD,tSU,⟨za1 rfl (zue fun p hp=>?_) zk,rfl⟩⟩
  by_cases e:p=k
  ·subst e;simp [zdU]
  ·simp only [zdU,if_neg e]
   by_cases h:p < k
   ·rw [if_pos h,if_pos (by omega)]
   ·rw [if_neg h,if_neg (by omega)]
 ·have hk2:k=n:=by omega
  subst hk2
  repeat' (first|refine Qx 40 rfl ?_|refine sK ?_|refine sC (fun _=>?_) (fun _=>?_)|fail)
  exact ⟨.inr rfl,40,rfl,by rw [←znZ];rfl⟩
theorem zl6 (ws:List Int) (fr lim m n:Int) (l:List Int) (full:Bool) (fs:List Fr) (h1:fs.length < lim) (h64:lim≤64) (h2:l.length≤n) (h3:n≤152) (hf0:0≤fr) (hf1:fr≤10000) (hws:ws.length≤100000) (us:Nat→Value) :
  ACallM Tryz.prog 225 [.box 30 0,.pv (pi m),.pv (pi n),.pv (.slc 1 (l.map u64) full)] (skX (.slc 1 e1 false) (.slc 1 e2 false) fa hq0 X8 ws fr lim fs++zJ us [0,30]) (.pv (pb true)) (skX (.slc 1 e1 false) (.slc 1 e2 false) fa hq0 X8 (zbJ ws (fr + 256 * fs.length) l) fr lim (fs++[ztp m 0 (fr + 256 * fs.length) (fr + 256 * fs.length)])++zJ us [0,30]):=by
 have hd1:decide (lim≤(fs.length:Int))=false:=decide_eq_false (by omega)
 have hd2:decide (n < (((l.map u64).length:Nat):Int))=false:=decide_eq_false (by rw [List.length_map];omega)
 have hd3:decide (152 < n)=false:=decide_eq_false (by omega)
 obtain ⟨A,hA⟩:∃ A:Int,A=fr + 256 * fs.length:=⟨_,rfl⟩
 have cS:=fun mv=>zm2 (e1:=e1) (e2:=e2) (fa:=fa) (hq0:=hq0) ws mv fr lim fs hf0 hf1 (by omega)
 rw [←hA] at cS
 have hE:(fs.map WB)++[.agg [pi m,pi 0,u64 A,u64 (IntKind.u64.wrap (A + 152)),pi 0]]=(fs++[ztp m 0 A A]).map WB:=by
  rw [qO (by omega) (by omega)];simp [ztp,WB]
 refine zC zh Tryz.func225 rfl (by kernel_rfl) Tryz.ntmps225 (by simp) _ rfl (fun gB hw1=>?_)
 repeat' (first|refine zo (r:=.pv (pb _)) rfl (Yf (args:=fun ρ=>[.ptr (stX (.slc 1 e1 false) (.slc 1 e2 false) fa hq0 ws (ρ 8) fr lim fs) 0]) rfl (fun _=>rfl) (fun ρ=>zhg ws (ρ 8) fr lim fs)) rfl rfl ?_|refine AD.step _ _ _ (.pv (pb _)) _ rfl (Yf (args:=fun ρ=>[.ptr (stX (.slc 1 e1 false) (.slc 1 e2 false) fa hq0 ws (ρ 8) fr lim fs) 0]) rfl (fun _=>rfl) (fun ρ=>zhg ws (ρ 8) fr lim fs)) rfl rfl ?_|refine zo (r:=.pv (u64 _)) rfl (Yf (args:=fun ρ=>[.ptr (stX (.slc 1 e1 false) (.slc 1 e2 false) fa hq0 ws (ρ 8) fr lim fs) 0]) rfl (fun _=>rfl) (fun ρ=>cS (ρ 8))) rfl rfl ?_|refine AD.step _ _ _ (.pv (u64 _)) _ rfl (Yf (args:=fun ρ=>[.ptr (stX (.slc 1 e1 false) (.slc 1 e2 false) fa hq0 ws (ρ 8) fr lim fs) 0]) rfl (fun _=>rfl) (fun ρ=>cS (ρ 8))) rfl rfl ?_|refine sK ?_|refine sC (fun _=>?_) (fun _=>?_)|fail)
 refine zB (fun k:Nat=>[(0,.box 30 0),(1,.pv (pi m)),(3,.pv (.slc 1 (l.map u64) full)),(9,.pv (u64 A)),(27,.pv (u64 k))]) (fun k=>skX (.slc 1 e1 false) (.slc 1 e2 false) fa hq0 X8 (zbp ws A k) fr lim fs++zJ us [0,30]) (fun k=>k≤256) (fun k=>256 - k) 0 (by omega) tSU ⟨by repeat (first|exact zk|refine zi rfl ?_),rfl⟩ ?_
 rintro k hk
 by_cases hlt:k < 256
 ·have hdk:decide ((k:Int) < 256)=true:=decide_eq_true (by omega)
  have cP:=fun us'=>zeQ (e1:=e1) (e2:=e2) (fa:=fa) (hq0:=hq0) (X8:=X8) (zbp ws A k) fr 0 (IntKind.u64.wrap (A + (k:Int))) 0 (Wx _) (by rw [zcu];exact hws) us'
  repeat' (first|refine zgI rfl hdk ?_|(refine zy ?_;first|refine yx (zir (.slc 1 e1 false) (.slc 1 e2 false) fa hq0 X8 (zbp ws A k) fr 0) (zir (.slc 1 e1 false) (.slc 1 e2 false) fa hq0 X8 (zbp ws A (k + 1)) fr 0) (skR lim fs us) [(0,.box 30 0),(1,.pv (pi m)),(3,.pv (.slc 1 (l.map u64) full)),(9,.pv (u64 A)),(27,.pv (u64 k))] [0] zaU rfl rfl rfl (by repeat (first|exact zk|refine zi rfl ?_)) tS rfl rfl rfl cP ?_)|refine sK ?_|refine sC (fun _=>?_) (fun _=>?_)|fail)
  exact ⟨k + 1,hlt,tD,tSU,⟨by repeat (first|exact zk|refine zi rfl ?_),rfl⟩⟩
 ·have hk2:k=256:=by omega
  subst hk2
  have hdF:decide (((256:Nat):Int) < 256)=false:=rfl
  repeat' (first|refine zev rfl hdF ?_|refine sK ?_|refine sC (fun _=>?_) (fun _=>?_)|fail)
  refine zB (fun k:Nat=>[(0,.box 30 0),(1,.pv (pi m)),(9,.pv (u64 A)),(39,.pv (.slc 1 (l.map u64) full)),(40,.pv (pi l.length)),(41,.pv (pi k))]) (fun k=>skX (.slc 1 e1 false) (.slc 1 e2 false) fa hq0 X8 (zf4 (zbp ws A 256) A l k) fr lim fs++zJ us [0,30]) (fun k=>k≤l.length) (fun k=>l.length - k) 0 (by omega) tSU ⟨by repeat (first|exact zk|refine zi rfl ?_),rfl⟩ ?_
  rintro k hk
  by_cases hlt:k < l.length
  ·have hdk:decide ((k:Int) < (l.length:Int))=true:=decide_eq_true (by omega)
   have hx:(l.map u64)[k]?=some (u64 (l.getD k 0)):=by rw [List.getElem?_map,List.getD_eq_getElem?_getD,List.getElem?_eq_getElem hlt];rfl
   have cP:=fun us'=>zeQ (e1:=e1) (e2:=e2) (fa:=fa) (hq0:=hq0) (X8:=X8) (zf4 (zbp ws A 256) A l k) fr 0 (IntKind.u64.wrap (A + IntKind.u64.wrap (k:Int))) (l.getD k 0) (Wx _) (by rw [zfq,zcu];exact hws) us'
   repeat' (first|(refine shX ?_;first|refine qX hx ?_)|(refine zy ?_;first|refine yx (zir (.slc 1 e1 false) (.slc 1 e2 false) fa hq0 X8 (zf4 (zbp ws A 256) A l k) fr 0) (zir (.slc 1 e1 false) (.slc 1 e2 false) fa hq0 X8 (zf4 (zbp ws A 256) A l (k + 1)) fr 0) (skR lim fs us) [(0,.box 30 0),(1,.pv (pi m)),(9,.pv (u64 A)),(39,.pv (.slc 1 (l.map u64) full)),(40,.pv (pi l.length)),(41,.pv (pi k))] [0] zaU rfl rfl rfl (by repeat (first|exact zk|refine zi rfl ?_)) tS rfl rfl rfl cP ?_)|refine sK ?_|refine sC (fun _=>?_) (fun _=>?_)|fail)
   exact ⟨k + 1,hlt,tD,tSU,⟨by repeat (first|exact zk|refine zi rfl ?_),rfl⟩⟩
  ·have hk2:k=l.length:=by omega
   subst hk2
   have hdk:decide ((l.length:Int) < (l.length:Int))=false:=decide_eq_false (by omega)
   rw [←hA]
   repeat' (first|(refine zL ?_;first|refine Xv zh rfl rfl rfl rfl rfl rfl rfl (by show _ * 40≤_;simp only [List.length_map,List.length_cons,List.length_nil];omega) (by simp only [List.length_map,List.length_cons,List.length_nil];omega) rfl rfl ?_)|refine sK ?_|refine sC (fun _=>?_) (fun _=>?_)|fail)
   exact ⟨.inr rfl,.inl ⟨_,rfl,rfl,⟨by repeat (first|exact zk|refine zi rfl ?_|refine za1 rfl hE ?_),rfl⟩⟩⟩
theorem zm9 (ws:List Int) (fr lim:Int) (l:List Int) (full:Bool) (fs:List Fr) (f:Fr) (hf:fs.length≤63) (hs0:0≤f.size) (hyes:f.size + l.length≤96) (hws:ws.length≤100000) (us:Nat→Value) :
  ACallM Tryz.prog 230 [.box 30 0,.pv (.slc 1 (l.map u64) full)] (skX (.slc 1 e1 false) (.slc 1 e2 false) fa hq0 X8 ws fr lim (fs++[f])++zJ us [0,30]) (.pv (pb true)) (skX (.slc 1 e1 false) (.slc 1 e2 false) fa hq0 X8 (Xj ws f.eval f.size l l.length) fr lim (fs++[sized f (f.size + l.length)])++zJ us [0,30]):=by
 have cT:=fun us'=>zjd (e1:=e1) (e2:=e2) (fa:=fa) (hq0:=hq0) (X8:=X8) ws fr lim fs f hf us'
 have hp:=zbK fs f
 have hd:decide (IntKind.i64.wrap (96 - f.size) < (((l.map u64).length:Nat):Int))=false:=decide_eq_false (by rw [List.length_map,wrap_in (by omega) (by omega)];omega)
 refine zC zh Tryz.func230 rfl (by kernel_rfl) Tryz.ntmps230 (by simp) _ rfl (fun gB hw1=>?_)
 repeat' (first|refine zo rfl (zjh rfl Tryz.underlying371 rfl) rfl rfl ?_|refine sM ?_|refine zo rfl (zN (k:=fs.length) (j:=4) zh rfl rfl rfl rfl hp rfl) rfl rfl ?_|refine AD.step _ _ _ _ _ rfl (zN (k:=fs.length) (j:=4) zh rfl rfl rfl rfl hp rfl) rfl rfl ?_|(refine zy ?_;first|refine yx (skX (.slc 1 e1 false) (.slc 1 e2 false) fa hq0 X8 ws fr lim (fs++[f])) (skX (.slc 1 e1 false) (.slc 1 e2 false) fa hq0 X8 ws fr lim (fs++[f])) [(1000,.pin (.own 0) (us 0)),(1030,.pin (.own 30) (us 30))] [(0,.box 30 0),(1,.pv (.slc 1 (l.map u64) full))] [0,30] zaU rfl rfl rfl (by repeat (first|exact zk|refine zi rfl ?_)) tS rfl rfl rfl cT ?_)|refine sK ?_|refine sC (fun _=>?_) (fun _=>?_)|fail)
 refine zB (fun k:Nat=>[(0,.box 30 0),(5,.ad 37 (fs.length * 5)),(22,.pv (.slc 1 (l.map u64) full)),(23,.pv (pi l.length)),(24,.pv (pi k))]) (fun k=>skX (.slc 1 e1 false) (.slc 1 e2 false) fa hq0 X8 (Xj ws f.eval f.size l k) fr lim (fs++[sized f (f.size + k)])++zJ us [0,30]) (fun k=>k≤l.length) (fun k=>l.length - k) 0 (by omega) tSU
  ⟨by repeat (first|exact zk|refine zi rfl ?_|refine za1 rfl (by simp [WB,sized]) ?_),rfl⟩ ?_
 rintro k hk
 by_cases hlt:k < l.length
 ·have hdk:decide ((k:Int) < (l.length:Int))=true:=decide_eq_true (by omega)
  have hx:(l.map u64)[k]?=some (u64 (l.getD k 0)):=by rw [List.getElem?_map,List.getD_eq_getElem?_getD,List.getElem?_eq_getElem hlt];rfl
  have hp2:=zbK fs (sized f (f.size + k))
  obtain ⟨W,hW⟩:∃ W,W=Xj ws f.eval f.size l k:=⟨_,rfl⟩
  have hWl:W.length≤100000:=by rw [hW,zaH];exact hws
  have cP:=fun us'=>zeQ (e1:=e1) (e2:=e2) (fa:=fa) (hq0:=hq0) (X8:=X8) W fr 0 (IntKind.u64.wrap (f.eval + IntKind.u64.wrap (f.size + (k:Int)))) (l.getD k 0) (Wx _) hWl us'
  rw [show zeq W (IntKind.u64.wrap (f.eval + IntKind.u64.wrap (f.size + (k:Int)))) (l.getD k 0)=Xj ws f.eval f.size l (k + 1) by rw [Xj,hW]] at cP
  rw [←hW]
  repeat' (first|refine yG 16 15 rfl (by kernel_rfl) (by kernel_rfl) (by kernel_rfl) (by kernel_rfl) (by kernel_rfl) ?_|refine sM ?_|refine zo rfl (zN (k:=fs.length) (j:=3) zh rfl rfl rfl rfl hp2 rfl) rfl rfl ?_|refine AD.step _ _ _ _ _ rfl (zN (k:=fs.length) (j:=3) zh rfl rfl rfl rfl hp2 rfl) rfl rfl ?_|refine zo rfl (zN (k:=fs.length) (j:=4) zh rfl rfl rfl rfl hp2 rfl) rfl rfl ?_|refine AD.step _ _ _ _ _ rfl (zN (k:=fs.length) (j:=4) zh rfl rfl rfl rfl hp2 rfl) rfl rfl ?_|(refine shX ?_;first|refine qX hx ?_)|(refine zy ?_;first|refine yx (zir (.slc 1 e1 false) (.slc 1 e2 false) fa hq0 X8 W fr 0) (zir (.slc 1 e1 false) (.slc 1 e2 false) fa hq0 X8 (Xj ws f.eval f.size l (k + 1)) fr 0) (skR lim (fs++[sized f (f.size + k)]) us) [(0,.box 30 0),(5,.ad 37 (fs.length * 5)),(22,.pv (.slc 1 (l.map u64) full)),(23,.pv (pi l.length)),(24,.pv (pi k))] [0] zaU rfl rfl rfl (by repeat (first|exact zk|refine zi rfl ?_)) tS rfl rfl rfl cP ?_)|(refine qA ?_;first|refine ZL (k:=fs.length) (j:=4) zh rfl rfl rfl rfl rfl hp2 rfl rfl rfl rfl rfl ?_)|refine sK ?_|refine sC (fun _=>?_) (fun _=>?_)|fail)
  refine ⟨k + 1,hlt,tD,tSU,⟨by repeat (first|exact zk|refine zi rfl ?_|refine za1 rfl (zlV fs (sized f (f.size + k)) (sized f (f.size + ((k + 1:Nat):Int))) _ (by show sized f (f.size + ((k + 1:Nat):Int))=sized f (IntKind.i64.wrap (f.size + k + 1));rw [wrap_in (by omega) (by omega)];congr 1;omega)) ?_),rfl⟩⟩
 ·have hk2:k=l.length:=by omega
  subst hk2
  have hdk:decide ((l.length:Int) < (l.length:Int))=false:=decide_eq_false (by omega)
  repeat' (first|refine sK ?_|refine sC (fun _=>?_) (fun _=>?_)|fail)
  exact ⟨.inr rfl,.inl ⟨_,rfl,rfl,⟨by repeat (first|exact zk|refine zi rfl ?_),rfl⟩⟩⟩
theorem zmt (ws:List Int) (fr lim:Int) (l:List Fr) (f:Fr) (hf:l.length≤63) (us:Nat→Value):ACallM Tryz.prog 383 [.box 30 0] (skX (.slc 1 e1 false) (.slc 1 e2 false) fa hq0 X8 ws fr lim (l++[f])++zJ us [0,30]) (.pv (pb true)) (skX (.slc 1 e1 false) (.slc 1 e2 false) fa hq0 X8 ws fr lim l++zJ us [0,30]):=by
 have hd:decide ((((l++[f]).length:Nat):Int)=0)=false:=decide_eq_false (by simp only [List.length_append,List.length_cons,List.length_nil];omega)
 have hm:IntKind.i64.wrap ((((l++[f]).map WB).length:Int) - 1)=((l.length:Nat):Int):=by
  simp only [List.length_map,List.length_append,List.length_cons,List.length_nil]
  rw [wrap_in (by omega) (by omega)];omega
 have hm':some (IntKind.i64.wrap ((((l++[f]).map WB).length:Int) - 1))=some ((l.length:Nat):Int):=by rw [hm]
 have hE:((l++[f]).map WB).take l.length=l.map WB:=by simp
 refine zC zh Tryz.func383 rfl (by kernel_rfl) Tryz.ntmps383 (by simp) _ rfl (fun gB hw1=>?_)
 repeat' (first|refine zo (r:=.pv (pi _)) rfl (Yf (args:=fun ρ=>[.ptr (stX (.slc 1 e1 false) (.slc 1 e2 false) fa hq0 ws (ρ 8) fr lim (l++[f])) 0]) rfl (fun _=>rfl) (fun ρ=>Ym ws (ρ 8) fr lim (l++[f]))) rfl rfl ?_|refine AD.step _ _ _ (.pv (pi _)) _ rfl (Yf (args:=fun ρ=>[.ptr (stX (.slc 1 e1 false) (.slc 1 e2 false) fa hq0 ws (ρ 8) fr lim (l++[f])) 0]) rfl (fun _=>rfl) (fun ρ=>Ym ws (ρ 8) fr lim (l++[f]))) rfl rfl ?_|refine zqb 30 37 45 2 (h:=l.length) rfl rfl rfl rfl (by simp) (by simp) ?_|refine zon 37 45 rfl rfl (fun uu=>?_)|refine sM ?_|refine yG 15 14 rfl (by kernel_rfl) (by kernel_rfl) (by kernel_rfl) (by kernel_rfl) (by kernel_rfl) ?_|refine AD.step _ _ _ _ _ rfl (zuo zh 37 45 rfl rfl rfl rfl rfl rfl rfl hm' (by omega) (by simp;omega) (by simp)) rfl rfl ?_|refine sK ?_|refine sC (fun _=>?_) (fun _=>?_)|fail)
 exact ⟨.inr rfl,.inl ⟨_,rfl,rfl,⟨by repeat (first|exact zk|refine zi rfl ?_|refine za1 rfl hE ?_),rfl⟩⟩⟩
theorem zoJ (ws:List Int) (fr lim m at_ ba e:Int) (s n:Nat) (fs:List Fr) (hf:fs.length≤63) (hs:s≤96) (hn:n≤s) (hws:ws.length≤100000) (us:Nat→Value) :
  ACallM Tryz.prog 233 [.box 30 0,.pv (pi n)] (skX (.slc 1 e1 false) (.slc 1 e2 false) fa hq0 X8 ws fr lim (fs++[⟨m,at_,ba,e,s⟩])++zJ us [0,30]) (.pv (.slc 1 ((zdm ws (IntKind.u64.wrap (e + IntKind.u64.wrap ((s - n:Nat):Int))) n).map u64) false)) (skX (.slc 1 e1 false) (.slc 1 e2 false) fa hq0 X8 ws fr lim (fs++[⟨m,at_,ba,e,((s - n:Nat):Int)⟩])++zJ us [0,30]):=by
 have cT:=fun us'=>zjd (e1:=e1) (e2:=e2) (fa:=fa) (hq0:=hq0) (X8:=X8) ws fr lim fs ⟨m,at_,ba,e,s⟩ hf us'
 have hp:=zbK fs ⟨m,at_,ba,e,s⟩
 have hp2:=zbK fs ⟨m,at_,ba,e,((s - n:Nat):Int)⟩
 have hd1:decide ((n:Int) < 0)=false:=decide_eq_false (by omega)
 have hd2:decide ((s:Int) < (n:Int))=false:=decide_eq_false (by omega)
 have hE:=zlV fs ⟨m,at_,ba,e,s⟩ ⟨m,at_,ba,e,((s - n:Nat):Int)⟩ (IntKind.i64.wrap ((s:Int) - n)) (by rw [wrap_in (by omega) (by omega)];simp only [sized];congr 1;omega)
 refine zC zh Tryz.func233 rfl (by kernel_rfl) Tryz.ntmps233 (by simp) _ rfl (fun gB hw1=>?_)
 repeat' (first|refine zo rfl (zjh rfl Tryz.underlying371 rfl) rfl rfl ?_|refine zg9 37 rfl hE ?_|refine sM ?_|refine zo rfl (zdH (args:=fun ρ=>[.ptr (stX (.slc 1 e1 false) (.slc 1 e2 false) fa hq0 ws (ρ 8) fr lim (fs++[⟨m,at_,ba,e,((s - n:Nat):Int)⟩])) 0,u64 (IntKind.u64.wrap (e + IntKind.u64.wrap ((s - n:Nat):Int))),pi n]) rfl (fun _=>rfl) (fun ρ=>VH ws (ρ 8) fr lim (IntKind.u64.wrap (e + IntKind.u64.wrap ((s - n:Nat):Int))) n (fs++[⟨m,at_,ba,e,((s - n:Nat):Int)⟩]) (by omega) hws) (by decide) (zd5 _)) rfl rfl ?_|refine AD.step _ _ _ _ _ rfl (zdH (args:=fun ρ=>[.ptr (stX (.slc 1 e1 false) (.slc 1 e2 false) fa hq0 ws (ρ 8) fr lim (fs++[⟨m,at_,ba,e,((s - n:Nat):Int)⟩])) 0,u64 (IntKind.u64.wrap (e + IntKind.u64.wrap ((s - n:Nat):Int))),pi n]) rfl (fun _=>rfl) (fun ρ=>VH ws (ρ 8) fr lim (IntKind.u64.wrap (e + IntKind.u64.wrap ((s - n:Nat):Int))) n (fs++[⟨m,at_,ba,e,((s - n:Nat):Int)⟩]) (by omega) hws) (by decide) (zd5 _)) rfl rfl ?_|refine zo rfl (zN (k:=fs.length) (j:=4) zh rfl rfl rfl rfl hp rfl) rfl rfl ?_|refine AD.step _ _ _ _ _ rfl (zN (k:=fs.length) (j:=4) zh rfl rfl rfl rfl hp rfl) rfl rfl ?_|refine zo rfl (zN (k:=fs.length) (j:=4) zh rfl rfl rfl rfl hp2 rfl) rfl rfl ?_|refine AD.step _ _ _ _ _ rfl (zN (k:=fs.length) (j:=4) zh rfl rfl rfl rfl hp2 rfl) rfl rfl ?_|refine zo rfl (zN (k:=fs.length) (j:=3) zh rfl rfl rfl rfl hp2 rfl) rfl rfl ?_|refine AD.step _ _ _ _ _ rfl (zN (k:=fs.length) (j:=3) zh rfl rfl rfl rfl hp2 rfl) rfl rfl ?_|(refine qA ?_;first|refine ZL (k:=fs.length) (j:=4) zh rfl rfl rfl rfl rfl hp rfl rfl rfl rfl rfl ?_)|(refine zy ?_;first|refine yx (skX (.slc 1 e1 false) (.slc 1 e2 false) fa hq0 X8 ws fr lim (fs++[⟨m,at_,ba,e,s⟩])) (skX (.slc 1 e1 false) (.slc 1 e2 false) fa hq0 X8 ws fr lim (fs++[⟨m,at_,ba,e,s⟩])) [(1000,.pin (.own 0) (us 0)),(1030,.pin (.own 30) (us 30))] [(0,.box 30 0),(1,.pv (pi n))] [0,30] zaU rfl rfl rfl (by repeat (first|exact zk|refine zi rfl ?_)) tS rfl rfl rfl cT ?_)|refine sK ?_|refine sC (fun _=>?_) (fun _=>?_)|fail)
 exact ⟨.inr rfl,.inl ⟨_,rfl,rfl,⟨by repeat (first|exact zk|refine zi rfl ?_),rfl⟩⟩⟩
theorem zl8 (ws:List Int) (fr lim m at_ ba e:Int) (s k:Nat) (fs:List Fr) (hf:fs.length≤64) (hs:s≤96) (hk:fs[k]?=some ⟨m,at_,ba,e,s⟩) (hws:ws.length≤100000) (us:Nat→Value) :
  ACallM Tryz.prog 61 [.box 30 0,.pv (pi k)] (skX (.slc 1 e1 false) (.slc 1 e2 false) fa hq0 X8 ws fr lim fs++zJ us [0,30]) (.pv (.agg [pi m,pi at_,u64 ba,.slc 1 ((zdm ws e s).map u64) false])) (skX (.slc 1 e1 false) (.slc 1 e2 false) fa hq0 X8 ws fr lim fs++zJ us [0,30]):=by
 have hlt:=(List.getElem?_eq_some_iff.1 hk).1
 have cH:=fun mv=>zei (e1:=e1) (e2:=e2) (fa:=fa) (hq0:=hq0) ws mv fr lim k fs
 rw [decide_eq_true (show (0:Int)≤(k:Int)∧(k:Int) < (fs.length:Int) by omega)] at cH
 have hp:(fs.map WB)[k]?=some (.agg [pi m,pi at_,u64 ba,u64 e,pi s]):=by rw [List.getElem?_map,hk];rfl
 have hl:k < (fs.map WB).length:=by simpa using hlt
 refine zC zh Tryz.func61 rfl (by kernel_rfl) Tryz.ntmps61 (by simp) _ rfl (fun gB hw1=>?_)
 repeat' (first|refine zo (r:=.pv (pb _)) rfl (Yf (args:=fun ρ=>[.ptr (stX (.slc 1 e1 false) (.slc 1 e2 false) fa hq0 ws (ρ 8) fr lim fs) 0,pi k]) rfl (fun _=>rfl) (fun ρ=>cH (ρ 8))) rfl rfl ?_|refine AD.step _ _ _ (.pv (pb _)) _ rfl (Yf (args:=fun ρ=>[.ptr (stX (.slc 1 e1 false) (.slc 1 e2 false) fa hq0 ws (ρ 8) fr lim fs) 0,pi k]) rfl (fun _=>rfl) (fun ρ=>cH (ρ 8))) rfl rfl ?_|refine sM ?_|refine zo rfl (zN (k:=k) (j:=0) zh rfl rfl rfl rfl hp rfl) rfl rfl ?_|refine AD.step _ _ _ _ _ rfl (zN (k:=k) (j:=0) zh rfl rfl rfl rfl hp rfl) rfl rfl ?_|refine zo rfl (zdH (args:=fun ρ=>[.ptr (stX (.slc 1 e1 false) (.slc 1 e2 false) fa hq0 ws (ρ 8) fr lim fs) 0,u64 e,pi s]) rfl (fun _=>rfl) (fun ρ=>VH ws (ρ 8) fr lim e s fs (by omega) hws) (by decide) (zd5 _)) rfl rfl ?_|refine AD.step _ _ _ _ _ rfl (zdH (args:=fun ρ=>[.ptr (stX (.slc 1 e1 false) (.slc 1 e2 false) fa hq0 ws (ρ 8) fr lim fs) 0,u64 e,pi s]) rfl (fun _=>rfl) (fun ρ=>VH ws (ρ 8) fr lim e s fs (by omega) hws) (by decide) (zd5 _)) rfl rfl ?_|refine yG 14 13 rfl (by kernel_rfl) (by kernel_rfl) (by kernel_rfl) (by kernel_rfl) (by kernel_rfl) ?_|(refine shX ?_;first|refine zo rfl (zK (k:=k) zh rfl rfl rfl rfl rfl rfl rfl rfl hl) rfl rfl ?_|refine AD.step _ _ _ _ _ rfl (zK (k:=k) zh rfl rfl rfl rfl rfl rfl rfl rfl hl) rfl rfl ?_)|refine sK ?_|refine sC (fun _=>?_) (fun _=>?_)|fail)
 exact ⟨.inr rfl,.inl ⟨_,rfl,rfl,⟨by repeat (first|exact zk|refine zi rfl ?_),rfl⟩⟩⟩
end
section
variable {e1 e2:List PV} {fa hq0:Int} {X8:Obj→Prop}
def zjZ (f:Fr) (a:Int):Fr:=⟨f.method,a,f.base,f.eval,f.size⟩
theorem zp1 (l:List Fr) (f f':Fr) (a:Int) (h:f'=zjZ f a):((l++[f]).map WB).set l.length (.agg [pi f.method,pi a,u64 f.base,u64 f.eval,pi f.size])=(l++[f']).map WB:=by subst h;simp [WB,zjZ]
set_option maxHeartbeats 2000000 in
theorem zoU (ws:List Int) (fr lim a:Int) (l:List Fr) (f:Fr) (us:Nat→Value):ACallM Tryz.prog 236 [.box 30 0,.pv (pi (l.length:Nat)),.pv (pi a)] (skX (.slc 1 e1 false) (.slc 1 e2 false) fa hq0 X8 ws fr lim (l++[f])++zJ us [0,30]) (.pv (.tup [])) (skX (.slc 1 e1 false) (.slc 1 e2 false) fa hq0 X8 ws fr lim (l++[zjZ f a])++zJ us [0,30]):=by
 have cH:=fun mv=>zei (e1:=e1) (e2:=e2) (fa:=fa) (hq0:=hq0) ws mv fr lim l.length (l++[f])
 rw [decide_eq_true (show (0:Int)≤(l.length:Int)∧(l.length:Int) < ((l++[f]).length:Int) by simp only [List.length_append,List.length_cons,List.length_nil];omega)] at cH
 have hp:=zbK l f
 have hl:l.length < ((l++[f]).map WB).length:=by simp
 have hE:=zp1 l f (zjZ f a) a rfl
 refine zC zh Tryz.func236 rfl (by kernel_rfl) Tryz.ntmps236 (by simp) _ rfl (fun gB hw1=>?_)
 repeat' (first|refine zo (r:=.pv (pb _)) rfl (Yf (args:=fun ρ=>[.ptr (stX (.slc 1 e1 false) (.slc 1 e2 false) fa hq0 ws (ρ 8) fr lim (l++[f])) 0,pi (l.length:Nat)]) rfl (fun _=>rfl) (fun ρ=>cH (ρ 8))) rfl rfl ?_|refine AD.step _ _ _ (.pv (pb _)) _ rfl (Yf (args:=fun ρ=>[.ptr (stX (.slc 1 e1 false) (.slc 1 e2 false) fa hq0 ws (ρ 8) fr lim (l++[f])) 0,pi (l.length:Nat)]) rfl (fun _=>rfl) (fun ρ=>cH (ρ 8))) rfl rfl ?_|refine sM ?_|(refine shX ?_;first|refine zo rfl (zK (k:=l.length) zh rfl rfl rfl rfl rfl rfl rfl rfl hl) rfl rfl ?_|refine AD.step _ _ _ _ _ rfl (zK (k:=l.length) zh rfl rfl rfl rfl rfl rfl rfl rfl hl) rfl rfl ?_)|(refine qA ?_;first|refine ZL (k:=l.length) (j:=1) zh rfl rfl rfl rfl rfl hp rfl rfl rfl rfl rfl ?_)|refine sK ?_|refine sC (fun _=>?_) (fun _=>?_)|fail)
 exact ⟨.inl rfl,.inl ⟨[],rfl,rfl,⟨by repeat (first|exact zk|refine zi rfl ?_|refine za1 rfl hE ?_),rfl⟩⟩⟩
end
end Go.Cg
