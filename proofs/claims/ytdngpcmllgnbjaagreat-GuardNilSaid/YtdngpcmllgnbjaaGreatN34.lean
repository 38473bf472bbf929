/- A part of the walks by abstract values: no statement of its own. -/
import Derived.Test.YtdngpcmllgnbjaaGreatN29
import Derived.Test.YtdngpcmllgnbjaaGreatN32
import Derived.Test.YtdngpcmllgnbjaaGreatN24
import Derived.Test.YtdngpcmllgnbjaaGreatN10
set_option linter.unusedVariables false
set_option linter.unusedSimpArgs false
namespace Go.Cg
open Go.Proofs
theorem zlP {P:Prop}:false=true→P:=fun h=>nomatch h
theorem tSU {P:Prop} (h:P:=by repeat (first|exact yj|refine zY rfl ?_|(refine qL rfl ?_ ?_;· (first|omega|(rw [wrap_in (by omega) (by omega)] <;> omega)|(rw [Zv (by omega) (by omega)] <;> omega)|(dsimp only;rw [Zv (by omega) (by omega)] <;> omega)|(simp;done))))):P:=h
set_option maxHeartbeats 1000000 in
theorem zas (a b:List Int) (fa fb:Bool) (ha:a.length≤100000) (hb:b.length≤100000):ACall Tryz.prog 51 [.slc 1 (a.map u64) fa,.slc 1 (b.map u64) fb] (pb (decide (a=b))):=by
 refine zf zh Tryz.func51 rfl (by kernel_rfl) Tryz.ntmps51 (by simp) _ rfl (fun hw gB hgB=>?_)
 by_cases hlen:a.length=b.length
 ·have hd:(decide ((((a.map u64).length:Nat):Int)=(((b.map u64).length:Nat):Int)))=true:=decide_eq_true (by simp [hlen])
  repeat' (first|refine sK ?_|refine sC (fun _=>?_) (fun _=>?_)|fail)
  refine zA (fun k:Nat=>[(0,.pv (.slc 1 (a.map u64) fa)),(1,.pv (.slc 1 (b.map u64) fb)),(5,.pv (pi k))]) (fun _=>[]) (fun k=>k≤a.length∧a.take k=b.take k) (fun k=>a.length - k) 0 ⟨by simp,by simp⟩ (tS) tH ?_
  rintro k ⟨hk,hno⟩
  by_cases hlt:k < a.length
  ·have he:(a.map u64)[k]?=some (u64 a[k]):=by rw [List.getElem?_map,List.getElem?_eq_getElem hlt];rfl
   have hltb:k < b.length:=by omega
   have he':(b.map u64)[k]?=some (u64 b[k]):=by rw [List.getElem?_map,List.getElem?_eq_getElem hltb];rfl
   have hdk:decide ((k:Int) < (((a.map u64).length:Nat):Int))=true:=decide_eq_true (by rw [List.length_map];omega)
   repeat' (first|(refine shX ?_;first|refine qX he ?_|refine qX he' ?_)|refine sK ?_|refine sC (fun _=>?_) (fun _=>?_)|fail)
   ·rename_i h
    refine retq rfl ?_
    have:a≠b:=by
     rintro rfl
     simp at h
    simp [zl,this]
   ·rename_i h
    have e:a[k]=b[k]:=by simpa using h
    exact ⟨k + 1,⟨by omega,by rw [List.take_succ_eq_append_getElem hlt,List.take_succ_eq_append_getElem hltb,hno,e]⟩,tD,tS,tH⟩
  ·have hdk:decide ((k:Int) < (((a.map u64).length:Nat):Int))=false:=decide_eq_false (by rw [List.length_map];omega)
   repeat' (first|refine sK ?_|refine sC (fun _=>?_) (fun _=>?_)|fail)
   have e:a=b:=by
    have h1:=hno
    rw [List.take_of_length_le (by omega),List.take_of_length_le (by omega)] at h1
    exact h1
   exact retq rfl (by simp [zl,e])
 ·have hd:(decide ((((a.map u64).length:Nat):Int)=(((b.map u64).length:Nat):Int)))=false:=decide_eq_false (by simp;omega)
  repeat' (first|refine sK ?_|refine sC (fun _=>?_) (fun _=>?_)|fail)
  exact retq rfl (by
    have:a≠b:=by rintro rfl;exact hlen rfl
    simp [zl,this])
set_option maxHeartbeats 20000000
def Qu (g:Img) (k:Nat):List Int:=(List.range k).map fun t:Nat=>zB g (t:Int)
def zak (g:Img) (k:Nat):List (List Ty):=(List.range k).map fun t:Nat=>Qc g (t:Int)
def WZ (g:Img):Nat→List (PV × Int)
 | 0=>[]
 | k + 1=>if zB g (k:Int)==1 then WZ g k++[(yA ⟨6,(k:Int),0,false⟩,((cellsA g ⟨6,(k:Int),0,false⟩).length:Int))] else WZ g k
theorem zjc (g:Img) (k:Nat):Qu g (k + 1)=Qu g k++[zB g (k:Int)]:=by simp [Qu,List.range_succ]
theorem zk9 (g:Img) (k:Nat):zak g (k + 1)=zak g k++[Qc g (k:Int)]:=by simp [zak,List.range_succ]
theorem eqTy (a b:Int):eqE tb 8 44 (.agg [pi 6,pi a,pi 0,pb false]) (.agg [pi 6,pi b,pi 0,pb false])=some (a==b):=by
 have:eqE tb 8 44 (.agg [pi 6,pi a,pi 0,pb false]) (.agg [pi 6,pi b,pi 0,pb false])=some ((6:Int)==6&&((a==b)&&((0:Int)==0&&((false==false)&&true)))):=rfl
 rw [this];simp
theorem zgT (g:Img) (a:Nat):∀ k,k≤a→zaJ tb 44 (.agg [pi 6,pi (a:Int),pi 0,pb false]) (WZ g k)=some none
 | 0,_=>rfl
 | k + 1,h=>by
  have ih:=zgT g a k (by omega)
  rw [WZ]
  split
  ·have key:∀ (l:List (PV × Int)) (e:PV × Int),zaJ tb 44 (.agg [pi 6,pi (a:Int),pi 0,pb false]) l=some none→eqE tb 8 44 (.agg [pi 6,pi (a:Int),pi 0,pb false]) e.1=some false→zaJ tb 44 (.agg [pi 6,pi (a:Int),pi 0,pb false]) (l++[e])=some none:=by
    intro l e hl he
    induction l with
    | nil=>simp [zaJ,he]
    | cons x l ihl =>
     obtain ⟨q,v⟩:=x
     rw [zaJ] at hl
     rw [List.cons_append,zaJ]
     split at hl
     ·cases hl
     ·exact ihl hl
     ·cases hl
   refine key _ _ ih ?_
   show eqE tb 8 44 (.agg [pi 6,pi (a:Int),pi 0,pb false]) (.agg [pi 6,pi (k:Int),pi 0,pb false])=some false
   rw [eqTy]
   simp;omega
  ·exact ih
def wsG (fa N:Nat):Nat→List Int
 | 0=>List.replicate N 0
 | k + 1=>(wsG fa N k).set (fa + k) (zpB ⟨7,((k + 1:Nat):Int),0,false⟩)
theorem zlB (fa N:Nat):∀ k,(wsG fa N k).length=N
 | 0=>by simp [wsG]
 | k + 1=>by rw [wsG,List.length_set,zlB fa N k]
abbrev zkV (g:Img):PV:=.slc 1 ((zak g g.types.length).map tys) false
abbrev zhs (g:Img):PV:=.slc 1 ((Qu g g.types.length).map pi) false
abbrev gH (g:Img) (ws:List Int) (fa hp fr u:Int):HEnv:=[(0,.cell (.agg [.own 7,.pv (zkV g),.pv (zhs g),.own 8,.pv (u64 fa),.pv (u64 hp),.pv (u64 fr),.pv (pi u)])),(7,.mrow 102 1 (ws.map u64)),(8,.obj (TMap (WZ g g.types.length)))]
abbrev gPV (g:Img) (ws:List Int) (mv:Value) (fa hp fr u:Int):PV:=.agg [.slc 1 (ws.map u64) false,zkV g,zhs g,.base mv,u64 fa,u64 hp,u64 fr,pi u]
theorem WB (g:Img) (ws:List Int) (mv:Value) (fa hp fr u k:Int) (h0:0≤fa) (h9:fa≤10000) (h1:1≤k) (h7:k≤7):ACall Tryz.prog 93 [.ptr (gPV g ws mv fa hp fr u) 0,pi k] (u64 (fa + k - 1)):=by
 have hd1:decide (k < 1)=false:=decide_eq_false (by omega)
 have hd2:decide (7 < k)=false:=decide_eq_false (by omega)
 refine zf zh Tryz.func93 rfl (by kernel_rfl) Tryz.ntmps93 (by simp) _ rfl (fun hw gB hgB=>?_)
 repeat' (first|refine zq rfl (yK (b:=false) rfl Tryz.underlying103 rfl rfl) rfl rfl ?_|refine AD.step _ _ _ _ _ rfl (yK (b:=false) rfl Tryz.underlying103 rfl rfl) rfl rfl ?_|refine sK ?_|refine sC (fun _=>?_) (fun _=>?_)|fail)
 exact retq rfl (by
  simp only [zl]
  rw [Zv (a:=k) (by omega) (by omega),Zv (a:=fa + k) (by omega) (by omega),Zv (by omega) (by omega)])
theorem zmT {P:Prop} (h:P:=by repeat (first|exact yj|refine zY rfl ?_|(refine qL rfl ?_ ?_;· (first|omega|(rw [wrap_in (by omega) (by omega)] <;> omega)|(rw [Zv (by omega) (by omega)] <;> omega)|(dsimp only;rw [Zv (by omega) (by omega)] <;> omega)|(simp;done))))):P:=h
theorem zmx (g:Img) (hx:OkA g) (hfi:YM g=true) (w:Int) (h0:0≤w) (h1:w≤4096):ACallM Tryz.prog 86 [.pv (zu g),.pv (pi w)] [] (.box 0 0)
  (gH g (wsG (1 + (qI g).length) (8 + (qI g).length + w.toNat + 16384) 7) ((1 + (qI g).length:Nat):Int) ((8 + (qI g).length:Nat):Int) ((8 + (qI g).length + w.toNat:Nat):Int) 0) true:=by
 have hF:=zbh hfi
 have hN:=(zG hF.formed).1
 have c0:=zaB g hx
 have c1:=zbm g hx
 obtain ⟨S,hS⟩:∃ S,S=(qI g).length:=⟨_,rfl⟩
 have hSb:S≤512:=by
  rw [hS,qI,hfi]
  exact znJ hF _
 have hch:(Yl g).2=0:=by rw [YM] at hfi;simpa using hfi
 have hce:((Yl g).2 != 0)=false:=by rw [hch];rfl
 have hd1:decide (w < 0)=false:=decide_eq_false (by omega)
 have hd2:decide (4096 < w)=false:=decide_eq_false (by omega)
 refine zJ zh Tryz.func86 rfl (by kernel_rfl) Tryz.ntmps86 (by simp) _ rfl (fun gB hw1=>?_)
 repeat' (first|refine zfi rfl hd2 ?_|(refine shC ?_;first|refine qC c0 ?_)|refine sK ?_|refine sC (fun _=>?_) (fun _=>?_)|fail)
 repeat' (first|refine ziP 8 rfl rfl rfl rfl rfl ?_|refine zq rfl (zaF zh rfl ⟨_,rfl⟩ rfl rfl rfl rfl rfl rfl) rfl rfl ?_|refine Yn 0 41 1 65 1 (by decide) rfl rfl rfl rfl ?_|refine Yn 0 42 2 3 1 (by decide) rfl rfl rfl rfl ?_|(refine Zt ?_;first|refine YP 0 rfl rfl rfl rfl rfl rfl ?_)|refine sK ?_|refine sC (fun _=>?_) (fun _=>?_)|fail)
 refine zA (fun k:Nat=>[(1,.pv (pi w)),(2,.pv (.ptr (zu g) 0)),(7,.box 0 0),(31,.pv (pi g.types.length)),(32,.pv (pi k))])
  (fun k=>[(0,.cell (.agg [.pv zpQ,.own 41,.own 42,.own 8,.pv (u64 0),.pv (u64 0),.pv (u64 0),.pv (pi 0)])),(41,.row 65 1 ((zak g k).map tys)),(42,.row 3 1 ((Qu g k).map pi)),(8,.obj (TMap (WZ g k)))]) (fun k=>k≤g.types.length) (fun k=>g.types.length - k) 0 (by omega) zmT ⟨by repeat (first|exact zk|refine zi rfl ?_),rfl⟩ ?_
 rintro k hk
 by_cases hlt:k < g.types.length
 ·have hdk:decide ((k:Int) < (g.types.length:Int))=true:=decide_eq_true (by omega)
  have cK:=zab g (k:Int)
  rw [zb4 hF.formed] at cK
  have cO:=zhD g hx (k:Int)
  have cW:=zep g hx ⟨6,(k:Int),0,false⟩
  have hkl:(Qu g k).length=k:=by simp [Qu]
  have hol:(zak g k).length=k:=by simp [zak]
  have hex:((Qu g k).map pi++[pi (zB g (k:Int))])[((k:Int)).toNat]?=some (pi (zB g (k:Int))):=by
   rw [Int.toNat_natCast,List.getElem?_append_right (by rw [List.length_map,hkl];omega),List.length_map,hkl,Nat.sub_self];rfl
  have hK:(Qu g k).map pi++[pi (zB g (k:Int))]=(Qu g (k + 1)).map pi:=by rw [zjc,List.map_append];rfl
  have hO:(zak g k).map tys++[tys (Qc g (k:Int))]=(zak g (k + 1)).map tys:=by rw [zk9,List.map_append];rfl
  have hbK:(((Qu g k).map pi).length + [pi (zB g (k:Int))].length) * 8≤140737488355328∧((Qu g k).map pi).length + [pi (zB g (k:Int))].length≤140737488355328:=by simp only [List.length_map,hkl,List.length_cons,List.length_nil];omega
  have hbO:(((zak g k).map tys).length + [tys (Qc g (k:Int))].length) * 24≤140737488355328∧((zak g k).map tys).length + [tys (Qc g (k:Int))].length≤140737488355328:=by simp only [List.length_map,hol,List.length_cons,List.length_nil];omega
  by_cases hk1:zB g (k:Int)=1
  ·have hkb:(zB g (k:Int)==1)=true:=by simp [hk1]
   have hE:WZ g k++[(.agg [pi 6,pi (k:Int),pi 0,pb false],((cellsA g ⟨6,(k:Int),0,false⟩).length:Int))]=WZ g (k + 1):=by rw [WZ,if_pos hkb];rfl
   repeat' (first|refine zcB 9 0 (by kernel_rfl) (by kernel_rfl) rfl rfl rfl rfl rfl rfl rfl (zcl rfl rfl rfl) (by kernel_rfl) ?_|refine zgb (hw1 rfl) zh rfl rfl rfl rfl rfl rfl rfl rfl rfl rfl rfl (zgT g k k (Nat.le_refl _)) rfl ?_|refine yP 9 8 rfl (by kernel_rfl) (by kernel_rfl) (by kernel_rfl) (by kernel_rfl) (by kernel_rfl) ?_|(refine shC ?_;first|refine qC cK ?_|refine qC cO ?_|refine qC cW ?_)|(refine shX ?_;first|refine qX hex ?_)|(refine zI ?_;first|refine yg zh rfl rfl rfl rfl rfl rfl rfl (show _ * 8≤_ from hbK.1) hbK.2 rfl rfl ?_|refine yg zh rfl rfl rfl rfl rfl rfl rfl (show _ * 24≤_ from hbO.1) hbO.2 rfl rfl ?_)|refine sK ?_|refine sC (fun _=>?_) (fun _=>?_)|fail)
   exact ⟨k + 1,hlt,tD,zmT,⟨by repeat (first|exact zk|refine zi rfl ?_|refine yS rfl hO ?_|refine yS rfl hK ?_|refine zi (by rw [←hE];rfl) ?_),rfl⟩⟩
  ·have hkb:(zB g (k:Int)==1)=false:=by simp [hk1]
   have hE:WZ g k=WZ g (k + 1):=by rw [WZ,if_neg (by simp [hkb])]
   repeat' (first|refine zcB 9 0 (by kernel_rfl) (by kernel_rfl) rfl rfl rfl rfl rfl rfl rfl (zcl rfl rfl rfl) (by kernel_rfl) ?_|(refine shC ?_;first|refine qC cK ?_|refine qC cO ?_)|(refine shX ?_;first|refine qX hex ?_)|(refine zI ?_;first|refine yg zh rfl rfl rfl rfl rfl rfl rfl (show _ * 8≤_ from hbK.1) hbK.2 rfl rfl ?_|refine yg zh rfl rfl rfl rfl rfl rfl rfl (show _ * 24≤_ from hbO.1) hbO.2 rfl rfl ?_)|refine sK ?_|refine sC (fun _=>?_) (fun _=>?_)|fail)
   exact ⟨k + 1,hlt,tD,zmT,⟨by repeat (first|exact zk|refine zi rfl ?_|refine yS rfl hO ?_|refine yS rfl hK ?_|refine zi (by rw [←hE];rfl) ?_),rfl⟩⟩
 ·have hk2:k=g.types.length:=by omega
  subst hk2
  have hdk:decide ((g.types.length:Int) < (g.types.length:Int))=false:=decide_eq_false (by omega)
  obtain ⟨N,hN2⟩:∃ N,N=8 + S + w.toNat + 16384:=⟨_,rfl⟩
  obtain ⟨E1,hE1⟩:∃ E,E=IntKind.u64.wrap (1 + IntKind.u64.wrap ((((qI g).map yA).length:Nat):Int)):=⟨_,rfl⟩
  have e1:E1=((1 + S:Nat):Int):=by rw [hE1,List.length_map,←hS,Zv (a:=(S:Int)) (by omega) (by omega),Zv (by omega) (by omega)];omega
  obtain ⟨E2,hE2⟩:∃ E,E=IntKind.u64.wrap (E1 + 7):=⟨_,rfl⟩
  have e2:E2=((8 + S:Nat):Int):=by rw [hE2,e1,Zv (by omega) (by omega)];omega
  obtain ⟨E3,hE3⟩:∃ E,E=IntKind.u64.wrap (E2 + IntKind.u64.wrap w):=⟨_,rfl⟩
  have e3:E3=((8 + S + w.toNat:Nat):Int):=by rw [hE3,e2,Zv (a:=w) (by omega) (by omega),Zv (by omega) (by omega)];omega
  have hmi:IntKind.u64.wrap (E3 + 16384)=((N:Nat):Int):=by rw [e3,Zv (by omega) (by omega)];omega
  rw [hE3,hE2,hE1] at hmi
  rw [←hS,←hN2]
  repeat' (first|refine zaK 0 41 1 rfl rfl rfl ?_|refine zaK 0 42 2 rfl rfl rfl ?_|refine ziB (m:=N) (sz:=1) zh 7 rfl rfl rfl rfl rfl hmi rfl rfl (by show 8 * _≤_;omega) (by simp [maxLen];omega) rfl rfl rfl ?_|(refine shC ?_;first|refine qC c1 ?_)|refine sK ?_|refine sC (fun _=>?_) (fun _=>?_)|fail)
  refine zA (fun j:Nat=>[(7,.box 0 0),(10,.pv (pi ((j + 1:Nat):Int)))]) (fun j=>gH g (wsG (1 + S) N j) ((1 + S:Nat):Int) ((8 + S:Nat):Int) ((8 + S + w.toNat:Nat):Int) 0) (fun j=>j≤7) (fun j=>7 - j) 0 (by omega) zmT
   ⟨zi (show some (HE.cell (.agg [.own 7,.pv (zkV g),.pv (zhs g),.own 8,.pv (u64 (IntKind.u64.wrap (1 + IntKind.u64.wrap ((((qI g).map yA).length:Nat):Int)))),.pv (u64 (IntKind.u64.wrap (IntKind.u64.wrap (1 + IntKind.u64.wrap ((((qI g).map yA).length:Nat):Int)) + 7))),.pv (u64 (IntKind.u64.wrap (IntKind.u64.wrap (IntKind.u64.wrap (1 + IntKind.u64.wrap ((((qI g).map yA).length:Nat):Int)) + 7) + IntKind.u64.wrap w))),.pv (pi 0)]))=_ from by
    rw [←hE1,←hE2,←hE3,e3,e2,e1]) (qJ rfl (by rw [wsG,List.map_replicate]) (zi rfl zk)),rfl⟩ ?_
  rintro j hj
  by_cases hlt:j < 7
  ·have hl:=zlB (1 + S) N j
   have hil:1 + S + j < ((wsG (1 + S) N j).map u64).length:=by rw [List.length_map,hl];omega
   have hpp:((wsG (1 + S) N j).map u64)[1 + S + j]?=some (u64 ((wsG (1 + S) N j)[1 + S + j]'(by rw [hl];omega))):=by rw [List.getElem?_map,List.getElem?_eq_getElem (by rw [hl];omega)];rfl
   have hix:((1 + S:Nat):Int) + ((j + 1:Nat):Int) - 1=((1 + S + j:Nat):Int):=by omega
   repeat' (first|refine yP 12 11 rfl (by kernel_rfl) (by kernel_rfl) (by kernel_rfl) (by kernel_rfl) (by kernel_rfl) ?_|refine zq (r:=.pv (u64 _)) rfl (zed (args:=fun ρ=>[.ptr (gPV g (wsG (1 + S) N j) (ρ 8) ((1 + S:Nat):Int) ((8 + S:Nat):Int) ((8 + S + w.toNat:Nat):Int) 0) 0,pi ((j + 1:Nat):Int)]) rfl (fun _=>rfl) (fun ρ=>WB g (wsG (1 + S) N j) (ρ 8) ((1 + S:Nat):Int) ((8 + S:Nat):Int) ((8 + S + w.toNat:Nat):Int) 0 ((j + 1:Nat):Int) (by omega) (by omega) (by omega) (by omega))) rfl rfl ?_|refine AD.step _ _ _ (.pv (u64 _)) _ rfl (zed (args:=fun ρ=>[.ptr (gPV g (wsG (1 + S) N j) (ρ 8) ((1 + S:Nat):Int) ((8 + S:Nat):Int) ((8 + S + w.toNat:Nat):Int) 0) 0,pi ((j + 1:Nat):Int)]) rfl (fun _=>rfl) (fun ρ=>WB g (wsG (1 + S) N j) (ρ 8) ((1 + S:Nat):Int) ((8 + S:Nat):Int) ((8 + S + w.toNat:Nat):Int) 0 ((j + 1:Nat):Int) (by omega) (by omega) (by omega) (by omega))) rfl rfl ?_|(refine shC ?_;first|refine qC (zmn ⟨7,((j + 1:Nat):Int),0,false⟩) ?_)|(refine shX ?_;first|refine zq rfl (yw (k:=1 + S + j) zh rfl rfl rfl rfl rfl rfl rfl hix hil) rfl rfl ?_|refine AD.step _ _ _ _ _ rfl (yw (k:=1 + S + j) zh rfl rfl rfl rfl rfl rfl rfl hix hil) rfl rfl ?_)|(refine Yh ?_;first|refine Vb (k:=1 + S + j) (j:=0) zh rfl rfl rfl rfl rfl hpp rfl rfl rfl rfl rfl ?_)|refine sK ?_|refine sC (fun _=>?_) (fun _=>?_)|fail)
   exact ⟨j + 1,hlt,tD,zmT,⟨zi rfl (qJ rfl (by rw [wsG,List.map_set]) (zi rfl zk)),rfl⟩⟩
  ·have hj2:j=7:=by omega
   subst hj2
   repeat' (first|refine sK ?_|refine sC (fun _=>?_) (fun _=>?_)|fail)
   exact ⟨.inr rfl,.inr ⟨4,rfl,rfl,⟨by repeat (first|exact zk|refine zi rfl ?_),rfl⟩⟩⟩
end Go.Cg
