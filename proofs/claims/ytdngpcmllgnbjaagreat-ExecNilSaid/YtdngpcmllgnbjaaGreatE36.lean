/- A part of the walks by abstract values: no statement of its own. -/
import Derived.Test.YtdngpcmllgnbjaaGreatE35
import Derived.Test.YtdngpcmllgnbjaaGreatE20
import Derived.Test.YtdngpcmllgnbjaaGreatE17
set_option linter.unusedVariables false
set_option linter.unusedSimpArgs false
namespace Go.Cg
open Go.Proofs
theorem Wx (x:Int):0≤IntKind.u64.wrap x:=by
 unfold IntKind.wrap
 simp only [IntKind.bits,IntKind.signed]
 simp
 omega
def zdU (ws:List Int) (a:Int) (k p:Nat):PV:=if p < k then u64 (zim ws (IntKind.u64.wrap (a + IntKind.u64.wrap (p:Int)))) else u64 0
def zdm (ws:List Int) (a:Int) (n:Nat):List Int:=(List.range n).map fun p:Nat=>zim ws (IntKind.u64.wrap (a + IntKind.u64.wrap (p:Int)))
theorem znZ (ws:List Int) (a:Int) (n:Nat):(List.range n).map (zdU ws a n)=(zdm ws a n).map u64:=by
 rw [zdm,List.map_map]
 refine List.map_congr_left fun p hp=>?_
 rw [zdU,if_pos (by simpa using hp)];rfl
theorem zd5 (l:List Int):∀ p∈l.map u64,∃ u,p=.base u:=by
 intro p hp
 obtain ⟨x,_,rfl⟩:=List.mem_map.1 hp
 exact ⟨_,rfl⟩
theorem tSU {P:Prop} (h:P:=by repeat (first|exact yu|refine zY rfl ?_|(refine qK rfl ?_ ?_;· (first|omega|(rw [wrap_in (by omega) (by omega)] <;> omega)|(rw [qO (by omega) (by omega)] <;> omega)|(dsimp only;rw [qO (by omega) (by omega)] <;> omega)|(simp;done))))):P:=h
def zbp (ws:List Int) (a:Int):Nat→List Int
 | 0=>ws
 | k + 1=>zeq (zbp ws a k) (IntKind.u64.wrap (a + (k:Int))) 0
def zf4 (ws:List Int) (a:Int) (l:List Int):Nat→List Int
 | 0=>ws
 | k + 1=>zeq (zf4 ws a l k) (IntKind.u64.wrap (a + IntKind.u64.wrap (k:Int))) (l.getD k 0)
theorem zcu (ws:List Int) (a:Int):∀ k,(zbp ws a k).length=ws.length
 | 0=>rfl
 | k + 1=>by rw [zbp,zia,zcu ws a k]
theorem zfq (ws:List Int) (a:Int) (l:List Int):∀ k,(zf4 ws a l k).length=ws.length
 | 0=>rfl
 | k + 1=>by rw [zf4,zia,zfq ws a l k]
def zbJ (ws:List Int) (a:Int) (l:List Int):List Int:=zf4 (zbp ws a 256) a l l.length
theorem znY (ws:List Int) (a:Int) (l:List Int):(zbJ ws a l).length=ws.length:=by rw [zbJ,zfq,zcu]
abbrev skR (lim:Int) (fs:List Fr) (us:Nat→Value):HEnv:=[(30,.cell (.agg [.box 0 0,.pv (pi lim),.own 37])),(37,.mrow 228 5 (fs.map WB)),(1000,.pin (.own 0) (us 0)),(1030,.pin (.own 30) (us 30))]
def ztp (method at_ base a:Int):Fr:=⟨method,at_,base,a + 152,0⟩
def Xj (ws:List Int) (e s:Int) (l:List Int):Nat→List Int
 | 0=>ws
 | k + 1=>zeq (Xj ws e s l k) (IntKind.u64.wrap (e + IntKind.u64.wrap (s + (k:Int)))) (l.getD k 0)
theorem zaH (ws:List Int) (e s:Int) (l:List Int):∀ k,(Xj ws e s l k).length=ws.length
 | 0=>rfl
 | k + 1=>by rw [Xj,zia,zaH ws e s l k]
def sized (f:Fr) (n:Int):Fr:=⟨f.method,f.at_,f.base,f.eval,n⟩
theorem zbK (l:List Fr) (f:Fr):((l++[f]).map WB)[l.length]?=some (.agg [pi f.method,pi f.at_,u64 f.base,u64 f.eval,pi f.size]):=by simp [WB]
theorem zlV (l:List Fr) (f f':Fr) (n:Int) (h:f'=sized f n):((l++[f]).map WB).set l.length (.agg [pi f.method,pi f.at_,u64 f.base,u64 f.eval,pi n])=(l++[f']).map WB:=by subst h;simp [WB,sized]
set_option maxHeartbeats 1000000 in
theorem zcd (a b:List Int) (fa fb:Bool) (ha:a.length≤100000) (hb:b.length≤100000):ACall Tryz.prog 51 [.slc 1 (a.map u64) fa,.slc 1 (b.map u64) fb] (pb (decide (a=b))):=by
 refine zf zh Tryz.func51 rfl (by kernel_rfl) Tryz.ntmps51 (by simp) _ rfl (fun hw gB hgB=>?_)
 by_cases hlen:a.length=b.length
 ·have hd:(decide ((((a.map u64).length:Nat):Int)=(((b.map u64).length:Nat):Int)))=true:=decide_eq_true (by simp [hlen])
  repeat' (first|refine sK ?_|refine sC (fun _=>?_) (fun _=>?_)|fail)
  refine zB (fun k:Nat=>[(0,.pv (.slc 1 (a.map u64) fa)),(1,.pv (.slc 1 (b.map u64) fb)),(5,.pv (pi k))]) (fun _=>[]) (fun k=>k≤a.length∧a.take k=b.take k) (fun k=>a.length - k) 0 ⟨by simp,by simp⟩ (tS) tH ?_
  rintro k ⟨hk,hno⟩
  by_cases hlt:k < a.length
  ·have he:(a.map u64)[k]?=some (u64 a[k]):=by rw [List.getElem?_map,List.getElem?_eq_getElem hlt];rfl
   have hltb:k < b.length:=by omega
   have he':(b.map u64)[k]?=some (u64 b[k]):=by rw [List.getElem?_map,List.getElem?_eq_getElem hltb];rfl
   have hdk:decide ((k:Int) < (((a.map u64).length:Nat):Int))=true:=decide_eq_true (by rw [List.length_map];omega)
   repeat' (first|(refine shX ?_;first|refine qX he ?_|refine qX he' ?_)|refine sK ?_|refine sC (fun _=>?_) (fun _=>?_)|fail)
   ·rename_i h
    refine retq rfl ?_
    have:a≠b:=by
     rintro rfl
     simp at h
    simp [zn,this]
   ·rename_i h
    have e:a[k]=b[k]:=by simpa using h
    exact ⟨k + 1,⟨by omega,by rw [List.take_succ_eq_append_getElem hlt,List.take_succ_eq_append_getElem hltb,hno,e]⟩,tD,tS,tH⟩
  ·have hdk:decide ((k:Int) < (((a.map u64).length:Nat):Int))=false:=decide_eq_false (by rw [List.length_map];omega)
   repeat' (first|refine sK ?_|refine sC (fun _=>?_) (fun _=>?_)|fail)
   have e:a=b:=by
    have h1:=hno
    rw [List.take_of_length_le (by omega),List.take_of_length_le (by omega)] at h1
    exact h1
   exact retq rfl (by simp [zn,e])
 ·have hd:(decide ((((a.map u64).length:Nat):Int)=(((b.map u64).length:Nat):Int)))=false:=decide_eq_false (by simp;omega)
  repeat' (first|refine sK ?_|refine sC (fun _=>?_) (fun _=>?_)|fail)
  exact retq rfl (by
    have:a≠b:=by rintro rfl;exact hlen rfl
    simp [zn,this])
theorem zrn {ws:List Int} {a x b:Int} (hb:0≤b) (h:0 < a∧a < ws.length):zim (zeq ws a x) b=if b=a then x else zim ws b:=by
 unfold zeq
 rw [if_pos h]
 unfold zim
 rw [List.length_set]
 by_cases hlt:b < ws.length
 ·rw [if_pos hlt,if_pos hlt]
  simp only [List.getD_eq_getElem?_getD,List.getElem?_set]
  by_cases e:b=a
  ·subst e
   have:b.toNat < ws.length:=by omega
   simp [this]
  ·rw [if_neg e,if_neg (by omega)]
 ·rw [if_neg hlt,if_neg hlt,if_neg (by omega)]
set_option maxHeartbeats 20000000
abbrev zhe (k:Int) (w:PV):PV:=.agg [pi k,pi 0,pi 0,pi 0,pb false,w]
abbrev zrl:PV:=.agg [.slc 4 [] false,.slc 1 [] false,.slc 1 [] false,.slc 1 [] false,pi 0,pi 0,pi 0,pi 0,pb false,.slc 1 [] false]
section
variable {P:Program} {tb:Tab} {n:Nat} {g:Base} {H:HEnv} {env:Env} {o:Oper}
theorem zoY (htb:yA P tb) {t e t':TypeId} {x y:Operand} (hop:o.op=.binOp .eql t x y t') (hk:tb.k t=.sl e) (hx:env.pv H x=some (.base (.slice none 0 0))) (hy:env.pv H y=some (.base (.slice none 0 0))):QStep P g H o env (.pv (.base (.bool true))):=by
 refine ⟨fun K ρ a w hf hv=>?_⟩
 have hxr:=yH (a:=a) hf (x:=x) (hv x (by rw [hop];simp [Op.operands])) hx
 have hyr:=yH (a:=a) hf (x:=y) (hv y (by rw [hop];simp [Op.operands])) hy
 generalize hxv:a.eval x=xv at hxr
 generalize hyv:a.eval y=yv at hyr
 cases hxr
 cases hyr
 have h1:(binOp .eql t (.slice none 0 0) (.slice none 0 0)).run P w=.ok (.bool true) w:=Lib.run_eql_slice_nil w t e _ _ _ _ _ (yS htb hk)
 have hrun:(execOp a.eval o).run P w=.ok (.value (.bool true)) w:=by simp [execOp,hop,hxv,hyv,eqGuard,h1]
 rw [hrun]
 exact Zm hf (.pv _ _ (.base _ rfl))
end
abbrev zed:PV:=.base (.slice none 0 0)
theorem zn6:ACall Tryz.prog 53 [zed] zed:=by
 refine zf zh Tryz.func53 rfl (by kernel_rfl) Tryz.ntmps53 (by simp) _ rfl (fun hw gB hgB=>?_)
 repeat' (first|refine zo rfl (zoY zh rfl rfl rfl rfl) rfl rfl ?_|refine sK ?_|refine sC (fun _=>?_) (fun _=>?_)|fail)
 exact retq rfl rfl
theorem zlp (l:List Int) (hl:l.length≤1000):ACall Tryz.prog 52 [.slc 1 (l.map u64) false] (.slc 1 (l.map u64) false):=by
 refine zf zh Tryz.func52 rfl (by kernel_rfl) Tryz.ntmps52 (by simp) _ rfl (fun hw gB hgB=>?_)
 repeat' (first|refine Qk zh rfl rfl rfl rfl rfl rfl rfl (fun bb hbb=>?_)|refine zo rfl (Qh zh rfl rfl rfl rfl rfl) rfl rfl ?_|(refine zL ?_;first|refine zo rfl (ZR zh rfl rfl (.inl rfl) rfl rfl (by show _ * 8≤_;simp;omega) (by simp;omega)) rfl rfl ?_)|refine sA ?_|refine sC (fun _=>?_) (fun _=>?_)|fail)
 ·rename_i h
  have:l=[]:=by have:=hbb h;simpa using this
  subst this
  exact Yl (t:=2) (ps:=[.slc 1 [] false]) rfl (qH 1 false) rfl rfl
 ·exact retq rfl rfl
theorem Xw (k:Int) (l:List Int) (hl:l.length≤1000):ACall Tryz.prog 15 [zhe k (.slc 1 (l.map u64) false),zhe k (.slc 1 (l.map u64) false)] (pb true):=by
 have c1:=zcd l l false false (by omega) (by omega)
 rw [decide_eq_true rfl] at c1
 have hk:(k==k)=true:=by simp
 refine zf zh Tryz.func15 rfl (by kernel_rfl) Tryz.ntmps15 (by simp) _ rfl (fun hw gB hgB=>?_)
 repeat' (first|(refine shC ?_;first|refine qC c1 ?_)|refine sK ?_|refine sC (fun _=>?_) (fun _=>?_)|fail)
 exact retq rfl rfl
theorem zln:ACall Tryz.prog 54 [.slc 1 [] false,.slc 1 [] false] (pb true):=by
 refine zf zh Tryz.func54 rfl (by kernel_rfl) Tryz.ntmps54 (by simp) _ rfl (fun hw gB hgB=>?_)
 repeat' (first|refine sK ?_|refine sC (fun _=>?_) (fun _=>?_)|fail)
 refine zB (fun _:Nat=>[(0,.pv (.slc 1 [] false)),(5,.pv (pi 0))]) (fun _=>[]) (fun _=>True) (fun _=>0) 0 trivial (tS) tH ?_
 rintro k -
 repeat' (first|refine sK ?_|refine sC (fun _=>?_) (fun _=>?_)|fail)
 exact retq rfl rfl
theorem zkN:ACall Tryz.prog 18 [zrl,zrl] (pb true):=by
 have c1:=Xw 0 [] (by decide)
 have c2:=zcd [] [] false false (by decide) (by decide)
 rw [decide_eq_true rfl] at c2
 refine zf zh Tryz.func18 rfl (by kernel_rfl) Tryz.ntmps18 (by simp) _ rfl (fun hw gB hgB=>?_)
 repeat' (first|refine zaA 1 ?_|refine zh9 ?_|(refine shC ?_;first|refine qC c1 ?_|refine qC c2 ?_|refine qC zln ?_)|refine sK ?_|refine sC (fun _=>?_) (fun _=>?_)|fail)
 exact retq rfl rfl
abbrev zsU:PV:=.agg [zed,zed,zed,zed,pi 0,pi 0,pi 0,pi 0,pb false,zed]
set_option maxHeartbeats 20000000
theorem zjl:ACall Tryz.prog 21 [zrf] (pb false):=by
 refine zf zh Tryz.func21 rfl (by kernel_rfl) Tryz.ntmps21 (by simp) _ rfl (fun hw gB hgB=>?_)
 repeat' (first|refine zo rfl (yI (b:=true) rfl Tryz.underlying58 rfl rfl) rfl rfl ?_|refine AD.step _ _ _ _ _ rfl (yI (b:=true) rfl Tryz.underlying58 rfl rfl) rfl rfl ?_|refine sK ?_|refine sC (fun _=>?_) (fun _=>?_)|fail)
 exact retq rfl rfl
theorem zto (n:Int):ACall Tryz.prog 22 [zrf,pi n] (pi 0):=by
 have c1:=zjl
 refine zf zh Tryz.func22 rfl (by kernel_rfl) Tryz.ntmps22 (by simp) _ rfl (fun hw gB hgB=>?_)
 repeat' (first|refine sK ?_|refine sC (fun _=>?_) (fun _=>?_)|fail)
 refine zB (fun _:Nat=>[(0,.pv zrf),(1,.pv (pi n)),(5,.pv (pi 0))]) (fun _=>[]) (fun _=>True) (fun _=>0) 0 trivial (tS) tH ?_
 rintro k -
 by_cases h:0 < n
 ·have hd:decide (0 < n)=true:=decide_eq_true h
  repeat' (first|(refine shC ?_;first|refine qC c1 ?_)|refine sK ?_|refine sC (fun _=>?_) (fun _=>?_)|fail)
  exact retq rfl rfl
 ·have hd:decide (0 < n)=false:=decide_eq_false h
  repeat' (first|(refine shC ?_;first|refine qC c1 ?_)|refine sK ?_|refine sC (fun _=>?_) (fun _=>?_)|fail)
  exact retq rfl rfl
theorem zjS:ACall Tryz.prog 23 [zrf] (zhe 0 zed):=by
 refine zf zh Tryz.func23 rfl (by kernel_rfl) Tryz.ntmps23 (by simp) _ rfl (fun hw gB hgB=>?_)
 repeat' (first|refine zo rfl (yI (b:=true) rfl Tryz.underlying58 rfl rfl) rfl rfl ?_|refine AD.step _ _ _ _ _ rfl (yI (b:=true) rfl Tryz.underlying58 rfl rfl) rfl rfl ?_|refine sK ?_|refine sC (fun _=>?_) (fun _=>?_)|fail)
 exact retq rfl rfl
theorem zsJ:ACall Tryz.prog 24 [zrf] (.slc 1 [] false):=by
 refine zf zh Tryz.func24 rfl (by kernel_rfl) Tryz.ntmps24 (by simp) _ rfl (fun hw gB hgB=>?_)
 repeat' (first|refine zo rfl (yI (b:=true) rfl Tryz.underlying58 rfl rfl) rfl rfl ?_|refine AD.step _ _ _ _ _ rfl (yI (b:=true) rfl Tryz.underlying58 rfl rfl) rfl rfl ?_|refine sK ?_|refine sC (fun _=>?_) (fun _=>?_)|fail)
 exact Yl (t:=2) (ps:=[.slc 1 [] false]) rfl (qH 1 false) rfl rfl
theorem zqX:ACall Tryz.prog 25 [zrf] zsU:=by
 refine zf zh Tryz.func25 rfl (by kernel_rfl) Tryz.ntmps25 (by simp) _ rfl (fun hw gB hgB=>?_)
 repeat' (first|refine zo rfl (yI (b:=true) rfl Tryz.underlying58 rfl rfl) rfl rfl ?_|refine AD.step _ _ _ _ _ rfl (yI (b:=true) rfl Tryz.underlying58 rfl rfl) rfl rfl ?_|refine sK ?_|refine sC (fun _=>?_) (fun _=>?_)|fail)
 exact retq rfl rfl
end Go.Cg
