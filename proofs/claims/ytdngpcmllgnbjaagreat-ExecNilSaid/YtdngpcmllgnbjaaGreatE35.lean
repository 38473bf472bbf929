/- A part of the walks by abstract values: no statement of its own. -/
import Derived.Test.YtdngpcmllgnbjaaGreatE33
import Derived.Test.YtdngpcmllgnbjaaGreatE21
import Derived.Test.YtdngpcmllgnbjaaGreatE20
import Derived.Test.YtdngpcmllgnbjaaGreatE8
import Derived.Test.YtdngpcmllgnbjaaGreatE14
import Derived.Test.YtdngpcmllgnbjaaGreatE28
import Derived.Test.YtdngpcmllgnbjaaGreatE10
import Derived.Test.YtdngpcmllgnbjaaGreatE7
import Derived.Test.YtdngpcmllgnbjaaGreatE11
import Derived.Test.YtdngpcmllgnbjaaGreatE13
set_option linter.unusedVariables false
set_option linter.unusedSimpArgs false
namespace Go.Cg
open Go.Proofs
theorem zjq (l:List Int):(Wv l 0).map (·.2)=l.reverse:=by
 apply List.ext_getElem
 ·simp [Wv]
 ·intro i h1 h2
  have hi:i < l.length:=by simpa [Wv] using h1
  simp only [Wv,List.getElem_map,List.getElem_range,List.getElem_reverse]
  rw [List.getD_eq_getElem?_getD,List.getElem?_eq_getElem (by omega),Option.getD_some]
theorem zik {g:Img} (hF:Fine g) (u:Int):(fcs g (qc g u)).length≤512:=by
 have:=zan hF (zvY u) g.fields.length
 rw [List.take_length] at this
 exact this
theorem zfD {g:Img} (hF:Fine g):∀ us:List Int,(za0 g us).length≤512 * us.length
 | []=>by simp [za0]
 | u::us=>by
  have h1:=zik hF u
  have h2:=zfD hF us
  rw [za0,List.flatMap_cons,List.length_append]
  rw [za0] at h2
  simp only [List.length_cons];omega
set_option maxHeartbeats 1000000 in
theorem zkf (g:Img) (hF:Fine g) (t:Int):ACall Tryz.prog 172 [zx g,pi t] (tys (objT g t)):=by
 have hgl:g.fields.length≤64:=by have:=(zI hF.formed).2.1;omega
 have hgt:g.types.length≤32:=(zI hF.formed).1
 have hui:=zcg g t
 have hul:=ZF _ _ hui.1 hui.2
 refine zey zh Tryz.func172 rfl (by kernel_rfl) Tryz.ntmps172 (by simp) _ rfl (fun hw gB hgB hds=>?_)
 refine zaD ?_
 repeat' (first|refine sA ?_|refine sC (fun _=>?_) (fun _=>?_)|fail)
 refine zaD ?_
 repeat' (first|refine sA ?_|refine sC (fun _=>?_) (fun _=>?_)|fail)
 refine zmc ?_
 refine zaD ?_
 repeat' (first|refine zbq 0 1 44 4 (by decide) rfl rfl ?_|(refine shC ?_;first|refine zo rfl (qJ rfl rfl (ZT g t (by omega))) rfl rfl ?_|refine AD.step _ _ _ _ _ rfl (qJ rfl rfl (ZT g t (by omega))) rfl rfl ?_|refine qC (zcS _) ?_)|refine sA ?_|refine sC (fun _=>?_) (fun _=>?_)|fail)
 refine zju ?_
 refine zjC (fun x=>.int .i64 x.1) (fun x=>.int .i64 x.2) (zjv (up g t) (by omega)) [(2,.pv (.ptr (zx g) 0)),(5,.box 0 0),(13,.pv (.fn (.func 362) [] [.ptr (ints (up g t)) 0]))]
  (fun pre=>[(0,.cell (.own 1)),(1,.row 44 4 ((za0 g (pre.map (·.2))).map yK))]) 100 hgB hds (fun _=>rfl) (fun _=>rfl) rfl (tS) rfl rfl rfl (by decide) ⟨by repeat (first|exact zk|refine zi rfl ?_),rfl⟩ (fun _=>rfl) (fun _=>rfl) rfl ?_ ?_
 ·intro g2 us pre x hlen
  rw [zci] at hlen
  have hb1:=zfD hF (pre.map (·.2))
  rw [List.length_map] at hb1
  have hol:=zex g x.2
  repeat' (first|(refine shC ?_;first|refine qC (zet g x.2 hF.formed) ?_)|refine sA ?_|refine sC (fun _=>?_) (fun _=>?_)|fail)
  refine zB (fun k:Nat=>[(2,.pv (.ptr (zx g) 0)),(5,.box 0 0),(18,.pv (.slc 7 ((qc g x.2).map ZI) false)),(19,.pv (pi (qc g x.2).length)),(20,.pv (pi k))])
   (fun k=>[(0,.cell (.own 1)),(1,.row 44 4 ((za0 g (pre.map (·.2))++fcs g ((qc g x.2).take k)).map yK))]++zT us 100 [(2,.pv (.ptr (zx g) 0)),(5,.box 0 0),(13,.pv (.fn (.func 362) [] [.ptr (ints (up g t)) 0]))])
   (fun k=>k≤(qc g x.2).length) (fun k=>(qc g x.2).length - k) 0 (by omega) (tS) ⟨zi rfl (qw rfl (by simp [fcs]) (by repeat (first|exact zk|refine zi rfl ?_))),rfl⟩ ?_
  rintro k hk
  have hle:=zk7 hF ((qc g x.2).take k) (fun f h=>zdD (List.mem_of_mem_take h))
  have hlk:((qc g x.2).take k).length≤k:=by simp;omega
  by_cases hlt:k < (qc g x.2).length
  ·have he:=yc (f:=ZI) hlt
   have c1:=zbg g hF (qc g x.2)[k].ty
   have hs:=zbL (g:=g) hlt
   have hcl:=hF.field_le (zdD (List.getElem_mem hlt))
   repeat' (first|refine yG 7 5 rfl (by kernel_rfl) (by kernel_rfl) (by kernel_rfl) (by kernel_rfl) (by kernel_rfl) ?_|(refine shC ?_;first|refine qC c1 ?_)|(refine shX ?_;first|refine qX he ?_)|(refine zL ?_;first|refine zX zh rfl rfl rfl rfl rfl rfl rfl (by show _ * 32≤_;simp;omega) (by simp;omega) rfl rfl ?_)|refine sK ?_|refine sC (fun _=>?_) (fun _=>?_)|fail)
   exact ⟨k + 1,hlt,tD,tS,⟨zi rfl (qw rfl (by rw [hs];simp) (by repeat (first|exact zk|refine zi rfl ?_))),rfl⟩⟩
  ·rw [List.take_of_length_le (by omega)]
   repeat' (first|refine sK ?_|refine sC (fun _=>?_) (fun _=>?_)|fail)
   exact ⟨zi rfl (qw rfl (by simp [za0]) (by repeat (first|exact zk|refine zi rfl ?_))),rfl⟩
 ·intro g3
  repeat' (first|refine sA ?_|refine sC (fun _=>?_) (fun _=>?_)|fail)
  exact ⟨rfl,retq rfl (by rw [zjq];rfl)⟩
set_option maxHeartbeats 20000000
theorem zn2 (g:Img) (hwl:Yo g=true) (hu:ZH g=true) (t:Int):∃ r:Nat,Cnt 32 r (objT g t).length∧ACall Tryz.prog 293 [zx g,pi t] (pi (r:Nat)):=by
 have hf:=ZP hwl
 have hgl:g.fields.length≤64:=by have:=(zI hf).2.1;omega
 have hgt:g.types.length≤32:=(zI hf).1
 have hui:=zcg g t
 have hul:=ZF _ _ hui.1 hui.2
 let add:Nat→Fd→Nat:=fun r f=>if r≤32 then r + zaI g 32 f.ty else r
 let addU:Nat→Int→Nat:=fun r u=>(qc g u).foldl add r
 have hadd:∀ (l:List Fd) (r s:Nat),r≤65→Cnt 32 r s→l.foldl add r≤65∧Cnt 32 (l.foldl add r) (s + (fcs g l).length):=by
  intro l
  induction l with
  | nil=>intro r s h1 h2;exact ⟨h1,by simpa [fcs] using h2⟩
  | cons f l ih =>
   intro r s h1 h2
   rw [List.foldl_cons,za3,←Nat.add_assoc]
   have hcl:zaI g 32 f.ty≤33:=Nat.min_le_right _ _
   refine ih _ _ ?_ ?_
   ·simp only [add];split <;> omega
   ·simp only [add]
    split
    ·rename_i h;exact h2.add h
    ·rename_i h;exact h2.stay (by omega)
 have haddU:∀ (us:List Int) (r s:Nat),r≤65→Cnt 32 r s→us.foldl addU r≤65∧Cnt 32 (us.foldl addU r) (s + (us.map fun u=>(fcs g (qc g u)).length).sum):=by
  intro us
  induction us with
  | nil=>intro r s h1 h2;exact ⟨h1,by simpa using h2⟩
  | cons u us ih =>
   intro r s h1 h2
   obtain ⟨k1,k2⟩:=hadd (qc g u) r s h1 h2
   rw [List.foldl_cons,List.map_cons,List.sum_cons,←Nat.add_assoc]
   exact ih _ _ k1 k2
 obtain ⟨hb,hc⟩:=haddU (up g t) 0 0 (by omega) (Cnt.zero _)
 rw [Nat.zero_add,←zrD] at hc
 refine ⟨(up g t).foldl addU 0,hc,?_⟩
 clear hc
 refine zf zh Tryz.func293 rfl (by kernel_rfl) Tryz.ntmps293 (by simp) _ rfl (fun hw gB hgB=>?_)
 repeat' (first|(refine shC ?_;first|refine zo rfl (qJ rfl rfl (ZT g t (by omega))) rfl rfl ?_|refine AD.step _ _ _ _ _ rfl (qJ rfl rfl (ZT g t (by omega))) rfl rfl ?_)|refine sA ?_|refine sC (fun _=>?_) (fun _=>?_)|fail)
 refine zB (fun x:Nat × Nat=>[(2,.pv (.ptr (zx g) 0)),(5,.pv (pi x.2)),(12,.pv (ints (up g t))),(13,.pv (pi (up g t).length)),(14,.pv (pi x.1))]) (fun _=>[])
  (fun x=>x.1≤(up g t).length∧x.2≤65∧((up g t).drop x.1).foldl addU x.2=(up g t).foldl addU 0) (fun x=>(up g t).length - x.1) (0,0) ⟨by simp,by simp,rfl⟩ (tS) tH ?_
 rintro ⟨k,r⟩ ⟨hk,hr,hfd⟩
 simp only at hk hr hfd
 by_cases hlt:k < (up g t).length
 ·have heU:=YN hlt
  rw [zc3 hlt] at hfd
  have hol:=zex g (up g t)[k]
  repeat' (first|(refine shC ?_;first|refine qC (zet g _ hf) ?_)|(refine shX ?_;first|refine qX heU ?_)|refine sK ?_|refine sC (fun _=>?_) (fun _=>?_)|fail)
  refine zB (fun x:Nat × Nat=>[(2,.pv (.ptr (zx g) 0)),(5,.pv (pi x.2)),(12,.pv (ints (up g t))),(13,.pv (pi (up g t).length)),(14,.pv (pi k)),(20,.pv (.slc 7 ((qc g (up g t)[k]).map ZI) false)),(21,.pv (pi (qc g (up g t)[k]).length)),(22,.pv (pi x.1))]) (fun _=>[])
   (fun x=>x.1≤(qc g (up g t)[k]).length∧x.2≤65∧((qc g (up g t)[k]).drop x.1).foldl add x.2=addU r (up g t)[k]) (fun x=>(qc g (up g t)[k]).length - x.1) (0,r) ⟨by simp,hr,rfl⟩ (tS) tH ?_
  rintro ⟨m,s⟩ ⟨hm,hs,hfs⟩
  simp only at hm hs hfs
  by_cases hltm:m < (qc g (up g t)[k]).length
  ·have he:=yc (f:=ZI) hltm
   rw [zc3 hltm] at hfs
   have c1:=zhn g hwl hu 32 (by omega) (by omega) _ (qc g (up g t)[k])[m].ty (zjN hwl hu _)
   have hcl:zaI g 32 (qc g (up g t)[k])[m].ty≤33:=Nat.min_le_right _ _
   simp only [add] at hfs
   generalize zaI g 32 (qc g (up g t)[k])[m].ty=c at c1 hcl hfs
   by_cases hsb:s≤32
   ·rw [if_pos hsb] at hfs
    have hd1:decide ((s:Int)≤32)=true:=by simp;omega
    repeat' (first|(refine shC ?_;first|refine qC c1 ?_)|(refine shX ?_;first|refine qX he ?_)|refine sK ?_|refine sC (fun _=>?_) (fun _=>?_)|fail)
    exact ⟨(m + 1,s + c),⟨hltm,by simp only;omega,hfs⟩,tD,by repeat (first|exact yu|refine zY rfl ?_|(refine qK rfl ?_ ?_;· (first|(rw [wrap_in (by omega) (by omega)] <;> omega)|(dsimp only;rw [wrap_in (by omega) (by omega)] <;> (push_cast;omega))))),tH⟩
   ·rw [if_neg hsb] at hfs
    have hd1:decide ((s:Int)≤32)=false:=by simp;omega
    repeat' (first|(refine shX ?_;first|refine qX he ?_)|refine sK ?_|refine sC (fun _=>?_) (fun _=>?_)|fail)
    exact ⟨(m + 1,s),⟨hltm,hs,hfs⟩,tD,tS,tH⟩
  ·rw [drop_end (by omega)] at hfs
   simp only [List.foldl_nil] at hfs
   repeat' (first|refine sK ?_|refine sC (fun _=>?_) (fun _=>?_)|fail)
   exact ⟨(k + 1,s),⟨hlt,hs,by rw [hfs];exact hfd⟩,tD,tS,tH⟩
 ·rw [drop_end (by omega)] at hfd
  simp only [List.foldl_nil] at hfd
  repeat' (first|refine sK ?_|refine sC (fun _=>?_) (fun _=>?_)|fail)
  exact retq rfl (by rw [←hfd];rfl)
theorem zpa {g:Img} {k:Nat} (h:k < g.fields.length):g.fields.getD k default=g.fields[k]:=zM h
theorem zbN (g:Img) (hx:OkA g):ACall Tryz.prog 166 [zx g] (.tup [pi (Qa g).1,pi (Qa g).2]):=by
 refine zf zh Tryz.func166 rfl (by kernel_rfl) Tryz.ntmps166 (by simp) _ rfl (fun hw gB hgB=>?_)
 have c0:=zoG g hx
 cases hwl:Yo g
 ·rw [hwl] at c0
  repeat' (first|(refine shC ?_;first|refine qC c0 ?_)|refine sK ?_|refine sC (fun _=>?_) (fun _=>?_)|fail)
  exact retq rfl (by simp [zn,Qa,hwl])
 ·rw [hwl] at c0
  have hf:=ZP hwl
  have hgl:g.fields.length≤64:=by have:=(zI hf).2.1;omega
  have hgt:g.types.length≤32:=(zI hf).1
  repeat' (first|(refine shC ?_;first|refine qC c0 ?_)|refine sK ?_|refine sC (fun _=>?_) (fun _=>?_)|fail)
  refine zB (fun k:Nat=>[(1,.pv (.ptr (zx g) 0)),(11,.pv (.slc 7 (g.fields.map ZI) false)),(12,.pv (pi g.fields.length)),(13,.pv (pi k))]) (fun _=>[]) (fun k=>k≤g.fields.length∧∀ j,j < k→Zd g (g.fields.getD j default).ty=true) (fun k=>g.fields.length - k) 0 ⟨by omega,fun j h=>by omega⟩ (tS) tH ?_
  rintro k ⟨hk,hno⟩
  by_cases hlt:k < g.fields.length
  ·have he:=yc (f:=ZI) hlt
   have c1:=zh2 g g.fields[k].ty hf
   cases hus:Zd g g.fields[k].ty
   ·have hfin:=zjV hwl hlt hno (by rw [zpa hlt];exact hus)
    rw [hus] at c1
    repeat' (first|(refine shC ?_;first|refine qC c1 ?_)|(refine shX ?_;first|refine qX he ?_)|refine sK ?_|refine sC (fun _=>?_) (fun _=>?_)|fail)
    exact retq rfl (by rw [hfin];rfl)
   ·rw [hus] at c1
    repeat' (first|(refine shC ?_;first|refine qC c1 ?_)|(refine shX ?_;first|refine qX he ?_)|refine sK ?_|refine sC (fun _=>?_) (fun _=>?_)|fail)
    exact ⟨k + 1,⟨hlt,fun j hj=>by
     by_cases e:j=k
     ·subst e;rw [zpa hlt];exact hus
     ·exact hno j (by omega)⟩,tD,tS,tH⟩
  ·have hu:ZH g=true:=List.all_eq_true.2 fun j hj=>hno j (by have:=List.mem_range.1 hj;omega)
   clear hno
   repeat' (first|refine sK ?_|refine sC (fun _=>?_) (fun _=>?_)|fail)
   refine zB (fun k:Nat=>[(1,.pv (.ptr (zx g) 0)),(27,.pv (pi g.types.length)),(28,.pv (pi k))]) (fun _=>[]) (fun k=>k≤g.types.length∧∀ j,j < k→YF g j=false) (fun k=>g.types.length - k) 0 ⟨by omega,fun j h=>by omega⟩ (tS) tH ?_
   clear hk hlt
   rintro k ⟨hk,hno⟩
   by_cases hlt:k < g.types.length
   ·have c1:=qZ g hf (k:Int)
    have hfin:=fun h=>zkr hwl hu hlt hno h
    have hnx:YF g k=false→∀ j,j < k + 1→YF g j=false:=fun h j hj=>by
     by_cases e:j=k
     ·subst e;exact h
     ·exact hno j (by omega)
    have hsb:YF g k=((zF g k==1&&decide (8 < (yV g ⟨6,k,0,false⟩).length))||(zF g k==0&&decide (32 < (objT g k).length))):=rfl
    clear hno
    by_cases hk1:zF g k=1
    ·have c2:=zqS g hwl hu 8 (by omega) (by omega) ⟨6,k,0,false⟩
     rw [hk1] at hsb c1
     cases hl:decide (8 < (yV g ⟨6,k,0,false⟩).length)
     ·rw [hl] at c2 hsb
      repeat' (first|(refine shC ?_;first|refine qC c1 ?_|refine qC c2 ?_)|refine sK ?_|refine sC (fun _=>?_) (fun _=>?_)|fail)
      exact ⟨k + 1,⟨hlt,hnx (by rw [hsb];rfl)⟩,tD,tS,tH⟩
     ·rw [hl] at c2 hsb
      repeat' (first|(refine shC ?_;first|refine qC c1 ?_|refine qC c2 ?_)|refine sK ?_|refine sC (fun _=>?_) (fun _=>?_)|fail)
      exact retq rfl (by rw [hfin (by rw [hsb];rfl)];rfl)
    ·have hb1:(zF g k==1)=false:=by simp [hk1]
     by_cases hk0:zF g k=0
     ·obtain ⟨r,hr,c2⟩:=zn2 g hwl hu k
      rw [hk0] at hsb c1
      have hd:decide (32 < (r:Int))=decide (32 < (objT g k).length):=by rw [decide_eq_decide,←hr.more];omega
      cases hl:decide (32 < (objT g k).length)
      ·rw [hl] at hsb hd
       repeat' (first|(refine shC ?_;first|refine qC c1 ?_|refine qC c2 ?_)|refine sK ?_|refine sC (fun _=>?_) (fun _=>?_)|fail)
       exact ⟨k + 1,⟨hlt,hnx (by rw [hsb];rfl)⟩,tD,tS,tH⟩
      ·rw [hl] at hsb hd
       repeat' (first|(refine shC ?_;first|refine qC c1 ?_|refine qC c2 ?_)|refine sK ?_|refine sC (fun _=>?_) (fun _=>?_)|fail)
       exact retq rfl (by rw [hfin (by rw [hsb];rfl)];rfl)
     ·have hb0:(zF g k==0)=false:=by simp [hk0]
      rw [hb1,hb0] at hsb
      repeat' (first|(refine shC ?_;first|refine qC c1 ?_)|refine sK ?_|refine sC (fun _=>?_) (fun _=>?_)|fail)
      exact ⟨k + 1,⟨hlt,hnx (by rw [hsb];rfl)⟩,tD,tS,tH⟩
   ·repeat' (first|refine sK ?_|refine sC (fun _=>?_) (fun _=>?_)|fail)
    exact retq rfl (by rw [zc4 hwl hu (fun j hj=>hno j (by omega))];rfl)
set_option maxHeartbeats 20000000
theorem zc8 (g:Img) (hx:OkA g):ACall Tryz.prog 170 [zx g] (pb (Qi g)):=by
 refine zf zh Tryz.func170 rfl (by kernel_rfl) Tryz.ntmps170 (by simp) _ rfl (fun hw gB hgB=>?_)
 repeat' (first|(refine shC ?_;first|refine qC (zbN g hx) ?_)|refine sA ?_|refine sC (fun _=>?_) (fun _=>?_)|fail)
 exact retq rfl rfl
def cellsA (g:Img) (t:Ty):List Ty:=if Qi g&&Zd g t then yV g t else []
theorem zmx (g:Img) (hx:OkA g) (t:Ty):ACall Tryz.prog 221 [zx g,yK t] (tys (cellsA g t)):=by
 refine zf zh Tryz.func221 rfl (by kernel_rfl) Tryz.ntmps221 (by simp) _ rfl (fun hw gB hgB=>?_)
 have c0:=zc8 g hx
 cases hfi:Qi g
 ·rw [hfi] at c0
  repeat' (first|(refine shC ?_;first|refine qC c0 ?_)|refine sK ?_|refine sC (fun _=>?_) (fun _=>?_)|fail)
  all_goals (rw [show cellsA g t=[] by simp [cellsA,hfi]];exact Yl (t:=4) (ps:=[tys []]) rfl (qH 4 false) rfl rfl)
 ·rw [hfi] at c0
  have hF:=YT hfi
  have c1:=zh2 g t hF.formed
  cases hus:Zd g t
  ·rw [hus] at c1
   repeat' (first|(refine shC ?_;first|refine qC c0 ?_|refine qC c1 ?_)|refine sK ?_|refine sC (fun _=>?_) (fun _=>?_)|fail)
   all_goals (rw [show cellsA g t=[] by simp [cellsA,hus]];exact Yl (t:=4) (ps:=[tys []]) rfl (qH 4 false) rfl rfl)
  ·rw [hus] at c1
   repeat' (first|(refine shC ?_;first|refine qC c0 ?_|refine qC c1 ?_|refine qC (zbg g hF t) ?_)|refine sK ?_|refine sC (fun _=>?_) (fun _=>?_)|fail)
   all_goals exact retq rfl (by simp [zn,cellsA,hfi,hus])
theorem zhJ (g:Img) (hx:OkA g) (t:Ty):ACall Tryz.prog 168 [zx g,yK t] (pi (cellsA g t).length):=by
 refine zf zh Tryz.func168 rfl (by kernel_rfl) Tryz.ntmps168 (by simp) _ rfl (fun hw gB hgB=>?_)
 repeat' (first|(refine shC ?_;first|refine qC (zmx g hx t) ?_)|refine sA ?_|refine sC (fun _=>?_) (fun _=>?_)|fail)
 exact retq rfl (by simp [zn])
def QL (g:Img) (t:Int):List Ty:=if Qi g&&zF g t==0 then objT g t else []
theorem zkk (g:Img) (hx:OkA g) (t:Int):ACall Tryz.prog 167 [zx g,pi t] (tys (QL g t)):=by
 refine zf zh Tryz.func167 rfl (by kernel_rfl) Tryz.ntmps167 (by simp) _ rfl (fun hw gB hgB=>?_)
 have c0:=zc8 g hx
 cases hfi:Qi g
 ·rw [hfi] at c0
  repeat' (first|(refine shC ?_;first|refine qC c0 ?_)|refine sK ?_|refine sC (fun _=>?_) (fun _=>?_)|fail)
  all_goals (rw [show QL g t=[] by simp [QL,hfi]];exact Yl (t:=4) (ps:=[tys []]) rfl (qH 4 false) rfl rfl)
 ·rw [hfi] at c0
  have hF:=YT hfi
  have c1:=qZ g hF.formed t
  by_cases hk:zF g t=0
  ·rw [hk] at c1
   repeat' (first|(refine shC ?_;first|refine qC c0 ?_|refine qC c1 ?_|refine qC (zkf g hF t) ?_)|refine sK ?_|refine sC (fun _=>?_) (fun _=>?_)|fail)
   all_goals exact retq rfl (by simp [zn,QL,hfi,hk])
  ·have hkb:(zF g t != 0)=true:=by simp [hk]
   repeat' (first|(refine shC ?_;first|refine qC c0 ?_|refine qC c1 ?_)|refine sK ?_|refine sC (fun _=>?_) (fun _=>?_)|fail)
   all_goals (rw [show QL g t=[] by simp [QL,hk]];exact Yl (t:=4) (ps:=[tys []]) rfl (qH 4 false) rfl rfl)
def Zk (g:Img):List Ty:=if Qi g then zru g g.fields.length else []
theorem ziv (g:Img) (hx:OkA g):ACall Tryz.prog 90 [zx g] (tys (Zk g)):=by
 refine zf zh Tryz.func90 rfl (by kernel_rfl) Tryz.ntmps90 (by simp) _ rfl (fun hw gB hgB=>?_)
 have c0:=zc8 g hx
 cases hfi:Qi g
 ·rw [hfi] at c0
  repeat' (first|(refine shC ?_;first|refine qC c0 ?_)|refine sK ?_|refine sC (fun _=>?_) (fun _=>?_)|fail)
  all_goals (rw [show Zk g=[] by simp [Zk,hfi]];exact Yl (t:=2) (ps:=[tys []]) rfl (qH 4 false) rfl rfl)
 ·rw [hfi] at c0
  have hF:=YT hfi
  have c1:=zk5 g hF g.fields.length (Nat.le_refl _)
  rw [show ((g.fields.length:Nat):Int)=(((g.fields.map ZI).length:Nat):Int) by simp] at c1
  repeat' (first|(refine shC ?_;first|refine qC c0 ?_|refine qC c1 ?_)|refine sK ?_|refine sC (fun _=>?_) (fun _=>?_)|fail)
  all_goals exact retq rfl (by simp [zn,Zk,hfi])
theorem zrg {g:Img} (hF:Fine g) (n:Nat):(zru g n).length≤512:=zan hF _ n
abbrev u64 (n:Int):PV:=.base (.int .u64 n)
def zvb (k:IntKind) (a b:Int):Int:=k.wrap ((BitVec.ofInt k.bits a &&& BitVec.ofInt k.bits b).toNat:Int)
def orU (a b:Int):Int:=IntKind.u64.wrap ((BitVec.ofInt IntKind.u64.bits a ||| BitVec.ofInt IntKind.u64.bits b).toNat:Int)
def zuC (t:Ty):Int:=orU (orU (IntKind.u64.wrap (zvb .i64 t.kind 15)) (IntKind.u64.wrap (IntKind.u64.wrap (zvb .i64 t.index 1023) * 2 ^ (min (4:Int).toNat IntKind.u64.bits)))) (IntKind.u64.wrap (IntKind.u64.wrap (zvb .i64 t.dims 15) * 2 ^ (min (14:Int).toNat IntKind.u64.bits)))
set_option maxHeartbeats 1000000 in
theorem zqf (t:Ty):ACall Tryz.prog 169 [yK t] (u64 (zuC t)):=by
 refine zf zh Tryz.func169 rfl (by kernel_rfl) Tryz.ntmps169 (by simp) _ rfl (fun hw gB hgB=>?_)
 repeat' (first|refine zo rfl (zuH rfl rfl rfl (by decide)) rfl rfl ?_|refine sA ?_|refine sC (fun _=>?_) (fun _=>?_)|fail)
 exact retq rfl rfl
abbrev zrf:PV:=.base (.pointer none)
set_option maxHeartbeats 20000000
theorem Qn (m:Me) (f:Int):ACall Tryz.prog 249 [zG m,pi f] (pb (qy m.flags f)):=by
 refine zf zh Tryz.func249 rfl (by kernel_rfl) Tryz.ntmps249 (by simp) _ rfl (fun hw gB hgB=>?_)
 repeat' (first|refine sA ?_|refine sC (fun _=>?_) (fun _=>?_)|fail)
 all_goals (first|refine retq rfl ?_|refine zb0 rfl ?_)
 all_goals (first|(simp_all [zn,qy];done)|(simp_all [zn,qy];omega))
def zg5 (a b:Me):Bool:=a.name.toList==b.name.toList&&decide (a.ret=b.ret)&&(qy a.flags 1==qy b.flags 1)&&decide (a.params=b.params)
def zok (a b:Me):Bool:=a.name.toList==b.name.toList&&zcn a b
theorem zfQ (a b:Me):ACall Tryz.prog 348 [zG a,zG b] (pb (zg5 a b)):=by
 refine zf zh Tryz.func348 rfl (by kernel_rfl) Tryz.ntmps348 (by simp) _ rfl (fun hw gB hgB=>?_)
 have hty:=Vl a.ret b.ret
 repeat' (first|(refine shC ?_;first|refine qC (Qn _ _) ?_|refine qC (zd3 _ _) ?_)|refine sA ?_|refine sC (fun _=>?_) (fun _=>?_)|fail)
 all_goals refine retq rfl ?_
 all_goals (simp only [zn,zg5,←hty];clear hty;simp_all)
theorem zq4:∀ a b:Fin 32,(qy (a.val:Int) 1==qy (b.val:Int) 1)=((a.val:Int).tmod 2==(b.val:Int).tmod 2):=by decide +kernel
theorem zqV:∀ a:Fin 32,qy (a.val:Int) 1=yP a.val 1∧qy (a.val:Int) 2=yP a.val 2∧qy (a.val:Int) 4=yP a.val 4∧qy (a.val:Int) 8=yP a.val 8∧qy (a.val:Int) 16=yP a.val 16:=by decide +kernel
theorem zaJ {f:Int} (h0:0≤f) (h1:f≤31):qy f 1=yP f 1∧qy f 2=yP f 2∧qy f 4=yP f 4∧qy f 8=yP f 8∧qy f 16=yP f 16:=by
 have:=zqV ⟨f.toNat,by omega⟩
 simpa only [Int.toNat_of_nonneg h0] using this
theorem zsH {x y:Me} (hx0:0≤x.flags) (hx1:x.flags≤31) (hy0:0≤y.flags) (hy1:y.flags≤31):zg5 x y=zok x y:=by
 have:=zq4 ⟨x.flags.toNat,by omega⟩ ⟨y.flags.toNat,by omega⟩
 simp only [Int.toNat_of_nonneg hx0,Int.toNat_of_nonneg hy0] at this
 rw [zg5,zok,zcn,this]
 simp only [Bool.and_assoc]
def g0:Img:=⟨[],[],[],-1⟩
abbrev zu1:PV:=.base (.slice none 0 0)
theorem qO {a:Int} (h1:0≤a) (h2:a≤18446744073709551615):IntKind.u64.wrap a=a:=by
 unfold IntKind.wrap
 simp only [IntKind.bits,IntKind.signed]
 simp
 omega
def alk (g:Img) (a b:Int):Bool:=zok (mAt g a) (mAt g b)
def zfs (g:Img) (m:Int):Bool:=yP (mAt g m).flags 2
def fresh (g:Img) (m:Int):Bool:=yP (mAt g m).flags 8
def YX (g:Img) (out:List Int) (m:Int):List Int :=
 if zfs g m then (if out.any (fun x=>alk g x m)&&!fresh g m then out.set (out.findIdx (fun x=>alk g x m)) m else out++[m]) else out
def Zu (g:Img) (out:List Int) (ms:List Int):List Int:=ms.foldl (YX g) out
def zkJ (g:Img) (us:List Int):List Int:=us.foldl (fun out u=>Zu g out (methodsOf g u)) []
def tbl (g:Img) (t:Int):List Int:=zkJ g (up g t).reverse
theorem zrQ {g:Img} (hW:Wl g) {t:Int} {td:TD} (h:typeAt g t=some td):tbl g t=Zu g (tbl g td.ext) (methodsOf g t):=by
 rw [tbl,hW.up_cons h,List.reverse_cons,zkJ,List.foldl_append];rfl
def mOk (g:Img) (x:Int):Prop:=0≤x∧x.toNat < g.methods.length
theorem zms {g:Img} {out:List Int} {m x:Int} (h:x∈YX g out m):x∈out∨x=m:=by
 rw [YX] at h
 split at h
 ·split at h
  ·exact List.mem_or_eq_of_mem_set h
  ·simpa using h
 ·exact .inl h
theorem zmD (g:Img) (out:List Int) (m:Int):out.length≤(YX g out m).length∧(YX g out m).length≤out.length + 1:=by
 rw [YX]
 split
 ·split <;> simp
 ·simp
theorem zbY {g:Img} {x:Int}:∀ {ms out:List Int},x∈Zu g out ms→x∈out∨x∈ms
 | [],out,h=>.inl h
 | m::ms,out,h=>by
  rcases zbY (ms:=ms) (out:=YX g out m) h with h|h
  ·rcases zms h with h|rfl
   ·exact .inl h
   ·exact .inr (by simp)
  ·exact .inr (by simp [h])
theorem VX (g:Img):∀ (ms out:List Int),out.length≤(Zu g out ms).length∧(Zu g out ms).length≤out.length + ms.length
 | [],out=>by simp [Zu]
 | m::ms,out=>by
  have h1:=VX g ms (YX g out m)
  have h2:=zmD g out m
  have e:Zu g out (m::ms)=Zu g (YX g out m) ms:=rfl
  rw [e,List.length_cons];omega
theorem zrB {g:Img} (us:List Int):(zkJ g us).length≤g.methods.length * us.length:=by
 rw [zkJ]
 have key:∀ (us:List Int) (out:List Int),(us.foldl (fun out u=>Zu g out (methodsOf g u)) out).length≤out.length + g.methods.length * us.length:=by
  intro us
  induction us with
  | nil=>intro out;simp
  | cons u us ih =>
   intro out
   have h1:=ih (Zu g out (methodsOf g u))
   have h2:=(VX g (methodsOf g u) out).2
   have h3:=Qo g u
   rw [List.foldl_cons,List.length_cons,Nat.mul_succ];omega
 have:=key us []
 simpa using this
theorem zlL {g:Img} {x:Int}:∀ {us:List Int},x∈zkJ g us→mOk g x:=by
 have key:∀ (us:List Int) (out:List Int),(∀ x∈out,mOk g x)→∀ x∈us.foldl (fun out u=>Zu g out (methodsOf g u)) out,mOk g x:=by
  intro us
  induction us with
  | nil=>intro out h;exact h
  | cons u us ih =>
   intro out h
   refine ih _ fun x hx=>?_
   rcases zbY hx with hx|hx
   ·exact h x hx
   ·exact qm hx
 intro us h
 exact key us [] (by simp) x h
theorem zpA {g:Img} {t x:Int} (h:x∈tbl g t):mOk g x:=zlL h
theorem Xf {g:Img} {x:Int} (h:mOk g x):(g.methods.map zG)[x.toNat]?=some (zG (mAt g x)):=by
 rw [mAt,zM h.2];exact Yj h.2
theorem zkn (g:Img) (out ms:List Int) (k:Nat) (h:k < ms.length):Zu g out (ms.take (k + 1))=YX g (Zu g out (ms.take k)) ms[k]:=by
 rw [List.take_succ_eq_append_getElem h,Zu,List.foldl_append];rfl
set_option maxHeartbeats 20000000
theorem WT {g:Img} (hf:zV g=true) {a:Int} (h:mOk g a):0≤(mAt g a).flags∧(mAt g a).flags≤31:=zad (zcx hf h.2)
theorem zo9 {g:Img} (hf:zV g=true) {a b:Int} (ha:mOk g a) (hb:mOk g b):zg5 (mAt g a) (mAt g b)=alk g a b:=by
 have h1:=WT hf ha
 have h2:=WT hf hb
 exact zsH h1.1 h1.2 h2.1 h2.2
theorem zoa (g:Img) (hf:zV g=true) (x m:Int) (hx:mOk g x) (hm:mOk g m):ACall Tryz.prog 408 ([]++[pi x]++[.ptr (zx g) 0,.ptr (pi m) 0]) (pb (alk g x m)):=by
 show ACall Tryz.prog 408 [pi x,.ptr (zx g) 0,.ptr (pi m) 0] (pb (alk g x m))
 refine zf zh Tryz.func408 rfl (by kernel_rfl) Tryz.ntmps408 (by simp) _ rfl (fun hw gB hgB=>?_)
 have e1:=Xf hx
 have e2:=Xf hm
 have c1:=zfQ (mAt g x) (mAt g m)
 rw [zo9 hf hx hm] at c1
 repeat' (first|(refine shC ?_;first|refine qC c1 ?_)|(refine shX ?_;first|refine zo rfl (zl zh rfl rfl rfl rfl rfl rfl hx.1 e1) rfl rfl ?_|refine AD.step _ _ _ _ _ rfl (zl zh rfl rfl rfl rfl rfl rfl hx.1 e1) rfl rfl ?_|refine zo rfl (zl zh rfl rfl rfl rfl rfl rfl hm.1 e2) rfl rfl ?_|refine AD.step _ _ _ _ _ rfl (zl zh rfl rfl rfl rfl rfl rfl hm.1 e2) rfl rfl ?_)|refine sA ?_|refine sC (fun _=>?_) (fun _=>?_)|fail)
 exact retq rfl rfl
abbrev slH (out:List Int):HEnv:=[(0,.cell (.agg [.own 7])),(7,.mrow 3 1 (out.map pi))]
theorem zom (g:Img) (hf:zV g=true) (out:List Int) (m:Int) (ho:∀ x∈out,mOk g x) (hm:mOk g m) (us:Nat→Value):ACallM Tryz.prog 389 [.box 0 0,.pv (zx g),.pv (pi m)] (slH out++zJ us [0]) (.pv (pi (zcI out (fun x=>alk g x m)))) (slH out++zJ us [0]):=by
 refine zC zh Tryz.func389 rfl (by kernel_rfl) Tryz.ntmps389 (by simp) _ rfl (fun gB hw1=>?_)
 have c1:=VD out (fun x=>alk g x m) 408 [] [.ptr (zx g) 0,.ptr (pi m) 0] (fun x hx=>zoa g hf x m (ho x hx) hm)
 repeat' (first|(refine zy ?_;first|refine zsG rfl rfl rfl c1 rfl rfl ?_)|refine sA ?_|refine sC (fun _=>?_) (fun _=>?_)|fail)
 exact ⟨.inr rfl,.inl ⟨_,rfl,rfl,⟨by repeat (first|exact zk|refine zi rfl ?_),rfl⟩⟩⟩
theorem zqq (out:List Int) (m:Int) (ho:out.length≤5000) (us:Nat→Value):ACallM Tryz.prog 390 [.box 0 0,.pv (pi m)] (slH out++zJ us [0]) (.pv (.tup [])) (slH (out++[m])++zJ us [0]):=by
 refine zC zh Tryz.func390 rfl (by kernel_rfl) Tryz.ntmps390 (by simp) _ rfl (fun gB hw1=>?_)
 repeat' (first|(refine zL ?_;first|refine Xv zh rfl rfl rfl rfl rfl rfl rfl (by show _ * 8≤_;simp;omega) (by simp;omega) rfl rfl ?_)|refine sA ?_|refine sC (fun _=>?_) (fun _=>?_)|fail)
 exact ⟨.inl rfl,.inl ⟨[],rfl,rfl,⟨zi rfl (qE rfl (by simp) (by repeat (first|exact zk|refine zi rfl ?_))),rfl⟩⟩⟩
theorem zm4 {g:Img} {out:List Int} {m:Int} (hv:zfs g m=true):YX g out m=if decide (0≤zcI out (fun x=>alk g x m))&&!fresh g m then out.set (zcI out (fun x=>alk g x m)).toNat m else out++[m]:=by
 rw [YX,if_pos hv,zcI]
 cases out.any (fun x=>alk g x m) <;> cases fresh g m <;> simp
theorem znu {l:List Int} {p:Int→Bool}:zcI l p = -1∨(0≤zcI l p∧(zcI l p).toNat < l.length):=by
 rw [zcI]
 split
 ·rename_i h
  right
  obtain ⟨x,hx,hp⟩:=List.any_eq_true.1 h
  have:=List.findIdx_lt_length_of_exists (p:=p) ⟨x,hx,hp⟩
  omega
 ·exact .inl rfl
def zpe (g:Img):List PV:=[.slc 4 (g.types.map qU) false,.slc 7 (g.fields.map ZI) false,.slc 12 (g.methods.map zG) false,pi g.entry]
abbrev zeA (g:Img):AV:=.agg [.box 0 0,.pv (.slc 4 (g.types.map qU) false),.pv (.slc 7 (g.fields.map ZI) false),.pv (.slc 12 (g.methods.map zG) false),.pv (pi g.entry)]
theorem zfn {P:Prop}:false=true→P:=fun h=>nomatch h
theorem zn9 (g:Img) (hF:Fine g) (out:List Int) (u:Int) (ho:∀ x∈out,mOk g x) (hol0:out.length≤2048) (us:Nat→Value) :
  ACallM Tryz.prog 344 [zeA g,.pv (pi u)] (slH out++zJ us [0]) (.pv (.tup [])) (slH (Zu g out (methodsOf g u))++zJ us [0]):=by
 have hgm:g.methods.length≤64:=(zI hF.formed).2.2.1
 have c3:=YD g u (by omega)
 have hml:=Qo g u
 refine zC zh Tryz.func344 rfl (by kernel_rfl) Tryz.ntmps344 (by simp) _ rfl (fun gB hw1=>?_)
 repeat' (first|refine zo rfl (zS (ps:=zpe g) zh rfl rfl rfl rfl rfl) rfl rfl ?_|(refine shC ?_;first|refine qC c3 ?_)|(refine Zb ?_;first|refine Yt 2 rfl rfl rfl rfl rfl rfl ?_)|refine sA ?_|refine sC (fun _=>?_) (fun _=>?_)|fail)
 refine zB (fun k:Nat=>[(2,.box 2 0),(11,.pv (ints (methodsOf g u))),(12,.pv (pi (methodsOf g u).length)),(13,.pv (pi k))])
  (fun k=>[(0,.cell (.agg [.own 7])),(7,.mrow 3 1 ((Zu g out ((methodsOf g u).take k)).map pi)),(2,.cell (zeA g)),(1000,.pin (.own 0) (us 0))])
  (fun k=>k≤(methodsOf g u).length) (fun k=>(methodsOf g u).length - k) 0 (by omega) (tS) ⟨zi rfl (qE rfl rfl (by repeat (first|exact zk|refine zi rfl ?_))),rfl⟩ ?_
 rintro k hk
 by_cases hlt:k < (methodsOf g u).length
 ·obtain ⟨x,hx⟩:∃ x,x=(methodsOf g u)[k]:=⟨_,rfl⟩
  have hex:((methodsOf g u).map pi)[k]?=some (pi x):=by rw [hx];exact yc (f:=pi) hlt
  have hmx:mOk g x:=by rw [hx];exact qm (List.getElem_mem hlt)
  have hem:=Xf hmx
  have hs:=zkn g out _ k hlt
  rw [←hx] at hs
  obtain ⟨cur,hcu⟩:∃ o,o=Zu g out ((methodsOf g u).take k):=⟨_,rfl⟩
  have hcl:cur.length≤2112:=by
   have:=(VX g ((methodsOf g u).take k) out).2
   have h2:((methodsOf g u).take k).length≤64:=by simp;omega
   rw [hcu];omega
  have hcm:∀ y∈cur,mOk g y:=by
   intro y hy
   rw [hcu] at hy
   rcases zbY hy with hy|hy
   ·exact ho y hy
   ·exact qm (List.mem_of_mem_take hy)
  rw [←hcu] at hs ⊢
  have hfl:=WT hF.formed hmx
  have hfe:=zaJ hfl.1 hfl.2
  have b2:=Qn (mAt g x) 2
  have b8:=Qn (mAt g x) 8
  rw [hfe.2.1] at b2
  rw [hfe.2.2.2.1] at b8
  cases hv:zfs g x
  ·rw [show yP (mAt g x).flags 2=false from hv] at b2
   repeat' (first|(refine shC ?_;first|refine qC b2 ?_)|(refine shX ?_;first|refine qX hex ?_|refine zo rfl (zl zh rfl rfl rfl rfl rfl rfl hmx.1 hem) rfl rfl ?_|refine AD.step _ _ _ _ _ rfl (zl zh rfl rfl rfl rfl rfl rfl hmx.1 hem) rfl rfl ?_)|refine sK ?_|refine sC (fun _=>?_) (fun _=>?_)|fail)
   exact ⟨k + 1,hlt,tD,tS,⟨zi rfl (qE rfl (by rw [hs,YX,hv];rfl) (by repeat (first|exact zk|refine zi rfl ?_))),rfl⟩⟩
  ·rw [show yP (mAt g x).flags 2=true from hv] at b2
   rw [zm4 hv] at hs
   have cF:=fun us=>zom g hF.formed cur x hcm hmx us
   have cP:=fun us=>zqq cur x (by omega) us
   have hr:=znu (l:=cur) (p:=fun y=>alk g y x)
   obtain ⟨a,ha⟩:∃ a,a=zcI cur (fun y=>alk g y x):=⟨_,rfl⟩
   simp only [←ha] at cF
   rw [←ha] at hs hr
   rcases hr with rfl|⟨ha0,ha1⟩
   ·rw [if_neg (by simp)] at hs
    repeat' (first|refine zo rfl (zS (ps:=zpe g) zh rfl rfl rfl rfl rfl) rfl rfl ?_|(refine shC ?_;first|refine qC b2 ?_|refine qC b8 ?_)|(refine shX ?_;first|refine qX hex ?_|refine zo rfl (zl zh rfl rfl rfl rfl rfl rfl hmx.1 hem) rfl rfl ?_|refine AD.step _ _ _ _ _ rfl (zl zh rfl rfl rfl rfl rfl rfl hmx.1 hem) rfl rfl ?_)|(refine zy ?_;first|refine yx (slH cur) (slH cur) [(2,.cell (zeA g)),(1,.cell (.pv (zG (mAt g x)))),(1000,.pin (.own 0) (us 0))] [(2,.box 2 0),(5,.pv (pi x)),(6,.box 1 0),(11,.pv (ints (methodsOf g u))),(12,.pv (pi (methodsOf g u).length)),(13,.pv (pi k))] [0] zfn rfl rfl rfl (by repeat (first|exact zk|refine zi rfl ?_)) tS rfl rfl rfl cF ?_|refine yx (slH cur) (slH (cur++[x])) [(2,.cell (zeA g)),(1000,.pin (.own 0) (us 0))] [(2,.box 2 0),(11,.pv (ints (methodsOf g u))),(12,.pv (pi (methodsOf g u).length)),(13,.pv (pi k))] [0] zfn rfl rfl rfl (by repeat (first|exact zk|refine zi rfl ?_)) tS rfl rfl rfl cP ?_)|refine sK ?_|refine sC (fun _=>?_) (fun _=>?_)|fail)
    exact ⟨k + 1,hlt,tD,tS,⟨zi rfl (qE rfl (by rw [hs]) (by repeat (first|exact zk|refine zi rfl ?_))),rfl⟩⟩
   ·have hd:decide (0≤a)=true:=decide_eq_true ha0
    rw [hd] at hs
    cases hf:fresh g x
    ·rw [show yP (mAt g x).flags 8=false from hf] at b8
     rw [hf,if_pos (by simp)] at hs
     have hal:a.toNat < (cur.map pi).length:=by rw [List.length_map];exact ha1
     have hap:(cur.map pi)[a.toNat]?=some (pi cur[a.toNat]):=Yj ha1
     repeat' (first|refine zo rfl (zS (ps:=zpe g) zh rfl rfl rfl rfl rfl) rfl rfl ?_|(refine shC ?_;first|refine qC b2 ?_|refine qC b8 ?_)|(refine shX ?_;first|refine qX hex ?_|refine zo rfl (zl zh rfl rfl rfl rfl rfl rfl hmx.1 hem) rfl rfl ?_|refine AD.step _ _ _ _ _ rfl (zl zh rfl rfl rfl rfl rfl rfl hmx.1 hem) rfl rfl ?_|refine zo rfl (zK (k:=a.toNat) zh rfl rfl rfl rfl rfl rfl rfl (by omega) hal) rfl rfl ?_|refine AD.step _ _ _ _ _ rfl (zK (k:=a.toNat) zh rfl rfl rfl rfl rfl rfl rfl (by omega) hal) rfl rfl ?_)|(refine zy ?_;first|refine yx (slH cur) (slH cur) [(2,.cell (zeA g)),(1,.cell (.pv (zG (mAt g x)))),(1000,.pin (.own 0) (us 0))] [(2,.box 2 0),(5,.pv (pi x)),(6,.box 1 0),(11,.pv (ints (methodsOf g u))),(12,.pv (pi (methodsOf g u).length)),(13,.pv (pi k))] [0] zfn rfl rfl rfl (by repeat (first|exact zk|refine zi rfl ?_)) tS rfl rfl rfl cF ?_)|(refine qA ?_;first|refine ZL (k:=a.toNat) (j:=0) zh rfl rfl rfl rfl rfl hap rfl rfl rfl rfl rfl ?_)|refine sK ?_|refine sC (fun _=>?_) (fun _=>?_)|fail)
     exact ⟨k + 1,hlt,tD,tS,⟨zi rfl (qE rfl (by rw [hs,List.map_set]) (by repeat (first|exact zk|refine zi rfl ?_))),rfl⟩⟩
    ·rw [show yP (mAt g x).flags 8=true from hf] at b8
     rw [hf,if_neg (by simp)] at hs
     repeat' (first|refine zo rfl (zS (ps:=zpe g) zh rfl rfl rfl rfl rfl) rfl rfl ?_|(refine shC ?_;first|refine qC b2 ?_|refine qC b8 ?_)|(refine shX ?_;first|refine qX hex ?_|refine zo rfl (zl zh rfl rfl rfl rfl rfl rfl hmx.1 hem) rfl rfl ?_|refine AD.step _ _ _ _ _ rfl (zl zh rfl rfl rfl rfl rfl rfl hmx.1 hem) rfl rfl ?_)|(refine zy ?_;first|refine yx (slH cur) (slH cur) [(2,.cell (zeA g)),(1,.cell (.pv (zG (mAt g x)))),(1000,.pin (.own 0) (us 0))] [(2,.box 2 0),(5,.pv (pi x)),(6,.box 1 0),(11,.pv (ints (methodsOf g u))),(12,.pv (pi (methodsOf g u).length)),(13,.pv (pi k))] [0] zfn rfl rfl rfl (by repeat (first|exact zk|refine zi rfl ?_)) tS rfl rfl rfl cF ?_|refine yx (slH cur) (slH (cur++[x])) [(2,.cell (zeA g)),(1000,.pin (.own 0) (us 0))] [(2,.box 2 0),(11,.pv (ints (methodsOf g u))),(12,.pv (pi (methodsOf g u).length)),(13,.pv (pi k))] [0] zfn rfl rfl rfl (by repeat (first|exact zk|refine zi rfl ?_)) tS rfl rfl rfl cP ?_)|refine sK ?_|refine sC (fun _=>?_) (fun _=>?_)|fail)
     exact ⟨k + 1,hlt,tD,tS,⟨zi rfl (qE rfl (by rw [hs]) (by repeat (first|exact zk|refine zi rfl ?_))),rfl⟩⟩
 ·have hk2:k=(methodsOf g u).length:=by omega
  subst hk2
  rw [List.take_length]
  repeat' (first|refine sK ?_|refine sC (fun _=>?_) (fun _=>?_)|fail)
  exact ⟨.inl rfl,.inl ⟨[],rfl,rfl,⟨by repeat (first|exact zk|refine zi rfl ?_),rfl⟩⟩⟩
set_option maxHeartbeats 2000000 in
theorem zhl (g:Img) (hF:Fine g) (t:Int):ACall Tryz.prog 255 [zx g,pi t] (ints (tbl g t)):=by
 obtain ⟨hgt,_,hgm,_⟩:=zI hF.formed
 have hui:=zcg g t
 have hul:=ZF _ _ hui.1 hui.2
 refine zey zh Tryz.func255 rfl (by kernel_rfl) Tryz.ntmps255 (by simp) _ rfl (fun hw gB hgB hds=>?_)
 refine zaD ?_
 repeat' (first|refine sA ?_|refine sC (fun _=>?_) (fun _=>?_)|fail)
 refine zaD ?_
 repeat' (first|refine zo rfl (Yi zh rfl ⟨_,rfl⟩ rfl rfl rfl rfl rfl rfl) rfl rfl ?_|(refine Zb ?_;first|refine Yt 0 rfl rfl rfl rfl rfl rfl ?_)|refine sA ?_|refine sC (fun _=>?_) (fun _=>?_)|fail)
 refine zmc ?_
 refine zaD ?_
 repeat' (first|refine zaa 0 7 0 3 1 (by decide) rfl rfl rfl rfl ?_|(refine shC ?_;first|refine zo rfl (qJ rfl rfl (ZT g t (by omega))) rfl rfl ?_|refine AD.step _ _ _ _ _ rfl (qJ rfl rfl (ZT g t (by omega))) rfl rfl ?_|refine qC (zcS _) ?_)|refine sA ?_|refine sC (fun _=>?_) (fun _=>?_)|fail)
 refine zju ?_
 refine zjC (fun x=>.int .i64 x.1) (fun x=>.int .i64 x.2) (zjv (up g t) (by omega)) [(2,.pv (.ptr (zx g) 0)),(5,.box 1 0),(15,.pv (.fn (.func 362) [] [.ptr (ints (up g t)) 0]))]
  (fun pre=>[(0,.cell (.agg [.own 7])),(7,.mrow 3 1 ((zkJ g (pre.map (·.2))).map pi)),(1,.cell (zeA g))]) 100 hgB hds (fun _=>rfl) (fun _=>rfl) rfl (tS) rfl rfl rfl (by decide) ⟨by repeat (first|exact zk|refine zi rfl ?_),rfl⟩ (fun _=>rfl) (fun _=>rfl) rfl ?_ ?_
 ·intro g2 us pre x hlen
  rw [zci] at hlen
  obtain ⟨cur,hcu⟩:∃ c,c=zkJ g (pre.map (·.2)):=⟨_,rfl⟩
  have hcl:cur.length≤2048:=by
   have h1:=zrB (g:=g) (pre.map (·.2))
   have h2:g.methods.length * (pre.map (·.2)).length≤64 * 32:=Nat.mul_le_mul hgm (by rw [List.length_map];omega)
   rw [hcu];omega
  have hcm:∀ y∈cur,mOk g y:=fun y hy=>zlL (by rw [hcu] at hy;exact hy)
  have hs:zkJ g ((pre++[x]).map (·.2))=Zu g cur (methodsOf g x.2):=by rw [hcu,List.map_append,zkJ,List.foldl_append];rfl
  rw [←hcu]
  have cT:=fun us'=>zn9 g hF cur x.2 hcm hcl us'
  repeat' (first|(refine zy ?_;first|refine yx (slH cur) (slH (Zu g cur (methodsOf g x.2))) ((1,.cell (zeA g))::zT us 100 [(2,.pv (.ptr (zx g) 0)),(5,.box 1 0),(15,.pv (.fn (.func 362) [] [.ptr (ints (up g t)) 0]))]) [] [0] zfn rfl rfl rfl (by repeat (first|exact zk|refine zi rfl ?_)) tS rfl rfl rfl cT ?_)|refine sA ?_|refine sC (fun _=>?_) (fun _=>?_)|fail)
  exact ⟨zi rfl (qE rfl (by rw [hs]) (by repeat (first|exact zk|refine zi rfl ?_))),rfl⟩
 ·intro g3
  repeat' (first|refine Qx 7 rfl ?_|refine sA ?_|refine sC (fun _=>?_) (fun _=>?_)|fail)
  exact ⟨rfl,retq rfl (by rw [zjq];rfl)⟩
theorem zq6 {g:Img} (hW:Wl g) {t:Int} {td:TD} (h:typeAt g t=some td) (he:0≤td.ext):zF g t=0∧zF g td.ext=0:=by
 refine ⟨?_,(hW.extk h).resolve_left (by omega)⟩
 have hfl:=hW.flag t td h
 rw [zF,h]
 simp only
 have hne:(td.ext == -1)=false:=by simp;omega
 have hr:Wu td.flags=2∨Wu td.flags=1∨Wu td.flags=3∨Wu td.flags=0:=by
  unfold Wu
  cases yP td.flags 2 <;> cases yP td.flags 1 <;> cases yP td.flags 16 <;> simp
 rw [ZN,hne] at hfl
 rcases hr with h1|h1|h1|h1
 ·rw [h1] at hfl;simp at hfl
 ·rw [h1] at hfl;simp at hfl
 ·rw [h1] at hfl;simp at hfl
 ·exact h1
set_option maxHeartbeats 20000000
theorem znw (g:Img) (hx:OkA g):ACall Tryz.prog 127 [zx g] (pb (Qi g)):=by
 refine zf zh Tryz.func127 rfl (by kernel_rfl) Tryz.ntmps127 (by simp) _ rfl (fun hw gB hgB=>?_)
 repeat' (first|(refine shC ?_;first|refine qC (zbN g hx) ?_)|refine sA ?_|refine sC (fun _=>?_) (fun _=>?_)|fail)
 exact retq rfl rfl
def zbo (g:Img) (m:Int):Int:=(mAt g m).owner
def XI (g:Img) (m:Int):Int:=if zfs g m&&zF g (zbo g m)==0 then idx (tbl g (zbo g m)) m else -1
theorem zuY {g:Img} (hF:Fine g) {m:Int} (hm:mOk g m):ACall Tryz.prog 249 [zG (mAt g m),pi 2] (pb (zfs g m)):=by
 have h:=WT hF.formed hm
 have c:=Qn (mAt g m) 2
 rwa [(zaJ h.1 h.2).2.1] at c
theorem zn1 (g:Img) (hF:Fine g) (m:Int) (hm:mOk g m):ACall Tryz.prog 395 [zx g,pi m] (pi (XI g m)):=by
 have hem:=Xf hm
 have c1:=zuY hF hm
 have c2:=qZ g hF.formed (mAt g m).owner
 have c3:=zhl g hF (mAt g m).owner
 have c4:=zhW (tbl g (mAt g m).owner) m
 refine zf zh Tryz.func395 rfl (by kernel_rfl) Tryz.ntmps395 (by simp) _ rfl (fun hw gB hgB=>?_)
 cases hv:zfs g m
 ·rw [hv] at c1
  repeat' (first|(refine shC ?_;first|refine qC c1 ?_)|(refine shX ?_;first|refine zo rfl (zl zh rfl rfl rfl rfl rfl rfl hm.1 hem) rfl rfl ?_|refine AD.step _ _ _ _ _ rfl (zl zh rfl rfl rfl rfl rfl rfl hm.1 hem) rfl rfl ?_)|refine sK ?_|refine sC (fun _=>?_) (fun _=>?_)|fail)
  exact retq rfl (by simp [zn,XI,hv])
 ·rw [hv] at c1
  by_cases hk:zF g (mAt g m).owner=0
  ·rw [hk] at c2
   repeat' (first|(refine shC ?_;first|refine qC c1 ?_|refine qC c2 ?_|refine qC c3 ?_|refine qC c4 ?_)|(refine shX ?_;first|refine zo rfl (zl zh rfl rfl rfl rfl rfl rfl hm.1 hem) rfl rfl ?_|refine AD.step _ _ _ _ _ rfl (zl zh rfl rfl rfl rfl rfl rfl hm.1 hem) rfl rfl ?_)|refine sK ?_|refine sC (fun _=>?_) (fun _=>?_)|fail)
   exact retq rfl (by simp [zn,XI,hv,zbo,hk])
  ·have hkb:(zF g (mAt g m).owner != 0)=true:=by simp [hk]
   repeat' (first|(refine shC ?_;first|refine qC c1 ?_|refine qC c2 ?_)|(refine shX ?_;first|refine zo rfl (zl zh rfl rfl rfl rfl rfl rfl hm.1 hem) rfl rfl ?_|refine AD.step _ _ _ _ _ rfl (zl zh rfl rfl rfl rfl rfl rfl hm.1 hem) rfl rfl ?_)|refine sK ?_|refine sC (fun _=>?_) (fun _=>?_)|fail)
   exact retq rfl (by simp [zn,XI,hv,zbo,hk])
theorem zlz {g:Img} (hW:Wl g):∀ (l:List Int) (t:Int),up g t=l→zF g t=0→∀ u∈l,zF g u=0
 | [],t,h,hk,u,hu=>by cases hu
 | x::l,t,h,hk,u,hu=>by
  cases ht:typeAt g t with
  | none=>rw [up_nil ht] at h;cases h
  | some td =>
   rw [hW.up_cons ht] at h
   injection h with e1 e2
   subst e1
   rcases List.mem_cons.1 hu with rfl|hu
   ·exact hk
   ·have h0:0≤td.ext:=by
     cases hte:typeAt g td.ext with
     | none=>rw [up_nil hte] at e2;subst e2;cases hu
     | some td2=>exact (QF hte).1
    exact zlz hW l td.ext e2 (zq6 hW ht h0).2 u hu
theorem zaU {P:Prop}:false=true→P:=fun h=>nomatch h
set_option maxHeartbeats 20000000
def zd6 (g:Img) (t m:Int):Int:=if XI g m < 0 then m else (tbl g t).getD (XI g m).toNat 0
def does (g:Img) (m k:Int):Bool:=zfs g k&&alk g k m
def zpq (g:Img) (t m:Int):Option Int:=((up g t).flatMap (methodsOf g)).find? (does g m)
def VB (g:Img) (t m:Int):Int:=match zpq g t m with|some k=>zd6 g t k|none => -1
def zm0 (g:Img) (t m:Int):Int:=if zF g (zbo g m)==2&&zfs g m then VB g t m else zd6 g t m
theorem zlO {g:Img} (hW:Wl g):∀ (l:List Int) (t b:Int),up g t=l→b∈l→(tbl g b).length≤(tbl g t).length
 | [],t,b,h,hb=>by cases hb
 | x::l,t,b,h,hb=>by
  cases ht:typeAt g t with
  | none=>rw [up_nil ht] at h;cases h
  | some td =>
   rw [hW.up_cons ht] at h
   simp only [List.cons.injEq] at h
   obtain ⟨rfl,h⟩:=h
   rcases List.mem_cons.1 hb with rfl|hb
   ·exact Nat.le_refl _
   ·have h1:=zlO hW l td.ext b h hb
    have h2:=(VX g (methodsOf g t) (tbl g td.ext)).1
    rw [zrQ hW ht];omega
theorem idx_range {l:List Int} {v:Int}:idx l v = -1∨(0≤idx l v∧(idx l v).toNat < l.length):=by
 rw [idx]
 split
 ·rename_i h
  right
  have:=List.findIdx_lt_length_of_exists (p:=(· == v)) ⟨v,h,by simp⟩
  omega
 ·exact .inl rfl
theorem zo0 {g:Img} (hW:Wl g) {t m:Int} (hb:zF g (zbo g m)=0→zbo g m∈up g t) (h:¬ XI g m < 0):(XI g m).toNat < (tbl g t).length:=by
 rw [XI] at h ⊢
 split at h
 ·rename_i hh
  rw [if_pos hh]
  simp only [Bool.and_eq_true,beq_iff_eq] at hh
  have h1:=zlO hW _ t _ rfl (hb hh.2)
  rcases idx_range (l:=tbl g (zbo g m)) (v:=m) with h2|h2
  ·omega
  ·omega
 ·omega
theorem zal {g:Img} {u k:Int} (h:k∈methodsOf g u):zbo g k=u:=by
 simp only [methodsOf,List.mem_filter,Bool.and_eq_true,beq_iff_eq] at h
 exact h.2.2
theorem znS (g:Img) (hF:Fine g) (t m:Int) (hm:mOk g m) (hn:(zF g (zbo g m)==2&&zfs g m)=false) (hb:zF g (zbo g m)=0→zbo g m∈up g t):ACall Tryz.prog 349 [zx g,pi t,pi m] (pi (zd6 g t m)):=by
 have hW:=zgC hF.well
 have hem:=Xf hm
 have c1:=qZ g hF.formed (mAt g m).owner
 have c2:=zuY hF hm
 have c3:=zn1 g hF m hm
 have c4:=zhl g hF t
 have hsi:=zo0 hW hb
 rw [zbo] at hn
 refine zf zh Tryz.func349 rfl (by kernel_rfl) Tryz.ntmps349 (by simp) _ rfl (fun hw gB hgB=>?_)
 by_cases hk:zF g (mAt g m).owner=2
 ·rw [hk] at c1 hn
  have hv:zfs g m=false:=by simpa using hn
  rw [hv] at c2
  by_cases hs:XI g m < 0
  ·repeat' (first|(refine shC ?_;first|refine qC c1 ?_|refine qC c2 ?_|refine qC c3 ?_)|(refine shX ?_;first|refine zo rfl (zl zh rfl rfl rfl rfl rfl rfl hm.1 hem) rfl rfl ?_|refine AD.step _ _ _ _ _ rfl (zl zh rfl rfl rfl rfl rfl rfl hm.1 hem) rfl rfl ?_)|refine sK ?_|refine sC (fun _=>?_) (fun _=>?_)|fail)
   exact retq rfl (by simp [zn,zd6,hs])
  ·have he:((tbl g t).map pi)[(XI g m).toNat]?=some (pi ((tbl g t).getD (XI g m).toNat 0)):=by rw [zM (hsi hs)];exact Yj (hsi hs)
   have hd:decide (XI g m < 0)=false:=decide_eq_false hs
   repeat' (first|(refine shC ?_;first|refine qC c1 ?_|refine qC c2 ?_|refine qC c3 ?_|refine qC c4 ?_)|(refine shX ?_;first|refine zo rfl (zl zh rfl rfl rfl rfl rfl rfl hm.1 hem) rfl rfl ?_|refine AD.step _ _ _ _ _ rfl (zl zh rfl rfl rfl rfl rfl rfl hm.1 hem) rfl rfl ?_|refine qX he ?_)|refine sK ?_|refine sC (fun _=>?_) (fun _=>?_)|fail)
   exact retq rfl (by rw [zd6,if_neg hs];rfl)
 ·have hkb:(zF g (mAt g m).owner==2)=false:=by simp [hk]
  by_cases hs:XI g m < 0
  ·repeat' (first|(refine shC ?_;first|refine qC c1 ?_|refine qC c2 ?_|refine qC c3 ?_)|(refine shX ?_;first|refine zo rfl (zl zh rfl rfl rfl rfl rfl rfl hm.1 hem) rfl rfl ?_|refine AD.step _ _ _ _ _ rfl (zl zh rfl rfl rfl rfl rfl rfl hm.1 hem) rfl rfl ?_)|refine sK ?_|refine sC (fun _=>?_) (fun _=>?_)|fail)
   exact retq rfl (by simp [zn,zd6,hs])
  ·have he:((tbl g t).map pi)[(XI g m).toNat]?=some (pi ((tbl g t).getD (XI g m).toNat 0)):=by rw [zM (hsi hs)];exact Yj (hsi hs)
   have hd:decide (XI g m < 0)=false:=decide_eq_false hs
   repeat' (first|(refine shC ?_;first|refine qC c1 ?_|refine qC c2 ?_|refine qC c3 ?_|refine qC c4 ?_)|(refine shX ?_;first|refine zo rfl (zl zh rfl rfl rfl rfl rfl rfl hm.1 hem) rfl rfl ?_|refine AD.step _ _ _ _ _ rfl (zl zh rfl rfl rfl rfl rfl rfl hm.1 hem) rfl rfl ?_|refine qX he ?_)|refine sK ?_|refine sC (fun _=>?_) (fun _=>?_)|fail)
   exact retq rfl (by rw [zd6,if_neg hs];rfl)
theorem zrb {α:Type} {l:List α} {f:α→List Int} {i:Nat} (h:i < l.length):(l.drop i).flatMap f=f l[i]++(l.drop (i + 1)).flatMap f:=by
 rw [List.drop_eq_getElem_cons h,List.flatMap_cons]
theorem up0 {g:Img} (hW:Wl g) {t u k:Int} (hk:zF g t=0) (hu:u∈up g t) (h:k∈methodsOf g u):mOk g k∧(zF g (zbo g k)==2&&zfs g k)=false∧(zF g (zbo g k)=0→zbo g k∈up g t):=by
 have h1:=zlz hW _ t rfl hk _ hu
 refine ⟨qm h,?_,fun _=>by rw [zal h];exact hu⟩
 rw [zal h,h1];rfl
theorem zq8 (g:Img) (hF:Fine g) (t m:Int) (hm:mOk g m) (hk:zF g t=0):ACall Tryz.prog 257 [zx g,pi t,pi m] (pi (VB g t m)):=by
 have hW:=zgC hF.well
 obtain ⟨hgt,_,hgm,_⟩:=zI hF.formed
 have hem:=Xf hm
 have hui:=zcg g t
 have hul:=ZF _ _ hui.1 hui.2
 refine zf zh Tryz.func257 rfl (by kernel_rfl) Tryz.ntmps257 (by simp) _ rfl (fun hw gB hgB=>?_)
 repeat' (first|(refine shC ?_;first|refine zo rfl (qJ rfl rfl (ZT g t (by omega))) rfl rfl ?_|refine AD.step _ _ _ _ _ rfl (qJ rfl rfl (ZT g t (by omega))) rfl rfl ?_)|refine sA ?_|refine sC (fun _=>?_) (fun _=>?_)|fail)
 refine zB (fun i:Nat=>[(1,.pv (pi t)),(2,.pv (pi m)),(3,.pv (.ptr (zx g) 0)),(13,.pv (ints (up g t))),(14,.pv (pi (up g t).length)),(15,.pv (pi i))]) (fun _=>[]) (fun i=>i≤(up g t).length∧zpq g t m=(((up g t).drop i).flatMap (methodsOf g)).find? (does g m)) (fun i=>(up g t).length - i) 0 ⟨by omega,rfl⟩ (tS) tH ?_
 rintro i ⟨hi,hr⟩
 by_cases hlt:i < (up g t).length
 ·obtain ⟨u,hu⟩:∃ u,u=(up g t)[i]:=⟨_,rfl⟩
  have hum:u∈up g t:=by rw [hu];exact List.getElem_mem hlt
  have heu:((up g t).map pi)[i]?=some (pi u):=by rw [hu];exact yc (f:=pi) hlt
  have c1:=YD g u (by omega)
  have hml:=Qo g u
  rw [zrb hlt,←hu] at hr
  repeat' (first|(refine shC ?_;first|refine qC c1 ?_)|(refine shX ?_;first|refine qX heu ?_)|refine sK ?_|refine sC (fun _=>?_) (fun _=>?_)|fail)
  refine zB (fun j:Nat=>[(1,.pv (pi t)),(2,.pv (pi m)),(3,.pv (.ptr (zx g) 0)),(13,.pv (ints (up g t))),(14,.pv (pi (up g t).length)),(15,.pv (pi i)),(21,.pv (ints (methodsOf g u))),(22,.pv (pi (methodsOf g u).length)),(23,.pv (pi j))]) (fun _=>[])
   (fun j=>j≤(methodsOf g u).length∧zpq g t m=((methodsOf g u).drop j++((up g t).drop (i + 1)).flatMap (methodsOf g)).find? (does g m)) (fun j=>(methodsOf g u).length - j) 0 ⟨by omega,hr⟩ (tS) tH ?_
  clear hr
  rintro j ⟨hj,hr⟩
  by_cases hjl:j < (methodsOf g u).length
  ·obtain ⟨k,hk2⟩:∃ k,k=(methodsOf g u)[j]:=⟨_,rfl⟩
   have hkm:k∈methodsOf g u:=by rw [hk2];exact List.getElem_mem hjl
   have hek:((methodsOf g u).map pi)[j]?=some (pi k):=by rw [hk2];exact yc (f:=pi) hjl
   obtain ⟨q1,q2,q3⟩:=up0 hW hk hum hkm
   have hekm:=Xf q1
   have c2:=zuY hF q1
   have c3:=zfQ (mAt g k) (mAt g m)
   rw [zo9 hF.formed q1 hm] at c3
   rw [List.drop_eq_getElem_cons hjl,←hk2,List.cons_append,List.find?_cons] at hr
   cases hv:zfs g k
   ·rw [hv] at c2
    rw [show does g m k=false by rw [does,hv];rfl] at hr
    repeat' (first|(refine shC ?_;first|refine qC c2 ?_)|(refine shX ?_;first|refine qX hek ?_|refine zo rfl (zl zh rfl rfl rfl rfl rfl rfl q1.1 hekm) rfl rfl ?_|refine AD.step _ _ _ _ _ rfl (zl zh rfl rfl rfl rfl rfl rfl q1.1 hekm) rfl rfl ?_)|refine sK ?_|refine sC (fun _=>?_) (fun _=>?_)|fail)
    exact ⟨j + 1,⟨hjl,hr⟩,tD,tS,tH⟩
   ·rw [hv] at c2
    cases ha:alk g k m
    ·rw [ha] at c3
     rw [show does g m k=false by rw [does,hv,ha];rfl] at hr
     repeat' (first|(refine shC ?_;first|refine qC c2 ?_|refine qC c3 ?_)|(refine shX ?_;first|refine qX hek ?_|refine zo rfl (zl zh rfl rfl rfl rfl rfl rfl q1.1 hekm) rfl rfl ?_|refine AD.step _ _ _ _ _ rfl (zl zh rfl rfl rfl rfl rfl rfl q1.1 hekm) rfl rfl ?_|refine zo rfl (zl zh rfl rfl rfl rfl rfl rfl hm.1 hem) rfl rfl ?_|refine AD.step _ _ _ _ _ rfl (zl zh rfl rfl rfl rfl rfl rfl hm.1 hem) rfl rfl ?_)|refine sK ?_|refine sC (fun _=>?_) (fun _=>?_)|fail)
     exact ⟨j + 1,⟨hjl,hr⟩,tD,tS,tH⟩
    ·rw [ha] at c3
     rw [show does g m k=true by rw [does,hv,ha];rfl] at hr
     repeat' (first|(refine shC ?_;first|refine qC c2 ?_|refine qC c3 ?_|refine qC (znS g hF t k q1 q2 q3) ?_)|(refine shX ?_;first|refine qX hek ?_|refine zo rfl (zl zh rfl rfl rfl rfl rfl rfl q1.1 hekm) rfl rfl ?_|refine AD.step _ _ _ _ _ rfl (zl zh rfl rfl rfl rfl rfl rfl q1.1 hekm) rfl rfl ?_|refine zo rfl (zl zh rfl rfl rfl rfl rfl rfl hm.1 hem) rfl rfl ?_|refine AD.step _ _ _ _ _ rfl (zl zh rfl rfl rfl rfl rfl rfl hm.1 hem) rfl rfl ?_)|refine sK ?_|refine sC (fun _=>?_) (fun _=>?_)|fail)
     exact retq rfl (by rw [VB,hr];rfl)
  ·rw [List.drop_eq_nil_of_le (by omega),List.nil_append] at hr
   repeat' (first|refine sK ?_|refine sC (fun _=>?_) (fun _=>?_)|fail)
   exact ⟨i + 1,⟨hlt,hr⟩,tD,tS,tH⟩
 ·rw [List.drop_eq_nil_of_le (by omega)] at hr
  repeat' (first|refine sK ?_|refine sC (fun _=>?_) (fun _=>?_)|fail)
  exact retq rfl (by rw [VB,hr];rfl)
def zeq (ws:List Int) (a x:Int):List Int:=if 0 < a∧a < ws.length then ws.set a.toNat x else ws
def zim (ws:List Int) (a:Int):Int:=if a < ws.length then ws.getD a.toNat 0 else 0
theorem zia (ws:List Int) (a x:Int):(zeq ws a x).length=ws.length:=by
 unfold zeq;split <;> simp
structure Fr where
 method:Int
 at_:Int
 base:Int
 eval:Int
 size:Int
 deriving Inhabited
def WB (f:Fr):PV:=.agg [pi f.method,pi f.at_,u64 f.base,u64 f.eval,pi f.size]
theorem zfS (f:Int):0≤Wu f:=by
 unfold Wu
 cases yP f 2 <;> cases yP f 1 <;> cases yP f 16 <;> simp
def ziy (g:Img) (t:Ty):Bool:=(t.kind != 5&&t.kind != 6)||(t.kind==6&&zF g t.index==1)||(t.kind==5&&zF g t.index != 1)
theorem zuk {g:Img} {t:Ty} (hp:Zv t=true) (ho:zil t g.types.length=true):ziy g t=Zd g t:=by
 have hk:=zbE g t.index
 have hn:(t.kind=5∨t.kind=6)→zF g t.index ≠ -1:=by
  intro h
  have h0:0≤t.index:=by
   rw [Zv] at hp
   split at hp
   ·cases hp
   ·rename_i hh;simp at hh;omega
  have h1:t.index < g.types.length:=by
   rw [zil] at ho
   rcases h with h|h <;> simpa [h] using ho
  obtain ⟨td,htd⟩:=WI ⟨h0,h1⟩
  rw [zF,htd]
  have:=zfS td.flags
  simp only;omega
 rw [ziy,Zd,hp]
 generalize zF g t.index=k at hk hn
 by_cases h5:t.kind=5
 ·have:=hn (.inl h5)
  rcases hk with rfl|rfl|rfl|rfl|rfl <;> simp_all
 ·by_cases h6:t.kind=6
  ·have:=hn (.inr h6)
   rcases hk with rfl|rfl|rfl|rfl|rfl <;> simp_all
  ·have e5:(t.kind==5)=false:=beq_eq_false_iff_ne.2 h5
   have e6:(t.kind==6)=false:=beq_eq_false_iff_ne.2 h6
   simp only [bne,e5,e6];rfl
theorem zcp {t:Ty} {p n:Int} (h:XY t p n=true):Zv t=true∧zil t n=true:=by
 rw [XY,Bool.and_eq_true] at h
 refine ⟨?_,h.2⟩
 have:=h.1
 rw [Zx] at this
 cases hp:Zv t
 ·rw [hp] at this;simp at this
 ·rfl
def zsg (m:Me):List Ty:=(m.code.filter fun x=>yj x.op==8).map (·.t)
def znq (m:Me):List Ty:=(m.clauses.filter fun c=>c.kind==1).map (·.t)
def zbM (m:Me):List Ty:=m.params++m.locals++[m.ret]++zsg m++znq m
def zhY (g:Img) (m:Me):Bool:=Zd g m.ret&&m.params.all (Zd g)&&m.locals.all (Zd g)&&m.code.all (fun x=>yj x.op != 8||Zd g x.t)&&m.clauses.all (fun c=>c.kind != 1||Zd g c.t)
theorem znl {α:Type} {l:List α} {p:α→Bool} {f:α→Ty} {q:Ty→Bool}:((l.filter p).map f).all q=l.all fun x=>!p x||q (f x):=by
 induction l with
 | nil=>rfl
 | cons x l ih =>
  rw [List.filter_cons]
  cases h:p x <;> simp [h,ih]
theorem zrW {g:Img} {m:Me} (h:ZU g m=true):(zbM m).all (ziy g)=zhY g m:=by
 simp only [ZU,za5,Bool.and_eq_true,List.all_eq_true,QX,codeOk] at h
 obtain ⟨⟨⟨⟨_,hr⟩,hp⟩,hl⟩,⟨⟨_,hc⟩,hk⟩,_⟩:=h
 have e:(zbM m).all (ziy g)=(zbM m).all (Zd g):=by
  rw [Bool.eq_iff_iff,List.all_eq_true,List.all_eq_true]
  have:∀ t∈zbM m,ziy g t=Zd g t:=by
   intro t ht
   have key:Zv t=true∧zil t g.types.length=true:=by
    simp only [zbM,zsg,znq,List.mem_append,List.mem_singleton,List.mem_map,List.mem_filter] at ht
    rcases ht with (((ht|ht)|rfl)|⟨x,⟨hx,ho⟩,rfl⟩)|⟨c,⟨hx,ho⟩,rfl⟩
    ·exact zcp (hp t ht)
    ·exact zcp (hl t ht)
    ·exact zcp hr
    ·have h1:=hc x hx
     rw [beq_iff_eq] at ho
     obtain ⟨hf,h2⟩:=h1
     rw [ho] at h2
     refine ⟨?_,by simpa using h2⟩
     rw [beq_iff_eq,Wp] at hf
     cases hpx:Zv x.t
     ·have hw:Zx x.t 1=false:=by rw [Zx,hpx];rfl
      split at hf
      ·omega
      ·split at hf
       ·omega
       ·split at hf
        ·omega
        ·rw [if_pos ⟨ho,hw⟩] at hf;omega
     ·rfl
    ·have h1:=hk c hx
     rw [beq_iff_eq] at ho
     rw [ho] at h1
     simp at h1
     exact zcp h1
   exact zuk key.1 key.2
  constructor
  ·intro h t ht;rw [←this t ht];exact h t ht
  ·intro h t ht;rw [this t ht];exact h t ht
 rw [e,zbM,List.all_append,List.all_append,List.all_append,List.all_append,zsg,znq,znl,znl,zhY]
 have e1:(m.code.all fun x=>!(yj x.op==8)||Zd g x.t)=m.code.all fun x=>yj x.op != 8||Zd g x.t:=rfl
 have e2:(m.clauses.all fun c=>!(c.kind==1)||Zd g c.t)=m.clauses.all fun c=>c.kind != 1||Zd g c.t:=rfl
 rw [e1,e2]
 simp only [List.all_cons,List.all_nil,Bool.and_true]
 cases Zd g m.ret <;> simp [Bool.and_assoc]
def zg1 (m:Me):Bool:=m.code.length==0&&m.locals.length==0&&m.clauses.length==0&&m.max==0
def zg8 (k:Int) (b1 b2 b4 b8 b16 rv f16 em nc:Bool):Bool:=!(b16&&(k != 0||rv||f16))&&!(b2&&(b1||k==1))&&!((b4||b8)&&!b2)&&(if b4 then em else nc)
def zmd (k:Int) (b4 m1 ab:Bool):Bool:=if k==2 then b4 else if k==3 then b4&&m1 else !b4||ab
def zeW (k:Int) (b1 b2 b4 b8 b16 rv f16 em nc m1 ab:Bool):Bool :=
 !(b16&&(k != 0||rv||f16))&&!(b2&&(b1||k==1))&&!(!b2&&(b4||b8))&&!(b4&&!em)&&!(!b4&&(!nc||decide (2≤k)))&&!(k==3&&!m1)&&(!b4||decide (2≤k)||ab)
theorem zsa (b1 b2 b4 b8 b16 rv f16 em nc m1 ab:Bool) {k:Int} (hk:k=0∨k=1∨k=2∨k=3):(zg8 k b1 b2 b4 b8 b16 rv f16 em nc&&zmd k b4 m1 ab)=zeW k b1 b2 b4 b8 b16 rv f16 em nc m1 ab:=by
 simp only [zg8,zmd,zeW]
 generalize (b16&&(k != 0||rv||f16))=x
 generalize (b2&&(b1||k==1))=y
 rcases hk with rfl|rfl|rfl|rfl <;> cases x <;> cases y <;> cases b2 <;> cases b4 <;> cases b8 <;> cases em <;> cases nc <;> cases m1 <;> cases ab <;> rfl
def zpH (g:Img) (m:Me):Bool:=zg8 (zF g m.owner) (yP m.flags 1) (yP m.flags 2) (yP m.flags 4) (yP m.flags 8) (yP m.flags 16) (m.ret.kind != 1) (m.flags != 16) (zg1 m) (decide (0 < m.code.length))
def zk4 (g:Img) (m:Me):Bool:=zmd (zF g m.owner) (yP m.flags 4) ((methodsOf g m.owner).length==1) (yP (g.types.getD m.owner.toNat default).flags 4)
def zld (g:Img) (m:Me):Bool:=zeW (zF g m.owner) (yP m.flags 1) (yP m.flags 2) (yP m.flags 4) (yP m.flags 8) (yP m.flags 16) (m.ret.kind != 1) (m.flags != 16) (zg1 m) (decide (0 < m.code.length)) ((methodsOf g m.owner).length==1) (yP (g.types.getD m.owner.toNat default).flags 4)
structure MeOk (g:Img) (m:Me):Prop where
 f0:0≤m.flags
 f1:m.flags≤31
 o0:0≤m.owner
 o1:m.owner.toNat < g.types.length
 formed:ZU g m=true
theorem Xg {g:Img} (hf:zV g=true) {x:Int} (h:mOk g x):MeOk g (mAt g x):=by
 have h1:=WT hf h
 have h2:=zcx hf h.2
 simp only [zV,Bool.and_eq_true,List.all_eq_true] at hf
 have:=hf.2 x.toNat (by simpa using h.2)
 rw [zgH] at this
 simp only [Bool.and_eq_true,decide_eq_true_eq] at this
 have e:g.methods.getD x.toNat default=mAt g x:=rfl
 rw [e] at this h2
 obtain ⟨⟨⟨t1,t2⟩,_⟩,_⟩:=this
 exact ⟨h1.1,h1.2,t1,by omega,h2⟩
theorem MeOk.kind {g:Img} {m:Me} (h:MeOk g m):zF g m.owner=0∨zF g m.owner=1∨zF g m.owner=2∨zF g m.owner=3:=by
 have h1:=zbE g m.owner
 obtain ⟨td,htd⟩:=WI (g:=g) (t:=m.owner) ⟨h.o0,by have:=h.o1;have:=h.o0;omega⟩
 have h2:zF g m.owner=Wu td.flags:=by rw [zF,htd]
 have h3:=zfS td.flags
 omega
theorem ztt {g:Img} {m:Me} (h:MeOk g m):(zpH g m&&zk4 g m)=zld g m:=zsa _ _ _ _ _ _ _ _ _ _ _ h.kind
theorem MeOk.small {g:Img} {m:Me} (h:MeOk g m):m.code.length≤160∧m.locals.length≤12∧m.params.length≤6∧m.clauses.length≤6∧0≤m.max∧m.max≤12:=by
 have:=h.formed
 simp only [ZU,za5,zgt,Bool.and_eq_true,decide_eq_true_eq] at this
 obtain ⟨⟨⟨⟨⟨⟨⟨⟨⟨⟨_,_⟩,_⟩,h3⟩,h4⟩,h5⟩,h6⟩,_⟩,_⟩,_⟩,⟨⟨h7,_⟩,_⟩,h8⟩:=this
 refine ⟨by omega,by omega,by omega,?_,h3,h4⟩
 by_cases hc:6 < m.clauses.length
 ·rw [YG,if_pos hc] at h8;simp at h8
 ·omega
theorem zp4 {m:Me} (h1:m.code.length≤160) (h2:m.locals.length≤12) (h3:m.clauses.length≤6) (h4:0≤m.max) (h5:m.max≤12) :
  (IntKind.i64.wrap (IntKind.i64.wrap (IntKind.i64.wrap ((((m.code.map yR).length:Nat):Int) + (((m.locals.map yK).length:Nat):Int)) + (((m.clauses.map ZJ).length:Nat):Int)) + m.max)==0)=zg1 m:=by
 simp only [List.length_map]
 rw [wrap_in (a:=(m.code.length:Int) + (m.locals.length:Int)) (by omega) (by omega),wrap_in (a:=(m.code.length:Int) + (m.locals.length:Int) + (m.clauses.length:Int)) (by omega) (by omega),wrap_in (by omega) (by omega),zg1,Bool.eq_iff_iff]
 simp only [beq_iff_eq,Bool.and_eq_true]
 omega
theorem zuV {g:Img} {m:Me} (h:MeOk g m):ACall Tryz.prog 249 [zG m,pi 1] (pb (yP m.flags 1))∧ACall Tryz.prog 249 [zG m,pi 2] (pb (yP m.flags 2))∧ACall Tryz.prog 249 [zG m,pi 4] (pb (yP m.flags 4))∧ACall Tryz.prog 249 [zG m,pi 8] (pb (yP m.flags 8))∧ACall Tryz.prog 249 [zG m,pi 16] (pb (yP m.flags 16)):=by
 obtain ⟨e1,e2,e4,e8,e16⟩:=zaJ h.f0 h.f1
 exact ⟨e1 ▸ Qn m 1,e2 ▸ Qn m 2,e4 ▸ Qn m 4,e8 ▸ Qn m 8,e16 ▸ Qn m 16⟩
set_option maxHeartbeats 4000000 in
theorem ziN (g:Img) (hf:zV g=true) (m:Me) (h:MeOk g m):ACall Tryz.prog 128 [zx g,zG m] (pb (zpH g m)):=by
 obtain ⟨h1,h2,h4,h8,h16⟩:=zuV h
 have ck:=qZ g hf m.owner
 have hk:=h.kind
 obtain ⟨s1,s2,_,s4,s5,s6⟩:=h.small
 have he:=zp4 s1 s2 s4 s5 s6
 refine zf zh Tryz.func128 rfl (by kernel_rfl) Tryz.ntmps128 (by simp) _ rfl (fun hw gB hgB=>?_)
 rw [zpH]
 generalize yP m.flags 1=b1 at h1 ⊢
 generalize yP m.flags 2=b2 at h2 ⊢
 generalize yP m.flags 4=b4 at h4 ⊢
 generalize yP m.flags 8=b8 at h8 ⊢
 generalize yP m.flags 16=b16 at h16 ⊢
 generalize zg1 m=em at he ⊢
 rcases hk with hk|hk|hk|hk <;> rw [hk] at ck ⊢ <;> clear hk
 all_goals repeat' (first|(refine shC ?_;first|refine qC ck ?_|refine qC h1 ?_|refine qC h2 ?_|refine qC h4 ?_|refine qC h8 ?_|refine qC h16 ?_)|refine sA ?_|refine sC (fun _=>?_) (fun _=>?_)|fail)
 all_goals (refine retq rfl ?_;first|(simp_all [zn,zg8];done)|(rename_i hx;simp_all [zn,zg8];omega)|(trace_state))
end Go.Cg
