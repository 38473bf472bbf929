/- A part of the walks by abstract values: no statement of its own. -/
import Derived.Test.YtdlokcmodgccnaaGreatF31
import Derived.Test.YtdlokcmodgccnaaGreatF22
import Derived.Test.YtdlokcmodgccnaaGreatF25
import Derived.Test.YtdlokcmodgccnaaGreatF8
import Derived.Test.YtdlokcmodgccnaaGreatF11
import Derived.Test.YtdlokcmodgccnaaGreatF10
import Derived.Test.YtdlokcmodgccnaaGreatF7
import Derived.Test.YtdlokcmodgccnaaGreatF15
set_option linter.unusedVariables false
set_option linter.unusedSimpArgs false
namespace Go.Cg
open Go.Proofs
theorem zqn (l:List Int):(Vb l 0).map (·.2)=l.reverse:=by
 apply List.ext_getElem
 ·simp [Vb]
 ·intro i h1 h2
  have hi:i < l.length:=by simpa [Vb] using h1
  simp only [Vb,List.getElem_map,List.getElem_range,List.getElem_reverse]
  rw [List.getD_eq_getElem?_getD,List.getElem?_eq_getElem (by omega),Option.getD_some]
set_option maxHeartbeats 20000000
theorem zne (g:Img) (hwl:ZU g=true) (hu:ZC g=true) (t:Int):∃ r:Nat,Cnt 32 r (objT g t).length∧ACall Tryz.prog 123 [zq g,pi t] (pi (r:Nat)):=by
 have hf:=ZI hwl
 have hgl:g.fields.length≤64:=by have:=(zF hf).2.1;omega
 have hgt:g.types.length≤32:=(zF hf).1
 have hui:=XR g t
 have hul:=qR _ _ hui.1 hui.2
 let add:Nat→Fd→Nat:=fun r f=>if r≤32 then r + Yv g 32 f.ty else r
 let addU:Nat→Int→Nat:=fun r u=>(Zz g u).foldl add r
 have hadd:∀ (l:List Fd) (r s:Nat),r≤65→Cnt 32 r s→l.foldl add r≤65∧Cnt 32 (l.foldl add r) (s + (fcs g l).length):=by
  intro l
  induction l with
  | nil=>intro r s h1 h2;exact ⟨h1,by simpa [fcs] using h2⟩
  | cons f l ih =>
   intro r s h1 h2
   rw [List.foldl_cons,Vk,←Nat.add_assoc]
   have hcl:Yv g 32 f.ty≤33:=Nat.min_le_right _ _
   refine ih _ _ ?_ ?_
   ·simp only [add];split <;> omega
   ·simp only [add]
    split
    ·rename_i h;exact h2.add h
    ·rename_i h;exact h2.stay (by omega)
 have haddU:∀ (us:List Int) (r s:Nat),r≤65→Cnt 32 r s→us.foldl addU r≤65∧Cnt 32 (us.foldl addU r) (s + (us.map fun u=>(fcs g (Zz g u)).length).sum):=by
  intro us
  induction us with
  | nil=>intro r s h1 h2;exact ⟨h1,by simpa using h2⟩
  | cons u us ih =>
   intro r s h1 h2
   obtain ⟨k1,k2⟩:=hadd (Zz g u) r s h1 h2
   rw [List.foldl_cons,List.map_cons,List.sum_cons,←Nat.add_assoc]
   exact ih _ _ k1 k2
 obtain ⟨hb,hc⟩:=haddU (up g t) 0 0 (by omega) (Cnt.zero _)
 rw [Nat.zero_add,←zlk] at hc
 refine ⟨(up g t).foldl addU 0,hc,?_⟩
 clear hc
 refine zf zh Tryz.func123 rfl (by kernel_rfl) Tryz.ntmps123 (by simp) _ rfl (fun hw gB hgB=>?_)
 repeat' (first|(refine shC ?_;first|refine zu rfl (qw rfl rfl (YM g t (by omega))) rfl rfl ?_|refine AD.step _ _ _ _ _ rfl (qw rfl rfl (YM g t (by omega))) rfl rfl ?_)|refine sA ?_|refine sC (fun _=>?_) (fun _=>?_)|fail)
 refine zo (fun x:Nat × Nat=>[(2,.pv (.ptr (zq g) 0)),(5,.pv (pi x.2)),(12,.pv (ints (up g t))),(13,.pv (pi (up g t).length)),(14,.pv (pi x.1))]) (fun _=>[])
  (fun x=>x.1≤(up g t).length∧x.2≤65∧((up g t).drop x.1).foldl addU x.2=(up g t).foldl addU 0) (fun x=>(up g t).length - x.1) (0,0) ⟨by simp,by simp,rfl⟩ (tS) tH ?_
 rintro ⟨k,r⟩ ⟨hk,hr,hfd⟩
 simp only at hk hr hfd
 by_cases hlt:k < (up g t).length
 ·have heU:=yT hlt
  rw [QW hlt] at hfd
  have hol:=zml g (up g t)[k]
  repeat' (first|(refine shC ?_;first|refine qC (zl7 g _ hf) ?_)|(refine shX ?_;first|refine qX heU ?_)|refine sK ?_|refine sC (fun _=>?_) (fun _=>?_)|fail)
  refine zo (fun x:Nat × Nat=>[(2,.pv (.ptr (zq g) 0)),(5,.pv (pi x.2)),(12,.pv (ints (up g t))),(13,.pv (pi (up g t).length)),(14,.pv (pi k)),(20,.pv (.slc 7 ((Zz g (up g t)[k]).map Yc) false)),(21,.pv (pi (Zz g (up g t)[k]).length)),(22,.pv (pi x.1))]) (fun _=>[])
   (fun x=>x.1≤(Zz g (up g t)[k]).length∧x.2≤65∧((Zz g (up g t)[k]).drop x.1).foldl add x.2=addU r (up g t)[k]) (fun x=>(Zz g (up g t)[k]).length - x.1) (0,r) ⟨by simp,hr,rfl⟩ (tS) tH ?_
  rintro ⟨m,s⟩ ⟨hm,hs,hfs⟩
  simp only at hm hs hfs
  by_cases hltm:m < (Zz g (up g t)[k]).length
  ·have he:=zA (f:=Yc) hltm
   rw [QW hltm] at hfs
   have c1:=zhL g hwl hu 32 (by omega) (by omega) _ (Zz g (up g t)[k])[m].ty (zg2 hwl hu _)
   have hcl:Yv g 32 (Zz g (up g t)[k])[m].ty≤33:=Nat.min_le_right _ _
   simp only [add] at hfs
   generalize Yv g 32 (Zz g (up g t)[k])[m].ty=c at c1 hcl hfs
   by_cases hsb:s≤32
   ·rw [if_pos hsb] at hfs
    have hd1:decide ((s:Int)≤32)=true:=by simp;omega
    repeat' (first|(refine shC ?_;first|refine qC c1 ?_)|(refine shX ?_;first|refine qX he ?_)|refine sK ?_|refine sC (fun _=>?_) (fun _=>?_)|fail)
    exact ⟨(m + 1,s + c),⟨hltm,by simp only;omega,hfs⟩,tD,by repeat (first|exact zT|refine zM rfl ?_|(refine qg rfl ?_ ?_;· (first|(rw [wrap_in (by omega) (by omega)] <;> omega)|(dsimp only;rw [wrap_in (by omega) (by omega)] <;> (push_cast;omega))))),tH⟩
   ·rw [if_neg hsb] at hfs
    have hd1:decide ((s:Int)≤32)=false:=by simp;omega
    repeat' (first|(refine shX ?_;first|refine qX he ?_)|refine sK ?_|refine sC (fun _=>?_) (fun _=>?_)|fail)
    exact ⟨(m + 1,s),⟨hltm,hs,hfs⟩,tD,tS,tH⟩
  ·rw [drop_end (by omega)] at hfs
   simp only [List.foldl_nil] at hfs
   repeat' (first|refine sK ?_|refine sC (fun _=>?_) (fun _=>?_)|fail)
   exact ⟨(k + 1,s),⟨hlt,hs,by rw [hfs];exact hfd⟩,tD,tS,tH⟩
 ·rw [drop_end (by omega)] at hfd
  simp only [List.foldl_nil] at hfd
  repeat' (first|refine sK ?_|refine sC (fun _=>?_) (fun _=>?_)|fail)
  exact retq rfl (by rw [←hfd];rfl)
theorem zgH {g:Img} {k:Nat} (h:k < g.fields.length):g.fields.getD k default=g.fields[k]:=zx h
theorem zlh (g:Img) (hx:OkA g):ACall Tryz.prog 81 [zq g] (.tup [pi (YX g).1,pi (YX g).2]):=by
 refine zf zh Tryz.func81 rfl (by kernel_rfl) Tryz.ntmps81 (by simp) _ rfl (fun hw gB hgB=>?_)
 have c0:=zok g hx
 cases hwl:ZU g
 ·rw [hwl] at c0
  repeat' (first|(refine shC ?_;first|refine qC c0 ?_)|refine sK ?_|refine sC (fun _=>?_) (fun _=>?_)|fail)
  exact retq rfl (by simp [zi,YX,hwl])
 ·rw [hwl] at c0
  have hf:=ZI hwl
  have hgl:g.fields.length≤64:=by have:=(zF hf).2.1;omega
  have hgt:g.types.length≤32:=(zF hf).1
  repeat' (first|(refine shC ?_;first|refine qC c0 ?_)|refine sK ?_|refine sC (fun _=>?_) (fun _=>?_)|fail)
  refine zo (fun k:Nat=>[(1,.pv (.ptr (zq g) 0)),(11,.pv (.slc 7 (g.fields.map Yc) false)),(12,.pv (pi g.fields.length)),(13,.pv (pi k))]) (fun _=>[]) (fun k=>k≤g.fields.length∧∀ j,j < k→yN g (g.fields.getD j default).ty=true) (fun k=>g.fields.length - k) 0 ⟨by omega,fun j h=>by omega⟩ (tS) tH ?_
  rintro k ⟨hk,hno⟩
  by_cases hlt:k < g.fields.length
  ·have he:=zA (f:=Yc) hlt
   have c1:=znf g g.fields[k].ty hf
   cases hus:yN g g.fields[k].ty
   ·have hfin:=zea hwl hlt hno (by rw [zgH hlt];exact hus)
    rw [hus] at c1
    repeat' (first|(refine shC ?_;first|refine qC c1 ?_)|(refine shX ?_;first|refine qX he ?_)|refine sK ?_|refine sC (fun _=>?_) (fun _=>?_)|fail)
    exact retq rfl (by rw [hfin];rfl)
   ·rw [hus] at c1
    repeat' (first|(refine shC ?_;first|refine qC c1 ?_)|(refine shX ?_;first|refine qX he ?_)|refine sK ?_|refine sC (fun _=>?_) (fun _=>?_)|fail)
    exact ⟨k + 1,⟨hlt,fun j hj=>by
     by_cases e:j=k
     ·subst e;rw [zgH hlt];exact hus
     ·exact hno j (by omega)⟩,tD,tS,tH⟩
  ·have hu:ZC g=true:=List.all_eq_true.2 fun j hj=>hno j (by have:=List.mem_range.1 hj;omega)
   clear hno
   repeat' (first|refine sK ?_|refine sC (fun _=>?_) (fun _=>?_)|fail)
   refine zo (fun k:Nat=>[(1,.pv (.ptr (zq g) 0)),(27,.pv (pi g.types.length)),(28,.pv (pi k))]) (fun _=>[]) (fun k=>k≤g.types.length∧∀ j,j < k→Yk g j=false) (fun k=>g.types.length - k) 0 ⟨by omega,fun j h=>by omega⟩ (tS) tH ?_
   clear hk hlt
   rintro k ⟨hk,hno⟩
   by_cases hlt:k < g.types.length
   ·have c1:=Zr g hf (k:Int)
    have hfin:=fun h=>zew hwl hu hlt hno h
    have hnx:Yk g k=false→∀ j,j < k + 1→Yk g j=false:=fun h j hj=>by
     by_cases e:j=k
     ·subst e;exact h
     ·exact hno j (by omega)
    have hsb:Yk g k=((zB g k==1&&decide (8 < (Za g ⟨6,k,0,false⟩).length))||(zB g k==0&&decide (32 < (objT g k).length))):=rfl
    clear hno
    by_cases hk1:zB g k=1
    ·have c2:=zpC g hwl hu 8 (by omega) (by omega) ⟨6,k,0,false⟩
     rw [hk1] at hsb c1
     cases hl:decide (8 < (Za g ⟨6,k,0,false⟩).length)
     ·rw [hl] at c2 hsb
      repeat' (first|(refine shC ?_;first|refine qC c1 ?_|refine qC c2 ?_)|refine sK ?_|refine sC (fun _=>?_) (fun _=>?_)|fail)
      exact ⟨k + 1,⟨hlt,hnx (by rw [hsb];rfl)⟩,tD,tS,tH⟩
     ·rw [hl] at c2 hsb
      repeat' (first|(refine shC ?_;first|refine qC c1 ?_|refine qC c2 ?_)|refine sK ?_|refine sC (fun _=>?_) (fun _=>?_)|fail)
      exact retq rfl (by rw [hfin (by rw [hsb];rfl)];rfl)
    ·have hb1:(zB g k==1)=false:=by simp [hk1]
     by_cases hk0:zB g k=0
     ·obtain ⟨r,hr,c2⟩:=zne g hwl hu k
      rw [hk0] at hsb c1
      have hd:decide (32 < (r:Int))=decide (32 < (objT g k).length):=by rw [decide_eq_decide,←hr.more];omega
      cases hl:decide (32 < (objT g k).length)
      ·rw [hl] at hsb hd
       repeat' (first|(refine shC ?_;first|refine qC c1 ?_|refine qC c2 ?_)|refine sK ?_|refine sC (fun _=>?_) (fun _=>?_)|fail)
       exact ⟨k + 1,⟨hlt,hnx (by rw [hsb];rfl)⟩,tD,tS,tH⟩
      ·rw [hl] at hsb hd
       repeat' (first|(refine shC ?_;first|refine qC c1 ?_|refine qC c2 ?_)|refine sK ?_|refine sC (fun _=>?_) (fun _=>?_)|fail)
       exact retq rfl (by rw [hfin (by rw [hsb];rfl)];rfl)
     ·have hb0:(zB g k==0)=false:=by simp [hk0]
      rw [hb1,hb0] at hsb
      repeat' (first|(refine shC ?_;first|refine qC c1 ?_)|refine sK ?_|refine sC (fun _=>?_) (fun _=>?_)|fail)
      exact ⟨k + 1,⟨hlt,hnx (by rw [hsb];rfl)⟩,tD,tS,tH⟩
   ·repeat' (first|refine sK ?_|refine sC (fun _=>?_) (fun _=>?_)|fail)
    exact retq rfl (by rw [zdk hwl hu (fun j hj=>hno j (by omega))];rfl)
set_option maxHeartbeats 20000000
def zsl (g:Img) (t:Int) (f:Fd):Bool:=decide (f.owner∈up g t)&&!f.static
theorem ziK (g:Img):ACall Tryz.prog 103 [zq g] (.tup [pi (YX g).1,pi (YX g).2]):=by
 refine zf zh Tryz.func103 rfl (by kernel_rfl) Tryz.ntmps103 (by simp) _ rfl (fun hw gB hgB=>?_)
 have c0:=zpK g
 cases hwl:ZU g
 ·rw [hwl] at c0
  repeat' (first|(refine shC ?_;first|refine qC c0 ?_)|refine sK ?_|refine sC (fun _=>?_) (fun _=>?_)|fail)
  exact retq rfl (by simp [zi,YX,hwl])
 ·rw [hwl] at c0
  have hf:=ZI hwl
  have hgl:g.fields.length≤64:=by have:=(zF hf).2.1;omega
  have hgt:g.types.length≤32:=(zF hf).1
  repeat' (first|(refine shC ?_;first|refine qC c0 ?_)|refine sK ?_|refine sC (fun _=>?_) (fun _=>?_)|fail)
  refine zo (fun k:Nat=>[(1,.pv (.ptr (zq g) 0)),(4,.pv (pi k))]) (fun _=>[]) (fun k=>k≤g.fields.length∧∀ j,j < k→yN g (g.fields.getD j default).ty=true) (fun k=>g.fields.length - k) 0 ⟨by omega,fun j h=>by omega⟩ (tS) tH ?_
  rintro k ⟨hk,hno⟩
  by_cases hlt:k < g.fields.length
  ·have he:=zA (f:=Yc) hlt
   have c1:=XM g g.fields[k].ty
   cases hus:yN g g.fields[k].ty
   ·have hfin:=zea hwl hlt hno (by rw [zgH hlt];exact hus)
    rw [hus] at c1
    repeat' (first|(refine shC ?_;first|refine qC c1 ?_)|(refine shX ?_;first|refine qX he ?_)|refine sK ?_|refine sC (fun _=>?_) (fun _=>?_)|fail)
    exact retq rfl (by rw [hfin];rfl)
   ·rw [hus] at c1
    repeat' (first|(refine shC ?_;first|refine qC c1 ?_)|(refine shX ?_;first|refine qX he ?_)|refine sK ?_|refine sC (fun _=>?_) (fun _=>?_)|fail)
    exact ⟨k + 1,⟨hlt,fun j hj=>by
     by_cases e:j=k
     ·subst e;rw [zgH hlt];exact hus
     ·exact hno j (by omega)⟩,tD,tS,tH⟩
  ·have hu:ZC g=true:=List.all_eq_true.2 fun j hj=>hno j (by have:=List.mem_range.1 hj;omega)
   clear hno
   repeat' (first|refine sK ?_|refine sC (fun _=>?_) (fun _=>?_)|fail)
   refine zo (fun k:Nat=>[(1,.pv (.ptr (zq g) 0)),(5,.pv (pi k))]) (fun _=>[]) (fun k=>k≤g.types.length∧∀ j,j < k→Yk g j=false) (fun k=>g.types.length - k) 0 ⟨by omega,fun j h=>by omega⟩ (tS) tH ?_
   clear hk hlt
   rintro k ⟨hk,hno⟩
   by_cases hlt:k < g.types.length
   ·have c1:=qh g (k:Int)
    have hfin:=fun h=>zew hwl hu hlt hno h
    have hnx:Yk g k=false→∀ j,j < k + 1→Yk g j=false:=fun h j hj=>by
     by_cases e:j=k
     ·subst e;exact h
     ·exact hno j (by omega)
    have hsb:Yk g k=((zB g k==1&&decide (8 < (Za g ⟨6,k,0,false⟩).length))||(zB g k==0&&decide (32 < (objT g k).length))):=rfl
    clear hno
    by_cases hk1:zB g k=1
    ·have c2:=zfG g hwl hu 8 (by omega) (by omega) _ ⟨6,k,0,false⟩ (zg2 hwl hu _)
     rw [hk1] at hsb c1
     have hd:decide (8 < ((Yv g 8 ⟨6,k,0,false⟩:Nat):Int))=decide (8 < (Za g ⟨6,k,0,false⟩).length):=by rw [decide_eq_decide];unfold Yv;omega
     generalize Yv g 8 ⟨6,k,0,false⟩=c at c2 hd
     cases hl:decide (8 < (Za g ⟨6,k,0,false⟩).length)
     ·rw [hl] at hsb hd
      repeat' (first|(refine shC ?_;first|refine qC c1 ?_|refine qC c2 ?_)|refine sK ?_|refine sC (fun _=>?_) (fun _=>?_)|fail)
      exact ⟨k + 1,⟨hlt,hnx (by rw [hsb];rfl)⟩,tD,tS,tH⟩
     ·rw [hl] at hsb hd
      repeat' (first|(refine shC ?_;first|refine qC c1 ?_|refine qC c2 ?_)|refine sK ?_|refine sC (fun _=>?_) (fun _=>?_)|fail)
      exact retq rfl (by rw [hfin (by rw [hsb];rfl)];rfl)
    ·have hb1:(zB g k==1)=false:=by simp [hk1]
     by_cases hk0:zB g k=0
     ·rw [hk0] at hsb c1
      have hui:=XR g k
      have hul:=qR _ _ hui.1 hui.2
      have hobl:(fcs g (g.fields.filter (zsl g k))).length=(objT g k).length:=zre g k
      repeat' (first|(refine shC ?_;first|refine qC c1 ?_|refine zu rfl (qw rfl rfl (VH g k (by omega))) rfl rfl ?_|refine AD.step _ _ _ _ _ rfl (qw rfl rfl (VH g k (by omega))) rfl rfl ?_)|refine sK ?_|refine sC (fun _=>?_) (fun _=>?_)|fail)
      refine zo (fun x:Nat × Nat=>[(1,.pv (.ptr (zq g) 0)),(5,.pv (pi k)),(7,.pv (pi x.2)),(8,.pv (ints (up g k))),(9,.pv (pi x.1))]) (fun _=>[])
       (fun x=>x.1≤g.fields.length∧x.2≤65∧Cnt 32 x.2 (fcs g ((g.fields.take x.1).filter (zsl g k))).length) (fun x=>g.fields.length - x.1) (0,0) ⟨by simp,by simp,rfl⟩ (tS) tH ?_
      rintro ⟨m,r⟩ ⟨hm,hr,hc⟩
      simp only at hm hr hc
      have hle:=zhV g (zsl g k) g.fields m
      rw [hobl] at hle
      have hend:(32 < r∨m=g.fields.length)→decide (32 < (r:Int))=decide (32 < (objT g k).length):=by
       intro h
       rw [decide_eq_decide]
       have:=hc.more
       rcases h with h|h
       ·exact ⟨fun _=>by omega,fun _=>by omega⟩
       ·subst h
        rw [List.take_length,hobl] at hc
        have:=hc.more;omega
      by_cases hltm:m < g.fields.length
      ·by_cases hrb:r≤32
       ·have he:=zA (f:=Yc) hltm
        have cH:=QE (up g k) g.fields[m].owner
        clear hend
        cases hp:zsl g k g.fields[m]
        ·have hcn:Cnt 32 r (fcs g ((g.fields.take (m + 1)).filter (zsl g k))).length:=by rw [zcg hltm hp];exact hc
         have hpa:(decide (g.fields[m].owner∈up g k)&&!g.fields[m].static)=false:=hp
         generalize decide (g.fields[m].owner∈up g k)=bo at cH hpa
         repeat' (first|(refine shC ?_;first|refine qC cH ?_)|(refine shX ?_;first|refine qX he ?_)|refine sA ?_|refine sC (fun _=>?_) (fun _=>?_)|fail)
         all_goals first
          | exact ⟨(m + 1,r),⟨hltm,hr,hcn⟩,tD,tS,tH⟩
          | (exfalso;simp_all;done)
          | (exfalso;simp_all;omega)
        ·have c2:=zfG g hwl hu 32 (by omega) (by omega) _ g.fields[m].ty (zg2 hwl hu _)
         have hs:=zbX (g:=g) hltm hp
         have hcl:Yv g 32 g.fields[m].ty≤33:=Nat.min_le_right _ _
         have hcn:=hc.add (l:=(Za g g.fields[m].ty).length) hrb
         rw [←List.length_append,←hs] at hcn
         rw [show min (Za g g.fields[m].ty).length (32 + 1)=Yv g 32 g.fields[m].ty from rfl] at hcn
         generalize Yv g 32 g.fields[m].ty=c at c2 hcl hcn
         have hpa:(decide (g.fields[m].owner∈up g k)&&!g.fields[m].static)=true:=hp
         rw [Bool.and_eq_true] at hpa
         obtain ⟨hp1,hp2⟩:=hpa
         rw [hp1] at cH
         have hd1:decide ((r:Int)≤32)=true:=by simp;omega
         repeat' (first|(refine shC ?_;first|refine qC cH ?_|refine qC c2 ?_)|(refine shX ?_;first|refine qX he ?_)|refine sK ?_|refine sC (fun _=>?_) (fun _=>?_)|fail)
         all_goals first
          | exact ⟨(m + 1,r + c),⟨hltm,by simp only;omega,hcn⟩,tD,by repeat (first|exact zT|refine zM rfl ?_|(refine qg rfl ?_ ?_;· (first|(rw [wrap_in (by omega) (by omega)] <;> omega)|(dsimp only;rw [wrap_in (by omega) (by omega)] <;> (push_cast;omega))))),tH⟩
          | (exfalso;simp_all;done)
       ·have hd1:decide ((r:Int)≤32)=false:=by simp;omega
        have hee:=hend (.inl (by omega))
        have hd2:decide (32 < (r:Int))=true:=by simp;omega
        rw [←hee,hd2] at hsb
        clear hend
        repeat' (first|refine sK ?_|refine sC (fun _=>?_) (fun _=>?_)|fail)
        all_goals first
         | exact retq rfl (by rw [hfin (by rw [hsb];rfl)];rfl)
         | (exfalso;simp_all;done)
         | (exfalso;simp_all;omega)
      ·have hee:=hend (.inr (by omega))
       clear hend
       cases hl:decide (32 < (r:Int))
       ·rw [hl] at hee
        rw [←hee] at hsb
        repeat' (first|refine sA ?_|refine sC (fun _=>?_) (fun _=>?_)|fail)
        all_goals first
         | exact ⟨k + 1,⟨hlt,hnx (by rw [hsb];rfl)⟩,tD,tS,tH⟩
         | (exfalso;simp_all;done)
         | (exfalso;simp_all;omega)
       ·rw [hl] at hee
        rw [←hee] at hsb
        repeat' (first|refine sA ?_|refine sC (fun _=>?_) (fun _=>?_)|fail)
        all_goals first
         | exact retq rfl (by rw [hfin (by rw [hsb];rfl)];rfl)
         | (exfalso;simp_all;done)
         | (exfalso;simp_all;omega)
     ·have hb0:(zB g k==0)=false:=by simp [hk0]
      have hb2:(zB g k != 0)=true:=by simp [hk0]
      rw [hb1,hb0] at hsb
      repeat' (first|(refine shC ?_;first|refine qC c1 ?_)|refine sK ?_|refine sC (fun _=>?_) (fun _=>?_)|fail)
      exact ⟨k + 1,⟨hlt,hnx (by rw [hsb];rfl)⟩,tD,tS,tH⟩
   ·repeat' (first|refine sK ?_|refine sC (fun _=>?_) (fun _=>?_)|fail)
    exact retq rfl (by rw [zdk hwl hu (fun j hj=>hno j (by omega))];rfl)
theorem znk (g:Img):ACall Tryz.prog 59 [zq g] (pb (zcm g)):=by
 refine zf zh Tryz.func59 rfl (by kernel_rfl) Tryz.ntmps59 (by simp) _ rfl (fun hw gB hgB=>?_)
 repeat' (first|(refine shC ?_;first|refine qC (ziK g) ?_)|refine sA ?_|refine sC (fun _=>?_) (fun _=>?_)|fail)
 exact retq rfl rfl
set_option maxHeartbeats 20000000
theorem QH (m:Me) (f:Int):ACall Tryz.prog 82 [zG m,pi f] (pb (qB m.flags f)):=by
 refine zf zh Tryz.func82 rfl (by kernel_rfl) Tryz.ntmps82 (by simp) _ rfl (fun hw gB hgB=>?_)
 repeat' (first|refine sA ?_|refine sC (fun _=>?_) (fun _=>?_)|fail)
 all_goals (first|refine retq rfl ?_|refine ZA rfl ?_)
 all_goals (first|(simp_all [zi,qB];done)|(simp_all [zi,qB];omega))
theorem zju (m:Me):ACall Tryz.prog 65 [zG m,pi 1] (pb (zW m.flags 1)):=by
 refine zf zh Tryz.func65 rfl (by kernel_rfl) Tryz.ntmps65 (by simp) _ rfl (fun hw gB hgB=>?_)
 repeat' (first|refine sA ?_|refine sC (fun _=>?_) (fun _=>?_)|fail)
 all_goals (first|refine retq rfl ?_|refine ZA rfl ?_)
 all_goals (first|(simp_all [zi,zW];done)|(simp_all [zi,zW];omega))
theorem Vq (m:Me):ACall Tryz.prog 65 [zG m,pi 2] (pb (zW m.flags 2)):=by
 refine zf zh Tryz.func65 rfl (by kernel_rfl) Tryz.ntmps65 (by simp) _ rfl (fun hw gB hgB=>?_)
 repeat' (first|refine sA ?_|refine sC (fun _=>?_) (fun _=>?_)|fail)
 all_goals (first|refine retq rfl ?_|refine ZA rfl ?_)
 all_goals (first|(simp_all [zi,zW];done)|(simp_all [zi,zW];omega))
theorem zfw (m:Me):ACall Tryz.prog 65 [zG m,pi 4] (pb (zW m.flags 4)):=by
 refine zf zh Tryz.func65 rfl (by kernel_rfl) Tryz.ntmps65 (by simp) _ rfl (fun hw gB hgB=>?_)
 repeat' (first|refine sA ?_|refine sC (fun _=>?_) (fun _=>?_)|fail)
 all_goals (first|refine retq rfl ?_|refine ZA rfl ?_)
 all_goals (first|(simp_all [zi,zW];done)|(simp_all [zi,zW];omega))
theorem zjs (m:Me):ACall Tryz.prog 65 [zG m,pi 8] (pb (zW m.flags 8)):=by
 refine zf zh Tryz.func65 rfl (by kernel_rfl) Tryz.ntmps65 (by simp) _ rfl (fun hw gB hgB=>?_)
 repeat' (first|refine sA ?_|refine sC (fun _=>?_) (fun _=>?_)|fail)
 all_goals (first|refine retq rfl ?_|refine ZA rfl ?_)
 all_goals (first|(simp_all [zi,zW];done)|(simp_all [zi,zW];omega))
theorem zny (m:Me):ACall Tryz.prog 65 [zG m,pi 16] (pb (zW m.flags 16)):=by
 refine zf zh Tryz.func65 rfl (by kernel_rfl) Tryz.ntmps65 (by simp) _ rfl (fun hw gB hgB=>?_)
 repeat' (first|refine sA ?_|refine sC (fun _=>?_) (fun _=>?_)|fail)
 all_goals (first|refine retq rfl ?_|refine ZA rfl ?_)
 all_goals (first|(simp_all [zi,zW];done)|(simp_all [zi,zW];omega))
def zit (a b:Me):Bool:=a.name.toList==b.name.toList&&decide (a.ret=b.ret)&&(qB a.flags 1==qB b.flags 1)&&decide (a.params=b.params)
def zbC (a b:Me):Bool:=a.name.toList==b.name.toList&&zaB a b
theorem zgj (a b:Me):ACall Tryz.prog 134 [zG a,zG b] (pb (zit a b)):=by
 refine zf zh Tryz.func134 rfl (by kernel_rfl) Tryz.ntmps134 (by simp) _ rfl (fun hw gB hgB=>?_)
 have hty:=QD a.ret b.ret
 repeat' (first|(refine shC ?_;first|refine qC (QH _ _) ?_|refine qC (zem _ _) ?_)|refine sA ?_|refine sC (fun _=>?_) (fun _=>?_)|fail)
 all_goals refine retq rfl ?_
 all_goals (simp only [zi,zit,←hty];clear hty;simp_all)
theorem zf6 (a b:Me):ACall Tryz.prog 150 [zG a,zG b] (pb (zbC a b)):=by
 refine zf zh Tryz.func150 rfl (by kernel_rfl) Tryz.ntmps150 (by simp) _ rfl (fun hw gB hgB=>?_)
 repeat' (first|(refine shC ?_;first|refine qC (zex _ _) ?_)|refine sA ?_|refine sC (fun _=>?_) (fun _=>?_)|fail)
 all_goals (first|refine retq rfl ?_|refine ZA rfl ?_)
 all_goals (first|(simp_all [zi,zbC];done)|(simp_all [zi,zbC];omega))
theorem zpP:∀ a b:Fin 32,(qB (a.val:Int) 1==qB (b.val:Int) 1)=((a.val:Int).tmod 2==(b.val:Int).tmod 2):=by decide +kernel
theorem zqa:∀ a:Fin 32,qB (a.val:Int) 1=zW a.val 1∧qB (a.val:Int) 2=zW a.val 2∧qB (a.val:Int) 4=zW a.val 4∧qB (a.val:Int) 8=zW a.val 8∧qB (a.val:Int) 16=zW a.val 16:=by decide +kernel
theorem za2 {f:Int} (h0:0≤f) (h1:f≤31):qB f 1=zW f 1∧qB f 2=zW f 2∧qB f 4=zW f 4∧qB f 8=zW f 8∧qB f 16=zW f 16:=by
 have:=zqa ⟨f.toNat,by omega⟩
 simpa only [Int.toNat_of_nonneg h0] using this
theorem zrx {x y:Me} (hx0:0≤x.flags) (hx1:x.flags≤31) (hy0:0≤y.flags) (hy1:y.flags≤31):zit x y=zbC x y:=by
 have:=zpP ⟨x.flags.toNat,by omega⟩ ⟨y.flags.toNat,by omega⟩
 simp only [Int.toNat_of_nonneg hx0,Int.toNat_of_nonneg hy0] at this
 rw [zit,zbC,zaB,this]
 simp only [Bool.and_assoc]
def alk (g:Img) (a b:Int):Bool:=zbC (mAt g a) (mAt g b)
def Vd (g:Img) (m:Int):Bool:=zW (mAt g m).flags 2
def fresh (g:Img) (m:Int):Bool:=zW (mAt g m).flags 8
def Ym (g:Img) (out:List Int) (m:Int):List Int :=
 if Vd g m then (if out.any (fun x=>alk g x m)&&!fresh g m then out.set (out.findIdx (fun x=>alk g x m)) m else out++[m]) else out
def Zk (g:Img) (out:List Int) (ms:List Int):List Int:=ms.foldl (Ym g) out
def zku (g:Img) (us:List Int):List Int:=us.foldl (fun out u=>Zk g out (methodsOf g u)) []
def tbl (g:Img) (t:Int):List Int:=zku g (up g t).reverse
theorem zqU {g:Img} {t:Int} (h:typeAt g t=none):tbl g t=[]:=by rw [tbl,up_nil h];rfl
theorem zkU {g:Img} (hW:Wl g) {t:Int} {td:TD} (h:typeAt g t=some td):tbl g t=Zk g (tbl g td.ext) (methodsOf g t):=by
 rw [tbl,hW.up_cons h,List.reverse_cons,zku,List.foldl_append];rfl
def mOk (g:Img) (x:Int):Prop:=0≤x∧x.toNat < g.methods.length
theorem zmj {g:Img} {out:List Int} {m x:Int} (h:x∈Ym g out m):x∈out∨x=m:=by
 rw [Ym] at h
 split at h
 ·split at h
  ·exact List.mem_or_eq_of_mem_set h
  ·simpa using h
 ·exact .inl h
theorem znb (g:Img) (out:List Int) (m:Int):out.length≤(Ym g out m).length∧(Ym g out m).length≤out.length + 1:=by
 rw [Ym]
 split
 ·split <;> simp
 ·simp
theorem zaD {g:Img} {x:Int}:∀ {ms out:List Int},x∈Zk g out ms→x∈out∨x∈ms
 | [],out,h=>.inl h
 | m::ms,out,h=>by
  rcases zaD (ms:=ms) (out:=Ym g out m) h with h|h
  ·rcases zmj h with h|rfl
   ·exact .inl h
   ·exact .inr (by simp)
  ·exact .inr (by simp [h])
theorem WG (g:Img):∀ (ms out:List Int),out.length≤(Zk g out ms).length∧(Zk g out ms).length≤out.length + ms.length
 | [],out=>by simp [Zk]
 | m::ms,out=>by
  have h1:=WG g ms (Ym g out m)
  have h2:=znb g out m
  have e:Zk g out (m::ms)=Zk g (Ym g out m) ms:=rfl
  rw [e,List.length_cons];omega
theorem zlC {g:Img} (us:List Int):(zku g us).length≤g.methods.length * us.length:=by
 rw [zku]
 have key:∀ (us:List Int) (out:List Int),(us.foldl (fun out u=>Zk g out (methodsOf g u)) out).length≤out.length + g.methods.length * us.length:=by
  intro us
  induction us with
  | nil=>intro out;simp
  | cons u us ih =>
   intro out
   have h1:=ih (Zk g out (methodsOf g u))
   have h2:=(WG g (methodsOf g u) out).2
   have h3:=qP g u
   rw [List.foldl_cons,List.length_cons,Nat.mul_succ];omega
 have:=key us []
 simpa using this
theorem zll {g:Img} {x:Int}:∀ {us:List Int},x∈zku g us→mOk g x:=by
 have key:∀ (us:List Int) (out:List Int),(∀ x∈out,mOk g x)→∀ x∈us.foldl (fun out u=>Zk g out (methodsOf g u)) out,mOk g x:=by
  intro us
  induction us with
  | nil=>intro out h;exact h
  | cons u us ih =>
   intro out h
   refine ih _ fun x hx=>?_
   rcases zaD hx with hx|hx
   ·exact h x hx
   ·exact yx hx
 intro us h
 exact key us [] (by simp) x h
theorem zgU {g:Img} {t x:Int} (h:x∈tbl g t):mOk g x:=zll h
theorem zkp {g:Img} (hF:Fine g) (t:Int):(tbl g t).length≤2048:=by
 have h1:=zlC (g:=g) (up g t).reverse
 obtain ⟨b1,_,b3,_⟩:=zF hF.formed
 have hui:=XR g t
 have hul:=qR _ _ hui.1 hui.2
 rw [List.length_reverse] at h1
 have:g.methods.length * (up g t).length≤64 * 32:=Nat.mul_le_mul b3 (by omega)
 rw [tbl];omega
def atF (g:Img) (out:List Int) (m:Int) (k:Nat):Int:=if (out.drop k).any (fun x=>alk g x m) then ((k + (out.drop k).findIdx (fun x=>alk g x m):Nat):Int) else -1
theorem zta (g:Img) (out:List Int) (m:Int):atF g out m out.length = -1:=by simp [atF]
theorem zq8 {g:Img} {out:List Int} {m:Int} {k:Nat} (h:k < out.length):atF g out m k=if alk g out[k] m then (k:Int) else atF g out m (k + 1):=by
 rw [atF,atF,List.drop_eq_getElem_cons h,List.any_cons,List.findIdx_cons]
 cases alk g out[k] m <;> simp
 split <;> omega
theorem zpw {g:Img} {out:List Int} {m:Int} (k:Nat):atF g out m k = -1∨(0≤atF g out m k∧(atF g out m k).toNat < out.length):=by
 rw [atF]
 split
 ·rename_i h
  right
  obtain ⟨x,hx,hp⟩:=List.any_eq_true.1 h
  have:=List.findIdx_lt_length_of_exists (p:=fun x=>alk g x m) ⟨x,hx,hp⟩
  rw [List.length_drop] at this
  omega
 ·exact .inl rfl
theorem znV {g:Img} {out:List Int} {m:Int} (hv:Vd g m=true):Ym g out m=if decide (atF g out m 0 < 0)||fresh g m then out++[m] else out.set (atF g out m 0).toNat m:=by
 rw [Ym,if_pos hv,atF,List.drop_zero]
 cases out.any (fun x=>alk g x m) <;> cases fresh g m <;> simp
 all_goals (first|done|omega|(intro;omega))
set_option maxHeartbeats 20000000
theorem tSO {P:Prop} (h:P:=by repeat (first|exact zT|refine zM rfl ?_|(refine qg rfl ?_ ?_;· (first|omega|(rw [wrap_in (by omega) (by omega)] <;> omega)|(dsimp only;rw [wrap_in (by omega) (by omega)] <;> omega)|(simp;done))))):P:=h
theorem ZR {g:Img} {x:Int} (h:mOk g x):(g.methods.map zG)[x.toNat]?=some (zG (mAt g x)):=by
 rw [mAt,zx h.2];exact qE h.2
theorem zd6 (g:Img) (out ms:List Int) (k:Nat) (h:k < ms.length):Zk g out (ms.take (k + 1))=Ym g (Zk g out (ms.take k)) ms[k]:=by
 rw [List.take_succ_eq_append_getElem h,Zk,List.foldl_append];rfl
theorem zpR {g:Img} {t:Int} (h:typeAt g t=none):there g t=false:=by
 cases hh:there g t with
 | false=>rfl
 | true=>obtain ⟨td,h2⟩:=(Zu g t).1 hh;rw [h] at h2;cases h2
theorem zgq (g:Img) (t:Int) (ht:typeAt g t=none):ACall Tryz.prog 107 [zq g,pi t] (ints (tbl g t)):=by
 have c1:=Yg g t
 rw [zpR ht] at c1
 rw [zqU ht]
 refine zf zh Tryz.func107 rfl (by kernel_rfl) Tryz.ntmps107 (by simp) _ rfl (fun hw gB hgB=>?_)
 repeat' (first|refine yS (t:=5) 10 3 1 (by decide) rfl rfl ?_|(refine shC ?_;first|refine qC c1 ?_)|refine sA ?_|refine sC (fun _=>?_) (fun _=>?_)|fail)
 exact retq rfl rfl
theorem zdD (g:Img) (hF:Fine g):∀ (n:Nat) (t:Int),(up g t).length≤n→ACall Tryz.prog 107 [zq g,pi t] (ints (tbl g t)):=by
 have hW:=zao hF.well
 have hgm:g.methods.length≤64:=(zF hF.formed).2.2.1
 intro n
 induction n with
 | zero =>
  intro t hn
  cases ht:typeAt g t with
  | some td=>rw [hW.up_cons ht] at hn;simp at hn
  | none=>exact zgq g t ht
 | succ n ih =>
  intro t hn
  cases ht:typeAt g t with
  | none=>exact zgq g t ht
  | some td =>
   have c1:=Yg g t
   rw [(Zu g t).2 ⟨td,ht⟩] at c1
   have c2:=ih td.ext (by rw [hW.up_cons ht] at hn;simpa using hn)
   obtain ⟨h0,he⟩:=yQ ht
   have hl0:=zkp hF td.ext
   have c3:=YS g t (by omega)
   have hml:=qP g t
   refine zf zh Tryz.func107 rfl (by kernel_rfl) Tryz.ntmps107 (by simp) _ rfl (fun hw gB hgB=>?_)
   repeat' (first|refine zcG (t:=5) 10 3 1 (by decide) rfl rfl ?_|refine YQ 11 9 rfl (by kernel_rfl) (by kernel_rfl) (by kernel_rfl) (by kernel_rfl) (by kernel_rfl) ?_|(refine shC ?_;first|refine qC c1 ?_|refine qC c2 ?_|refine qC c3 ?_)|(refine shX ?_;first|refine zu rfl (zk zh rfl rfl rfl rfl rfl rfl h0 he) rfl rfl ?_|refine AD.step _ _ _ _ _ rfl (zk zh rfl rfl rfl rfl rfl rfl h0 he) rfl rfl ?_)|(refine zI ?_;first|refine Qj zh rfl rfl rfl rfl rfl rfl rfl (by show _ * 8≤_;simp;omega) (by simp;omega) rfl rfl ?_)|refine sA ?_|refine sC (fun _=>?_) (fun _=>?_)|fail)
   refine zo (fun k:Nat=>[(2,.pv (.ptr (zq g) 0)),(5,.own 10),(6,.pv (ints (methodsOf g t))),(7,.pv (pi k))]) (fun k=>[(10,.mrow 3 1 ((Zk g (tbl g td.ext) ((methodsOf g t).take k)).map pi))])
    (fun k=>k≤(methodsOf g t).length) (fun k=>(methodsOf g t).length - k) 0 (by omega) (tS) ⟨qO rfl rfl zl,rfl⟩ ?_
   rintro k hk
   by_cases hlt:k < (methodsOf g t).length
   ·obtain ⟨x,hx⟩:∃ x,x=(methodsOf g t)[k]:=⟨_,rfl⟩
    have hex:((methodsOf g t).map pi)[k]?=some (pi x):=by rw [hx];exact zA (f:=pi) hlt
    have hmx:mOk g x:=by rw [hx];exact yx (List.getElem_mem hlt)
    have hem:=ZR hmx
    have hs:=zd6 g (tbl g td.ext) _ k hlt
    rw [←hx] at hs
    obtain ⟨out,ho⟩:∃ o,o=Zk g (tbl g td.ext) ((methodsOf g t).take k):=⟨_,rfl⟩
    have hol:out.length≤2112:=by
     have:=(WG g ((methodsOf g t).take k) (tbl g td.ext)).2
     have h2:((methodsOf g t).take k).length≤64:=by simp;omega
     rw [ho];omega
    have hom:∀ y∈out,mOk g y:=by
     intro y hy
     rw [ho] at hy
     rcases zaD hy with hy|hy
     ·exact zgU hy
     ·exact yx (List.mem_of_mem_take hy)
    rw [←ho] at hs ⊢
    have b2:=Vq (mAt g x)
    have b8:=zjs (mAt g x)
    cases hv:Vd g x
    ·rw [show zW (mAt g x).flags 2=false from hv] at b2
     repeat' (first|refine yE 1 8 0 zh rfl (by kernel_rfl) (by kernel_rfl) (by kernel_rfl) rfl rfl rfl rfl rfl rfl rfl rfl rfl rfl rfl rfl rfl rfl (fun _=>rfl) rfl rfl rfl ?_|refine ⟨_,_,rfl,rfl,rfl,?_⟩|(refine shC ?_;first|refine qC b2 ?_)|(refine shX ?_;first|refine qX hex ?_|refine zu rfl (zk zh rfl rfl rfl rfl rfl rfl hmx.1 hem) rfl rfl ?_|refine AD.step _ _ _ _ _ rfl (zk zh rfl rfl rfl rfl rfl rfl hmx.1 hem) rfl rfl ?_)|refine sK ?_|refine sC (fun _=>?_) (fun _=>?_)|fail)
     exact ⟨k + 1,hlt,tD,tS,⟨qO rfl (by rw [hs,Ym,hv];rfl) zl,rfl⟩⟩
    ·rw [show zW (mAt g x).flags 2=true from hv] at b2
     rw [znV hv] at hs
     repeat' (first|refine yE 1 8 0 zh rfl (by kernel_rfl) (by kernel_rfl) (by kernel_rfl) rfl rfl rfl rfl rfl rfl rfl rfl rfl rfl rfl rfl rfl rfl (fun _=>rfl) rfl rfl rfl ?_|refine ⟨_,_,rfl,rfl,rfl,?_⟩|(refine shC ?_;first|refine qC b2 ?_)|(refine shX ?_;first|refine qX hex ?_|refine zu rfl (zk zh rfl rfl rfl rfl rfl rfl hmx.1 hem) rfl rfl ?_|refine AD.step _ _ _ _ _ rfl (zk zh rfl rfl rfl rfl rfl rfl hmx.1 hem) rfl rfl ?_)|(refine zI ?_;first|refine zbJ zh rfl rfl rfl rfl rfl rfl rfl ?_)|refine sK ?_|refine sC (fun _=>?_) (fun _=>?_)|fail)
     refine zo (fun c:Nat=>[(2,.pv (.ptr (zq g) 0)),(5,.own 10),(6,.pv (ints (methodsOf g t))),(7,.pv (pi k)),(8,.box 1 0),(9,.pv (pi (atF g out x c))),(10,.pv (pi ((c:Int) - 1)))])
      (fun c=>[(10,.mrow 3 1 (out.map pi)),(1,.cell (.pv (zG (mAt g x))))]) (fun c=>c≤out.length) (fun c=>c) out.length (by omega)
      (by rw [zta];repeat (first|exact zT|refine zM rfl ?_|(refine qg rfl ?_ ?_;· (rw [wrap_in (by simp;omega) (by simp;omega)];simp)))) tH ?_
     rintro c hc
     cases c with
     | zero =>
      have hr:=zpw (g:=g) (out:=out) (m:=x) 0
      obtain ⟨a,ha⟩:∃ a,a=atF g out x 0:=⟨_,rfl⟩
      rw [←ha] at hs hr ⊢
      rcases hr with rfl|⟨ha0,ha1⟩
      ·rw [if_pos (by simp)] at hs
       repeat' (first|(refine shC ?_;first|refine qC b8 ?_)|(refine shX ?_;first|refine qX hex ?_)|(refine zI ?_;first|refine Qj zh rfl rfl rfl rfl rfl rfl rfl (by show _ * 8≤_;simp;omega) (by simp;omega) rfl rfl ?_)|refine sK ?_|refine sC (fun _=>?_) (fun _=>?_)|fail)
       exact ⟨k + 1,hlt,tD,tS,⟨qO rfl (by rw [hs];simp) zl,rfl⟩⟩
      ·have hd:decide (a < 0)=false:=decide_eq_false (by omega)
       rw [hd] at hs
       cases hf:fresh g x
       ·rw [show zW (mAt g x).flags 8=false from hf] at b8
        rw [hf,if_neg (by simp)] at hs
        have hal:a.toNat < (out.map pi).length:=by rw [List.length_map];exact ha1
        have hap:(out.map pi)[a.toNat]?=some (pi out[a.toNat]):=qE ha1
        repeat' (first|(refine shC ?_;first|refine qC b8 ?_)|(refine shX ?_;first|refine qX hex ?_|refine zu rfl (zQ (k:=a.toNat) zh rfl rfl rfl rfl rfl rfl rfl (by omega) hal) rfl rfl ?_|refine AD.step _ _ _ _ _ rfl (zQ (k:=a.toNat) zh rfl rfl rfl rfl rfl rfl rfl (by omega) hal) rfl rfl ?_)|(refine Yw ?_;first|refine VB (k:=a.toNat) (j:=0) zh rfl rfl rfl rfl rfl hap rfl rfl rfl rfl rfl ?_)|refine sK ?_|refine sC (fun _=>?_) (fun _=>?_)|fail)
        exact ⟨k + 1,hlt,tD,tS,⟨qO rfl (by rw [hs,List.map_set]) zl,rfl⟩⟩
       ·rw [show zW (mAt g x).flags 8=true from hf] at b8
        rw [hf,if_pos (by simp)] at hs
        repeat' (first|(refine shC ?_;first|refine qC b8 ?_)|(refine shX ?_;first|refine qX hex ?_)|(refine zI ?_;first|refine Qj zh rfl rfl rfl rfl rfl rfl rfl (by show _ * 8≤_;simp;omega) (by simp;omega) rfl rfl ?_)|refine sK ?_|refine sC (fun _=>?_) (fun _=>?_)|fail)
        exact ⟨k + 1,hlt,tD,tS,⟨qO rfl (by rw [hs];simp) zl,rfl⟩⟩
     | succ c =>
      have hcl:c < out.length:=by omega
      have hcl':c < (out.map pi).length:=by rw [List.length_map];exact hcl
      have hcp:(out.map pi)[c]?=some (pi out[c]):=by simp [hcl]
      have hst:=zq8 (g:=g) (m:=x) hcl
      have hcm:=hom _ (List.getElem_mem hcl)
      have hcg:=ZR hcm
      have ca:=zf6 (mAt g out[c]) (mAt g x)
      cases ha:alk g out[c] x
      ·rw [show zbC (mAt g out[c]) (mAt g x)=false from ha] at ca
       rw [ha,if_neg (by simp)] at hst
       repeat' (first|refine zu rfl (yj (k:=c) (j:=0) zh rfl rfl rfl rfl hcp rfl) rfl rfl ?_|refine AD.step _ _ _ _ _ rfl (yj (k:=c) (j:=0) zh rfl rfl rfl rfl hcp rfl) rfl rfl ?_|(refine shC ?_;first|refine qC ca ?_)|(refine shX ?_;first|refine zu rfl (zQ (k:=c) zh rfl rfl rfl rfl rfl rfl rfl (by push_cast;omega) hcl') rfl rfl ?_|refine AD.step _ _ _ _ _ rfl (zQ (k:=c) zh rfl rfl rfl rfl rfl rfl rfl (by push_cast;omega) hcl') rfl rfl ?_|refine zu rfl (zk zh rfl rfl rfl rfl rfl rfl hcm.1 hcg) rfl rfl ?_|refine AD.step _ _ _ _ _ rfl (zk zh rfl rfl rfl rfl rfl rfl hcm.1 hcg) rfl rfl ?_)|refine sK ?_|refine sC (fun _=>?_) (fun _=>?_)|fail)
       exact ⟨c,by omega,tD,tSO,tH⟩
      ·rw [show zbC (mAt g out[c]) (mAt g x)=true from ha] at ca
       rw [ha,if_pos rfl] at hst
       repeat' (first|refine zu rfl (yj (k:=c) (j:=0) zh rfl rfl rfl rfl hcp rfl) rfl rfl ?_|refine AD.step _ _ _ _ _ rfl (yj (k:=c) (j:=0) zh rfl rfl rfl rfl hcp rfl) rfl rfl ?_|(refine shC ?_;first|refine qC ca ?_)|(refine shX ?_;first|refine zu rfl (zQ (k:=c) zh rfl rfl rfl rfl rfl rfl rfl (by push_cast;omega) hcl') rfl rfl ?_|refine AD.step _ _ _ _ _ rfl (zQ (k:=c) zh rfl rfl rfl rfl rfl rfl rfl (by push_cast;omega) hcl') rfl rfl ?_|refine zu rfl (zk zh rfl rfl rfl rfl rfl rfl hcm.1 hcg) rfl rfl ?_|refine AD.step _ _ _ _ _ rfl (zk zh rfl rfl rfl rfl rfl rfl hcm.1 hcg) rfl rfl ?_)|refine sK ?_|refine sC (fun _=>?_) (fun _=>?_)|fail)
       exact ⟨c,by omega,tD,tSO,tH⟩
   ·have hk2:k=(methodsOf g t).length:=by omega
    subst hk2
    rw [List.take_length,←zkU hW ht]
    repeat' (first|refine zaa 10 rfl ?_|refine sK ?_|refine sC (fun _=>?_) (fun _=>?_)|fail)
    exact retq rfl rfl
set_option maxHeartbeats 20000000
theorem Vs {g:Img} (hf:zJ g=true) {a:Int} (h:mOk g a):0≤(mAt g a).flags∧(mAt g a).flags≤31:=zaM (zcU hf h.2)
theorem zoO {g:Img} (hf:zJ g=true) {a b:Int} (ha:mOk g a) (hb:mOk g b):zit (mAt g a) (mAt g b)=alk g a b:=by
 have h1:=Vs hf ha
 have h2:=Vs hf hb
 exact zrx h1.1 h1.2 h2.1 h2.2
theorem znr (g:Img) (hf:zJ g=true) (x m:Int) (hx:mOk g x) (hm:mOk g m):ACall Tryz.prog 226 ([]++[pi x]++[.ptr (zq g) 0,.ptr (pi m) 0]) (pb (alk g x m)):=by
 show ACall Tryz.prog 226 [pi x,.ptr (zq g) 0,.ptr (pi m) 0] (pb (alk g x m))
 refine zf zh Tryz.func226 rfl (by kernel_rfl) Tryz.ntmps226 (by simp) _ rfl (fun hw gB hgB=>?_)
 have e1:=ZR hx
 have e2:=ZR hm
 have c1:=zgj (mAt g x) (mAt g m)
 rw [zoO hf hx hm] at c1
 repeat' (first|(refine shC ?_;first|refine qC c1 ?_)|(refine shX ?_;first|refine zu rfl (zk zh rfl rfl rfl rfl rfl rfl hx.1 e1) rfl rfl ?_|refine AD.step _ _ _ _ _ rfl (zk zh rfl rfl rfl rfl rfl rfl hx.1 e1) rfl rfl ?_|refine zu rfl (zk zh rfl rfl rfl rfl rfl rfl hm.1 e2) rfl rfl ?_|refine AD.step _ _ _ _ _ rfl (zk zh rfl rfl rfl rfl rfl rfl hm.1 e2) rfl rfl ?_)|refine sA ?_|refine sC (fun _=>?_) (fun _=>?_)|fail)
 exact retq rfl rfl
abbrev slH (out:List Int):HEnv:=[(0,.cell (.agg [.own 7])),(7,.mrow 3 1 (out.map pi))]
theorem zno (g:Img) (hf:zJ g=true) (out:List Int) (m:Int) (ho:∀ x∈out,mOk g x) (hm:mOk g m) (us:Nat→Value):ACallM Tryz.prog 176 [.box 0 0,.pv (zq g),.pv (pi m)] (slH out++yP us [0]) (.pv (pi (zc6 out (fun x=>alk g x m)))) (slH out++yP us [0]):=by
 refine qA zh Tryz.func176 rfl (by kernel_rfl) Tryz.ntmps176 (by simp) _ rfl (fun gB hw1=>?_)
 have c1:=zad out (fun x=>alk g x m) 226 [] [.ptr (zq g) 0,.ptr (pi m) 0] (fun x hx=>znr g hf x m (ho x hx) hm)
 repeat' (first|(refine zL ?_;first|refine zrk rfl rfl rfl c1 rfl rfl ?_)|refine sA ?_|refine sC (fun _=>?_) (fun _=>?_)|fail)
 exact ⟨.inr rfl,.inl ⟨_,rfl,rfl,⟨by repeat (first|exact zl|refine zn rfl ?_),rfl⟩⟩⟩
theorem zqr (out:List Int) (m:Int) (ho:out.length≤5000) (us:Nat→Value):ACallM Tryz.prog 177 [.box 0 0,.pv (pi m)] (slH out++yP us [0]) (.pv (.tup [])) (slH (out++[m])++yP us [0]):=by
 refine qA zh Tryz.func177 rfl (by kernel_rfl) Tryz.ntmps177 (by simp) _ rfl (fun gB hw1=>?_)
 repeat' (first|(refine zI ?_;first|refine Qj zh rfl rfl rfl rfl rfl rfl rfl (by show _ * 8≤_;simp;omega) (by simp;omega) rfl rfl ?_)|refine sA ?_|refine sC (fun _=>?_) (fun _=>?_)|fail)
 exact ⟨.inl rfl,.inl ⟨[],rfl,rfl,⟨zn rfl (qO rfl (by simp) (by repeat (first|exact zl|refine zn rfl ?_))),rfl⟩⟩⟩
theorem zmC {g:Img} {out:List Int} {m:Int} (hv:Vd g m=true):Ym g out m=if decide (0≤zc6 out (fun x=>alk g x m))&&!fresh g m then out.set (zc6 out (fun x=>alk g x m)).toNat m else out++[m]:=by
 rw [Ym,if_pos hv,zc6]
 cases out.any (fun x=>alk g x m) <;> cases fresh g m <;> simp
theorem znB {l:List Int} {p:Int→Bool}:zc6 l p = -1∨(0≤zc6 l p∧(zc6 l p).toNat < l.length):=by
 rw [zc6]
 split
 ·rename_i h
  right
  obtain ⟨x,hx,hp⟩:=List.any_eq_true.1 h
  have:=List.findIdx_lt_length_of_exists (p:=p) ⟨x,hx,hp⟩
  omega
 ·exact .inl rfl
def zoZ (g:Img):List PV:=[.slc 4 (g.types.map Zb) false,.slc 7 (g.fields.map Yc) false,.slc 12 (g.methods.map zG) false,pi g.entry]
abbrev zdY (g:Img):AV:=.agg [.box 0 0,.pv (.slc 4 (g.types.map Zb) false),.pv (.slc 7 (g.fields.map Yc) false),.pv (.slc 12 (g.methods.map zG) false),.pv (pi g.entry)]
theorem zeP {P:Prop}:false=true→P:=fun h=>nomatch h
theorem zoh (g:Img) (hF:Fine g) (out:List Int) (u:Int) (ho:∀ x∈out,mOk g x) (hol0:out.length≤2048) (us:Nat→Value) :
  ACallM Tryz.prog 130 [zdY g,.pv (pi u)] (slH out++yP us [0]) (.pv (.tup [])) (slH (Zk g out (methodsOf g u))++yP us [0]):=by
 have hgm:g.methods.length≤64:=(zF hF.formed).2.2.1
 have c3:=YR g u (by omega)
 have hml:=qP g u
 refine qA zh Tryz.func130 rfl (by kernel_rfl) Tryz.ntmps130 (by simp) _ rfl (fun gB hw1=>?_)
 repeat' (first|refine zu rfl (zU (ps:=zoZ g) zh rfl rfl rfl rfl rfl) rfl rfl ?_|(refine shC ?_;first|refine qC c3 ?_)|(refine Xg ?_;first|refine zar 2 rfl rfl rfl rfl rfl rfl ?_)|refine sA ?_|refine sC (fun _=>?_) (fun _=>?_)|fail)
 refine zo (fun k:Nat=>[(2,.box 2 0),(11,.pv (ints (methodsOf g u))),(12,.pv (pi (methodsOf g u).length)),(13,.pv (pi k))])
  (fun k=>[(0,.cell (.agg [.own 7])),(7,.mrow 3 1 ((Zk g out ((methodsOf g u).take k)).map pi)),(2,.cell (zdY g)),(1000,.pin (.own 0) (us 0))])
  (fun k=>k≤(methodsOf g u).length) (fun k=>(methodsOf g u).length - k) 0 (by omega) (tS) ⟨zn rfl (qO rfl rfl (by repeat (first|exact zl|refine zn rfl ?_))),rfl⟩ ?_
 rintro k hk
 by_cases hlt:k < (methodsOf g u).length
 ·obtain ⟨x,hx⟩:∃ x,x=(methodsOf g u)[k]:=⟨_,rfl⟩
  have hex:((methodsOf g u).map pi)[k]?=some (pi x):=by rw [hx];exact zA (f:=pi) hlt
  have hmx:mOk g x:=by rw [hx];exact yx (List.getElem_mem hlt)
  have hem:=ZR hmx
  have hs:=zd6 g out _ k hlt
  rw [←hx] at hs
  obtain ⟨cur,hcu⟩:∃ o,o=Zk g out ((methodsOf g u).take k):=⟨_,rfl⟩
  have hcl:cur.length≤2112:=by
   have:=(WG g ((methodsOf g u).take k) out).2
   have h2:((methodsOf g u).take k).length≤64:=by simp;omega
   rw [hcu];omega
  have hcm:∀ y∈cur,mOk g y:=by
   intro y hy
   rw [hcu] at hy
   rcases zaD hy with hy|hy
   ·exact ho y hy
   ·exact yx (List.mem_of_mem_take hy)
  rw [←hcu] at hs ⊢
  have hfl:=Vs hF.formed hmx
  have hfe:=za2 hfl.1 hfl.2
  have b2:=QH (mAt g x) 2
  have b8:=QH (mAt g x) 8
  rw [hfe.2.1] at b2
  rw [hfe.2.2.2.1] at b8
  cases hv:Vd g x
  ·rw [show zW (mAt g x).flags 2=false from hv] at b2
   repeat' (first|(refine shC ?_;first|refine qC b2 ?_)|(refine shX ?_;first|refine qX hex ?_|refine zu rfl (zk zh rfl rfl rfl rfl rfl rfl hmx.1 hem) rfl rfl ?_|refine AD.step _ _ _ _ _ rfl (zk zh rfl rfl rfl rfl rfl rfl hmx.1 hem) rfl rfl ?_)|refine sK ?_|refine sC (fun _=>?_) (fun _=>?_)|fail)
   exact ⟨k + 1,hlt,tD,tS,⟨zn rfl (qO rfl (by rw [hs,Ym,hv];rfl) (by repeat (first|exact zl|refine zn rfl ?_))),rfl⟩⟩
  ·rw [show zW (mAt g x).flags 2=true from hv] at b2
   rw [zmC hv] at hs
   have cF:=fun us=>zno g hF.formed cur x hcm hmx us
   have cP:=fun us=>zqr cur x (by omega) us
   have hr:=znB (l:=cur) (p:=fun y=>alk g y x)
   obtain ⟨a,ha⟩:∃ a,a=zc6 cur (fun y=>alk g y x):=⟨_,rfl⟩
   simp only [←ha] at cF
   rw [←ha] at hs hr
   rcases hr with rfl|⟨ha0,ha1⟩
   ·rw [if_neg (by simp)] at hs
    repeat' (first|refine zu rfl (zU (ps:=zoZ g) zh rfl rfl rfl rfl rfl) rfl rfl ?_|(refine shC ?_;first|refine qC b2 ?_|refine qC b8 ?_)|(refine shX ?_;first|refine qX hex ?_|refine zu rfl (zk zh rfl rfl rfl rfl rfl rfl hmx.1 hem) rfl rfl ?_|refine AD.step _ _ _ _ _ rfl (zk zh rfl rfl rfl rfl rfl rfl hmx.1 hem) rfl rfl ?_)|(refine zL ?_;first|refine yA (slH cur) (slH cur) [(2,.cell (zdY g)),(1,.cell (.pv (zG (mAt g x)))),(1000,.pin (.own 0) (us 0))] [(2,.box 2 0),(5,.pv (pi x)),(6,.box 1 0),(11,.pv (ints (methodsOf g u))),(12,.pv (pi (methodsOf g u).length)),(13,.pv (pi k))] [0] zeP rfl rfl rfl (by repeat (first|exact zl|refine zn rfl ?_)) tS rfl rfl rfl cF ?_|refine yA (slH cur) (slH (cur++[x])) [(2,.cell (zdY g)),(1000,.pin (.own 0) (us 0))] [(2,.box 2 0),(11,.pv (ints (methodsOf g u))),(12,.pv (pi (methodsOf g u).length)),(13,.pv (pi k))] [0] zeP rfl rfl rfl (by repeat (first|exact zl|refine zn rfl ?_)) tS rfl rfl rfl cP ?_)|refine sK ?_|refine sC (fun _=>?_) (fun _=>?_)|fail)
    exact ⟨k + 1,hlt,tD,tS,⟨zn rfl (qO rfl (by rw [hs]) (by repeat (first|exact zl|refine zn rfl ?_))),rfl⟩⟩
   ·have hd:decide (0≤a)=true:=decide_eq_true ha0
    rw [hd] at hs
    cases hf:fresh g x
    ·rw [show zW (mAt g x).flags 8=false from hf] at b8
     rw [hf,if_pos (by simp)] at hs
     have hal:a.toNat < (cur.map pi).length:=by rw [List.length_map];exact ha1
     have hap:(cur.map pi)[a.toNat]?=some (pi cur[a.toNat]):=qE ha1
     repeat' (first|refine zu rfl (zU (ps:=zoZ g) zh rfl rfl rfl rfl rfl) rfl rfl ?_|(refine shC ?_;first|refine qC b2 ?_|refine qC b8 ?_)|(refine shX ?_;first|refine qX hex ?_|refine zu rfl (zk zh rfl rfl rfl rfl rfl rfl hmx.1 hem) rfl rfl ?_|refine AD.step _ _ _ _ _ rfl (zk zh rfl rfl rfl rfl rfl rfl hmx.1 hem) rfl rfl ?_|refine zu rfl (zQ (k:=a.toNat) zh rfl rfl rfl rfl rfl rfl rfl (by omega) hal) rfl rfl ?_|refine AD.step _ _ _ _ _ rfl (zQ (k:=a.toNat) zh rfl rfl rfl rfl rfl rfl rfl (by omega) hal) rfl rfl ?_)|(refine zL ?_;first|refine yA (slH cur) (slH cur) [(2,.cell (zdY g)),(1,.cell (.pv (zG (mAt g x)))),(1000,.pin (.own 0) (us 0))] [(2,.box 2 0),(5,.pv (pi x)),(6,.box 1 0),(11,.pv (ints (methodsOf g u))),(12,.pv (pi (methodsOf g u).length)),(13,.pv (pi k))] [0] zeP rfl rfl rfl (by repeat (first|exact zl|refine zn rfl ?_)) tS rfl rfl rfl cF ?_)|(refine Yw ?_;first|refine VB (k:=a.toNat) (j:=0) zh rfl rfl rfl rfl rfl hap rfl rfl rfl rfl rfl ?_)|refine sK ?_|refine sC (fun _=>?_) (fun _=>?_)|fail)
     exact ⟨k + 1,hlt,tD,tS,⟨zn rfl (qO rfl (by rw [hs,List.map_set]) (by repeat (first|exact zl|refine zn rfl ?_))),rfl⟩⟩
    ·rw [show zW (mAt g x).flags 8=true from hf] at b8
     rw [hf,if_neg (by simp)] at hs
     repeat' (first|refine zu rfl (zU (ps:=zoZ g) zh rfl rfl rfl rfl rfl) rfl rfl ?_|(refine shC ?_;first|refine qC b2 ?_|refine qC b8 ?_)|(refine shX ?_;first|refine qX hex ?_|refine zu rfl (zk zh rfl rfl rfl rfl rfl rfl hmx.1 hem) rfl rfl ?_|refine AD.step _ _ _ _ _ rfl (zk zh rfl rfl rfl rfl rfl rfl hmx.1 hem) rfl rfl ?_)|(refine zL ?_;first|refine yA (slH cur) (slH cur) [(2,.cell (zdY g)),(1,.cell (.pv (zG (mAt g x)))),(1000,.pin (.own 0) (us 0))] [(2,.box 2 0),(5,.pv (pi x)),(6,.box 1 0),(11,.pv (ints (methodsOf g u))),(12,.pv (pi (methodsOf g u).length)),(13,.pv (pi k))] [0] zeP rfl rfl rfl (by repeat (first|exact zl|refine zn rfl ?_)) tS rfl rfl rfl cF ?_|refine yA (slH cur) (slH (cur++[x])) [(2,.cell (zdY g)),(1000,.pin (.own 0) (us 0))] [(2,.box 2 0),(11,.pv (ints (methodsOf g u))),(12,.pv (pi (methodsOf g u).length)),(13,.pv (pi k))] [0] zeP rfl rfl rfl (by repeat (first|exact zl|refine zn rfl ?_)) tS rfl rfl rfl cP ?_)|refine sK ?_|refine sC (fun _=>?_) (fun _=>?_)|fail)
     exact ⟨k + 1,hlt,tD,tS,⟨zn rfl (qO rfl (by rw [hs]) (by repeat (first|exact zl|refine zn rfl ?_))),rfl⟩⟩
 ·have hk2:k=(methodsOf g u).length:=by omega
  subst hk2
  rw [List.take_length]
  repeat' (first|refine sK ?_|refine sC (fun _=>?_) (fun _=>?_)|fail)
  exact ⟨.inl rfl,.inl ⟨[],rfl,rfl,⟨by repeat (first|exact zl|refine zn rfl ?_),rfl⟩⟩⟩
set_option maxHeartbeats 2000000 in
theorem zhF (g:Img) (hF:Fine g) (t:Int):ACall Tryz.prog 92 [zq g,pi t] (ints (tbl g t)):=by
 obtain ⟨hgt,_,hgm,_⟩:=zF hF.formed
 have hui:=XR g t
 have hul:=qR _ _ hui.1 hui.2
 refine zjN zh Tryz.func92 rfl (by kernel_rfl) Tryz.ntmps92 (by simp) _ rfl (fun hw gB hgB hds=>?_)
 refine zhJ ?_
 repeat' (first|refine sA ?_|refine sC (fun _=>?_) (fun _=>?_)|fail)
 refine zhJ ?_
 repeat' (first|refine zu rfl (VL zh rfl ⟨_,rfl⟩ rfl rfl rfl rfl rfl rfl) rfl rfl ?_|(refine Xg ?_;first|refine zar 0 rfl rfl rfl rfl rfl rfl ?_)|refine sA ?_|refine sC (fun _=>?_) (fun _=>?_)|fail)
 refine zrY ?_
 refine zhJ ?_
 repeat' (first|refine zd0 0 7 0 3 1 (by decide) rfl rfl rfl rfl ?_|(refine shC ?_;first|refine zu rfl (qw rfl rfl (YM g t (by omega))) rfl rfl ?_|refine AD.step _ _ _ _ _ rfl (qw rfl rfl (YM g t (by omega))) rfl rfl ?_|refine qC (ziI _) ?_)|refine sA ?_|refine sC (fun _=>?_) (fun _=>?_)|fail)
 refine zpT ?_
 refine zpn (fun x=>.int .i64 x.1) (fun x=>.int .i64 x.2) (zqx (up g t) (by omega)) [(2,.pv (.ptr (zq g) 0)),(5,.box 1 0),(15,.pv (.fn (.func 174) [] [.ptr (ints (up g t)) 0]))]
  (fun pre=>[(0,.cell (.agg [.own 7])),(7,.mrow 3 1 ((zku g (pre.map (·.2))).map pi)),(1,.cell (zdY g))]) 100 hgB hds (fun _=>rfl) (fun _=>rfl) rfl (tS) rfl rfl rfl (by decide) ⟨by repeat (first|exact zl|refine zn rfl ?_),rfl⟩ (fun _=>rfl) (fun _=>rfl) rfl ?_ ?_
 ·intro g2 us pre x hlen
  rw [ze9] at hlen
  obtain ⟨cur,hcu⟩:∃ c,c=zku g (pre.map (·.2)):=⟨_,rfl⟩
  have hcl:cur.length≤2048:=by
   have h1:=zlC (g:=g) (pre.map (·.2))
   have h2:g.methods.length * (pre.map (·.2)).length≤64 * 32:=Nat.mul_le_mul hgm (by rw [List.length_map];omega)
   rw [hcu];omega
  have hcm:∀ y∈cur,mOk g y:=fun y hy=>zll (by rw [hcu] at hy;exact hy)
  have hs:zku g ((pre++[x]).map (·.2))=Zk g cur (methodsOf g x.2):=by rw [hcu,List.map_append,zku,List.foldl_append];rfl
  rw [←hcu]
  have cT:=fun us'=>zoh g hF cur x.2 hcm hcl us'
  repeat' (first|(refine zL ?_;first|refine yA (slH cur) (slH (Zk g cur (methodsOf g x.2))) ((1,.cell (zdY g))::yY us 100 [(2,.pv (.ptr (zq g) 0)),(5,.box 1 0),(15,.pv (.fn (.func 174) [] [.ptr (ints (up g t)) 0]))]) [] [0] zeP rfl rfl rfl (by repeat (first|exact zl|refine zn rfl ?_)) tS rfl rfl rfl cT ?_)|refine sA ?_|refine sC (fun _=>?_) (fun _=>?_)|fail)
  exact ⟨zn rfl (qO rfl (by rw [hs]) (by repeat (first|exact zl|refine zn rfl ?_))),rfl⟩
 ·intro g3
  repeat' (first|refine zaa 7 rfl ?_|refine sA ?_|refine sC (fun _=>?_) (fun _=>?_)|fail)
  exact ⟨rfl,retq rfl (by rw [zqn];rfl)⟩
set_option maxHeartbeats 20000000
theorem znC (g:Img) (hx:OkA g):ACall Tryz.prog 42 [zq g] (pb (zcm g)):=by
 refine zf zh Tryz.func42 rfl (by kernel_rfl) Tryz.ntmps42 (by simp) _ rfl (fun hw gB hgB=>?_)
 repeat' (first|(refine shC ?_;first|refine qC (zlh g hx) ?_)|refine sA ?_|refine sC (fun _=>?_) (fun _=>?_)|fail)
 exact retq rfl rfl
def Qw (g:Img) (m:Int):Int:=(mAt g m).owner
def ZV (g:Img) (m:Int):Int:=if Vd g m&&zB g (Qw g m)==0 then idx (tbl g (Qw g m)) m else -1
theorem zuk {g:Img} (hF:Fine g) {m:Int} (hm:mOk g m):ACall Tryz.prog 82 [zG (mAt g m),pi 2] (pb (Vd g m)):=by
 have h:=Vs hF.formed hm
 have c:=QH (mAt g m) 2
 rwa [(za2 h.1 h.2).2.1] at c
theorem znl (g:Img) (hF:Fine g) (m:Int) (hm:mOk g m):ACall Tryz.prog 183 [zq g,pi m] (pi (ZV g m)):=by
 have hem:=ZR hm
 have c1:=zuk hF hm
 have c2:=Zr g hF.formed (mAt g m).owner
 have c3:=zhF g hF (mAt g m).owner
 have c4:=zhq (tbl g (mAt g m).owner) m
 refine zf zh Tryz.func183 rfl (by kernel_rfl) Tryz.ntmps183 (by simp) _ rfl (fun hw gB hgB=>?_)
 cases hv:Vd g m
 ·rw [hv] at c1
  repeat' (first|(refine shC ?_;first|refine qC c1 ?_)|(refine shX ?_;first|refine zu rfl (zk zh rfl rfl rfl rfl rfl rfl hm.1 hem) rfl rfl ?_|refine AD.step _ _ _ _ _ rfl (zk zh rfl rfl rfl rfl rfl rfl hm.1 hem) rfl rfl ?_)|refine sK ?_|refine sC (fun _=>?_) (fun _=>?_)|fail)
  exact retq rfl (by simp [zi,ZV,hv])
 ·rw [hv] at c1
  by_cases hk:zB g (mAt g m).owner=0
  ·rw [hk] at c2
   repeat' (first|(refine shC ?_;first|refine qC c1 ?_|refine qC c2 ?_|refine qC c3 ?_|refine qC c4 ?_)|(refine shX ?_;first|refine zu rfl (zk zh rfl rfl rfl rfl rfl rfl hm.1 hem) rfl rfl ?_|refine AD.step _ _ _ _ _ rfl (zk zh rfl rfl rfl rfl rfl rfl hm.1 hem) rfl rfl ?_)|refine sK ?_|refine sC (fun _=>?_) (fun _=>?_)|fail)
   exact retq rfl (by simp [zi,ZV,hv,Qw,hk])
  ·have hkb:(zB g (mAt g m).owner != 0)=true:=by simp [hk]
   repeat' (first|(refine shC ?_;first|refine qC c1 ?_|refine qC c2 ?_)|(refine shX ?_;first|refine zu rfl (zk zh rfl rfl rfl rfl rfl rfl hm.1 hem) rfl rfl ?_|refine AD.step _ _ _ _ _ rfl (zk zh rfl rfl rfl rfl rfl rfl hm.1 hem) rfl rfl ?_)|refine sK ?_|refine sC (fun _=>?_) (fun _=>?_)|fail)
   exact retq rfl (by simp [zi,ZV,hv,Qw,hk])
theorem znQ (g:Img) (hF:Fine g) (m:Int) (hm:mOk g m):ACall Tryz.prog 151 [zq g,pi m] (pi (ZV g m)):=by
 have hem:=ZR hm
 have c1:=Vq (mAt g m)
 rw [show zW (mAt g m).flags 2=Vd g m from rfl] at c1
 have c2:=qh g (mAt g m).owner
 have c3:=zdD g hF _ (mAt g m).owner (Nat.le_refl _)
 refine zf zh Tryz.func151 rfl (by kernel_rfl) Tryz.ntmps151 (by simp) _ rfl (fun hw gB hgB=>?_)
 cases hv:Vd g m
 ·rw [hv] at c1
  repeat' (first|(refine shC ?_;first|refine qC c1 ?_)|(refine shX ?_;first|refine zu rfl (zk zh rfl rfl rfl rfl rfl rfl hm.1 hem) rfl rfl ?_|refine AD.step _ _ _ _ _ rfl (zk zh rfl rfl rfl rfl rfl rfl hm.1 hem) rfl rfl ?_)|refine sK ?_|refine sC (fun _=>?_) (fun _=>?_)|fail)
  exact retq rfl (by simp [zi,ZV,hv])
 ·rw [hv] at c1
  by_cases hk:zB g (mAt g m).owner=0
  ·rw [hk] at c2
   obtain ⟨l,hl⟩:∃ l,l=tbl g (mAt g m).owner:=⟨_,rfl⟩
   have hs:ZV g m=idx l m:=by rw [ZV,hv,Qw,hk,hl];rfl
   have hll:=zkp hF (mAt g m).owner
   rw [←hl] at c3 hll
   repeat' (first|(refine shC ?_;first|refine qC c1 ?_|refine qC c2 ?_|refine qC c3 ?_)|(refine shX ?_;first|refine zu rfl (zk zh rfl rfl rfl rfl rfl rfl hm.1 hem) rfl rfl ?_|refine AD.step _ _ _ _ _ rfl (zk zh rfl rfl rfl rfl rfl rfl hm.1 hem) rfl rfl ?_)|refine sK ?_|refine sC (fun _=>?_) (fun _=>?_)|fail)
   refine zo (fun k:Nat=>[(1,.pv (pi m)),(6,.pv (ints l)),(7,.pv (pi k))]) (fun _=>[]) (fun k=>k≤l.length∧∀ j (h:j < k) (h2:j < l.length),l[j]≠m) (fun k=>l.length - k) 0 ⟨by omega,fun j h=>by omega⟩ (tS) tH ?_
   rintro k ⟨hk2,hno⟩
   by_cases hlt:k < l.length
   ·have he:(l.map pi)[k]?=some (pi l[k]):=zA (f:=pi) hlt
    by_cases hx:l[k]=m
    ·have hxb:(l[k]==m)=true:=by simp [hx]
     have hi:l.findIdx (· == m)=k:=by
      rw [List.findIdx_eq hlt]
      exact ⟨hxb,fun j hj=>by have:=hno j hj (by omega);simpa using this⟩
     repeat' (first|(refine shX ?_;first|refine qX he ?_)|refine sK ?_|refine sC (fun _=>?_) (fun _=>?_)|fail)
     exact retq rfl (by rw [hs,idx,if_pos (by rw [←hx];exact List.getElem_mem hlt),hi];rfl)
    ·have hxb:(l[k]==m)=false:=by simp [hx]
     repeat' (first|(refine shX ?_;first|refine qX he ?_)|refine sK ?_|refine sC (fun _=>?_) (fun _=>?_)|fail)
     exact ⟨k + 1,⟨hlt,fun j hj h2=>by
      by_cases e:j=k
      ·subst e;exact hx
      ·exact hno j (by omega) h2⟩,tD,tS,tH⟩
   ·repeat' (first|refine sK ?_|refine sC (fun _=>?_) (fun _=>?_)|fail)
    exact retq rfl (by
     rw [hs,idx,if_neg]
     ·rfl
     ·intro h
      obtain ⟨j,hj,e⟩:=List.getElem_of_mem h
      exact hno j (by omega) hj e)
  ·have hkb:(zB g (mAt g m).owner != 0)=true:=by simp [hk]
   repeat' (first|(refine shC ?_;first|refine qC c1 ?_|refine qC c2 ?_)|(refine shX ?_;first|refine zu rfl (zk zh rfl rfl rfl rfl rfl rfl hm.1 hem) rfl rfl ?_|refine AD.step _ _ _ _ _ rfl (zk zh rfl rfl rfl rfl rfl rfl hm.1 hem) rfl rfl ?_)|refine sK ?_|refine sC (fun _=>?_) (fun _=>?_)|fail)
   exact retq rfl (by simp [zi,ZV,hv,Qw,hk])
theorem zqI {g:Img} (hW:Wl g) {t:Int} {td:TD} (h:typeAt g t=some td) (he:0≤td.ext):zB g t=0∧zB g td.ext=0:=by
 refine ⟨?_,(hW.extk h).resolve_left (by omega)⟩
 have hfl:=hW.flag t td h
 rw [zB,h]
 simp only
 have hne:(td.ext == -1)=false:=by simp;omega
 have hr:XF td.flags=2∨XF td.flags=1∨XF td.flags=3∨XF td.flags=0:=by
  unfold XF
  cases zW td.flags 2 <;> cases zW td.flags 1 <;> cases zW td.flags 16 <;> simp
 rw [ql,hne] at hfl
 rcases hr with h1|h1|h1|h1
 ·rw [h1] at hfl;simp at hfl
 ·rw [h1] at hfl;simp at hfl
 ·rw [h1] at hfl;simp at hfl
 ·exact h1
theorem zmH {g:Img} (hW:Wl g):∀ (l:List Int) (t:Int),up g t=l→zB g t=0→∀ u∈l,zB g u=0
 | [],t,h,hk,u,hu=>by cases hu
 | x::l,t,h,hk,u,hu=>by
  cases ht:typeAt g t with
  | none=>rw [up_nil ht] at h;cases h
  | some td =>
   rw [hW.up_cons ht] at h
   injection h with e1 e2
   subst e1
   rcases List.mem_cons.1 hu with rfl|hu
   ·exact hk
   ·have h0:0≤td.ext:=by
     cases hte:typeAt g td.ext with
     | none=>rw [up_nil hte] at e2;subst e2;cases hu
     | some td2=>exact (XJ hte).1
    exact zmH hW l td.ext e2 (zqI hW ht h0).2 u hu
theorem zfU (f:Int):0≤XF f:=by
 unfold XF
 cases zW f 2 <;> cases zW f 1 <;> cases zW f 16 <;> simp
def zix (g:Img) (t:Ty):Bool:=(t.kind != 5&&t.kind != 6)||(t.kind==6&&zB g t.index==1)||(t.kind==5&&zB g t.index != 1)
theorem zsJ {g:Img} {t:Ty} (hp:Zj t=true) (ho:zeW t g.types.length=true):zix g t=yN g t:=by
 have hk:=zcy g t.index
 have hn:(t.kind=5∨t.kind=6)→zB g t.index ≠ -1:=by
  intro h
  have h0:0≤t.index:=by
   rw [Zj] at hp
   split at hp
   ·cases hp
   ·rename_i hh;simp at hh;omega
  have h1:t.index < g.types.length:=by
   rw [zeW] at ho
   rcases h with h|h <;> simpa [h] using ho
  obtain ⟨td,htd⟩:=ZF ⟨h0,h1⟩
  rw [zB,htd]
  have:=zfU td.flags
  simp only;omega
 rw [zix,yN,hp]
 generalize zB g t.index=k at hk hn
 by_cases h5:t.kind=5
 ·have:=hn (.inl h5)
  rcases hk with rfl|rfl|rfl|rfl|rfl <;> simp_all
 ·by_cases h6:t.kind=6
  ·have:=hn (.inr h6)
   rcases hk with rfl|rfl|rfl|rfl|rfl <;> simp_all
  ·have e5:(t.kind==5)=false:=beq_eq_false_iff_ne.2 h5
   have e6:(t.kind==6)=false:=beq_eq_false_iff_ne.2 h6
   simp only [bne,e5,e6];rfl
theorem VG {t:Ty} {p n:Int} (h:Qm t p n=true):Zj t=true∧zeW t n=true:=by
 rw [Qm,Bool.and_eq_true] at h
 refine ⟨?_,h.2⟩
 have:=h.1
 rw [Ze] at this
 cases hp:Zj t
 ·rw [hp] at this;simp at this
 ·rfl
def zrd (m:Me):List Ty:=(m.code.filter fun x=>zN x.op==8).map (·.t)
def zou (m:Me):List Ty:=(m.clauses.filter fun c=>c.kind==1).map (·.t)
def zcw (m:Me):List Ty:=m.params++m.locals++[m.ret]++zrd m++zou m
def XP (g:Img) (m:Me):Bool:=yN g m.ret&&m.params.all (yN g)&&m.locals.all (yN g)&&m.code.all (fun x=>zN x.op != 8||yN g x.t)&&m.clauses.all (fun c=>c.kind != 1||yN g c.t)
theorem zlV {α:Type} {l:List α} {p:α→Bool} {f:α→Ty} {q:Ty→Bool}:((l.filter p).map f).all q=l.all fun x=>!p x||q (f x):=by
 induction l with
 | nil=>rfl
 | cons x l ih =>
  rw [List.filter_cons]
  cases h:p x <;> simp [h,ih]
theorem zqS {g:Img} {m:Me} (h:yV g m=true):(zcw m).all (zix g)=XP g m:=by
 simp only [yV,Zf,Bool.and_eq_true,List.all_eq_true,qQ,codeOk] at h
 obtain ⟨⟨⟨⟨_,hr⟩,hp⟩,hl⟩,⟨⟨_,hc⟩,hk⟩,_⟩:=h
 have e:(zcw m).all (zix g)=(zcw m).all (yN g):=by
  rw [Bool.eq_iff_iff,List.all_eq_true,List.all_eq_true]
  have:∀ t∈zcw m,zix g t=yN g t:=by
   intro t ht
   have key:Zj t=true∧zeW t g.types.length=true:=by
    simp only [zcw,zrd,zou,List.mem_append,List.mem_singleton,List.mem_map,List.mem_filter] at ht
    rcases ht with (((ht|ht)|rfl)|⟨x,⟨hx,ho⟩,rfl⟩)|⟨c,⟨hx,ho⟩,rfl⟩
    ·exact VG (hp t ht)
    ·exact VG (hl t ht)
    ·exact VG hr
    ·have h1:=hc x hx
     rw [beq_iff_eq] at ho
     obtain ⟨hf,h2⟩:=h1
     rw [ho] at h2
     refine ⟨?_,by simpa using h2⟩
     rw [beq_iff_eq,Qy] at hf
     cases hpx:Zj x.t
     ·have hw:Ze x.t 1=false:=by rw [Ze,hpx];rfl
      split at hf
      ·omega
      ·split at hf
       ·omega
       ·split at hf
        ·omega
        ·rw [if_pos ⟨ho,hw⟩] at hf;omega
     ·rfl
    ·have h1:=hk c hx
     rw [beq_iff_eq] at ho
     rw [ho] at h1
     simp at h1
     exact VG h1
   exact zsJ key.1 key.2
  constructor
  ·intro h t ht;rw [←this t ht];exact h t ht
  ·intro h t ht;rw [this t ht];exact h t ht
 rw [e,zcw,List.all_append,List.all_append,List.all_append,List.all_append,zrd,zou,zlV,zlV,XP]
 have e1:(m.code.all fun x=>!(zN x.op==8)||yN g x.t)=m.code.all fun x=>zN x.op != 8||yN g x.t:=rfl
 have e2:(m.clauses.all fun c=>!(c.kind==1)||yN g c.t)=m.clauses.all fun c=>c.kind != 1||yN g c.t:=rfl
 rw [e1,e2]
 simp only [List.all_cons,List.all_nil,Bool.and_true]
 cases yN g m.ret <;> simp [Bool.and_assoc]
abbrev u64 (n:Int):PV:=.base (.int .u64 n)
def g0:Img:=⟨[],[],[],-1⟩
end Go.Cg
