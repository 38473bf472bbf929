/- A part of the walks by abstract values: no statement of its own. -/
import Derived.Test.YtdlokcmodgccnaaGreatU33
import Derived.Test.YtdlokcmodgccnaaGreatU29
import Derived.Test.YtdlokcmodgccnaaGreatU22
import Derived.Test.YtdlokcmodgccnaaGreatU7
import Derived.Test.YtdlokcmodgccnaaGreatU24
import Derived.Test.YtdlokcmodgccnaaGreatU3
import Derived.Test.YtdlokcmodgccnaaGreatU12
import Derived.Test.YtdlokcmodgccnaaGreatU17
set_option linter.unusedVariables false
set_option linter.unusedSimpArgs false
namespace Go.Cg
open Go.Proofs
theorem zoP (l:List Int):(WT l 0).map (·.2)=l.reverse:=by
 apply List.ext_getElem
 ·simp [WT]
 ·intro i h1 h2
  have hi:i < l.length:=by simpa [WT] using h1
  simp only [WT,List.getElem_map,List.getElem_range,List.getElem_reverse]
  rw [List.getD_eq_getElem?_getD,List.getElem?_eq_getElem (by omega),Option.getD_some]
set_option maxHeartbeats 20000000
theorem zmh (g:Img) (hwl:YZ g=true) (hu:Yl g=true) (t:Int):∃ r:Nat,Cnt 32 r (objT g t).length∧ACall Tryz.prog 123 [zT g,pi t] (pi (r:Nat)):=by
 have hf:=YL hwl
 have hgl:g.fields.length≤64:=by have:=(yH hf).2.1;omega
 have hgt:g.types.length≤32:=(yH hf).1
 have hui:=zb9 g t
 have hul:=Ya _ _ hui.1 hui.2
 let add:Nat→Fd→Nat:=fun r f=>if r≤32 then r + za0 g 32 f.ty else r
 let addU:Nat→Int→Nat:=fun r u=>(ZV g u).foldl add r
 have hadd:∀ (l:List Fd) (r s:Nat),r≤65→Cnt 32 r s→l.foldl add r≤65∧Cnt 32 (l.foldl add r) (s + (fcs g l).length):=by
  intro l
  induction l with
  | nil=>intro r s h1 h2;exact ⟨h1,by simpa [fcs] using h2⟩
  | cons f l ih =>
   intro r s h1 h2
   rw [List.foldl_cons,zd9,←Nat.add_assoc]
   have hcl:za0 g 32 f.ty≤33:=Nat.min_le_right _ _
   refine ih _ _ ?_ ?_
   ·simp only [add];split <;> omega
   ·simp only [add]
    split
    ·rename_i h;exact h2.add h
    ·rename_i h;exact h2.stay (by omega)
 have haddU:∀ (us:List Int) (r s:Nat),r≤65→Cnt 32 r s→us.foldl addU r≤65∧Cnt 32 (us.foldl addU r) (s + (us.map fun u=>(fcs g (ZV g u)).length).sum):=by
  intro us
  induction us with
  | nil=>intro r s h1 h2;exact ⟨h1,by simpa using h2⟩
  | cons u us ih =>
   intro r s h1 h2
   obtain ⟨k1,k2⟩:=hadd (ZV g u) r s h1 h2
   rw [List.foldl_cons,List.map_cons,List.sum_cons,←Nat.add_assoc]
   exact ih _ _ k1 k2
 obtain ⟨hb,hc⟩:=haddU (up g t) 0 0 (by omega) (Cnt.zero _)
 rw [Nat.zero_add,←zqr] at hc
 refine ⟨(up g t).foldl addU 0,hc,?_⟩
 clear hc
 refine zi zf Tryz.func123 rfl (by kernel_rfl) Tryz.ntmps123 (by simp) _ rfl (fun hw gB hgB=>?_)
 repeat' (first|(refine shC ?_;first|refine zx rfl (zI rfl rfl (Yp g t (by omega))) rfl rfl ?_|refine AD.step _ _ _ _ _ rfl (zI rfl rfl (Yp g t (by omega))) rfl rfl ?_)|refine sA ?_|refine sC (fun _=>?_) (fun _=>?_)|fail)
 refine zW (fun x:Nat × Nat=>[(2,.pv (.ptr (zT g) 0)),(5,.pv (pi x.2)),(12,.pv (ints (up g t))),(13,.pv (pi (up g t).length)),(14,.pv (pi x.1))]) (fun _=>[])
  (fun x=>x.1≤(up g t).length∧x.2≤65∧((up g t).drop x.1).foldl addU x.2=(up g t).foldl addU 0) (fun x=>(up g t).length - x.1) (0,0) ⟨by simp,by simp,rfl⟩ (tS) tH ?_
 rintro ⟨k,r⟩ ⟨hk,hr,hfd⟩
 simp only at hk hr hfd
 by_cases hlt:k < (up g t).length
 ·have heU:=YD hlt
  rw [zdd hlt] at hfd
  have hol:=zkw g (up g t)[k]
  repeat' (first|(refine shC ?_;first|refine qC (zkU g _ hf) ?_)|(refine shX ?_;first|refine qX heU ?_)|refine sK ?_|refine sC (fun _=>?_) (fun _=>?_)|fail)
  refine zW (fun x:Nat × Nat=>[(2,.pv (.ptr (zT g) 0)),(5,.pv (pi x.2)),(12,.pv (ints (up g t))),(13,.pv (pi (up g t).length)),(14,.pv (pi k)),(20,.pv (.slc 7 ((ZV g (up g t)[k]).map Yb) false)),(21,.pv (pi (ZV g (up g t)[k]).length)),(22,.pv (pi x.1))]) (fun _=>[])
   (fun x=>x.1≤(ZV g (up g t)[k]).length∧x.2≤65∧((ZV g (up g t)[k]).drop x.1).foldl add x.2=addU r (up g t)[k]) (fun x=>(ZV g (up g t)[k]).length - x.1) (0,r) ⟨by simp,hr,rfl⟩ (tS) tH ?_
  rintro ⟨m,s⟩ ⟨hm,hs,hfs⟩
  simp only at hm hs hfs
  by_cases hltm:m < (ZV g (up g t)[k]).length
  ·have he:=yj (f:=Yb) hltm
   rw [zdd hltm] at hfs
   have c1:=zgj g hwl hu 32 (by omega) (by omega) _ (ZV g (up g t)[k])[m].ty (zm7 hwl hu _)
   have hcl:za0 g 32 (ZV g (up g t)[k])[m].ty≤33:=Nat.min_le_right _ _
   simp only [add] at hfs
   generalize za0 g 32 (ZV g (up g t)[k])[m].ty=c at c1 hcl hfs
   by_cases hsb:s≤32
   ·rw [if_pos hsb] at hfs
    have hd1:decide ((s:Int)≤32)=true:=by simp;omega
    repeat' (first|(refine shC ?_;first|refine qC c1 ?_)|(refine shX ?_;first|refine qX he ?_)|refine sK ?_|refine sC (fun _=>?_) (fun _=>?_)|fail)
    exact ⟨(m + 1,s + c),⟨hltm,by simp only;omega,hfs⟩,tD,by repeat (first|exact yZ|refine yS rfl ?_|(refine Zn rfl ?_ ?_;· (first|(rw [wrap_in (by omega) (by omega)] <;> omega)|(dsimp only;rw [wrap_in (by omega) (by omega)] <;> (push_cast;omega))))),tH⟩
   ·rw [if_neg hsb] at hfs
    have hd1:decide ((s:Int)≤32)=false:=by simp;omega
    repeat' (first|(refine shX ?_;first|refine qX he ?_)|refine sK ?_|refine sC (fun _=>?_) (fun _=>?_)|fail)
    exact ⟨(m + 1,s),⟨hltm,hs,hfs⟩,tD,tS,tH⟩
  ·rw [drop_end (by omega)] at hfs
   simp only [List.foldl_nil] at hfs
   repeat' (first|refine sK ?_|refine sC (fun _=>?_) (fun _=>?_)|fail)
   exact ⟨(k + 1,s),⟨hlt,hs,by rw [hfs];exact hfd⟩,tD,tS,tH⟩
 ·rw [drop_end (by omega)] at hfd
  simp only [List.foldl_nil] at hfd
  repeat' (first|refine sK ?_|refine sC (fun _=>?_) (fun _=>?_)|fail)
  exact retq rfl (by rw [←hfd];rfl)
theorem znX {g:Img} {k:Nat} (h:k < g.fields.length):g.fields.getD k default=g.fields[k]:=zQ h
theorem zly (g:Img) (hx:OkA g):ACall Tryz.prog 81 [zT g] (.tup [pi (Xk g).1,pi (Xk g).2]):=by
 refine zi zf Tryz.func81 rfl (by kernel_rfl) Tryz.ntmps81 (by simp) _ rfl (fun hw gB hgB=>?_)
 have c0:=znk g hx
 cases hwl:YZ g
 ·rw [hwl] at c0
  repeat' (first|(refine shC ?_;first|refine qC c0 ?_)|refine sK ?_|refine sC (fun _=>?_) (fun _=>?_)|fail)
  exact retq rfl (by simp [zy,Xk,hwl])
 ·rw [hwl] at c0
  have hf:=YL hwl
  have hgl:g.fields.length≤64:=by have:=(yH hf).2.1;omega
  have hgt:g.types.length≤32:=(yH hf).1
  repeat' (first|(refine shC ?_;first|refine qC c0 ?_)|refine sK ?_|refine sC (fun _=>?_) (fun _=>?_)|fail)
  refine zW (fun k:Nat=>[(1,.pv (.ptr (zT g) 0)),(11,.pv (.slc 7 (g.fields.map Yb) false)),(12,.pv (pi g.fields.length)),(13,.pv (pi k))]) (fun _=>[]) (fun k=>k≤g.fields.length∧∀ j,j < k→Yd g (g.fields.getD j default).ty=true) (fun k=>g.fields.length - k) 0 ⟨by omega,fun j h=>by omega⟩ (tS) tH ?_
  rintro k ⟨hk,hno⟩
  by_cases hlt:k < g.fields.length
  ·have he:=yj (f:=Yb) hlt
   have c1:=zmi g g.fields[k].ty hf
   cases hus:Yd g g.fields[k].ty
   ·have hfin:=zi6 hwl hlt hno (by rw [znX hlt];exact hus)
    rw [hus] at c1
    repeat' (first|(refine shC ?_;first|refine qC c1 ?_)|(refine shX ?_;first|refine qX he ?_)|refine sK ?_|refine sC (fun _=>?_) (fun _=>?_)|fail)
    exact retq rfl (by rw [hfin];rfl)
   ·rw [hus] at c1
    repeat' (first|(refine shC ?_;first|refine qC c1 ?_)|(refine shX ?_;first|refine qX he ?_)|refine sK ?_|refine sC (fun _=>?_) (fun _=>?_)|fail)
    exact ⟨k + 1,⟨hlt,fun j hj=>by
     by_cases e:j=k
     ·subst e;rw [znX hlt];exact hus
     ·exact hno j (by omega)⟩,tD,tS,tH⟩
  ·have hu:Yl g=true:=List.all_eq_true.2 fun j hj=>hno j (by have:=List.mem_range.1 hj;omega)
   clear hno
   repeat' (first|refine sK ?_|refine sC (fun _=>?_) (fun _=>?_)|fail)
   refine zW (fun k:Nat=>[(1,.pv (.ptr (zT g) 0)),(27,.pv (pi g.types.length)),(28,.pv (pi k))]) (fun _=>[]) (fun k=>k≤g.types.length∧∀ j,j < k→QT g j=false) (fun k=>g.types.length - k) 0 ⟨by omega,fun j h=>by omega⟩ (tS) tH ?_
   clear hk hlt
   rintro k ⟨hk,hno⟩
   by_cases hlt:k < g.types.length
   ·have c1:=Zx g hf (k:Int)
    have hfin:=fun h=>zjJ hwl hu hlt hno h
    have hnx:QT g k=false→∀ j,j < k + 1→QT g j=false:=fun h j hj=>by
     by_cases e:j=k
     ·subst e;exact h
     ·exact hno j (by omega)
    have hsb:QT g k=((yt g k==1&&decide (8 < (YF g ⟨6,k,0,false⟩).length))||(yt g k==0&&decide (32 < (objT g k).length))):=rfl
    clear hno
    by_cases hk1:yt g k=1
    ·have c2:=zn2 g hwl hu 8 (by omega) (by omega) ⟨6,k,0,false⟩
     rw [hk1] at hsb c1
     cases hl:decide (8 < (YF g ⟨6,k,0,false⟩).length)
     ·rw [hl] at c2 hsb
      repeat' (first|(refine shC ?_;first|refine qC c1 ?_|refine qC c2 ?_)|refine sK ?_|refine sC (fun _=>?_) (fun _=>?_)|fail)
      exact ⟨k + 1,⟨hlt,hnx (by rw [hsb];rfl)⟩,tD,tS,tH⟩
     ·rw [hl] at c2 hsb
      repeat' (first|(refine shC ?_;first|refine qC c1 ?_|refine qC c2 ?_)|refine sK ?_|refine sC (fun _=>?_) (fun _=>?_)|fail)
      exact retq rfl (by rw [hfin (by rw [hsb];rfl)];rfl)
    ·have hb1:(yt g k==1)=false:=by simp [hk1]
     by_cases hk0:yt g k=0
     ·obtain ⟨r,hr,c2⟩:=zmh g hwl hu k
      rw [hk0] at hsb c1
      have hd:decide (32 < (r:Int))=decide (32 < (objT g k).length):=by rw [decide_eq_decide,←hr.more];omega
      cases hl:decide (32 < (objT g k).length)
      ·rw [hl] at hsb hd
       repeat' (first|(refine shC ?_;first|refine qC c1 ?_|refine qC c2 ?_)|refine sK ?_|refine sC (fun _=>?_) (fun _=>?_)|fail)
       exact ⟨k + 1,⟨hlt,hnx (by rw [hsb];rfl)⟩,tD,tS,tH⟩
      ·rw [hl] at hsb hd
       repeat' (first|(refine shC ?_;first|refine qC c1 ?_|refine qC c2 ?_)|refine sK ?_|refine sC (fun _=>?_) (fun _=>?_)|fail)
       exact retq rfl (by rw [hfin (by rw [hsb];rfl)];rfl)
     ·have hb0:(yt g k==0)=false:=by simp [hk0]
      rw [hb1,hb0] at hsb
      repeat' (first|(refine shC ?_;first|refine qC c1 ?_)|refine sK ?_|refine sC (fun _=>?_) (fun _=>?_)|fail)
      exact ⟨k + 1,⟨hlt,hnx (by rw [hsb];rfl)⟩,tD,tS,tH⟩
   ·repeat' (first|refine sK ?_|refine sC (fun _=>?_) (fun _=>?_)|fail)
    exact retq rfl (by rw [zgd hwl hu (fun j hj=>hno j (by omega))];rfl)
set_option maxHeartbeats 20000000
theorem QF (m:Me) (f:Int):ACall Tryz.prog 82 [yB m,pi f] (pb (qJ m.flags f)):=by
 refine zi zf Tryz.func82 rfl (by kernel_rfl) Tryz.ntmps82 (by simp) _ rfl (fun hw gB hgB=>?_)
 repeat' (first|refine sA ?_|refine sC (fun _=>?_) (fun _=>?_)|fail)
 all_goals (first|refine retq rfl ?_|refine VX rfl ?_)
 all_goals (first|(simp_all [zy,qJ];done)|(simp_all [zy,qJ];omega))
def zhj (a b:Me):Bool:=a.name.toList==b.name.toList&&decide (a.ret=b.ret)&&(qJ a.flags 1==qJ b.flags 1)&&decide (a.params=b.params)
def zmO (a b:Me):Bool:=a.name.toList==b.name.toList&&zci a b
theorem zfF (a b:Me):ACall Tryz.prog 134 [yB a,yB b] (pb (zhj a b)):=by
 refine zi zf Tryz.func134 rfl (by kernel_rfl) Tryz.ntmps134 (by simp) _ rfl (fun hw gB hgB=>?_)
 have hty:=Wp a.ret b.ret
 repeat' (first|(refine shC ?_;first|refine qC (QF _ _) ?_|refine qC (zdM _ _) ?_)|refine sA ?_|refine sC (fun _=>?_) (fun _=>?_)|fail)
 all_goals refine retq rfl ?_
 all_goals (simp only [zy,zhj,←hty];clear hty;simp_all)
theorem zpv:∀ a b:Fin 32,(qJ (a.val:Int) 1==qJ (b.val:Int) 1)=((a.val:Int).tmod 2==(b.val:Int).tmod 2):=by decide +kernel
theorem zox:∀ a:Fin 32,qJ (a.val:Int) 1=qF a.val 1∧qJ (a.val:Int) 2=qF a.val 2∧qJ (a.val:Int) 4=qF a.val 4∧qJ (a.val:Int) 8=qF a.val 8∧qJ (a.val:Int) 16=qF a.val 16:=by decide +kernel
theorem zaR {f:Int} (h0:0≤f) (h1:f≤31):qJ f 1=qF f 1∧qJ f 2=qF f 2∧qJ f 4=qF f 4∧qJ f 8=qF f 8∧qJ f 16=qF f 16:=by
 have:=zox ⟨f.toNat,by omega⟩
 simpa only [Int.toNat_of_nonneg h0] using this
theorem zqE {x y:Me} (hx0:0≤x.flags) (hx1:x.flags≤31) (hy0:0≤y.flags) (hy1:y.flags≤31):zhj x y=zmO x y:=by
 have:=zpv ⟨x.flags.toNat,by omega⟩ ⟨y.flags.toNat,by omega⟩
 simp only [Int.toNat_of_nonneg hx0,Int.toNat_of_nonneg hy0] at this
 rw [zhj,zmO,zci,this]
 simp only [Bool.and_assoc]
def alk (g:Img) (a b:Int):Bool:=zmO (mAt g a) (mAt g b)
def zeS (g:Img) (m:Int):Bool:=qF (mAt g m).flags 2
def fresh (g:Img) (m:Int):Bool:=qF (mAt g m).flags 8
def Qq (g:Img) (out:List Int) (m:Int):List Int :=
 if zeS g m then (if out.any (fun x=>alk g x m)&&!fresh g m then out.set (out.findIdx (fun x=>alk g x m)) m else out++[m]) else out
def ZJ (g:Img) (out:List Int) (ms:List Int):List Int:=ms.foldl (Qq g) out
def zjt (g:Img) (us:List Int):List Int:=us.foldl (fun out u=>ZJ g out (methodsOf g u)) []
def tbl (g:Img) (t:Int):List Int:=zjt g (up g t).reverse
theorem zqu {g:Img} (hW:Wl g) {t:Int} {td:TD} (h:typeAt g t=some td):tbl g t=ZJ g (tbl g td.ext) (methodsOf g t):=by
 rw [tbl,hW.up_cons h,List.reverse_cons,zjt,List.foldl_append];rfl
def mOk (g:Img) (x:Int):Prop:=0≤x∧x.toNat < g.methods.length
theorem zlQ {g:Img} {out:List Int} {m x:Int} (h:x∈Qq g out m):x∈out∨x=m:=by
 rw [Qq] at h
 split at h
 ·split at h
  ·exact List.mem_or_eq_of_mem_set h
  ·simpa using h
 ·exact .inl h
theorem zlZ (g:Img) (out:List Int) (m:Int):out.length≤(Qq g out m).length∧(Qq g out m).length≤out.length + 1:=by
 rw [Qq]
 split
 ·split <;> simp
 ·simp
theorem zcg {g:Img} {x:Int}:∀ {ms out:List Int},x∈ZJ g out ms→x∈out∨x∈ms
 | [],out,h=>.inl h
 | m::ms,out,h=>by
  rcases zcg (ms:=ms) (out:=Qq g out m) h with h|h
  ·rcases zlQ h with h|rfl
   ·exact .inl h
   ·exact .inr (by simp)
  ·exact .inr (by simp [h])
theorem zas (g:Img):∀ (ms out:List Int),out.length≤(ZJ g out ms).length∧(ZJ g out ms).length≤out.length + ms.length
 | [],out=>by simp [ZJ]
 | m::ms,out=>by
  have h1:=zas g ms (Qq g out m)
  have h2:=zlZ g out m
  have e:ZJ g out (m::ms)=ZJ g (Qq g out m) ms:=rfl
  rw [e,List.length_cons];omega
theorem zqV {g:Img} (us:List Int):(zjt g us).length≤g.methods.length * us.length:=by
 rw [zjt]
 have key:∀ (us:List Int) (out:List Int),(us.foldl (fun out u=>ZJ g out (methodsOf g u)) out).length≤out.length + g.methods.length * us.length:=by
  intro us
  induction us with
  | nil=>intro out;simp
  | cons u us ih =>
   intro out
   have h1:=ih (ZJ g out (methodsOf g u))
   have h2:=(zas g (methodsOf g u) out).2
   have h3:=Qz g u
   rw [List.foldl_cons,List.length_cons,Nat.mul_succ];omega
 have:=key us []
 simpa using this
theorem zln {g:Img} {x:Int}:∀ {us:List Int},x∈zjt g us→mOk g x:=by
 have key:∀ (us:List Int) (out:List Int),(∀ x∈out,mOk g x)→∀ x∈us.foldl (fun out u=>ZJ g out (methodsOf g u)) out,mOk g x:=by
  intro us
  induction us with
  | nil=>intro out h;exact h
  | cons u us ih =>
   intro out h
   refine ih _ fun x hx=>?_
   rcases zcg hx with hx|hx
   ·exact h x hx
   ·exact qM hx
 intro us h
 exact key us [] (by simp) x h
theorem znP {g:Img} {t x:Int} (h:x∈tbl g t):mOk g x:=zln h
theorem XT {g:Img} {x:Int} (h:mOk g x):(g.methods.map yB)[x.toNat]?=some (yB (mAt g x)):=by
 rw [mAt,zQ h.2];exact YE h.2
theorem zjz (g:Img) (out ms:List Int) (k:Nat) (h:k < ms.length):ZJ g out (ms.take (k + 1))=Qq g (ZJ g out (ms.take k)) ms[k]:=by
 rw [List.take_succ_eq_append_getElem h,ZJ,List.foldl_append];rfl
set_option maxHeartbeats 20000000
theorem Vr {g:Img} (hf:yJ g=true) {a:Int} (h:mOk g a):0≤(mAt g a).flags∧(mAt g a).flags≤31:=zaD (zch hf h.2)
theorem znq {g:Img} (hf:yJ g=true) {a b:Int} (ha:mOk g a) (hb:mOk g b):zhj (mAt g a) (mAt g b)=alk g a b:=by
 have h1:=Vr hf ha
 have h2:=Vr hf hb
 exact zqE h1.1 h1.2 h2.1 h2.2
theorem zmj (g:Img) (hf:yJ g=true) (x m:Int) (hx:mOk g x) (hm:mOk g m):ACall Tryz.prog 226 ([]++[pi x]++[.ptr (zT g) 0,.ptr (pi m) 0]) (pb (alk g x m)):=by
 show ACall Tryz.prog 226 [pi x,.ptr (zT g) 0,.ptr (pi m) 0] (pb (alk g x m))
 refine zi zf Tryz.func226 rfl (by kernel_rfl) Tryz.ntmps226 (by simp) _ rfl (fun hw gB hgB=>?_)
 have e1:=XT hx
 have e2:=XT hm
 have c1:=zfF (mAt g x) (mAt g m)
 rw [znq hf hx hm] at c1
 repeat' (first|(refine shC ?_;first|refine qC c1 ?_)|(refine shX ?_;first|refine zx rfl (zq zf rfl rfl rfl rfl rfl rfl hx.1 e1) rfl rfl ?_|refine AD.step _ _ _ _ _ rfl (zq zf rfl rfl rfl rfl rfl rfl hx.1 e1) rfl rfl ?_|refine zx rfl (zq zf rfl rfl rfl rfl rfl rfl hm.1 e2) rfl rfl ?_|refine AD.step _ _ _ _ _ rfl (zq zf rfl rfl rfl rfl rfl rfl hm.1 e2) rfl rfl ?_)|refine sA ?_|refine sC (fun _=>?_) (fun _=>?_)|fail)
 exact retq rfl rfl
abbrev slH (out:List Int):HEnv:=[(0,.cell (.agg [.own 7])),(7,.mrow 3 1 (out.map pi))]
theorem zne (g:Img) (hf:yJ g=true) (out:List Int) (m:Int) (ho:∀ x∈out,mOk g x) (hm:mOk g m) (us:Nat→Value):ACallM Tryz.prog 176 [.box 0 0,.pv (zT g),.pv (pi m)] (slH out++qx us [0]) (.pv (pi (zcF out (fun x=>alk g x m)))) (slH out++qx us [0]):=by
 refine qZ zf Tryz.func176 rfl (by kernel_rfl) Tryz.ntmps176 (by simp) _ rfl (fun gB hw1=>?_)
 have c1:=VF out (fun x=>alk g x m) 226 [] [.ptr (zT g) 0,.ptr (pi m) 0] (fun x hx=>zmj g hf x m (ho x hx) hm)
 repeat' (first|(refine zn ?_;first|refine zqc rfl rfl rfl c1 rfl rfl ?_)|refine sA ?_|refine sC (fun _=>?_) (fun _=>?_)|fail)
 exact ⟨.inr rfl,.inl ⟨_,rfl,rfl,⟨by repeat (first|exact zG|refine zD rfl ?_),rfl⟩⟩⟩
theorem zor (out:List Int) (m:Int) (ho:out.length≤5000) (us:Nat→Value):ACallM Tryz.prog 177 [.box 0 0,.pv (pi m)] (slH out++qx us [0]) (.pv (.tup [])) (slH (out++[m])++qx us [0]):=by
 refine qZ zf Tryz.func177 rfl (by kernel_rfl) Tryz.ntmps177 (by simp) _ rfl (fun gB hw1=>?_)
 repeat' (first|(refine yK ?_;first|refine VT zf rfl rfl rfl rfl rfl rfl rfl (by show _ * 8≤_;simp;omega) (by simp;omega) rfl rfl ?_)|refine sA ?_|refine sC (fun _=>?_) (fun _=>?_)|fail)
 exact ⟨.inl rfl,.inl ⟨[],rfl,rfl,⟨zD rfl (Zp rfl (by simp) (by repeat (first|exact zG|refine zD rfl ?_))),rfl⟩⟩⟩
theorem zlu {g:Img} {out:List Int} {m:Int} (hv:zeS g m=true):Qq g out m=if decide (0≤zcF out (fun x=>alk g x m))&&!fresh g m then out.set (zcF out (fun x=>alk g x m)).toNat m else out++[m]:=by
 rw [Qq,if_pos hv,zcF]
 cases out.any (fun x=>alk g x m) <;> cases fresh g m <;> simp
theorem zmK {l:List Int} {p:Int→Bool}:zcF l p = -1∨(0≤zcF l p∧(zcF l p).toNat < l.length):=by
 rw [zcF]
 split
 ·rename_i h
  right
  obtain ⟨x,hx,hp⟩:=List.any_eq_true.1 h
  have:=List.findIdx_lt_length_of_exists (p:=p) ⟨x,hx,hp⟩
  omega
 ·exact .inl rfl
def znx (g:Img):List PV:=[.slc 4 (g.types.map Zl) false,.slc 7 (g.fields.map Yb) false,.slc 12 (g.methods.map yB) false,pi g.entry]
abbrev zdQ (g:Img):AV:=.agg [.box 0 0,.pv (.slc 4 (g.types.map Zl) false),.pv (.slc 7 (g.fields.map Yb) false),.pv (.slc 12 (g.methods.map yB) false),.pv (pi g.entry)]
theorem zeh {P:Prop}:false=true→P:=fun h=>nomatch h
theorem znd (g:Img) (hF:Fine g) (out:List Int) (u:Int) (ho:∀ x∈out,mOk g x) (hol0:out.length≤2048) (us:Nat→Value) :
  ACallM Tryz.prog 130 [zdQ g,.pv (pi u)] (slH out++qx us [0]) (.pv (.tup [])) (slH (ZJ g out (methodsOf g u))++qx us [0]):=by
 have hgm:g.methods.length≤64:=(yH hF.formed).2.2.1
 have c3:=Yu g u (by omega)
 have hml:=Qz g u
 refine qZ zf Tryz.func130 rfl (by kernel_rfl) Tryz.ntmps130 (by simp) _ rfl (fun gB hw1=>?_)
 repeat' (first|refine zx rfl (zk (ps:=znx g) zf rfl rfl rfl rfl rfl) rfl rfl ?_|(refine shC ?_;first|refine qC c3 ?_)|(refine Qp ?_;first|refine Vk 2 rfl rfl rfl rfl rfl rfl ?_)|refine sA ?_|refine sC (fun _=>?_) (fun _=>?_)|fail)
 refine zW (fun k:Nat=>[(2,.box 2 0),(11,.pv (ints (methodsOf g u))),(12,.pv (pi (methodsOf g u).length)),(13,.pv (pi k))])
  (fun k=>[(0,.cell (.agg [.own 7])),(7,.mrow 3 1 ((ZJ g out ((methodsOf g u).take k)).map pi)),(2,.cell (zdQ g)),(1000,.pin (.own 0) (us 0))])
  (fun k=>k≤(methodsOf g u).length) (fun k=>(methodsOf g u).length - k) 0 (by omega) (tS) ⟨zD rfl (Zp rfl rfl (by repeat (first|exact zG|refine zD rfl ?_))),rfl⟩ ?_
 rintro k hk
 by_cases hlt:k < (methodsOf g u).length
 ·obtain ⟨x,hx⟩:∃ x,x=(methodsOf g u)[k]:=⟨_,rfl⟩
  have hex:((methodsOf g u).map pi)[k]?=some (pi x):=by rw [hx];exact yj (f:=pi) hlt
  have hmx:mOk g x:=by rw [hx];exact qM (List.getElem_mem hlt)
  have hem:=XT hmx
  have hs:=zjz g out _ k hlt
  rw [←hx] at hs
  obtain ⟨cur,hcu⟩:∃ o,o=ZJ g out ((methodsOf g u).take k):=⟨_,rfl⟩
  have hcl:cur.length≤2112:=by
   have:=(zas g ((methodsOf g u).take k) out).2
   have h2:((methodsOf g u).take k).length≤64:=by simp;omega
   rw [hcu];omega
  have hcm:∀ y∈cur,mOk g y:=by
   intro y hy
   rw [hcu] at hy
   rcases zcg hy with hy|hy
   ·exact ho y hy
   ·exact qM (List.mem_of_mem_take hy)
  rw [←hcu] at hs ⊢
  have hfl:=Vr hF.formed hmx
  have hfe:=zaR hfl.1 hfl.2
  have b2:=QF (mAt g x) 2
  have b8:=QF (mAt g x) 8
  rw [hfe.2.1] at b2
  rw [hfe.2.2.2.1] at b8
  cases hv:zeS g x
  ·rw [show qF (mAt g x).flags 2=false from hv] at b2
   repeat' (first|(refine shC ?_;first|refine qC b2 ?_)|(refine shX ?_;first|refine qX hex ?_|refine zx rfl (zq zf rfl rfl rfl rfl rfl rfl hmx.1 hem) rfl rfl ?_|refine AD.step _ _ _ _ _ rfl (zq zf rfl rfl rfl rfl rfl rfl hmx.1 hem) rfl rfl ?_)|refine sK ?_|refine sC (fun _=>?_) (fun _=>?_)|fail)
   exact ⟨k + 1,hlt,tD,tS,⟨zD rfl (Zp rfl (by rw [hs,Qq,hv];rfl) (by repeat (first|exact zG|refine zD rfl ?_))),rfl⟩⟩
  ·rw [show qF (mAt g x).flags 2=true from hv] at b2
   rw [zlu hv] at hs
   have cF:=fun us=>zne g hF.formed cur x hcm hmx us
   have cP:=fun us=>zor cur x (by omega) us
   have hr:=zmK (l:=cur) (p:=fun y=>alk g y x)
   obtain ⟨a,ha⟩:∃ a,a=zcF cur (fun y=>alk g y x):=⟨_,rfl⟩
   simp only [←ha] at cF
   rw [←ha] at hs hr
   rcases hr with rfl|⟨ha0,ha1⟩
   ·rw [if_neg (by simp)] at hs
    repeat' (first|refine zx rfl (zk (ps:=znx g) zf rfl rfl rfl rfl rfl) rfl rfl ?_|(refine shC ?_;first|refine qC b2 ?_|refine qC b8 ?_)|(refine shX ?_;first|refine qX hex ?_|refine zx rfl (zq zf rfl rfl rfl rfl rfl rfl hmx.1 hem) rfl rfl ?_|refine AD.step _ _ _ _ _ rfl (zq zf rfl rfl rfl rfl rfl rfl hmx.1 hem) rfl rfl ?_)|(refine zn ?_;first|refine yD (slH cur) (slH cur) [(2,.cell (zdQ g)),(1,.cell (.pv (yB (mAt g x)))),(1000,.pin (.own 0) (us 0))] [(2,.box 2 0),(5,.pv (pi x)),(6,.box 1 0),(11,.pv (ints (methodsOf g u))),(12,.pv (pi (methodsOf g u).length)),(13,.pv (pi k))] [0] zeh rfl rfl rfl (by repeat (first|exact zG|refine zD rfl ?_)) tS rfl rfl rfl cF ?_|refine yD (slH cur) (slH (cur++[x])) [(2,.cell (zdQ g)),(1000,.pin (.own 0) (us 0))] [(2,.box 2 0),(11,.pv (ints (methodsOf g u))),(12,.pv (pi (methodsOf g u).length)),(13,.pv (pi k))] [0] zeh rfl rfl rfl (by repeat (first|exact zG|refine zD rfl ?_)) tS rfl rfl rfl cP ?_)|refine sK ?_|refine sC (fun _=>?_) (fun _=>?_)|fail)
    exact ⟨k + 1,hlt,tD,tS,⟨zD rfl (Zp rfl (by rw [hs]) (by repeat (first|exact zG|refine zD rfl ?_))),rfl⟩⟩
   ·have hd:decide (0≤a)=true:=decide_eq_true ha0
    rw [hd] at hs
    cases hf:fresh g x
    ·rw [show qF (mAt g x).flags 8=false from hf] at b8
     rw [hf,if_pos (by simp)] at hs
     have hal:a.toNat < (cur.map pi).length:=by rw [List.length_map];exact ha1
     have hap:(cur.map pi)[a.toNat]?=some (pi cur[a.toNat]):=YE ha1
     repeat' (first|refine zx rfl (zk (ps:=znx g) zf rfl rfl rfl rfl rfl) rfl rfl ?_|(refine shC ?_;first|refine qC b2 ?_|refine qC b8 ?_)|(refine shX ?_;first|refine qX hex ?_|refine zx rfl (zq zf rfl rfl rfl rfl rfl rfl hmx.1 hem) rfl rfl ?_|refine AD.step _ _ _ _ _ rfl (zq zf rfl rfl rfl rfl rfl rfl hmx.1 hem) rfl rfl ?_|refine zx rfl (zK (k:=a.toNat) zf rfl rfl rfl rfl rfl rfl rfl (by omega) hal) rfl rfl ?_|refine AD.step _ _ _ _ _ rfl (zK (k:=a.toNat) zf rfl rfl rfl rfl rfl rfl rfl (by omega) hal) rfl rfl ?_)|(refine zn ?_;first|refine yD (slH cur) (slH cur) [(2,.cell (zdQ g)),(1,.cell (.pv (yB (mAt g x)))),(1000,.pin (.own 0) (us 0))] [(2,.box 2 0),(5,.pv (pi x)),(6,.box 1 0),(11,.pv (ints (methodsOf g u))),(12,.pv (pi (methodsOf g u).length)),(13,.pv (pi k))] [0] zeh rfl rfl rfl (by repeat (first|exact zG|refine zD rfl ?_)) tS rfl rfl rfl cF ?_)|(refine Yo ?_;first|refine XE (k:=a.toNat) (j:=0) zf rfl rfl rfl rfl rfl hap rfl rfl rfl rfl rfl ?_)|refine sK ?_|refine sC (fun _=>?_) (fun _=>?_)|fail)
     exact ⟨k + 1,hlt,tD,tS,⟨zD rfl (Zp rfl (by rw [hs,List.map_set]) (by repeat (first|exact zG|refine zD rfl ?_))),rfl⟩⟩
    ·rw [show qF (mAt g x).flags 8=true from hf] at b8
     rw [hf,if_neg (by simp)] at hs
     repeat' (first|refine zx rfl (zk (ps:=znx g) zf rfl rfl rfl rfl rfl) rfl rfl ?_|(refine shC ?_;first|refine qC b2 ?_|refine qC b8 ?_)|(refine shX ?_;first|refine qX hex ?_|refine zx rfl (zq zf rfl rfl rfl rfl rfl rfl hmx.1 hem) rfl rfl ?_|refine AD.step _ _ _ _ _ rfl (zq zf rfl rfl rfl rfl rfl rfl hmx.1 hem) rfl rfl ?_)|(refine zn ?_;first|refine yD (slH cur) (slH cur) [(2,.cell (zdQ g)),(1,.cell (.pv (yB (mAt g x)))),(1000,.pin (.own 0) (us 0))] [(2,.box 2 0),(5,.pv (pi x)),(6,.box 1 0),(11,.pv (ints (methodsOf g u))),(12,.pv (pi (methodsOf g u).length)),(13,.pv (pi k))] [0] zeh rfl rfl rfl (by repeat (first|exact zG|refine zD rfl ?_)) tS rfl rfl rfl cF ?_|refine yD (slH cur) (slH (cur++[x])) [(2,.cell (zdQ g)),(1000,.pin (.own 0) (us 0))] [(2,.box 2 0),(11,.pv (ints (methodsOf g u))),(12,.pv (pi (methodsOf g u).length)),(13,.pv (pi k))] [0] zeh rfl rfl rfl (by repeat (first|exact zG|refine zD rfl ?_)) tS rfl rfl rfl cP ?_)|refine sK ?_|refine sC (fun _=>?_) (fun _=>?_)|fail)
     exact ⟨k + 1,hlt,tD,tS,⟨zD rfl (Zp rfl (by rw [hs]) (by repeat (first|exact zG|refine zD rfl ?_))),rfl⟩⟩
 ·have hk2:k=(methodsOf g u).length:=by omega
  subst hk2
  rw [List.take_length]
  repeat' (first|refine sK ?_|refine sC (fun _=>?_) (fun _=>?_)|fail)
  exact ⟨.inl rfl,.inl ⟨[],rfl,rfl,⟨by repeat (first|exact zG|refine zD rfl ?_),rfl⟩⟩⟩
set_option maxHeartbeats 2000000 in
theorem zgN (g:Img) (hF:Fine g) (t:Int):ACall Tryz.prog 92 [zT g,pi t] (ints (tbl g t)):=by
 obtain ⟨hgt,_,hgm,_⟩:=yH hF.formed
 have hui:=zb9 g t
 have hul:=Ya _ _ hui.1 hui.2
 refine zjl zf Tryz.func92 rfl (by kernel_rfl) Tryz.ntmps92 (by simp) _ rfl (fun hw gB hgB hds=>?_)
 refine zgV ?_
 repeat' (first|refine sA ?_|refine sC (fun _=>?_) (fun _=>?_)|fail)
 refine zgV ?_
 repeat' (first|refine zx rfl (VR zf rfl ⟨_,rfl⟩ rfl rfl rfl rfl rfl rfl) rfl rfl ?_|(refine Qp ?_;first|refine Vk 0 rfl rfl rfl rfl rfl rfl ?_)|refine sA ?_|refine sC (fun _=>?_) (fun _=>?_)|fail)
 refine zpH ?_
 refine zgV ?_
 repeat' (first|refine zdW 0 7 0 3 1 (by decide) rfl rfl rfl rfl ?_|(refine shC ?_;first|refine zx rfl (zI rfl rfl (Yp g t (by omega))) rfl rfl ?_|refine AD.step _ _ _ _ _ rfl (zI rfl rfl (Yp g t (by omega))) rfl rfl ?_|refine qC (zhU _) ?_)|refine sA ?_|refine sC (fun _=>?_) (fun _=>?_)|fail)
 refine zpm ?_
 refine zph (fun x=>.int .i64 x.1) (fun x=>.int .i64 x.2) (zo1 (up g t) (by omega)) [(2,.pv (.ptr (zT g) 0)),(5,.box 1 0),(15,.pv (.fn (.func 174) [] [.ptr (ints (up g t)) 0]))]
  (fun pre=>[(0,.cell (.agg [.own 7])),(7,.mrow 3 1 ((zjt g (pre.map (·.2))).map pi)),(1,.cell (zdQ g))]) 100 hgB hds (fun _=>rfl) (fun _=>rfl) rfl (tS) rfl rfl rfl (by decide) ⟨by repeat (first|exact zG|refine zD rfl ?_),rfl⟩ (fun _=>rfl) (fun _=>rfl) rfl ?_ ?_
 ·intro g2 us pre x hlen
  rw [ze3] at hlen
  obtain ⟨cur,hcu⟩:∃ c,c=zjt g (pre.map (·.2)):=⟨_,rfl⟩
  have hcl:cur.length≤2048:=by
   have h1:=zqV (g:=g) (pre.map (·.2))
   have h2:g.methods.length * (pre.map (·.2)).length≤64 * 32:=Nat.mul_le_mul hgm (by rw [List.length_map];omega)
   rw [hcu];omega
  have hcm:∀ y∈cur,mOk g y:=fun y hy=>zln (by rw [hcu] at hy;exact hy)
  have hs:zjt g ((pre++[x]).map (·.2))=ZJ g cur (methodsOf g x.2):=by rw [hcu,List.map_append,zjt,List.foldl_append];rfl
  rw [←hcu]
  have cT:=fun us'=>znd g hF cur x.2 hcm hcl us'
  repeat' (first|(refine zn ?_;first|refine yD (slH cur) (slH (ZJ g cur (methodsOf g x.2))) ((1,.cell (zdQ g))::qH us 100 [(2,.pv (.ptr (zT g) 0)),(5,.box 1 0),(15,.pv (.fn (.func 174) [] [.ptr (ints (up g t)) 0]))]) [] [0] zeh rfl rfl rfl (by repeat (first|exact zG|refine zD rfl ?_)) tS rfl rfl rfl cT ?_)|refine sA ?_|refine sC (fun _=>?_) (fun _=>?_)|fail)
  exact ⟨zD rfl (Zp rfl (by rw [hs]) (by repeat (first|exact zG|refine zD rfl ?_))),rfl⟩
 ·intro g3
  repeat' (first|refine zbe 7 rfl ?_|refine sA ?_|refine sC (fun _=>?_) (fun _=>?_)|fail)
  exact ⟨rfl,retq rfl (by rw [zoP];rfl)⟩
set_option maxHeartbeats 20000000
theorem zmI (g:Img) (hx:OkA g):ACall Tryz.prog 42 [zT g] (pb (zfc g)):=by
 refine zi zf Tryz.func42 rfl (by kernel_rfl) Tryz.ntmps42 (by simp) _ rfl (fun hw gB hgB=>?_)
 repeat' (first|(refine shC ?_;first|refine qC (zly g hx) ?_)|refine sA ?_|refine sC (fun _=>?_) (fun _=>?_)|fail)
 exact retq rfl rfl
def zbs (g:Img) (m:Int):Int:=(mAt g m).owner
def Ws (g:Img) (m:Int):Int:=if zeS g m&&yt g (zbs g m)==0 then idx (tbl g (zbs g m)) m else -1
theorem zsW {g:Img} (hF:Fine g) {m:Int} (hm:mOk g m):ACall Tryz.prog 82 [yB (mAt g m),pi 2] (pb (zeS g m)):=by
 have h:=Vr hF.formed hm
 have c:=QF (mAt g m) 2
 rwa [(zaR h.1 h.2).2.1] at c
theorem zmk (g:Img) (hF:Fine g) (m:Int) (hm:mOk g m):ACall Tryz.prog 183 [zT g,pi m] (pi (Ws g m)):=by
 have hem:=XT hm
 have c1:=zsW hF hm
 have c2:=Zx g hF.formed (mAt g m).owner
 have c3:=zgN g hF (mAt g m).owner
 have c4:=zgi (tbl g (mAt g m).owner) m
 refine zi zf Tryz.func183 rfl (by kernel_rfl) Tryz.ntmps183 (by simp) _ rfl (fun hw gB hgB=>?_)
 cases hv:zeS g m
 ·rw [hv] at c1
  repeat' (first|(refine shC ?_;first|refine qC c1 ?_)|(refine shX ?_;first|refine zx rfl (zq zf rfl rfl rfl rfl rfl rfl hm.1 hem) rfl rfl ?_|refine AD.step _ _ _ _ _ rfl (zq zf rfl rfl rfl rfl rfl rfl hm.1 hem) rfl rfl ?_)|refine sK ?_|refine sC (fun _=>?_) (fun _=>?_)|fail)
  exact retq rfl (by simp [zy,Ws,hv])
 ·rw [hv] at c1
  by_cases hk:yt g (mAt g m).owner=0
  ·rw [hk] at c2
   repeat' (first|(refine shC ?_;first|refine qC c1 ?_|refine qC c2 ?_|refine qC c3 ?_|refine qC c4 ?_)|(refine shX ?_;first|refine zx rfl (zq zf rfl rfl rfl rfl rfl rfl hm.1 hem) rfl rfl ?_|refine AD.step _ _ _ _ _ rfl (zq zf rfl rfl rfl rfl rfl rfl hm.1 hem) rfl rfl ?_)|refine sK ?_|refine sC (fun _=>?_) (fun _=>?_)|fail)
   exact retq rfl (by simp [zy,Ws,hv,zbs,hk])
  ·have hkb:(yt g (mAt g m).owner != 0)=true:=by simp [hk]
   repeat' (first|(refine shC ?_;first|refine qC c1 ?_|refine qC c2 ?_)|(refine shX ?_;first|refine zx rfl (zq zf rfl rfl rfl rfl rfl rfl hm.1 hem) rfl rfl ?_|refine AD.step _ _ _ _ _ rfl (zq zf rfl rfl rfl rfl rfl rfl hm.1 hem) rfl rfl ?_)|refine sK ?_|refine sC (fun _=>?_) (fun _=>?_)|fail)
   exact retq rfl (by simp [zy,Ws,hv,zbs,hk])
theorem zn9 {g:Img} (hW:Wl g) {t:Int} {td:TD} (h:typeAt g t=some td) (he:0≤td.ext):yt g t=0∧yt g td.ext=0:=by
 refine ⟨?_,(hW.extk h).resolve_left (by omega)⟩
 have hfl:=hW.flag t td h
 rw [yt,h]
 simp only
 have hne:(td.ext == -1)=false:=by simp;omega
 have hr:WU td.flags=2∨WU td.flags=1∨WU td.flags=3∨WU td.flags=0:=by
  unfold WU
  cases qF td.flags 2 <;> cases qF td.flags 1 <;> cases qF td.flags 16 <;> simp
 rw [Yn,hne] at hfl
 rcases hr with h1|h1|h1|h1
 ·rw [h1] at hfl;simp at hfl
 ·rw [h1] at hfl;simp at hfl
 ·rw [h1] at hfl;simp at hfl
 ·exact h1
theorem zkm {g:Img} (hW:Wl g):∀ (l:List Int) (t:Int),up g t=l→yt g t=0→∀ u∈l,yt g u=0
 | [],t,h,hk,u,hu=>by cases hu
 | x::l,t,h,hk,u,hu=>by
  cases ht:typeAt g t with
  | none=>rw [up_nil ht] at h;cases h
  | some td =>
   rw [hW.up_cons ht] at h
   injection h with e1 e2
   subst e1
   rcases List.mem_cons.1 hu with rfl|hu
   ·exact hk
   ·have h0:0≤td.ext:=by
     cases hte:typeAt g td.ext with
     | none=>rw [up_nil hte] at e2;subst e2;cases hu
     | some td2=>exact (XI hte).1
    exact zkm hW l td.ext e2 (zn9 hW ht h0).2 u hu
set_option maxHeartbeats 20000000
def zdY (g:Img) (t m:Int):Int:=if Ws g m < 0 then m else (tbl g t).getD (Ws g m).toNat 0
def does (g:Img) (m k:Int):Bool:=zeS g k&&alk g k m
def znU (g:Img) (t m:Int):Option Int:=((up g t).flatMap (methodsOf g)).find? (does g m)
def VL (g:Img) (t m:Int):Int:=match znU g t m with|some k=>zdY g t k|none => -1
def zjY (g:Img) (t m:Int):Int:=if yt g (zbs g m)==2&&zeS g m then VL g t m else zdY g t m
theorem zkQ {g:Img} (hW:Wl g):∀ (l:List Int) (t b:Int),up g t=l→b∈l→(tbl g b).length≤(tbl g t).length
 | [],t,b,h,hb=>by cases hb
 | x::l,t,b,h,hb=>by
  cases ht:typeAt g t with
  | none=>rw [up_nil ht] at h;cases h
  | some td =>
   rw [hW.up_cons ht] at h
   simp only [List.cons.injEq] at h
   obtain ⟨rfl,h⟩:=h
   rcases List.mem_cons.1 hb with rfl|hb
   ·exact Nat.le_refl _
   ·have h1:=zkQ hW l td.ext b h hb
    have h2:=(zas g (methodsOf g t) (tbl g td.ext)).1
    rw [zqu hW ht];omega
theorem idx_range {l:List Int} {v:Int}:idx l v = -1∨(0≤idx l v∧(idx l v).toNat < l.length):=by
 rw [idx]
 split
 ·rename_i h
  right
  have:=List.findIdx_lt_length_of_exists (p:=(· == v)) ⟨v,h,by simp⟩
  omega
 ·exact .inl rfl
theorem znp {g:Img} (hW:Wl g) {t m:Int} (hb:yt g (zbs g m)=0→zbs g m∈up g t) (h:¬ Ws g m < 0):(Ws g m).toNat < (tbl g t).length:=by
 rw [Ws] at h ⊢
 split at h
 ·rename_i hh
  rw [if_pos hh]
  simp only [Bool.and_eq_true,beq_iff_eq] at hh
  have h1:=zkQ hW _ t _ rfl (hb hh.2)
  rcases idx_range (l:=tbl g (zbs g m)) (v:=m) with h2|h2
  ·omega
  ·omega
 ·omega
theorem zay {g:Img} {u k:Int} (h:k∈methodsOf g u):zbs g k=u:=by
 simp only [methodsOf,List.mem_filter,Bool.and_eq_true,beq_iff_eq] at h
 exact h.2.2
theorem zl2 (g:Img) (hF:Fine g) (t m:Int) (hm:mOk g m) (hn:(yt g (zbs g m)==2&&zeS g m)=false) (hb:yt g (zbs g m)=0→zbs g m∈up g t):ACall Tryz.prog 135 [zT g,pi t,pi m] (pi (zdY g t m)):=by
 have hW:=zf4 hF.well
 have hem:=XT hm
 have c1:=Zx g hF.formed (mAt g m).owner
 have c2:=zsW hF hm
 have c3:=zmk g hF m hm
 have c4:=zgN g hF t
 have hsi:=znp hW hb
 rw [zbs] at hn
 refine zi zf Tryz.func135 rfl (by kernel_rfl) Tryz.ntmps135 (by simp) _ rfl (fun hw gB hgB=>?_)
 by_cases hk:yt g (mAt g m).owner=2
 ·rw [hk] at c1 hn
  have hv:zeS g m=false:=by simpa using hn
  rw [hv] at c2
  by_cases hs:Ws g m < 0
  ·repeat' (first|(refine shC ?_;first|refine qC c1 ?_|refine qC c2 ?_|refine qC c3 ?_)|(refine shX ?_;first|refine zx rfl (zq zf rfl rfl rfl rfl rfl rfl hm.1 hem) rfl rfl ?_|refine AD.step _ _ _ _ _ rfl (zq zf rfl rfl rfl rfl rfl rfl hm.1 hem) rfl rfl ?_)|refine sK ?_|refine sC (fun _=>?_) (fun _=>?_)|fail)
   exact retq rfl (by simp [zy,zdY,hs])
  ·have he:((tbl g t).map pi)[(Ws g m).toNat]?=some (pi ((tbl g t).getD (Ws g m).toNat 0)):=by rw [zQ (hsi hs)];exact YE (hsi hs)
   have hd:decide (Ws g m < 0)=false:=decide_eq_false hs
   repeat' (first|(refine shC ?_;first|refine qC c1 ?_|refine qC c2 ?_|refine qC c3 ?_|refine qC c4 ?_)|(refine shX ?_;first|refine zx rfl (zq zf rfl rfl rfl rfl rfl rfl hm.1 hem) rfl rfl ?_|refine AD.step _ _ _ _ _ rfl (zq zf rfl rfl rfl rfl rfl rfl hm.1 hem) rfl rfl ?_|refine qX he ?_)|refine sK ?_|refine sC (fun _=>?_) (fun _=>?_)|fail)
   exact retq rfl (by rw [zdY,if_neg hs];rfl)
 ·have hkb:(yt g (mAt g m).owner==2)=false:=by simp [hk]
  by_cases hs:Ws g m < 0
  ·repeat' (first|(refine shC ?_;first|refine qC c1 ?_|refine qC c2 ?_|refine qC c3 ?_)|(refine shX ?_;first|refine zx rfl (zq zf rfl rfl rfl rfl rfl rfl hm.1 hem) rfl rfl ?_|refine AD.step _ _ _ _ _ rfl (zq zf rfl rfl rfl rfl rfl rfl hm.1 hem) rfl rfl ?_)|refine sK ?_|refine sC (fun _=>?_) (fun _=>?_)|fail)
   exact retq rfl (by simp [zy,zdY,hs])
  ·have he:((tbl g t).map pi)[(Ws g m).toNat]?=some (pi ((tbl g t).getD (Ws g m).toNat 0)):=by rw [zQ (hsi hs)];exact YE (hsi hs)
   have hd:decide (Ws g m < 0)=false:=decide_eq_false hs
   repeat' (first|(refine shC ?_;first|refine qC c1 ?_|refine qC c2 ?_|refine qC c3 ?_|refine qC c4 ?_)|(refine shX ?_;first|refine zx rfl (zq zf rfl rfl rfl rfl rfl rfl hm.1 hem) rfl rfl ?_|refine AD.step _ _ _ _ _ rfl (zq zf rfl rfl rfl rfl rfl rfl hm.1 hem) rfl rfl ?_|refine qX he ?_)|refine sK ?_|refine sC (fun _=>?_) (fun _=>?_)|fail)
   exact retq rfl (by rw [zdY,if_neg hs];rfl)
theorem zpd {α:Type} {l:List α} {f:α→List Int} {i:Nat} (h:i < l.length):(l.drop i).flatMap f=f l[i]++(l.drop (i + 1)).flatMap f:=by
 rw [List.drop_eq_getElem_cons h,List.flatMap_cons]
theorem up0 {g:Img} (hW:Wl g) {t u k:Int} (hk:yt g t=0) (hu:u∈up g t) (h:k∈methodsOf g u):mOk g k∧(yt g (zbs g k)==2&&zeS g k)=false∧(yt g (zbs g k)=0→zbs g k∈up g t):=by
 have h1:=zkm hW _ t rfl hk _ hu
 refine ⟨qM h,?_,fun _=>by rw [zay h];exact hu⟩
 rw [zay h,h1];rfl
theorem zoR (g:Img) (hF:Fine g) (t m:Int) (hm:mOk g m) (hk:yt g t=0):ACall Tryz.prog 94 [zT g,pi t,pi m] (pi (VL g t m)):=by
 have hW:=zf4 hF.well
 obtain ⟨hgt,_,hgm,_⟩:=yH hF.formed
 have hem:=XT hm
 have hui:=zb9 g t
 have hul:=Ya _ _ hui.1 hui.2
 refine zi zf Tryz.func94 rfl (by kernel_rfl) Tryz.ntmps94 (by simp) _ rfl (fun hw gB hgB=>?_)
 repeat' (first|(refine shC ?_;first|refine zx rfl (zI rfl rfl (Yp g t (by omega))) rfl rfl ?_|refine AD.step _ _ _ _ _ rfl (zI rfl rfl (Yp g t (by omega))) rfl rfl ?_)|refine sA ?_|refine sC (fun _=>?_) (fun _=>?_)|fail)
 refine zW (fun i:Nat=>[(1,.pv (pi t)),(2,.pv (pi m)),(3,.pv (.ptr (zT g) 0)),(13,.pv (ints (up g t))),(14,.pv (pi (up g t).length)),(15,.pv (pi i))]) (fun _=>[]) (fun i=>i≤(up g t).length∧znU g t m=(((up g t).drop i).flatMap (methodsOf g)).find? (does g m)) (fun i=>(up g t).length - i) 0 ⟨by omega,rfl⟩ (tS) tH ?_
 rintro i ⟨hi,hr⟩
 by_cases hlt:i < (up g t).length
 ·obtain ⟨u,hu⟩:∃ u,u=(up g t)[i]:=⟨_,rfl⟩
  have hum:u∈up g t:=by rw [hu];exact List.getElem_mem hlt
  have heu:((up g t).map pi)[i]?=some (pi u):=by rw [hu];exact yj (f:=pi) hlt
  have c1:=Yu g u (by omega)
  have hml:=Qz g u
  rw [zpd hlt,←hu] at hr
  repeat' (first|(refine shC ?_;first|refine qC c1 ?_)|(refine shX ?_;first|refine qX heu ?_)|refine sK ?_|refine sC (fun _=>?_) (fun _=>?_)|fail)
  refine zW (fun j:Nat=>[(1,.pv (pi t)),(2,.pv (pi m)),(3,.pv (.ptr (zT g) 0)),(13,.pv (ints (up g t))),(14,.pv (pi (up g t).length)),(15,.pv (pi i)),(21,.pv (ints (methodsOf g u))),(22,.pv (pi (methodsOf g u).length)),(23,.pv (pi j))]) (fun _=>[])
   (fun j=>j≤(methodsOf g u).length∧znU g t m=((methodsOf g u).drop j++((up g t).drop (i + 1)).flatMap (methodsOf g)).find? (does g m)) (fun j=>(methodsOf g u).length - j) 0 ⟨by omega,hr⟩ (tS) tH ?_
  clear hr
  rintro j ⟨hj,hr⟩
  by_cases hjl:j < (methodsOf g u).length
  ·obtain ⟨k,hk2⟩:∃ k,k=(methodsOf g u)[j]:=⟨_,rfl⟩
   have hkm:k∈methodsOf g u:=by rw [hk2];exact List.getElem_mem hjl
   have hek:((methodsOf g u).map pi)[j]?=some (pi k):=by rw [hk2];exact yj (f:=pi) hjl
   obtain ⟨q1,q2,q3⟩:=up0 hW hk hum hkm
   have hekm:=XT q1
   have c2:=zsW hF q1
   have c3:=zfF (mAt g k) (mAt g m)
   rw [znq hF.formed q1 hm] at c3
   rw [List.drop_eq_getElem_cons hjl,←hk2,List.cons_append,List.find?_cons] at hr
   cases hv:zeS g k
   ·rw [hv] at c2
    rw [show does g m k=false by rw [does,hv];rfl] at hr
    repeat' (first|(refine shC ?_;first|refine qC c2 ?_)|(refine shX ?_;first|refine qX hek ?_|refine zx rfl (zq zf rfl rfl rfl rfl rfl rfl q1.1 hekm) rfl rfl ?_|refine AD.step _ _ _ _ _ rfl (zq zf rfl rfl rfl rfl rfl rfl q1.1 hekm) rfl rfl ?_)|refine sK ?_|refine sC (fun _=>?_) (fun _=>?_)|fail)
    exact ⟨j + 1,⟨hjl,hr⟩,tD,tS,tH⟩
   ·rw [hv] at c2
    cases ha:alk g k m
    ·rw [ha] at c3
     rw [show does g m k=false by rw [does,hv,ha];rfl] at hr
     repeat' (first|(refine shC ?_;first|refine qC c2 ?_|refine qC c3 ?_)|(refine shX ?_;first|refine qX hek ?_|refine zx rfl (zq zf rfl rfl rfl rfl rfl rfl q1.1 hekm) rfl rfl ?_|refine AD.step _ _ _ _ _ rfl (zq zf rfl rfl rfl rfl rfl rfl q1.1 hekm) rfl rfl ?_|refine zx rfl (zq zf rfl rfl rfl rfl rfl rfl hm.1 hem) rfl rfl ?_|refine AD.step _ _ _ _ _ rfl (zq zf rfl rfl rfl rfl rfl rfl hm.1 hem) rfl rfl ?_)|refine sK ?_|refine sC (fun _=>?_) (fun _=>?_)|fail)
     exact ⟨j + 1,⟨hjl,hr⟩,tD,tS,tH⟩
    ·rw [ha] at c3
     rw [show does g m k=true by rw [does,hv,ha];rfl] at hr
     repeat' (first|(refine shC ?_;first|refine qC c2 ?_|refine qC c3 ?_|refine qC (zl2 g hF t k q1 q2 q3) ?_)|(refine shX ?_;first|refine qX hek ?_|refine zx rfl (zq zf rfl rfl rfl rfl rfl rfl q1.1 hekm) rfl rfl ?_|refine AD.step _ _ _ _ _ rfl (zq zf rfl rfl rfl rfl rfl rfl q1.1 hekm) rfl rfl ?_|refine zx rfl (zq zf rfl rfl rfl rfl rfl rfl hm.1 hem) rfl rfl ?_|refine AD.step _ _ _ _ _ rfl (zq zf rfl rfl rfl rfl rfl rfl hm.1 hem) rfl rfl ?_)|refine sK ?_|refine sC (fun _=>?_) (fun _=>?_)|fail)
     exact retq rfl (by rw [VL,hr];rfl)
  ·rw [List.drop_eq_nil_of_le (by omega),List.nil_append] at hr
   repeat' (first|refine sK ?_|refine sC (fun _=>?_) (fun _=>?_)|fail)
   exact ⟨i + 1,⟨hlt,hr⟩,tD,tS,tH⟩
 ·rw [List.drop_eq_nil_of_le (by omega)] at hr
  repeat' (first|refine sK ?_|refine sC (fun _=>?_) (fun _=>?_)|fail)
  exact retq rfl (by rw [VL,hr];rfl)
theorem zfb (f:Int):0≤WU f:=by
 unfold WU
 cases qF f 2 <;> cases qF f 1 <;> cases qF f 16 <;> simp
def zhR (g:Img) (t:Ty):Bool:=(t.kind != 5&&t.kind != 6)||(t.kind==6&&yt g t.index==1)||(t.kind==5&&yt g t.index != 1)
theorem zrJ {g:Img} {t:Ty} (hp:ZI t=true) (ho:zh6 t g.types.length=true):zhR g t=Yd g t:=by
 have hk:=zbU g t.index
 have hn:(t.kind=5∨t.kind=6)→yt g t.index ≠ -1:=by
  intro h
  have h0:0≤t.index:=by
   rw [ZI] at hp
   split at hp
   ·cases hp
   ·rename_i hh;simp at hh;omega
  have h1:t.index < g.types.length:=by
   rw [zh6] at ho
   rcases h with h|h <;> simpa [h] using ho
  obtain ⟨td,htd⟩:=Vb ⟨h0,h1⟩
  rw [yt,htd]
  have:=zfb td.flags
  simp only;omega
 rw [zhR,Yd,hp]
 generalize yt g t.index=k at hk hn
 by_cases h5:t.kind=5
 ·have:=hn (.inl h5)
  rcases hk with rfl|rfl|rfl|rfl|rfl <;> simp_all
 ·by_cases h6:t.kind=6
  ·have:=hn (.inr h6)
   rcases hk with rfl|rfl|rfl|rfl|rfl <;> simp_all
  ·have e5:(t.kind==5)=false:=beq_eq_false_iff_ne.2 h5
   have e6:(t.kind==6)=false:=beq_eq_false_iff_ne.2 h6
   simp only [bne,e5,e6];rfl
theorem zct {t:Ty} {p n:Int} (h:WB t p n=true):ZI t=true∧zh6 t n=true:=by
 rw [WB,Bool.and_eq_true] at h
 refine ⟨?_,h.2⟩
 have:=h.1
 rw [ZK] at this
 cases hp:ZI t
 ·rw [hp] at this;simp at this
 ·rfl
def zrr (m:Me):List Ty:=(m.code.filter fun x=>yN x.op==8).map (·.t)
def zl7 (m:Me):List Ty:=(m.clauses.filter fun c=>c.kind==1).map (·.t)
def zbR (m:Me):List Ty:=m.params++m.locals++[m.ret]++zrr m++zl7 m
def zhI (g:Img) (m:Me):Bool:=Yd g m.ret&&m.params.all (Yd g)&&m.locals.all (Yd g)&&m.code.all (fun x=>yN x.op != 8||Yd g x.t)&&m.clauses.all (fun c=>c.kind != 1||Yd g c.t)
theorem zkD {α:Type} {l:List α} {p:α→Bool} {f:α→Ty} {q:Ty→Bool}:((l.filter p).map f).all q=l.all fun x=>!p x||q (f x):=by
 induction l with
 | nil=>rfl
 | cons x l ih =>
  rw [List.filter_cons]
  cases h:p x <;> simp [h,ih]
theorem zq8 {g:Img} {m:Me} (h:ZA g m=true):(zbR m).all (zhR g)=zhI g m:=by
 simp only [ZA,Vg,Bool.and_eq_true,List.all_eq_true,Xl,codeOk] at h
 obtain ⟨⟨⟨⟨_,hr⟩,hp⟩,hl⟩,⟨⟨_,hc⟩,hk⟩,_⟩:=h
 have e:(zbR m).all (zhR g)=(zbR m).all (Yd g):=by
  rw [Bool.eq_iff_iff,List.all_eq_true,List.all_eq_true]
  have:∀ t∈zbR m,zhR g t=Yd g t:=by
   intro t ht
   have key:ZI t=true∧zh6 t g.types.length=true:=by
    simp only [zbR,zrr,zl7,List.mem_append,List.mem_singleton,List.mem_map,List.mem_filter] at ht
    rcases ht with (((ht|ht)|rfl)|⟨x,⟨hx,ho⟩,rfl⟩)|⟨c,⟨hx,ho⟩,rfl⟩
    ·exact zct (hp t ht)
    ·exact zct (hl t ht)
    ·exact zct hr
    ·have h1:=hc x hx
     rw [beq_iff_eq] at ho
     obtain ⟨hf,h2⟩:=h1
     rw [ho] at h2
     refine ⟨?_,by simpa using h2⟩
     rw [beq_iff_eq,XK] at hf
     cases hpx:ZI x.t
     ·have hw:ZK x.t 1=false:=by rw [ZK,hpx];rfl
      split at hf
      ·omega
      ·split at hf
       ·omega
       ·split at hf
        ·omega
        ·rw [if_pos ⟨ho,hw⟩] at hf;omega
     ·rfl
    ·have h1:=hk c hx
     rw [beq_iff_eq] at ho
     rw [ho] at h1
     simp at h1
     exact zct h1
   exact zrJ key.1 key.2
  constructor
  ·intro h t ht;rw [←this t ht];exact h t ht
  ·intro h t ht;rw [this t ht];exact h t ht
 rw [e,zbR,List.all_append,List.all_append,List.all_append,List.all_append,zrr,zl7,zkD,zkD,zhI]
 have e1:(m.code.all fun x=>!(yN x.op==8)||Yd g x.t)=m.code.all fun x=>yN x.op != 8||Yd g x.t:=rfl
 have e2:(m.clauses.all fun c=>!(c.kind==1)||Yd g c.t)=m.clauses.all fun c=>c.kind != 1||Yd g c.t:=rfl
 rw [e1,e2]
 simp only [List.all_cons,List.all_nil,Bool.and_true]
 cases Yd g m.ret <;> simp [Bool.and_assoc]
def zg3 (m:Me):Bool:=m.code.length==0&&m.locals.length==0&&m.clauses.length==0&&m.max==0
def zhd (k:Int) (b1 b2 b4 b8 b16 rv f16 em nc:Bool):Bool:=!(b16&&(k != 0||rv||f16))&&!(b2&&(b1||k==1))&&!((b4||b8)&&!b2)&&(if b4 then em else nc)
def zkh (k:Int) (b4 m1 ab:Bool):Bool:=if k==2 then b4 else if k==3 then b4&&m1 else !b4||ab
def ze5 (k:Int) (b1 b2 b4 b8 b16 rv f16 em nc m1 ab:Bool):Bool :=
 !(b16&&(k != 0||rv||f16))&&!(b2&&(b1||k==1))&&!(!b2&&(b4||b8))&&!(b4&&!em)&&!(!b4&&(!nc||decide (2≤k)))&&!(k==3&&!m1)&&(!b4||decide (2≤k)||ab)
theorem zpT (b1 b2 b4 b8 b16 rv f16 em nc m1 ab:Bool) {k:Int} (hk:k=0∨k=1∨k=2∨k=3):(zhd k b1 b2 b4 b8 b16 rv f16 em nc&&zkh k b4 m1 ab)=ze5 k b1 b2 b4 b8 b16 rv f16 em nc m1 ab:=by
 simp only [zhd,zkh,ze5]
 generalize (b16&&(k != 0||rv||f16))=x
 generalize (b2&&(b1||k==1))=y
 rcases hk with rfl|rfl|rfl|rfl <;> cases x <;> cases y <;> cases b2 <;> cases b4 <;> cases b8 <;> cases em <;> cases nc <;> cases m1 <;> cases ab <;> rfl
def znL (g:Img) (m:Me):Bool:=zhd (yt g m.owner) (qF m.flags 1) (qF m.flags 2) (qF m.flags 4) (qF m.flags 8) (qF m.flags 16) (m.ret.kind != 1) (m.flags != 16) (zg3 m) (decide (0 < m.code.length))
def zjF (g:Img) (m:Me):Bool:=zkh (yt g m.owner) (qF m.flags 4) ((methodsOf g m.owner).length==1) (qF (g.types.getD m.owner.toNat default).flags 4)
def zli (g:Img) (m:Me):Bool:=ze5 (yt g m.owner) (qF m.flags 1) (qF m.flags 2) (qF m.flags 4) (qF m.flags 8) (qF m.flags 16) (m.ret.kind != 1) (m.flags != 16) (zg3 m) (decide (0 < m.code.length)) ((methodsOf g m.owner).length==1) (qF (g.types.getD m.owner.toNat default).flags 4)
structure MeOk (g:Img) (m:Me):Prop where
 f0:0≤m.flags
 f1:m.flags≤31
 o0:0≤m.owner
 o1:m.owner.toNat < g.types.length
 formed:ZA g m=true
theorem QV {g:Img} (hf:yJ g=true) {x:Int} (h:mOk g x):MeOk g (mAt g x):=by
 have h1:=Vr hf h
 have h2:=zch hf h.2
 simp only [yJ,Bool.and_eq_true,List.all_eq_true] at hf
 have:=hf.2 x.toNat (by simpa using h.2)
 rw [zgh] at this
 simp only [Bool.and_eq_true,decide_eq_true_eq] at this
 have e:g.methods.getD x.toNat default=mAt g x:=rfl
 rw [e] at this h2
 obtain ⟨⟨⟨t1,t2⟩,_⟩,_⟩:=this
 exact ⟨h1.1,h1.2,t1,by omega,h2⟩
theorem MeOk.kind {g:Img} {m:Me} (h:MeOk g m):yt g m.owner=0∨yt g m.owner=1∨yt g m.owner=2∨yt g m.owner=3:=by
 have h1:=zbU g m.owner
 obtain ⟨td,htd⟩:=Vb (g:=g) (t:=m.owner) ⟨h.o0,by have:=h.o1;have:=h.o0;omega⟩
 have h2:yt g m.owner=WU td.flags:=by rw [yt,htd]
 have h3:=zfb td.flags
 omega
theorem zsb {g:Img} {m:Me} (h:MeOk g m):(znL g m&&zjF g m)=zli g m:=zpT _ _ _ _ _ _ _ _ _ _ _ h.kind
theorem MeOk.small {g:Img} {m:Me} (h:MeOk g m):m.code.length≤160∧m.locals.length≤12∧m.params.length≤6∧m.clauses.length≤6∧0≤m.max∧m.max≤12:=by
 have:=h.formed
 simp only [ZA,Vg,zdy,Bool.and_eq_true,decide_eq_true_eq] at this
 obtain ⟨⟨⟨⟨⟨⟨⟨⟨⟨⟨_,_⟩,_⟩,h3⟩,h4⟩,h5⟩,h6⟩,_⟩,_⟩,_⟩,⟨⟨h7,_⟩,_⟩,h8⟩:=this
 refine ⟨by omega,by omega,by omega,?_,h3,h4⟩
 by_cases hc:6 < m.clauses.length
 ·rw [YM,if_pos hc] at h8;simp at h8
 ·omega
theorem zou {m:Me} (h1:m.code.length≤160) (h2:m.locals.length≤12) (h3:m.clauses.length≤6) (h4:0≤m.max) (h5:m.max≤12) :
  (IntKind.i64.wrap (IntKind.i64.wrap (IntKind.i64.wrap ((((m.code.map qj).length:Nat):Int) + (((m.locals.map yM).length:Nat):Int)) + (((m.clauses.map ZX).length:Nat):Int)) + m.max)==0)=zg3 m:=by
 simp only [List.length_map]
 rw [wrap_in (a:=(m.code.length:Int) + (m.locals.length:Int)) (by omega) (by omega),wrap_in (a:=(m.code.length:Int) + (m.locals.length:Int) + (m.clauses.length:Int)) (by omega) (by omega),wrap_in (by omega) (by omega),zg3,Bool.eq_iff_iff]
 simp only [beq_iff_eq,Bool.and_eq_true]
 omega
theorem ztg {g:Img} {m:Me} (h:MeOk g m):ACall Tryz.prog 82 [yB m,pi 1] (pb (qF m.flags 1))∧ACall Tryz.prog 82 [yB m,pi 2] (pb (qF m.flags 2))∧ACall Tryz.prog 82 [yB m,pi 4] (pb (qF m.flags 4))∧ACall Tryz.prog 82 [yB m,pi 8] (pb (qF m.flags 8))∧ACall Tryz.prog 82 [yB m,pi 16] (pb (qF m.flags 16)):=by
 obtain ⟨e1,e2,e4,e8,e16⟩:=zaR h.f0 h.f1
 exact ⟨e1 ▸ QF m 1,e2 ▸ QF m 2,e4 ▸ QF m 4,e8 ▸ QF m 8,e16 ▸ QF m 16⟩
set_option maxHeartbeats 4000000 in
theorem zh1 (g:Img) (hf:yJ g=true) (m:Me) (h:MeOk g m):ACall Tryz.prog 43 [zT g,yB m] (pb (znL g m)):=by
 obtain ⟨h1,h2,h4,h8,h16⟩:=ztg h
 have ck:=Zx g hf m.owner
 have hk:=h.kind
 obtain ⟨s1,s2,_,s4,s5,s6⟩:=h.small
 have he:=zou s1 s2 s4 s5 s6
 refine zi zf Tryz.func43 rfl (by kernel_rfl) Tryz.ntmps43 (by simp) _ rfl (fun hw gB hgB=>?_)
 rw [znL]
 generalize qF m.flags 1=b1 at h1 ⊢
 generalize qF m.flags 2=b2 at h2 ⊢
 generalize qF m.flags 4=b4 at h4 ⊢
 generalize qF m.flags 8=b8 at h8 ⊢
 generalize qF m.flags 16=b16 at h16 ⊢
 generalize zg3 m=em at he ⊢
 rcases hk with hk|hk|hk|hk <;> rw [hk] at ck ⊢ <;> clear hk
 all_goals repeat' (first|(refine shC ?_;first|refine qC ck ?_|refine qC h1 ?_|refine qC h2 ?_|refine qC h4 ?_|refine qC h8 ?_|refine qC h16 ?_)|refine sA ?_|refine sC (fun _=>?_) (fun _=>?_)|fail)
 all_goals (refine retq rfl ?_;first|(simp_all [zy,zhd];done)|(rename_i hx;simp_all [zy,zhd];omega)|(trace_state))
set_option maxHeartbeats 20000000
theorem zok (g:Img) (hf:yJ g=true) (t:Ty):ACall Tryz.prog 87 [zT g,yM t] (pb (zhR g t)):=by
 have ck:=Zx g hf t.index
 refine zi zf Tryz.func87 rfl (by kernel_rfl) Tryz.ntmps87 (by simp) _ rfl (fun hw gB hgB=>?_)
 rw [zhR]
 generalize yt g t.index=k at ck ⊢
 repeat' (first|(refine shC ?_;first|refine qC ck ?_)|refine sA ?_|refine sC (fun _=>?_) (fun _=>?_)|fail)
 all_goals (refine retq rfl ?_;simp_all [zy])
theorem zkL (g:Img) (hf:yJ g=true) (t:Ty):ACall Tryz.prog 86 ([]++[yM t]++[.ptr (zT g) 0]) (pb (!zhR g t)):=by
 show ACall Tryz.prog 86 [yM t,.ptr (zT g) 0] (pb (!zhR g t))
 refine zi zf Tryz.func86 rfl (by kernel_rfl) Tryz.ntmps86 (by simp) _ rfl (fun hw gB hgB=>?_)
 repeat' (first|(refine shC ?_;first|refine qC (zok g hf t) ?_)|refine sA ?_|refine sC (fun _=>?_) (fun _=>?_)|fail)
 exact retq rfl rfl
def QH (a b c:List Ty):Nat→Int
 | 0=>0
 | 1=>a.length
 | 2=>a.length + b.length
 | _=>a.length + b.length + c.length
def zdT (a b c:List Ty):Nat→List Ty
 | 0=>[]
 | 1=>a
 | 2=>a++b
 | _=>a++b++c
theorem zjS (a b c:List Ty) (ha:a.length≤100) (hb:b.length≤100) (hc:c.length≤100):ACallR Tryz.prog 83 [.slc 1 [tys a,tys b,tys c] true] 42 4 ((a++b++c).map yM):=by
 refine zee Tryz.func83 rfl (by kernel_rfl) Tryz.ntmps83 (by simp) rfl (fun hw gB hgB=>?_)
 repeat' (first|refine sK ?_|refine sC (fun _=>?_) (fun _=>?_)|fail)
 refine zW (fun k:Nat=>[(0,.pv (.slc 1 [tys a,tys b,tys c] true)),(9,.pv (.slc 1 [tys a,tys b,tys c] true)),(10,.pv (pi 3)),(11,.pv (pi k)),(3,.pv (pi (QH a b c k)))]) (fun _=>[]) (fun k=>k≤3) (fun k=>3 - k) 0 (by omega) (tS) tH ?_
 intro k hk
 have hk3:k=0∨k=1∨k=2∨k=3:=by omega
 rcases hk3 with rfl|rfl|rfl|rfl
 ·repeat' (first|refine zx rfl (zcM zf rfl (by first|omega|(simp [QH] <;> omega)) (by first|omega|(simp [QH] <;> omega))) rfl rfl ?_|(refine shX ?_;first|refine zx rfl (zq zf rfl rfl rfl rfl rfl rfl (by decide) rfl) rfl rfl ?_|refine AD.step _ _ _ _ _ rfl (zq zf rfl rfl rfl rfl rfl rfl (by decide) rfl) rfl rfl ?_)|refine sK ?_|refine sC (fun _=>?_) (fun _=>?_)|fail)
  exact ⟨1,by omega,tD,by repeat (first|exact yZ|refine yS rfl ?_|(refine Zn rfl ?_ ?_;· (first|(simp [QH];done)|(simp [QH];omega)|omega))),tH⟩
 ·repeat' (first|refine zx rfl (zcM zf rfl (by first|omega|(simp [QH] <;> omega)) (by first|omega|(simp [QH] <;> omega))) rfl rfl ?_|(refine shX ?_;first|refine zx rfl (zq zf rfl rfl rfl rfl rfl rfl (by decide) rfl) rfl rfl ?_|refine AD.step _ _ _ _ _ rfl (zq zf rfl rfl rfl rfl rfl rfl (by decide) rfl) rfl rfl ?_)|refine sK ?_|refine sC (fun _=>?_) (fun _=>?_)|fail)
  exact ⟨2,by omega,tD,by repeat (first|exact yZ|refine yS rfl ?_|(refine Zn rfl ?_ ?_;· (first|(simp [QH];done)|(simp [QH];omega)|omega))),tH⟩
 ·repeat' (first|refine zx rfl (zcM zf rfl (by first|omega|(simp [QH] <;> omega)) (by first|omega|(simp [QH] <;> omega))) rfl rfl ?_|(refine shX ?_;first|refine zx rfl (zq zf rfl rfl rfl rfl rfl rfl (by decide) rfl) rfl rfl ?_|refine AD.step _ _ _ _ _ rfl (zq zf rfl rfl rfl rfl rfl rfl (by decide) rfl) rfl rfl ?_)|refine sK ?_|refine sC (fun _=>?_) (fun _=>?_)|fail)
  exact ⟨3,by omega,tD,by repeat (first|exact yZ|refine yS rfl ?_|(refine Zn rfl ?_ ?_;· (first|(simp [QH];done)|(simp [QH];omega)|omega))),tH⟩
 ·repeat' (first|(refine zn ?_;first|refine zbS 0 rfl rfl rfl (zih _ (by simp [QH];omega) (by simp [QH];omega)) (by decide) rfl rfl rfl ?_)|refine sK ?_|refine sC (fun _=>?_) (fun _=>?_)|fail)
  refine zW (fun k:Nat=>[(6,.own 0),(25,.pv (.slc 1 [tys a,tys b,tys c] true)),(26,.pv (pi 3)),(27,.pv (pi k))]) (fun k=>[(0,.row 42 4 ((zdT a b c k).map yM))]) (fun k=>k≤3) (fun k=>3 - k) 0 (by omega) (tS) tH ?_
  intro k hk
  have hk3:k=0∨k=1∨k=2∨k=3:=by omega
  rcases hk3 with rfl|rfl|rfl|rfl
  ·repeat' (first|refine zx rfl (zcM zf rfl (by first|omega|(simp [QH] <;> omega)) (by first|omega|(simp [QH] <;> omega))) rfl rfl ?_|(refine shX ?_;first|refine zx rfl (zq zf rfl rfl rfl rfl rfl rfl (by decide) rfl) rfl rfl ?_|refine AD.step _ _ _ _ _ rfl (zq zf rfl rfl rfl rfl rfl rfl (by decide) rfl) rfl rfl ?_)|(refine yK ?_;first|refine qG zf rfl rfl rfl rfl rfl rfl rfl (by show _ * 32≤_;simp [zdT];omega) (by simp [zdT];omega) rfl rfl ?_)|refine sK ?_|refine sC (fun _=>?_) (fun _=>?_)|fail)
   exact ⟨1,by omega,tD,by repeat (first|exact yZ|refine yS rfl ?_|(refine Zn rfl ?_ ?_;· omega)),⟨zD rfl zG,rfl⟩⟩
  ·repeat' (first|refine zx rfl (zcM zf rfl (by first|omega|(simp [QH] <;> omega)) (by first|omega|(simp [QH] <;> omega))) rfl rfl ?_|(refine shX ?_;first|refine zx rfl (zq zf rfl rfl rfl rfl rfl rfl (by decide) rfl) rfl rfl ?_|refine AD.step _ _ _ _ _ rfl (zq zf rfl rfl rfl rfl rfl rfl (by decide) rfl) rfl rfl ?_)|(refine yK ?_;first|refine qG zf rfl rfl rfl rfl rfl rfl rfl (by show _ * 32≤_;simp [zdT];omega) (by simp [zdT];omega) rfl rfl ?_)|refine sK ?_|refine sC (fun _=>?_) (fun _=>?_)|fail)
   exact ⟨2,by omega,tD,by repeat (first|exact yZ|refine yS rfl ?_|(refine Zn rfl ?_ ?_;· omega)),⟨zD (by show some (HE.row 42 4 (_++_))=_;simp [zdT]) zG,rfl⟩⟩
  ·repeat' (first|refine zx rfl (zcM zf rfl (by first|omega|(simp [QH] <;> omega)) (by first|omega|(simp [QH] <;> omega))) rfl rfl ?_|(refine shX ?_;first|refine zx rfl (zq zf rfl rfl rfl rfl rfl rfl (by decide) rfl) rfl rfl ?_|refine AD.step _ _ _ _ _ rfl (zq zf rfl rfl rfl rfl rfl rfl (by decide) rfl) rfl rfl ?_)|(refine yK ?_;first|refine qG zf rfl rfl rfl rfl rfl rfl rfl (by show _ * 32≤_;simp [zdT];omega) (by simp [zdT];omega) rfl rfl ?_)|refine sK ?_|refine sC (fun _=>?_) (fun _=>?_)|fail)
   exact ⟨3,by omega,tD,by repeat (first|exact yZ|refine yS rfl ?_|(refine Zn rfl ?_ ?_;· omega)),⟨zD (by show some (HE.row 42 4 (_++_))=_;simp [zdT]) zG,rfl⟩⟩
  ·repeat' (first|refine sK ?_|refine sC (fun _=>?_) (fun _=>?_)|fail)
   exact ⟨.inr rfl,0,rfl,rfl⟩
theorem zij {α β:Type} {l:List α} {p:α→Bool} {f:α→β} {k:Nat} (h:k < l.length):(((l.take (k + 1)).filter p).map f)=((l.take k).filter p).map f++(if p l[k] then [f l[k]] else []):=by
 rw [List.take_succ_eq_append_getElem h,List.filter_append,List.map_append]
 cases hp:p l[k] <;> simp [hp]
theorem zqL {g:Img} {m:Me} (h:MeOk g m):(g.types.map Zl)[m.owner.toNat]?=some (Zl (g.types.getD m.owner.toNat default)):=by
 rw [zQ h.o1];exact YE h.o1
theorem zlF {g:Img} (hf:yJ g=true) {t:Int} (h0:0≤t) (h1:t.toNat < g.types.length):0≤(g.types.getD t.toNat default).flags∧(g.types.getD t.toNat default).flags≤31:=by
 have:typeAt g t=some (g.types.getD t.toNat default):=by
  rw [typeAt,if_pos h0,zQ h1];exact List.getElem?_eq_getElem h1
 have:=Vw hf this
 exact ⟨this.1,this.2.1⟩
set_option maxHeartbeats 4000000 in
theorem zlW (g:Img) (hf:yJ g=true) (m:Me) (h:MeOk g m):ACall Tryz.prog 44 [zT g,yB m] (pb (zjF g m)):=by
 obtain ⟨h1,h2,h4,h8,h16⟩:=ztg h
 have ck:=Zx g hf m.owner
 have hk:=h.kind
 have hgm:g.methods.length≤64:=(yH hf).2.2.1
 have cm:=Yu g m.owner (by omega)
 have hml:=Qz g m.owner
 have hto:=zqL h
 have hfl:=zlF hf h.o0 h.o1
 have hfe:qJ (g.types.getD m.owner.toNat default).flags 4=qF (g.types.getD m.owner.toNat default).flags 4:=(zaR hfl.1 hfl.2).2.2.1
 have hms:(((((methodsOf g m.owner).map pi).length:Nat):Int)==1)=((methodsOf g m.owner).length==1):=by
  rw [List.length_map,Bool.eq_iff_iff];simp only [beq_iff_eq];omega
 refine zi zf Tryz.func44 rfl (by kernel_rfl) Tryz.ntmps44 (by simp) _ rfl (fun hw gB hgB=>?_)
 rw [zjF]
 generalize qF m.flags 4=b4 at h4 ⊢
 rw [←hfe,qJ]
 rcases hk with hk|hk|hk|hk <;> rw [hk] at ck ⊢ <;> clear hk
 all_goals repeat' (first|(refine shC ?_;first|refine qC ck ?_|refine qC h4 ?_|refine qC cm ?_)|(refine shX ?_;first|refine zx rfl (zq zf rfl rfl rfl rfl rfl rfl h.o0 hto) rfl rfl ?_|refine AD.step _ _ _ _ _ rfl (zq zf rfl rfl rfl rfl rfl rfl h.o0 hto) rfl rfl ?_)|refine sA ?_|refine sC (fun _=>?_) (fun _=>?_)|fail)
 all_goals (refine retq rfl ?_;first|(simp_all [zy,zkh];done)|(simp_all [zy,zkh];omega))
abbrev u64 (n:Int):PV:=.base (.int .u64 n)
def g0:Img:=⟨[],[],[],-1⟩
section
variable {g:Img} {k i d:Int}
end
end Go.Cg
