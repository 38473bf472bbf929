/- A part of the walks by abstract values: no statement of its own. -/
import Derived.Test.YtemhfmmhkimhmaaGreatI29
import Derived.Test.YtemhfmmhkimhmaaGreatI8
import Derived.Test.YtemhfmmhkimhmaaGreatI7
import Derived.Test.YtemhfmmhkimhmaaGreatI9
import Derived.Test.YtemhfmmhkimhmaaGreatI26
import Derived.Test.YtemhfmmhkimhmaaGreatI13
import Derived.Test.YtemhfmmhkimhmaaGreatI28
import Derived.Test.YtemhfmmhkimhmaaGreatI12
import Derived.Test.YtemhfmmhkimhmaaGreatI10
import Derived.Test.YtemhfmmhkimhmaaGreatI17
set_option linter.unusedVariables false
set_option linter.unusedSimpArgs false
namespace Go.Cg
open Go.Proofs
def zus (t:Int) (f:Fd):Bool:=f.owner==t&&!f.static
theorem zcg {α:Type} {p:α->Bool} {l:List α} {k:Nat} (h:k < l.length):(l.take (k + 1)).filter p=(l.take k).filter p++if p l[k] then [l[k]] else []:=by
 rw [List.take_succ_eq_append_getElem h,List.filter_append];cases hp:p l[k] <;> simp [hp]
theorem zc1 {g:Img} {p:Fd->Bool} {l:List Fd} {k:Nat} (h:k < l.length) (hp:p l[k]=true):fcs g ((l.take (k + 1)).filter p)=fcs g ((l.take k).filter p)++ZA g l[k].ty:=by
 rw [zcg h,if_pos hp,zic,zoD];simp [fcs]
theorem zdB {g:Img} {p:Fd->Bool} {l:List Fd} {k:Nat} (h:k < l.length) (hp:p l[k]=false):fcs g ((l.take (k + 1)).filter p)=fcs g ((l.take k).filter p):=by
 rw [zcg h,hp];simp
theorem ziC (g:Img) (p:Fd->Bool) (l:List Fd) (k:Nat):(fcs g ((l.take k).filter p)).length<=(fcs g (l.filter p)).length:=by
 have:l.filter p=(l.take k).filter p++(l.drop k).filter p:=by rw [<-List.filter_append,List.take_append_drop]
 rw [this,zc9];omega
theorem zxk {g:Img} {n:Nat} {t:Ty} (h:∀ f∈Ya g t.index,Dp g n f.ty) {k:Nat} (hk:k < g.fields.length) (hp:zus t.index g.fields[k]=true):Dp g n g.fields[k].ty :=
 h _ (List.mem_filter.2 ⟨List.getElem_mem hk,hp⟩)
set_option maxHeartbeats 1000000 in
theorem zhh (g:Img) (hwl:Yz g=true) (hu:Yu g=true) (b:Nat) (hb:b<=100) (hb1:1<=b):∀ (n:Nat) (t:Ty),Dp g n t->ACall Tryz.prog 93 [zK g,yI t,pi b] (pi (Qv g b t:Nat)):=by
 have hf:=YA hwl;have hgl:g.fields.length<=64:=by have:=(yg hf).2.1;omega
 intro n;induction n with
 | zero =>
  intro t hd;have hwh:whole t=true:=hd;have cw:=zgM t;rw [hwh] at cw;refine zh zf Tryz.func93 rfl zws Tryz.ntmps93 zwy63 _ rfl (fun hw gB hgB=>?_);by_cases hk:t.kind=1
  ·have e:Qv g b t=0:=by rw [Qv,zcq hwl hu hk];rfl
   have hkb:(t.kind==1)=true:=by simp [hk]
   repeat' (first|refine sK ?_|refine sC (fun _=>?_) (fun _=>?_)|fail)
   all_goals exact retq rfl (by rw [e];rfl)
  ·have e:Qv g b t=1:=by rw [Qv,zbw hwl hu hk hwh];simp <;> omega
   have hkb:(t.kind==1)=false:=by simp [hk]
   repeat' (first|(refine shC ?_;first|refine qC cw ?_)|refine sK ?_|refine sC (fun _=>?_) (fun _=>?_)|fail)
   all_goals exact retq rfl (by rw [e];rfl)
 | succ n ih =>
  intro t hd;have cw:=zgM t;refine zh zf Tryz.func93 rfl zws Tryz.ntmps93 zwy63 _ rfl (fun hw gB hgB=>?_);cases hwh:whole t
  ·rw [hwh] at cw;obtain ⟨k1,k2,k3⟩:=zeH hwh;have hn:=zkI hd hwh;have hkb1:(t.kind==1)=false:=by simp [k1]
   repeat' (first|(refine shC ?_;first|refine qC cw ?_)|refine sK ?_|refine sC (fun _=>?_) (fun _=>?_)|fail)
   refine zL (fun x:Nat × Nat=>[(2,.pv (pi b)),(3,.pv (.ptr (zK g) 0)),(4,.pv (.ptr (yI t) 0)),(7,.pv (pi x.2)),(8,.pv (pi x.1))]) (fun _=>[])
    (fun x=>x.1<=g.fields.length/\x.2<=2 * b + 1/\Cnt b x.2 (fcs g ((g.fields.take x.1).filter (zus t.index))).length) (fun x=>g.fields.length - x.1) (0,0) ⟨by simp,by simp,rfl⟩ (tS) tH ?_
   rintro ⟨k,r⟩ ⟨hk,hr,hc⟩;simp only at hk hr hc;have hfin:∀ s:Nat,Cnt b r s->s<=(fcs g (Ya g t.index)).length->(b < r\/s=(fcs g (Ya g t.index)).length)->Qv g b t=min (max r 1) (b + 1):=by
    intro s h1 h2 h3;rw [Qv,zdi hwl hu hwh];unfold Cnt at h1;omega
   have hle:=ziC g (zus t.index) g.fields k;have hwb:IntKind.i64.wrap ((b:Int) + 1)=((b + 1:Nat):Int):=by rw [wrap_in zwy62 zwy62];omega
   by_cases hlt:k < g.fields.length
   ·have he:=zS (f:=ZI) hlt;by_cases hrb:r<=b
    ·cases hp:zus t.index g.fields[k]
     ·have hcn:Cnt b r (fcs g ((g.fields.take (k + 1)).filter (zus t.index))).length:=by rw [zdB hlt hp];exact hc
      have hpa:(g.fields[k].owner==t.index&&!g.fields[k].static)=false:=hp;clear hfin
      repeat' (first|(refine shX ?_;first|refine qX he ?_)|refine sA ?_|refine sC (fun _=>?_) (fun _=>?_)|fail)
      all_goals first
       | exact ⟨(k + 1,r),⟨hlt,hr,hcn⟩,tD,tS,tH⟩
       | (exfalso;simp_all;done)
       | (exfalso;simp_all;omega)
     ·have c1:=ih g.fields[k].ty (zxk hn hlt hp);have hs:=zc1 (g:=g) hlt hp;have hcl:Qv g b g.fields[k].ty<=b + 1:=Nat.min_le_right _ _;have hcn:=hc.add (l:=(ZA g g.fields[k].ty).length) hrb;rw [<-List.length_append,<-hs] at hcn;rw [show min (ZA g g.fields[k].ty).length (b + 1)=Qv g b g.fields[k].ty from rfl] at hcn;generalize Qv g b g.fields[k].ty=c at c1 hcl hcn;have hpa:(g.fields[k].owner==t.index&&!g.fields[k].static)=true:=hp;rw [Bool.and_eq_true] at hpa;obtain ⟨hp1,hp2⟩:=hpa;clear hfin
      repeat' (first|(refine shC ?_;first|refine qC c1 ?_)|(refine shX ?_;first|refine qX he ?_)|refine sK ?_|refine sC (fun _=>?_) (fun _=>?_)|fail)
      all_goals first
       | exact ⟨(k + 1,r + c),⟨hlt,by simp only;omega,hcn⟩,tD,by repeat (first|exact yO|refine yA rfl ?_|(refine qW rfl ?_ ?_;· (first|(rw [wrap_in zwy62 zwy62] <;> omega)|(dsimp only;rw [wrap_in zwy62 zwy62] <;> (push_cast;omega))))),tH⟩
       | (exfalso;simp_all;done)
    ·have e:=hfin _ hc hle (.inl zwy62)
     repeat' (first|refine sK ?_|refine sC (fun _=>?_) (fun _=>?_)|fail)
     all_goals first
      | (refine ak ?_;rw [e];simp only [zn,hwb] <;> (congr 3 <;> omega))
      | (exfalso;omega)
      | (trace "LEFT1";trace_state)
   ·have e:=hfin _ hc hle (.inr (by rw [List.take_of_length_le (by omega)];rfl));clear hfin
    repeat' (first|refine sA ?_|refine sC (fun _=>?_) (fun _=>?_)|fail)
    all_goals first
     | (refine ak ?_;rw [e];simp only [zn,hwb] <;> (congr 3 <;> (simp_all;omega)))
     | (refine ak ?_;rw [e];simp only [zn] <;> (congr 3 <;> (simp_all <;> omega)))
     | (exfalso;simp_all <;> omega)
     | (rename_i h1 _
        have h0:r=0:=by
         have:=eq_of_beq h1;simp only at this;omega
        refine ak ?_;rw [e,h0];have:min (max 0 1) (b + 1)=1:=by omega
        rw [this];rfl)
  ·rw [hwh] at cw;by_cases hk:t.kind=1
   ·have e:Qv g b t=0:=by rw [Qv,zcq hwl hu hk];rfl
    have hkb:(t.kind==1)=true:=by simp [hk]
    repeat' (first|refine sK ?_|refine sC (fun _=>?_) (fun _=>?_)|fail)
    all_goals exact retq rfl (by rw [e];rfl)
   ·have e:Qv g b t=1:=by rw [Qv,zbw hwl hu hk hwh];simp <;> omega
    have hkb:(t.kind==1)=false:=by simp [hk]
    repeat' (first|(refine shC ?_;first|refine qC cw ?_)|refine sK ?_|refine sC (fun _=>?_) (fun _=>?_)|fail)
    all_goals exact retq rfl (by rw [e];rfl)
theorem zq1 (l:List Int):(zam l 0).map (·.2)=l.reverse:=by
 apply List.ext_getElem
 ·simp [zam]
 ·intro i h1 h2;have hi:i < l.length:=by simpa [zam] using h1
  simp only [zam,List.getElem_map,List.getElem_range,List.getElem_reverse];rw [List.getD_eq_getElem?_getD,List.getElem?_eq_getElem zwy62,Option.getD_some]
set_option maxHeartbeats 20000000
theorem zwk10 {G:Prop} (h:G:=by repeat' (first|(refine shC ?_;first|(have:=b0;refine qC c1 ?_))|(refine shX ?_;first|(have:=b1;refine qX he ?_))|refine sK ?_|refine sC (fun _=>?_) (fun _=>?_)|(have:=b0;exact ⟨(m + 1,s + c),⟨hltm,by simp only;omega,hfs⟩,tD,by repeat (first|exact yO|refine yA rfl ?_|(refine qW rfl ?_ ?_;· (first|(rw [wrap_in zwy62 zwy62] <;> omega)|(dsimp only;rw [wrap_in zwy62 zwy62] <;> (push_cast;omega))))),tH⟩)|(have:=b2;exact ⟨(k + 1,s),⟨hlt,hs,by rw [hfs];exact hfd⟩,tD,tS,tH⟩)|(have:=b3;exact retq rfl (by rw [<-hfd];rfl))|exact ⟨(m + 1,s),⟨hltm,hs,hfs⟩,tD,tS,tH⟩|fail)):G:=h
theorem zpl (g:Img) (hwl:Yz g=true) (hu:Yu g=true) (t:Int):∃ r:Nat,Cnt 32 r (objT g t).length/\ACall Tryz.prog 103 [zK g,pi t] (pi (r:Nat)):=by
 have hf:=YA hwl;have hgl:g.fields.length<=64:=by have:=(yg hf).2.1;omega
 have hgt:g.types.length<=32:=(yg hf).1;have hui:=WS g t;have hul:=ZF _ _ hui.1 hui.2;let add:Nat->Fd->Nat:=fun r f=>if r<=32 then r + Qv g 32 f.ty else r
 let addU:Nat->Int->Nat:=fun r u=>(Ya g u).foldl add r
 have hadd:∀ (l:List Fd) (r s:Nat),r<=65->Cnt 32 r s->l.foldl add r<=65/\Cnt 32 (l.foldl add r) (s + (fcs g l).length):=by
  intro l;induction l with
  | nil=>intro r s h1 h2;exact ⟨h1,by simpa [fcs] using h2⟩
  | cons f l ih =>
   intro r s h1 h2;rw [List.foldl_cons,zaA,<-Nat.add_assoc];have hcl:Qv g 32 f.ty<=33:=Nat.min_le_right _ _;refine ih _ _ ?_ ?_
   ·simp only [add];split <;> omega
   ·simp only [add];split
    ·rename_i h;exact h2.add h
    ·rename_i h;exact h2.stay zwy62
 have haddU:∀ (us:List Int) (r s:Nat),r<=65->Cnt 32 r s->us.foldl addU r<=65/\Cnt 32 (us.foldl addU r) (s + (us.map fun u=>(fcs g (Ya g u)).length).sum):=by
  intro us;induction us with
  | nil=>intro r s h1 h2;exact ⟨h1,by simpa using h2⟩
  | cons u us ih =>
   intro r s h1 h2;obtain ⟨k1,k2⟩:=hadd (Ya g u) r s h1 h2;rw [List.foldl_cons,List.map_cons,List.sum_cons,<-Nat.add_assoc];exact ih _ _ k1 k2
 obtain ⟨hb,hc⟩:=haddU (up g t) 0 0 zwy62 (Cnt.zero _);rw [Nat.zero_add,<-znI] at hc;refine ⟨(up g t).foldl addU 0,hc,?_⟩;clear hc;refine zh zf Tryz.func103 rfl zws Tryz.ntmps103 zwy63 _ rfl (fun hw gB hgB=>?_)
 repeat' (first|(refine shC ?_;first|refine zy rfl (zJ rfl rfl (YZ g t zwy62)) rfl rfl ?_|refine zq rfl (zJ rfl rfl (YZ g t zwy62)) rfl rfl ?_)|refine sA ?_|refine sC (fun _=>?_) (fun _=>?_)|fail)
 refine zL (fun x:Nat × Nat=>[(2,.pv (.ptr (zK g) 0)),(5,.pv (pi x.2)),(12,.pv (ints (up g t))),(13,.pv (pi (up g t).length)),(14,.pv (pi x.1))]) (fun _=>[])
  (fun x=>x.1<=(up g t).length/\x.2<=65/\((up g t).drop x.1).foldl addU x.2=(up g t).foldl addU 0) (fun x=>(up g t).length - x.1) (0,0) ⟨by simp,by simp,rfl⟩ (tS) tH ?_
 rintro ⟨k,r⟩ ⟨hk,hr,hfd⟩;simp only at hk hr hfd;by_cases hlt:k < (up g t).length
 ·have heU:=qI hlt;rw [Wp hlt] at hfd;have hol:=zor g (up g t)[k]
  repeat' (first|(refine shC ?_;first|refine qC (zn3 g _ hf) ?_)|(refine shX ?_;first|refine qX heU ?_)|refine sK ?_|refine sC (fun _=>?_) (fun _=>?_)|fail)
  refine zL (fun x:Nat × Nat=>[(2,.pv (.ptr (zK g) 0)),(5,.pv (pi x.2)),(12,.pv (ints (up g t))),(13,.pv (pi (up g t).length)),(14,.pv (pi k)),(20,.pv (.slc 7 ((Ya g (up g t)[k]).map ZI) false)),(21,.pv (pi (Ya g (up g t)[k]).length)),(22,.pv (pi x.1))]) (fun _=>[])
   (fun x=>x.1<=(Ya g (up g t)[k]).length/\x.2<=65/\((Ya g (up g t)[k]).drop x.1).foldl add x.2=addU r (up g t)[k]) (fun x=>(Ya g (up g t)[k]).length - x.1) (0,r) ⟨by simp,hr,rfl⟩ (tS) tH ?_
  rintro ⟨m,s⟩ ⟨hm,hs,hfs⟩;simp only at hm hs hfs;by_cases hltm:m < (Ya g (up g t)[k]).length
  ·have he:=zS (f:=ZI) hltm;rw [Wp hltm] at hfs;have c1:=zid g hwl hu 32 zwy62 zwy62 _ (Ya g (up g t)[k])[m].ty (zia hwl hu _);have hcl:Qv g 32 (Ya g (up g t)[k])[m].ty<=33:=Nat.min_le_right _ _;simp only [add] at hfs;generalize Qv g 32 (Ya g (up g t)[k])[m].ty=c at c1 hcl hfs;by_cases hsb:s<=32
   ·rw [if_pos hsb] at hfs;have hd1:decide ((s:Int)<=32)=true:=by simp;omega
    have b0:=();have b1:=();exact zwk10
   ·rw [if_neg hsb] at hfs;have hd1:decide ((s:Int)<=32)=false:=by simp;omega
    have b1:=();exact zwk10
  ·rw [drop_end zwy62] at hfs;simp only [List.foldl_nil] at hfs;have b2:=();exact zwk10
 ·rw [drop_end zwy62] at hfd;simp only [List.foldl_nil] at hfd;have b3:=();exact zwk10
theorem zhT {g:Img} {k:Nat} (h:k < g.fields.length):g.fields.getD k default=g.fields[k]:=zQ h
theorem zwk11 {G:Prop} (h:G:=by repeat' (first|(refine shC ?_;first|(have:=b0;refine qC c0 ?_)|(have:=b1;refine qC c1 ?_)|(have:=b2;refine qC c2 ?_))|(refine shX ?_;first|(have:=b3;refine qX he ?_))|refine sK ?_|refine sC (fun _=>?_) (fun _=>?_)|(have:=b0;exact retq rfl (by simp [zn,YN,hwl]))|(have:=b3;exact retq rfl (by rw [hfin];rfl))|(have:=b4;exact ⟨k + 1,⟨hlt,hnx (by rw [hsb];rfl)⟩,tD,tS,tH⟩)|(have:=b5;exact retq rfl zwy112)|(have:=b6;exact retq rfl (by rw [zeG hwl hu (fun j hj=>hno j (by omega))];rfl))|fail)):G:=h
theorem zoo (g:Img) (hx:OkA g):ACall Tryz.prog 64 [zK g] (.tup [pi (YN g).1,pi (YN g).2]):=by
 refine zh zf Tryz.func64 rfl zws Tryz.ntmps64 zwy63 _ rfl (fun hw gB hgB=>?_);have c0:=zoJ g hx;cases hwl:Yz g
 ·rw [hwl] at c0;have b0:=();exact zwk11
 ·rw [hwl] at c0;have hf:=YA hwl;have hgl:g.fields.length<=64:=by have:=(yg hf).2.1;omega
  have hgt:g.types.length<=32:=(yg hf).1
  repeat' (first|(refine shC ?_;first|refine qC c0 ?_)|refine sK ?_|refine sC (fun _=>?_) (fun _=>?_)|fail)
  refine zL (fun k:Nat=>[(1,.pv (.ptr (zK g) 0)),(11,.pv (.slc 7 (g.fields.map ZI) false)),(12,.pv (pi g.fields.length)),(13,.pv (pi k))]) (fun _=>[]) (fun k=>k<=g.fields.length/\∀ j,j < k->qE g (g.fields.getD j default).ty=true) (fun k=>g.fields.length - k) 0 ⟨by omega,fun j h=>by omega⟩ (tS) tH ?_;rintro k ⟨hk,hno⟩;by_cases hlt:k < g.fields.length
  ·have he:=zS (f:=ZI) hlt;have c1:=zpt g g.fields[k].ty hf;cases hus:qE g g.fields[k].ty
   ·have hfin:=zff hwl hlt hno (by rw [zhT hlt];exact hus);rw [hus] at c1;have b1:=();have b3:=();exact zwk11
   ·rw [hus] at c1
    repeat' (first|(refine shC ?_;first|refine qC c1 ?_)|(refine shX ?_;first|refine qX he ?_)|refine sK ?_|refine sC (fun _=>?_) (fun _=>?_)|fail)
    exact ⟨k + 1,⟨hlt,fun j hj=>by
     by_cases e:j=k
     ·subst e;rw [zhT hlt];exact hus
     ·exact hno j zwy62⟩,tD,tS,tH⟩
  ·have hu:Yu g=true:=List.all_eq_true.2 fun j hj=>hno j (by have:=List.mem_range.1 hj;omega)
   clear hno
   repeat' (first|refine sK ?_|refine sC (fun _=>?_) (fun _=>?_)|fail)
   refine zL (fun k:Nat=>[(1,.pv (.ptr (zK g) 0)),(27,.pv (pi g.types.length)),(28,.pv (pi k))]) (fun _=>[]) (fun k=>k<=g.types.length/\∀ j,j < k->Yr g j=false) (fun k=>g.types.length - k) 0 ⟨by omega,fun j h=>by omega⟩ (tS) tH ?_;clear hk hlt;rintro k ⟨hk,hno⟩;by_cases hlt:k < g.types.length
   ·have c1:=Yd g hf (k:Int);have hfin:=fun h=>zfK hwl hu hlt hno h
    have hnx:Yr g k=false->∀ j,j < k + 1->Yr g j=false:=fun h j hj=>by
     by_cases e:j=k
     ·subst e;exact h
     ·exact hno j zwy62
    have hsb:Yr g k=((zW g k==1&&decide (8 < (ZA g ⟨6,k,0,false⟩).length))||(zW g k==0&&decide (32 < (objT g k).length))):=rfl;clear hno;by_cases hk1:zW g k=1
    ·have c2:=zsl g hwl hu 8 zwy62 zwy62 ⟨6,k,0,false⟩;rw [hk1] at hsb c1;cases hl:decide (8 < (ZA g ⟨6,k,0,false⟩).length)
     ·rw [hl] at c2 hsb;have b1:=();have b2:=();have b4:=();exact zwk11
     ·rw [hl] at c2 hsb;have b1:=();have b2:=();have b5:=();exact zwk11
    ·have hb1:(zW g k==1)=false:=by simp [hk1]
     by_cases hk0:zW g k=0
     ·obtain ⟨r,hr,c2⟩:=zpl g hwl hu k;rw [hk0] at hsb c1;have hd:decide (32 < (r:Int))=decide (32 < (objT g k).length):=by rw [decide_eq_decide,<-hr.more];omega
      cases hl:decide (32 < (objT g k).length)
      ·rw [hl] at hsb hd;have b1:=();have b2:=();have b4:=();exact zwk11
      ·rw [hl] at hsb hd;have b1:=();have b2:=();have b5:=();exact zwk11
     ·have hb0:(zW g k==0)=false:=by simp [hk0]
      rw [hb1,hb0] at hsb;have b1:=();have b4:=();exact zwk11
   ·have b6:=();exact zwk11
set_option maxHeartbeats 20000000
def ztN (g:Img) (t:Int) (f:Fd):Bool:=decide (f.owner∈up g t)&&!f.static
theorem zwk8 {G:Prop} (h:G:=by repeat' (first|(refine shC ?_;first|(have:=b0;refine qC c0 ?_)|(have:=b1;refine qC c1 ?_)|(have:=b2;refine qC c2 ?_))|(refine shX ?_;first|(have:=b3;refine qX he ?_))|refine sK ?_|refine sC (fun _=>?_) (fun _=>?_)|(have:=b0;exact retq rfl (by simp [zn,YN,hwl]))|(have:=b3;exact retq rfl (by rw [hfin];rfl))|(have:=b4;exact ⟨k + 1,⟨hlt,hnx (by rw [hsb];rfl)⟩,tD,tS,tH⟩)|(have:=b5;exact retq rfl zwy112)|(have:=b6;exact retq rfl (by rw [zeG hwl hu (fun j hj=>hno j (by omega))];rfl))|fail)):G:=h
theorem zjK (g:Img):ACall Tryz.prog 55 [zK g] (.tup [pi (YN g).1,pi (YN g).2]):=by
 refine zh zf Tryz.func55 rfl zws Tryz.ntmps55 zwy63 _ rfl (fun hw gB hgB=>?_);have c0:=zrz g;cases hwl:Yz g
 ·rw [hwl] at c0;have b0:=();exact zwk8
 ·rw [hwl] at c0;have hf:=YA hwl;have hgl:g.fields.length<=64:=by have:=(yg hf).2.1;omega
  have hgt:g.types.length<=32:=(yg hf).1
  repeat' (first|(refine shC ?_;first|refine qC c0 ?_)|refine sK ?_|refine sC (fun _=>?_) (fun _=>?_)|fail)
  refine zL (fun k:Nat=>[(1,.pv (.ptr (zK g) 0)),(4,.pv (pi k))]) (fun _=>[]) (fun k=>k<=g.fields.length/\∀ j,j < k->qE g (g.fields.getD j default).ty=true) (fun k=>g.fields.length - k) 0 ⟨by omega,fun j h=>by omega⟩ (tS) tH ?_;rintro k ⟨hk,hno⟩;by_cases hlt:k < g.fields.length
  ·have he:=zS (f:=ZI) hlt;have c1:=Vl g g.fields[k].ty;cases hus:qE g g.fields[k].ty
   ·have hfin:=zff hwl hlt hno (by rw [zhT hlt];exact hus);rw [hus] at c1;have b1:=();have b3:=();exact zwk8
   ·rw [hus] at c1
    repeat' (first|(refine shC ?_;first|refine qC c1 ?_)|(refine shX ?_;first|refine qX he ?_)|refine sK ?_|refine sC (fun _=>?_) (fun _=>?_)|fail)
    exact ⟨k + 1,⟨hlt,fun j hj=>by
     by_cases e:j=k
     ·subst e;rw [zhT hlt];exact hus
     ·exact hno j zwy62⟩,tD,tS,tH⟩
  ·have hu:Yu g=true:=List.all_eq_true.2 fun j hj=>hno j (by have:=List.mem_range.1 hj;omega)
   clear hno
   repeat' (first|refine sK ?_|refine sC (fun _=>?_) (fun _=>?_)|fail)
   refine zL (fun k:Nat=>[(1,.pv (.ptr (zK g) 0)),(5,.pv (pi k))]) (fun _=>[]) (fun k=>k<=g.types.length/\∀ j,j < k->Yr g j=false) (fun k=>g.types.length - k) 0 ⟨by omega,fun j h=>by omega⟩ (tS) tH ?_;clear hk hlt;rintro k ⟨hk,hno⟩;by_cases hlt:k < g.types.length
   ·have c1:=Zq g (k:Int);have hfin:=fun h=>zfK hwl hu hlt hno h
    have hnx:Yr g k=false->∀ j,j < k + 1->Yr g j=false:=fun h j hj=>by
     by_cases e:j=k
     ·subst e;exact h
     ·exact hno j zwy62
    have hsb:Yr g k=((zW g k==1&&decide (8 < (ZA g ⟨6,k,0,false⟩).length))||(zW g k==0&&decide (32 < (objT g k).length))):=rfl;clear hno;by_cases hk1:zW g k=1
    ·have c2:=zhh g hwl hu 8 zwy62 zwy62 _ ⟨6,k,0,false⟩ (zia hwl hu _);rw [hk1] at hsb c1;have hd:decide (8 < ((Qv g 8 ⟨6,k,0,false⟩:Nat):Int))=decide (8 < (ZA g ⟨6,k,0,false⟩).length):=by rw [decide_eq_decide];unfold Qv;omega
     generalize Qv g 8 ⟨6,k,0,false⟩=c at c2 hd;cases hl:decide (8 < (ZA g ⟨6,k,0,false⟩).length)
     ·rw [hl] at hsb hd;have b1:=();have b2:=();have b4:=();exact zwk8
     ·rw [hl] at hsb hd;have b1:=();have b2:=();have b5:=();exact zwk8
    ·have hb1:(zW g k==1)=false:=by simp [hk1]
     by_cases hk0:zW g k=0
     ·rw [hk0] at hsb c1;have hui:=WS g k;have hul:=ZF _ _ hui.1 hui.2;have hobl:(fcs g (g.fields.filter (ztN g k))).length=(objT g k).length:=zuj g k
      repeat' (first|(refine shC ?_;first|refine qC c1 ?_|refine zy rfl (zJ rfl rfl (za3 g k zwy62)) rfl rfl ?_|refine zq rfl (zJ rfl rfl (za3 g k zwy62)) rfl rfl ?_)|refine sK ?_|refine sC (fun _=>?_) (fun _=>?_)|fail)
      refine zL (fun x:Nat × Nat=>[(1,.pv (.ptr (zK g) 0)),(5,.pv (pi k)),(7,.pv (pi x.2)),(8,.pv (ints (up g k))),(9,.pv (pi x.1))]) (fun _=>[])
       (fun x=>x.1<=g.fields.length/\x.2<=65/\Cnt 32 x.2 (fcs g ((g.fields.take x.1).filter (ztN g k))).length) (fun x=>g.fields.length - x.1) (0,0) ⟨by simp,by simp,rfl⟩ (tS) tH ?_
      rintro ⟨m,r⟩ ⟨hm,hr,hc⟩;simp only at hm hr hc;have hle:=ziC g (ztN g k) g.fields m;rw [hobl] at hle;have hend:(32 < r\/m=g.fields.length)->decide (32 < (r:Int))=decide (32 < (objT g k).length):=by
       intro h;rw [decide_eq_decide];have:=hc.more;rcases h with h|h
       ·exact ⟨fun _=>by omega,fun _=>by omega⟩
       ·subst h;rw [List.take_length,hobl] at hc;have:=hc.more;omega
      by_cases hltm:m < g.fields.length
      ·by_cases hrb:r<=32
       ·have he:=zS (f:=ZI) hltm;have cH:=XP (up g k) g.fields[m].owner;clear hend;cases hp:ztN g k g.fields[m]
        ·have hcn:Cnt 32 r (fcs g ((g.fields.take (m + 1)).filter (ztN g k))).length:=by rw [zdB hltm hp];exact hc
         have hpa:(decide (g.fields[m].owner∈up g k)&&!g.fields[m].static)=false:=hp;generalize decide (g.fields[m].owner∈up g k)=bo at cH hpa
         repeat' (first|(refine shC ?_;first|refine qC cH ?_)|(refine shX ?_;first|refine qX he ?_)|refine sA ?_|refine sC (fun _=>?_) (fun _=>?_)|fail)
         all_goals first
          | exact ⟨(m + 1,r),⟨hltm,hr,hcn⟩,tD,tS,tH⟩
          | (exfalso;simp_all;done)
          | (exfalso;simp_all;omega)
        ·have c2:=zhh g hwl hu 32 zwy62 zwy62 _ g.fields[m].ty (zia hwl hu _);have hs:=zc1 (g:=g) hltm hp;have hcl:Qv g 32 g.fields[m].ty<=33:=Nat.min_le_right _ _;have hcn:=hc.add (l:=(ZA g g.fields[m].ty).length) hrb;rw [<-List.length_append,<-hs] at hcn;rw [show min (ZA g g.fields[m].ty).length (32 + 1)=Qv g 32 g.fields[m].ty from rfl] at hcn;generalize Qv g 32 g.fields[m].ty=c at c2 hcl hcn;have hpa:(decide (g.fields[m].owner∈up g k)&&!g.fields[m].static)=true:=hp;rw [Bool.and_eq_true] at hpa;obtain ⟨hp1,hp2⟩:=hpa;rw [hp1] at cH;have hd1:decide ((r:Int)<=32)=true:=by simp;omega
         repeat' (first|(refine shC ?_;first|refine qC cH ?_|refine qC c2 ?_)|(refine shX ?_;first|refine qX he ?_)|refine sK ?_|refine sC (fun _=>?_) (fun _=>?_)|fail)
         all_goals first
          | exact ⟨(m + 1,r + c),⟨hltm,by simp only;omega,hcn⟩,tD,by repeat (first|exact yO|refine yA rfl ?_|(refine qW rfl ?_ ?_;· (first|(rw [wrap_in zwy62 zwy62] <;> omega)|(dsimp only;rw [wrap_in zwy62 zwy62] <;> (push_cast;omega))))),tH⟩
          | (exfalso;simp_all;done)
       ·have hd1:decide ((r:Int)<=32)=false:=by simp;omega
        have hee:=hend (.inl zwy62);have hd2:decide (32 < (r:Int))=true:=by simp;omega
        rw [<-hee,hd2] at hsb;clear hend
        repeat' (first|refine sK ?_|refine sC (fun _=>?_) (fun _=>?_)|fail)
        all_goals first
         | exact retq rfl zwy112
         | (exfalso;simp_all;done)
         | (exfalso;simp_all;omega)
      ·have hee:=hend (.inr zwy62);clear hend;cases hl:decide (32 < (r:Int))
       ·rw [hl] at hee;rw [<-hee] at hsb
        repeat' (first|refine sA ?_|refine sC (fun _=>?_) (fun _=>?_)|fail)
        all_goals first
         | exact ⟨k + 1,⟨hlt,hnx (by rw [hsb];rfl)⟩,tD,tS,tH⟩
         | (exfalso;simp_all;done)
         | (exfalso;simp_all;omega)
       ·rw [hl] at hee;rw [<-hee] at hsb
        repeat' (first|refine sA ?_|refine sC (fun _=>?_) (fun _=>?_)|fail)
        all_goals first
         | exact retq rfl zwy112
         | (exfalso;simp_all;done)
         | (exfalso;simp_all;omega)
     ·have hb0:(zW g k==0)=false:=by simp [hk0]
      have hb2:(zW g k != 0)=true:=by simp [hk0]
      rw [hb1,hb0] at hsb;have b1:=();have b4:=();exact zwk8
   ·have b6:=();exact zwk8
theorem zp8 (g:Img):ACall Tryz.prog 25 [zK g] (pb (zaU g)):=by
 refine zh zf Tryz.func25 rfl zws Tryz.ntmps25 zwy63 _ rfl (fun hw gB hgB=>?_)
 repeat' (first|(refine shC ?_;first|refine qC (zjK g) ?_)|refine sA ?_|refine sC (fun _=>?_) (fun _=>?_)|fail)
 exact retq rfl rfl
set_option maxHeartbeats 20000000
theorem XO (m:Me) (f:Int):ACall Tryz.prog 65 [zY m,pi f] (pb (qQ m.flags f)):=by
 refine zh zf Tryz.func65 rfl zws Tryz.ntmps65 zwy63 _ rfl (fun hw gB hgB=>?_)
 repeat' (first|refine sA ?_|refine sC (fun _=>?_) (fun _=>?_)|fail)
 all_goals (first|refine ak ?_|refine Yi rfl ?_)
 all_goals (first|(simp_all [zn,qQ];done)|(simp_all [zn,qQ];omega))
theorem zkD (m:Me):ACall Tryz.prog 31 [zY m,pi 1] (pb (yR m.flags 1)):=by
 refine zh zf Tryz.func31 rfl zws Tryz.ntmps31 zwy63 _ rfl (fun hw gB hgB=>?_)
 repeat' (first|refine sA ?_|refine sC (fun _=>?_) (fun _=>?_)|fail)
 all_goals (first|refine ak ?_|refine Yi rfl ?_)
 all_goals (first|(simp_all [zn,yR];done)|(simp_all [zn,yR];omega))
theorem zaF (m:Me):ACall Tryz.prog 31 [zY m,pi 2] (pb (yR m.flags 2)):=by
 refine zh zf Tryz.func31 rfl zws Tryz.ntmps31 zwy63 _ rfl (fun hw gB hgB=>?_)
 repeat' (first|refine sA ?_|refine sC (fun _=>?_) (fun _=>?_)|fail)
 all_goals (first|refine ak ?_|refine Yi rfl ?_)
 all_goals (first|(simp_all [zn,yR];done)|(simp_all [zn,yR];omega))
theorem zf8 (m:Me):ACall Tryz.prog 31 [zY m,pi 4] (pb (yR m.flags 4)):=by
 refine zh zf Tryz.func31 rfl zws Tryz.ntmps31 zwy63 _ rfl (fun hw gB hgB=>?_)
 repeat' (first|refine sA ?_|refine sC (fun _=>?_) (fun _=>?_)|fail)
 all_goals (first|refine ak ?_|refine Yi rfl ?_)
 all_goals (first|(simp_all [zn,yR];done)|(simp_all [zn,yR];omega))
theorem zku (m:Me):ACall Tryz.prog 31 [zY m,pi 8] (pb (yR m.flags 8)):=by
 refine zh zf Tryz.func31 rfl zws Tryz.ntmps31 zwy63 _ rfl (fun hw gB hgB=>?_)
 repeat' (first|refine sA ?_|refine sC (fun _=>?_) (fun _=>?_)|fail)
 all_goals (first|refine ak ?_|refine Yi rfl ?_)
 all_goals (first|(simp_all [zn,yR];done)|(simp_all [zn,yR];omega))
theorem zpr (m:Me):ACall Tryz.prog 31 [zY m,pi 16] (pb (yR m.flags 16)):=by
 refine zh zf Tryz.func31 rfl zws Tryz.ntmps31 zwy63 _ rfl (fun hw gB hgB=>?_)
 repeat' (first|refine sA ?_|refine sC (fun _=>?_) (fun _=>?_)|fail)
 all_goals (first|refine ak ?_|refine Yi rfl ?_)
 all_goals (first|(simp_all [zn,yR];done)|(simp_all [zn,yR];omega))
def zjq (a b:Me):Bool:=a.name.toList==b.name.toList&&decide (a.ret=b.ret)&&(qQ a.flags 1==qQ b.flags 1)&&decide (a.params=b.params)
def zbN (a b:Me):Bool:=a.name.toList==b.name.toList&&Wj a b
theorem zhk (a b:Me):ACall Tryz.prog 114 [zY a,zY b] (pb (zjq a b)):=by
 refine zh zf Tryz.func114 rfl zws Tryz.ntmps114 zwy63 _ rfl (fun hw gB hgB=>?_);have hty:=XQ a.ret b.ret
 repeat' (first|(refine shC ?_;first|refine qC (XO _ _) ?_|refine qC (zfy _ _) ?_)|refine sA ?_|refine sC (fun _=>?_) (fun _=>?_)|fail)
 all_goals refine ak ?_
 all_goals (simp only [zn,zjq,<-hty];clear hty;simp_all)
theorem zg7 (a b:Me):ACall Tryz.prog 98 [zY a,zY b] (pb (zbN a b)):=by
 refine zh zf Tryz.func98 rfl zws Tryz.ntmps98 zwy63 _ rfl (fun hw gB hgB=>?_)
 repeat' (first|(refine shC ?_;first|refine qC (zfA _ _) ?_)|refine sA ?_|refine sC (fun _=>?_) (fun _=>?_)|fail)
 all_goals (first|refine ak ?_|refine Yi rfl ?_)
 all_goals (first|(simp_all [zn,zbN];done)|(simp_all [zn,zbN];omega))
theorem zsa:∀ a b:Fin 32,(qQ (a.val:Int) 1==qQ (b.val:Int) 1)=((a.val:Int).tmod 2==(b.val:Int).tmod 2):=by decide +kernel
theorem zsx:∀ a:Fin 32,qQ (a.val:Int) 1=yR a.val 1/\qQ (a.val:Int) 2=yR a.val 2/\qQ (a.val:Int) 4=yR a.val 4/\qQ (a.val:Int) 8=yR a.val 8/\qQ (a.val:Int) 16=yR a.val 16:=by decide +kernel
theorem zck {f:Int} (h0:0<=f) (h1:f<=31):qQ f 1=yR f 1/\qQ f 2=yR f 2/\qQ f 4=yR f 4/\qQ f 8=yR f 8/\qQ f 16=yR f 16:=by
 have:=zsx ⟨f.toNat,by omega⟩;simpa only [Int.toNat_of_nonneg h0] using this
theorem zuE {x y:Me} (hx0:0<=x.flags) (hx1:x.flags<=31) (hy0:0<=y.flags) (hy1:y.flags<=31):zjq x y=zbN x y:=by
 have:=zsa ⟨x.flags.toNat,by omega⟩ ⟨y.flags.toNat,by omega⟩;simp only [Int.toNat_of_nonneg hx0,Int.toNat_of_nonneg hy0] at this;rw [zjq,zbN,Wj,this];simp only [Bool.and_assoc]
def alk (g:Img) (a b:Int):Bool:=zbN (mAt g a) (mAt g b)
def Vy (g:Img) (m:Int):Bool:=yR (mAt g m).flags 2
def fresh (g:Img) (m:Int):Bool:=yR (mAt g m).flags 8
def Yo (g:Img) (out:List Int) (m:Int):List Int :=
 if Vy g m then (if out.any (fun x=>alk g x m)&&!fresh g m then out.set (out.findIdx (fun x=>alk g x m)) m else out++[m]) else out
def ZH (g:Img) (out:List Int) (ms:List Int):List Int:=ms.foldl (Yo g) out
def zhn (g:Img) (us:List Int):List Int:=us.foldl (fun out u=>ZH g out (methodsOf g u)) []
def tbl (g:Img) (t:Int):List Int:=zhn g (up g t).reverse
theorem ztx {g:Img} {t:Int} (h:typeAt g t=none):tbl g t=[]:=by rw [tbl,up_nil h];rfl
theorem zn1 {g:Img} (hW:Wl g) {t:Int} {td:TD} (h:typeAt g t=some td):tbl g t=ZH g (tbl g td.ext) (methodsOf g t):=by
 rw [tbl,hW.up_cons h,List.reverse_cons,zhn,List.foldl_append];rfl
def mOk (g:Img) (x:Int):Prop:=0<=x/\x.toNat < g.methods.length
theorem znS {g:Img} {out:List Int} {m x:Int} (h:x∈Yo g out m):x∈out\/x=m:=by
 rw [Yo] at h;split at h
 ·split at h
  ·exact List.mem_or_eq_of_mem_set h
  ·simpa using h
 ·exact .inl h
theorem znz (g:Img) (out:List Int) (m:Int):out.length<=(Yo g out m).length/\(Yo g out m).length<=out.length + 1:=by
 rw [Yo];split
 ·split <;> simp
 ·simp
theorem zbH {g:Img} {x:Int}:∀ {ms out:List Int},x∈ZH g out ms->x∈out\/x∈ms
 | [],out,h=>.inl h
 | m::ms,out,h=>by
  rcases zbH (ms:=ms) (out:=Yo g out m) h with h|h
  ·rcases znS h with h|rfl
   ·exact .inl h
   ·exact .inr zwy63
  ·exact .inr zwy94
theorem VU (g:Img):∀ (ms out:List Int),out.length<=(ZH g out ms).length/\(ZH g out ms).length<=out.length + ms.length
 | [],out=>by simp [ZH]
 | m::ms,out=>by
  have h1:=VU g ms (Yo g out m);have h2:=znz g out m;have e:ZH g out (m::ms)=ZH g (Yo g out m) ms:=rfl;rw [e,List.length_cons];omega
theorem znR {g:Img} (us:List Int):(zhn g us).length<=g.methods.length * us.length:=by
 rw [zhn];have key:∀ (us:List Int) (out:List Int),(us.foldl (fun out u=>ZH g out (methodsOf g u)) out).length<=out.length + g.methods.length * us.length:=by
  intro us;induction us with
  | nil=>intro out;simp
  | cons u us ih =>
   intro out;have h1:=ih (ZH g out (methodsOf g u));have h2:=(VU g (methodsOf g u) out).2;have h3:=ZJ g u;rw [List.foldl_cons,List.length_cons,Nat.mul_succ];omega
 have:=key us [];simpa using this
theorem zok {g:Img} {x:Int}:∀ {us:List Int},x∈zhn g us->mOk g x:=by
 have key:∀ (us:List Int) (out:List Int),(∀ x∈out,mOk g x)->∀ x∈us.foldl (fun out u=>ZH g out (methodsOf g u)) out,mOk g x:=by
  intro us;induction us with
  | nil=>intro out h;exact h
  | cons u us ih =>
   intro out h;refine ih _ fun x hx=>?_
   rcases zbH hx with hx|hx
   ·exact h x hx
   ·exact ql hx
 intro us h;exact key us [] zwy63 x h
theorem zhM {g:Img} {t x:Int} (h:x∈tbl g t):mOk g x:=zok h
theorem zlr {g:Img} (hF:Fine g) (t:Int):(tbl g t).length<=2048:=by
 have h1:=znR (g:=g) (up g t).reverse;obtain ⟨b1,_,b3,_⟩:=yg hF.formed;have hui:=WS g t;have hul:=ZF _ _ hui.1 hui.2;rw [List.length_reverse] at h1;have:g.methods.length * (up g t).length<=64 * 32:=Nat.mul_le_mul b3 zwy62;rw [tbl];omega
def atF (g:Img) (out:List Int) (m:Int) (k:Nat):Int:=if (out.drop k).any (fun x=>alk g x m) then ((k + (out.drop k).findIdx (fun x=>alk g x m):Nat):Int) else -1
theorem zvy (g:Img) (out:List Int) (m:Int):atF g out m out.length = -1:=by simp [atF]
theorem zuT {g:Img} {out:List Int} {m:Int} {k:Nat} (h:k < out.length):atF g out m k=if alk g out[k] m then (k:Int) else atF g out m (k + 1):=by
 rw [atF,atF,List.drop_eq_getElem_cons h,List.any_cons,List.findIdx_cons];cases alk g out[k] m <;> simp;split <;> omega
theorem zsy {g:Img} {out:List Int} {m:Int} (k:Nat):atF g out m k = -1\/(0<=atF g out m k/\(atF g out m k).toNat < out.length):=by
 rw [atF];split
 ·rename_i h;right;obtain ⟨x,hx,hp⟩:=List.any_eq_true.1 h;have:=List.findIdx_lt_length_of_exists (p:=fun x=>alk g x m) ⟨x,hx,hp⟩;rw [List.length_drop] at this;omega
 ·exact .inl rfl
theorem zp9 {g:Img} {out:List Int} {m:Int} (hv:Vy g m=true):Yo g out m=if decide (atF g out m 0 < 0)||fresh g m then out++[m] else out.set (atF g out m 0).toNat m:=by
 rw [Yo,if_pos hv,atF,List.drop_zero];cases out.any (fun x=>alk g x m) <;> cases fresh g m <;> simp;all_goals (first|done|omega|(intro;omega))
set_option maxHeartbeats 20000000
theorem tSO {P:Prop} (h:P:=by repeat (first|exact yO|refine yA rfl ?_|(refine qW rfl ?_ ?_;· (first|omega|(rw [wrap_in zwy62 zwy62] <;> omega)|(dsimp only;rw [wrap_in zwy62 zwy62] <;> omega)|(simp;done))))):P:=h
theorem YM {g:Img} {x:Int} (h:mOk g x):(g.methods.map zY)[x.toNat]?=some (zY (mAt g x)):=by
 rw [mAt,zQ h.2];exact Zp h.2
theorem zfq (g:Img) (out ms:List Int) (k:Nat) (h:k < ms.length):ZH g out (ms.take (k + 1))=Yo g (ZH g out (ms.take k)) ms[k]:=by
 rw [List.take_succ_eq_append_getElem h,ZH,List.foldl_append];rfl
theorem zrE {g:Img} {t:Int} (h:typeAt g t=none):there g t=false:=by
 cases hh:there g t with
 | false=>rfl
 | true=>obtain ⟨td,h2⟩:=(Yf g t).1 hh;rw [h] at h2;cases h2
theorem zhc (g:Img) (t:Int) (ht:typeAt g t=none):ACall Tryz.prog 60 [zK g,pi t] (ints (tbl g t)):=by
 have c1:=Qd g t;rw [zrE ht] at c1;rw [ztx ht];refine zh zf Tryz.func60 rfl zws Tryz.ntmps60 zwy63 _ rfl (fun hw gB hgB=>?_)
 repeat' (first|refine Za (t:=5) 10 3 1 zwy69 rfl rfl ?_|(refine shC ?_;first|refine qC c1 ?_)|refine sA ?_|refine sC (fun _=>?_) (fun _=>?_)|fail)
 exact retq rfl rfl
theorem zwk33 {G:Prop} (h:G:=by repeat' (first|(have:=d0;refine zM 1 8 0 zf rfl zws zws zws rfl rfl rfl rfl rfl rfl rfl rfl rfl rfl rfl rfl rfl rfl (fun _=>rfl) rfl rfl rfl ?_)|(have:=d0;refine ⟨_,_,rfl,rfl,rfl,?_⟩)|(have:=d1;refine zy rfl (au (k:=c) (j:=0) hcp) rfl rfl ?_)|(have:=d1;refine zq rfl (au (k:=c) (j:=0) hcp) rfl rfl ?_)|(refine shC ?_;first|(have:=d0;refine qC b2 ?_)|(have:=d2;refine qC b8 ?_)|(have:=d1;refine qC ca ?_))|(refine shX ?_;first|(have:=d3;refine qX hex ?_)|(have:=d0;refine zy rfl (ah hmx.1 hem) rfl rfl ?_)|(have:=d0;refine zq rfl (ah hmx.1 hem) rfl rfl ?_)|(have:=d4;refine zy rfl (zO (k:=a.toNat) zf rfl rfl rfl rfl rfl rfl rfl zwy62 hal) rfl rfl ?_)|(have:=d4;refine zq rfl (zO (k:=a.toNat) zf rfl rfl rfl rfl rfl rfl rfl zwy62 hal) rfl rfl ?_)|(have:=d1;refine zy rfl (zO (k:=c) zf rfl rfl rfl rfl rfl rfl rfl (by push_cast;omega) hcl') rfl rfl ?_)|(have:=d1;refine zq rfl (zO (k:=c) zf rfl rfl rfl rfl rfl rfl rfl (by push_cast;omega) hcl') rfl rfl ?_)|(have:=d1;refine zy rfl (ah hcm.1 hcg) rfl rfl ?_)|(have:=d1;refine zq rfl (ah hcm.1 hcg) rfl rfl ?_))|(have:=d5;refine yj ?_;first|refine YF zf rfl rfl rfl rfl rfl rfl rfl zwy72 zwy64 rfl rfl ?_)|(have:=d4;refine Yb ?_;first|refine XB (k:=a.toNat) (j:=0) zf rfl rfl rfl rfl rfl hap rfl rfl rfl rfl rfl ?_)|(have:=d6;refine Wv 10 rfl ?_)|refine sK ?_|refine sC (fun _=>?_) (fun _=>?_)|(have:=d0;exact ⟨k + 1,hlt,tD,tS,⟨Zi rfl (by rw [hs,Yo,hv];rfl) zC,rfl⟩⟩)|(have:=d5;exact ⟨k + 1,hlt,tD,tS,⟨Zi rfl (by rw [hs];simp) zC,rfl⟩⟩)|(have:=d4;exact ⟨k + 1,hlt,tD,tS,⟨Zi rfl (by rw [hs,List.map_set]) zC,rfl⟩⟩)|(have:=d1;exact ⟨c,by omega,tD,tSO,tH⟩)|exact retq rfl rfl|fail)):G:=h
theorem zet (g:Img) (hF:Fine g):∀ (n:Nat) (t:Int),(up g t).length<=n->ACall Tryz.prog 60 [zK g,pi t] (ints (tbl g t)):=by
 have hW:=zbm hF.well;have hgm:g.methods.length<=64:=(yg hF.formed).2.2.1;intro n;induction n with
 | zero =>
  intro t hn;cases ht:typeAt g t with
  | some td=>rw [hW.up_cons ht] at hn;simp at hn
  | none=>exact zhc g t ht
 | succ n ih =>
  intro t hn;cases ht:typeAt g t with
  | none=>exact zhc g t ht
  | some td =>
   have c1:=Qd g t;rw [(Yf g t).2 ⟨td,ht⟩] at c1;have c2:=ih td.ext (by rw [hW.up_cons ht] at hn;simpa using hn);obtain ⟨h0,he⟩:=qN ht;have hl0:=zlr hF td.ext;have c3:=QW g t zwy62;have hml:=ZJ g t;refine zh zf Tryz.func60 rfl zws Tryz.ntmps60 zwy63 _ rfl (fun hw gB hgB=>?_)
   repeat' (first|refine zde (t:=5) 10 3 1 zwy69 rfl rfl ?_|refine zZ 11 9 rfl zws zws zws zws zws ?_|(refine shC ?_;first|refine qC c1 ?_|refine qC c2 ?_|refine qC c3 ?_)|(refine shX ?_;first|refine zy rfl (ah h0 he) rfl rfl ?_|refine zq rfl (ah h0 he) rfl rfl ?_)|(refine yj ?_;first|refine YF zf rfl rfl rfl rfl rfl rfl rfl zwy72 zwy64 rfl rfl ?_)|refine sA ?_|refine sC (fun _=>?_) (fun _=>?_)|fail)
   refine zL (fun k:Nat=>[(2,.pv (.ptr (zK g) 0)),(5,.own 10),(6,.pv (ints (methodsOf g t))),(7,.pv (pi k))]) (fun k=>[(10,.mrow 3 1 ((ZH g (tbl g td.ext) ((methodsOf g t).take k)).map pi))])
    (fun k=>k<=(methodsOf g t).length) (fun k=>(methodsOf g t).length - k) 0 zwy62 (tS) ⟨Zi rfl rfl zC,rfl⟩ ?_
   rintro k hk;by_cases hlt:k < (methodsOf g t).length
   ·obtain ⟨x,hx⟩:∃ x,x=(methodsOf g t)[k]:=⟨_,rfl⟩
    have hex:((methodsOf g t).map pi)[k]?=some (pi x):=by rw [hx];exact zS (f:=pi) hlt
    have hmx:mOk g x:=by rw [hx];exact ql (List.getElem_mem hlt)
    have hem:=YM hmx;have hs:=zfq g (tbl g td.ext) _ k hlt;rw [<-hx] at hs;obtain ⟨out,ho⟩:∃ o,o=ZH g (tbl g td.ext) ((methodsOf g t).take k):=⟨_,rfl⟩
    have hol:out.length<=2112:=by
     have:=(VU g ((methodsOf g t).take k) (tbl g td.ext)).2;have h2:((methodsOf g t).take k).length<=64:=by simp;omega
     rw [ho];omega
    have hom:∀ y∈out,mOk g y:=by
     intro y hy;rw [ho] at hy;rcases zbH hy with hy|hy
     ·exact zhM hy
     ·exact ql (List.mem_of_mem_take hy)
    rw [<-ho] at hs ⊢;have b2:=zaF (mAt g x);have b8:=zku (mAt g x);cases hv:Vy g x
    ·rw [show yR (mAt g x).flags 2=false from hv] at b2;have d0:=();have d3:=();exact zwk33
    ·rw [show yR (mAt g x).flags 2=true from hv] at b2;rw [zp9 hv] at hs
     repeat' (first|refine zM 1 8 0 zf rfl zws zws zws rfl rfl rfl rfl rfl rfl rfl rfl rfl rfl rfl rfl rfl rfl (fun _=>rfl) rfl rfl rfl ?_|refine ⟨_,_,rfl,rfl,rfl,?_⟩|(refine shC ?_;first|refine qC b2 ?_)|(refine shX ?_;first|refine qX hex ?_|refine zy rfl (ah hmx.1 hem) rfl rfl ?_|refine zq rfl (ah hmx.1 hem) rfl rfl ?_)|(refine yj ?_;first|refine zct zf rfl rfl rfl rfl rfl rfl rfl ?_)|refine sK ?_|refine sC (fun _=>?_) (fun _=>?_)|fail)
     refine zL (fun c:Nat=>[(2,.pv (.ptr (zK g) 0)),(5,.own 10),(6,.pv (ints (methodsOf g t))),(7,.pv (pi k)),(8,.box 1 0),(9,.pv (pi (atF g out x c))),(10,.pv (pi ((c:Int) - 1)))])
      (fun c=>[(10,.mrow 3 1 (out.map pi)),(1,.cell (.pv (zY (mAt g x))))]) (fun c=>c<=out.length) (fun c=>c) out.length zwy62
      (by rw [zvy];repeat (first|exact yO|refine yA rfl ?_|(refine qW rfl ?_ ?_;· (rw [wrap_in (by simp;omega) (by simp;omega)];simp)))) tH ?_
     rintro c hc;cases c with
     | zero =>
      have hr:=zsy (g:=g) (out:=out) (m:=x) 0;obtain ⟨a,ha⟩:∃ a,a=atF g out x 0:=⟨_,rfl⟩
      rw [<-ha] at hs hr ⊢;rcases hr with rfl|⟨ha0,ha1⟩
      ·rw [if_pos zwy63] at hs;have d2:=();have d3:=();have d5:=();exact zwk33
      ·have hd:decide (a < 0)=false:=decide_eq_false zwy62;rw [hd] at hs;cases hf:fresh g x
       ·rw [show yR (mAt g x).flags 8=false from hf] at b8;rw [hf,if_neg zwy63] at hs;have hal:a.toNat < (out.map pi).length:=by rw [List.length_map];exact ha1
        have hap:(out.map pi)[a.toNat]?=some (pi out[a.toNat]):=Zp ha1;have d2:=();have d3:=();have d4:=();exact zwk33
       ·rw [show yR (mAt g x).flags 8=true from hf] at b8;rw [hf,if_pos zwy63] at hs;have d2:=();have d3:=();have d5:=();exact zwk33
     | succ c =>
      have hcl:c < out.length:=by omega
      have hcl':c < (out.map pi).length:=by rw [List.length_map];exact hcl
      have hcp:(out.map pi)[c]?=some (pi out[c]):=by simp [hcl]
      have hst:=zuT (g:=g) (m:=x) hcl;have hcm:=hom _ (List.getElem_mem hcl);have hcg:=YM hcm;have ca:=zg7 (mAt g out[c]) (mAt g x);cases ha:alk g out[c] x
      ·rw [show zbN (mAt g out[c]) (mAt g x)=false from ha] at ca;rw [ha,if_neg zwy63] at hst;have d1:=();exact zwk33
      ·rw [show zbN (mAt g out[c]) (mAt g x)=true from ha] at ca;rw [ha,if_pos rfl] at hst;have d1:=();exact zwk33
   ·have hk2:k=(methodsOf g t).length:=by omega
    subst hk2;rw [List.take_length,<-zn1 hW ht];have d6:=();exact zwk33
set_option maxHeartbeats 20000000
theorem zaL {g:Img} (hf:yh g=true) {a:Int} (h:mOk g a):0<=(mAt g a).flags/\(mAt g a).flags<=31:=zbP (zbZ hf h.2)
theorem zqz {g:Img} (hf:yh g=true) {a b:Int} (ha:mOk g a) (hb:mOk g b):zjq (mAt g a) (mAt g b)=alk g a b:=by
 have h1:=zaL hf ha;have h2:=zaL hf hb;exact zuE h1.1 h1.2 h2.1 h2.2
theorem zpo (g:Img) (hf:yh g=true) (x m:Int) (hx:mOk g x) (hm:mOk g m):ACall Tryz.prog 208 ([]++[pi x]++[.ptr (zK g) 0,.ptr (pi m) 0]) (pb (alk g x m)):=by
 show ACall Tryz.prog 208 [pi x,.ptr (zK g) 0,.ptr (pi m) 0] (pb (alk g x m))
 refine zh zf Tryz.func208 rfl zws Tryz.ntmps208 zwy63 _ rfl (fun hw gB hgB=>?_);have e1:=YM hx;have e2:=YM hm;have c1:=zhk (mAt g x) (mAt g m);rw [zqz hf hx hm] at c1
 repeat' (first|(refine shC ?_;first|refine qC c1 ?_)|(refine shX ?_;first|refine zy rfl (ah hx.1 e1) rfl rfl ?_|refine zq rfl (ah hx.1 e1) rfl rfl ?_|refine zy rfl (ah hm.1 e2) rfl rfl ?_|refine zq rfl (ah hm.1 e2) rfl rfl ?_)|refine sA ?_|refine sC (fun _=>?_) (fun _=>?_)|fail)
 exact retq rfl rfl
abbrev slH (out:List Int):HEnv:=[(0,.cell (.agg [.own 7])),(7,.mrow 3 1 (out.map pi))]
theorem zpC (g:Img) (hf:yh g=true) (out:List Int) (m:Int) (ho:∀ x∈out,mOk g x) (hm:mOk g m) (us:Nat->Value):ACallM Tryz.prog 151 [.box 0 0,.pv (zK g),.pv (pi m)] (slH out++Zc us [0]) (.pv (pi (zd8 out (fun x=>alk g x m)))) (slH out++Zc us [0]):=by
 refine Zl zf Tryz.func151 rfl zws Tryz.ntmps151 zwy63 _ rfl (fun gB hw1=>?_);have c1:=za2 out (fun x=>alk g x m) 208 [] [.ptr (zK g) 0,.ptr (pi m) 0] (fun x hx=>zpo g hf x m (ho x hx) hm)
 repeat' (first|(refine zu ?_;first|refine zsR rfl rfl rfl c1 rfl rfl ?_)|refine sA ?_|refine sC (fun _=>?_) (fun _=>?_)|fail)
 exact ⟨.inr rfl,.inl ⟨_,rfl,rfl,⟨by repeat (first|exact zC|refine aB ?_),rfl⟩⟩⟩
theorem zse (out:List Int) (m:Int) (ho:out.length<=5000) (us:Nat->Value):ACallM Tryz.prog 152 [.box 0 0,.pv (pi m)] (slH out++Zc us [0]) (.pv (.tup [])) (slH (out++[m])++Zc us [0]):=by
 refine Zl zf Tryz.func152 rfl zws Tryz.ntmps152 zwy63 _ rfl (fun gB hw1=>?_)
 repeat' (first|(refine yj ?_;first|refine YF zf rfl rfl rfl rfl rfl rfl rfl zwy72 zwy64 rfl rfl ?_)|refine sA ?_|refine sC (fun _=>?_) (fun _=>?_)|fail)
 exact ⟨.inl rfl,.inl ⟨[],rfl,rfl,⟨zA rfl (Zi rfl zwy63 zwy67),rfl⟩⟩⟩
theorem zm9 {g:Img} {out:List Int} {m:Int} (hv:Vy g m=true):Yo g out m=if decide (0<=zd8 out (fun x=>alk g x m))&&!fresh g m then out.set (zd8 out (fun x=>alk g x m)).toNat m else out++[m]:=by
 rw [Yo,if_pos hv,zd8];cases out.any (fun x=>alk g x m) <;> cases fresh g m <;> simp
theorem zoZ {l:List Int} {p:Int->Bool}:zd8 l p = -1\/(0<=zd8 l p/\(zd8 l p).toNat < l.length):=by
 rw [zd8];split
 ·rename_i h;right;obtain ⟨x,hx,hp⟩:=List.any_eq_true.1 h;have:=List.findIdx_lt_length_of_exists (p:=p) ⟨x,hx,hp⟩;omega
 ·exact .inl rfl
def zqB (g:Img):List PV:=[.slc 4 (g.types.map Zw) false,.slc 7 (g.fields.map ZI) false,.slc 12 (g.methods.map zY) false,pi g.entry]
abbrev ze6 (g:Img):AV:=.agg [.box 0 0,.pv (.slc 4 (g.types.map Zw) false),.pv (.slc 7 (g.fields.map ZI) false),.pv (.slc 12 (g.methods.map zY) false),.pv (pi g.entry)]
theorem zgl {P:Prop}:false=true->P:=fun h=>nomatch h
theorem zwk34 {G:Prop} (h:G:=by repeat' (first|(have:=d0;refine zy rfl (aj (ps:=zqB g)) rfl rfl ?_)|(refine shC ?_;first|(have:=d1;refine qC b2 ?_)|(have:=d0;refine qC b8 ?_))|(refine shX ?_;first|(have:=d1;refine qX hex ?_)|(have:=d1;refine zy rfl (ah hmx.1 hem) rfl rfl ?_)|(have:=d1;refine zq rfl (ah hmx.1 hem) rfl rfl ?_)|(have:=d2;refine zy rfl (zO (k:=a.toNat) zf rfl rfl rfl rfl rfl rfl rfl zwy62 hal) rfl rfl ?_)|(have:=d2;refine zq rfl (zO (k:=a.toNat) zf rfl rfl rfl rfl rfl rfl rfl zwy62 hal) rfl rfl ?_))|(have:=d3;refine zu ?_;first|refine yH (slH cur) (slH cur) [(2,.cell (ze6 g)),(1,.cell (.pv (zY (mAt g x)))),(1000,.pin (.own 0) (us 0))] [(2,.box 2 0),(5,.pv (pi x)),(6,.box 1 0),(11,.pv (ints (methodsOf g u))),(12,.pv (pi (methodsOf g u).length)),(13,.pv (pi k))] [0] zgl rfl rfl rfl zwy67 tS rfl rfl rfl cF ?_|refine yH (slH cur) (slH (cur++[x])) [(2,.cell (ze6 g)),(1000,.pin (.own 0) (us 0))] [(2,.box 2 0),(11,.pv (ints (methodsOf g u))),(12,.pv (pi (methodsOf g u).length)),(13,.pv (pi k))] [0] zgl rfl rfl rfl zwy67 tS rfl rfl rfl cP ?_)|(have:=d2;refine zu ?_;first|refine yH (slH cur) (slH cur) [(2,.cell (ze6 g)),(1,.cell (.pv (zY (mAt g x)))),(1000,.pin (.own 0) (us 0))] [(2,.box 2 0),(5,.pv (pi x)),(6,.box 1 0),(11,.pv (ints (methodsOf g u))),(12,.pv (pi (methodsOf g u).length)),(13,.pv (pi k))] [0] zgl rfl rfl rfl zwy67 tS rfl rfl rfl cF ?_)|(have:=d2;refine Yb ?_;first|refine XB (k:=a.toNat) (j:=0) zf rfl rfl rfl rfl rfl hap rfl rfl rfl rfl rfl ?_)|refine sK ?_|refine sC (fun _=>?_) (fun _=>?_)|(have:=d4;exact ⟨k + 1,hlt,tD,tS,⟨zA rfl (Zi rfl (by rw [hs,Yo,hv];rfl) zwy67),rfl⟩⟩)|(have:=d3;exact ⟨k + 1,hlt,tD,tS,⟨zA rfl (Zi rfl (by rw [hs]) zwy67),rfl⟩⟩)|(have:=d2;exact ⟨k + 1,hlt,tD,tS,⟨zA rfl (Zi rfl (by rw [hs,List.map_set]) zwy67),rfl⟩⟩)|(have:=d5;exact ⟨.inl rfl,.inl ⟨[],rfl,rfl,⟨by repeat (first|exact zC|refine aB ?_),rfl⟩⟩⟩)|fail)):G:=h
theorem zpz (g:Img) (hF:Fine g) (out:List Int) (u:Int) (ho:∀ x∈out,mOk g x) (hol0:out.length<=2048) (us:Nat->Value) :
  ACallM Tryz.prog 110 [ze6 g,.pv (pi u)] (slH out++Zc us [0]) (.pv (.tup [])) (slH (ZH g out (methodsOf g u))++Zc us [0]):=by
 have hgm:g.methods.length<=64:=(yg hF.formed).2.2.1;have c3:=Qe g u zwy62;have hml:=ZJ g u;refine Zl zf Tryz.func110 rfl zws Tryz.ntmps110 zwy63 _ rfl (fun gB hw1=>?_)
 repeat' (first|refine zy rfl (aj (ps:=zqB g)) rfl rfl ?_|(refine shC ?_;first|refine qC c3 ?_)|(refine Xy ?_;first|refine zau 2 rfl rfl rfl rfl rfl rfl ?_)|refine sA ?_|refine sC (fun _=>?_) (fun _=>?_)|fail)
 refine zL (fun k:Nat=>[(2,.box 2 0),(11,.pv (ints (methodsOf g u))),(12,.pv (pi (methodsOf g u).length)),(13,.pv (pi k))])
  (fun k=>[(0,.cell (.agg [.own 7])),(7,.mrow 3 1 ((ZH g out ((methodsOf g u).take k)).map pi)),(2,.cell (ze6 g)),(1000,.pin (.own 0) (us 0))])
  (fun k=>k<=(methodsOf g u).length) (fun k=>(methodsOf g u).length - k) 0 zwy62 (tS) ⟨zA rfl (Zi rfl rfl zwy67),rfl⟩ ?_
 rintro k hk;by_cases hlt:k < (methodsOf g u).length
 ·obtain ⟨x,hx⟩:∃ x,x=(methodsOf g u)[k]:=⟨_,rfl⟩
  have hex:((methodsOf g u).map pi)[k]?=some (pi x):=by rw [hx];exact zS (f:=pi) hlt
  have hmx:mOk g x:=by rw [hx];exact ql (List.getElem_mem hlt)
  have hem:=YM hmx;have hs:=zfq g out _ k hlt;rw [<-hx] at hs;obtain ⟨cur,hcu⟩:∃ o,o=ZH g out ((methodsOf g u).take k):=⟨_,rfl⟩
  have hcl:cur.length<=2112:=by
   have:=(VU g ((methodsOf g u).take k) out).2;have h2:((methodsOf g u).take k).length<=64:=by simp;omega
   rw [hcu];omega
  have hcm:∀ y∈cur,mOk g y:=by
   intro y hy;rw [hcu] at hy;rcases zbH hy with hy|hy
   ·exact ho y hy
   ·exact ql (List.mem_of_mem_take hy)
  rw [<-hcu] at hs ⊢;have hfl:=zaL hF.formed hmx;have hfe:=zck hfl.1 hfl.2;have b2:=XO (mAt g x) 2;have b8:=XO (mAt g x) 8;rw [hfe.2.1] at b2;rw [hfe.2.2.2.1] at b8;cases hv:Vy g x
  ·rw [show yR (mAt g x).flags 2=false from hv] at b2;have d1:=();have d4:=();exact zwk34
  ·rw [show yR (mAt g x).flags 2=true from hv] at b2;rw [zm9 hv] at hs;have cF:=fun us=>zpC g hF.formed cur x hcm hmx us
   have cP:=fun us=>zse cur x zwy62 us
   have hr:=zoZ (l:=cur) (p:=fun y=>alk g y x);obtain ⟨a,ha⟩:∃ a,a=zd8 cur (fun y=>alk g y x):=⟨_,rfl⟩
   simp only [<-ha] at cF;rw [<-ha] at hs hr;rcases hr with rfl|⟨ha0,ha1⟩
   ·rw [if_neg zwy63] at hs;have d0:=();have d1:=();have d3:=();exact zwk34
   ·have hd:decide (0<=a)=true:=decide_eq_true ha0;rw [hd] at hs;cases hf:fresh g x
    ·rw [show yR (mAt g x).flags 8=false from hf] at b8;rw [hf,if_pos zwy63] at hs;have hal:a.toNat < (cur.map pi).length:=by rw [List.length_map];exact ha1
     have hap:(cur.map pi)[a.toNat]?=some (pi cur[a.toNat]):=Zp ha1;have d0:=();have d1:=();have d2:=();exact zwk34
    ·rw [show yR (mAt g x).flags 8=true from hf] at b8;rw [hf,if_neg zwy63] at hs;have d0:=();have d1:=();have d3:=();exact zwk34
 ·have hk2:k=(methodsOf g u).length:=by omega
  subst hk2;rw [List.take_length];have d5:=();exact zwk34
set_option maxHeartbeats 2000000 in
theorem ziS (g:Img) (hF:Fine g) (t:Int):ACall Tryz.prog 75 [zK g,pi t] (ints (tbl g t)):=by
 obtain ⟨hgt,_,hgm,_⟩:=yg hF.formed;have hui:=WS g t;have hul:=ZF _ _ hui.1 hui.2;refine zk9 zf Tryz.func75 rfl zws Tryz.ntmps75 zwy63 _ rfl (fun hw gB hgB hds=>?_);refine zh0 ?_
 repeat' (first|refine sA ?_|refine sC (fun _=>?_) (fun _=>?_)|fail)
 refine zh0 ?_
 repeat' (first|refine zy rfl (zaV zf rfl ⟨_,rfl⟩ rfl rfl rfl rfl rfl rfl) rfl rfl ?_|(refine Xy ?_;first|refine zau 0 rfl rfl rfl rfl rfl rfl ?_)|refine sA ?_|refine sC (fun _=>?_) (fun _=>?_)|fail)
 refine zuL ?_;refine zh0 ?_
 repeat' (first|refine zbE 0 7 0 3 1 zwy69 rfl rfl rfl rfl ?_|(refine shC ?_;first|refine zy rfl (zJ rfl rfl (YZ g t zwy62)) rfl rfl ?_|refine zq rfl (zJ rfl rfl (YZ g t zwy62)) rfl rfl ?_|refine qC (zjD _) ?_)|refine sA ?_|refine sC (fun _=>?_) (fun _=>?_)|fail)
 refine zrr ?_;refine zsM (fun x=>.int .i64 x.1) (fun x=>.int .i64 x.2) (zrf (up g t) zwy62) [(2,.pv (.ptr (zK g) 0)),(5,.box 1 0),(15,.pv (.fn (.func 149) [] [.ptr (ints (up g t)) 0]))]
  (fun pre=>[(0,.cell (.agg [.own 7])),(7,.mrow 3 1 ((zhn g (pre.map (·.2))).map pi)),(1,.cell (ze6 g))]) 100 hgB hds (fun _=>rfl) (fun _=>rfl) rfl (tS) rfl rfl rfl zwy69 ⟨by repeat (first|exact zC|refine aB ?_),rfl⟩ (fun _=>rfl) (fun _=>rfl) rfl ?_ ?_
 ·intro g2 us pre x hlen;rw [zgE] at hlen;obtain ⟨cur,hcu⟩:∃ c,c=zhn g (pre.map (·.2)):=⟨_,rfl⟩
  have hcl:cur.length<=2048:=by
   have h1:=znR (g:=g) (pre.map (·.2));have h2:g.methods.length * (pre.map (·.2)).length<=64 * 32:=Nat.mul_le_mul hgm zwy107;rw [hcu];omega
  have hcm:∀ y∈cur,mOk g y:=fun y hy=>zok (by rw [hcu] at hy;exact hy)
  have hs:zhn g ((pre++[x]).map (·.2))=ZH g cur (methodsOf g x.2):=by rw [hcu,List.map_append,zhn,List.foldl_append];rfl
  rw [<-hcu];have cT:=fun us'=>zpz g hF cur x.2 hcm hcl us'
  repeat' (first|(refine zu ?_;first|refine yH (slH cur) (slH (ZH g cur (methodsOf g x.2))) ((1,.cell (ze6 g))::qP us 100 [(2,.pv (.ptr (zK g) 0)),(5,.box 1 0),(15,.pv (.fn (.func 149) [] [.ptr (ints (up g t)) 0]))]) [] [0] zgl rfl rfl rfl zwy67 tS rfl rfl rfl cT ?_)|refine sA ?_|refine sC (fun _=>?_) (fun _=>?_)|fail)
  exact ⟨zA rfl (Zi rfl (by rw [hs]) zwy67),rfl⟩
 ·intro g3
  repeat' (first|refine Wv 7 rfl ?_|refine sA ?_|refine sC (fun _=>?_) (fun _=>?_)|fail)
  exact ⟨rfl,retq rfl (by rw [zq1];rfl)⟩
set_option maxHeartbeats 20000000
theorem zoS (g:Img) (hx:OkA g):ACall Tryz.prog 32 [zK g] (pb (zaU g)):=by
 refine zh zf Tryz.func32 rfl zws Tryz.ntmps32 zwy63 _ rfl (fun hw gB hgB=>?_)
 repeat' (first|(refine shC ?_;first|refine qC (zoo g hx) ?_)|refine sA ?_|refine sC (fun _=>?_) (fun _=>?_)|fail)
 exact retq rfl rfl
def Xf (g:Img) (m:Int):Int:=(mAt g m).owner
def Yk (g:Img) (m:Int):Int:=if Vy g m&&zW g (Xf g m)==0 then idx (tbl g (Xf g m)) m else -1
theorem zwM {g:Img} (hF:Fine g) {m:Int} (hm:mOk g m):ACall Tryz.prog 65 [zY (mAt g m),pi 2] (pb (Vy g m)):=by
 have h:=zaL hF.formed hm;have c:=XO (mAt g m) 2
 rwa [(zck h.1 h.2).2.1] at c
theorem zwk35 {G:Prop} (h:G:=by repeat' (first|(refine shC ?_;first|refine qC c1 ?_|(have:=b0;refine qC c2 ?_)|(have:=b1;refine qC c3 ?_)|(have:=b1;refine qC c4 ?_))|(refine shX ?_;first|refine zy rfl (ah hm.1 hem) rfl rfl ?_|refine zq rfl (ah hm.1 hem) rfl rfl ?_)|refine sK ?_|refine sC (fun _=>?_) (fun _=>?_)|(have:=b2;exact retq rfl (by simp [zn,Yk,hv]))|(have:=b0;exact retq rfl (by simp [zn,Yk,hv,Xf,hk]))|fail)):G:=h
theorem zpX (g:Img) (hF:Fine g) (m:Int) (hm:mOk g m):ACall Tryz.prog 158 [zK g,pi m] (pi (Yk g m)):=by
 have hem:=YM hm;have c1:=zwM hF hm;have c2:=Yd g hF.formed (mAt g m).owner;have c3:=ziS g hF (mAt g m).owner;have c4:=zim (tbl g (mAt g m).owner) m;refine zh zf Tryz.func158 rfl zws Tryz.ntmps158 zwy63 _ rfl (fun hw gB hgB=>?_);cases hv:Vy g m
 ·rw [hv] at c1;have b2:=();exact zwk35
 ·rw [hv] at c1;by_cases hk:zW g (mAt g m).owner=0
  ·rw [hk] at c2;have b0:=();have b1:=();exact zwk35
  ·have hkb:(zW g (mAt g m).owner != 0)=true:=by simp [hk]
   have b0:=();exact zwk35
theorem zwk36 {G:Prop} (h:G:=by repeat' (first|(refine shC ?_;first|(have:=b0;refine qC c1 ?_)|(have:=b1;refine qC c2 ?_))|(refine shX ?_;first|(have:=b0;refine zy rfl (ah hm.1 hem) rfl rfl ?_)|(have:=b0;refine zq rfl (ah hm.1 hem) rfl rfl ?_)|(have:=b2;refine qX he ?_))|refine sK ?_|refine sC (fun _=>?_) (fun _=>?_)|(have:=b3;exact retq rfl (by simp [zn,Yk,hv]))|(have:=b2;exact retq rfl (by rw [hs,idx,if_pos (by rw [<-hx];exact List.getElem_mem hlt),hi];rfl))|(have:=b1;exact retq rfl (by simp [zn,Yk,hv,Xf,hk]))|fail)):G:=h
theorem zpN (g:Img) (hF:Fine g) (m:Int) (hm:mOk g m):ACall Tryz.prog 99 [zK g,pi m] (pi (Yk g m)):=by
 have hem:=YM hm;have c1:=zaF (mAt g m);rw [show yR (mAt g m).flags 2=Vy g m from rfl] at c1;have c2:=Zq g (mAt g m).owner;have c3:=zet g hF _ (mAt g m).owner (Nat.le_refl _);refine zh zf Tryz.func99 rfl zws Tryz.ntmps99 zwy63 _ rfl (fun hw gB hgB=>?_);cases hv:Vy g m
 ·rw [hv] at c1;have b0:=();have b3:=();exact zwk36
 ·rw [hv] at c1;by_cases hk:zW g (mAt g m).owner=0
  ·rw [hk] at c2;obtain ⟨l,hl⟩:∃ l,l=tbl g (mAt g m).owner:=⟨_,rfl⟩
   have hs:Yk g m=idx l m:=by rw [Yk,hv,Xf,hk,hl];rfl
   have hll:=zlr hF (mAt g m).owner;rw [<-hl] at c3 hll
   repeat' (first|(refine shC ?_;first|refine qC c1 ?_|refine qC c2 ?_|refine qC c3 ?_)|(refine shX ?_;first|refine zy rfl (ah hm.1 hem) rfl rfl ?_|refine zq rfl (ah hm.1 hem) rfl rfl ?_)|refine sK ?_|refine sC (fun _=>?_) (fun _=>?_)|fail)
   refine zL (fun k:Nat=>[(1,.pv (pi m)),(6,.pv (ints l)),(7,.pv (pi k))]) (fun _=>[]) (fun k=>k<=l.length/\∀ j (h:j < k) (h2:j < l.length),l[j]≠m) (fun k=>l.length - k) 0 ⟨by omega,fun j h=>by omega⟩ (tS) tH ?_;rintro k ⟨hk2,hno⟩;by_cases hlt:k < l.length
   ·have he:(l.map pi)[k]?=some (pi l[k]):=zS (f:=pi) hlt;by_cases hx:l[k]=m
    ·have hxb:(l[k]==m)=true:=by simp [hx]
     have hi:l.findIdx (· == m)=k:=by
      rw [List.findIdx_eq hlt];exact ⟨hxb,fun j hj=>by have:=hno j hj zwy62;simpa using this⟩
     have b2:=();exact zwk36
    ·have hxb:(l[k]==m)=false:=by simp [hx]
     repeat' (first|(refine shX ?_;first|refine qX he ?_)|refine sK ?_|refine sC (fun _=>?_) (fun _=>?_)|fail)
     exact ⟨k + 1,⟨hlt,fun j hj h2=>by
      by_cases e:j=k
      ·subst e;exact hx
      ·exact hno j zwy62 h2⟩,tD,tS,tH⟩
   ·repeat' (first|refine sK ?_|refine sC (fun _=>?_) (fun _=>?_)|fail)
    exact retq rfl (by
     rw [hs,idx,if_neg]
     ·rfl
     ·intro h;obtain ⟨j,hj,e⟩:=List.getElem_of_mem h;exact hno j zwy62 hj e)
  ·have hkb:(zW g (mAt g m).owner != 0)=true:=by simp [hk]
   have b0:=();have b1:=();exact zwk36
theorem zsz {g:Img} (hW:Wl g) {t:Int} {td:TD} (h:typeAt g t=some td) (he:0<=td.ext):zW g t=0/\zW g td.ext=0:=by
 refine ⟨?_,(hW.extk h).resolve_left zwy62⟩;have hfl:=hW.flag t td h;rw [zW,h];simp only;have hne:(td.ext == -1)=false:=by simp;omega
 have hr:WZ td.flags=2\/WZ td.flags=1\/WZ td.flags=3\/WZ td.flags=0:=by
  unfold WZ;cases yR td.flags 2 <;> cases yR td.flags 1 <;> cases yR td.flags 16 <;> simp
 rw [Zj,hne] at hfl;rcases hr with h1|h1|h1|h1
 ·rw [h1] at hfl;simp at hfl
 ·rw [h1] at hfl;simp at hfl
 ·rw [h1] at hfl;simp at hfl
 ·exact h1
theorem zmB {g:Img} (hW:Wl g):∀ (l:List Int) (t:Int),up g t=l->zW g t=0->∀ u∈l,zW g u=0
 | [],t,h,hk,u,hu=>by cases hu
 | x::l,t,h,hk,u,hu=>by
  cases ht:typeAt g t with
  | none=>rw [up_nil ht] at h;cases h
  | some td =>
   rw [hW.up_cons ht] at h;injection h with e1 e2
   subst e1;rcases List.mem_cons.1 hu with rfl|hu
   ·exact hk
   ·have h0:0<=td.ext:=by
     cases hte:typeAt g td.ext with
     | none=>rw [up_nil hte] at e2;subst e2;cases hu
     | some td2=>exact (Ve hte).1
    exact zmB hW l td.ext e2 (zsz hW ht h0).2 u hu
theorem zg5 (f:Int):0<=WZ f:=by
 unfold WZ;cases yR f 2 <;> cases yR f 1 <;> cases yR f 16 <;> simp
def zjW (g:Img) (t:Ty):Bool:=(t.kind != 5&&t.kind != 6)||(t.kind==6&&zW g t.index==1)||(t.kind==5&&zW g t.index != 1)
theorem zvq {g:Img} {t:Ty} (hp:ZV t=true) (ho:zgt t g.types.length=true):zjW g t=qE g t:=by
 have hk:=zdA g t.index;have hn:(t.kind=5\/t.kind=6)->zW g t.index ≠ -1:=by
  intro h;have h0:0<=t.index:=by
   rw [ZV] at hp;split at hp
   ·cases hp
   ·rename_i hh;simp at hh;omega
  have h1:t.index < g.types.length:=by
   rw [zgt] at ho;rcases h with h|h <;> simpa [h] using ho
  obtain ⟨td,htd⟩:=Yv ⟨h0,h1⟩;rw [zW,htd];have:=zg5 td.flags;simp only;omega
 rw [zjW,qE,hp];generalize zW g t.index=k at hk hn;by_cases h5:t.kind=5
 ·have:=hn (.inl h5);rcases hk with rfl|rfl|rfl|rfl|rfl <;> simp_all
 ·by_cases h6:t.kind=6
  ·have:=hn (.inr h6);rcases hk with rfl|rfl|rfl|rfl|rfl <;> simp_all
  ·have e5:(t.kind==5)=false:=beq_eq_false_iff_ne.2 h5;have e6:(t.kind==6)=false:=beq_eq_false_iff_ne.2 h6;simp only [bne,e5,e6];rfl
theorem zaK {t:Ty} {p n:Int} (h:Xv t p n=true):ZV t=true/\zgt t n=true:=by
 rw [Xv,Bool.and_eq_true] at h;refine ⟨?_,h.2⟩;have:=h.1;rw [ZQ] at this;cases hp:ZV t
 ·rw [hp] at this;simp at this
 ·rfl
def zuS (m:Me):List Ty:=(m.code.filter fun x=>yB x.op==8).map (·.t)
def zpT (m:Me):List Ty:=(m.clauses.filter fun c=>c.kind==1).map (·.t)
def zdo (m:Me):List Ty:=m.params++m.locals++[m.ret]++zuS m++zpT m
def YG (g:Img) (m:Me):Bool:=qE g m.ret&&m.params.all (qE g)&&m.locals.all (qE g)&&m.code.all (fun x=>yB x.op != 8||qE g x.t)&&m.clauses.all (fun c=>c.kind != 1||qE g c.t)
theorem znM {α:Type} {l:List α} {p:α->Bool} {f:α->Ty} {q:Ty->Bool}:((l.filter p).map f).all q=l.all fun x=>!p x||q (f x):=by
 induction l with
 | nil=>rfl
 | cons x l ih =>
  rw [List.filter_cons];cases h:p x <;> simp [h,ih]
theorem zuO {g:Img} {m:Me} (h:yX g m=true):(zdo m).all (zjW g)=YG g m:=by
 simp only [yX,Zv,Bool.and_eq_true,List.all_eq_true,Zo,codeOk] at h;obtain ⟨⟨⟨⟨_,hr⟩,hp⟩,hl⟩,⟨⟨_,hc⟩,hk⟩,_⟩:=h;have e:(zdo m).all (zjW g)=(zdo m).all (qE g):=by
  rw [Bool.eq_iff_iff,List.all_eq_true,List.all_eq_true];have:∀ t∈zdo m,zjW g t=qE g t:=by
   intro t ht;have key:ZV t=true/\zgt t g.types.length=true:=by
    simp only [zdo,zuS,zpT,List.mem_append,List.mem_singleton,List.mem_map,List.mem_filter] at ht;rcases ht with (((ht|ht)|rfl)|⟨x,⟨hx,ho⟩,rfl⟩)|⟨c,⟨hx,ho⟩,rfl⟩
    ·exact zaK (hp t ht)
    ·exact zaK (hl t ht)
    ·exact zaK hr
    ·have h1:=hc x hx;rw [beq_iff_eq] at ho;obtain ⟨hf,h2⟩:=h1;rw [ho] at h2;refine ⟨?_,by simpa using h2⟩;rw [beq_iff_eq,Xa] at hf;cases hpx:ZV x.t
     ·have hw:ZQ x.t 1=false:=by rw [ZQ,hpx];rfl
      split at hf
      ·omega
      ·split at hf
       ·omega
       ·split at hf
        ·omega
        ·rw [if_pos ⟨ho,hw⟩] at hf;omega
     ·rfl
    ·have h1:=hk c hx;rw [beq_iff_eq] at ho;rw [ho] at h1;simp at h1;exact zaK h1
   exact zvq key.1 key.2
  constructor
  ·intro h t ht;rw [<-this t ht];exact h t ht
  ·intro h t ht;rw [this t ht];exact h t ht
 rw [e,zdo,List.all_append,List.all_append,List.all_append,List.all_append,zuS,zpT,znM,znM,YG];have e1:(m.code.all fun x=>!(yB x.op==8)||qE g x.t)=m.code.all fun x=>yB x.op != 8||qE g x.t:=rfl
 have e2:(m.clauses.all fun c=>!(c.kind==1)||qE g c.t)=m.clauses.all fun c=>c.kind != 1||qE g c.t:=rfl
 rw [e1,e2];simp only [List.all_cons,List.all_nil,Bool.and_true];cases qE g m.ret <;> simp [Bool.and_assoc]
abbrev u64 (n:Int):PV:=.base (.int .u64 n)
def g0:Img:=⟨[],[],[],-1⟩
section
variable {g:Img} {k i d:Int}
end
end Go.Cg
