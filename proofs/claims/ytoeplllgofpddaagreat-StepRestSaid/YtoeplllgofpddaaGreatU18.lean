/- A part of the walks by abstract values: no statement of its own. -/
import Derived.Test.YtoeplllgofpddaaGreatU17
import Derived.Test.YtoeplllgofpddaaGreatU8
import Derived.Test.YtoeplllgofpddaaGreatU11
import Derived.Test.YtoeplllgofpddaaGreatU7
import Derived.Test.YtoeplllgofpddaaGreatU4
import Derived.RangeFuncFrom
import Derived.RangeFuncLeaves
import Derived.RangeFuncWrites
import Derived.Shelf.Abstract
import Derived.OwnWalkIn
import Derived.TacticsInMore
import Derived.LoopNIn
import Derived.LoopIn
import Derived.Test.YtoeplllgofpddaaGreatU9
import Derived.Test.YtoeplllgofpddaaGreatU10
import Derived.Test.YtoeplllgofpddaaGreatU16
set_option linter.unusedVariables false
set_option linter.unusedSimpArgs false
namespace Go.Cg
open Go.Proofs
set_option maxHeartbeats 20000000
theorem ziU {g:Img} {n:Nat} {t:Ty} (hd:Dp g (n + 1) t) (hw:whole t=false):∀ f∈ZQ g t.index,Dp g n f.ty:=by
 rcases hd with h|h
 ·rw [h] at hw;cases hw
 ·exact h
theorem zbw {g:Img} (h:Yq g=true) (hu:Ya g=true) {t:Ty} (hk:t.kind=1):Zt g t=[]:=by rw [zeC h hu];simp [hk]
theorem zaG {g:Img} (h:Yq g=true) (hu:Ya g=true) {t:Ty} (hk:t.kind≠1) (hw:whole t=true):Zt g t=[t]:=by rw [zeC h hu];simp [hk,hw]
theorem zdG {t:Ty} (hw:whole t=false):t.kind=6∧t.ref=false∧¬ 0 < t.dims:=by
 simp only [whole,Bool.or_eq_false_iff,bne_eq_false_iff_eq,decide_eq_false_iff_not] at hw
 exact ⟨hw.1.1,hw.1.2,hw.2⟩
theorem zm1 {g:Img} (h:Yq g=true) (hu:Ya g=true) {t:Ty} (hw:whole t=false):Zt g t=if (fcs g (ZQ g t.index)).length=0 then [intTy] else fcs g (ZQ g t.index):=by
 rw [zeC h hu,hw]
 simp [(zdG hw).1]
theorem zce {g:Img} (h:Yq g=true) (hu:Ya g=true) {t:Ty} (hw:whole t=false):(Zt g t).length=max (fcs g (ZQ g t.index)).length 1:=by
 rw [zm1 h hu hw]
 split
 ·rename_i h0;rw [h0];rfl
 ·omega
theorem zhV {g:Img} {l:List Fd} {k:Nat} (h:k < l.length):(fcs g (l.take (k + 1))).length=(fcs g (l.take k)).length + (Zt g l[k].ty).length:=by
 rw [List.take_succ_eq_append_getElem h,zcO,Vq];simp [fcs]
theorem zhO (g:Img) (hwl:Yq g=true) (hu:Ya g=true) (b:Nat) (hb:b≤100) (hb1:1≤b):∀ (n:Nat) (t:Ty),Dp g n t→ACall Tryz.prog 147 [zH g,yJ t,pi b] (pi (YO g b t:Nat)):=by
 have hf:=Yc hwl
 intro n
 induction n with
 | zero =>
  intro t hd
  have hwh:whole t=true:=hd
  refine zh zf Tryz.func147 rfl (by kernel_rfl) Tryz.ntmps147 (by simp) _ rfl (fun hw gB hgB=>?_)
  have hw':(t.kind != 6||t.ref||decide (0 < t.dims))=true:=hwh
  by_cases hk:t.kind=1
  ·have e:YO g b t=0:=by rw [YO,zbw hwl hu hk];rfl
   have hkb:(t.kind==1)=true:=by simp [hk]
   repeat' (first|refine sK ?_|refine sC (fun _=>?_) (fun _=>?_)|fail)
   all_goals exact retq rfl (by rw [e];rfl)
  ·have e:YO g b t=1:=by rw [YO,zaG hwl hu hk hwh];simp <;> omega
   have hkb:(t.kind==1)=false:=by simp [hk]
   repeat' (first|refine sA ?_|refine sC (fun _=>?_) (fun _=>?_)|fail)
   all_goals first
    | (refine retq rfl ?_;rw [e];rfl)
    | (exfalso;simp_all;done)
 | succ n ih =>
  intro t hd
  refine zh zf Tryz.func147 rfl (by kernel_rfl) Tryz.ntmps147 (by simp) _ rfl (fun hw gB hgB=>?_)
  cases hwh:whole t
  ·obtain ⟨k1,k2,k3⟩:=zdG hwh
   have hn:=ziU hd hwh
   have hol:=zld g t.index
   have hgl:g.fields.length≤64:=by have:=(zW hf).2.1;omega
   have hkb1:(t.kind==1)=false:=by simp [k1]
   have hkb2:(t.kind != 6)=false:=by simp [k1]
   have hkb3:decide (0 < t.dims)=false:=by simp [k3]
   repeat' (first|(refine shC ?_;first|refine qC (zlR g t.index hf) ?_)|refine sK ?_|refine sC (fun _=>?_) (fun _=>?_)|fail)
   refine zJ (fun x:Nat × Nat=>[(2,.pv (pi b)),(3,.pv (.ptr (zH g) 0)),(7,.pv (pi x.2)),(28,.pv (.slc 7 ((ZQ g t.index).map ZK) false)),(29,.pv (pi (ZQ g t.index).length)),(30,.pv (pi x.1))]) (fun _=>[])
    (fun x=>x.1≤(ZQ g t.index).length∧x.2≤2 * b + 1∧Cnt b x.2 (fcs g ((ZQ g t.index).take x.1)).length) (fun x=>(ZQ g t.index).length - x.1) (0,0) ⟨by simp,by simp,rfl⟩ (tS) tH ?_
   rintro ⟨k,r⟩ ⟨hk,hr,hc⟩
   simp only at hk hr hc
   by_cases hlt:k < (ZQ g t.index).length
   ·have he:=yu (f:=ZK) hlt
    have c1:=ih (ZQ g t.index)[k].ty (hn _ (List.getElem_mem hlt))
    have hs:=zhV (g:=g) hlt
    have hcl:YO g b (ZQ g t.index)[k].ty≤b + 1:=Nat.min_le_right _ _
    have hce:YO g b (ZQ g t.index)[k].ty=min (Zt g (ZQ g t.index)[k].ty).length (b + 1):=rfl
    generalize YO g b (ZQ g t.index)[k].ty=c at c1 hcl hce
    by_cases hrb:r≤b
    ·have hcn:=hc.add (l:=(Zt g (ZQ g t.index)[k].ty).length) hrb
     rw [←hs,←hce] at hcn
     repeat' (first|(refine shC ?_;first|refine qC c1 ?_)|(refine shX ?_;first|refine qX he ?_)|refine sK ?_|refine sC (fun _=>?_) (fun _=>?_)|fail)
     exact ⟨(k + 1,r + c),⟨hlt,by simp only;omega,hcn⟩,tD,by repeat (first|exact yS|refine yG rfl ?_|(refine Zc rfl ?_ ?_;· (first|(rw [wrap_in (by omega) (by omega)] <;> omega)|(dsimp only;rw [wrap_in (by omega) (by omega)] <;> (push_cast;omega))))),tH⟩
    ·have hcn:=hc.stay (l:=(Zt g (ZQ g t.index)[k].ty).length) (by omega)
     rw [←hs] at hcn
     repeat' (first|(refine shX ?_;first|refine qX he ?_)|refine sK ?_|refine sC (fun _=>?_) (fun _=>?_)|fail)
     exact ⟨(k + 1,r),⟨hlt,hr,hcn⟩,tD,tS,tH⟩
   ·have e:YO g b t=min (max r 1) (b + 1):=by
     rw [YO,zce hwl hu hwh]
     rw [List.take_of_length_le (by omega)] at hc
     unfold Cnt at hc;omega
    have hwb:IntKind.i64.wrap ((b:Int) + 1)=((b + 1:Nat):Int):=by rw [wrap_in (by omega) (by omega)];omega
    repeat' (first|refine zB rfl (ztR rfl rfl rfl) rfl rfl ?_|refine zB rfl (ztL rfl rfl rfl) rfl rfl ?_|refine sK ?_|refine sC (fun _=>?_) (fun _=>?_)|fail)
    exact retq rfl (by rw [e];simp only [zk,hwb] <;> (congr 3 <;> omega))
  ·have hw':(t.kind != 6||t.ref||decide (0 < t.dims))=true:=hwh
   by_cases hk:t.kind=1
   ·have e:YO g b t=0:=by rw [YO,zbw hwl hu hk];rfl
    have hkb:(t.kind==1)=true:=by simp [hk]
    repeat' (first|refine sK ?_|refine sC (fun _=>?_) (fun _=>?_)|fail)
    all_goals exact retq rfl (by rw [e];rfl)
   ·have e:YO g b t=1:=by rw [YO,zaG hwl hu hk hwh];simp <;> omega
    have hkb:(t.kind==1)=false:=by simp [hk]
    repeat' (first|refine sA ?_|refine sC (fun _=>?_) (fun _=>?_)|fail)
    all_goals first
     | (refine retq rfl ?_;rw [e];rfl)
     | (exfalso;simp_all;done)
theorem zpc (g:Img) (hwl:Yq g=true) (hu:Ya g=true) (b:Nat) (hb:b≤100) (hb1:1≤b) (t:Ty):ACall Tryz.prog 95 [zH g,yJ t,pi b] (pb (decide (b < (Zt g t).length))):=by
 refine zh zf Tryz.func95 rfl (by kernel_rfl) Tryz.ntmps95 (by simp) _ rfl (fun hw gB hgB=>?_)
 have c1:=zhO g hwl hu b hb hb1 _ t (zhI hwl hu t)
 have e:decide ((b:Int) < (YO g b t:Nat))=decide (b < (Zt g t).length):=by
  rw [decide_eq_decide];unfold YO;omega
 repeat' (first|(refine shC ?_;first|refine qC c1 ?_)|refine sA ?_|refine sC (fun _=>?_) (fun _=>?_)|fail)
 exact retq rfl (by simp only [zk,e])

/-! how many cells: the document's side -/
def zrk (t:Int) (f:Fd):Bool:=f.owner==t&&!f.static
theorem za1 {α:Type} {p:α→Bool} {l:List α} {k:Nat} (h:k < l.length):(l.take (k + 1)).filter p=(l.take k).filter p++if p l[k] then [l[k]] else []:=by
  rw [List.take_succ_eq_append_getElem h,List.filter_append]
  cases hp:p l[k] <;> simp [hp]
theorem zb4 {g:Img} {p:Fd→Bool} {l:List Fd} {k:Nat} (h:k < l.length) (hp:p l[k]=true):fcs g ((l.take (k + 1)).filter p)=fcs g ((l.take k).filter p)++Zt g l[k].ty:=by
  rw [za1 h,if_pos hp,zg3,zkR];simp [fcs]
theorem zcB {g:Img} {p:Fd→Bool} {l:List Fd} {k:Nat} (h:k < l.length) (hp:p l[k]=false):fcs g ((l.take (k + 1)).filter p)=fcs g ((l.take k).filter p):=by
  rw [za1 h,hp];simp
theorem zgv (g:Img) (p:Fd→Bool) (l:List Fd) (k:Nat):(fcs g ((l.take k).filter p)).length≤(fcs g (l.filter p)).length:=by
  have:l.filter p=(l.take k).filter p++(l.drop k).filter p:=by rw [←List.filter_append,List.take_append_drop]
  rw [this,zcO];omega
theorem ztu {g:Img} {n:Nat} {t:Ty} (h:∀ f∈ZQ g t.index,Dp g n f.ty) {k:Nat} (hk:k < g.fields.length) (hp:zrk t.index g.fields[k]=true):Dp g n g.fields[k].ty :=
  h _ (List.mem_filter.2 ⟨List.getElem_mem hk,hp⟩)
set_option maxHeartbeats 1000000 in
theorem zf0 (g:Img) (hwl:Yq g=true) (hu:Ya g=true) (b:Nat) (hb:b≤100) (hb1:1≤b):∀ (n:Nat) (t:Ty),Dp g n t→ACall Tryz.prog 187 [zH g,yJ t,pi b] (pi (YO g b t:Nat)):=by
  have hf:=Yc hwl
  have hgl:g.fields.length≤64:=by have:=(zW hf).2.1;omega
  intro n
  induction n with
  | zero =>
    intro t hd
    have hwh:whole t=true:=hd
    have cw:=zfv t
    rw [hwh] at cw
    refine zh zf Tryz.func187 rfl (by kernel_rfl) Tryz.ntmps187 (by simp) _ rfl (fun hw gB hgB=>?_)
    by_cases hk:t.kind=1
    · have e:YO g b t=0:=by rw [YO,zbw hwl hu hk];rfl
      have hkb:(t.kind==1)=true:=by simp [hk]
      repeat' (first|refine sK ?_|refine sC (fun _=>?_) (fun _=>?_)|fail)
      all_goals exact retq rfl (by rw [e];rfl)
    · have e:YO g b t=1:=by rw [YO,zaG hwl hu hk hwh];simp <;> omega
      have hkb:(t.kind==1)=false:=by simp [hk]
      repeat' (first|(refine shC ?_;first|refine qC cw ?_)|refine sK ?_|refine sC (fun _=>?_) (fun _=>?_)|fail)
      all_goals exact retq rfl (by rw [e];rfl)
  | succ n ih =>
    intro t hd
    have cw:=zfv t
    refine zh zf Tryz.func187 rfl (by kernel_rfl) Tryz.ntmps187 (by simp) _ rfl (fun hw gB hgB=>?_)
    cases hwh:whole t
    · rw [hwh] at cw
      obtain ⟨k1,k2,k3⟩:=zdG hwh
      have hn:=ziU hd hwh
      have hkb1:(t.kind==1)=false:=by simp [k1]
      repeat' (first|(refine shC ?_;first|refine qC cw ?_)|refine sK ?_|refine sC (fun _=>?_) (fun _=>?_)|fail)
      refine zJ (fun x:Nat × Nat=>[(2,.pv (pi b)),(3,.pv (.ptr (zH g) 0)),(4,.pv (.ptr (yJ t) 0)),(7,.pv (pi x.2)),(8,.pv (pi x.1))]) (fun _=>[])
        (fun x=>x.1≤g.fields.length∧x.2≤2 * b + 1∧Cnt b x.2 (fcs g ((g.fields.take x.1).filter (zrk t.index))).length) (fun x=>g.fields.length - x.1) (0,0) ⟨by simp,by simp,rfl⟩ (tS) tH ?_
      rintro ⟨k,r⟩ ⟨hk,hr,hc⟩
      simp only at hk hr hc
      have hfin:∀ s:Nat,Cnt b r s→s≤(fcs g (ZQ g t.index)).length→(b < r∨s=(fcs g (ZQ g t.index)).length)→YO g b t=min (max r 1) (b + 1):=by
        intro s h1 h2 h3
        rw [YO,zce hwl hu hwh]
        unfold Cnt at h1;omega
      have hle:=zgv g (zrk t.index) g.fields k
      have hwb:IntKind.i64.wrap ((b:Int) + 1)=((b + 1:Nat):Int):=by rw [wrap_in (by omega) (by omega)];omega
      by_cases hlt:k < g.fields.length
      · have he:=yu (f:=ZK) hlt
        by_cases hrb:r≤b
        · cases hp:zrk t.index g.fields[k]
          · have hcn:Cnt b r (fcs g ((g.fields.take (k + 1)).filter (zrk t.index))).length:=by rw [zcB hlt hp];exact hc
            have hpa:(g.fields[k].owner==t.index&&!g.fields[k].static)=false:=hp
            clear hfin
            repeat' (first|(refine shX ?_;first|refine qX he ?_)|refine sA ?_|refine sC (fun _=>?_) (fun _=>?_)|fail)
            all_goals first
              | exact ⟨(k + 1,r),⟨hlt,hr,hcn⟩,tD,tS,tH⟩
              | (exfalso;simp_all;done)
              | (exfalso;simp_all;omega)
          · have c1:=ih g.fields[k].ty (ztu hn hlt hp)
            have hs:=zb4 (g:=g) hlt hp
            have hcl:YO g b g.fields[k].ty≤b + 1:=Nat.min_le_right _ _
            have hcn:=hc.add (l:=(Zt g g.fields[k].ty).length) hrb
            rw [←List.length_append,←hs] at hcn
            rw [show min (Zt g g.fields[k].ty).length (b + 1)=YO g b g.fields[k].ty from rfl] at hcn
            generalize YO g b g.fields[k].ty=c at c1 hcl hcn
            have hpa:(g.fields[k].owner==t.index&&!g.fields[k].static)=true:=hp
            rw [Bool.and_eq_true] at hpa
            obtain ⟨hp1,hp2⟩:=hpa
            clear hfin
            repeat' (first|(refine shC ?_;first|refine qC c1 ?_)|(refine shX ?_;first|refine qX he ?_)|refine sK ?_|refine sC (fun _=>?_) (fun _=>?_)|fail)
            all_goals first
              | exact ⟨(k + 1,r + c),⟨hlt,by simp only;omega,hcn⟩,tD,by repeat (first|exact yS|refine yG rfl ?_|(refine Zc rfl ?_ ?_;· (first|(rw [wrap_in (by omega) (by omega)] <;> omega)|(dsimp only;rw [wrap_in (by omega) (by omega)] <;> (push_cast;omega))))),tH⟩
              | (exfalso;simp_all;done)
        · have e:=hfin _ hc hle (.inl (by omega))
          repeat' (first|refine sK ?_|refine sC (fun _=>?_) (fun _=>?_)|fail)
          all_goals first
            | (refine retq rfl ?_;rw [e];simp only [zk,hwb] <;> (congr 3 <;> omega))
            | (exfalso;omega)
            | (trace "LEFT1";trace_state)
      · have e:=hfin _ hc hle (.inr (by rw [List.take_of_length_le (by omega)];rfl))
        clear hfin
        repeat' (first|refine sA ?_|refine sC (fun _=>?_) (fun _=>?_)|fail)
        all_goals first
          | (refine retq rfl ?_;rw [e];simp only [zk,hwb] <;> (congr 3 <;> (simp_all;omega)))
          | (refine retq rfl ?_;rw [e];simp only [zk] <;> (congr 3 <;> (simp_all <;> omega)))
          | (exfalso;simp_all <;> omega)
          | (rename_i h1 _
             have h0:r=0:=by
               have:=eq_of_beq h1
               simp only at this;omega
             refine retq rfl ?_
             rw [e,h0]
             have:min (max 0 1) (b + 1)=1:=by omega
             rw [this];rfl)
    · rw [hwh] at cw
      by_cases hk:t.kind=1
      · have e:YO g b t=0:=by rw [YO,zbw hwl hu hk];rfl
        have hkb:(t.kind==1)=true:=by simp [hk]
        repeat' (first|refine sK ?_|refine sC (fun _=>?_) (fun _=>?_)|fail)
        all_goals exact retq rfl (by rw [e];rfl)
      · have e:YO g b t=1:=by rw [YO,zaG hwl hu hk hwh];simp <;> omega
        have hkb:(t.kind==1)=false:=by simp [hk]
        repeat' (first|(refine shC ?_;first|refine qC cw ?_)|refine sK ?_|refine sC (fun _=>?_) (fun _=>?_)|fail)
        all_goals exact retq rfl (by rw [e];rfl)
end Go.Cg
namespace Go.Cg
open Go.RowKit
def za4:HEnv→Bool
 | []=>true
 | (_,.obj _)::_=>false
 | _::e=>za4 e
theorem ziG:∀ {e:HEnv},za4 e=true→∀ i h,e.get i=some h→∀ X,h≠.obj X
 | [],_,i,h,hg,_=>by simp [HEnv.get_nil] at hg
 | (j,x)::e,hn,i,h,hg,X=>by
  have hn':za4 e=true∧∀ X,x≠.obj X:=by
   cases x <;> simp_all [za4]
  rw [HEnv.get_cons] at hg
  split at hg
  ·simp only [Option.some.injEq] at hg;subst hg;exact hn'.2 X
  ·exact ziG hn'.1 i h hg X
section
variable {P:Program} {tb:Tab} {n:Nat} {g:Base} {K:KK} {w w':World} {ρ:Nat→Value} {H H':HEnv} {env:Env} {a:Act}
structure NC (B:Nat) (w w':World):Prop where
 row:∃ row,w.grownBy w' row∧∀ r,row=some r→B≤r∧∃ o:Obj,w.heap[r]?=some o∧o.isCells=false
theorem NC.cell {B:Nat} (h:NC B w w') {x:Addr} {v:Value} (hc:w.cell? x=some v):w'.cell? x=some v:=by
 obtain ⟨row,hg,hr⟩:=h.row
 exact cell_kept hc hg fun r e=>(hr r e).2
theorem PRel.keepc (h:∀ (x:Addr) (v:Value),w.cell? x=some v→w'.cell? x=some v) {p:PV} {v:Value} (hp:PRel K w p v):PRel K w' p v:=by
 have hrow:∀ {b o:Nat} {vs:List Value},Rows K w b o vs→Rows K w' b o vs:=fun hr k v hv=>⟨(hr k v hv).1,h _ _ (hr k v hv).2.1,(hr k v hv).2.2⟩
 induction hp with
 | base v h1=>exact .base v h1
 | agg cs vs hl h1 _ ih=>exact .agg cs vs hl h1 ih
 | nil sz full=>exact .nil sz full
 | emp sz full a=>exact .emp sz full a
 | slc sz es full b o cap vss h0 hc hf hm hm' hr _ ih=>exact .slc sz es full b o cap vss h0 hc hf hm hm' (fun i e he=>⟨(hr i e he).1,(hr i e he).2.1,hrow (hr i e he).2.2⟩) ih
 | ptr p off b o vs hl hr _ ih=>exact .ptr p off b o vs hl (hrow hr) ih
 | fn f first cap vf vc h1 h2 _ _ ih1 ih2=>exact .fn f first cap vf vc h1 h2 ih1 ih2
 | tup cs vs hl _ ih=>exact .tup cs vs hl ih
theorem PRels.keepc (h:∀ (x:Addr) (v:Value),w.cell? x=some v→w'.cell? x=some v) {ps:List PV} {vs:List Value} (hp:PRels K w ps vs):PRels K w' ps vs :=
 ⟨hp.1,fun k c v hc hv=>(hp.2 k c v hc hv).keepc h⟩
theorem PRel.nc {B:Nat} (h:NC B w w') {p:PV} {v:Value} (hp:PRel K w p v):PRel K w' p v:=hp.keepc fun _ _ hc=>h.cell hc
theorem PRels.nc {B:Nat} (h:NC B w w') {ps:List PV} {vs:List Value} (hp:PRels K w ps vs):PRels K w' ps vs:=hp.keepc fun _ _ hc=>h.cell hc
theorem ARel.nc {B:Nat} (h:NC B w w') {av:AV} {v:Value} (ha:ARel K w ρ H av v):ARel K w' ρ H av v:=by
 induction ha with
 | pv p v hp=>exact .pv p v (hp.nc h)
 | own i hv=>exact .own i hv
 | box i off b hi hb=>exact .box i off b hi hb
 | ad i off b m c hi hb=>exact .ad i off b m c hi hb
 | agg cs vs hl h1 _ ih=>exact .agg cs vs hl h1 ih
 | fn f first cap vf vc h1 h2 _ _ ih1 ih2=>exact .fn f first cap vf vc h1 h2 ih1 ih2
 | any v=>exact .any v
 | any1 v h1 h2=>exact .any1 v h1 h2
theorem NC.block {B:Nat} (h:NC B w w') {b:Nat} {arr:Array Value} {t:TypeId} {x:Nat × Nat} (hb:w.heap[b]?=some (.cells arr t x)):w'.heap[b]?=some (.cells arr t x):=by
 obtain ⟨row,hg,hr⟩:=h.row
 have hlt:=(Array.getElem?_eq_some_iff.1 hb).1
 rw [hg.block b hlt (fun e=>by
  obtain ⟨_,o,ho,hc⟩:=hr b e.symm
  rw [hb] at ho;cases ho;simp [Obj.isCells] at hc)]
 exact hb
theorem HOk.nc {B B0:Nat} (h:NC B0 w w') {e:HE} {r:Value} (hX:∀ X,e≠.obj X) (ho:HOk K w B ρ H e r):HOk K w' B ρ H e r:=by
 cases e with
 | cell v =>
  obtain ⟨b,t,arr,u,rfl,hB,hb,hu,ha,hn⟩:=ho
  exact ⟨b,t,arr,u,rfl,hB,h.block hb,hu.nc h,ha,hn⟩
 | row t sz es =>
  obtain ⟨xs,hown,h0,hc,hk⟩:=ho
  obtain ⟨row,hg,hr⟩:=h.row
  refine ⟨xs,hown.kept hg ?_,h0,fun i e he=>⟨(hc i e he).1,fun k c hkc=>?_⟩,hk⟩
  ·rcases hown.2 with ⟨e,_⟩|⟨b,cap,cur,e,_,hb,_⟩
   ·left;rw [e];rfl
   ·right;rw [e];intro e2
    obtain ⟨_,o,ho,hcc⟩:=hr b e2.symm
    rw [hb] at ho;cases ho;simp [Obj.isCells] at hcc
  ·obtain ⟨v,v1,v2,v3⟩:=(hc i e he).2 k c hkc
   exact ⟨v,v1,v2,v3.nc h⟩
 | mrow t sz es =>
  obtain ⟨xs,hown,h0,hc,hk⟩:=ho
  obtain ⟨row,hg,hr⟩:=h.row
  refine ⟨xs,hown.kept hg ?_,h0,fun i e he=>⟨(hc i e he).1,fun k c hkc=>?_⟩,hk⟩
  ·rcases hown.2 with ⟨e,_⟩|⟨b,cap,cur,e,_,hb,_⟩
   ·left;rw [e];rfl
   ·right;rw [e];intro e2
    obtain ⟨_,o,ho,hcc⟩:=hr b e2.symm
    rw [hb] at ho;cases ho;simp [Obj.isCells] at hcc
  ·obtain ⟨v,v1,v2,v3⟩:=(hc i e he).2 k c hkc
   exact ⟨v,v1,v2,v3.nc h⟩
 | dead=>trivial
 | pin v u=>exact ARel.nc h ho
 | obj X=>exact (hX X rfl).elim
structure Bare (g:Base):Prop where
 ds:g.ds=[]
 pr:∀ b,¬ g.pr b
 k0:∀ b o,g.K0 b o→b < g.w0.heap.size
theorem FS.nc (hf:FS g K ρ H w) (hpr:∀ b,¬ g.pr b) (hk0:∀ b o,g.K0 b o→b < g.w0.heap.size) (hw1:g.w1.heap.size=0) (hno:za4 H=true) (h:NC g.w0.heap.size w w'):FS g K ρ H w':=by
 obtain ⟨row,hg,hr⟩:=h.row
 have hpt:Prot g K w':=⟨fun b hb=>(hpr b hb).elim,fun b o h0=>by
  rw [←hf.pt.kept b o h0]
  refine World.cell?_of_block (hg.block b (hf.lt b o (hf.old b o h0)) fun e=>?_)
  have h1:=(hr b e.symm).1
  have h2:=hk0 b o h0
  omega⟩
 refine ⟨hf.below.grown hg hf.below.size (fun k e=>(hr k e).1),hf.old,hf.new,fun b o hk=>Nat.lt_of_lt_of_le (hf.lt b o hk) hg.size,⟨by rw [hw1];omega,fun k o hk=>by have:=(Array.getElem?_eq_some_iff.1 hk).1;omega⟩,hpt,hf.away,?_,hf.heap.apart⟩
 intro i e hi
 exact (hf.heap.ok i e hi).nc h (ziG hno i e hi)
structure AIter (P:Program) (f:FuncId) (cap:List PV) {α:Type} (encs:α→Array Value) (all:List α):Prop where
 stands:zbV P f
 stops:∀ (K:KK) (w:World) (vc:List Value) (n:Nat),PRels K w cap vc→SeqStopsK Fence.wide n P f vc.toArray encs (fun A B=>(∃ K,PRels K A cap vc)→∃ K,PRels K B cap vc) (fun xs=>xs=all) (fun _=>True) all.length w
def mark (D:Nat):Deferred:={ target:=.collected D,args:=#[] }
structure AW2 (P:Program) (n:Nat) (g:Base) (c:Code) (env:Env) (H:HEnv) (Q:QC):Prop where
 go:∀ a w,Inv n g env H a w→∀ d,2≤d→c.wpIn Fence.wide d P (fun e a' w'=>∃ (g2:Base) (D:Nat),g2.w0=g.w0∧g2.K0=g.K0∧g2.ds=[mark D]∧g.w0.heap.size≤D∧g2.w1.heap[D]?=some (.deferred (some [])) ∧
  ∃ env' H',Inv n g2 env' H' a' w'∧Q e env' H') a w
variable {x y c:Code} {QQ:QC} {ops:List Oper}
def zjW (next:Env→HEnv→Prop):QC
 | .normal,env,H=>next env H
 | _,_,_=>False
theorem zgw (h:AW P n g x env H (zjW fun env' H'=>AW2 P n g y env' H' QQ)):AW2 P n g (.seq x y) env H QQ :=
 ⟨fun a w hi d hd=>wpIn_seq (wpIn_mono (h.go a w hi none d) fun e a' w' ⟨env',H',h1,h2⟩=>by
  cases e <;> first
   | exact h2.go a' w' h1 d hd
   | exact h2.elim)⟩
theorem zrx (h:AW2 P n g x env H (zjW fun env' H'=>∀ g2:Base,AW P n g2 y env' H' QQ)):AW2 P n g (.seq x y) env H QQ :=
 ⟨fun a w hi d hd=>wpIn_seq (wpIn_mono (h.go a w hi d hd) fun e a' w' ⟨g2,D,q1,q2,q3,q4,q5,env',H',h1,h2⟩=>by
  cases e <;> first
   | exact wpIn_mono ((h2 g2).go a' w' h1 none d) (fun e a2 w2 ⟨env2,H2,k1,k2⟩=>⟨g2,D,q1,q2,q3,q4,q5,env2,H2,k1,k2⟩)
   | exact h2.elim)⟩
theorem zp4 {id:Nat} (h:AW2 P n g c env H (zjW fun env' H'=>QQ .normal env' H')):AW2 P n g (.block id c) env H QQ :=
 ⟨fun a w hi d hd=>wpIn_block (wpIn_mono (h.go a w hi d hd) fun e a' w' ⟨g2,D,q1,q2,q3,q4,q5,env',H',h1,h2⟩=>by
  cases e <;> first
   | exact ⟨g2,D,q1,q2,q3,q4,q5,env',H',h1,h2⟩
   | exact h2.elim)⟩
theorem zjZ (htb:qp P tb) {f:FuncId} {args:List PV} {r:PV} {fn:Func} (hf:P.funcs[f]?=some fn) (hb:fn.body=some c) (hn:(fn.name == "runtime.NumGoroutine")=false) (hnt:fn.ntmps=n) (hargs:args.length≤n)
  (rs:List ResultVar) (hrs:fn.results.toList=rs) (h:lensOk args→∀ g:Base,g.w1.heap.size=0→Bare g→AW2 P n g c (zfm 0 args) [] (fun e env H=>za4 H=true∧zpI tb rs r e env H)):ACall P f args r:=by
 refine ⟨⟨fn,hf,by simp [hb],hn⟩,fun K w vs hl hv=>?_⟩
 refine callsIn_wide.1 (callsIn_of_wp_marks (F:=Fence.wide) (n:=2) hf hb trivial ?_)
 have hlen:vs.length=args.length:=hv.1
 refine wpIn_mono ((h hv.lensOk (Base.of w K (bare w) []) rfl ⟨rfl,fun _ h=>h,hl⟩).go _ w ⟨by simp [hnt];omega,rfl,K,fun _=>undef,⟨.refl _ _,fun _ _ h=>h,fun _ _ h=>.inl h,hl,WX _ _,.base,.none _ _,⟨by simp [HEnv.get_nil,HEnv.get_cons],by simp [HEnv.get_nil,HEnv.get_cons]⟩⟩,?_⟩ 2 (Nat.le_refl _)) ?_
 ·intro t av hg
  obtain ⟨_,p,hp,rfl⟩:=za2 args 0 t av hg
  have hlt:t < vs.length:=by rw [hlen];exact (List.getElem?_eq_some_iff.1 hp).1
  refine ⟨vs[t],?_,.pv _ _ (hv.2 t p _ hp (List.getElem?_eq_getElem hlt))⟩
  rw [Array.getElem?_append_left (by simpa using hlt)]
  simp [hlt]
 ·rintro e a' w' ⟨g2,D,q1,q2,q3,q4,q5,env1,H',hi,hno,he,env',hent,ps,hps,rfl⟩
  obtain ⟨_,h2,K',ρ',hf2,he0⟩:=hi
  have hD:w'.heap[D]?=some (.deferred (some [])):=hf2.others.same D _ q5 rfl
  have hf':FS (Base.of w K (bare w) []) K' ρ' H' w':=by
   have b1:=hf2.below;rw [q1] at b1
   have b2:=hf2.old;rw [q2] at b2
   have b3:=hf2.new;rw [q1,q2] at b3
   have b5:=hf2.heap;rw [q1] at b5
   exact ⟨b1,b2,b3,hf2.lt,WX _ _,⟨fun _ h=>h.elim,fun b o h0=>World.cell?_of_block (b1.block b (hl b o h0))⟩,.none _ _,b5⟩
  obtain ⟨w3,hw3⟩:∃ w3,w3=w'.putObj D (.deferred none):=⟨_,rfl⟩
  have hnc:NC w.heap.size w' w3:=⟨some D,by rw [hw3];exact grownBy_putObj' _ _ _,fun r e=>by cases e;exact ⟨q4,_,hD,rfl⟩⟩
  have hf3:=hf'.nc (fun _ h=>h) hl rfl hno hnc
  have he':EnvR K' w3 ρ' H' env' a'.tmps:=fun t av ht=>by
   obtain ⟨av0,q1,q2⟩:=hent t av ht
   obtain ⟨v,v1,v2⟩:=he0 t av0 q1
   exact ⟨v,v1,q2 _ _ _ _ _ (v2.nc hnc)⟩
  obtain ⟨us,hrun,hru⟩:=za7 htb hf3 he' hps
  have hev:Evo K K' w w3:=⟨hf3.below,hf3.old,hf3.new,hf3.lt⟩
  have hres:(results fn a'.tmps).run P w3=.ok (if hh:us.toArray.size=1 then us.toArray[0] else .tuple us.toArray) w3:=by
   unfold results
   rw [Array.mapM_eq_mapM_toList,hrs]
   simp only [Sem.run_bind,Sem.run_map]
   erw [hrun]
   rfl
  have hval:PRel K' w3 (zk ps) (if hh:us.toArray.size=1 then us.toArray[0] else .tuple us.toArray):=by
   split
   ·rename_i hh
    have hl1:=hru.1
    have hu:us.length=1:=by simpa using hh
    obtain ⟨u,rfl⟩:=List.length_eq_one_iff.1 hu
    obtain ⟨p,rfl⟩:=List.length_eq_one_iff.1 (show ps.length=1 by omega)
    exact hru.2 0 p u (by simp) (by simp)
   ·rename_i hh
    simp at hh
    have:zk ps=.tup ps:=by
     unfold zk
     split
     ·rename_i p;exact absurd (by have:=hru.1;simpa using this) hh
     ·rfl
    rw [this]
    exact .tup ps us hru.1 hru.2
  have hds:a'.defers=[mark D]:=h2.trans q3
  have hleave:LeavesInM Fence.wide 2 P fn a'.tmps (fun e w'=>∃ v K',e=.returned v∧Evo K K' w w'∧PRel K' w' (zk ps) v) a'.defers .returning w':=by
   rw [hds]
   refine ⟨by simp,.inl ⟨D,w3,rfl,by rw [hw3];exact run_takeDeferred hD,?_⟩⟩
   exact ⟨_,hres,_,K',rfl,hev,hval⟩
  rcases he with rfl|rfl
  ·exact hleave
  ·exact hleave
def zrO (ts:List Nat) (env:Env):Bool:=ts.all fun t=>(env.get t).isNone
theorem zoX {α:Type} {tf p0 p1 tv:Nat} {id:Nat} {ty:TypeId} {po:String} {af:Array Edge} {body:Code} {fB:FuncId} {cap:List PV} {encs:α→Array Value} {all:List α} (v0 v1:α→Value) (hit:AIter P fB cap encs all)
  (env2:Env) (HH:List α→HEnv) (b:Nat) (hw1:g.w1.heap.size=0) (hbg:Bare g)
  (henc:∀ x,encs x=#[v0 x,v1 x]) (hv1:∀ x,Xh (v1 x)=true)
  (ht:env.get tf=some (.pv (.fn (.func fB) [] cap))) (hs:Sub env env2) (hft:env2.get tf=some (.pv (.fn (.func fB) [] cap))) (hnd:zkJ env2=true) (hfr:zrO [p0,p1,tv] env2=true) (hpp:p0 < n∧p1 < n∧tv < n∧p0≠p1)
  (hfit:Wn H (HH []) env2) (hids:∀ pre,zew b (HH pre)=true) (hno:∀ pre,za4 (HH pre)=true)
  (hend:(zas (HH all) env2&&hIn (HH all) (HH all))=true)
  (hbody:∀ (g2:Base) (us:Nat→Value) (pre:List α) (x:α),pre.length < all.length→AW P n g2 body ((tv,.pv (.base (v1 x)))::env2) (HH pre++qH us b env2) (zjW fun env' H'=>Wn H' (HH (pre++[x])++qH us b env2) []))
  (h:QQ .normal env2 (HH all)):AW2 P n g (.rangeFunc (.tmp tf) #[p0,p1] (.region id #[{ dst:=some tv,op:=.assign (.tmp p1),type:=ty,pos:=po,after:=af,guard:=none }] false) body) env H QQ:=by
 refine ⟨fun a w hinv d hd=>?_⟩
 have hinv2:=(hinv.sub hs).hsub hfit
 obtain ⟨h1,h2,K,ρ,hf,he⟩:=hinv2
 let us:Nat→Value:=fun t=>a.tmps.getD t undef
 have hus:∀ t av,(t,av)∈env2→ARel K w ρ (HH []) av (us t):=by
  intro t av hm
  obtain ⟨v,v1,v2⟩:=he t av (zdK hnd hm)
  have:us t=v:=by simp [us,Array.getD_eq_getD_getElem?,v1]
  rw [this];exact v2
 have hpins:∀ (pre:List α),za4 (HH pre++qH us b env2)=true:=by
  intro pre
  have h3:∀ (e:Env) (k:Nat),za4 (qH us k e)=true:=by
   intro e
   induction e with
   | nil=>intro k;rfl
   | cons x e ih=>intro k;exact ih (k + 1)
  have h4:∀ (A B:HEnv),za4 A=true→za4 B=true→za4 (A++B)=true:=by
   intro A
   induction A with
   | nil=>intro B _ hB;exact hB
   | cons x A ih =>
    intro B hA hB
    obtain ⟨j,x⟩:=x
    cases x <;> simp only [za4,List.cons_append] at hA ⊢ <;> first|exact ih B hA hB|cases hA
  exact h4 _ _ (hno pre) (h3 _ _)
 have hfs0:FS g K ρ (HH []++qH us b env2) w:=by
  have hlat:Later K K w w:=.refl K w
  have hk:∀ j,(HEnv.get (HH []) j).isSome=true→(HEnv.get (HH []++qH us b env2) j).isSome=true∧ρ j=ρ j:=fun j hj=>⟨yZ j hj,rfl⟩
  refine ⟨hf.below,hf.old,hf.new,hf.lt,hf.others,hf.pt,fun i h bb _ _ _=>hbg.pr bb,?_,?_⟩
  ·intro i e hi
   rw [get_append] at hi
   cases hh:HEnv.get (HH []) i with
   | some x=>rw [hh] at hi;simp only [Option.some.injEq] at hi;subst hi;exact (hf.heap.ok i _ hh).keeps (.refl hf.lt) hf.lt hk
   | none =>
    rw [hh] at hi
    obtain ⟨_,t,av,hm,rfl⟩:=zaz hi
    exact (hus t av hm).keeps hlat hk
  ·intro i j x y bb hij hi hj lx ly bx bby
   have e1:∀ i x,HEnv.get (HH []++qH us b env2) i=some x→x.live=true→HEnv.get (HH []) i=some x:=by
    intro i x hi hl
    rw [get_append] at hi
    cases hh:HEnv.get (HH []) i with
    | some z=>rw [hh] at hi;exact hi
    | none =>
     rw [hh] at hi
     obtain ⟨_,t,av,hm,rfl⟩:=zaz hi
     simp [HE.live] at hl
   exact hf.heap.apart i j x y bb hij (e1 i x hi lx) (e1 j y hj ly) lx ly bx bby
 have hread:∀ {K':KK} {ρ':Nat→Value} {pre:List α} {W:World} {g':Base},FS g' K' ρ' (HH pre++qH us b env2) W→∀ t av,env2.get t=some av→a.tmps[t]?=some (us t)∧ARel K' W ρ' (HH pre++qH us b env2) av (us t):=by
  intro K' ρ' pre W g' hf' t av hg
  obtain ⟨v,v1,v2⟩:=he t av hg
  have hu:us t=v:=by simp [us,Array.getD_eq_getD_getElem?,v1]
  obtain ⟨i,hbi,hgi⟩:=zhd (us:=us) (b:=b) (zgf hg)
  have hn:HEnv.get (HH pre) i=none:=by
   cases hh:HEnv.get (HH pre) i with
   | none=>rfl
   | some z=>have:=VG (hids pre) i z hh;omega
  have hget:HEnv.get (HH pre++qH us b env2) i=some (.pin av (us t)):=by rw [get_append,hn];exact hgi
  exact ⟨by rw [hu];exact v1,hf'.heap.ok i _ hget⟩
 have hfn:∃ vc,us tf=.func (.func fB) #[] vc.toArray∧PRels K w cap vc:=by
  have:=(hus tf _ (zgf hft))
  cases this with
  | pv _ _ hp =>
   generalize us tf=u at hp
   cases hp with
   | fn _ _ _ vf vc f1 f2 f3 f4 =>
    have:vf=[]:=List.eq_nil_of_length_eq_zero (by simpa using f1)
    subst this
    exact ⟨vc,rfl,f2,f4⟩
 obtain ⟨vc,hvc,hpc⟩:=hfn
 have hev:a.eval (.tmp tf)=.func (.func fB) #[] vc.toArray:=by rw [←hvc];rfl
 have hcapW:∀ {K':KK} {ρ':Nat→Value} {pre:List α} {W:World} {g':Base},FS g' K' ρ' (HH pre++qH us b env2) W→PRels K' W cap vc:=by
  intro K' ρ' pre W g' hf'
  have:=(hread hf' tf _ hft).2
  rw [hvc] at this
  cases this with
  | pv _ _ hp =>
   cases hp with
   | fn _ _ _ vf vc' f1 f2 f3 f4=>exact ⟨f2,f4⟩
 have hseq:=hit.stops K w vc (d - 1) hpc
 let a₁:α→Act:=fun x=>{ tmps:=((a.tmps.setIfInBounds p0 (v0 x)).setIfInBounds p1 (v1 x)).setIfInBounds tv (v1 x),defers:=[] }
 let I:List α→World→Prop:=fun pre W=>∃ K ρ,FS g K ρ (HH pre++qH us b env2) W
 refine wpIn_rangeFunc_ownF (α:=α) (F:=Fence.wide) (n:=d) (w0:=w) (N:=all.length) rfl (by omega) hev trivial (fun args w=>ZU hit.stands args w) hseq
  (fun h1 h2 h=>h2 (h1 h)) (fun W l o o' hl hlo ho _=>fun ⟨K',hK'⟩=>⟨K',hK'.nc (B:=0) ⟨some l,grownBy_putObj' _ _ _,fun r e=>by cases e;exact ⟨Nat.zero_le _,o,hlo,ho⟩⟩⟩) (.refl _ _)
  (fun x=>by rw [henc];rfl) I (fun _ _ _=>False) ?_ (fun _ _ _ _ _ h=>h.elim) ⟨K,ρ,hfs0⟩ a₁ ?_ ?_ ?_ (fun _ _ _ _ _ _ h _=>h.elim)
 ·rintro pre W W' row ⟨K',ρ',hf'⟩ hg hr
  exact ⟨K',ρ',hf'.nc hbg.pr hbg.k0 hw1 (hpins pre) ⟨row,hg,fun r e=>⟨Nat.le_trans hf.below.size (hr r e).1,(hr r e).2⟩⟩⟩
 ·intro l x W KK hKK
  refine wpIn_region_list ?_
  have hK:KK (a₁ x) W:=hKK
  show wpListIn _ _ _ _ _ [_] _ _
  refine wpListIn_plain rfl fun K2 hK2=>?_
  refine ⟨fun _ _=>trivial,?_⟩
  rw [Oper.semAt_eq _ _ _ (fun c hc=>by cases hc)]
  have hrun:∀ ρ:Operand→Value,(execOp ρ { dst:=some tv,op:=.assign (.tmp p1),type:=ty,pos:=po,after:=af,guard:=none:Oper }).run P W=.ok (.value (ρ (.tmp p1))) W:=fun ρ=>by simp [execOp]
  rw [hrun]
  simp only [Oper.uponIn]
  refine hK2 _ _ ?_
  show Exit.then KK _ .normal _ W
  have e1:(({ tmps:=((#[p0,p1]:Array Tmp).zip (encs x)).foldl (fun t (p,v)=>t.setIfInBounds p v) a.tmps,defers:=[] }:Act).put (some tv) (({ tmps:=((#[p0,p1]:Array Tmp).zip (encs x)).foldl (fun t (p,v)=>t.setIfInBounds p v) a.tmps,defers:=[] }:Act).eval (.tmp p1)))=a₁ x:=by
   rw [henc x]
   have hsz:p1 < (a.tmps.setIfInBounds p0 (v0 x)).size:=by simp;omega
   have hz:((#[p0,p1]:Array Tmp).zip #[v0 x,v1 x]).foldl (fun t (p,v)=>t.setIfInBounds p v) a.tmps=(a.tmps.setIfInBounds p0 (v0 x)).setIfInBounds p1 (v1 x):=by
    have hz0:(#[p0,p1]:Array Tmp).zip #[v0 x,v1 x]=#[(p0,v0 x),(p1,v1 x)]:=Array.ext' (by rw [Array.toList_zip];rfl)
    rw [hz0];rfl
   rw [hz]
   simp only [Act.put,Act.eval,a₁]
   congr 2
   simp [Array.getD_eq_getD_getElem?]
   intro h;omega
  rw [e1]
  exact hK
 ·rintro l pre x W ⟨K',ρ',hf'⟩ hlen
  have hf2:FS ⟨g.w0,g.K0,W,[],g.wp,g.pr⟩ K' ρ' (HH pre++qH us b env2) W:=⟨hf'.below,hf'.old,hf'.new,hf'.lt,KeepsOthers.refl W,⟨hf'.pt.same,hf'.pt.kept⟩,hf'.away,hf'.heap⟩
  have hinvB:Inv n ⟨g.w0,g.K0,W,[],g.wp,g.pr⟩ ((tv,.pv (.base (v1 x)))::env2) (HH pre++qH us b env2) (a₁ x) W:=by
   refine ⟨by simp [a₁,h1],rfl,K',ρ',hf2,fun t av hg=>?_⟩
   rw [Env.get_cons] at hg
   split at hg
   ·rename_i e;subst e
    simp only [Option.some.injEq] at hg;subst hg
    refine ⟨v1 x,?_,.pv _ _ (.base _ (hv1 x))⟩
    show (((a.tmps.setIfInBounds p0 (v0 x)).setIfInBounds p1 (v1 x)).setIfInBounds tv (v1 x))[tv]?=some (v1 x)
    exact Array.getElem?_setIfInBounds_self_of_lt (by simp;omega)
   ·rename_i hne
    obtain ⟨q1,q2⟩:=hread hf' t av hg
    have hfresh:∀ p,p∈[p0,p1,tv]→p≠t:=by
     intro p hp e;subst e
     have:=List.all_eq_true.1 hfr p hp
     rw [hg] at this;cases this
    refine ⟨us t,?_,q2⟩
    show (((a.tmps.setIfInBounds p0 (v0 x)).setIfInBounds p1 (v1 x)).setIfInBounds tv (v1 x))[t]?=_
    rw [Array.getElem?_setIfInBounds_ne (hfresh tv (by simp)),Array.getElem?_setIfInBounds_ne (hfresh p1 (by simp)),Array.getElem?_setIfInBounds_ne (hfresh p0 (by simp))]
    exact q1
  refine wpIn_mono ((hbody ⟨g.w0,g.K0,W,[],g.wp,g.pr⟩ us pre x hlen).go (a₁ x) W hinvB (some l) (d - 1 - 1)) ?_
  rintro e a' W' ⟨env',H',hi',hq⟩
  cases e with
  | normal =>
   obtain ⟨_,_,K2,ρ2,hfe,_⟩:=(hi'.sub yS).hsub (H':=HH (pre++[x])++qH us b env2) hq
   refine ⟨hfe.others,fun _=>⟨K2,hcapW hfe⟩,K2,ρ2,⟨hfe.below,hfe.old,hfe.new,hfe.lt,⟨by rw [hw1];omega,fun k o hk=>by have:=(Array.getElem?_eq_some_iff.1 hk).1;omega⟩,⟨hfe.pt.same,hfe.pt.kept⟩,hfe.away,hfe.heap⟩⟩
  | _=>exact hq.elim
 ·rintro D xs W hD rfl ⟨K',ρ',hf'⟩ hWD
  have hend':=hend
  simp only [Bool.and_eq_true] at hend'
  have hfe:FS ⟨g.w0,g.K0,W,[mark D],g.wp,g.pr⟩ K' ρ' (HH xs++qH us b env2) W:=⟨hf'.below,hf'.old,hf'.new,hf'.lt,KeepsOthers.refl W,⟨hf'.pt.same,hf'.pt.kept⟩,hf'.away,hf'.heap⟩
  have hinvE:Inv n ⟨g.w0,g.K0,W,[mark D],g.wp,g.pr⟩ env2 (HH xs++qH us b env2) { a with defers:=mark D::a.defers } W:=by
   refine ⟨h1,?_,K',ρ',hfe,fun t av hg=>?_⟩
   ·show mark D::a.defers=[mark D]
    rw [h2,hbg.ds]
   ·obtain ⟨q1,q2⟩:=hread hf' t av hg
    exact ⟨us t,q1,q2⟩
  have hsub:HSub (HH xs++qH us b env2) (HH xs):=fun i h hi=>by rw [get_append,hi]
  exact ⟨⟨g.w0,g.K0,W,[mark D],g.wp,g.pr⟩,D,rfl,rfl,rfl,Nat.le_trans hf.below.size hD,hWD,env2,HH xs,hinvE.hsub ⟨hsub,hend⟩,h⟩
end
end Go.Cg
set_option linter.unusedVariables false
set_option linter.unusedSimpArgs false
namespace Go.Cg
open Go.Proofs Go.RowKit Go.Shelf
set_option maxHeartbeats 20000000
attribute [local go_sem] Oper.semAt_some
def Vp (l:List Int) (r:Nat):List (Int × Int):=(List.range (l.length - r)).map fun k=>(((l.length - 1 - k:Nat):Int),l.getD (l.length - 1 - k) 0)
theorem zmB (l:List Int):Vp l l.length=[]:=by simp [Vp]
theorem zeH (l:List Int) (r:Nat):(Vp l r).length=l.length - r:=by simp [Vp]
theorem zng {l:List Int} {m:Nat} (h:m < l.length):Vp l m=Vp l (m + 1)++[((m:Int),l.getD m 0)]:=by
 rw [Vp,Vp,show l.length - m=(l.length - (m + 1)) + 1 by omega,List.range_succ,List.map_append,List.map_singleton]
 rw [show l.length - 1 - (l.length - (m + 1))=m by omega]
def zjF (W:World) (v:Value) (l:List Int):Prop :=
 ∃ (Bs o:Nat) (sv:Value),v=.pointer (some ⟨Bs,o,none⟩)∧W.cell? ⟨Bs,o,none⟩=some sv ∧
  ((l=[]∧∃ p,sv=.slice p 0 0)∨∃ b off cap,sv=.slice (some ⟨b,off,none⟩) l.length cap∧∀ j,j < l.length→W.cell? ⟨b,off + j,none⟩=some (.int .i64 (l.getD j 0)))
theorem zdw {K:Cg.KK} {W:World} {l:List Int} {vc:List Value} (h:PRels K W [.ptr (ints l) 0] vc):∃ v,vc=[v]∧zjF W v l:=by
 obtain ⟨v,vs,rfl,r,h2⟩:=h.cons_inv
 obtain rfl:=h2.nil_inv
 refine ⟨v,rfl,?_⟩
 cases r with
 | ptr _ _ b o vs hl hr hc =>
  cases vs with
  | nil=>simp [PV.cells,ints] at hl
  | cons sv vs' =>
   have h0:=hr 0 sv rfl
   have hp:=hc 0 (ints l) sv rfl rfl
   refine ⟨b,o,sv,by simp,by simpa using h0.2.1,?_⟩
   generalize hls:ints l=p at hp
   cases hp with
   | nil sz full =>
    simp [ints] at hls
    exact .inl ⟨hls.2.1,none,rfl⟩
   | emp sz full a =>
    simp [ints] at hls
    exact .inl ⟨hls.2.1,some a,rfl⟩
   | slc sz es full b2 o2 cap vss q0 q1 q2 q3 q4 q5 q6 =>
    simp only [ints,PV.slc.injEq] at hls
    obtain ⟨rfl,rfl,_⟩:=hls
    refine .inr ⟨b2,o2,cap,by simp,fun j hj=>?_⟩
    have he:(l.map pi)[j]?=some (pi l[j]):=by simp [hj]
    obtain ⟨_,e2,e3⟩:=q5 j _ he
    have hlt:0 < (vss j).length:=by omega
    have hv:=q6 j _ 0 _ (vss j)[0] he rfl (List.getElem?_eq_getElem hlt)
    have hcell:=(e3 0 _ (List.getElem?_eq_getElem hlt)).2.1
    generalize (vss j)[0]=y at hv hcell
    cases hv
    rw [List.getD_eq_getElem?_getD,List.getElem?_eq_getElem hj,Option.getD_some]
    simpa using hcell
   | _=>simp [ints] at hls
set_option maxRecDepth 100000 in
theorem zqc (n:Nat) (rn:Nat) (v:Value) (l:List Int) (hreach:l.length≤1000) (J Jx:List (Int × Int)→World→Prop)
  (hY:∀ pre x W,J pre W→pre.length < l.length→YieldAt Fence.wide (n - 1) Tryz.prog rn #[.int .i64 x.1,.int .i64 x.2] W fun e W' =>
   (e=.returned (.bool true)∧J (pre++[x]) W'∧((∃ K,PRels K W [.ptr (ints l) 0] [v])→∃ K,PRels K W' [.ptr (ints l) 0] [v]))∨(e=.returned (.bool false)∧Jx (pre++[x]) W'))
  (W:World) (hvP:∃ K,PRels K W [.ptr (ints l) 0] [v]) (h0:J [] W) :
  CallsIn Fence.wide n Tryz.prog 185 #[.func (.yield rn) #[] #[],v] W fun e W'=>(∃ u,e=.returned u) ∧
   ((∃ ys,ys=Vp l 0∧J ys W')∨(∃ pre,Jx pre W')):=by
 obtain ⟨Bs,o,sv,rfl,hBs,hsv⟩:zjF W v l:=by
  obtain ⟨K,hp⟩:=hvP
  obtain ⟨v2,e,hv2⟩:=zdw hp
  simp only [List.cons.injEq,and_true] at e;subst e;exact hv2
 obtain ⟨p,cap,hsve⟩:∃ p cap,sv=.slice p l.length cap:=by
  rcases hsv with ⟨rfl,p,rfl⟩|⟨b,off,cap,rfl,_⟩
  ·exact ⟨p,0,rfl⟩
  ·exact ⟨_,cap,rfl⟩
 subst hsve
 refine callsIn_of_wp Tryz.func185 rfl trivial ?_ rfl
 simp only [Tryz.ntmps185,List.size_toArray,List.length_cons,List.length_nil,Nat.reduceAdd,Nat.reduceSub,Array.replicate_succ,Array.replicate_zero,List.push_toArray,List.append_toArray,List.nil_append,List.cons_append]
 gi_wp2
 gi_loopw [3] (fun i wr=>∃ r:Nat,r≤l.length∧i=.int .i64 ((r:Int) - 1)∧J (Vp l r) wr∧∃ K,PRels K wr [.ptr (ints l) 0] [.pointer (some ⟨Bs,o,none⟩)])
  (fun i _=>(RowKit.intOf i + 1).toNat)
 case atStart=>exact ⟨l.length,Nat.le_refl _,by first|rfl|(simp;done)|(congr 1;exact wrap_in (by omega) (by omega)),by rw [zmB];exact h0,hvP⟩
 case round =>
  obtain ⟨r,hk,rfl,hJs,hnx⟩:=hrel
  clear hsv hBs
  obtain ⟨Bs',o',sv,e1,hBs,hsv⟩:zjF wr (.pointer (some ⟨Bs,o,none⟩)) l:=by
   obtain ⟨K,hp⟩:=hnx
   obtain ⟨v2,e,hv2⟩:=zdw hp
   simp only [List.cons.injEq,and_true] at e;subst e;exact hv2
  simp only [Value.pointer.injEq,Option.some.injEq,Addr.mk.injEq,and_true] at e1
  obtain ⟨rfl,rfl⟩:=e1
  cases r with
  | zero =>
   gi_wp2
   go_end0
   exact ⟨⟨_,rfl⟩,.inl ⟨_,rfl,hJs⟩⟩
  | succ m =>
   have hm:m < l.length:=by omega
   rcases hsv with ⟨rfl,_⟩|⟨b,off,cap2,rfl,hcs⟩
   ·simp at hm
   ·have hcx:=hcs m hm
    obtain ⟨fn,tmps,assign,body,hy,hR⟩:=hY _ ((m:Int),l.getD m 0) wr hJs (by rw [zeH];omega)
    dsimp only at hy
    have hgd:l.getD m 0=l[m]:=by rw [List.getD_eq_getElem?_getD,List.getElem?_eq_getElem hm,Option.getD_some]
    rw [hgd] at hy hcx
    rw [show (((m + 1:Nat):Int) - 1)=((m:Nat):Int) by omega]
    gi_wp2
    refine ⟨fun hh=>by simp [Fence.wide] at hh,hR.mono ?_⟩
    rintro e W3 (⟨rfl,hJ3,hk3⟩|⟨rfl,hJx3⟩)
    ·gi_wp2
     go_roundw
     case rel=>exact ⟨m,by omega,by first|rfl|(simp;done)|(congr 1;exact wrap_in (by omega) (by omega)),by rw [zng hm];exact hJ3,hk3 hnx⟩
     case measure=>simp [RowKit.intOf]
    ·gi_wp2
     refine bodyPost_ret (results_none rfl _ _ _) rfl ?_
     exact ⟨⟨_,rfl⟩,.inr ⟨_,hJx3⟩⟩
theorem zpy (l:List Int) (hreach:l.length≤1000):AIter Tryz.prog 185 [.ptr (ints l) 0] (fun x:Int × Int=>#[.int .i64 x.1,.int .i64 x.2]) (Vp l 0):=by
 refine ⟨⟨_,Tryz.func185,rfl,by kernel_rfl⟩,fun K w vc n hp=>?_⟩
 obtain ⟨v,rfl,_⟩:=zdw hp
 intro rn J Jx W hW hJ hJx hY h0
 have hpW:PRels K W [.ptr (ints l) 0] [v]:=hp.keepc fun x u hx=>by
  obtain ⟨o,ho,_⟩:=cells_of_cell hx
  exact (hW.cell (p:=x) (Array.getElem?_eq_some_iff.1 ho).1).trans hx
 rw [show (Vp l 0).length=l.length by rw [zeH];omega] at hY
 refine (zqc n rn v l hreach J Jx hY W ⟨K,hpW⟩ h0).mono ?_
 rintro e W' ⟨h1,h2|⟨pre,h2⟩⟩
 ·exact ⟨h1,.inl h2⟩
 ·exact ⟨h1,.inr ⟨pre,trivial,h2⟩⟩
theorem zik (l:List Int):ACall Tryz.prog 150 [ints l] (.fn (.func 185) [] [.ptr (ints l) 0]):=by
 refine zh zf Tryz.func150 rfl (by kernel_rfl) Tryz.ntmps150 (by simp) _ rfl (fun hw gB hgB=>?_)
 repeat' (first|refine sA ?_|refine sC (fun _=>?_) (fun _=>?_)|fail)
 exact retq rfl rfl
end Go.Cg
namespace Go.Cg
open Go.Proofs
theorem zpt (l:List Int):(Vp l 0).map (·.2)=l.reverse:=by
 apply List.ext_getElem
 ·simp [Vp]
 ·intro i h1 h2
  have hi:i < l.length:=by simpa [Vp] using h1
  simp only [Vp,List.getElem_map,List.getElem_range,List.getElem_reverse]
  rw [List.getD_eq_getElem?_getD,List.getElem?_eq_getElem (by omega),Option.getD_some]
set_option maxHeartbeats 20000000
theorem zm8 (g:Img) (hwl:Yq g=true) (hu:Ya g=true) (t:Int):∃ r:Nat,Cnt 32 r (objT g t).length∧ACall Tryz.prog 96 [zH g,pi t] (pi (r:Nat)):=by
 have hf:=Yc hwl
 have hgl:g.fields.length≤64:=by have:=(zW hf).2.1;omega
 have hgt:g.types.length≤32:=(zW hf).1
 have hui:=XY g t
 have hul:=Zu _ _ hui.1 hui.2
 let add:Nat→Fd→Nat:=fun r f=>if r≤32 then r + YO g 32 f.ty else r
 let addU:Nat→Int→Nat:=fun r u=>(ZQ g u).foldl add r
 have hadd:∀ (l:List Fd) (r s:Nat),r≤65→Cnt 32 r s→l.foldl add r≤65∧Cnt 32 (l.foldl add r) (s + (fcs g l).length):=by
  intro l
  induction l with
  | nil=>intro r s h1 h2;exact ⟨h1,by simpa [fcs] using h2⟩
  | cons f l ih =>
   intro r s h1 h2
   rw [List.foldl_cons,Vq,←Nat.add_assoc]
   have hcl:YO g 32 f.ty≤33:=Nat.min_le_right _ _
   refine ih _ _ ?_ ?_
   ·simp only [add];split <;> omega
   ·simp only [add]
    split
    ·rename_i h;exact h2.add h
    ·rename_i h;exact h2.stay (by omega)
 have haddU:∀ (us:List Int) (r s:Nat),r≤65→Cnt 32 r s→us.foldl addU r≤65∧Cnt 32 (us.foldl addU r) (s + (us.map fun u=>(fcs g (ZQ g u)).length).sum):=by
  intro us
  induction us with
  | nil=>intro r s h1 h2;exact ⟨h1,by simpa using h2⟩
  | cons u us ih =>
   intro r s h1 h2
   obtain ⟨k1,k2⟩:=hadd (ZQ g u) r s h1 h2
   rw [List.foldl_cons,List.map_cons,List.sum_cons,←Nat.add_assoc]
   exact ih _ _ k1 k2
 obtain ⟨hb,hc⟩:=haddU (up g t) 0 0 (by omega) (Cnt.zero _)
 rw [Nat.zero_add,←zmi] at hc
 refine ⟨(up g t).foldl addU 0,hc,?_⟩
 clear hc
 refine zh zf Tryz.func96 rfl (by kernel_rfl) Tryz.ntmps96 (by simp) _ rfl (fun hw gB hgB=>?_)
 repeat' (first|(refine shC ?_;first|refine zB rfl (zG rfl rfl (Qa g t (by omega))) rfl rfl ?_|refine AD.step _ _ _ _ _ rfl (zG rfl rfl (Qa g t (by omega))) rfl rfl ?_)|refine sA ?_|refine sC (fun _=>?_) (fun _=>?_)|fail)
 refine zJ (fun x:Nat × Nat=>[(2,.pv (.ptr (zH g) 0)),(5,.pv (pi x.2)),(12,.pv (ints (up g t))),(13,.pv (pi (up g t).length)),(14,.pv (pi x.1))]) (fun _=>[])
  (fun x=>x.1≤(up g t).length∧x.2≤65∧((up g t).drop x.1).foldl addU x.2=(up g t).foldl addU 0) (fun x=>(up g t).length - x.1) (0,0) ⟨by simp,by simp,rfl⟩ (tS) tH ?_
 rintro ⟨k,r⟩ ⟨hk,hr,hfd⟩
 simp only at hk hr hfd
 by_cases hlt:k < (up g t).length
 ·have heU:=qB hlt
  rw [Xl hlt] at hfd
  have hol:=zld g (up g t)[k]
  repeat' (first|(refine shC ?_;first|refine qC (zlR g _ hf) ?_)|(refine shX ?_;first|refine qX heU ?_)|refine sK ?_|refine sC (fun _=>?_) (fun _=>?_)|fail)
  refine zJ (fun x:Nat × Nat=>[(2,.pv (.ptr (zH g) 0)),(5,.pv (pi x.2)),(12,.pv (ints (up g t))),(13,.pv (pi (up g t).length)),(14,.pv (pi k)),(20,.pv (.slc 7 ((ZQ g (up g t)[k]).map ZK) false)),(21,.pv (pi (ZQ g (up g t)[k]).length)),(22,.pv (pi x.1))]) (fun _=>[])
   (fun x=>x.1≤(ZQ g (up g t)[k]).length∧x.2≤65∧((ZQ g (up g t)[k]).drop x.1).foldl add x.2=addU r (up g t)[k]) (fun x=>(ZQ g (up g t)[k]).length - x.1) (0,r) ⟨by simp,hr,rfl⟩ (tS) tH ?_
  rintro ⟨m,s⟩ ⟨hm,hs,hfs⟩
  simp only at hm hs hfs
  by_cases hltm:m < (ZQ g (up g t)[k]).length
  ·have he:=yu (f:=ZK) hltm
   rw [Xl hltm] at hfs
   have c1:=zhO g hwl hu 32 (by omega) (by omega) _ (ZQ g (up g t)[k])[m].ty (zhI hwl hu _)
   have hcl:YO g 32 (ZQ g (up g t)[k])[m].ty≤33:=Nat.min_le_right _ _
   simp only [add] at hfs
   generalize YO g 32 (ZQ g (up g t)[k])[m].ty=c at c1 hcl hfs
   by_cases hsb:s≤32
   ·rw [if_pos hsb] at hfs
    have hd1:decide ((s:Int)≤32)=true:=by simp;omega
    repeat' (first|(refine shC ?_;first|refine qC c1 ?_)|(refine shX ?_;first|refine qX he ?_)|refine sK ?_|refine sC (fun _=>?_) (fun _=>?_)|fail)
    exact ⟨(m + 1,s + c),⟨hltm,by simp only;omega,hfs⟩,tD,by repeat (first|exact yS|refine yG rfl ?_|(refine Zc rfl ?_ ?_;· (first|(rw [wrap_in (by omega) (by omega)] <;> omega)|(dsimp only;rw [wrap_in (by omega) (by omega)] <;> (push_cast;omega))))),tH⟩
   ·rw [if_neg hsb] at hfs
    have hd1:decide ((s:Int)≤32)=false:=by simp;omega
    repeat' (first|(refine shX ?_;first|refine qX he ?_)|refine sK ?_|refine sC (fun _=>?_) (fun _=>?_)|fail)
    exact ⟨(m + 1,s),⟨hltm,hs,hfs⟩,tD,tS,tH⟩
  ·rw [drop_end (by omega)] at hfs
   simp only [List.foldl_nil] at hfs
   repeat' (first|refine sK ?_|refine sC (fun _=>?_) (fun _=>?_)|fail)
   exact ⟨(k + 1,s),⟨hlt,hs,by rw [hfs];exact hfd⟩,tD,tS,tH⟩
 ·rw [drop_end (by omega)] at hfd
  simp only [List.foldl_nil] at hfd
  repeat' (first|refine sK ?_|refine sC (fun _=>?_) (fun _=>?_)|fail)
  exact retq rfl (by rw [←hfd];rfl)
theorem zgs {g:Img} {k:Nat} (h:k < g.fields.length):g.fields.getD k default=g.fields[k]:=zL h
theorem zk2 (g:Img) (hx:OkA g):ACall Tryz.prog 57 [zH g] (.tup [pi (YW g).1,pi (YW g).2]):=by
 refine zh zf Tryz.func57 rfl (by kernel_rfl) Tryz.ntmps57 (by simp) _ rfl (fun hw gB hgB=>?_)
 have c0:=znc g hx
 cases hwl:Yq g
 ·rw [hwl] at c0
  repeat' (first|(refine shC ?_;first|refine qC c0 ?_)|refine sK ?_|refine sC (fun _=>?_) (fun _=>?_)|fail)
  exact retq rfl (by simp [zk,YW,hwl])
 ·rw [hwl] at c0
  have hf:=Yc hwl
  have hgl:g.fields.length≤64:=by have:=(zW hf).2.1;omega
  have hgt:g.types.length≤32:=(zW hf).1
  repeat' (first|(refine shC ?_;first|refine qC c0 ?_)|refine sK ?_|refine sC (fun _=>?_) (fun _=>?_)|fail)
  refine zJ (fun k:Nat=>[(1,.pv (.ptr (zH g) 0)),(11,.pv (.slc 7 (g.fields.map ZK) false)),(12,.pv (pi g.fields.length)),(13,.pv (pi k))]) (fun _=>[]) (fun k=>k≤g.fields.length∧∀ j,j < k→qx g (g.fields.getD j default).ty=true) (fun k=>g.fields.length - k) 0 ⟨by omega,fun j h=>by omega⟩ (tS) tH ?_
  rintro k ⟨hk,hno⟩
  by_cases hlt:k < g.fields.length
  ·have he:=yu (f:=ZK) hlt
   have c1:=zmQ g g.fields[k].ty hf
   cases hus:qx g g.fields[k].ty
   ·have hfin:=zex hwl hlt hno (by rw [zgs hlt];exact hus)
    rw [hus] at c1
    repeat' (first|(refine shC ?_;first|refine qC c1 ?_)|(refine shX ?_;first|refine qX he ?_)|refine sK ?_|refine sC (fun _=>?_) (fun _=>?_)|fail)
    exact retq rfl (by rw [hfin];rfl)
   ·rw [hus] at c1
    repeat' (first|(refine shC ?_;first|refine qC c1 ?_)|(refine shX ?_;first|refine qX he ?_)|refine sK ?_|refine sC (fun _=>?_) (fun _=>?_)|fail)
    exact ⟨k + 1,⟨hlt,fun j hj=>by
     by_cases e:j=k
     ·subst e;rw [zgs hlt];exact hus
     ·exact hno j (by omega)⟩,tD,tS,tH⟩
  ·have hu:Ya g=true:=List.all_eq_true.2 fun j hj=>hno j (by have:=List.mem_range.1 hj;omega)
   clear hno
   repeat' (first|refine sK ?_|refine sC (fun _=>?_) (fun _=>?_)|fail)
   refine zJ (fun k:Nat=>[(1,.pv (.ptr (zH g) 0)),(27,.pv (pi g.types.length)),(28,.pv (pi k))]) (fun _=>[]) (fun k=>k≤g.types.length∧∀ j,j < k→YG g j=false) (fun k=>g.types.length - k) 0 ⟨by omega,fun j h=>by omega⟩ (tS) tH ?_
   clear hk hlt
   rintro k ⟨hk,hno⟩
   by_cases hlt:k < g.types.length
   ·have c1:=ZI g hf (k:Int)
    have hfin:=fun h=>zeg hwl hu hlt hno h
    have hnx:YG g k=false→∀ j,j < k + 1→YG g j=false:=fun h j hj=>by
     by_cases e:j=k
     ·subst e;exact h
     ·exact hno j (by omega)
    have hsb:YG g k=((zN g k==1&&decide (8 < (Zt g ⟨6,k,0,false⟩).length))||(zN g k==0&&decide (32 < (objT g k).length))):=rfl
    clear hno
    by_cases hk1:zN g k=1
    ·have c2:=zpc g hwl hu 8 (by omega) (by omega) ⟨6,k,0,false⟩
     rw [hk1] at hsb c1
     cases hl:decide (8 < (Zt g ⟨6,k,0,false⟩).length)
     ·rw [hl] at c2 hsb
      repeat' (first|(refine shC ?_;first|refine qC c1 ?_|refine qC c2 ?_)|refine sK ?_|refine sC (fun _=>?_) (fun _=>?_)|fail)
      exact ⟨k + 1,⟨hlt,hnx (by rw [hsb];rfl)⟩,tD,tS,tH⟩
     ·rw [hl] at c2 hsb
      repeat' (first|(refine shC ?_;first|refine qC c1 ?_|refine qC c2 ?_)|refine sK ?_|refine sC (fun _=>?_) (fun _=>?_)|fail)
      exact retq rfl (by rw [hfin (by rw [hsb];rfl)];rfl)
    ·have hb1:(zN g k==1)=false:=by simp [hk1]
     by_cases hk0:zN g k=0
     ·obtain ⟨r,hr,c2⟩:=zm8 g hwl hu k
      rw [hk0] at hsb c1
      have hd:decide (32 < (r:Int))=decide (32 < (objT g k).length):=by rw [decide_eq_decide,←hr.more];omega
      cases hl:decide (32 < (objT g k).length)
      ·rw [hl] at hsb hd
       repeat' (first|(refine shC ?_;first|refine qC c1 ?_|refine qC c2 ?_)|refine sK ?_|refine sC (fun _=>?_) (fun _=>?_)|fail)
       exact ⟨k + 1,⟨hlt,hnx (by rw [hsb];rfl)⟩,tD,tS,tH⟩
      ·rw [hl] at hsb hd
       repeat' (first|(refine shC ?_;first|refine qC c1 ?_|refine qC c2 ?_)|refine sK ?_|refine sC (fun _=>?_) (fun _=>?_)|fail)
       exact retq rfl (by rw [hfin (by rw [hsb];rfl)];rfl)
     ·have hb0:(zN g k==0)=false:=by simp [hk0]
      rw [hb1,hb0] at hsb
      repeat' (first|(refine shC ?_;first|refine qC c1 ?_)|refine sK ?_|refine sC (fun _=>?_) (fun _=>?_)|fail)
      exact ⟨k + 1,⟨hlt,hnx (by rw [hsb];rfl)⟩,tD,tS,tH⟩
   ·repeat' (first|refine sK ?_|refine sC (fun _=>?_) (fun _=>?_)|fail)
    exact retq rfl (by rw [zdB hwl hu (fun j hj=>hno j (by omega))];rfl)
set_option maxHeartbeats 20000000
def zq1 (g:Img) (t:Int) (f:Fd):Bool:=decide (f.owner∈up g t)&&!f.static
theorem zib (g:Img):ACall Tryz.prog 152 [zH g] (.tup [pi (YW g).1,pi (YW g).2]):=by
 refine zh zf Tryz.func152 rfl (by kernel_rfl) Tryz.ntmps152 (by simp) _ rfl (fun hw gB hgB=>?_)
 have c0:=zpK g
 cases hwl:Yq g
 ·rw [hwl] at c0
  repeat' (first|(refine shC ?_;first|refine qC c0 ?_)|refine sK ?_|refine sC (fun _=>?_) (fun _=>?_)|fail)
  exact retq rfl (by simp [zk,YW,hwl])
 ·rw [hwl] at c0
  have hf:=Yc hwl
  have hgl:g.fields.length≤64:=by have:=(zW hf).2.1;omega
  have hgt:g.types.length≤32:=(zW hf).1
  repeat' (first|(refine shC ?_;first|refine qC c0 ?_)|refine sK ?_|refine sC (fun _=>?_) (fun _=>?_)|fail)
  refine zJ (fun k:Nat=>[(1,.pv (.ptr (zH g) 0)),(4,.pv (pi k))]) (fun _=>[]) (fun k=>k≤g.fields.length∧∀ j,j < k→qx g (g.fields.getD j default).ty=true) (fun k=>g.fields.length - k) 0 ⟨by omega,fun j h=>by omega⟩ (tS) tH ?_
  rintro k ⟨hk,hno⟩
  by_cases hlt:k < g.fields.length
  ·have he:=yu (f:=ZK) hlt
   have c1:=Wp g g.fields[k].ty
   cases hus:qx g g.fields[k].ty
   ·have hfin:=zex hwl hlt hno (by rw [zgs hlt];exact hus)
    rw [hus] at c1
    repeat' (first|(refine shC ?_;first|refine qC c1 ?_)|(refine shX ?_;first|refine qX he ?_)|refine sK ?_|refine sC (fun _=>?_) (fun _=>?_)|fail)
    exact retq rfl (by rw [hfin];rfl)
   ·rw [hus] at c1
    repeat' (first|(refine shC ?_;first|refine qC c1 ?_)|(refine shX ?_;first|refine qX he ?_)|refine sK ?_|refine sC (fun _=>?_) (fun _=>?_)|fail)
    exact ⟨k + 1,⟨hlt,fun j hj=>by
     by_cases e:j=k
     ·subst e;rw [zgs hlt];exact hus
     ·exact hno j (by omega)⟩,tD,tS,tH⟩
  ·have hu:Ya g=true:=List.all_eq_true.2 fun j hj=>hno j (by have:=List.mem_range.1 hj;omega)
   clear hno
   repeat' (first|refine sK ?_|refine sC (fun _=>?_) (fun _=>?_)|fail)
   refine zJ (fun k:Nat=>[(1,.pv (.ptr (zH g) 0)),(5,.pv (pi k))]) (fun _=>[]) (fun k=>k≤g.types.length∧∀ j,j < k→YG g j=false) (fun k=>g.types.length - k) 0 ⟨by omega,fun j h=>by omega⟩ (tS) tH ?_
   clear hk hlt
   rintro k ⟨hk,hno⟩
   by_cases hlt:k < g.types.length
   ·have c1:=qZ g (k:Int)
    have hfin:=fun h=>zeg hwl hu hlt hno h
    have hnx:YG g k=false→∀ j,j < k + 1→YG g j=false:=fun h j hj=>by
     by_cases e:j=k
     ·subst e;exact h
     ·exact hno j (by omega)
    have hsb:YG g k=((zN g k==1&&decide (8 < (Zt g ⟨6,k,0,false⟩).length))||(zN g k==0&&decide (32 < (objT g k).length))):=rfl
    clear hno
    by_cases hk1:zN g k=1
    ·have c2:=zf0 g hwl hu 8 (by omega) (by omega) _ ⟨6,k,0,false⟩ (zhI hwl hu _)
     rw [hk1] at hsb c1
     have hd:decide (8 < ((YO g 8 ⟨6,k,0,false⟩:Nat):Int))=decide (8 < (Zt g ⟨6,k,0,false⟩).length):=by rw [decide_eq_decide];unfold YO;omega
     generalize YO g 8 ⟨6,k,0,false⟩=c at c2 hd
     cases hl:decide (8 < (Zt g ⟨6,k,0,false⟩).length)
     ·rw [hl] at hsb hd
      repeat' (first|(refine shC ?_;first|refine qC c1 ?_|refine qC c2 ?_)|refine sK ?_|refine sC (fun _=>?_) (fun _=>?_)|fail)
      exact ⟨k + 1,⟨hlt,hnx (by rw [hsb];rfl)⟩,tD,tS,tH⟩
     ·rw [hl] at hsb hd
      repeat' (first|(refine shC ?_;first|refine qC c1 ?_|refine qC c2 ?_)|refine sK ?_|refine sC (fun _=>?_) (fun _=>?_)|fail)
      exact retq rfl (by rw [hfin (by rw [hsb];rfl)];rfl)
    ·have hb1:(zN g k==1)=false:=by simp [hk1]
     by_cases hk0:zN g k=0
     ·rw [hk0] at hsb c1
      have hui:=XY g k
      have hul:=Zu _ _ hui.1 hui.2
      have hobl:(fcs g (g.fields.filter (zq1 g k))).length=(objT g k).length:=zrM g k
      repeat' (first|(refine shC ?_;first|refine qC c1 ?_|refine zB rfl (zG rfl rfl (Xz g k (by omega))) rfl rfl ?_|refine AD.step _ _ _ _ _ rfl (zG rfl rfl (Xz g k (by omega))) rfl rfl ?_)|refine sK ?_|refine sC (fun _=>?_) (fun _=>?_)|fail)
      refine zJ (fun x:Nat × Nat=>[(1,.pv (.ptr (zH g) 0)),(5,.pv (pi k)),(7,.pv (pi x.2)),(8,.pv (ints (up g k))),(9,.pv (pi x.1))]) (fun _=>[])
       (fun x=>x.1≤g.fields.length∧x.2≤65∧Cnt 32 x.2 (fcs g ((g.fields.take x.1).filter (zq1 g k))).length) (fun x=>g.fields.length - x.1) (0,0) ⟨by simp,by simp,rfl⟩ (tS) tH ?_
      rintro ⟨m,r⟩ ⟨hm,hr,hc⟩
      simp only at hm hr hc
      have hle:=zgv g (zq1 g k) g.fields m
      rw [hobl] at hle
      have hend:(32 < r∨m=g.fields.length)→decide (32 < (r:Int))=decide (32 < (objT g k).length):=by
       intro h
       rw [decide_eq_decide]
       have:=hc.more
       rcases h with h|h
       ·exact ⟨fun _=>by omega,fun _=>by omega⟩
       ·subst h
        rw [List.take_length,hobl] at hc
        have:=hc.more;omega
      by_cases hltm:m < g.fields.length
      ·by_cases hrb:r≤32
       ·have he:=yu (f:=ZK) hltm
        have cH:=Qu (up g k) g.fields[m].owner
        clear hend
        cases hp:zq1 g k g.fields[m]
        ·have hcn:Cnt 32 r (fcs g ((g.fields.take (m + 1)).filter (zq1 g k))).length:=by rw [zcB hltm hp];exact hc
         have hpa:(decide (g.fields[m].owner∈up g k)&&!g.fields[m].static)=false:=hp
         generalize decide (g.fields[m].owner∈up g k)=bo at cH hpa
         repeat' (first|(refine shC ?_;first|refine qC cH ?_)|(refine shX ?_;first|refine qX he ?_)|refine sA ?_|refine sC (fun _=>?_) (fun _=>?_)|fail)
         all_goals first
          | exact ⟨(m + 1,r),⟨hltm,hr,hcn⟩,tD,tS,tH⟩
          | (exfalso;simp_all;done)
          | (exfalso;simp_all;omega)
        ·have c2:=zf0 g hwl hu 32 (by omega) (by omega) _ g.fields[m].ty (zhI hwl hu _)
         have hs:=zb4 (g:=g) hltm hp
         have hcl:YO g 32 g.fields[m].ty≤33:=Nat.min_le_right _ _
         have hcn:=hc.add (l:=(Zt g g.fields[m].ty).length) hrb
         rw [←List.length_append,←hs] at hcn
         rw [show min (Zt g g.fields[m].ty).length (32 + 1)=YO g 32 g.fields[m].ty from rfl] at hcn
         generalize YO g 32 g.fields[m].ty=c at c2 hcl hcn
         have hpa:(decide (g.fields[m].owner∈up g k)&&!g.fields[m].static)=true:=hp
         rw [Bool.and_eq_true] at hpa
         obtain ⟨hp1,hp2⟩:=hpa
         rw [hp1] at cH
         have hd1:decide ((r:Int)≤32)=true:=by simp;omega
         repeat' (first|(refine shC ?_;first|refine qC cH ?_|refine qC c2 ?_)|(refine shX ?_;first|refine qX he ?_)|refine sK ?_|refine sC (fun _=>?_) (fun _=>?_)|fail)
         all_goals first
          | exact ⟨(m + 1,r + c),⟨hltm,by simp only;omega,hcn⟩,tD,by repeat (first|exact yS|refine yG rfl ?_|(refine Zc rfl ?_ ?_;· (first|(rw [wrap_in (by omega) (by omega)] <;> omega)|(dsimp only;rw [wrap_in (by omega) (by omega)] <;> (push_cast;omega))))),tH⟩
          | (exfalso;simp_all;done)
       ·have hd1:decide ((r:Int)≤32)=false:=by simp;omega
        have hee:=hend (.inl (by omega))
        have hd2:decide (32 < (r:Int))=true:=by simp;omega
        rw [←hee,hd2] at hsb
        clear hend
        repeat' (first|refine sK ?_|refine sC (fun _=>?_) (fun _=>?_)|fail)
        all_goals first
         | exact retq rfl (by rw [hfin (by rw [hsb];rfl)];rfl)
         | (exfalso;simp_all;done)
         | (exfalso;simp_all;omega)
      ·have hee:=hend (.inr (by omega))
       clear hend
       cases hl:decide (32 < (r:Int))
       ·rw [hl] at hee
        rw [←hee] at hsb
        repeat' (first|refine sA ?_|refine sC (fun _=>?_) (fun _=>?_)|fail)
        all_goals first
         | exact ⟨k + 1,⟨hlt,hnx (by rw [hsb];rfl)⟩,tD,tS,tH⟩
         | (exfalso;simp_all;done)
         | (exfalso;simp_all;omega)
       ·rw [hl] at hee
        rw [←hee] at hsb
        repeat' (first|refine sA ?_|refine sC (fun _=>?_) (fun _=>?_)|fail)
        all_goals first
         | exact retq rfl (by rw [hfin (by rw [hsb];rfl)];rfl)
         | (exfalso;simp_all;done)
         | (exfalso;simp_all;omega)
     ·have hb0:(zN g k==0)=false:=by simp [hk0]
      have hb2:(zN g k != 0)=true:=by simp [hk0]
      rw [hb1,hb0] at hsb
      repeat' (first|(refine shC ?_;first|refine qC c1 ?_)|refine sK ?_|refine sC (fun _=>?_) (fun _=>?_)|fail)
      exact ⟨k + 1,⟨hlt,hnx (by rw [hsb];rfl)⟩,tD,tS,tH⟩
   ·repeat' (first|refine sK ?_|refine sC (fun _=>?_) (fun _=>?_)|fail)
    exact retq rfl (by rw [zdB hwl hu (fun j hj=>hno j (by omega))];rfl)
theorem zm6 (g:Img):ACall Tryz.prog 103 [zH g] (pb (zdg g)):=by
 refine zh zf Tryz.func103 rfl (by kernel_rfl) Tryz.ntmps103 (by simp) _ rfl (fun hw gB hgB=>?_)
 repeat' (first|(refine shC ?_;first|refine qC (zib g) ?_)|refine sA ?_|refine sC (fun _=>?_) (fun _=>?_)|fail)
 exact retq rfl rfl
set_option maxHeartbeats 20000000
theorem Xa (m:Me) (f:Int):ACall Tryz.prog 113 [yL m,pi f] (pb (qK m.flags f)):=by
 refine zh zf Tryz.func113 rfl (by kernel_rfl) Tryz.ntmps113 (by simp) _ rfl (fun hw gB hgB=>?_)
 repeat' (first|refine sA ?_|refine sC (fun _=>?_) (fun _=>?_)|fail)
 all_goals (first|refine retq rfl ?_|refine ZN rfl ?_)
 all_goals (first|(simp_all [zk,qK];done)|(simp_all [zk,qK];omega))
theorem ziD (m:Me):ACall Tryz.prog 109 [yL m,pi 1] (pb (yM m.flags 1)):=by
 refine zh zf Tryz.func109 rfl (by kernel_rfl) Tryz.ntmps109 (by simp) _ rfl (fun hw gB hgB=>?_)
 repeat' (first|refine sA ?_|refine sC (fun _=>?_) (fun _=>?_)|fail)
 all_goals (first|refine retq rfl ?_|refine ZN rfl ?_)
 all_goals (first|(simp_all [zk,yM];done)|(simp_all [zk,yM];omega))
theorem VJ (m:Me):ACall Tryz.prog 109 [yL m,pi 2] (pb (yM m.flags 2)):=by
 refine zh zf Tryz.func109 rfl (by kernel_rfl) Tryz.ntmps109 (by simp) _ rfl (fun hw gB hgB=>?_)
 repeat' (first|refine sA ?_|refine sC (fun _=>?_) (fun _=>?_)|fail)
 all_goals (first|refine retq rfl ?_|refine ZN rfl ?_)
 all_goals (first|(simp_all [zk,yM];done)|(simp_all [zk,yM];omega))
theorem zfj (m:Me):ACall Tryz.prog 109 [yL m,pi 4] (pb (yM m.flags 4)):=by
 refine zh zf Tryz.func109 rfl (by kernel_rfl) Tryz.ntmps109 (by simp) _ rfl (fun hw gB hgB=>?_)
 repeat' (first|refine sA ?_|refine sC (fun _=>?_) (fun _=>?_)|fail)
 all_goals (first|refine retq rfl ?_|refine ZN rfl ?_)
 all_goals (first|(simp_all [zk,yM];done)|(simp_all [zk,yM];omega))
theorem ziL (m:Me):ACall Tryz.prog 109 [yL m,pi 8] (pb (yM m.flags 8)):=by
 refine zh zf Tryz.func109 rfl (by kernel_rfl) Tryz.ntmps109 (by simp) _ rfl (fun hw gB hgB=>?_)
 repeat' (first|refine sA ?_|refine sC (fun _=>?_) (fun _=>?_)|fail)
 all_goals (first|refine retq rfl ?_|refine ZN rfl ?_)
 all_goals (first|(simp_all [zk,yM];done)|(simp_all [zk,yM];omega))
theorem znf (m:Me):ACall Tryz.prog 109 [yL m,pi 16] (pb (yM m.flags 16)):=by
 refine zh zf Tryz.func109 rfl (by kernel_rfl) Tryz.ntmps109 (by simp) _ rfl (fun hw gB hgB=>?_)
 repeat' (first|refine sA ?_|refine sC (fun _=>?_) (fun _=>?_)|fail)
 all_goals (first|refine retq rfl ?_|refine ZN rfl ?_)
 all_goals (first|(simp_all [zk,yM];done)|(simp_all [zk,yM];omega))
def zg4 (a b:Me):Bool:=a.name.toList==b.name.toList&&decide (a.ret=b.ret)&&(qK a.flags 1==qK b.flags 1)&&decide (a.params=b.params)
def zbF (a b:Me):Bool:=a.name.toList==b.name.toList&&zaE a b
theorem zfV (a b:Me):ACall Tryz.prog 168 [yL a,yL b] (pb (zg4 a b)):=by
 refine zh zf Tryz.func168 rfl (by kernel_rfl) Tryz.ntmps168 (by simp) _ rfl (fun hw gB hgB=>?_)
 have hty:=QA a.ret b.ret
 repeat' (first|(refine shC ?_;first|refine qC (Xa _ _) ?_|refine qC (zdV _ _) ?_)|refine sA ?_|refine sC (fun _=>?_) (fun _=>?_)|fail)
 all_goals refine retq rfl ?_
 all_goals (simp only [zk,zg4,←hty];clear hty;simp_all)
theorem zfI (a b:Me):ACall Tryz.prog 189 [yL a,yL b] (pb (zbF a b)):=by
 refine zh zf Tryz.func189 rfl (by kernel_rfl) Tryz.ntmps189 (by simp) _ rfl (fun hw gB hgB=>?_)
 repeat' (first|(refine shC ?_;first|refine qC (zeu _ _) ?_)|refine sA ?_|refine sC (fun _=>?_) (fun _=>?_)|fail)
 all_goals (first|refine retq rfl ?_|refine ZN rfl ?_)
 all_goals (first|(simp_all [zk,zbF];done)|(simp_all [zk,zbF];omega))
theorem zoz:∀ a b:Fin 32,(qK (a.val:Int) 1==qK (b.val:Int) 1)=((a.val:Int).tmod 2==(b.val:Int).tmod 2):=by decide +kernel
theorem zoQ:∀ a:Fin 32,qK (a.val:Int) 1=yM a.val 1∧qK (a.val:Int) 2=yM a.val 2∧qK (a.val:Int) 4=yM a.val 4∧qK (a.val:Int) 8=yM a.val 8∧qK (a.val:Int) 16=yM a.val 16:=by decide +kernel
theorem zbl {f:Int} (h0:0≤f) (h1:f≤31):qK f 1=yM f 1∧qK f 2=yM f 2∧qK f 4=yM f 4∧qK f 8=yM f 8∧qK f 16=yM f 16:=by
 have:=zoQ ⟨f.toNat,by omega⟩
 simpa only [Int.toNat_of_nonneg h0] using this
theorem zrB {x y:Me} (hx0:0≤x.flags) (hx1:x.flags≤31) (hy0:0≤y.flags) (hy1:y.flags≤31):zg4 x y=zbF x y:=by
 have:=zoz ⟨x.flags.toNat,by omega⟩ ⟨y.flags.toNat,by omega⟩
 simp only [Int.toNat_of_nonneg hx0,Int.toNat_of_nonneg hy0] at this
 rw [zg4,zbF,zaE,this]
 simp only [Bool.and_assoc]
def alk (g:Img) (a b:Int):Bool:=zbF (mAt g a) (mAt g b)
def VD (g:Img) (m:Int):Bool:=yM (mAt g m).flags 2
def fresh (g:Img) (m:Int):Bool:=yM (mAt g m).flags 8
def YI (g:Img) (out:List Int) (m:Int):List Int :=
 if VD g m then (if out.any (fun x=>alk g x m)&&!fresh g m then out.set (out.findIdx (fun x=>alk g x m)) m else out++[m]) else out
def ZE (g:Img) (out:List Int) (ms:List Int):List Int:=ms.foldl (YI g) out
def zjx (g:Img) (us:List Int):List Int:=us.foldl (fun out u=>ZE g out (methodsOf g u)) []
def tbl (g:Img) (t:Int):List Int:=zjx g (up g t).reverse
theorem zqe {g:Img} {t:Int} (h:typeAt g t=none):tbl g t=[]:=by rw [tbl,up_nil h];rfl
theorem zku {g:Img} (hW:Wl g) {t:Int} {td:TD} (h:typeAt g t=some td):tbl g t=ZE g (tbl g td.ext) (methodsOf g t):=by
 rw [tbl,hW.up_cons h,List.reverse_cons,zjx,List.foldl_append];rfl
def mOk (g:Img) (x:Int):Prop:=0≤x∧x.toNat < g.methods.length
theorem zlw {g:Img} {out:List Int} {m x:Int} (h:x∈YI g out m):x∈out∨x=m:=by
 rw [YI] at h
 split at h
 ·split at h
  ·exact List.mem_or_eq_of_mem_set h
  ·simpa using h
 ·exact .inl h
theorem zkA (g:Img) (out:List Int) (m:Int):out.length≤(YI g out m).length∧(YI g out m).length≤out.length + 1:=by
 rw [YI]
 split
 ·split <;> simp
 ·simp
theorem zaS {g:Img} {x:Int}:∀ {ms out:List Int},x∈ZE g out ms→x∈out∨x∈ms
 | [],out,h=>.inl h
 | m::ms,out,h=>by
  rcases zaS (ms:=ms) (out:=YI g out m) h with h|h
  ·rcases zlw h with h|rfl
   ·exact .inl h
   ·exact .inr (by simp)
  ·exact .inr (by simp [h])
theorem WT (g:Img):∀ (ms out:List Int),out.length≤(ZE g out ms).length∧(ZE g out ms).length≤out.length + ms.length
 | [],out=>by simp [ZE]
 | m::ms,out=>by
  have h1:=WT g ms (YI g out m)
  have h2:=zkA g out m
  have e:ZE g out (m::ms)=ZE g (YI g out m) ms:=rfl
  rw [e,List.length_cons];omega
theorem zlk {g:Img} (us:List Int):(zjx g us).length≤g.methods.length * us.length:=by
 rw [zjx]
 have key:∀ (us:List Int) (out:List Int),(us.foldl (fun out u=>ZE g out (methodsOf g u)) out).length≤out.length + g.methods.length * us.length:=by
  intro us
  induction us with
  | nil=>intro out;simp
  | cons u us ih =>
   intro out
   have h1:=ih (ZE g out (methodsOf g u))
   have h2:=(WT g (methodsOf g u) out).2
   have h3:=Zn g u
   rw [List.foldl_cons,List.length_cons,Nat.mul_succ];omega
 have:=key us []
 simpa using this
theorem zli {g:Img} {x:Int}:∀ {us:List Int},x∈zjx g us→mOk g x:=by
 have key:∀ (us:List Int) (out:List Int),(∀ x∈out,mOk g x)→∀ x∈us.foldl (fun out u=>ZE g out (methodsOf g u)) out,mOk g x:=by
  intro us
  induction us with
  | nil=>intro out h;exact h
  | cons u us ih =>
   intro out h
   refine ih _ fun x hx=>?_
   rcases zaS hx with hx|hx
   ·exact h x hx
   ·exact qc hx
 intro us h
 exact key us [] (by simp) x h
theorem zgo {g:Img} {t x:Int} (h:x∈tbl g t):mOk g x:=zli h
theorem zjI {g:Img} (hF:Fine g) (t:Int):(tbl g t).length≤2048:=by
 have h1:=zlk (g:=g) (up g t).reverse
 obtain ⟨b1,_,b3,_⟩:=zW hF.formed
 have hui:=XY g t
 have hul:=Zu _ _ hui.1 hui.2
 rw [List.length_reverse] at h1
 have:g.methods.length * (up g t).length≤64 * 32:=Nat.mul_le_mul b3 (by omega)
 rw [tbl];omega
def atF (g:Img) (out:List Int) (m:Int) (k:Nat):Int:=if (out.drop k).any (fun x=>alk g x m) then ((k + (out.drop k).findIdx (fun x=>alk g x m):Nat):Int) else -1
theorem zsl (g:Img) (out:List Int) (m:Int):atF g out m out.length = -1:=by simp [atF]
theorem zrv {g:Img} {out:List Int} {m:Int} {k:Nat} (h:k < out.length):atF g out m k=if alk g out[k] m then (k:Int) else atF g out m (k + 1):=by
 rw [atF,atF,List.drop_eq_getElem_cons h,List.any_cons,List.findIdx_cons]
 cases alk g out[k] m <;> simp
 split <;> omega
theorem zpN {g:Img} {out:List Int} {m:Int} (k:Nat):atF g out m k = -1∨(0≤atF g out m k∧(atF g out m k).toNat < out.length):=by
 rw [atF]
 split
 ·rename_i h
  right
  obtain ⟨x,hx,hp⟩:=List.any_eq_true.1 h
  have:=List.findIdx_lt_length_of_exists (p:=fun x=>alk g x m) ⟨x,hx,hp⟩
  rw [List.length_drop] at this
  omega
 ·exact .inl rfl
theorem zmp {g:Img} {out:List Int} {m:Int} (hv:VD g m=true):YI g out m=if decide (atF g out m 0 < 0)||fresh g m then out++[m] else out.set (atF g out m 0).toNat m:=by
 rw [YI,if_pos hv,atF,List.drop_zero]
 cases out.any (fun x=>alk g x m) <;> cases fresh g m <;> simp
 all_goals (first|done|omega|(intro;omega))
def zq8:Except Int (Unit × List Ty)→PV
 | .error e=>.tup [.base (.slice none 0 0),pi e]
 | .ok p=>.tup [tys p.2,pi 0]
set_option maxHeartbeats 4000000 in
theorem zoJ (g:Img) (hF:Fm g) (hgm:g.methods.length≤1000) (mi at_:Int) (l:List Ty) (hl:l.length≤100) (hm:mOk g mi) (hp:(mAt g mi).params.length≤100) (h0:0≤at_) (h1:at_.toNat < (mAt g mi).code.length) (hx:XOk g (WY (mAt g mi) at_)) :
  ACall Tryz.prog 27 [.ptr (zH g) 0,pi mi,pi at_,tys l] (zq8 (stepS g mi at_ l)):=by
 have hem:(g.methods.map yL)[mi.toNat]?=some (yL (mAt g mi)):=by rw [mAt,zL hm.2];exact yu hm.2
 have hei:((mAt g mi).code.map ZP)[at_.toNat]?=some (ZP (WY (mAt g mi) at_)):=by rw [WY,zL h1];exact yu h1
 have hm0:=hm.1
 have hmlt:mi < g.methods.length:=by have:=hm.2;omega
 have halt:at_ < (mAt g mi).code.length:=by omega
 have cA:=zc6 g (mAt g mi) (by omega)
 have hst:stepS g mi at_ l=doS g (XD g (mAt g mi)) (mAt g mi) (WY (mAt g mi) at_) l:=rfl
 rw [hst]
 have cd:=zr7 ⟨g,mAt g mi,XD g (mAt g mi),WY (mAt g mi) at_⟩ hF hgm hx l hl
 generalize mAt g mi=m at *
 generalize WY m at_=x at *
 refine zoS zf Tryz.func27 rfl (by kernel_rfl) Tryz.ntmps27 (by simp) _ rfl (fun hw=>?_)
 refine zgi (zgk fun gB=>?_)
 repeat' (first|refine ZO zf 1 rfl rfl rfl rfl rfl rfl rfl ?_|refine ZO zf 2 rfl rfl rfl rfl rfl rfl rfl ?_|refine sK ?_|refine sC (fun _=>?_) (fun _=>?_)|fail)
 refine zgi (zgk fun gB=>?_)
 repeat' (first|refine zB rfl (zn2 (b:=false) rfl Tryz.underlying61 rfl rfl) rfl rfl ?_|refine AD.step _ _ _ _ _ rfl (zn2 (b:=false) rfl Tryz.underlying61 rfl rfl) rfl rfl ?_|refine sK ?_|refine sC (fun _=>?_) (fun _=>?_)|fail)
 refine zgi (zgk fun gB=>?_)
 repeat' (first|(refine shX ?_;first|refine zB rfl (zl zf rfl rfl rfl rfl rfl rfl hm0 hem) rfl rfl ?_|refine AD.step _ _ _ _ _ rfl (zl zf rfl rfl rfl rfl rfl rfl hm0 hem) rfl rfl ?_)|refine sK ?_|refine sC (fun _=>?_) (fun _=>?_)|fail)
 refine zop 1 2001 rfl rfl fun p1=>zop 2 2002 rfl rfl fun p2=>?_
 refine zgi (zoU (k:=1) rfl rfl rfl rfl rfl fun gB=>?_)
 repeat' (first|refine sK ?_|refine sC (fun _=>?_) (fun _=>?_)|fail)
 refine ⟨_,_,[p1,p2],rfl,⟨⟨2001,rfl⟩,⟨2002,rfl⟩,trivial⟩,?_⟩
 refine zgk fun gB=>?_
 cases hS:doS g (XD g m) m x l with
 | error e =>
  repeat' (first|refine zq 8 1 rfl rfl rfl ?_|refine zqy (yN u ⟨g,m,XD g m,x⟩ l) (rbH (.base (.slice none 0 0)) (pi 0) p1 p2) zi rfl rfl rfl (by repeat (first|exact zK|refine zT rfl ?_)) rfl (cd.bad hS u) ?_|refine zqA 0 1000 rfl rfl (fun u=>?_)|refine zfw 0 rfl (ziW _) ?_|refine ZO zf 3 rfl rfl rfl rfl rfl rfl rfl ?_|refine zX 22 20 rfl (by kernel_rfl) (by kernel_rfl) (by kernel_rfl) (by kernel_rfl) (by kernel_rfl) ?_|refine AD.step _ _ _ _ _ rfl (Qq zf rfl rfl (.inl rfl) rfl rfl (by show _ * 32≤_;simp;omega) (by simp;omega)) rfl rfl ?_|refine AD.step _ _ _ _ _ rfl (YK zf rfl rfl rfl rfl rfl) rfl rfl ?_|(refine shC ?_;first|refine qC cA ?_)|(refine shX ?_;first|refine zB rfl (zl zf rfl rfl rfl rfl rfl rfl hm0 hem) rfl rfl ?_|refine AD.step _ _ _ _ _ rfl (zl zf rfl rfl rfl rfl rfl rfl hm0 hem) rfl rfl ?_|refine zB rfl (zl zf rfl rfl rfl rfl rfl rfl h0 hei) rfl rfl ?_|refine AD.step _ _ _ _ _ rfl (zl zf rfl rfl rfl rfl rfl rfl h0 hei) rfl rfl ?_)|(refine VU ?_;first|refine zcX 0 rfl rfl rfl rfl rfl rfl ?_)|refine sK ?_|refine sC (fun _=>?_) (fun _=>?_)|fail)
  exact ⟨_,_,_,[8,9],[.box 1 0,.box 2 0],[p1,p2],rbH (.base (.slice none 0 0)) (pi 0) p1 p2,rbH (.base (.slice none 0 0)) (pi e) p1 p2,[.base (.slice none 0 0),pi e],rfl,rfl,tH,⟨⟨2001,rfl⟩,⟨2002,rfl⟩,trivial⟩,⟨⟨2001,rfl⟩,⟨2002,rfl⟩,trivial⟩,zoZ p1 p2 e,rfl,rfl,by decide,tS,rfl,rfl⟩
 | ok p =>
  obtain ⟨⟨⟩,l2⟩:=p
  repeat' (first|refine zqA 0 1000 rfl rfl (fun u=>?_)|refine zfw 0 rfl (ziW _) ?_|refine ZO zf 3 rfl rfl rfl rfl rfl rfl rfl ?_|refine zX 22 20 rfl (by kernel_rfl) (by kernel_rfl) (by kernel_rfl) (by kernel_rfl) (by kernel_rfl) ?_|refine AD.step _ _ _ _ _ rfl (Qq zf rfl rfl (.inl rfl) rfl rfl (by show _ * 32≤_;simp;omega) (by simp;omega)) rfl rfl ?_|refine AD.step _ _ _ _ _ rfl (YK zf rfl rfl rfl rfl rfl) rfl rfl ?_|(refine shC ?_;first|refine qC cA ?_)|(refine shX ?_;first|refine zB rfl (zl zf rfl rfl rfl rfl rfl rfl hm0 hem) rfl rfl ?_|refine AD.step _ _ _ _ _ rfl (zl zf rfl rfl rfl rfl rfl rfl hm0 hem) rfl rfl ?_|refine zB rfl (zl zf rfl rfl rfl rfl rfl rfl h0 hei) rfl rfl ?_|refine AD.step _ _ _ _ _ rfl (zl zf rfl rfl rfl rfl rfl rfl h0 hei) rfl rfl ?_)|(refine zu ?_;first|(refine zo 0 zi rfl rfl (cd.ok hS) rfl rfl rfl rfl rfl ?_))|(refine VU ?_;first|refine zcX 0 rfl rfl rfl rfl rfl rfl ?_)|refine sK ?_|refine sC (fun _=>?_) (fun _=>?_)|fail)
  exact ⟨_,_,_,[8,9],[.box 1 0,.box 2 0],[p1,p2],rbH (tys l2) (pi 0) p1 p2,rbH (tys l2) (pi 0) p1 p2,[tys l2,pi 0],rfl,rfl,tH,⟨⟨2001,rfl⟩,⟨2002,rfl⟩,trivial⟩,⟨⟨2001,rfl⟩,⟨2002,rfl⟩,trivial⟩,zmG _ _ p1 p2,rfl,rfl,by decide,tS,rfl,rfl⟩
end Go.Cg
