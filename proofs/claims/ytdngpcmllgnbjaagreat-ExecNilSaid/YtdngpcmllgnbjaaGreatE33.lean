/- A part of the walks by abstract values: no statement of its own. -/
import Derived.Test.YtdngpcmllgnbjaaGreatE32
import Derived.Test.YtdngpcmllgnbjaaGreatE31
import Derived.Test.YtdngpcmllgnbjaaGreatE8
import Derived.Test.YtdngpcmllgnbjaaGreatE6
import Derived.Test.YtdngpcmllgnbjaaGreatE4
set_option linter.unusedVariables false
set_option linter.unusedSimpArgs false
namespace Go.Cg
open Go.Proofs
set_option maxHeartbeats 20000000
def OkA (g:Img):Prop:=∀ m∈g.methods,∀ x∈m.code,zd0 x
theorem zoG (g:Img) (hx:OkA g):ACall Tryz.prog 290 [zx g] (pb (Yo g)):=by
 refine zf zh Tryz.func290 rfl (by kernel_rfl) Tryz.ntmps290 (by simp) _ rfl (fun hw gB hgB=>?_)
 repeat' (first|(refine shC ?_;first|refine qC (zmU g hx) ?_)|refine sA ?_|refine sC (fun _=>?_) (fun _=>?_)|fail)
 exact retq rfl rfl
theorem zbE (g:Img) (t:Int):zF g t = -1∨zF g t=0∨zF g t=1∨zF g t=2∨zF g t=3:=by
 unfold zF
 cases typeAt g t with
 | none=>exact .inl rfl
 | some td =>
  simp only
  unfold Wu
  cases yP td.flags 2 <;> cases yP td.flags 1 <;> cases yP td.flags 16 <;> simp
theorem zh2 (g:Img) (t:Ty) (hf:zV g=true):ACall Tryz.prog 291 [zx g,yK t] (pb (Zd g t)):=by
 refine zf zh Tryz.func291 rfl (by kernel_rfl) Tryz.ntmps291 (by simp) _ rfl (fun hw gB hgB=>?_)
 have hk:=zbE g t.index
 have c1:=qZ g hf t.index
 have hu:Zd g t=(Zv t&&(if t.kind==5 then zF g t.index==0||zF g t.index==2||zF g t.index==3 else t.kind != 6||zF g t.index==1)):=rfl
 rw [hu]
 generalize zF g t.index=k at c1 hk hu
 clear hu
 repeat' (first|(refine shC ?_;first|refine qC (VT t) ?_|refine qC c1 ?_)|refine sA ?_|refine sC (fun _=>?_) (fun _=>?_)|fail)
 all_goals (refine retq rfl ?_;rcases hk with rfl|rfl|rfl|rfl|rfl <;> simp_all [zn])
theorem zsr {α:Type} (d:α) (fs:List α):(nums fs.length).map (fun i=>fs.getD i.toNat d)=fs:=by
 rw [nums,List.map_map]
 apply List.ext_getElem
 ·simp
 ·intro i h1 h2
  simp only [List.getElem_map,List.getElem_range,Function.comp]
  rw [Int.toNat_natCast,zM h2]
theorem zu6 {g:Img} (hf:zV g=true) (t:Int):((fieldsOf g t).filter fun i=>!(g.fields.getD i.toNat default).static).map (fun i=>g.fields.getD i.toNat default)=qc g t:=by
 have h1:qc g t=((nums g.fields.length).filter ((fun f:Fd=>f.owner==t&&!f.static) ∘ fun i=>g.fields.getD i.toNat default)).map (fun i=>g.fields.getD i.toNat default):=by
  rw [qc,←List.filter_map,zsr]
 rw [h1,fieldsOf,List.filter_filter]
 congr 1
 apply List.filter_congr
 intro i hi
 obtain ⟨i0,i1⟩:=zg6.1 hi
 have hlt:i.toNat < g.fields.length:=by omega
 obtain ⟨o0,o1,_⟩:=zeJ hf (List.getElem_mem hlt)
 simp only [Function.comp,zM hlt]
 by_cases ho:g.fields[i.toNat].owner=t
 ·have:=XK (g:=g) (t:=t) (by omega)
  rw [this,Bool.true_and,Bool.and_comm]
 ·have:(g.fields[i.toNat].owner==t)=false:=by simp [ho]
  rw [this];simp
theorem zex (g:Img) (t:Int):(qc g t).length≤g.fields.length:=List.length_filter_le _ _
theorem zdD {g:Img} {t:Int} {f:Fd} (h:f∈qc g t):f∈g.fields:=(List.mem_filter.1 h).1
theorem zet (g:Img) (t:Int) (hf:zV g=true):ACall Tryz.prog 295 [zx g,pi t] (.slc 7 ((qc g t).map ZI) false):=by
 refine zf zh Tryz.func295 rfl (by kernel_rfl) Tryz.ntmps295 (by simp) _ rfl (fun hw gB hgB=>?_)
 have hg:g.fields.length≤1000:=by have:=(zI hf).2.1;omega
 have hfl:=WO g t
 repeat' (first|(refine shC ?_;first|refine qC (QT g t hg) ?_)|refine sA ?_|refine sC (fun _=>?_) (fun _=>?_)|fail)
 refine ZC (t:=5) 0 237 7 (by decide) rfl rfl ?_
 refine zB (fun x:Nat × List Fd=>[(2,.pv (.ptr (zx g) 0)),(5,.own 0),(10,.pv (ints (fieldsOf g t))),(11,.pv (pi (fieldsOf g t).length)),(12,.pv (pi x.1))]) (fun x=>[(0,.row 237 7 (x.2.map ZI))])
  (fun x=>x.1≤(fieldsOf g t).length∧x.2.length≤x.1∧x.2++(((fieldsOf g t).drop x.1).filter fun i=>!(g.fields.getD i.toNat default).static).map (fun i=>g.fields.getD i.toNat default)=qc g t) (fun x=>(fieldsOf g t).length - x.1) (0,[]) ⟨by simp,by simp,zu6 hf t⟩ (tS) ⟨zi rfl zk,rfl⟩ ?_
 rintro ⟨k,out⟩ ⟨hk,hol,hr⟩
 simp only at hk hol hr
 by_cases hlt:k < (fieldsOf g t).length
 ·have he:=YN hlt
  obtain ⟨h0,hi⟩:=Yy (List.getElem_mem hlt)
  have hef:=Yj (f:=ZI) hi
  rw [drop_cons hlt,List.filter_cons,zM hi] at hr
  generalize hfd:g.fields[(fieldsOf g t)[k].toNat]=f at hr hef
  repeat' (first|(refine shX ?_;first|refine qX he ?_|refine zo rfl (zl zh rfl rfl rfl rfl rfl rfl h0 hef) rfl rfl ?_|refine AD.step _ _ _ _ _ rfl (zl zh rfl rfl rfl rfl rfl rfl h0 hef) rfl rfl ?_)|(refine zL ?_;first|refine zX zh rfl rfl rfl rfl rfl rfl rfl (by show _ * 64≤_;simp;omega) (by simp;omega) rfl rfl ?_)|refine sK ?_|refine sC (fun _=>?_) (fun _=>?_)|fail)
  ·rename_i hx
   rw [if_pos hx,List.map_cons,zM hi,hfd] at hr
   exact ⟨(k + 1,out++[f]),⟨by simp;omega,by simp;omega,by simpa using hr⟩,tD,tS,⟨qw rfl (by simp) zk,rfl⟩⟩
  ·rename_i hx
   rw [if_neg (by simp [hx])] at hr
   exact ⟨(k + 1,out),⟨by simp;omega,by simp;omega,hr⟩,tD,tS,⟨qw rfl rfl zk,rfl⟩⟩
 ·rw [drop_end (by omega)] at hr
  repeat' (first|refine sK ?_|refine sC (fun _=>?_) (fun _=>?_)|fail)
  exact retq rfl (by rw [←hr];simp [zn])
set_option maxHeartbeats 20000000
theorem ziV {g:Img} {n:Nat} {t:Ty} (hd:Dp g (n + 1) t) (hw:whole t=false):∀ f∈qc g t.index,Dp g n f.ty:=by
 rcases hd with h|h
 ·rw [h] at hw;cases hw
 ·exact h
theorem zbi {g:Img} (h:Yo g=true) (hu:ZH g=true) {t:Ty} (hk:t.kind=1):yV g t=[]:=by rw [zas h hu];simp [hk]
theorem VW {g:Img} (h:Yo g=true) (hu:ZH g=true) {t:Ty} (hk:t.kind≠1) (hw:whole t=true):yV g t=[t]:=by rw [zas h hu];simp [hk,hw]
theorem zcV {t:Ty} (hw:whole t=false):t.kind=6∧t.ref=false∧¬ 0 < t.dims:=by
 simp only [whole,Bool.or_eq_false_iff,bne_eq_false_iff_eq,decide_eq_false_iff_not] at hw
 exact ⟨hw.1.1,hw.1.2,hw.2⟩
theorem zdn {g:Img} (h:Yo g=true) (hu:ZH g=true) {t:Ty} (hw:whole t=false):yV g t=if (fcs g (qc g t.index)).length=0 then [intTy] else fcs g (qc g t.index):=by
 rw [zas h hu,hw]
 simp [(zcV hw).1]
theorem zgG {g:Img} (h:Yo g=true) (hu:ZH g=true) {t:Ty} (hw:whole t=false):(yV g t).length=max (fcs g (qc g t.index)).length 1:=by
 rw [zdn h hu hw]
 split
 ·rename_i h0;rw [h0];rfl
 ·omega
theorem ziC {g:Img} {l:List Fd} {k:Nat} (h:k < l.length):(fcs g (l.take (k + 1))).length=(fcs g (l.take k)).length + (yV g l[k].ty).length:=by
 rw [List.take_succ_eq_append_getElem h,zic,za3];simp [fcs]
theorem zbL {g:Img} {l:List Fd} {k:Nat} (h:k < l.length):fcs g (l.take (k + 1))=fcs g (l.take k)++yV g l[k].ty:=by
 rw [List.take_succ_eq_append_getElem h,zdz,zgT];simp [fcs]
theorem zhn (g:Img) (hwl:Yo g=true) (hu:ZH g=true) (b:Nat) (hb:b≤100) (hb1:1≤b):∀ (n:Nat) (t:Ty),Dp g n t→ACall Tryz.prog 361 [zx g,yK t,pi b] (pi (zaI g b t:Nat)):=by
 have hf:=ZP hwl
 intro n
 induction n with
 | zero =>
  intro t hd
  have hwh:whole t=true:=hd
  refine zf zh Tryz.func361 rfl (by kernel_rfl) Tryz.ntmps361 (by simp) _ rfl (fun hw gB hgB=>?_)
  have hw':(t.kind != 6||t.ref||decide (0 < t.dims))=true:=hwh
  by_cases hk:t.kind=1
  ·have e:zaI g b t=0:=by rw [zaI,zbi hwl hu hk];rfl
   have hkb:(t.kind==1)=true:=by simp [hk]
   repeat' (first|refine sK ?_|refine sC (fun _=>?_) (fun _=>?_)|fail)
   all_goals exact retq rfl (by rw [e];rfl)
  ·have e:zaI g b t=1:=by rw [zaI,VW hwl hu hk hwh];simp <;> omega
   have hkb:(t.kind==1)=false:=by simp [hk]
   repeat' (first|refine sA ?_|refine sC (fun _=>?_) (fun _=>?_)|fail)
   all_goals first
    | (refine retq rfl ?_;rw [e];rfl)
    | (exfalso;simp_all;done)
 | succ n ih =>
  intro t hd
  refine zf zh Tryz.func361 rfl (by kernel_rfl) Tryz.ntmps361 (by simp) _ rfl (fun hw gB hgB=>?_)
  cases hwh:whole t
  ·obtain ⟨k1,k2,k3⟩:=zcV hwh
   have hn:=ziV hd hwh
   have hol:=zex g t.index
   have hgl:g.fields.length≤64:=by have:=(zI hf).2.1;omega
   have hkb1:(t.kind==1)=false:=by simp [k1]
   have hkb2:(t.kind != 6)=false:=by simp [k1]
   have hkb3:decide (0 < t.dims)=false:=by simp [k3]
   repeat' (first|(refine shC ?_;first|refine qC (zet g t.index hf) ?_)|refine sK ?_|refine sC (fun _=>?_) (fun _=>?_)|fail)
   refine zB (fun x:Nat × Nat=>[(2,.pv (pi b)),(3,.pv (.ptr (zx g) 0)),(7,.pv (pi x.2)),(28,.pv (.slc 7 ((qc g t.index).map ZI) false)),(29,.pv (pi (qc g t.index).length)),(30,.pv (pi x.1))]) (fun _=>[])
    (fun x=>x.1≤(qc g t.index).length∧x.2≤2 * b + 1∧Cnt b x.2 (fcs g ((qc g t.index).take x.1)).length) (fun x=>(qc g t.index).length - x.1) (0,0) ⟨by simp,by simp,rfl⟩ (tS) tH ?_
   rintro ⟨k,r⟩ ⟨hk,hr,hc⟩
   simp only at hk hr hc
   by_cases hlt:k < (qc g t.index).length
   ·have he:=yc (f:=ZI) hlt
    have c1:=ih (qc g t.index)[k].ty (hn _ (List.getElem_mem hlt))
    have hs:=ziC (g:=g) hlt
    have hcl:zaI g b (qc g t.index)[k].ty≤b + 1:=Nat.min_le_right _ _
    have hce:zaI g b (qc g t.index)[k].ty=min (yV g (qc g t.index)[k].ty).length (b + 1):=rfl
    generalize zaI g b (qc g t.index)[k].ty=c at c1 hcl hce
    by_cases hrb:r≤b
    ·have hcn:=hc.add (l:=(yV g (qc g t.index)[k].ty).length) hrb
     rw [←hs,←hce] at hcn
     repeat' (first|(refine shC ?_;first|refine qC c1 ?_)|(refine shX ?_;first|refine qX he ?_)|refine sK ?_|refine sC (fun _=>?_) (fun _=>?_)|fail)
     exact ⟨(k + 1,r + c),⟨hlt,by simp only;omega,hcn⟩,tD,by repeat (first|exact yu|refine zY rfl ?_|(refine qK rfl ?_ ?_;· (first|(rw [wrap_in (by omega) (by omega)] <;> omega)|(dsimp only;rw [wrap_in (by omega) (by omega)] <;> (push_cast;omega))))),tH⟩
    ·have hcn:=hc.stay (l:=(yV g (qc g t.index)[k].ty).length) (by omega)
     rw [←hs] at hcn
     repeat' (first|(refine shX ?_;first|refine qX he ?_)|refine sK ?_|refine sC (fun _=>?_) (fun _=>?_)|fail)
     exact ⟨(k + 1,r),⟨hlt,hr,hcn⟩,tD,tS,tH⟩
   ·have e:zaI g b t=min (max r 1) (b + 1):=by
     rw [zaI,zgG hwl hu hwh]
     rw [List.take_of_length_le (by omega)] at hc
     unfold Cnt at hc;omega
    have hwb:IntKind.i64.wrap ((b:Int) + 1)=((b + 1:Nat):Int):=by rw [wrap_in (by omega) (by omega)];omega
    repeat' (first|refine zo rfl (zvC rfl rfl rfl) rfl rfl ?_|refine zo rfl (zvq rfl rfl rfl) rfl rfl ?_|refine sK ?_|refine sC (fun _=>?_) (fun _=>?_)|fail)
    exact retq rfl (by rw [e];simp only [zn,hwb] <;> (congr 3 <;> omega))
  ·have hw':(t.kind != 6||t.ref||decide (0 < t.dims))=true:=hwh
   by_cases hk:t.kind=1
   ·have e:zaI g b t=0:=by rw [zaI,zbi hwl hu hk];rfl
    have hkb:(t.kind==1)=true:=by simp [hk]
    repeat' (first|refine sK ?_|refine sC (fun _=>?_) (fun _=>?_)|fail)
    all_goals exact retq rfl (by rw [e];rfl)
   ·have e:zaI g b t=1:=by rw [zaI,VW hwl hu hk hwh];simp <;> omega
    have hkb:(t.kind==1)=false:=by simp [hk]
    repeat' (first|refine sA ?_|refine sC (fun _=>?_) (fun _=>?_)|fail)
    all_goals first
     | (refine retq rfl ?_;rw [e];rfl)
     | (exfalso;simp_all;done)
theorem zqS (g:Img) (hwl:Yo g=true) (hu:ZH g=true) (b:Nat) (hb:b≤100) (hb1:1≤b) (t:Ty):ACall Tryz.prog 292 [zx g,yK t,pi b] (pb (decide (b < (yV g t).length))):=by
 refine zf zh Tryz.func292 rfl (by kernel_rfl) Tryz.ntmps292 (by simp) _ rfl (fun hw gB hgB=>?_)
 have c1:=zhn g hwl hu b hb hb1 _ t (zjN hwl hu t)
 have e:decide ((b:Int) < (zaI g b t:Nat))=decide (b < (yV g t).length):=by
  rw [decide_eq_decide];unfold zaI;omega
 repeat' (first|(refine shC ?_;first|refine qC c1 ?_)|refine sA ?_|refine sC (fun _=>?_) (fun _=>?_)|fail)
 exact retq rfl (by simp only [zn,e])
def zvY (t:Int) (f:Fd):Bool:=f.owner==t&&!f.static
theorem zaP {α:Type} {p:α→Bool} {l:List α} {k:Nat} (h:k < l.length):(l.take (k + 1)).filter p=(l.take k).filter p++if p l[k] then [l[k]] else []:=by
 rw [List.take_succ_eq_append_getElem h,List.filter_append]
 cases hp:p l[k] <;> simp [hp]
theorem zgp {g:Img} {p:Fd→Bool} {l:List Fd} {k:Nat} (h:k < l.length) (hp:p l[k]=true):fcs g ((l.take (k + 1)).filter p)=fcs g ((l.take k).filter p)++yV g l[k].ty:=by
 rw [zaP h,if_pos hp,zdz,zgT];simp [fcs]
theorem zhC {g:Img} {p:Fd→Bool} {l:List Fd} {k:Nat} (h:k < l.length) (hp:p l[k]=false):fcs g ((l.take (k + 1)).filter p)=fcs g ((l.take k).filter p):=by
 rw [zaP h,hp];simp
set_option maxHeartbeats 1000000 in
theorem zlf (g:Img) (hF:Fine g):∀ (n:Nat) (t:Ty),Dp g n t→ACall Tryz.prog 173 [zx g,yK t] (tys (yV g t)):=by
 have hwl:=hF.well
 have hu:=hF.used
 have hf:=ZP hwl
 intro n
 induction n with
 | zero =>
  intro t hd
  have hwh:whole t=true:=hd
  have hw':(t.kind != 6||t.ref||decide (0 < t.dims))=true:=hwh
  refine zf zh Tryz.func173 rfl (by kernel_rfl) Tryz.ntmps173 (by simp) _ rfl (fun hw gB hgB=>?_)
  by_cases hk:t.kind=1
  ·have e:yV g t=[]:=zbi hwl hu hk
   have hkb:(t.kind==1)=true:=by simp [hk]
   repeat' (first|refine sK ?_|refine sC (fun _=>?_) (fun _=>?_)|fail)
   all_goals (rw [e];exact Yl (t:=4) (ps:=[tys []]) rfl (qH 4 false) rfl rfl)
  ·have e:yV g t=[t]:=VW hwl hu hk hwh
   have hkb:(t.kind==1)=false:=by simp [hk]
   repeat' (first|refine sA ?_|refine sC (fun _=>?_) (fun _=>?_)|fail)
   all_goals first
    | (rw [e];exact Yl (t:=4) (ps:=[tys [t]]) rfl (Xp 4 [yK t] true) rfl rfl)
    | (exfalso;simp_all;done)
 | succ n ih =>
  intro t hd
  refine zf zh Tryz.func173 rfl (by kernel_rfl) Tryz.ntmps173 (by simp) _ rfl (fun hw gB hgB=>?_)
  cases hwh:whole t
  ·obtain ⟨k1,k2,k3⟩:=zcV hwh
   have hn:=ziV hd hwh
   have hol:=zex g t.index
   have hgl:g.fields.length≤64:=by have:=(zI hf).2.1;omega
   have hkb1:(t.kind==1)=false:=by simp [k1]
   have hkb2:(t.kind != 6)=false:=by simp [k1]
   have hkb3:decide (0 < t.dims)=false:=by simp [k3]
   repeat' (first|refine ZC (t:=5) 0 44 4 (by decide) rfl rfl ?_|(refine shC ?_;first|refine qC (zet g t.index hf) ?_)|refine sK ?_|refine sC (fun _=>?_) (fun _=>?_)|fail)
   refine zB (fun k:Nat=>[(2,.pv (.ptr (zx g) 0)),(5,.own 0),(30,.pv (.slc 7 ((qc g t.index).map ZI) false)),(31,.pv (pi (qc g t.index).length)),(32,.pv (pi k))]) (fun k=>[(0,.row 44 4 ((fcs g ((qc g t.index).take k)).map yK))])
    (fun k=>k≤(qc g t.index).length) (fun k=>(qc g t.index).length - k) 0 (by omega) (tS) ⟨zi rfl zk,rfl⟩ ?_
   rintro k hk
   have hle:=zk7 hF ((qc g t.index).take k) (fun f h=>zdD (List.mem_of_mem_take h))
   have hlk:((qc g t.index).take k).length≤k:=by simp;omega
   by_cases hlt:k < (qc g t.index).length
   ·have he:=yc (f:=ZI) hlt
    have c1:=ih (qc g t.index)[k].ty (hn _ (List.getElem_mem hlt))
    have hs:=zbL (g:=g) hlt
    have hcl:=hF.field_le (zdD (List.getElem_mem hlt))
    repeat' (first|(refine shC ?_;first|refine qC c1 ?_)|(refine shX ?_;first|refine qX he ?_)|(refine zL ?_;first|refine zX zh rfl rfl rfl rfl rfl rfl rfl (by show _ * 32≤_;simp;omega) (by simp;omega) rfl rfl ?_)|refine sK ?_|refine sC (fun _=>?_) (fun _=>?_)|fail)
    exact ⟨k + 1,hlt,tD,tS,⟨qw rfl (by rw [hs];simp) zk,rfl⟩⟩
   ·rw [List.take_of_length_le (by omega)] at hle ⊢
    by_cases h0:(fcs g (qc g t.index)).length=0
    ·have e:yV g t=[intTy]:=by rw [zdn hwl hu hwh,if_pos h0]
     have hb0:(((((fcs g (qc g t.index)).map yK).length:Nat):Int)==0)=true:=by rw [List.length_map,h0];rfl
     repeat' (first|refine sK ?_|refine sC (fun _=>?_) (fun _=>?_)|fail)
     all_goals (rw [e];exact Yl (t:=4) (ps:=[tys [intTy]]) rfl (Xp 4 [yK intTy] true) rfl rfl)
    ·have e:yV g t=fcs g (qc g t.index):=by rw [zdn hwl hu hwh,if_neg h0]
     have hb0:(((((fcs g (qc g t.index)).map yK).length:Nat):Int)==0)=false:=by rw [List.length_map,beq_eq_false_iff_ne];omega
     repeat' (first|refine sK ?_|refine sC (fun _=>?_) (fun _=>?_)|fail)
     all_goals exact retq rfl (by rw [e];rfl)
  ·have hw':(t.kind != 6||t.ref||decide (0 < t.dims))=true:=hwh
   by_cases hk:t.kind=1
   ·have e:yV g t=[]:=zbi hwl hu hk
    have hkb:(t.kind==1)=true:=by simp [hk]
    repeat' (first|refine sK ?_|refine sC (fun _=>?_) (fun _=>?_)|fail)
    all_goals (rw [e];exact Yl (t:=4) (ps:=[tys []]) rfl (qH 4 false) rfl rfl)
   ·have e:yV g t=[t]:=VW hwl hu hk hwh
    have hkb:(t.kind==1)=false:=by simp [hk]
    repeat' (first|refine sA ?_|refine sC (fun _=>?_) (fun _=>?_)|fail)
    all_goals first
     | (rw [e];exact Yl (t:=4) (ps:=[tys [t]]) rfl (Xp 4 [yK t] true) rfl rfl)
     | (exfalso;simp_all;done)
theorem zbg (g:Img) (hF:Fine g) (t:Ty):ACall Tryz.prog 173 [zx g,yK t] (tys (yV g t)):=zlf g hF _ t (zjN hF.well hF.used t)
theorem zan {g:Img} (hF:Fine g) (p:Fd→Bool) (k:Nat):(fcs g ((g.fields.take k).filter p)).length≤8 * 64:=by
 have h1:=zk7 hF ((g.fields.take k).filter p) (fun f h=>List.mem_of_mem_take (List.mem_filter.1 h).1)
 have h2:((g.fields.take k).filter p).length≤g.fields.length:=Nat.le_trans (List.length_filter_le _ _) (by simp;omega)
 have h3:=(zI hF.formed).2.1
 omega
def zru (g:Img) (n:Nat):List Ty:=fcs g ((g.fields.take n).filter (·.static))
set_option maxHeartbeats 1000000 in
theorem zk5 (g:Img) (hF:Fine g) (n:Nat) (hn:n≤g.fields.length):ACall Tryz.prog 171 [zx g,pi n] (tys (zru g n)):=by
 refine zf zh Tryz.func171 rfl (by kernel_rfl) Tryz.ntmps171 (by simp) _ rfl (fun hw gB hgB=>?_)
 have hgl:g.fields.length≤64:=by have:=(zI hF.formed).2.1;omega
 repeat' (first|refine zo rfl (qY (xs:=g.fields) (f:=ZI) 0 n zh rfl rfl rfl rfl rfl rfl rfl (by omega) (by omega)) rfl rfl ?_|refine sA ?_|refine sC (fun _=>?_) (fun _=>?_)|fail)
 rw [List.drop_zero]
 have htl:(g.fields.take n).length=n:=by simp;omega
 refine ZC (t:=5) 0 44 4 (by decide) rfl rfl ?_
 refine zB (fun k:Nat=>[(2,.pv (.ptr (zx g) 0)),(5,.own 0),(11,.pv (.slc 7 ((g.fields.take n).map ZI) false)),(12,.pv (pi n)),(13,.pv (pi k))]) (fun k=>[(0,.row 44 4 ((fcs g ((g.fields.take k).filter (·.static))).map yK))])
  (fun k=>k≤n) (fun k=>n - k) 0 (by omega) (by repeat (first|exact yu|refine zY rfl ?_|(refine qK rfl ?_ ?_;· (first|(rw [List.length_map,htl])|omega)))) ⟨zi rfl zk,rfl⟩ ?_
 rintro k hk
 have hle:=zan hF (·.static) k
 by_cases hlt:k < n
 ·have hlf:k < g.fields.length:=by omega
  have he:=yc (f:=ZI) (l:=g.fields.take n) (k:=k) (by omega)
  rw [List.getElem_take] at he
  have c1:=zbg g hF g.fields[k].ty
  have hcl:=hF.field_le (List.getElem_mem hlf)
  cases hp:g.fields[k].static
  ·have hs:=zhC (g:=g) (p:=(·.static)) hlf hp
   repeat' (first|(refine shX ?_;first|refine qX he ?_)|refine sK ?_|refine sC (fun _=>?_) (fun _=>?_)|fail)
   exact ⟨k + 1,hlt,tD,tS,⟨qw rfl (by rw [hs]) zk,rfl⟩⟩
  ·have hs:=zgp (g:=g) (p:=(·.static)) hlf hp
   repeat' (first|(refine shC ?_;first|refine qC c1 ?_)|(refine shX ?_;first|refine qX he ?_)|(refine zL ?_;first|refine zX zh rfl rfl rfl rfl rfl rfl rfl (by show _ * 32≤_;simp;omega) (by simp;omega) rfl rfl ?_)|refine sK ?_|refine sC (fun _=>?_) (fun _=>?_)|fail)
   exact ⟨k + 1,hlt,tD,tS,⟨qw rfl (by rw [hs];simp) zk,rfl⟩⟩
 ·obtain rfl:k=n:=by omega
  repeat' (first|refine sK ?_|refine sC (fun _=>?_) (fun _=>?_)|fail)
  exact retq rfl rfl
def za0 (g:Img) (l:List Int):List Ty:=l.flatMap fun u=>fcs g (qc g u)
end Go.Cg
