/- A part of the walks by abstract values: no statement of its own. -/
import Derived.Test.YtdlokcmodgccnaaGreatF29
import Derived.Test.YtdlokcmodgccnaaGreatF28
import Derived.Test.YtdlokcmodgccnaaGreatF8
import Derived.Test.YtdlokcmodgccnaaGreatF6
import Derived.Test.YtdlokcmodgccnaaGreatF4
set_option linter.unusedVariables false
set_option linter.unusedSimpArgs false
namespace Go.Cg
open Go.Proofs
set_option maxHeartbeats 20000000
def OkA (g:Img):Prop:=∀ m∈g.methods,∀ x∈m.code,zdQ x
theorem zok (g:Img) (hx:OkA g):ACall Tryz.prog 120 [zq g] (pb (ZU g)):=by
 refine zf zh Tryz.func120 rfl (by kernel_rfl) Tryz.ntmps120 (by simp) _ rfl (fun hw gB hgB=>?_)
 repeat' (first|(refine shC ?_;first|refine qC (zl1 g hx) ?_)|refine sA ?_|refine sC (fun _=>?_) (fun _=>?_)|fail)
 exact retq rfl rfl
theorem zcy (g:Img) (t:Int):zB g t = -1∨zB g t=0∨zB g t=1∨zB g t=2∨zB g t=3:=by
 unfold zB
 cases typeAt g t with
 | none=>exact .inl rfl
 | some td =>
  simp only
  unfold XF
  cases zW td.flags 2 <;> cases zW td.flags 1 <;> cases zW td.flags 16 <;> simp
theorem znf (g:Img) (t:Ty) (hf:zJ g=true):ACall Tryz.prog 121 [zq g,yK t] (pb (yN g t)):=by
 refine zf zh Tryz.func121 rfl (by kernel_rfl) Tryz.ntmps121 (by simp) _ rfl (fun hw gB hgB=>?_)
 have hk:=zcy g t.index
 have c1:=Zr g hf t.index
 have hu:yN g t=(Zj t&&(if t.kind==5 then zB g t.index==0||zB g t.index==2||zB g t.index==3 else t.kind != 6||zB g t.index==1)):=rfl
 rw [hu]
 generalize zB g t.index=k at c1 hk hu
 clear hu
 repeat' (first|(refine shC ?_;first|refine qC (zau t) ?_|refine qC c1 ?_)|refine sA ?_|refine sC (fun _=>?_) (fun _=>?_)|fail)
 all_goals (refine retq rfl ?_;rcases hk with rfl|rfl|rfl|rfl|rfl <;> simp_all [zi])
theorem zr0 {α:Type} (d:α) (fs:List α):(nums fs.length).map (fun i=>fs.getD i.toNat d)=fs:=by
 rw [nums,List.map_map]
 apply List.ext_getElem
 ·simp
 ·intro i h1 h2
  simp only [List.getElem_map,List.getElem_range,Function.comp]
  rw [Int.toNat_natCast,zx h2]
theorem zux {g:Img} (hf:zJ g=true) (t:Int):((fieldsOf g t).filter fun i=>!(g.fields.getD i.toNat default).static).map (fun i=>g.fields.getD i.toNat default)=Zz g t:=by
 have h1:Zz g t=((nums g.fields.length).filter ((fun f:Fd=>f.owner==t&&!f.static) ∘ fun i=>g.fields.getD i.toNat default)).map (fun i=>g.fields.getD i.toNat default):=by
  rw [Zz,←List.filter_map,zr0]
 rw [h1,fieldsOf,List.filter_filter]
 congr 1
 apply List.filter_congr
 intro i hi
 obtain ⟨i0,i1⟩:=zis.1 hi
 have hlt:i.toNat < g.fields.length:=by omega
 obtain ⟨o0,o1,_⟩:=zeU hf (List.getElem_mem hlt)
 simp only [Function.comp,zx hlt]
 by_cases ho:g.fields[i.toNat].owner=t
 ·have:=WO (g:=g) (t:=t) (by omega)
  rw [this,Bool.true_and,Bool.and_comm]
 ·have:(g.fields[i.toNat].owner==t)=false:=by simp [ho]
  rw [this];simp
theorem zml (g:Img) (t:Int):(Zz g t).length≤g.fields.length:=List.length_filter_le _ _
theorem zl7 (g:Img) (t:Int) (hf:zJ g=true):ACall Tryz.prog 172 [zq g,pi t] (.slc 7 ((Zz g t).map Yc) false):=by
 refine zf zh Tryz.func172 rfl (by kernel_rfl) Tryz.ntmps172 (by simp) _ rfl (fun hw gB hgB=>?_)
 have hg:g.fields.length≤1000:=by have:=(zF hf).2.1;omega
 have hfl:=YF g t
 repeat' (first|(refine shC ?_;first|refine qC (Xw g t hg) ?_)|refine sA ?_|refine sC (fun _=>?_) (fun _=>?_)|fail)
 refine yS (t:=5) 0 109 7 (by decide) rfl rfl ?_
 refine zo (fun x:Nat × List Fd=>[(2,.pv (.ptr (zq g) 0)),(5,.own 0),(10,.pv (ints (fieldsOf g t))),(11,.pv (pi (fieldsOf g t).length)),(12,.pv (pi x.1))]) (fun x=>[(0,.row 109 7 (x.2.map Yc))])
  (fun x=>x.1≤(fieldsOf g t).length∧x.2.length≤x.1∧x.2++(((fieldsOf g t).drop x.1).filter fun i=>!(g.fields.getD i.toNat default).static).map (fun i=>g.fields.getD i.toNat default)=Zz g t) (fun x=>(fieldsOf g t).length - x.1) (0,[]) ⟨by simp,by simp,zux hf t⟩ (tS) ⟨zn rfl zl,rfl⟩ ?_
 rintro ⟨k,out⟩ ⟨hk,hol,hr⟩
 simp only at hk hol hr
 by_cases hlt:k < (fieldsOf g t).length
 ·have he:=yT hlt
  obtain ⟨h0,hi⟩:=qU (List.getElem_mem hlt)
  have hef:=qE (f:=Yc) hi
  rw [drop_cons hlt,List.filter_cons,zx hi] at hr
  generalize hfd:g.fields[(fieldsOf g t)[k].toNat]=f at hr hef
  repeat' (first|(refine shX ?_;first|refine qX he ?_|refine zu rfl (zk zh rfl rfl rfl rfl rfl rfl h0 hef) rfl rfl ?_|refine AD.step _ _ _ _ _ rfl (zk zh rfl rfl rfl rfl rfl rfl h0 hef) rfl rfl ?_)|(refine zI ?_;first|refine yc zh rfl rfl rfl rfl rfl rfl rfl (by show _ * 64≤_;simp;omega) (by simp;omega) rfl rfl ?_)|refine sK ?_|refine sC (fun _=>?_) (fun _=>?_)|fail)
  ·rename_i hx
   rw [if_pos hx,List.map_cons,zx hi,hfd] at hr
   exact ⟨(k + 1,out++[f]),⟨by simp;omega,by simp;omega,by simpa using hr⟩,tD,tS,⟨yX rfl (by simp) zl,rfl⟩⟩
  ·rename_i hx
   rw [if_neg (by simp [hx])] at hr
   exact ⟨(k + 1,out),⟨by simp;omega,by simp;omega,hr⟩,tD,tS,⟨yX rfl rfl zl,rfl⟩⟩
 ·rw [drop_end (by omega)] at hr
  repeat' (first|refine sK ?_|refine sC (fun _=>?_) (fun _=>?_)|fail)
  exact retq rfl (by rw [←hr];simp [zi])
theorem zfI (t:Ty):ACall Tryz.prog 188 [yK t] (pb (whole t)):=by
 refine zf zh Tryz.func188 rfl (by kernel_rfl) Tryz.ntmps188 (by simp) _ rfl (fun hw gB hgB=>?_)
 repeat' (first|refine sA ?_|refine sC (fun _=>?_) (fun _=>?_)|fail)
 all_goals first|(refine retq rfl ?_;first|(simp only [zi,whole,BL,List.length_map] at *;simp only [*,BL,List.length_map];done)|(simp_all [zi,whole];done)|(simp_all [zi,whole];omega)|(simp_all [zi,whole];intros;omega))|(refine ZA rfl ?_;first|(simp only [zi,whole,BL,List.length_map] at *;simp only [*,BL,List.length_map];done)|(simp_all [zi,whole];done)|(simp_all [zi,whole];omega)|(simp_all [zi,whole];intros;omega))|skip
theorem XM (g:Img) (t:Ty):ACall Tryz.prog 104 [zq g,yK t] (pb (yN g t)):=by
 refine zf zh Tryz.func104 rfl (by kernel_rfl) Tryz.ntmps104 (by simp) _ rfl (fun hw gB hgB=>?_)
 repeat' (first|(refine shC ?_;first|refine qC (zhz t) ?_|refine qC (qh g t.index) ?_)|refine sA ?_|refine sC (fun _=>?_) (fun _=>?_)|fail)
 all_goals first|(refine retq rfl ?_;first|(simp only [zi,yN,BL,List.length_map] at *;simp only [*,BL,List.length_map];done)|(simp_all [zi,yN];done)|(simp_all [zi,yN];omega)|(simp_all [zi,yN];intros;omega))|(refine ZA rfl ?_;first|(simp only [zi,yN,BL,List.length_map] at *;simp only [*,BL,List.length_map];done)|(simp_all [zi,yN];done)|(simp_all [zi,yN];omega)|(simp_all [zi,yN];intros;omega))|skip
set_option maxHeartbeats 20000000
theorem zjx {g:Img} {n:Nat} {t:Ty} (hd:Dp g (n + 1) t) (hw:whole t=false):∀ f∈Zz g t.index,Dp g n f.ty:=by
 rcases hd with h|h
 ·rw [h] at hw;cases hw
 ·exact h
theorem zbM {g:Img} (h:ZU g=true) (hu:ZC g=true) {t:Ty} (hk:t.kind=1):Za g t=[]:=by rw [zfk h hu];simp [hk]
theorem zaC {g:Img} (h:ZU g=true) (hu:ZC g=true) {t:Ty} (hk:t.kind≠1) (hw:whole t=true):Za g t=[t]:=by rw [zfk h hu];simp [hk,hw]
theorem zdJ {t:Ty} (hw:whole t=false):t.kind=6∧t.ref=false∧¬ 0 < t.dims:=by
 simp only [whole,Bool.or_eq_false_iff,bne_eq_false_iff_eq,decide_eq_false_iff_not] at hw
 exact ⟨hw.1.1,hw.1.2,hw.2⟩
theorem zov {g:Img} (h:ZU g=true) (hu:ZC g=true) {t:Ty} (hw:whole t=false):Za g t=if (fcs g (Zz g t.index)).length=0 then [intTy] else fcs g (Zz g t.index):=by
 rw [zfk h hu,hw]
 simp [(zdJ hw).1]
theorem zcL {g:Img} (h:ZU g=true) (hu:ZC g=true) {t:Ty} (hw:whole t=false):(Za g t).length=max (fcs g (Zz g t.index)).length 1:=by
 rw [zov h hu hw]
 split
 ·rename_i h0;rw [h0];rfl
 ·omega
theorem ziN {g:Img} {l:List Fd} {k:Nat} (h:k < l.length):(fcs g (l.take (k + 1))).length=(fcs g (l.take k)).length + (Za g l[k].ty).length:=by
 rw [List.take_succ_eq_append_getElem h,zci,Vk];simp [fcs]
theorem zhL (g:Img) (hwl:ZU g=true) (hu:ZC g=true) (b:Nat) (hb:b≤100) (hb1:1≤b):∀ (n:Nat) (t:Ty),Dp g n t→ACall Tryz.prog 171 [zq g,yK t,pi b] (pi (Yv g b t:Nat)):=by
 have hf:=ZI hwl
 intro n
 induction n with
 | zero =>
  intro t hd
  have hwh:whole t=true:=hd
  refine zf zh Tryz.func171 rfl (by kernel_rfl) Tryz.ntmps171 (by simp) _ rfl (fun hw gB hgB=>?_)
  have hw':(t.kind != 6||t.ref||decide (0 < t.dims))=true:=hwh
  by_cases hk:t.kind=1
  ·have e:Yv g b t=0:=by rw [Yv,zbM hwl hu hk];rfl
   have hkb:(t.kind==1)=true:=by simp [hk]
   repeat' (first|refine sK ?_|refine sC (fun _=>?_) (fun _=>?_)|fail)
   all_goals exact retq rfl (by rw [e];rfl)
  ·have e:Yv g b t=1:=by rw [Yv,zaC hwl hu hk hwh];simp <;> omega
   have hkb:(t.kind==1)=false:=by simp [hk]
   repeat' (first|refine sA ?_|refine sC (fun _=>?_) (fun _=>?_)|fail)
   all_goals first
    | (refine retq rfl ?_;rw [e];rfl)
    | (exfalso;simp_all;done)
 | succ n ih =>
  intro t hd
  refine zf zh Tryz.func171 rfl (by kernel_rfl) Tryz.ntmps171 (by simp) _ rfl (fun hw gB hgB=>?_)
  cases hwh:whole t
  ·obtain ⟨k1,k2,k3⟩:=zdJ hwh
   have hn:=zjx hd hwh
   have hol:=zml g t.index
   have hgl:g.fields.length≤64:=by have:=(zF hf).2.1;omega
   have hkb1:(t.kind==1)=false:=by simp [k1]
   have hkb2:(t.kind != 6)=false:=by simp [k1]
   have hkb3:decide (0 < t.dims)=false:=by simp [k3]
   repeat' (first|(refine shC ?_;first|refine qC (zl7 g t.index hf) ?_)|refine sK ?_|refine sC (fun _=>?_) (fun _=>?_)|fail)
   refine zo (fun x:Nat × Nat=>[(2,.pv (pi b)),(3,.pv (.ptr (zq g) 0)),(7,.pv (pi x.2)),(28,.pv (.slc 7 ((Zz g t.index).map Yc) false)),(29,.pv (pi (Zz g t.index).length)),(30,.pv (pi x.1))]) (fun _=>[])
    (fun x=>x.1≤(Zz g t.index).length∧x.2≤2 * b + 1∧Cnt b x.2 (fcs g ((Zz g t.index).take x.1)).length) (fun x=>(Zz g t.index).length - x.1) (0,0) ⟨by simp,by simp,rfl⟩ (tS) tH ?_
   rintro ⟨k,r⟩ ⟨hk,hr,hc⟩
   simp only at hk hr hc
   by_cases hlt:k < (Zz g t.index).length
   ·have he:=zA (f:=Yc) hlt
    have c1:=ih (Zz g t.index)[k].ty (hn _ (List.getElem_mem hlt))
    have hs:=ziN (g:=g) hlt
    have hcl:Yv g b (Zz g t.index)[k].ty≤b + 1:=Nat.min_le_right _ _
    have hce:Yv g b (Zz g t.index)[k].ty=min (Za g (Zz g t.index)[k].ty).length (b + 1):=rfl
    generalize Yv g b (Zz g t.index)[k].ty=c at c1 hcl hce
    by_cases hrb:r≤b
    ·have hcn:=hc.add (l:=(Za g (Zz g t.index)[k].ty).length) hrb
     rw [←hs,←hce] at hcn
     repeat' (first|(refine shC ?_;first|refine qC c1 ?_)|(refine shX ?_;first|refine qX he ?_)|refine sK ?_|refine sC (fun _=>?_) (fun _=>?_)|fail)
     exact ⟨(k + 1,r + c),⟨hlt,by simp only;omega,hcn⟩,tD,by repeat (first|exact zT|refine zM rfl ?_|(refine qg rfl ?_ ?_;· (first|(rw [wrap_in (by omega) (by omega)] <;> omega)|(dsimp only;rw [wrap_in (by omega) (by omega)] <;> (push_cast;omega))))),tH⟩
    ·have hcn:=hc.stay (l:=(Za g (Zz g t.index)[k].ty).length) (by omega)
     rw [←hs] at hcn
     repeat' (first|(refine shX ?_;first|refine qX he ?_)|refine sK ?_|refine sC (fun _=>?_) (fun _=>?_)|fail)
     exact ⟨(k + 1,r),⟨hlt,hr,hcn⟩,tD,tS,tH⟩
   ·have e:Yv g b t=min (max r 1) (b + 1):=by
     rw [Yv,zcL hwl hu hwh]
     rw [List.take_of_length_le (by omega)] at hc
     unfold Cnt at hc;omega
    have hwb:IntKind.i64.wrap ((b:Int) + 1)=((b + 1:Nat):Int):=by rw [wrap_in (by omega) (by omega)];omega
    repeat' (first|refine zu rfl (zuE rfl rfl rfl) rfl rfl ?_|refine zu rfl (zuN rfl rfl rfl) rfl rfl ?_|refine sK ?_|refine sC (fun _=>?_) (fun _=>?_)|fail)
    exact retq rfl (by rw [e];simp only [zi,hwb] <;> (congr 3 <;> omega))
  ·have hw':(t.kind != 6||t.ref||decide (0 < t.dims))=true:=hwh
   by_cases hk:t.kind=1
   ·have e:Yv g b t=0:=by rw [Yv,zbM hwl hu hk];rfl
    have hkb:(t.kind==1)=true:=by simp [hk]
    repeat' (first|refine sK ?_|refine sC (fun _=>?_) (fun _=>?_)|fail)
    all_goals exact retq rfl (by rw [e];rfl)
   ·have e:Yv g b t=1:=by rw [Yv,zaC hwl hu hk hwh];simp <;> omega
    have hkb:(t.kind==1)=false:=by simp [hk]
    repeat' (first|refine sA ?_|refine sC (fun _=>?_) (fun _=>?_)|fail)
    all_goals first
     | (refine retq rfl ?_;rw [e];rfl)
     | (exfalso;simp_all;done)
theorem zpC (g:Img) (hwl:ZU g=true) (hu:ZC g=true) (b:Nat) (hb:b≤100) (hb1:1≤b) (t:Ty):ACall Tryz.prog 122 [zq g,yK t,pi b] (pb (decide (b < (Za g t).length))):=by
 refine zf zh Tryz.func122 rfl (by kernel_rfl) Tryz.ntmps122 (by simp) _ rfl (fun hw gB hgB=>?_)
 have c1:=zhL g hwl hu b hb hb1 _ t (zg2 hwl hu t)
 have e:decide ((b:Int) < (Yv g b t:Nat))=decide (b < (Za g t).length):=by
  rw [decide_eq_decide];unfold Yv;omega
 repeat' (first|(refine shC ?_;first|refine qC c1 ?_)|refine sA ?_|refine sC (fun _=>?_) (fun _=>?_)|fail)
 exact retq rfl (by simp only [zi,e])

/-! how many cells: the document's side -/
def zsi (t:Int) (f:Fd):Bool:=f.owner==t&&!f.static
theorem zbb {α:Type} {p:α→Bool} {l:List α} {k:Nat} (h:k < l.length):(l.take (k + 1)).filter p=(l.take k).filter p++if p l[k] then [l[k]] else []:=by
  rw [List.take_succ_eq_append_getElem h,List.filter_append]
  cases hp:p l[k] <;> simp [hp]
theorem zbX {g:Img} {p:Fd→Bool} {l:List Fd} {k:Nat} (h:k < l.length) (hp:p l[k]=true):fcs g ((l.take (k + 1)).filter p)=fcs g ((l.take k).filter p)++Za g l[k].ty:=by
  rw [zbb h,if_pos hp,zhS,zlB];simp [fcs]
theorem zcg {g:Img} {p:Fd→Bool} {l:List Fd} {k:Nat} (h:k < l.length) (hp:p l[k]=false):fcs g ((l.take (k + 1)).filter p)=fcs g ((l.take k).filter p):=by
  rw [zbb h,hp];simp
theorem zhV (g:Img) (p:Fd→Bool) (l:List Fd) (k:Nat):(fcs g ((l.take k).filter p)).length≤(fcs g (l.filter p)).length:=by
  have:l.filter p=(l.take k).filter p++(l.drop k).filter p:=by rw [←List.filter_append,List.take_append_drop]
  rw [this,zci];omega
theorem zt6 {g:Img} {n:Nat} {t:Ty} (h:∀ f∈Zz g t.index,Dp g n f.ty) {k:Nat} (hk:k < g.fields.length) (hp:zsi t.index g.fields[k]=true):Dp g n g.fields[k].ty :=
  h _ (List.mem_filter.2 ⟨List.getElem_mem hk,hp⟩)
set_option maxHeartbeats 1000000 in
theorem zfG (g:Img) (hwl:ZU g=true) (hu:ZC g=true) (b:Nat) (hb:b≤100) (hb1:1≤b):∀ (n:Nat) (t:Ty),Dp g n t→ACall Tryz.prog 146 [zq g,yK t,pi b] (pi (Yv g b t:Nat)):=by
  have hf:=ZI hwl
  have hgl:g.fields.length≤64:=by have:=(zF hf).2.1;omega
  intro n
  induction n with
  | zero =>
    intro t hd
    have hwh:whole t=true:=hd
    have cw:=zfI t
    rw [hwh] at cw
    refine zf zh Tryz.func146 rfl (by kernel_rfl) Tryz.ntmps146 (by simp) _ rfl (fun hw gB hgB=>?_)
    by_cases hk:t.kind=1
    · have e:Yv g b t=0:=by rw [Yv,zbM hwl hu hk];rfl
      have hkb:(t.kind==1)=true:=by simp [hk]
      repeat' (first|refine sK ?_|refine sC (fun _=>?_) (fun _=>?_)|fail)
      all_goals exact retq rfl (by rw [e];rfl)
    · have e:Yv g b t=1:=by rw [Yv,zaC hwl hu hk hwh];simp <;> omega
      have hkb:(t.kind==1)=false:=by simp [hk]
      repeat' (first|(refine shC ?_;first|refine qC cw ?_)|refine sK ?_|refine sC (fun _=>?_) (fun _=>?_)|fail)
      all_goals exact retq rfl (by rw [e];rfl)
  | succ n ih =>
    intro t hd
    have cw:=zfI t
    refine zf zh Tryz.func146 rfl (by kernel_rfl) Tryz.ntmps146 (by simp) _ rfl (fun hw gB hgB=>?_)
    cases hwh:whole t
    · rw [hwh] at cw
      obtain ⟨k1,k2,k3⟩:=zdJ hwh
      have hn:=zjx hd hwh
      have hkb1:(t.kind==1)=false:=by simp [k1]
      repeat' (first|(refine shC ?_;first|refine qC cw ?_)|refine sK ?_|refine sC (fun _=>?_) (fun _=>?_)|fail)
      refine zo (fun x:Nat × Nat=>[(2,.pv (pi b)),(3,.pv (.ptr (zq g) 0)),(4,.pv (.ptr (yK t) 0)),(7,.pv (pi x.2)),(8,.pv (pi x.1))]) (fun _=>[])
        (fun x=>x.1≤g.fields.length∧x.2≤2 * b + 1∧Cnt b x.2 (fcs g ((g.fields.take x.1).filter (zsi t.index))).length) (fun x=>g.fields.length - x.1) (0,0) ⟨by simp,by simp,rfl⟩ (tS) tH ?_
      rintro ⟨k,r⟩ ⟨hk,hr,hc⟩
      simp only at hk hr hc
      have hfin:∀ s:Nat,Cnt b r s→s≤(fcs g (Zz g t.index)).length→(b < r∨s=(fcs g (Zz g t.index)).length)→Yv g b t=min (max r 1) (b + 1):=by
        intro s h1 h2 h3
        rw [Yv,zcL hwl hu hwh]
        unfold Cnt at h1;omega
      have hle:=zhV g (zsi t.index) g.fields k
      have hwb:IntKind.i64.wrap ((b:Int) + 1)=((b + 1:Nat):Int):=by rw [wrap_in (by omega) (by omega)];omega
      by_cases hlt:k < g.fields.length
      · have he:=zA (f:=Yc) hlt
        by_cases hrb:r≤b
        · cases hp:zsi t.index g.fields[k]
          · have hcn:Cnt b r (fcs g ((g.fields.take (k + 1)).filter (zsi t.index))).length:=by rw [zcg hlt hp];exact hc
            have hpa:(g.fields[k].owner==t.index&&!g.fields[k].static)=false:=hp
            clear hfin
            repeat' (first|(refine shX ?_;first|refine qX he ?_)|refine sA ?_|refine sC (fun _=>?_) (fun _=>?_)|fail)
            all_goals first
              | exact ⟨(k + 1,r),⟨hlt,hr,hcn⟩,tD,tS,tH⟩
              | (exfalso;simp_all;done)
              | (exfalso;simp_all;omega)
          · have c1:=ih g.fields[k].ty (zt6 hn hlt hp)
            have hs:=zbX (g:=g) hlt hp
            have hcl:Yv g b g.fields[k].ty≤b + 1:=Nat.min_le_right _ _
            have hcn:=hc.add (l:=(Za g g.fields[k].ty).length) hrb
            rw [←List.length_append,←hs] at hcn
            rw [show min (Za g g.fields[k].ty).length (b + 1)=Yv g b g.fields[k].ty from rfl] at hcn
            generalize Yv g b g.fields[k].ty=c at c1 hcl hcn
            have hpa:(g.fields[k].owner==t.index&&!g.fields[k].static)=true:=hp
            rw [Bool.and_eq_true] at hpa
            obtain ⟨hp1,hp2⟩:=hpa
            clear hfin
            repeat' (first|(refine shC ?_;first|refine qC c1 ?_)|(refine shX ?_;first|refine qX he ?_)|refine sK ?_|refine sC (fun _=>?_) (fun _=>?_)|fail)
            all_goals first
              | exact ⟨(k + 1,r + c),⟨hlt,by simp only;omega,hcn⟩,tD,by repeat (first|exact zT|refine zM rfl ?_|(refine qg rfl ?_ ?_;· (first|(rw [wrap_in (by omega) (by omega)] <;> omega)|(dsimp only;rw [wrap_in (by omega) (by omega)] <;> (push_cast;omega))))),tH⟩
              | (exfalso;simp_all;done)
        · have e:=hfin _ hc hle (.inl (by omega))
          repeat' (first|refine sK ?_|refine sC (fun _=>?_) (fun _=>?_)|fail)
          all_goals first
            | (refine retq rfl ?_;rw [e];simp only [zi,hwb] <;> (congr 3 <;> omega))
            | (exfalso;omega)
            | (trace "LEFT1";trace_state)
      · have e:=hfin _ hc hle (.inr (by rw [List.take_of_length_le (by omega)];rfl))
        clear hfin
        repeat' (first|refine sA ?_|refine sC (fun _=>?_) (fun _=>?_)|fail)
        all_goals first
          | (refine retq rfl ?_;rw [e];simp only [zi,hwb] <;> (congr 3 <;> (simp_all;omega)))
          | (refine retq rfl ?_;rw [e];simp only [zi] <;> (congr 3 <;> (simp_all <;> omega)))
          | (exfalso;simp_all <;> omega)
          | (rename_i h1 _
             have h0:r=0:=by
               have:=eq_of_beq h1
               simp only at this;omega
             refine retq rfl ?_
             rw [e,h0]
             have:min (max 0 1) (b + 1)=1:=by omega
             rw [this];rfl)
    · rw [hwh] at cw
      by_cases hk:t.kind=1
      · have e:Yv g b t=0:=by rw [Yv,zbM hwl hu hk];rfl
        have hkb:(t.kind==1)=true:=by simp [hk]
        repeat' (first|refine sK ?_|refine sC (fun _=>?_) (fun _=>?_)|fail)
        all_goals exact retq rfl (by rw [e];rfl)
      · have e:Yv g b t=1:=by rw [Yv,zaC hwl hu hk hwh];simp <;> omega
        have hkb:(t.kind==1)=false:=by simp [hk]
        repeat' (first|(refine shC ?_;first|refine qC cw ?_)|refine sK ?_|refine sC (fun _=>?_) (fun _=>?_)|fail)
        all_goals exact retq rfl (by rw [e];rfl)
end Go.Cg
