/- A part of the walks by abstract values: no statement of its own. -/
import Derived.Test.YtdngpcmllgnbjaaGreatN32
import Derived.Test.YtdngpcmllgnbjaaGreatN29
import Derived.Test.YtdngpcmllgnbjaaGreatN14
import Derived.Test.YtdngpcmllgnbjaaGreatN8
set_option linter.unusedVariables false
set_option linter.unusedSimpArgs false
namespace Go.Cg
open Go.Proofs
set_option maxHeartbeats 20000000
def zbY (g:Img) (t m:Int):Int:=if QN g m < 0 then m else (tbl g t).getD (QN g m).toNat 0
def does (g:Img) (m k:Int):Bool:=zc0 g k&&alk g k m
def zlj (g:Img) (t m:Int):Option Int:=((up g t).flatMap (methodsOf g)).find? (does g m)
def XI (g:Img) (t m:Int):Int:=match zlj g t m with|some k=>zbY g t k|none => -1
def zjh (g:Img) (t m:Int):Int:=if zB g (zaa g m)==2&&zc0 g m then XI g t m else zbY g t m
theorem zjb {g:Img} (hW:Wl g):∀ (l:List Int) (t b:Int),up g t=l→b∈l→(tbl g b).length≤(tbl g t).length
 | [],t,b,h,hb=>by cases hb
 | x::l,t,b,h,hb=>by
  cases ht:typeAt g t with
  | none=>rw [up_nil ht] at h;cases h
  | some td =>
   rw [hW.up_cons ht] at h
   simp only [List.cons.injEq] at h
   obtain ⟨rfl,h⟩:=h
   rcases List.mem_cons.1 hb with rfl|hb
   ·exact Nat.le_refl _
   ·have h1:=zjb hW l td.ext b h hb
    have h2:=(Wi g (methodsOf g t) (tbl g td.ext)).1
    rw [zn0 hW ht];omega
theorem idx_range {l:List Int} {v:Int}:idx l v = -1∨(0≤idx l v∧(idx l v).toNat < l.length):=by
 rw [idx]
 split
 ·rename_i h
  right
  have:=List.findIdx_lt_length_of_exists (p:=(· == v)) ⟨v,h,by simp⟩
  omega
 ·exact .inl rfl
theorem zlv {g:Img} (hW:Wl g) {t m:Int} (hb:zB g (zaa g m)=0→zaa g m∈up g t) (h:¬ QN g m < 0):(QN g m).toNat < (tbl g t).length:=by
 rw [QN] at h ⊢
 split at h
 ·rename_i hh
  rw [if_pos hh]
  simp only [Bool.and_eq_true,beq_iff_eq] at hh
  have h1:=zjb hW _ t _ rfl (hb hh.2)
  rcases idx_range (l:=tbl g (zaa g m)) (v:=m) with h2|h2
  ·omega
  ·omega
 ·omega
theorem WT {g:Img} {u k:Int} (h:k∈methodsOf g u):zaa g k=u:=by
 simp only [methodsOf,List.mem_filter,Bool.and_eq_true,beq_iff_eq] at h
 exact h.2.2
theorem zkW (g:Img) (hF:Fine g) (t m:Int) (hm:mOk g m) (hn:(zB g (zaa g m)==2&&zc0 g m)=false) (hb:zB g (zaa g m)=0→zaa g m∈up g t):ACall Tryz.prog 349 [zu g,pi t,pi m] (pi (zbY g t m)):=by
 have hW:=zea hF.well
 have hem:=YR hm
 have c1:=qw g hF.formed (mAt g m).owner
 have c2:=zpK hF hm
 have c3:=zkd g hF m hm
 have c4:=zfC g hF t
 have hsi:=zlv hW hb
 rw [zaa] at hn
 refine zf zh Tryz.func349 rfl (by kernel_rfl) Tryz.ntmps349 (by simp) _ rfl (fun hw gB hgB=>?_)
 by_cases hk:zB g (mAt g m).owner=2
 ·rw [hk] at c1 hn
  have hv:zc0 g m=false:=by simpa using hn
  rw [hv] at c2
  by_cases hs:QN g m < 0
  ·repeat' (first|(refine shC ?_;first|refine qC c1 ?_|refine qC c2 ?_|refine qC c3 ?_)|(refine shX ?_;first|refine zq rfl (zn zh rfl rfl rfl rfl rfl rfl hm.1 hem) rfl rfl ?_|refine AD.step _ _ _ _ _ rfl (zn zh rfl rfl rfl rfl rfl rfl hm.1 hem) rfl rfl ?_)|refine sK ?_|refine sC (fun _=>?_) (fun _=>?_)|fail)
   exact retq rfl (by simp [zl,zbY,hs])
  ·have he:((tbl g t).map pi)[(QN g m).toNat]?=some (pi ((tbl g t).getD (QN g m).toNat 0)):=by rw [zV (hsi hs)];exact Zw (hsi hs)
   have hd:decide (QN g m < 0)=false:=decide_eq_false hs
   repeat' (first|(refine shC ?_;first|refine qC c1 ?_|refine qC c2 ?_|refine qC c3 ?_|refine qC c4 ?_)|(refine shX ?_;first|refine zq rfl (zn zh rfl rfl rfl rfl rfl rfl hm.1 hem) rfl rfl ?_|refine AD.step _ _ _ _ _ rfl (zn zh rfl rfl rfl rfl rfl rfl hm.1 hem) rfl rfl ?_|refine qX he ?_)|refine sK ?_|refine sC (fun _=>?_) (fun _=>?_)|fail)
   exact retq rfl (by rw [zbY,if_neg hs];rfl)
 ·have hkb:(zB g (mAt g m).owner==2)=false:=by simp [hk]
  by_cases hs:QN g m < 0
  ·repeat' (first|(refine shC ?_;first|refine qC c1 ?_|refine qC c2 ?_|refine qC c3 ?_)|(refine shX ?_;first|refine zq rfl (zn zh rfl rfl rfl rfl rfl rfl hm.1 hem) rfl rfl ?_|refine AD.step _ _ _ _ _ rfl (zn zh rfl rfl rfl rfl rfl rfl hm.1 hem) rfl rfl ?_)|refine sK ?_|refine sC (fun _=>?_) (fun _=>?_)|fail)
   exact retq rfl (by simp [zl,zbY,hs])
  ·have he:((tbl g t).map pi)[(QN g m).toNat]?=some (pi ((tbl g t).getD (QN g m).toNat 0)):=by rw [zV (hsi hs)];exact Zw (hsi hs)
   have hd:decide (QN g m < 0)=false:=decide_eq_false hs
   repeat' (first|(refine shC ?_;first|refine qC c1 ?_|refine qC c2 ?_|refine qC c3 ?_|refine qC c4 ?_)|(refine shX ?_;first|refine zq rfl (zn zh rfl rfl rfl rfl rfl rfl hm.1 hem) rfl rfl ?_|refine AD.step _ _ _ _ _ rfl (zn zh rfl rfl rfl rfl rfl rfl hm.1 hem) rfl rfl ?_|refine qX he ?_)|refine sK ?_|refine sC (fun _=>?_) (fun _=>?_)|fail)
   exact retq rfl (by rw [zbY,if_neg hs];rfl)
theorem zmY {α:Type} {l:List α} {f:α→List Int} {i:Nat} (h:i < l.length):(l.drop i).flatMap f=f l[i]++(l.drop (i + 1)).flatMap f:=by
 rw [List.drop_eq_getElem_cons h,List.flatMap_cons]
theorem up0 {g:Img} (hW:Wl g) {t u k:Int} (hk:zB g t=0) (hu:u∈up g t) (h:k∈methodsOf g u):mOk g k∧(zB g (zaa g k)==2&&zc0 g k)=false∧(zB g (zaa g k)=0→zaa g k∈up g t):=by
 have h1:=ziR hW _ t rfl hk _ hu
 refine ⟨yQ h,?_,fun _=>by rw [WT h];exact hu⟩
 rw [WT h,h1];rfl
theorem zmR (g:Img) (hF:Fine g) (t m:Int) (hm:mOk g m) (hk:zB g t=0):ACall Tryz.prog 257 [zu g,pi t,pi m] (pi (XI g t m)):=by
 have hW:=zea hF.well
 obtain ⟨hgt,_,hgm,_⟩:=zG hF.formed
 have hem:=YR hm
 have hui:=zaS g t
 have hul:=qU _ _ hui.1 hui.2
 refine zf zh Tryz.func257 rfl (by kernel_rfl) Tryz.ntmps257 (by simp) _ rfl (fun hw gB hgB=>?_)
 repeat' (first|(refine shC ?_;first|refine zq rfl (ZB rfl rfl (ZO g t (by omega))) rfl rfl ?_|refine AD.step _ _ _ _ _ rfl (ZB rfl rfl (ZO g t (by omega))) rfl rfl ?_)|refine sA ?_|refine sC (fun _=>?_) (fun _=>?_)|fail)
 refine zA (fun i:Nat=>[(1,.pv (pi t)),(2,.pv (pi m)),(3,.pv (.ptr (zu g) 0)),(13,.pv (ints (up g t))),(14,.pv (pi (up g t).length)),(15,.pv (pi i))]) (fun _=>[]) (fun i=>i≤(up g t).length∧zlj g t m=(((up g t).drop i).flatMap (methodsOf g)).find? (does g m)) (fun i=>(up g t).length - i) 0 ⟨by omega,rfl⟩ (tS) tH ?_
 rintro i ⟨hi,hr⟩
 by_cases hlt:i < (up g t).length
 ·obtain ⟨u,hu⟩:∃ u,u=(up g t)[i]:=⟨_,rfl⟩
  have hum:u∈up g t:=by rw [hu];exact List.getElem_mem hlt
  have heu:((up g t).map pi)[i]?=some (pi u):=by rw [hu];exact yI (f:=pi) hlt
  have c1:=ZR g u (by omega)
  have hml:=Yu g u
  rw [zmY hlt,←hu] at hr
  repeat' (first|(refine shC ?_;first|refine qC c1 ?_)|(refine shX ?_;first|refine qX heu ?_)|refine sK ?_|refine sC (fun _=>?_) (fun _=>?_)|fail)
  refine zA (fun j:Nat=>[(1,.pv (pi t)),(2,.pv (pi m)),(3,.pv (.ptr (zu g) 0)),(13,.pv (ints (up g t))),(14,.pv (pi (up g t).length)),(15,.pv (pi i)),(21,.pv (ints (methodsOf g u))),(22,.pv (pi (methodsOf g u).length)),(23,.pv (pi j))]) (fun _=>[])
   (fun j=>j≤(methodsOf g u).length∧zlj g t m=((methodsOf g u).drop j++((up g t).drop (i + 1)).flatMap (methodsOf g)).find? (does g m)) (fun j=>(methodsOf g u).length - j) 0 ⟨by omega,hr⟩ (tS) tH ?_
  clear hr
  rintro j ⟨hj,hr⟩
  by_cases hjl:j < (methodsOf g u).length
  ·obtain ⟨k,hk2⟩:∃ k,k=(methodsOf g u)[j]:=⟨_,rfl⟩
   have hkm:k∈methodsOf g u:=by rw [hk2];exact List.getElem_mem hjl
   have hek:((methodsOf g u).map pi)[j]?=some (pi k):=by rw [hk2];exact yI (f:=pi) hjl
   obtain ⟨q1,q2,q3⟩:=up0 hW hk hum hkm
   have hekm:=YR q1
   have c2:=zpK hF q1
   have c3:=zdq (mAt g k) (mAt g m)
   rw [zlR hF.formed q1 hm] at c3
   rw [List.drop_eq_getElem_cons hjl,←hk2,List.cons_append,List.find?_cons] at hr
   cases hv:zc0 g k
   ·rw [hv] at c2
    rw [show does g m k=false by rw [does,hv];rfl] at hr
    repeat' (first|(refine shC ?_;first|refine qC c2 ?_)|(refine shX ?_;first|refine qX hek ?_|refine zq rfl (zn zh rfl rfl rfl rfl rfl rfl q1.1 hekm) rfl rfl ?_|refine AD.step _ _ _ _ _ rfl (zn zh rfl rfl rfl rfl rfl rfl q1.1 hekm) rfl rfl ?_)|refine sK ?_|refine sC (fun _=>?_) (fun _=>?_)|fail)
    exact ⟨j + 1,⟨hjl,hr⟩,tD,tS,tH⟩
   ·rw [hv] at c2
    cases ha:alk g k m
    ·rw [ha] at c3
     rw [show does g m k=false by rw [does,hv,ha];rfl] at hr
     repeat' (first|(refine shC ?_;first|refine qC c2 ?_|refine qC c3 ?_)|(refine shX ?_;first|refine qX hek ?_|refine zq rfl (zn zh rfl rfl rfl rfl rfl rfl q1.1 hekm) rfl rfl ?_|refine AD.step _ _ _ _ _ rfl (zn zh rfl rfl rfl rfl rfl rfl q1.1 hekm) rfl rfl ?_|refine zq rfl (zn zh rfl rfl rfl rfl rfl rfl hm.1 hem) rfl rfl ?_|refine AD.step _ _ _ _ _ rfl (zn zh rfl rfl rfl rfl rfl rfl hm.1 hem) rfl rfl ?_)|refine sK ?_|refine sC (fun _=>?_) (fun _=>?_)|fail)
     exact ⟨j + 1,⟨hjl,hr⟩,tD,tS,tH⟩
    ·rw [ha] at c3
     rw [show does g m k=true by rw [does,hv,ha];rfl] at hr
     repeat' (first|(refine shC ?_;first|refine qC c2 ?_|refine qC c3 ?_|refine qC (zkW g hF t k q1 q2 q3) ?_)|(refine shX ?_;first|refine qX hek ?_|refine zq rfl (zn zh rfl rfl rfl rfl rfl rfl q1.1 hekm) rfl rfl ?_|refine AD.step _ _ _ _ _ rfl (zn zh rfl rfl rfl rfl rfl rfl q1.1 hekm) rfl rfl ?_|refine zq rfl (zn zh rfl rfl rfl rfl rfl rfl hm.1 hem) rfl rfl ?_|refine AD.step _ _ _ _ _ rfl (zn zh rfl rfl rfl rfl rfl rfl hm.1 hem) rfl rfl ?_)|refine sK ?_|refine sC (fun _=>?_) (fun _=>?_)|fail)
     exact retq rfl (by rw [XI,hr];rfl)
  ·rw [List.drop_eq_nil_of_le (by omega),List.nil_append] at hr
   repeat' (first|refine sK ?_|refine sC (fun _=>?_) (fun _=>?_)|fail)
   exact ⟨i + 1,⟨hlt,hr⟩,tD,tS,tH⟩
 ·rw [List.drop_eq_nil_of_le (by omega)] at hr
  repeat' (first|refine sK ?_|refine sC (fun _=>?_) (fun _=>?_)|fail)
  exact retq rfl (by rw [XI,hr];rfl)
def zfz (m:Me):Bool:=m.code.length==0&&m.locals.length==0&&m.clauses.length==0&&m.max==0
def zey (k:Int) (b1 b2 b4 b8 b16 rv f16 em nc:Bool):Bool:=!(b16&&(k != 0||rv||f16))&&!(b2&&(b1||k==1))&&!((b4||b8)&&!b2)&&(if b4 then em else nc)
def zir (k:Int) (b4 m1 ab:Bool):Bool:=if k==2 then b4 else if k==3 then b4&&m1 else !b4||ab
def zcS (k:Int) (b1 b2 b4 b8 b16 rv f16 em nc m1 ab:Bool):Bool :=
 !(b16&&(k != 0||rv||f16))&&!(b2&&(b1||k==1))&&!(!b2&&(b4||b8))&&!(b4&&!em)&&!(!b4&&(!nc||decide (2≤k)))&&!(k==3&&!m1)&&(!b4||decide (2≤k)||ab)
theorem znp (b1 b2 b4 b8 b16 rv f16 em nc m1 ab:Bool) {k:Int} (hk:k=0∨k=1∨k=2∨k=3):(zey k b1 b2 b4 b8 b16 rv f16 em nc&&zir k b4 m1 ab)=zcS k b1 b2 b4 b8 b16 rv f16 em nc m1 ab:=by
 simp only [zey,zir,zcS]
 generalize (b16&&(k != 0||rv||f16))=x
 generalize (b2&&(b1||k==1))=y
 rcases hk with rfl|rfl|rfl|rfl <;> cases x <;> cases y <;> cases b2 <;> cases b4 <;> cases b8 <;> cases em <;> cases nc <;> cases m1 <;> cases ab <;> rfl
def zlG (g:Img) (m:Me):Bool:=zey (zB g m.owner) (yE m.flags 1) (yE m.flags 2) (yE m.flags 4) (yE m.flags 8) (yE m.flags 16) (m.ret.kind != 1) (m.flags != 16) (zfz m) (decide (0 < m.code.length))
def zhV (g:Img) (m:Me):Bool:=zir (zB g m.owner) (yE m.flags 4) ((methodsOf g m.owner).length==1) (yE (g.types.getD m.owner.toNat default).flags 4)
def ziU (g:Img) (m:Me):Bool:=zcS (zB g m.owner) (yE m.flags 1) (yE m.flags 2) (yE m.flags 4) (yE m.flags 8) (yE m.flags 16) (m.ret.kind != 1) (m.flags != 16) (zfz m) (decide (0 < m.code.length)) ((methodsOf g m.owner).length==1) (yE (g.types.getD m.owner.toNat default).flags 4)
structure MeOk (g:Img) (m:Me):Prop where
 f0:0≤m.flags
 f1:m.flags≤31
 o0:0≤m.owner
 o1:m.owner.toNat < g.types.length
 formed:ZY g m=true
theorem zhX {g:Img} (hf:zK g=true) {x:Int} (h:mOk g x):MeOk g (mAt g x):=by
 have h1:=XB hf h
 have h2:=zbe hf h.2
 simp only [zK,Bool.and_eq_true,List.all_eq_true] at hf
 have:=hf.2 x.toNat (by simpa using h.2)
 rw [zeP] at this
 simp only [Bool.and_eq_true,decide_eq_true_eq] at this
 have e:g.methods.getD x.toNat default=mAt g x:=rfl
 rw [e] at this h2
 obtain ⟨⟨⟨t1,t2⟩,_⟩,_⟩:=this
 exact ⟨h1.1,h1.2,t1,by omega,h2⟩
theorem MeOk.kind {g:Img} {m:Me} (h:MeOk g m):zB g m.owner=0∨zB g m.owner=1∨zB g m.owner=2∨zB g m.owner=3:=by
 have h1:=zay g m.owner
 obtain ⟨td,htd⟩:=Xn (g:=g) (t:=m.owner) ⟨h.o0,by have:=h.o1;have:=h.o0;omega⟩
 have h2:zB g m.owner=Xf td.flags:=by rw [zB,htd]
 have h3:=zdZ td.flags
 omega
theorem zpv {g:Img} {m:Me} (h:MeOk g m):(zlG g m&&zhV g m)=ziU g m:=znp _ _ _ _ _ _ _ _ _ _ _ h.kind
theorem MeOk.small {g:Img} {m:Me} (h:MeOk g m):m.code.length≤160∧m.locals.length≤12∧m.params.length≤6∧m.clauses.length≤6∧0≤m.max∧m.max≤12:=by
 have:=h.formed
 simp only [ZY,zck,zh5,Bool.and_eq_true,decide_eq_true_eq] at this
 obtain ⟨⟨⟨⟨⟨⟨⟨⟨⟨⟨_,_⟩,_⟩,h3⟩,h4⟩,h5⟩,h6⟩,_⟩,_⟩,_⟩,⟨⟨h7,_⟩,_⟩,h8⟩:=this
 refine ⟨by omega,by omega,by omega,?_,h3,h4⟩
 by_cases hc:6 < m.clauses.length
 ·rw [Qx,if_pos hc] at h8;simp at h8
 ·omega
theorem zmd {m:Me} (h1:m.code.length≤160) (h2:m.locals.length≤12) (h3:m.clauses.length≤6) (h4:0≤m.max) (h5:m.max≤12) :
  (IntKind.i64.wrap (IntKind.i64.wrap (IntKind.i64.wrap ((((m.code.map yT).length:Nat):Int) + (((m.locals.map yA).length:Nat):Int)) + (((m.clauses.map Yr).length:Nat):Int)) + m.max)==0)=zfz m:=by
 simp only [List.length_map]
 rw [wrap_in (a:=(m.code.length:Int) + (m.locals.length:Int)) (by omega) (by omega),wrap_in (a:=(m.code.length:Int) + (m.locals.length:Int) + (m.clauses.length:Int)) (by omega) (by omega),wrap_in (by omega) (by omega),zfz,Bool.eq_iff_iff]
 simp only [beq_iff_eq,Bool.and_eq_true]
 omega
theorem zpW {g:Img} {m:Me} (h:MeOk g m):ACall Tryz.prog 249 [zM m,pi 1] (pb (yE m.flags 1))∧ACall Tryz.prog 249 [zM m,pi 2] (pb (yE m.flags 2))∧ACall Tryz.prog 249 [zM m,pi 4] (pb (yE m.flags 4))∧ACall Tryz.prog 249 [zM m,pi 8] (pb (yE m.flags 8))∧ACall Tryz.prog 249 [zM m,pi 16] (pb (yE m.flags 16)):=by
 obtain ⟨e1,e2,e4,e8,e16⟩:=Vk h.f0 h.f1
 exact ⟨e1 ▸ YB m 1,e2 ▸ YB m 2,e4 ▸ YB m 4,e8 ▸ YB m 8,e16 ▸ YB m 16⟩
set_option maxHeartbeats 4000000 in
theorem zfQ (g:Img) (hf:zK g=true) (m:Me) (h:MeOk g m):ACall Tryz.prog 128 [zu g,zM m] (pb (zlG g m)):=by
 obtain ⟨h1,h2,h4,h8,h16⟩:=zpW h
 have ck:=qw g hf m.owner
 have hk:=h.kind
 obtain ⟨s1,s2,_,s4,s5,s6⟩:=h.small
 have he:=zmd s1 s2 s4 s5 s6
 refine zf zh Tryz.func128 rfl (by kernel_rfl) Tryz.ntmps128 (by simp) _ rfl (fun hw gB hgB=>?_)
 rw [zlG]
 generalize yE m.flags 1=b1 at h1 ⊢
 generalize yE m.flags 2=b2 at h2 ⊢
 generalize yE m.flags 4=b4 at h4 ⊢
 generalize yE m.flags 8=b8 at h8 ⊢
 generalize yE m.flags 16=b16 at h16 ⊢
 generalize zfz m=em at he ⊢
 rcases hk with hk|hk|hk|hk <;> rw [hk] at ck ⊢ <;> clear hk
 all_goals repeat' (first|(refine shC ?_;first|refine qC ck ?_|refine qC h1 ?_|refine qC h2 ?_|refine qC h4 ?_|refine qC h8 ?_|refine qC h16 ?_)|refine sA ?_|refine sC (fun _=>?_) (fun _=>?_)|fail)
 all_goals (refine retq rfl ?_;first|(simp_all [zl,zey];done)|(rename_i hx;simp_all [zl,zey];omega)|(trace_state))
set_option maxHeartbeats 20000000
theorem zlY (g:Img) (hf:zK g=true) (t:Ty):ACall Tryz.prog 252 [zu g,yA t] (pb (zfY g t)):=by
 have ck:=qw g hf t.index
 refine zf zh Tryz.func252 rfl (by kernel_rfl) Tryz.ntmps252 (by simp) _ rfl (fun hw gB hgB=>?_)
 rw [zfY]
 generalize zB g t.index=k at ck ⊢
 repeat' (first|(refine shC ?_;first|refine qC ck ?_)|refine sA ?_|refine sC (fun _=>?_) (fun _=>?_)|fail)
 all_goals (refine retq rfl ?_;simp_all [zl])
theorem ziX (g:Img) (hf:zK g=true) (t:Ty):ACall Tryz.prog 251 ([]++[yA t]++[.ptr (zu g) 0]) (pb (!zfY g t)):=by
 show ACall Tryz.prog 251 [yA t,.ptr (zu g) 0] (pb (!zfY g t))
 refine zf zh Tryz.func251 rfl (by kernel_rfl) Tryz.ntmps251 (by simp) _ rfl (fun hw gB hgB=>?_)
 repeat' (first|(refine shC ?_;first|refine qC (zlY g hf t) ?_)|refine sA ?_|refine sC (fun _=>?_) (fun _=>?_)|fail)
 exact retq rfl rfl
def Yt (a b c:List Ty):Nat→Int
 | 0=>0
 | 1=>a.length
 | 2=>a.length + b.length
 | _=>a.length + b.length + c.length
def zct (a b c:List Ty):Nat→List Ty
 | 0=>[]
 | 1=>a
 | 2=>a++b
 | _=>a++b++c
theorem zhg (a b c:List Ty) (ha:a.length≤100) (hb:b.length≤100) (hc:c.length≤100):ACallR Tryz.prog 250 [.slc 1 [tys a,tys b,tys c] true] 44 4 ((a++b++c).map yA):=by
 refine zb2 Tryz.func250 rfl (by kernel_rfl) Tryz.ntmps250 (by simp) rfl (fun hw gB hgB=>?_)
 repeat' (first|refine sK ?_|refine sC (fun _=>?_) (fun _=>?_)|fail)
 refine zA (fun k:Nat=>[(0,.pv (.slc 1 [tys a,tys b,tys c] true)),(9,.pv (.slc 1 [tys a,tys b,tys c] true)),(10,.pv (pi 3)),(11,.pv (pi k)),(3,.pv (pi (Yt a b c k)))]) (fun _=>[]) (fun k=>k≤3) (fun k=>3 - k) 0 (by omega) (tS) tH ?_
 intro k hk
 have hk3:k=0∨k=1∨k=2∨k=3:=by omega
 rcases hk3 with rfl|rfl|rfl|rfl
 ·repeat' (first|refine zq rfl (zgD zh rfl (by first|omega|(simp [Yt] <;> omega)) (by first|omega|(simp [Yt] <;> omega))) rfl rfl ?_|(refine shX ?_;first|refine zq rfl (zn zh rfl rfl rfl rfl rfl rfl (by decide) rfl) rfl rfl ?_|refine AD.step _ _ _ _ _ rfl (zn zh rfl rfl rfl rfl rfl rfl (by decide) rfl) rfl rfl ?_)|refine sK ?_|refine sC (fun _=>?_) (fun _=>?_)|fail)
  exact ⟨1,by omega,tD,by repeat (first|exact yj|refine zY rfl ?_|(refine qL rfl ?_ ?_;· (first|(simp [Yt];done)|(simp [Yt];omega)|omega))),tH⟩
 ·repeat' (first|refine zq rfl (zgD zh rfl (by first|omega|(simp [Yt] <;> omega)) (by first|omega|(simp [Yt] <;> omega))) rfl rfl ?_|(refine shX ?_;first|refine zq rfl (zn zh rfl rfl rfl rfl rfl rfl (by decide) rfl) rfl rfl ?_|refine AD.step _ _ _ _ _ rfl (zn zh rfl rfl rfl rfl rfl rfl (by decide) rfl) rfl rfl ?_)|refine sK ?_|refine sC (fun _=>?_) (fun _=>?_)|fail)
  exact ⟨2,by omega,tD,by repeat (first|exact yj|refine zY rfl ?_|(refine qL rfl ?_ ?_;· (first|(simp [Yt];done)|(simp [Yt];omega)|omega))),tH⟩
 ·repeat' (first|refine zq rfl (zgD zh rfl (by first|omega|(simp [Yt] <;> omega)) (by first|omega|(simp [Yt] <;> omega))) rfl rfl ?_|(refine shX ?_;first|refine zq rfl (zn zh rfl rfl rfl rfl rfl rfl (by decide) rfl) rfl rfl ?_|refine AD.step _ _ _ _ _ rfl (zn zh rfl rfl rfl rfl rfl rfl (by decide) rfl) rfl rfl ?_)|refine sK ?_|refine sC (fun _=>?_) (fun _=>?_)|fail)
  exact ⟨3,by omega,tD,by repeat (first|exact yj|refine zY rfl ?_|(refine qL rfl ?_ ?_;· (first|(simp [Yt];done)|(simp [Yt];omega)|omega))),tH⟩
 ·repeat' (first|(refine zQ ?_;first|refine zcf 0 rfl rfl rfl (zmU _ (by simp [Yt];omega) (by simp [Yt];omega)) (by decide) rfl rfl rfl ?_)|refine sK ?_|refine sC (fun _=>?_) (fun _=>?_)|fail)
  refine zA (fun k:Nat=>[(6,.own 0),(25,.pv (.slc 1 [tys a,tys b,tys c] true)),(26,.pv (pi 3)),(27,.pv (pi k))]) (fun k=>[(0,.row 44 4 ((zct a b c k).map yA))]) (fun k=>k≤3) (fun k=>3 - k) 0 (by omega) (tS) tH ?_
  intro k hk
  have hk3:k=0∨k=1∨k=2∨k=3:=by omega
  rcases hk3 with rfl|rfl|rfl|rfl
  ·repeat' (first|refine zq rfl (zgD zh rfl (by first|omega|(simp [Yt] <;> omega)) (by first|omega|(simp [Yt] <;> omega))) rfl rfl ?_|(refine shX ?_;first|refine zq rfl (zn zh rfl rfl rfl rfl rfl rfl (by decide) rfl) rfl rfl ?_|refine AD.step _ _ _ _ _ rfl (zn zh rfl rfl rfl rfl rfl rfl (by decide) rfl) rfl rfl ?_)|(refine zI ?_;first|refine yg zh rfl rfl rfl rfl rfl rfl rfl (by show _ * 32≤_;simp [zct];omega) (by simp [zct];omega) rfl rfl ?_)|refine sK ?_|refine sC (fun _=>?_) (fun _=>?_)|fail)
   exact ⟨1,by omega,tD,by repeat (first|exact yj|refine zY rfl ?_|(refine qL rfl ?_ ?_;· omega)),⟨zi rfl zk,rfl⟩⟩
  ·repeat' (first|refine zq rfl (zgD zh rfl (by first|omega|(simp [Yt] <;> omega)) (by first|omega|(simp [Yt] <;> omega))) rfl rfl ?_|(refine shX ?_;first|refine zq rfl (zn zh rfl rfl rfl rfl rfl rfl (by decide) rfl) rfl rfl ?_|refine AD.step _ _ _ _ _ rfl (zn zh rfl rfl rfl rfl rfl rfl (by decide) rfl) rfl rfl ?_)|(refine zI ?_;first|refine yg zh rfl rfl rfl rfl rfl rfl rfl (by show _ * 32≤_;simp [zct];omega) (by simp [zct];omega) rfl rfl ?_)|refine sK ?_|refine sC (fun _=>?_) (fun _=>?_)|fail)
   exact ⟨2,by omega,tD,by repeat (first|exact yj|refine zY rfl ?_|(refine qL rfl ?_ ?_;· omega)),⟨zi (by show some (HE.row 44 4 (_++_))=_;simp [zct]) zk,rfl⟩⟩
  ·repeat' (first|refine zq rfl (zgD zh rfl (by first|omega|(simp [Yt] <;> omega)) (by first|omega|(simp [Yt] <;> omega))) rfl rfl ?_|(refine shX ?_;first|refine zq rfl (zn zh rfl rfl rfl rfl rfl rfl (by decide) rfl) rfl rfl ?_|refine AD.step _ _ _ _ _ rfl (zn zh rfl rfl rfl rfl rfl rfl (by decide) rfl) rfl rfl ?_)|(refine zI ?_;first|refine yg zh rfl rfl rfl rfl rfl rfl rfl (by show _ * 32≤_;simp [zct];omega) (by simp [zct];omega) rfl rfl ?_)|refine sK ?_|refine sC (fun _=>?_) (fun _=>?_)|fail)
   exact ⟨3,by omega,tD,by repeat (first|exact yj|refine zY rfl ?_|(refine qL rfl ?_ ?_;· omega)),⟨zi (by show some (HE.row 44 4 (_++_))=_;simp [zct]) zk,rfl⟩⟩
  ·repeat' (first|refine sK ?_|refine sC (fun _=>?_) (fun _=>?_)|fail)
   exact ⟨.inr rfl,0,rfl,rfl⟩
theorem zgM {α β:Type} {l:List α} {p:α→Bool} {f:α→β} {k:Nat} (h:k < l.length):(((l.take (k + 1)).filter p).map f)=((l.take k).filter p).map f++(if p l[k] then [f l[k]] else []):=by
 rw [List.take_succ_eq_append_getElem h,List.filter_append,List.map_append]
 cases hp:p l[k] <;> simp [hp]
theorem zn6 {g:Img} {m:Me} (h:MeOk g m):(g.types.map qx)[m.owner.toNat]?=some (qx (g.types.getD m.owner.toNat default)):=by
 rw [zV h.o1];exact Zw h.o1
theorem zjE {g:Img} (hf:zK g=true) {t:Int} (h0:0≤t) (h1:t.toNat < g.types.length):0≤(g.types.getD t.toNat default).flags∧(g.types.getD t.toNat default).flags≤31:=by
 have:typeAt g t=some (g.types.getD t.toNat default):=by
  rw [typeAt,if_pos h0,zV h1];exact List.getElem?_eq_getElem h1
 have:=XF hf this
 exact ⟨this.1,this.2.1⟩
set_option maxHeartbeats 4000000 in
theorem ziL (g:Img) (hf:zK g=true) (m:Me) (h:MeOk g m):ACall Tryz.prog 129 [zu g,zM m] (pb (zhV g m)):=by
 obtain ⟨h1,h2,h4,h8,h16⟩:=zpW h
 have ck:=qw g hf m.owner
 have hk:=h.kind
 have hgm:g.methods.length≤64:=(zG hf).2.2.1
 have cm:=ZR g m.owner (by omega)
 have hml:=Yu g m.owner
 have hto:=zn6 h
 have hfl:=zjE hf h.o0 h.o1
 have hfe:yY (g.types.getD m.owner.toNat default).flags 4=yE (g.types.getD m.owner.toNat default).flags 4:=(Vk hfl.1 hfl.2).2.2.1
 have hms:(((((methodsOf g m.owner).map pi).length:Nat):Int)==1)=((methodsOf g m.owner).length==1):=by
  rw [List.length_map,Bool.eq_iff_iff];simp only [beq_iff_eq];omega
 refine zf zh Tryz.func129 rfl (by kernel_rfl) Tryz.ntmps129 (by simp) _ rfl (fun hw gB hgB=>?_)
 rw [zhV]
 generalize yE m.flags 4=b4 at h4 ⊢
 rw [←hfe,yY]
 rcases hk with hk|hk|hk|hk <;> rw [hk] at ck ⊢ <;> clear hk
 all_goals repeat' (first|(refine shC ?_;first|refine qC ck ?_|refine qC h4 ?_|refine qC cm ?_)|(refine shX ?_;first|refine zq rfl (zn zh rfl rfl rfl rfl rfl rfl h.o0 hto) rfl rfl ?_|refine AD.step _ _ _ _ _ rfl (zn zh rfl rfl rfl rfl rfl rfl h.o0 hto) rfl rfl ?_)|refine sA ?_|refine sC (fun _=>?_) (fun _=>?_)|fail)
 all_goals (refine retq rfl ?_;first|(simp_all [zl,zir];done)|(simp_all [zl,zir];omega))
theorem zms {g:Img} {m:Me} (h:MeOk g m) {x:Ins} (hx:x∈m.code):1≤x.op∧x.op≤75:=by
 have:=h.formed
 simp only [ZY,zck,Bool.and_eq_true,List.all_eq_true,codeOk] at this
 have:=(this.2.1.1.2 x hx).1
 exact zmW (by simpa using this)
def isT (x:Ins):Bool:=yC x.op==8
def isC (c:Cl):Bool:=c.kind==1
def zgp (m:Me):List Ty:=m.params++m.locals++[m.ret]
theorem zmc (m:Me):zaR m=zgp m++(m.code.filter isT).map (·.t)++(m.clauses.filter isC).map (·.t):=rfl
set_option maxHeartbeats 4000000 in
theorem zit (g:Img) (hf:zK g=true) (m:Me) (h:MeOk g m):ACall Tryz.prog 130 [zu g,zM m] (pb (zfu g m)):=by
 obtain ⟨s1,s2,s3,s4,s5,s6⟩:=h.small
 have hc3:=zhg m.params m.locals [m.ret] (by omega) (by omega) (by simp)
 have ht:PTells (.slc 4 [yA m.ret] true) (tys [m.ret]):=zbt (QU (zy (.refl _) (zy (.refl _) (zy (.refl _) (zy (.refl _) Qz)))) VA)
 have hh:(zgp m).length≤19:=by simp [zgp];omega
 have cu:=Yq (zaR m) (fun t=>!zfY g t) 251 [] [.ptr (zu g) 0] (fun t _=>ziX g hf t)
 rw [←List.not_all_eq_any_not,znA h.formed] at cu
 refine zf zh Tryz.func130 rfl (by kernel_rfl) Tryz.ntmps130 (by simp) _ rfl (fun hw gB hgB=>?_)
 repeat' (first|refine QB 18 ht rfl ?_|(refine zQ ?_;first|refine zcf 5 rfl rfl rfl hc3 (by decide) rfl rfl rfl ?_)|refine sK ?_|refine sC (fun _=>?_) (fun _=>?_)|fail)
 refine zA (fun k:Nat=>[(2,.pv (.ptr (zu g) 0)),(3,.pv (.ptr (zM m) 0)),(5,.own 5),(22,.pv (.slc 6 (m.code.map yT) false)),(23,.pv (pi m.code.length)),(24,.pv (pi k))])
  (fun k=>[(5,.row 44 4 ((zgp m++((m.code.take k).filter isT).map (·.t)).map yA))]) (fun k=>k≤m.code.length) (fun k=>m.code.length - k) 0 (by omega)
  (by repeat (first|exact yj|refine zY rfl ?_|(refine qL rfl ?_ ?_;· simp))) ⟨yS rfl (by simp [zgp]) zk,rfl⟩ ?_
 rintro k hk
 by_cases hlt:k < m.code.length
 ·have he:=yI (f:=yT) hlt
  obtain ⟨o1,o2⟩:=zms h (List.getElem_mem hlt)
  have co:=zen m.code[k].op o1 o2
  rw [(zg2 _ o1 o2).2] at co
  have hsl:((m.code.take k).filter isT).length≤160:=by
   have:=List.length_filter_le isT (m.code.take k)
   rw [List.length_take] at this;omega
  have hn:=zgM (p:=isT) (f:=(·.t)) hlt
  cases hop:yC m.code[k].op==8
  ·rw [show isT m.code[k]=false from hop,if_neg (by simp),List.append_nil] at hn
   repeat' (first|(refine shC ?_;first|refine qC co ?_)|(refine shX ?_;first|refine qX he ?_)|refine sK ?_|refine sC (fun _=>?_) (fun _=>?_)|fail)
   exact ⟨k + 1,hlt,tD,tS,⟨yS rfl (by rw [hn]) zk,rfl⟩⟩
  ·rw [show isT m.code[k]=true from hop,if_pos rfl] at hn
   repeat' (first|(refine shC ?_;first|refine qC co ?_)|(refine shX ?_;first|refine qX he ?_)|(refine zI ?_;first|refine yg zh rfl rfl rfl rfl rfl rfl rfl (by show _ * 32≤_;simp only [List.length_map,List.length_append,List.length_cons,List.length_nil];omega) (by simp only [List.length_map,List.length_append,List.length_cons,List.length_nil];omega) rfl rfl ?_)|refine sK ?_|refine sC (fun _=>?_) (fun _=>?_)|fail)
   exact ⟨k + 1,hlt,tD,tS,⟨yS rfl (by rw [hn];simp;rfl) zk,rfl⟩⟩
 ·have hk2:k=m.code.length:=by omega
  subst hk2
  have hsl:(m.code.filter isT).length≤160:=by
   have:=List.length_filter_le isT m.code
   omega
  rw [List.take_length]
  repeat' (first|refine sK ?_|refine sC (fun _=>?_) (fun _=>?_)|fail)
  refine zA (fun k:Nat=>[(2,.pv (.ptr (zu g) 0)),(5,.own 5),(44,.pv (.slc 10 (m.clauses.map Yr) false)),(45,.pv (pi m.clauses.length)),(46,.pv (pi k))])
   (fun k=>[(5,.row 44 4 ((zgp m++(m.code.filter isT).map (·.t)++((m.clauses.take k).filter isC).map (·.t)).map yA))]) (fun k=>k≤m.clauses.length) (fun k=>m.clauses.length - k) 0 (by omega)
   (by repeat (first|exact yj|refine zY rfl ?_|(refine qL rfl ?_ ?_;· simp))) ⟨yS rfl (by simp) zk,rfl⟩ ?_
  clear hk hlt
  rintro k hk
  by_cases hlt:k < m.clauses.length
  ·have he:=yI (f:=Yr) hlt
   have hsl2:((m.clauses.take k).filter isC).length≤6:=by
    have:=List.length_filter_le isC (m.clauses.take k)
    rw [List.length_take] at this;omega
   have hn:=zgM (p:=isC) (f:=(·.t)) hlt
   cases hop:m.clauses[k].kind==1
   ·rw [show isC m.clauses[k]=false from hop,if_neg (by simp),List.append_nil] at hn
    repeat' (first|(refine shX ?_;first|refine qX he ?_)|refine sK ?_|refine sC (fun _=>?_) (fun _=>?_)|fail)
    exact ⟨k + 1,hlt,tD,tS,⟨yS rfl (by rw [hn]) zk,rfl⟩⟩
   ·rw [show isC m.clauses[k]=true from hop,if_pos rfl] at hn
    repeat' (first|(refine shX ?_;first|refine qX he ?_)|(refine zI ?_;first|refine yg zh rfl rfl rfl rfl rfl rfl rfl (by show _ * 32≤_;simp only [List.length_map,List.length_append,List.length_cons,List.length_nil];omega) (by simp only [List.length_map,List.length_append,List.length_cons,List.length_nil];omega) rfl rfl ?_)|refine sK ?_|refine sC (fun _=>?_) (fun _=>?_)|fail)
    exact ⟨k + 1,hlt,tD,tS,⟨yS rfl (by rw [hn];simp;rfl) zk,rfl⟩⟩
  ·have hk2:k=m.clauses.length:=by omega
   subst hk2
   rw [List.take_length,←zmc]
   repeat' (first|(refine shC ?_;first|refine qC cu ?_)|refine sK ?_|refine sC (fun _=>?_) (fun _=>?_)|fail)
   exact retq rfl (by simp [zl])
set_option maxHeartbeats 20000000
def WC (g:Img) (m:Int):Bool:=decide (m < 0)||yE (mAt g m).flags 4
def VL (g:Img) (t:Int) (what:Int→Int) (fs:List Int):Bool:=!(tbl g t).any (WC g)&&!fs.any fun f=>(methodsOf g f).any fun m=>WC g (what m)
def okI (g:Img) (m:Int):Prop:=m < 0∨mOk g m
theorem zdW (g:Img) (hF:Fine g) (m:Int) (hm:okI g m):ACall Tryz.prog 253 ([]++[pi m]++[.ptr (zu g) 0]) (pb (WC g m)):=by
 show ACall Tryz.prog 253 [pi m,.ptr (zu g) 0] (pb (WC g m))
 refine zf zh Tryz.func253 rfl (by kernel_rfl) Tryz.ntmps253 (by simp) _ rfl (fun hw gB hgB=>?_)
 by_cases h0:m < 0
 ·repeat' (first|refine sK ?_|refine sC (fun _=>?_) (fun _=>?_)|fail)
  exact retq rfl (by rw [WC,decide_eq_true h0];rfl)
 ·have hm2:mOk g m:=hm.resolve_left h0
  have hem:=YR hm2
  have h:=XB hF.formed hm2
  have c:=YB (mAt g m) 4
  rw [(Vk h.1 h.2).2.2.1] at c
  have hd:decide (m < 0)=false:=decide_eq_false h0
  repeat' (first|(refine shC ?_;first|refine qC c ?_)|(refine shX ?_;first|refine zq rfl (zn zh rfl rfl rfl rfl rfl rfl hm2.1 hem) rfl rfl ?_|refine AD.step _ _ _ _ _ rfl (zn zh rfl rfl rfl rfl rfl rfl hm2.1 hem) rfl rfl ?_)|refine sK ?_|refine sC (fun _=>?_) (fun _=>?_)|fail)
  exact retq rfl (by rw [WC,hd];rfl)
theorem zoE {g:Img} (hW:Wl g) {t m:Int} (hm:mOk g m) (hb:zB g (zaa g m)=0→zaa g m∈up g t):mOk g (zbY g t m):=by
 rw [zbY]
 split
 ·exact hm
 ·rename_i h
  have:=zlv hW hb h
  rw [zV this]
  exact zlz (List.getElem_mem this)
theorem znj {g:Img} (hW:Wl g) {t m:Int} (hk:zB g t=0):okI g (XI g t m):=by
 rw [XI]
 cases h:zlj g t m with
 | none=>exact .inl (by show (-1:Int) < 0;omega)
 | some k =>
  have:=List.mem_of_find?_eq_some h
  obtain ⟨u,hu,hku⟩:=List.mem_flatMap.1 this
  obtain ⟨q1,q2,q3⟩:=up0 hW hk hu hku
  exact .inr (zoE hW q1 q3)
theorem zmt {g:Img} (hF:Fm g) (t:Int):(ZA g t).length≤g.types.length:=by
 have:=(zeu hF t).2.len
 rw [ZA,sortL]
 simpa using this
theorem ziJ (g:Img) (hF:Fine g) (t:Int) (hk:zB g t=0):ACall Tryz.prog 131 [zu g,pi t] (pb (VL g t (XI g t) (ZA g t))):=by
 have hW:=zea hF.well
 obtain ⟨hgt,_,hgm,_⟩:=zG hF.formed
 have c1:=zfC g hF t
 have c2:=YG (tbl g t) (WC g) 253 [] [.ptr (zu g) 0] (fun x hx=>zdW g hF x (.inr (zlz hx)))
 have c3:=zi1 g t (zfP hF.formed)
 have hfpl:=zmt (zfP hF.formed) t
 refine zf zh Tryz.func131 rfl (by kernel_rfl) Tryz.ntmps131 (by simp) _ rfl (fun hw gB hgB=>?_)
 rw [VL]
 cases ho:(tbl g t).any (WC g)
 ·rw [ho] at c2
  repeat' (first|(refine shC ?_;first|refine qC c1 ?_|refine qC c2 ?_|refine qC c3 ?_)|refine sK ?_|refine sC (fun _=>?_) (fun _=>?_)|fail)
  refine zA (fun i:Nat=>[(1,.pv (pi t)),(2,.pv (.ptr (zu g) 0)),(5,.pv (.fn (.func 253) [] [.ptr (zu g) 0])),(18,.pv (ints (ZA g t))),(19,.pv (pi (ZA g t).length)),(20,.pv (pi i))]) (fun _=>[])
   (fun i=>i≤(ZA g t).length∧((ZA g t).any fun f=>(methodsOf g f).any fun m=>WC g (XI g t m))=((ZA g t).drop i).any fun f=>(methodsOf g f).any fun m=>WC g (XI g t m)) (fun i=>(ZA g t).length - i) 0 ⟨by omega,rfl⟩
   (by repeat (first|exact yj|refine zY rfl ?_|(refine qL rfl ?_ ?_;· simp))) tH ?_
  rintro i ⟨hi,hr⟩
  by_cases hlt:i < (ZA g t).length
  ·obtain ⟨f,hf⟩:∃ f,f=(ZA g t)[i]:=⟨_,rfl⟩
   have hef:((ZA g t).map pi)[i]?=some (pi f):=by rw [hf];exact yI (f:=pi) hlt
   have cm:=ZR g f (by omega)
   have hml:=Yu g f
   rw [zeR hlt,←hf] at hr
   repeat' (first|(refine shC ?_;first|refine qC cm ?_)|(refine shX ?_;first|refine qX hef ?_)|refine sK ?_|refine sC (fun _=>?_) (fun _=>?_)|fail)
   refine zA (fun j:Nat=>[(1,.pv (pi t)),(2,.pv (.ptr (zu g) 0)),(5,.pv (.fn (.func 253) [] [.ptr (zu g) 0])),(18,.pv (ints (ZA g t))),(19,.pv (pi (ZA g t).length)),(20,.pv (pi i)),(26,.pv (ints (methodsOf g f))),(27,.pv (pi (methodsOf g f).length)),(28,.pv (pi j))]) (fun _=>[])
    (fun j=>j≤(methodsOf g f).length∧((ZA g t).any fun f=>(methodsOf g f).any fun m=>WC g (XI g t m))=((((methodsOf g f).drop j).any fun m=>WC g (XI g t m))||((ZA g t).drop (i + 1)).any fun f=>(methodsOf g f).any fun m=>WC g (XI g t m))) (fun j=>(methodsOf g f).length - j) 0 ⟨by omega,hr⟩
    (by repeat (first|exact yj|refine zY rfl ?_|(refine qL rfl ?_ ?_;· simp))) tH ?_
   clear hr
   rintro j ⟨hj,hr⟩
   by_cases hjl:j < (methodsOf g f).length
   ·obtain ⟨m,hm⟩:∃ m,m=(methodsOf g f)[j]:=⟨_,rfl⟩
    have hem:((methodsOf g f).map pi)[j]?=some (pi m):=by rw [hm];exact yI (f:=pi) hjl
    have hmk:mOk g m:=by rw [hm];exact yQ (List.getElem_mem hjl)
    have cf:=zmR g hF t m hmk hk
    have cv:=zdW g hF (XI g t m) (znj hW hk)
    rw [zeR hjl,←hm] at hr
    cases hop:WC g (XI g t m)
    ·rw [hop] at cv hr
     repeat' (first|(refine shC ?_;first|refine qC cf ?_|refine qV (cv) ?_)|(refine shX ?_;first|refine qX hem ?_)|refine sK ?_|refine sC (fun _=>?_) (fun _=>?_)|fail)
     exact ⟨j + 1,⟨hjl,hr⟩,tD,tS,tH⟩
    ·rw [hop] at cv hr
     repeat' (first|(refine shC ?_;first|refine qC cf ?_|refine qV (cv) ?_)|(refine shX ?_;first|refine qX hem ?_)|refine sK ?_|refine sC (fun _=>?_) (fun _=>?_)|fail)
     exact retq rfl (by rw [hr];rfl)
   ·rw [drop_end (by omega)] at hr
    repeat' (first|refine sK ?_|refine sC (fun _=>?_) (fun _=>?_)|fail)
    exact ⟨i + 1,⟨hlt,hr⟩,tD,tS,tH⟩
  ·rw [drop_end (by omega)] at hr
   repeat' (first|refine sK ?_|refine sC (fun _=>?_) (fun _=>?_)|fail)
   exact retq rfl (by rw [hr];rfl)
 ·rw [ho] at c2
  repeat' (first|(refine shC ?_;first|refine qC c1 ?_|refine qC c2 ?_)|refine sK ?_|refine sC (fun _=>?_) (fun _=>?_)|fail)
  exact retq rfl rfl
def zoX (t:Ty):Bool:=decide (t=⟨1,0,0,false⟩)||decide (t=⟨2,0,0,false⟩)||decide (t=⟨3,0,0,false⟩)
def zpl (m:Me):Bool:=yE m.flags 1&&!yE m.flags 4&&m.params.length==0&&zoX m.ret
theorem zqz {t:Ty} (hp:Zf t=true) (hr:t.ref=false):zoX t=(t.dims==0&&decide (1≤t.kind)&&decide (t.kind≤3)):=by
 obtain ⟨k,i,d,r⟩:=t
 simp only at hr
 subst hr
 rw [Bool.eq_iff_iff]
 simp only [zoX,Ty.mk.injEq,Bool.or_eq_true,decide_eq_true_eq,Bool.and_eq_true,beq_iff_eq,and_true]
 constructor
 ·omega
 ·rintro ⟨⟨h1,h2⟩,h3⟩
  have hk:k=1∨k=2∨k=3:=by omega
  rcases hk with rfl|rfl|rfl <;> simp_all [Zf]
set_option maxHeartbeats 1000000 in
theorem zh3 (g:Img) (m:Me) (h:MeOk g m):ACall Tryz.prog 133 [zM m] (pb (zpl m)):=by
 obtain ⟨h1,_,h4,_,_⟩:=zpW h
 have e1:=XZ m.ret ⟨1,0,0,false⟩
 have e2:=XZ m.ret ⟨2,0,0,false⟩
 have e3:=XZ m.ret ⟨3,0,0,false⟩
 have hl:((((m.params.map yA).length:Nat):Int)==0)=(m.params.length==0):=by
  rw [List.length_map,Bool.eq_iff_iff];simp only [beq_iff_eq];omega
 refine zf zh Tryz.func133 rfl (by kernel_rfl) Tryz.ntmps133 (by simp) _ rfl (fun hw gB hgB=>?_)
 rw [zpl,zoX,←e1,←e2,←e3]
 generalize yE m.flags 1=b1 at h1 ⊢
 generalize yE m.flags 4=b4 at h4 ⊢
 clear e1 e2 e3
 repeat' (first|(refine shC ?_;first|refine qC h1 ?_|refine qC h4 ?_)|refine sA ?_|refine sC (fun _=>?_) (fun _=>?_)|fail)
 all_goals (refine retq rfl ?_;first|(simp_all [zl];done)|(simp_all [zl];intro hh;rcases hh with ⟨a1,a2,a3,a4⟩|⟨a1,a2,a3,a4⟩ <;> simp_all))
abbrev zdh:=(Int × Int) × Int
def zkm (r:zdh):PV:=.tup [.agg [pi r.1.1,pi r.1.2],pi r.2]
def stE (g:Img):zdh:=if decide (0≤g.entry)&&!zpl (mAt g g.entry) then ((1,g.entry),11) else ((0,0),0)
def zqm (g:Img) (t:Int):Bool:=zB g t==3&&(methodsOf g t).length==0
def zqh (g:Img) (W:Int→Bool) (t:Int):Bool:=zB g t==0&&!yE (g.types.getD t.toNat default).flags 4&&!W t
def stD (g:Img):List Nat→zdh
 | []=>stE g
 | t::ts=>if zqm g (t:Int) then ((0,(t:Int)),8) else stD g ts
def stC (g:Img) (W:Int→Bool):List Nat→zdh
 | []=>stD g (List.range g.types.length)
 | t::ts=>if zqh g W (t:Int) then ((0,(t:Int)),18) else stC g W ts
def stM (g:Img):List Nat→zdh
 | []=>stC g (fun t=>VL g t (zjh g t) (VP g t)) (List.range g.types.length)
 | i::is=>if ziU g (mAt g (i:Int)) then (if zfu g (mAt g (i:Int)) then stM g is else ((1,(i:Int)),10)) else ((1,(i:Int)),8)
def ZL (g:Img):zdh:=if YM g then stM g (List.range g.methods.length) else ((0,0),17)
theorem zbW {n k:Nat} (h:k < n):(List.range n).drop k=k::(List.range n).drop (k + 1):=by
 rw [List.drop_eq_getElem_cons (by simpa using h)];simp
theorem zda (n:Nat):(List.range n).drop n=[]:=List.drop_eq_nil_of_le (by simp)
theorem zbl {l l':List Int} {p q:Int→Bool} (h:∀ x,x∈l↔x∈l') (hp:∀ x∈l,p x=q x):l.any p=l'.any q:=by
 rw [Bool.eq_iff_iff,List.any_eq_true,List.any_eq_true]
 constructor
 ·rintro ⟨x,hx,hpx⟩;exact ⟨x,(h x).1 hx,by rw [←hp x hx];exact hpx⟩
 ·rintro ⟨x,hx,hpx⟩;exact ⟨x,(h x).2 hx,by rw [hp x ((h x).2 hx)];exact hpx⟩
theorem zme {k:Int} {b1 b2 b4 b8 b16 rv f16 em nc m1 ab:Bool} (h:zcS k b1 b2 b4 b8 b16 rv f16 em nc m1 ab=true) (hk:k=2):b2=true:=by
 subst hk
 cases b2
 ·cases b4
  ·simp [zcS] at h
  ·simp [zcS] at h
 ·rfl
theorem znc {g:Img} (hF:Fine g) (hm:∀ i,i < g.methods.length→ziU g (mAt g (i:Int))=true) (t:Int):VL g t (XI g t) (ZA g t)=VL g t (zjh g t) (VP g t):=by
 have hFm:=zfP hF.formed
 have hW:=zea hF.well
 rw [VL,VL]
 congr 2
 refine zbl (fun f=>by rw [zeC hFm,zeJ hFm]) fun f hf=>?_
 refine zbl (fun m=>Iff.rfl) fun m hmm=>?_
 have hk:zB g (zaa g m)=2:=by rw [WT hmm];exact hW.rf_kind ((zeC hFm).1 hf)
 have hmo:=yQ hmm
 have h1:=hm m.toNat hmo.2
 rw [Int.toNat_of_nonneg hmo.1] at h1
 have hv:zc0 g m=true:=zme h1 hk
 rw [zjh,hk,hv];rfl
theorem zos {g:Img} {k:Nat} (h:k < g.methods.length):mOk g (k:Int):=⟨by omega,by simpa using h⟩
theorem zpT {g:Img} {k:Nat} (h:k < g.methods.length):(g.methods.map zM)[((k:Int)).toNat]?=some (zM (mAt g (k:Int))):=YR (zos h)
theorem zp5 {g:Img} {k:Nat} (h:k < g.types.length):(g.types.map qx)[((k:Int)).toNat]?=some (qx (g.types.getD ((k:Int)).toNat default)):=by
 have h':((k:Int)).toNat < g.types.length:=by simpa using h
 rw [zV h'];exact Zw h'
theorem znZ {g:Img} (hf:zK g=true) (h:0≤g.entry):mOk g g.entry:=by
 simp only [zK,Bool.and_eq_true,decide_eq_true_eq] at hf
 exact ⟨h,by omega⟩
theorem zm0 {f:Int} (h0:0≤f) (h1:f≤31):(IntKind.i64.wrap ((BitVec.ofInt IntKind.i64.bits f &&& BitVec.ofInt IntKind.i64.bits 4).toNat:Int)==0)=!yE f 4:=by
 rw [←(Vk h0 h1).2.2.1,yY,bne,Bool.not_not]
theorem zmH {g:Img} (hf:zK g=true) {k:Nat} (h:k < g.types.length):0≤(g.types.getD ((k:Int)).toNat default).flags∧(g.types.getD ((k:Int)).toNat default).flags≤31:=zjE hf (by omega) (by simpa using h)
theorem zn4 {l:List Int}:((((l.map pi).length:Nat):Int)==0)=(l.length==0):=by
 rw [List.length_map,Bool.eq_iff_iff];simp only [beq_iff_eq];omega
set_option maxHeartbeats 4000000 in
theorem zdQ (g:Img) (hx:OkA g):ACall Tryz.prog 66 [zu g] (zkm (ZL g)):=by
 have c0:=zk3 g hx
 refine zf zh Tryz.func66 rfl (by kernel_rfl) Tryz.ntmps66 (by simp) _ rfl (fun hw gB hgB=>?_)
 cases hfi:YM g
 ·rw [hfi] at c0
  repeat' (first|(refine shC ?_;first|refine qC c0 ?_)|refine sK ?_|refine sC (fun _=>?_) (fun _=>?_)|fail)
  exact retq rfl (by rw [ZL,hfi];rfl)
 ·rw [hfi] at c0
  have hF:=zbh hfi
  obtain ⟨hgt,_,hgm,_⟩:=zG hF.formed
  have hr0:ZL g=stM g (List.range g.methods.length):=by rw [ZL,hfi];rfl
  repeat' (first|(refine shC ?_;first|refine qC c0 ?_)|refine sK ?_|refine sC (fun _=>?_) (fun _=>?_)|fail)
  refine zA (fun k:Nat=>[(1,.pv (.ptr (zu g) 0)),(2,.box 0 0),(14,.pv (.slc 12 (g.methods.map zM) false)),(15,.pv (pi g.methods.length)),(16,.pv (pi k))]) (fun _=>[(0,.cell (.pv (.agg [pi 0,pi 0])))])
   (fun k=>k≤g.methods.length∧ZL g=stM g ((List.range g.methods.length).drop k)∧∀ i,i < k→ziU g (mAt g (i:Int))=true) (fun k=>g.methods.length - k) 0 ⟨by omega,hr0,fun i h=>by omega⟩ (by repeat (first|exact yj|refine zY rfl ?_|(refine qL rfl ?_ ?_;· simp))) tH ?_
  rintro k ⟨hk,hr,hall⟩
  by_cases hlt:k < g.methods.length
  ·have he:=zpT hlt
   have hM:=zhX hF.formed (zos hlt)
   have cf:=zfQ g hF.formed _ hM
   have co:=ziL g hF.formed _ hM
   have ct:=zit g hF.formed _ hM
   have hfe:=zpv hM
   rw [zbW hlt,stM] at hr
   cases hf:zlG g (mAt g (k:Int))
   ·rw [hf] at cf hfe
    rw [←hfe] at hr
    repeat' (first|(refine shC ?_;first|refine qC cf ?_)|(refine shX ?_;first|refine qX he ?_)|refine sK ?_|refine sC (fun _=>?_) (fun _=>?_)|fail)
    exact retq rfl (by rw [hr];rfl)
   ·rw [hf] at cf hfe
    cases ho:zhV g (mAt g (k:Int))
    ·rw [ho] at co hfe
     rw [←hfe] at hr
     repeat' (first|(refine shC ?_;first|refine qC cf ?_|refine qC co ?_)|(refine shX ?_;first|refine qX he ?_)|refine sK ?_|refine sC (fun _=>?_) (fun _=>?_)|fail)
     exact retq rfl (by rw [hr];rfl)
    ·rw [ho] at co hfe
     have hfR:ziU g (mAt g (k:Int))=true:=hfe.symm
     rw [hfR,if_pos rfl] at hr
     cases ht:zfu g (mAt g (k:Int))
     ·rw [ht] at ct hr
      repeat' (first|(refine shC ?_;first|refine qC cf ?_|refine qC co ?_|refine qC ct ?_)|(refine shX ?_;first|refine qX he ?_)|refine sK ?_|refine sC (fun _=>?_) (fun _=>?_)|fail)
      exact retq rfl (by rw [hr];rfl)
     ·rw [ht] at ct hr
      repeat' (first|(refine shC ?_;first|refine qC cf ?_|refine qC co ?_|refine qC ct ?_)|(refine shX ?_;first|refine qX he ?_)|refine sK ?_|refine sC (fun _=>?_) (fun _=>?_)|fail)
      exact ⟨k + 1,⟨hlt,hr,fun i hi=>by
       by_cases e:i=k
       ·subst e;exact hfR
       ·exact hall i (by omega)⟩,tD,tS,tH⟩
  ·have hk2:k=g.methods.length:=by omega
   subst hk2
   rw [zda,stM] at hr
   have hwe:=fun t=>znc hF hall t
   clear hall
   repeat' (first|refine sK ?_|refine sC (fun _=>?_) (fun _=>?_)|fail)
   refine zA (fun k:Nat=>[(1,.pv (.ptr (zu g) 0)),(2,.box 0 0),(43,.pv (.slc 4 (g.types.map qx) false)),(44,.pv (pi g.types.length)),(45,.pv (pi k))]) (fun _=>[(0,.cell (.pv (.agg [pi 0,pi 0])))])
    (fun k=>k≤g.types.length∧ZL g=stC g (fun t=>VL g t (zjh g t) (VP g t)) ((List.range g.types.length).drop k)) (fun k=>g.types.length - k) 0 ⟨by omega,hr⟩ (by repeat (first|exact yj|refine zY rfl ?_|(refine qL rfl ?_ ?_;· simp))) tH ?_
   clear hr hk hlt
   rintro k ⟨hk,hr⟩
   by_cases hlt:k < g.types.length
   ·have he:=zp5 hlt
    have hfl:=zmH hF.formed hlt
    have hz:=zm0 hfl.1 hfl.2
    have ck:=qw g hF.formed (k:Int)
    rw [zbW hlt,stC,zqh] at hr
    by_cases hk0:zB g (k:Int)=0
    ·have cw:=ziJ g hF (k:Int) hk0
     rw [hwe] at cw
     rw [hk0] at ck hr
     cases hb:yE (g.types.getD ((k:Int)).toNat default).flags 4
     ·rw [hb] at hz hr
      cases hw2:VL g (k:Int) (zjh g (k:Int)) (VP g (k:Int))
      ·rw [hw2] at cw hr
       repeat' (first|(refine shC ?_;first|refine qC ck ?_|refine qC cw ?_)|(refine shX ?_;first|refine qX he ?_)|refine sK ?_|refine sC (fun _=>?_) (fun _=>?_)|fail)
       exact retq rfl (by rw [hr];rfl)
      ·rw [hw2] at cw hr
       repeat' (first|(refine shC ?_;first|refine qC ck ?_|refine qC cw ?_)|(refine shX ?_;first|refine qX he ?_)|refine sK ?_|refine sC (fun _=>?_) (fun _=>?_)|fail)
       exact ⟨k + 1,⟨hlt,hr⟩,tD,tS,tH⟩
     ·rw [hb] at hz hr
      repeat' (first|(refine shC ?_;first|refine qC ck ?_)|(refine shX ?_;first|refine qX he ?_)|refine sK ?_|refine sC (fun _=>?_) (fun _=>?_)|fail)
      exact ⟨k + 1,⟨hlt,hr⟩,tD,tS,tH⟩
    ·have hkb:(zB g (k:Int)==0)=false:=by simp [hk0]
     rw [hkb] at hr
     repeat' (first|(refine shC ?_;first|refine qC ck ?_)|(refine shX ?_;first|refine qX he ?_)|refine sK ?_|refine sC (fun _=>?_) (fun _=>?_)|fail)
     exact ⟨k + 1,⟨hlt,hr⟩,tD,tS,tH⟩
   ·have hk2:k=g.types.length:=by omega
    subst hk2
    rw [zda,stC] at hr
    repeat' (first|refine sK ?_|refine sC (fun _=>?_) (fun _=>?_)|fail)
    refine zA (fun k:Nat=>[(1,.pv (.ptr (zu g) 0)),(2,.box 0 0),(71,.pv (pi g.types.length)),(72,.pv (pi k))]) (fun _=>[(0,.cell (.pv (.agg [pi 0,pi 0])))])
     (fun k=>k≤g.types.length∧ZL g=stD g ((List.range g.types.length).drop k)) (fun k=>g.types.length - k) 0 ⟨by omega,hr⟩ (by repeat (first|exact yj|refine zY rfl ?_|(refine qL rfl ?_ ?_;· simp))) tH ?_
    clear hr hk hlt
    rintro k ⟨hk,hr⟩
    by_cases hlt:k < g.types.length
    ·have ck:=qw g hF.formed (k:Int)
     have cm:=ZR g (k:Int) (by omega)
     have hlz:=zn4 (l:=methodsOf g (k:Int))
     rw [zbW hlt,stD,zqm] at hr
     by_cases hk3:zB g (k:Int)=3
     ·rw [hk3] at ck hr
      cases hb:(methodsOf g (k:Int)).length==0
      ·rw [hb] at hlz hr
       repeat' (first|(refine shC ?_;first|refine qC ck ?_|refine qC cm ?_)|refine sK ?_|refine sC (fun _=>?_) (fun _=>?_)|fail)
       exact ⟨k + 1,⟨hlt,hr⟩,tD,tS,tH⟩
      ·rw [hb] at hlz hr
       repeat' (first|(refine shC ?_;first|refine qC ck ?_|refine qC cm ?_)|refine sK ?_|refine sC (fun _=>?_) (fun _=>?_)|fail)
       exact retq rfl (by rw [hr];rfl)
     ·have hkb:(zB g (k:Int)==3)=false:=by simp [hk3]
      rw [hkb] at hr
      repeat' (first|(refine shC ?_;first|refine qC ck ?_)|refine sK ?_|refine sC (fun _=>?_) (fun _=>?_)|fail)
      exact ⟨k + 1,⟨hlt,hr⟩,tD,tS,tH⟩
    ·have hk2:k=g.types.length:=by omega
     subst hk2
     rw [zda,stD,stE] at hr
     by_cases h0:0≤g.entry
     ·have hen:=znZ hF.formed h0
      have hem:=YR hen
      have cb:=zh3 g _ (zhX hF.formed hen)
      rw [decide_eq_true h0] at hr
      cases hb:zpl (mAt g g.entry)
      ·rw [hb] at cb hr
       repeat' (first|(refine shC ?_;first|refine qC cb ?_)|(refine shX ?_;first|refine zq rfl (zn zh rfl rfl rfl rfl rfl rfl h0 hem) rfl rfl ?_|refine AD.step _ _ _ _ _ rfl (zn zh rfl rfl rfl rfl rfl rfl h0 hem) rfl rfl ?_)|refine sK ?_|refine sC (fun _=>?_) (fun _=>?_)|fail)
       exact retq rfl (by rw [hr];rfl)
      ·rw [hb] at cb hr
       repeat' (first|(refine shC ?_;first|refine qC cb ?_)|(refine shX ?_;first|refine zq rfl (zn zh rfl rfl rfl rfl rfl rfl h0 hem) rfl rfl ?_|refine AD.step _ _ _ _ _ rfl (zn zh rfl rfl rfl rfl rfl rfl h0 hem) rfl rfl ?_)|refine sK ?_|refine sC (fun _=>?_) (fun _=>?_)|fail)
       exact retq rfl (by rw [hr];rfl)
     ·rw [decide_eq_false h0] at hr
      repeat' (first|refine sK ?_|refine sC (fun _=>?_) (fun _=>?_)|fail)
      exact retq rfl (by rw [hr];rfl)
end Go.Cg
