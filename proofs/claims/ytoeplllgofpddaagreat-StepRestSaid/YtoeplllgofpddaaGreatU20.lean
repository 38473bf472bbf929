/- A part of the walks by abstract values: no statement of its own. -/
import Derived.Test.YtoeplllgofpddaaGreatU19
import Derived.Test.YtoeplllgofpddaaGreatU7
import Derived.Test.YtoeplllgofpddaaGreatU8
set_option linter.unusedVariables false
set_option linter.unusedSimpArgs false
namespace Go.Cg
open Go.Proofs
set_option maxHeartbeats 20000000
theorem zfy (g:Img) (hF:Fine g) (t m:Int) (hm:mOk g m) (hn:(zN g (QN g m)==2&&VD g m)=false) (hb:zN g (QN g m)=0→QN g m∈up g t):ACall Tryz.prog 159 [zH g,pi t,pi m] (pi (zar g t m)):=by
 have hW:=Vu hF.well
 have hem:=ZF hm
 have c1:=qZ g (mAt g m).owner
 have c2:=VJ (mAt g m)
 rw [show yM (mAt g m).flags 2=VD g m from rfl] at c2
 have c3:=zmu g hF m hm
 have c4:=zdE g hF _ t (Nat.le_refl _)
 have hsi:=zkd hW hb
 rw [QN] at hn
 refine zh zf Tryz.func159 rfl (by kernel_rfl) Tryz.ntmps159 (by simp) _ rfl (fun hw gB hgB=>?_)
 by_cases hk:zN g (mAt g m).owner=2
 ·rw [hk] at c1 hn
  have hv:VD g m=false:=by simpa using hn
  rw [hv] at c2
  by_cases hs:Yr g m < 0
  ·repeat' (first|refine zO 0 5 6 0 4 zf (by kernel_rfl) (by kernel_rfl) rfl rfl rfl rfl rfl rfl rfl rfl rfl rfl rfl rfl rfl rfl rfl rfl rfl rfl rfl rfl rfl rfl ?_|refine yh rfl rfl ?_|refine ⟨_,_,rfl,rfl,?_⟩|(refine shC ?_;first|refine qC c1 ?_|refine qC c2 ?_|refine qC c3 ?_)|(refine shX ?_;first|refine zB rfl (zl zf rfl rfl rfl rfl rfl rfl hm.1 hem) rfl rfl ?_|refine AD.step _ _ _ _ _ rfl (zl zf rfl rfl rfl rfl rfl rfl hm.1 hem) rfl rfl ?_)|refine sK ?_|refine sC (fun _=>?_) (fun _=>?_)|fail)
   exact retq rfl (by simp [zk,zar,hs])
  ·have he:((tbl g t).map pi)[(Yr g m).toNat]?=some (pi ((tbl g t).getD (Yr g m).toNat 0)):=by rw [zL (hsi hs)];exact qW (hsi hs)
   have hd:decide (Yr g m < 0)=false:=decide_eq_false hs
   repeat' (first|refine zO 0 5 6 0 4 zf (by kernel_rfl) (by kernel_rfl) rfl rfl rfl rfl rfl rfl rfl rfl rfl rfl rfl rfl rfl rfl rfl rfl rfl rfl rfl rfl rfl rfl ?_|refine yh rfl rfl ?_|refine ⟨_,_,rfl,rfl,?_⟩|(refine shC ?_;first|refine qC c1 ?_|refine qC c2 ?_|refine qC c3 ?_|refine qC c4 ?_)|(refine shX ?_;first|refine zB rfl (zl zf rfl rfl rfl rfl rfl rfl hm.1 hem) rfl rfl ?_|refine AD.step _ _ _ _ _ rfl (zl zf rfl rfl rfl rfl rfl rfl hm.1 hem) rfl rfl ?_|refine qX he ?_)|refine sK ?_|refine sC (fun _=>?_) (fun _=>?_)|fail)
   exact retq rfl (by rw [zar,if_neg hs];rfl)
 ·have hkb:(zN g (mAt g m).owner==2)=false:=by simp [hk]
  by_cases hs:Yr g m < 0
  ·repeat' (first|refine zO 0 5 6 0 4 zf (by kernel_rfl) (by kernel_rfl) rfl rfl rfl rfl rfl rfl rfl rfl rfl rfl rfl rfl rfl rfl rfl rfl rfl rfl rfl rfl rfl rfl ?_|refine yh rfl rfl ?_|refine ⟨_,_,rfl,rfl,?_⟩|(refine shC ?_;first|refine qC c1 ?_|refine qC c2 ?_|refine qC c3 ?_)|(refine shX ?_;first|refine zB rfl (zl zf rfl rfl rfl rfl rfl rfl hm.1 hem) rfl rfl ?_|refine AD.step _ _ _ _ _ rfl (zl zf rfl rfl rfl rfl rfl rfl hm.1 hem) rfl rfl ?_)|refine sK ?_|refine sC (fun _=>?_) (fun _=>?_)|fail)
   exact retq rfl (by simp [zk,zar,hs])
  ·have he:((tbl g t).map pi)[(Yr g m).toNat]?=some (pi ((tbl g t).getD (Yr g m).toNat 0)):=by rw [zL (hsi hs)];exact qW (hsi hs)
   have hd:decide (Yr g m < 0)=false:=decide_eq_false hs
   repeat' (first|refine zO 0 5 6 0 4 zf (by kernel_rfl) (by kernel_rfl) rfl rfl rfl rfl rfl rfl rfl rfl rfl rfl rfl rfl rfl rfl rfl rfl rfl rfl rfl rfl rfl rfl ?_|refine yh rfl rfl ?_|refine ⟨_,_,rfl,rfl,?_⟩|(refine shC ?_;first|refine qC c1 ?_|refine qC c2 ?_|refine qC c3 ?_|refine qC c4 ?_)|(refine shX ?_;first|refine zB rfl (zl zf rfl rfl rfl rfl rfl rfl hm.1 hem) rfl rfl ?_|refine AD.step _ _ _ _ _ rfl (zl zf rfl rfl rfl rfl rfl rfl hm.1 hem) rfl rfl ?_|refine qX he ?_)|refine sK ?_|refine sC (fun _=>?_) (fun _=>?_)|fail)
   exact retq rfl (by rw [zar,if_neg hs];rfl)
theorem zmC (g:Img) (hF:Fine g) (t m:Int) (hm:mOk g m) (hk:zN g t=0) (hb:zN g (QN g m)=0→QN g m∈up g t):ACall Tryz.prog 159 [zH g,pi t,pi m] (pi (QX g t m)):=by
 cases hc:(zN g (QN g m)==2&&VD g m)
 ·rw [show QX g t m=zar g t m by rw [QX,hc];rfl]
  exact zfy g hF t m hm hc hb
 ·have hW:=Vu hF.well
  obtain ⟨hgt,_,hgm,_⟩:=zW hF.formed
  have hui:=XY g t
  have hul:=Zu _ _ hui.1 hui.2
  have hem:=ZF hm
  have c1:=qZ g (mAt g m).owner
  have c2:=VJ (mAt g m)
  rw [show yM (mAt g m).flags 2=VD g m from rfl] at c2
  rw [show QX g t m=XT g t m by rw [QX,hc];rfl]
  rw [Bool.and_eq_true,QN,beq_iff_eq] at hc
  rw [hc.1] at c1
  rw [hc.2] at c2
  refine zh zf Tryz.func159 rfl (by kernel_rfl) Tryz.ntmps159 (by simp) _ rfl (fun hw gB hgB=>?_)
  repeat' (first|refine zO 0 5 6 0 4 zf (by kernel_rfl) (by kernel_rfl) rfl rfl rfl rfl rfl rfl rfl rfl rfl rfl rfl rfl rfl rfl rfl rfl rfl rfl rfl rfl rfl rfl ?_|refine yh rfl rfl ?_|refine ⟨_,_,rfl,rfl,?_⟩|(refine shC ?_;first|refine qC c1 ?_|refine qC c2 ?_|refine zB rfl (zG rfl rfl (Xz g t (by omega))) rfl rfl ?_|refine AD.step _ _ _ _ _ rfl (zG rfl rfl (Xz g t (by omega))) rfl rfl ?_)|(refine shX ?_;first|refine zB rfl (zl zf rfl rfl rfl rfl rfl rfl hm.1 hem) rfl rfl ?_|refine AD.step _ _ _ _ _ rfl (zl zf rfl rfl rfl rfl rfl rfl hm.1 hem) rfl rfl ?_)|refine sK ?_|refine sC (fun _=>?_) (fun _=>?_)|fail)
  refine zJ (fun i:Nat=>[(1,.pv (pi t)),(3,.pv (.ptr (zH g) 0)),(7,.box 0 0),(8,.pv (ints (up g t))),(9,.pv (pi i))]) (fun _=>[(0,.cell (.pv (yL (mAt g m))))]) (fun i=>i≤(up g t).length∧ziP g t m=(((up g t).drop i).flatMap (methodsOf g)).find? (does g m)) (fun i=>(up g t).length - i) 0 ⟨by omega,rfl⟩ (tS) tH ?_
  rintro i ⟨hi,hr⟩
  by_cases hlt:i < (up g t).length
  ·obtain ⟨u,hu⟩:∃ u,u=(up g t)[i]:=⟨_,rfl⟩
   have hum:u∈up g t:=by rw [hu];exact List.getElem_mem hlt
   have heu:((up g t).map pi)[i]?=some (pi u):=by rw [hu];exact yu (f:=pi) hlt
   have c3:=Qh g u (by omega)
   have hml:=Zn g u
   rw [ziA hlt,←hu] at hr
   repeat' (first|(refine shC ?_;first|refine qC c3 ?_)|(refine shX ?_;first|refine qX heu ?_)|refine sK ?_|refine sC (fun _=>?_) (fun _=>?_)|fail)
   refine zJ (fun j:Nat=>[(1,.pv (pi t)),(3,.pv (.ptr (zH g) 0)),(7,.box 0 0),(8,.pv (ints (up g t))),(9,.pv (pi i)),(10,.pv (ints (methodsOf g u))),(11,.pv (pi j))]) (fun _=>[(0,.cell (.pv (yL (mAt g m))))])
    (fun j=>j≤(methodsOf g u).length∧ziP g t m=((methodsOf g u).drop j++((up g t).drop (i + 1)).flatMap (methodsOf g)).find? (does g m)) (fun j=>(methodsOf g u).length - j) 0 ⟨by omega,hr⟩ (tS) tH ?_
   clear hr
   rintro j ⟨hj,hr⟩
   by_cases hjl:j < (methodsOf g u).length
   ·obtain ⟨k,hk2⟩:∃ k,k=(methodsOf g u)[j]:=⟨_,rfl⟩
    have hkm:k∈methodsOf g u:=by rw [hk2];exact List.getElem_mem hjl
    have hek:((methodsOf g u).map pi)[j]?=some (pi k):=by rw [hk2];exact yu (f:=pi) hjl
    obtain ⟨q1,q2,q3⟩:=up0 hW hk hum hkm
    have hekm:=ZF q1
    have c4:=VJ (mAt g k)
    rw [show yM (mAt g k).flags 2=VD g k from rfl] at c4
    have c5:=zfI (mAt g k) (mAt g m)
    rw [show zbF (mAt g k) (mAt g m)=alk g k m from rfl] at c5
    rw [List.drop_eq_getElem_cons hjl,←hk2,List.cons_append,List.find?_cons] at hr
    cases hv:VD g k
    ·rw [hv] at c4
     rw [show does g m k=false by rw [does,hv];rfl] at hr
     repeat' (first|(refine shC ?_;first|refine qC c4 ?_)|(refine shX ?_;first|refine qX hek ?_|refine zB rfl (zl zf rfl rfl rfl rfl rfl rfl q1.1 hekm) rfl rfl ?_|refine AD.step _ _ _ _ _ rfl (zl zf rfl rfl rfl rfl rfl rfl q1.1 hekm) rfl rfl ?_)|refine sK ?_|refine sC (fun _=>?_) (fun _=>?_)|fail)
     exact ⟨j + 1,⟨hjl,hr⟩,tD,tS,tH⟩
    ·rw [hv] at c4
     cases ha:alk g k m
     ·rw [ha] at c5
      rw [show does g m k=false by rw [does,hv,ha];rfl] at hr
      repeat' (first|(refine shC ?_;first|refine qC c4 ?_|refine qC c5 ?_)|(refine shX ?_;first|refine qX hek ?_|refine zB rfl (zl zf rfl rfl rfl rfl rfl rfl q1.1 hekm) rfl rfl ?_|refine AD.step _ _ _ _ _ rfl (zl zf rfl rfl rfl rfl rfl rfl q1.1 hekm) rfl rfl ?_)|refine sK ?_|refine sC (fun _=>?_) (fun _=>?_)|fail)
      exact ⟨j + 1,⟨hjl,hr⟩,tD,tS,tH⟩
     ·rw [ha] at c5
      rw [show does g m k=true by rw [does,hv,ha];rfl] at hr
      repeat' (first|(refine shC ?_;first|refine qC c4 ?_|refine qC c5 ?_|refine qC (zfy g hF t k q1 q2 q3) ?_)|(refine shX ?_;first|refine qX hek ?_|refine zB rfl (zl zf rfl rfl rfl rfl rfl rfl q1.1 hekm) rfl rfl ?_|refine AD.step _ _ _ _ _ rfl (zl zf rfl rfl rfl rfl rfl rfl q1.1 hekm) rfl rfl ?_)|refine sK ?_|refine sC (fun _=>?_) (fun _=>?_)|fail)
      exact retq rfl (by rw [XT,hr];rfl)
   ·rw [List.drop_eq_nil_of_le (by omega),List.nil_append] at hr
    repeat' (first|refine sK ?_|refine sC (fun _=>?_) (fun _=>?_)|fail)
    exact ⟨i + 1,⟨hlt,hr⟩,tD,tS,tH⟩
  ·rw [List.drop_eq_nil_of_le (by omega)] at hr
   repeat' (first|refine sK ?_|refine sC (fun _=>?_) (fun _=>?_)|fail)
   exact retq rfl (by rw [XT,hr];rfl)
def zcl (m:Me):Bool:=m.code.length==0&&m.locals.length==0&&m.clauses.length==0&&m.max==0
def zg9 (k:Int) (b1 b2 b4 b8 b16 rv f16 em nc:Bool):Bool:=!(b16&&(k != 0||rv||f16))&&!(b2&&(b1||k==1))&&!((b4||b8)&&!b2)&&(if b4 then em else nc)
def zkq (k:Int) (b4 m1 ab:Bool):Bool:=if k==2 then b4 else if k==3 then b4&&m1 else !b4||ab
def YS (k:Int) (b1 b2 b4 b8 b16 rv f16 em nc m1 ab:Bool):Bool :=
 !(b16&&(k != 0||rv||f16))&&!(b2&&(b1||k==1))&&!(!b2&&(b4||b8))&&!(b4&&!em)&&!(!b4&&(!nc||decide (2≤k)))&&!(k==3&&!m1)&&(!b4||decide (2≤k)||ab)
theorem zqv (b1 b2 b4 b8 b16 rv f16 em nc m1 ab:Bool) {k:Int} (hk:k=0∨k=1∨k=2∨k=3):(zg9 k b1 b2 b4 b8 b16 rv f16 em nc&&zkq k b4 m1 ab)=YS k b1 b2 b4 b8 b16 rv f16 em nc m1 ab:=by
 simp only [zg9,zkq,YS]
 generalize (b16&&(k != 0||rv||f16))=x
 generalize (b2&&(b1||k==1))=y
 rcases hk with rfl|rfl|rfl|rfl <;> cases x <;> cases y <;> cases b2 <;> cases b4 <;> cases b8 <;> cases em <;> cases nc <;> cases m1 <;> cases ab <;> rfl
def zn7 (g:Img) (m:Me):Bool:=zg9 (zN g m.owner) (yM m.flags 1) (yM m.flags 2) (yM m.flags 4) (yM m.flags 8) (yM m.flags 16) (m.ret.kind != 1) (m.flags != 16) (zcl m) (decide (0 < m.code.length))
def zjv (g:Img) (m:Me):Bool:=zkq (zN g m.owner) (yM m.flags 4) ((methodsOf g m.owner).length==1) (yM (g.types.getD m.owner.toNat default).flags 4)
def zfR (g:Img) (m:Me):Bool:=YS (zN g m.owner) (yM m.flags 1) (yM m.flags 2) (yM m.flags 4) (yM m.flags 8) (yM m.flags 16) (m.ret.kind != 1) (m.flags != 16) (zcl m) (decide (0 < m.code.length)) ((methodsOf g m.owner).length==1) (yM (g.types.getD m.owner.toNat default).flags 4)
structure MeOk (g:Img) (m:Me):Prop where
 f0:0≤m.flags
 f1:m.flags≤31
 o0:0≤m.owner
 o1:m.owner.toNat < g.types.length
 formed:qL g m=true
theorem zaO {g:Img} (hf:yg g=true) {x:Int} (h:mOk g x):MeOk g (mAt g x):=by
 have h1:=VR hf h
 have h2:=zdb hf h.2
 simp only [yg,Bool.and_eq_true,List.all_eq_true] at hf
 have:=hf.2 x.toNat (by simpa using h.2)
 rw [zb8] at this
 simp only [Bool.and_eq_true,decide_eq_true_eq] at this
 have e:g.methods.getD x.toNat default=mAt g x:=rfl
 rw [e] at this h2
 obtain ⟨⟨⟨t1,t2⟩,_⟩,_⟩:=this
 exact ⟨h1.1,h1.2,t1,by omega,h2⟩
theorem MeOk.kind {g:Img} {m:Me} (h:MeOk g m):zN g m.owner=0∨zN g m.owner=1∨zN g m.owner=2∨zN g m.owner=3:=by
 have h1:=zcs g m.owner
 obtain ⟨td,htd⟩:=ZX (g:=g) (t:=m.owner) ⟨h.o0,by have:=h.o1;have:=h.o0;omega⟩
 have h2:zN g m.owner=XV td.flags:=by rw [zN,htd]
 have h3:=zfO td.flags
 omega
theorem zsi {g:Img} {m:Me} (h:MeOk g m):(zn7 g m&&zjv g m)=zfR g m:=zqv _ _ _ _ _ _ _ _ _ _ _ h.kind
theorem MeOk.small {g:Img} {m:Me} (h:MeOk g m):m.code.length≤160∧m.locals.length≤12∧m.params.length≤6∧m.clauses.length≤6∧0≤m.max∧m.max≤12:=by
 have:=h.formed
 simp only [qL,ZL,zaI,Bool.and_eq_true,decide_eq_true_eq] at this
 obtain ⟨⟨⟨⟨⟨⟨⟨⟨⟨⟨_,_⟩,_⟩,h3⟩,h4⟩,h5⟩,h6⟩,_⟩,_⟩,_⟩,⟨⟨h7,_⟩,_⟩,h8⟩:=this
 refine ⟨by omega,by omega,by omega,?_,h3,h4⟩
 by_cases hc:6 < m.clauses.length
 ·rw [QJ,if_pos hc] at h8;simp at h8
 ·omega
theorem zpk {m:Me} (h1:m.code.length≤160) (h2:m.locals.length≤12) (h3:m.clauses.length≤6) (h4:0≤m.max) (h5:m.max≤12) :
  (IntKind.i64.wrap (IntKind.i64.wrap (IntKind.i64.wrap ((((m.code.map ZP).length:Nat):Int) + (((m.locals.map yJ).length:Nat):Int)) + (((m.clauses.map ZB).length:Nat):Int)) + m.max)==0)=zcl m:=by
 simp only [List.length_map]
 rw [wrap_in (a:=(m.code.length:Int) + (m.locals.length:Int)) (by omega) (by omega),wrap_in (a:=(m.code.length:Int) + (m.locals.length:Int) + (m.clauses.length:Int)) (by omega) (by omega),wrap_in (by omega) (by omega),zcl,Bool.eq_iff_iff]
 simp only [beq_iff_eq,Bool.and_eq_true]
 omega
theorem ztj {g:Img} {m:Me} (h:MeOk g m):ACall Tryz.prog 113 [yL m,pi 1] (pb (yM m.flags 1))∧ACall Tryz.prog 113 [yL m,pi 2] (pb (yM m.flags 2))∧ACall Tryz.prog 113 [yL m,pi 4] (pb (yM m.flags 4))∧ACall Tryz.prog 113 [yL m,pi 8] (pb (yM m.flags 8))∧ACall Tryz.prog 113 [yL m,pi 16] (pb (yM m.flags 16)):=by
 obtain ⟨e1,e2,e4,e8,e16⟩:=zbl h.f0 h.f1
 exact ⟨e1 ▸ Xa m 1,e2 ▸ Xa m 2,e4 ▸ Xa m 4,e8 ▸ Xa m 8,e16 ▸ Xa m 16⟩
set_option maxHeartbeats 4000000 in
theorem zh0 (g:Img) (hf:yg g=true) (m:Me) (h:MeOk g m):ACall Tryz.prog 68 [zH g,yL m] (pb (zn7 g m)):=by
 obtain ⟨h1,h2,h4,h8,h16⟩:=ztj h
 have ck:=ZI g hf m.owner
 have hk:=h.kind
 obtain ⟨s1,s2,_,s4,s5,s6⟩:=h.small
 have he:=zpk s1 s2 s4 s5 s6
 refine zh zf Tryz.func68 rfl (by kernel_rfl) Tryz.ntmps68 (by simp) _ rfl (fun hw gB hgB=>?_)
 rw [zn7]
 generalize yM m.flags 1=b1 at h1 ⊢
 generalize yM m.flags 2=b2 at h2 ⊢
 generalize yM m.flags 4=b4 at h4 ⊢
 generalize yM m.flags 8=b8 at h8 ⊢
 generalize yM m.flags 16=b16 at h16 ⊢
 generalize zcl m=em at he ⊢
 rcases hk with hk|hk|hk|hk <;> rw [hk] at ck ⊢ <;> clear hk
 all_goals repeat' (first|(refine shC ?_;first|refine qC ck ?_|refine qC h1 ?_|refine qC h2 ?_|refine qC h4 ?_|refine qC h8 ?_|refine qC h16 ?_)|refine sA ?_|refine sC (fun _=>?_) (fun _=>?_)|fail)
 all_goals (refine retq rfl ?_;first|(simp_all [zk,zg9];done)|(rename_i hx;simp_all [zk,zg9];omega)|(trace_state))
set_option maxHeartbeats 20000000
theorem zoW (g:Img) (hf:yg g=true) (t:Ty):ACall Tryz.prog 118 [zH g,yJ t] (pb (zhZ g t)):=by
 have ck:=ZI g hf t.index
 refine zh zf Tryz.func118 rfl (by kernel_rfl) Tryz.ntmps118 (by simp) _ rfl (fun hw gB hgB=>?_)
 rw [zhZ]
 generalize zN g t.index=k at ck ⊢
 repeat' (first|(refine shC ?_;first|refine qC ck ?_)|refine sA ?_|refine sC (fun _=>?_) (fun _=>?_)|fail)
 all_goals (refine retq rfl ?_;simp_all [zk])
theorem zl7 (g:Img) (hf:yg g=true) (t:Ty):ACall Tryz.prog 117 ([]++[yJ t]++[.ptr (zH g) 0]) (pb (!zhZ g t)):=by
 show ACall Tryz.prog 117 [yJ t,.ptr (zH g) 0] (pb (!zhZ g t))
 refine zh zf Tryz.func117 rfl (by kernel_rfl) Tryz.ntmps117 (by simp) _ rfl (fun hw gB hgB=>?_)
 repeat' (first|(refine shC ?_;first|refine qC (zoW g hf t) ?_)|refine sA ?_|refine sC (fun _=>?_) (fun _=>?_)|fail)
 exact retq rfl rfl
def QY (a b c:List Ty):Nat→Int
 | 0=>0
 | 1=>a.length
 | 2=>a.length + b.length
 | _=>a.length + b.length + c.length
def zdW (a b c:List Ty):Nat→List Ty
 | 0=>[]
 | 1=>a
 | 2=>a++b
 | _=>a++b++c
theorem zi5 (a b c:List Ty) (ha:a.length≤100) (hb:b.length≤100) (hc:c.length≤100):ACallR Tryz.prog 114 [.slc 1 [tys a,tys b,tys c] true] 60 4 ((a++b++c).map yJ):=by
 refine zey Tryz.func114 rfl (by kernel_rfl) Tryz.ntmps114 (by simp) rfl (fun hw gB hgB=>?_)
 repeat' (first|refine sK ?_|refine sC (fun _=>?_) (fun _=>?_)|fail)
 refine zJ (fun k:Nat=>[(0,.pv (.slc 1 [tys a,tys b,tys c] true)),(9,.pv (.slc 1 [tys a,tys b,tys c] true)),(10,.pv (pi 3)),(11,.pv (pi k)),(3,.pv (pi (QY a b c k)))]) (fun _=>[]) (fun k=>k≤3) (fun k=>3 - k) 0 (by omega) (tS) tH ?_
 intro k hk
 have hk3:k=0∨k=1∨k=2∨k=3:=by omega
 rcases hk3 with rfl|rfl|rfl|rfl
 ·repeat' (first|refine zB rfl (zde zf rfl (by first|omega|(simp [QY] <;> omega)) (by first|omega|(simp [QY] <;> omega))) rfl rfl ?_|(refine shX ?_;first|refine zB rfl (zl zf rfl rfl rfl rfl rfl rfl (by decide) rfl) rfl rfl ?_|refine AD.step _ _ _ _ _ rfl (zl zf rfl rfl rfl rfl rfl rfl (by decide) rfl) rfl rfl ?_)|refine sK ?_|refine sC (fun _=>?_) (fun _=>?_)|fail)
  exact ⟨1,by omega,tD,by repeat (first|exact yS|refine yG rfl ?_|(refine Zc rfl ?_ ?_;· (first|(simp [QY];done)|(simp [QY];omega)|omega))),tH⟩
 ·repeat' (first|refine zB rfl (zde zf rfl (by first|omega|(simp [QY] <;> omega)) (by first|omega|(simp [QY] <;> omega))) rfl rfl ?_|(refine shX ?_;first|refine zB rfl (zl zf rfl rfl rfl rfl rfl rfl (by decide) rfl) rfl rfl ?_|refine AD.step _ _ _ _ _ rfl (zl zf rfl rfl rfl rfl rfl rfl (by decide) rfl) rfl rfl ?_)|refine sK ?_|refine sC (fun _=>?_) (fun _=>?_)|fail)
  exact ⟨2,by omega,tD,by repeat (first|exact yS|refine yG rfl ?_|(refine Zc rfl ?_ ?_;· (first|(simp [QY];done)|(simp [QY];omega)|omega))),tH⟩
 ·repeat' (first|refine zB rfl (zde zf rfl (by first|omega|(simp [QY] <;> omega)) (by first|omega|(simp [QY] <;> omega))) rfl rfl ?_|(refine shX ?_;first|refine zB rfl (zl zf rfl rfl rfl rfl rfl rfl (by decide) rfl) rfl rfl ?_|refine AD.step _ _ _ _ _ rfl (zl zf rfl rfl rfl rfl rfl rfl (by decide) rfl) rfl rfl ?_)|refine sK ?_|refine sC (fun _=>?_) (fun _=>?_)|fail)
  exact ⟨3,by omega,tD,by repeat (first|exact yS|refine yG rfl ?_|(refine Zc rfl ?_ ?_;· (first|(simp [QY];done)|(simp [QY];omega)|omega))),tH⟩
 ·repeat' (first|(refine zu ?_;first|refine zcd 0 rfl rfl rfl (ziR _ (by simp [QY];omega) (by simp [QY];omega)) (by decide) rfl rfl rfl ?_)|refine sK ?_|refine sC (fun _=>?_) (fun _=>?_)|fail)
  refine zJ (fun k:Nat=>[(6,.own 0),(25,.pv (.slc 1 [tys a,tys b,tys c] true)),(26,.pv (pi 3)),(27,.pv (pi k))]) (fun k=>[(0,.row 60 4 ((zdW a b c k).map yJ))]) (fun k=>k≤3) (fun k=>3 - k) 0 (by omega) (tS) tH ?_
  intro k hk
  have hk3:k=0∨k=1∨k=2∨k=3:=by omega
  rcases hk3 with rfl|rfl|rfl|rfl
  ·repeat' (first|refine zB rfl (zde zf rfl (by first|omega|(simp [QY] <;> omega)) (by first|omega|(simp [QY] <;> omega))) rfl rfl ?_|(refine shX ?_;first|refine zB rfl (zl zf rfl rfl rfl rfl rfl rfl (by decide) rfl) rfl rfl ?_|refine AD.step _ _ _ _ _ rfl (zl zf rfl rfl rfl rfl rfl rfl (by decide) rfl) rfl rfl ?_)|(refine yH ?_;first|refine yU zf rfl rfl rfl rfl rfl rfl rfl (by show _ * 32≤_;simp [zdW];omega) (by simp [zdW];omega) rfl rfl ?_)|refine sK ?_|refine sC (fun _=>?_) (fun _=>?_)|fail)
   exact ⟨1,by omega,tD,by repeat (first|exact yS|refine yG rfl ?_|(refine Zc rfl ?_ ?_;· omega)),⟨zT rfl zK,rfl⟩⟩
  ·repeat' (first|refine zB rfl (zde zf rfl (by first|omega|(simp [QY] <;> omega)) (by first|omega|(simp [QY] <;> omega))) rfl rfl ?_|(refine shX ?_;first|refine zB rfl (zl zf rfl rfl rfl rfl rfl rfl (by decide) rfl) rfl rfl ?_|refine AD.step _ _ _ _ _ rfl (zl zf rfl rfl rfl rfl rfl rfl (by decide) rfl) rfl rfl ?_)|(refine yH ?_;first|refine yU zf rfl rfl rfl rfl rfl rfl rfl (by show _ * 32≤_;simp [zdW];omega) (by simp [zdW];omega) rfl rfl ?_)|refine sK ?_|refine sC (fun _=>?_) (fun _=>?_)|fail)
   exact ⟨2,by omega,tD,by repeat (first|exact yS|refine yG rfl ?_|(refine Zc rfl ?_ ?_;· omega)),⟨zT (by show some (HE.row 60 4 (_++_))=_;simp [zdW]) zK,rfl⟩⟩
  ·repeat' (first|refine zB rfl (zde zf rfl (by first|omega|(simp [QY] <;> omega)) (by first|omega|(simp [QY] <;> omega))) rfl rfl ?_|(refine shX ?_;first|refine zB rfl (zl zf rfl rfl rfl rfl rfl rfl (by decide) rfl) rfl rfl ?_|refine AD.step _ _ _ _ _ rfl (zl zf rfl rfl rfl rfl rfl rfl (by decide) rfl) rfl rfl ?_)|(refine yH ?_;first|refine yU zf rfl rfl rfl rfl rfl rfl rfl (by show _ * 32≤_;simp [zdW];omega) (by simp [zdW];omega) rfl rfl ?_)|refine sK ?_|refine sC (fun _=>?_) (fun _=>?_)|fail)
   exact ⟨3,by omega,tD,by repeat (first|exact yS|refine yG rfl ?_|(refine Zc rfl ?_ ?_;· omega)),⟨zT (by show some (HE.row 60 4 (_++_))=_;simp [zdW]) zK,rfl⟩⟩
  ·repeat' (first|refine sK ?_|refine sC (fun _=>?_) (fun _=>?_)|fail)
   exact ⟨.inr rfl,0,rfl,rfl⟩
theorem ziI {α β:Type} {l:List α} {p:α→Bool} {f:α→β} {k:Nat} (h:k < l.length):(((l.take (k + 1)).filter p).map f)=((l.take k).filter p).map f++(if p l[k] then [f l[k]] else []):=by
 rw [List.take_succ_eq_append_getElem h,List.filter_append,List.map_append]
 cases hp:p l[k] <;> simp [hp]
set_option maxHeartbeats 20000000
theorem zlg {g:Img} {m:Me} (h:MeOk g m):(g.types.map ZA)[m.owner.toNat]?=some (ZA (g.types.getD m.owner.toNat default)):=by
 rw [zL h.o1];exact qW h.o1
theorem zkm {g:Img} (hf:yg g=true) {t:Int} (h0:0≤t) (h1:t.toNat < g.types.length):0≤(g.types.getD t.toNat default).flags∧(g.types.getD t.toNat default).flags≤31:=by
 have:typeAt g t=some (g.types.getD t.toNat default):=by
  rw [typeAt,if_pos h0,zL h1];exact List.getElem?_eq_getElem h1
 have:=VP hf this
 exact ⟨this.1,this.2.1⟩
theorem zkT (g:Img) (hf:yg g=true) (m:Me) (h:MeOk g m):ACall Tryz.prog 69 [zH g,yL m] (pb (zjv g m)):=by
 obtain ⟨h1,h2,h4,h8,h16⟩:=ztj h
 have ck:=ZI g hf m.owner
 have hk:=h.kind
 have hgm:g.methods.length≤64:=(zW hf).2.2.1
 have cm:=YD g m.owner (by omega)
 have hml:=Zn g m.owner
 have hto:=zlg h
 have hfl:=zkm hf h.o0 h.o1
 have hfe:qK (g.types.getD m.owner.toNat default).flags 4=yM (g.types.getD m.owner.toNat default).flags 4:=(zbl hfl.1 hfl.2).2.2.1
 have hms:(((((methodsOf g m.owner).map pi).length:Nat):Int)==1)=((methodsOf g m.owner).length==1):=by
  rw [List.length_map,Bool.eq_iff_iff];simp only [beq_iff_eq];omega
 refine zh zf Tryz.func69 rfl (by kernel_rfl) Tryz.ntmps69 (by simp) _ rfl (fun hw gB hgB=>?_)
 rw [zjv]
 generalize yM m.flags 4=b4 at h4 ⊢
 rw [←hfe,qK]
 rcases hk with hk|hk|hk|hk <;> rw [hk] at ck ⊢ <;> clear hk
 all_goals repeat' (first|(refine shC ?_;first|refine qC ck ?_|refine qC h4 ?_|refine qC cm ?_)|(refine shX ?_;first|refine zB rfl (zl zf rfl rfl rfl rfl rfl rfl h.o0 hto) rfl rfl ?_|refine AD.step _ _ _ _ _ rfl (zl zf rfl rfl rfl rfl rfl rfl h.o0 hto) rfl rfl ?_)|refine sA ?_|refine sC (fun _=>?_) (fun _=>?_)|fail)
 all_goals (refine retq rfl ?_;first|(simp_all [zk,zkq];done)|(simp_all [zk,zkq];omega))
def zrr (QQ:QC):QC
 | .normal,_,_=>False
 | e,env,H=>QQ e env H
theorem zc2 {P:Program} {n:Nat} {g:Base} {x y:Code} {env:Env} {H:HEnv} {QQ:QC} (h1:AW P n g x env H (zrr QQ)):AW P n g (.seq x y) env H QQ :=
 zjB (h1.mono fun e env' H' hq=>by
  cases e <;> first
   | exact hq.elim
   | exact hq)
theorem zgc (g:Img) (hf:yg g=true) (m:Me) (h:MeOk g m):ACall Tryz.prog 104 [zH g,yL m] (pb (zfR g m)):=by
 have h1:=ziD m
 have h2:=VJ m
 have h4:=zfj m
 have h8:=ziL m
 have h16:=znf m
 have ck:=qZ g m.owner
 have hgm:g.methods.length≤64:=(zW hf).2.2.1
 obtain ⟨s1,s2,_,s4,s5,s6⟩:=h.small
 have cm:=Qh g m.owner (by omega)
 have hml:=Zn g m.owner
 have hto:=zlg h
 have hms:(((((methodsOf g m.owner).map pi).length:Nat):Int)==1)=((methodsOf g m.owner).length==1):=by
  rw [List.length_map,Bool.eq_iff_iff];simp only [beq_iff_eq];omega
 have he:zcl m=(!(decide (0 < (((m.code.map ZP).length:Nat):Int))||decide (0 < (((m.locals.map yJ).length:Nat):Int))||decide (0 < (((m.clauses.map ZB).length:Nat):Int))||decide (0 < m.max))):=by
  rw [zcl,Bool.eq_iff_iff]
  simp only [List.length_map,Bool.and_eq_true,beq_iff_eq,Bool.not_eq_true',Bool.or_eq_false_iff,decide_eq_false_iff_not]
  omega
 have hc:decide (0 < m.code.length)=!((((m.code.map ZP).length:Nat):Int)==0):=by
  rw [List.length_map,Bool.eq_iff_iff]
  simp only [decide_eq_true_eq,Bool.not_eq_true',beq_eq_false_iff_ne]
  omega
 refine zh zf Tryz.func104 rfl (by kernel_rfl) Tryz.ntmps104 (by simp) _ rfl (fun hw gB hgB=>?_)
 rw [zfR]
 generalize yM m.flags 1=b1 at h1 ⊢
 generalize yM m.flags 2=b2 at h2 ⊢
 generalize yM m.flags 4=b4 at h4 ⊢
 generalize yM m.flags 8=b8 at h8 ⊢
 generalize yM m.flags 16=b16 at h16 ⊢
 generalize hab:yM (g.types.getD m.owner.toNat default).flags 4=ab
 rw [yM] at hab
 generalize zcl m=em at he ⊢
 generalize decide (0 < m.code.length)=nc at hc ⊢
 generalize hm1:((methodsOf g m.owner).length==1)=m1 at hms ⊢
 generalize zN g m.owner=k at ck ⊢
 refine Qo [(2,.pv (.ptr (zH g) 0)),(3,.pv (.ptr (yL m) 0))] [] ?_ ?_
 ·repeat' (first|refine sA ?_|refine sC (fun _=>?_) (fun _=>?_)|fail)
  exact ⟨tS,tH⟩
 refine Qo [(2,.pv (.ptr (zH g) 0)),(3,.pv (.ptr (yL m) 0)),(5,.pv (pi k))] [] ?_ ?_
 ·repeat' (first|(refine shC ?_;first|refine qC ck ?_)|refine sA ?_|refine sC (fun _=>?_) (fun _=>?_)|fail)
  exact ⟨tS,tH⟩
 cases hA:(b16&&(k != 0||(m.ret.kind != 1)||(m.flags != 16)))
 ·refine Qo [(2,.pv (.ptr (zH g) 0)),(3,.pv (.ptr (yL m) 0)),(5,.pv (pi k))] [] ?_ ?_
  ·clear he hc hms hm1
   repeat' (first|(refine shC ?_;first|refine qC h16 ?_)|refine sA ?_|refine sC (fun _=>?_) (fun _=>?_)|fail)
   all_goals first|exact ⟨tS,tH⟩|(exfalso;simp_all;done)
  cases hB:(b2&&(b1||k==1))
  ·refine Qo [(2,.pv (.ptr (zH g) 0)),(3,.pv (.ptr (yL m) 0)),(5,.pv (pi k))] [] ?_ ?_
   ·clear he hc hms hm1
    repeat' (first|(refine shC ?_;first|refine qC h1 ?_|refine qC h2 ?_)|refine sA ?_|refine sC (fun _=>?_) (fun _=>?_)|fail)
    all_goals first|exact ⟨tS,tH⟩|(exfalso;simp_all;done)
   cases hC:(!b2&&(b4||b8))
   ·refine Qo [(2,.pv (.ptr (zH g) 0)),(3,.pv (.ptr (yL m) 0)),(5,.pv (pi k))] [] ?_ ?_
    ·clear he hc hms hm1
     repeat' (first|(refine shC ?_;first|refine qC h2 ?_|refine qC h4 ?_|refine qC h8 ?_)|refine sA ?_|refine sC (fun _=>?_) (fun _=>?_)|fail)
     all_goals first|exact ⟨tS,tH⟩|(exfalso;simp_all;done)
    cases hD:(b4&&!em)
    ·refine Qo [(2,.pv (.ptr (zH g) 0)),(3,.pv (.ptr (yL m) 0)),(5,.pv (pi k))] [] ?_ ?_
     ·clear hc hms hm1 hA hB hC
      repeat' (first|(refine shC ?_;first|refine qC h4 ?_)|refine sA ?_|refine sC (fun _=>?_) (fun _=>?_)|fail)
      all_goals first|exact ⟨tS,tH⟩|(exfalso;simp_all;done)
     cases hE:(!b4&&(!nc||decide (2≤k)))
     ·refine Qo [(2,.pv (.ptr (zH g) 0)),(3,.pv (.ptr (yL m) 0)),(5,.pv (pi k))] [] ?_ ?_
      ·clear he hms hm1 hA hB hC hD
       repeat' (first|(refine shC ?_;first|refine qC h4 ?_)|refine sA ?_|refine sC (fun _=>?_) (fun _=>?_)|fail)
       all_goals first|exact ⟨tS,tH⟩|(exfalso;simp_all;done)
      cases hG:(k==3&&!m1)
      ·refine Qo [(2,.pv (.ptr (zH g) 0)),(3,.pv (.ptr (yL m) 0)),(5,.pv (pi k))] [] ?_ ?_
       ·clear he hc hA hB hC hD hE hm1
        repeat' (first|(refine shC ?_;first|refine qC cm ?_)|refine sA ?_|refine sC (fun _=>?_) (fun _=>?_)|fail)
        all_goals first|exact ⟨tS,tH⟩|(exfalso;simp_all;done)
       rw [YS,hA,hB,hC,hD,hE,hG]
       clear hA hB hC hD hE hG he hc hms hm1
       repeat' (first|(refine shC ?_;first|refine qC h4 ?_)|(refine shX ?_;first|refine zB rfl (zl zf rfl rfl rfl rfl rfl rfl h.o0 hto) rfl rfl ?_|refine AD.step _ _ _ _ _ rfl (zl zf rfl rfl rfl rfl rfl rfl h.o0 hto) rfl rfl ?_)|refine sA ?_|refine sC (fun _=>?_) (fun _=>?_)|fail)
       all_goals (refine retq rfl ?_;first|(simp_all [zk];done)|(simp_all [zk];intros;omega))
      ·have hv:YS k b1 b2 b4 b8 b16 (m.ret.kind != 1) (m.flags != 16) em nc m1 ab=false:=by rw [YS,hG];simp
       rw [hv]
       refine zc2 ?_
       clear he hc hA hB hC hD hE hm1 hv
       repeat' (first|(refine shC ?_;first|refine qC cm ?_)|refine sA ?_|refine sC (fun _=>?_) (fun _=>?_)|fail)
       all_goals first|exact retq rfl rfl|(exfalso;simp_all;done)
     ·have hv:YS k b1 b2 b4 b8 b16 (m.ret.kind != 1) (m.flags != 16) em nc m1 ab=false:=by rw [YS,hE];simp
      rw [hv]
      refine zc2 ?_
      clear he hms hm1 hA hB hC hD hv
      repeat' (first|(refine shC ?_;first|refine qC h4 ?_)|refine sA ?_|refine sC (fun _=>?_) (fun _=>?_)|fail)
      all_goals first|exact retq rfl rfl|(exfalso;simp_all;done)
    ·have hv:YS k b1 b2 b4 b8 b16 (m.ret.kind != 1) (m.flags != 16) em nc m1 ab=false:=by rw [YS,hD];simp
     rw [hv]
     refine zc2 ?_
     clear hc hms hm1 hA hB hC hv
     repeat' (first|(refine shC ?_;first|refine qC h4 ?_)|refine sA ?_|refine sC (fun _=>?_) (fun _=>?_)|fail)
     all_goals first|exact retq rfl rfl|(exfalso;simp_all;done)
   ·have hv:YS k b1 b2 b4 b8 b16 (m.ret.kind != 1) (m.flags != 16) em nc m1 ab=false:=by rw [YS,hC];simp
    rw [hv]
    refine zc2 ?_
    clear he hc hms hm1 hA hB hv
    repeat' (first|(refine shC ?_;first|refine qC h2 ?_|refine qC h4 ?_|refine qC h8 ?_)|refine sA ?_|refine sC (fun _=>?_) (fun _=>?_)|fail)
    all_goals first|exact retq rfl rfl|(exfalso;simp_all;done)
  ·have hv:YS k b1 b2 b4 b8 b16 (m.ret.kind != 1) (m.flags != 16) em nc m1 ab=false:=by rw [YS,hB];simp
   rw [hv]
   refine zc2 ?_
   clear he hc hms hm1 hA hv
   repeat' (first|(refine shC ?_;first|refine qC h1 ?_|refine qC h2 ?_)|refine sA ?_|refine sC (fun _=>?_) (fun _=>?_)|fail)
   all_goals first|exact retq rfl rfl|(exfalso;simp_all;done)
 ·have hv:YS k b1 b2 b4 b8 b16 (m.ret.kind != 1) (m.flags != 16) em nc m1 ab=false:=by rw [YS,hA];simp
  rw [hv]
  refine zc2 ?_
  clear he hc hms hm1 hv
  repeat' (first|(refine shC ?_;first|refine qC h16 ?_)|refine sA ?_|refine sC (fun _=>?_) (fun _=>?_)|fail)
  all_goals first|exact retq rfl rfl|(exfalso;simp_all;done)
set_option maxHeartbeats 20000000
theorem ziz {g:Img} {m:Me} (h:MeOk g m) {x:Ins} (hx:x∈m.code):1≤x.op∧x.op≤75:=by
 have:=h.formed
 simp only [qL,ZL,Bool.and_eq_true,List.all_eq_true,codeOk] at this
 have:=(this.2.1.1.2 x hx).1
 exact ziJ (by simpa using this)
def isT (x:Ins):Bool:=yF x.op==8
def isC (c:Cl):Bool:=c.kind==1
def ziv (m:Me):List Ty:=m.params++m.locals++[m.ret]
theorem zoH (m:Me):zcr m=ziv m++(m.code.filter isT).map (·.t)++(m.clauses.filter isC).map (·.t):=rfl
theorem zmg (g:Img) (hf:yg g=true) (m:Me) (h:MeOk g m):ACall Tryz.prog 70 [zH g,yL m] (pb (XZ g m)):=by
 obtain ⟨s1,s2,s3,s4,s5,s6⟩:=h.small
 have hc3:=zi5 m.params m.locals [m.ret] (by omega) (by omega) (by simp)
 have ht:PTells (.slc 4 [yJ m.ret] true) (tys [m.ret]):=ze1 (zac (yY (.refl _) (yY (.refl _) (yY (.refl _) (yY (.refl _) zbP)))) zc5)
 have hh:(ziv m).length≤19:=by simp [ziv];omega
 have cu:=QM (zcr m) (fun t=>!zhZ g t) 117 [] [.ptr (zH g) 0] (fun t _=>zl7 g hf t)
 rw [←List.not_all_eq_any_not,zrI h.formed] at cu
 refine zh zf Tryz.func70 rfl (by kernel_rfl) Tryz.ntmps70 (by simp) _ rfl (fun hw gB hgB=>?_)
 repeat' (first|refine za8 18 ht rfl ?_|(refine zu ?_;first|refine zcd 5 rfl rfl rfl hc3 (by decide) rfl rfl rfl ?_)|refine sK ?_|refine sC (fun _=>?_) (fun _=>?_)|fail)
 refine zJ (fun k:Nat=>[(2,.pv (.ptr (zH g) 0)),(3,.pv (.ptr (yL m) 0)),(5,.own 5),(22,.pv (.slc 6 (m.code.map ZP) false)),(23,.pv (pi m.code.length)),(24,.pv (pi k))])
  (fun k=>[(5,.row 60 4 ((ziv m++((m.code.take k).filter isT).map (·.t)).map yJ))]) (fun k=>k≤m.code.length) (fun k=>m.code.length - k) 0 (by omega)
  (by repeat (first|exact yS|refine yG rfl ?_|(refine Zc rfl ?_ ?_;· simp))) ⟨qG rfl (by simp [ziv]) zK,rfl⟩ ?_
 rintro k hk
 by_cases hlt:k < m.code.length
 ·have he:=yu (f:=ZP) hlt
  obtain ⟨o1,o2⟩:=ziz h (List.getElem_mem hlt)
  have co:=zgV m.code[k].op o1 o2
  rw [(zju _ o1 o2).2] at co
  have hsl:((m.code.take k).filter isT).length≤160:=by
   have:=List.length_filter_le isT (m.code.take k)
   rw [List.length_take] at this;omega
  have hn:=ziI (p:=isT) (f:=(·.t)) hlt
  cases hop:yF m.code[k].op==8
  ·rw [show isT m.code[k]=false from hop,if_neg (by simp),List.append_nil] at hn
   repeat' (first|(refine shC ?_;first|refine qC co ?_)|(refine shX ?_;first|refine qX he ?_)|refine sK ?_|refine sC (fun _=>?_) (fun _=>?_)|fail)
   exact ⟨k + 1,hlt,tD,tS,⟨qG rfl (by rw [hn]) zK,rfl⟩⟩
  ·rw [show isT m.code[k]=true from hop,if_pos rfl] at hn
   repeat' (first|(refine shC ?_;first|refine qC co ?_)|(refine shX ?_;first|refine qX he ?_)|(refine yH ?_;first|refine yU zf rfl rfl rfl rfl rfl rfl rfl (by show _ * 32≤_;simp only [List.length_map,List.length_append,List.length_cons,List.length_nil];omega) (by simp only [List.length_map,List.length_append,List.length_cons,List.length_nil];omega) rfl rfl ?_)|refine sK ?_|refine sC (fun _=>?_) (fun _=>?_)|fail)
   exact ⟨k + 1,hlt,tD,tS,⟨qG rfl (by rw [hn];simp;rfl) zK,rfl⟩⟩
 ·have hk2:k=m.code.length:=by omega
  subst hk2
  have hsl:(m.code.filter isT).length≤160:=by
   have:=List.length_filter_le isT m.code
   omega
  rw [List.take_length]
  repeat' (first|refine sK ?_|refine sC (fun _=>?_) (fun _=>?_)|fail)
  refine zJ (fun k:Nat=>[(2,.pv (.ptr (zH g) 0)),(5,.own 5),(44,.pv (.slc 10 (m.clauses.map ZB) false)),(45,.pv (pi m.clauses.length)),(46,.pv (pi k))])
   (fun k=>[(5,.row 60 4 ((ziv m++(m.code.filter isT).map (·.t)++((m.clauses.take k).filter isC).map (·.t)).map yJ))]) (fun k=>k≤m.clauses.length) (fun k=>m.clauses.length - k) 0 (by omega)
   (by repeat (first|exact yS|refine yG rfl ?_|(refine Zc rfl ?_ ?_;· simp))) ⟨qG rfl (by simp) zK,rfl⟩ ?_
  clear hk hlt
  rintro k hk
  by_cases hlt:k < m.clauses.length
  ·have he:=yu (f:=ZB) hlt
   have hsl2:((m.clauses.take k).filter isC).length≤6:=by
    have:=List.length_filter_le isC (m.clauses.take k)
    rw [List.length_take] at this;omega
   have hn:=ziI (p:=isC) (f:=(·.t)) hlt
   cases hop:m.clauses[k].kind==1
   ·rw [show isC m.clauses[k]=false from hop,if_neg (by simp),List.append_nil] at hn
    repeat' (first|(refine shX ?_;first|refine qX he ?_)|refine sK ?_|refine sC (fun _=>?_) (fun _=>?_)|fail)
    exact ⟨k + 1,hlt,tD,tS,⟨qG rfl (by rw [hn]) zK,rfl⟩⟩
   ·rw [show isC m.clauses[k]=true from hop,if_pos rfl] at hn
    repeat' (first|(refine shX ?_;first|refine qX he ?_)|(refine yH ?_;first|refine yU zf rfl rfl rfl rfl rfl rfl rfl (by show _ * 32≤_;simp only [List.length_map,List.length_append,List.length_cons,List.length_nil];omega) (by simp only [List.length_map,List.length_append,List.length_cons,List.length_nil];omega) rfl rfl ?_)|refine sK ?_|refine sC (fun _=>?_) (fun _=>?_)|fail)
    exact ⟨k + 1,hlt,tD,tS,⟨qG rfl (by rw [hn];simp;rfl) zK,rfl⟩⟩
  ·have hk2:k=m.clauses.length:=by omega
   subst hk2
   rw [List.take_length,←zoH]
   repeat' (first|(refine shC ?_;first|refine qC cu ?_)|refine sK ?_|refine sC (fun _=>?_) (fun _=>?_)|fail)
   exact retq rfl (by simp [zk])
theorem zid (g:Img) (m:Me) (h:MeOk g m):ACall Tryz.prog 105 [zH g,yL m] (pb (XZ g m)):=by
 obtain ⟨s1,s2,s3,s4,s5,s6⟩:=h.small
 have cr:=Wp g m.ret
 refine zh zf Tryz.func105 rfl (by kernel_rfl) Tryz.ntmps105 (by simp) _ rfl (fun hw gB hgB=>?_)
 cases hr:qx g m.ret
 ·rw [hr] at cr
  repeat' (first|(refine shC ?_;first|refine qC cr ?_)|refine sK ?_|refine sC (fun _=>?_) (fun _=>?_)|fail)
  exact retq rfl (by simp [zk,XZ,hr])
 ·rw [hr] at cr
  repeat' (first|(refine shC ?_;first|refine qC cr ?_)|refine sK ?_|refine sC (fun _=>?_) (fun _=>?_)|fail)
  refine zJ (fun k:Nat=>[(2,.pv (.ptr (zH g) 0)),(3,.pv (.ptr (yL m) 0)),(5,.pv (pi k))]) (fun _=>[])
   (fun k=>k≤m.params.length∧XZ g m=((m.params.drop k).all (qx g)&&m.locals.all (qx g)&&m.code.all (fun x=>yF x.op != 8||qx g x.t)&&m.clauses.all (fun c=>c.kind != 1||qx g c.t))) (fun k=>m.params.length - k) 0 ⟨by omega,by simp [XZ,hr]⟩ (tS) tH ?_
  rintro k ⟨hk,hv⟩
  by_cases hlt:k < m.params.length
  ·have he:=yu (f:=yJ) hlt
   have c1:=Wp g m.params[k]
   rw [Yl hlt] at hv
   cases hu:qx g m.params[k]
   ·rw [hu] at c1 hv
    repeat' (first|(refine shC ?_;first|refine qC c1 ?_)|(refine shX ?_;first|refine qX he ?_)|refine sK ?_|refine sC (fun _=>?_) (fun _=>?_)|fail)
    exact retq rfl (by rw [hv];simp [zk])
   ·rw [hu] at c1 hv
    repeat' (first|(refine shC ?_;first|refine qC c1 ?_)|(refine shX ?_;first|refine qX he ?_)|refine sK ?_|refine sC (fun _=>?_) (fun _=>?_)|fail)
    exact ⟨k + 1,⟨hlt,by rw [hv];simp⟩,tD,tS,tH⟩
  ·rw [drop_end (by omega)] at hv
   repeat' (first|refine sK ?_|refine sC (fun _=>?_) (fun _=>?_)|fail)
   refine zJ (fun k:Nat=>[(2,.pv (.ptr (zH g) 0)),(3,.pv (.ptr (yL m) 0)),(6,.pv (pi k))]) (fun _=>[])
    (fun k=>k≤m.locals.length∧XZ g m=((m.locals.drop k).all (qx g)&&m.code.all (fun x=>yF x.op != 8||qx g x.t)&&m.clauses.all (fun c=>c.kind != 1||qx g c.t))) (fun k=>m.locals.length - k) 0 ⟨by omega,by rw [hv];simp⟩ (tS) tH ?_
   clear hk hv hlt
   rintro k ⟨hk,hv⟩
   by_cases hlt:k < m.locals.length
   ·have he:=yu (f:=yJ) hlt
    have c1:=Wp g m.locals[k]
    rw [Yl hlt] at hv
    cases hu:qx g m.locals[k]
    ·rw [hu] at c1 hv
     repeat' (first|(refine shC ?_;first|refine qC c1 ?_)|(refine shX ?_;first|refine qX he ?_)|refine sK ?_|refine sC (fun _=>?_) (fun _=>?_)|fail)
     exact retq rfl (by rw [hv];simp [zk])
    ·rw [hu] at c1 hv
     repeat' (first|(refine shC ?_;first|refine qC c1 ?_)|(refine shX ?_;first|refine qX he ?_)|refine sK ?_|refine sC (fun _=>?_) (fun _=>?_)|fail)
     exact ⟨k + 1,⟨hlt,by rw [hv];simp⟩,tD,tS,tH⟩
   ·rw [drop_end (by omega)] at hv
    repeat' (first|refine sK ?_|refine sC (fun _=>?_) (fun _=>?_)|fail)
    refine zJ (fun k:Nat=>[(2,.pv (.ptr (zH g) 0)),(3,.pv (.ptr (yL m) 0)),(7,.pv (pi k))]) (fun _=>[])
     (fun k=>k≤m.code.length∧XZ g m=((m.code.drop k).all (fun x=>yF x.op != 8||qx g x.t)&&m.clauses.all (fun c=>c.kind != 1||qx g c.t))) (fun k=>m.code.length - k) 0 ⟨by omega,by rw [hv];simp⟩ (tS) tH ?_
    clear hk hv hlt
    rintro k ⟨hk,hv⟩
    by_cases hlt:k < m.code.length
    ·have he:=yu (f:=ZP) hlt
     obtain ⟨o1,o2⟩:=ziz h (List.getElem_mem hlt)
     have co:=zgj m.code[k].op o1 o2
     have c1:=Wp g m.code[k].t
     rw [Yl hlt] at hv
     cases hop:yF m.code[k].op==8
     ·rw [show (yF m.code[k].op != 8)=true by rw [bne,hop];rfl] at hv
      repeat' (first|(refine shC ?_;first|refine qC co ?_)|(refine shX ?_;first|refine qX he ?_)|refine sK ?_|refine sC (fun _=>?_) (fun _=>?_)|fail)
      exact ⟨k + 1,⟨hlt,by rw [hv];simp⟩,tD,tS,tH⟩
     ·rw [show (yF m.code[k].op != 8)=false by rw [bne,hop];rfl] at hv
      cases hu:qx g m.code[k].t
      ·rw [hu] at c1 hv
       repeat' (first|(refine shC ?_;first|refine qC co ?_|refine qC c1 ?_)|(refine shX ?_;first|refine qX he ?_)|refine sK ?_|refine sC (fun _=>?_) (fun _=>?_)|fail)
       exact retq rfl (by rw [hv];simp [zk])
      ·rw [hu] at c1 hv
       repeat' (first|(refine shC ?_;first|refine qC co ?_|refine qC c1 ?_)|(refine shX ?_;first|refine qX he ?_)|refine sK ?_|refine sC (fun _=>?_) (fun _=>?_)|fail)
       exact ⟨k + 1,⟨hlt,by rw [hv];simp⟩,tD,tS,tH⟩
    ·rw [drop_end (by omega)] at hv
     repeat' (first|refine sK ?_|refine sC (fun _=>?_) (fun _=>?_)|fail)
     refine zJ (fun k:Nat=>[(2,.pv (.ptr (zH g) 0)),(3,.pv (.ptr (yL m) 0)),(10,.pv (pi k))]) (fun _=>[])
      (fun k=>k≤m.clauses.length∧XZ g m=(m.clauses.drop k).all (fun c=>c.kind != 1||qx g c.t)) (fun k=>m.clauses.length - k) 0 ⟨by omega,by rw [hv];simp⟩ (tS) tH ?_
     clear hk hv hlt
     rintro k ⟨hk,hv⟩
     by_cases hlt:k < m.clauses.length
     ·have he:=yu (f:=ZB) hlt
      have c1:=Wp g m.clauses[k].t
      rw [Yl hlt] at hv
      cases hop:m.clauses[k].kind==1
      ·rw [show (m.clauses[k].kind != 1)=true by rw [bne,hop];rfl] at hv
       repeat' (first|(refine shX ?_;first|refine qX he ?_)|refine sK ?_|refine sC (fun _=>?_) (fun _=>?_)|fail)
       exact ⟨k + 1,⟨hlt,by rw [hv];simp⟩,tD,tS,tH⟩
      ·rw [show (m.clauses[k].kind != 1)=false by rw [bne,hop];rfl] at hv
       cases hu:qx g m.clauses[k].t
       ·rw [hu] at c1 hv
        repeat' (first|(refine shC ?_;first|refine qC c1 ?_)|(refine shX ?_;first|refine qX he ?_)|refine sK ?_|refine sC (fun _=>?_) (fun _=>?_)|fail)
        exact retq rfl (by rw [hv];simp [zk])
       ·rw [hu] at c1 hv
        repeat' (first|(refine shC ?_;first|refine qC c1 ?_)|(refine shX ?_;first|refine qX he ?_)|refine sK ?_|refine sC (fun _=>?_) (fun _=>?_)|fail)
        exact ⟨k + 1,⟨hlt,by rw [hv];simp⟩,tD,tS,tH⟩
     ·rw [drop_end (by omega)] at hv
      repeat' (first|refine sK ?_|refine sC (fun _=>?_) (fun _=>?_)|fail)
      exact retq rfl (by rw [hv];rfl)
set_option maxHeartbeats 20000000
def Qe (g:Img) (m:Int):Bool:=decide (m < 0)||yM (mAt g m).flags 4
def Wx (g:Img) (t:Int) (what:Int→Int) (fs:List Int):Bool:=!(tbl g t).any (Qe g)&&!fs.any fun f=>(methodsOf g f).any fun m=>Qe g (what m)
def okI (g:Img) (m:Int):Prop:=m < 0∨mOk g m
theorem zfU (g:Img) (hF:Fine g) (m:Int) (hm:okI g m):ACall Tryz.prog 119 ([]++[pi m]++[.ptr (zH g) 0]) (pb (Qe g m)):=by
 show ACall Tryz.prog 119 [pi m,.ptr (zH g) 0] (pb (Qe g m))
 refine zh zf Tryz.func119 rfl (by kernel_rfl) Tryz.ntmps119 (by simp) _ rfl (fun hw gB hgB=>?_)
 by_cases h0:m < 0
 ·repeat' (first|refine sK ?_|refine sC (fun _=>?_) (fun _=>?_)|fail)
  exact retq rfl (by rw [Qe,decide_eq_true h0];rfl)
 ·have hm2:mOk g m:=hm.resolve_left h0
  have hem:=ZF hm2
  have h:=VR hF.formed hm2
  have c:=Xa (mAt g m) 4
  rw [(zbl h.1 h.2).2.2.1] at c
  have hd:decide (m < 0)=false:=decide_eq_false h0
  repeat' (first|(refine shC ?_;first|refine qC c ?_)|(refine shX ?_;first|refine zB rfl (zl zf rfl rfl rfl rfl rfl rfl hm2.1 hem) rfl rfl ?_|refine AD.step _ _ _ _ _ rfl (zl zf rfl rfl rfl rfl rfl rfl hm2.1 hem) rfl rfl ?_)|refine sK ?_|refine sC (fun _=>?_) (fun _=>?_)|fail)
  exact retq rfl (by rw [Qe,hd];rfl)
theorem zgz (g:Img) (m:Int) (hm:okI g m):ACall Tryz.prog 158 [zH g,pi m] (pb (Qe g m)):=by
 refine zh zf Tryz.func158 rfl (by kernel_rfl) Tryz.ntmps158 (by simp) _ rfl (fun hw gB hgB=>?_)
 by_cases h0:m < 0
 ·repeat' (first|refine sK ?_|refine sC (fun _=>?_) (fun _=>?_)|fail)
  exact retq rfl (by rw [Qe,decide_eq_true h0];rfl)
 ·have hm2:mOk g m:=hm.resolve_left h0
  have hem:=ZF hm2
  have hd:decide (m < 0)=false:=decide_eq_false h0
  repeat' (first|(refine shC ?_;first|refine qC (zfj _) ?_)|(refine shX ?_;first|refine zB rfl (zl zf rfl rfl rfl rfl rfl rfl hm2.1 hem) rfl rfl ?_|refine AD.step _ _ _ _ _ rfl (zl zf rfl rfl rfl rfl rfl rfl hm2.1 hem) rfl rfl ?_)|refine sK ?_|refine sC (fun _=>?_) (fun _=>?_)|fail)
  exact retq rfl (by rw [Qe,hd];rfl)
theorem zlj {g:Img} (hW:Wl g) {t m:Int} (hm:mOk g m) (hb:zN g (QN g m)=0→QN g m∈up g t):mOk g (zar g t m):=by
 rw [zar]
 split
 ·exact hm
 ·rename_i h
  have:=zkd hW hb h
  rw [zL this]
  exact zgo (List.getElem_mem this)
theorem zmf {g:Img} (hW:Wl g) {t m:Int} (hk:zN g t=0):okI g (XT g t m):=by
 rw [XT]
 cases h:ziP g t m with
 | none=>exact .inl (by show (-1:Int) < 0;omega)
 | some k =>
  have:=List.mem_of_find?_eq_some h
  obtain ⟨u,hu,hku⟩:=List.mem_flatMap.1 this
  obtain ⟨q1,q2,q3⟩:=up0 hW hk hu hku
  exact .inr (zlj hW q1 q3)
theorem zqw {g:Img} (hW:Wl g) {t m:Int} (hm:mOk g m) (hk:zN g t=0) (hb:zN g (QN g m)=0→QN g m∈up g t):okI g (QX g t m):=by
 rw [QX]
 split
 ·exact zmf hW hk
 ·exact .inr (zlj hW hm hb)
theorem zpu {g:Img} (hF:Fm g) (t:Int):(YC g t).length≤g.types.length:=by
 have:=(zhy hF t).2.len
 rw [YC,sortL]
 simpa using this
theorem zkQ (g:Img) (hF:Fine g) (t:Int) (hk:zN g t=0):ACall Tryz.prog 71 [zH g,pi t] (pb (Wx g t (XT g t) (YC g t))):=by
 have hW:=Vu hF.well
 obtain ⟨hgt,_,hgm,_⟩:=zW hF.formed
 have c1:=zgE g hF t
 have c2:=Xi (tbl g t) (Qe g) 119 [] [.ptr (zH g) 0] (fun x hx=>zfU g hF x (.inr (zgo hx)))
 have c3:=zfL g t (zcq hF.formed)
 have hfpl:=zpu (zcq hF.formed) t
 refine zh zf Tryz.func71 rfl (by kernel_rfl) Tryz.ntmps71 (by simp) _ rfl (fun hw gB hgB=>?_)
 rw [Wx]
 cases ho:(tbl g t).any (Qe g)
 ·rw [ho] at c2
  repeat' (first|(refine shC ?_;first|refine qC c1 ?_|refine qC c2 ?_|refine qC c3 ?_)|refine sK ?_|refine sC (fun _=>?_) (fun _=>?_)|fail)
  refine zJ (fun i:Nat=>[(1,.pv (pi t)),(2,.pv (.ptr (zH g) 0)),(5,.pv (.fn (.func 119) [] [.ptr (zH g) 0])),(18,.pv (ints (YC g t))),(19,.pv (pi (YC g t).length)),(20,.pv (pi i))]) (fun _=>[])
   (fun i=>i≤(YC g t).length∧((YC g t).any fun f=>(methodsOf g f).any fun m=>Qe g (XT g t m))=((YC g t).drop i).any fun f=>(methodsOf g f).any fun m=>Qe g (XT g t m)) (fun i=>(YC g t).length - i) 0 ⟨by omega,rfl⟩
   (by repeat (first|exact yS|refine yG rfl ?_|(refine Zc rfl ?_ ?_;· simp))) tH ?_
  rintro i ⟨hi,hr⟩
  by_cases hlt:i < (YC g t).length
  ·obtain ⟨f,hf⟩:∃ f,f=(YC g t)[i]:=⟨_,rfl⟩
   have hef:((YC g t).map pi)[i]?=some (pi f):=by rw [hf];exact yu (f:=pi) hlt
   have cm:=YD g f (by omega)
   have hml:=Zn g f
   rw [WS hlt,←hf] at hr
   repeat' (first|(refine shC ?_;first|refine qC cm ?_)|(refine shX ?_;first|refine qX hef ?_)|refine sK ?_|refine sC (fun _=>?_) (fun _=>?_)|fail)
   refine zJ (fun j:Nat=>[(1,.pv (pi t)),(2,.pv (.ptr (zH g) 0)),(5,.pv (.fn (.func 119) [] [.ptr (zH g) 0])),(18,.pv (ints (YC g t))),(19,.pv (pi (YC g t).length)),(20,.pv (pi i)),(26,.pv (ints (methodsOf g f))),(27,.pv (pi (methodsOf g f).length)),(28,.pv (pi j))]) (fun _=>[])
    (fun j=>j≤(methodsOf g f).length∧((YC g t).any fun f=>(methodsOf g f).any fun m=>Qe g (XT g t m))=((((methodsOf g f).drop j).any fun m=>Qe g (XT g t m))||((YC g t).drop (i + 1)).any fun f=>(methodsOf g f).any fun m=>Qe g (XT g t m))) (fun j=>(methodsOf g f).length - j) 0 ⟨by omega,hr⟩
    (by repeat (first|exact yS|refine yG rfl ?_|(refine Zc rfl ?_ ?_;· simp))) tH ?_
   clear hr
   rintro j ⟨hj,hr⟩
   by_cases hjl:j < (methodsOf g f).length
   ·obtain ⟨m,hm⟩:∃ m,m=(methodsOf g f)[j]:=⟨_,rfl⟩
    have hem:((methodsOf g f).map pi)[j]?=some (pi m):=by rw [hm];exact yu (f:=pi) hjl
    have hmk:mOk g m:=by rw [hm];exact qc (List.getElem_mem hjl)
    have cf:=zoM g hF t m hmk hk
    have cv:=zfU g hF (XT g t m) (zmf hW hk)
    rw [WS hjl,←hm] at hr
    cases hop:Qe g (XT g t m)
    ·rw [hop] at cv hr
     repeat' (first|(refine shC ?_;first|refine qC cf ?_|refine qV (cv) ?_)|(refine shX ?_;first|refine qX hem ?_)|refine sK ?_|refine sC (fun _=>?_) (fun _=>?_)|fail)
     exact ⟨j + 1,⟨hjl,hr⟩,tD,tS,tH⟩
    ·rw [hop] at cv hr
     repeat' (first|(refine shC ?_;first|refine qC cf ?_|refine qV (cv) ?_)|(refine shX ?_;first|refine qX hem ?_)|refine sK ?_|refine sC (fun _=>?_) (fun _=>?_)|fail)
     exact retq rfl (by rw [hr];rfl)
   ·rw [drop_end (by omega)] at hr
    repeat' (first|refine sK ?_|refine sC (fun _=>?_) (fun _=>?_)|fail)
    exact ⟨i + 1,⟨hlt,hr⟩,tD,tS,tH⟩
  ·rw [drop_end (by omega)] at hr
   repeat' (first|refine sK ?_|refine sC (fun _=>?_) (fun _=>?_)|fail)
   exact retq rfl (by rw [hr];rfl)
 ·rw [ho] at c2
  repeat' (first|(refine shC ?_;first|refine qC c1 ?_|refine qC c2 ?_)|refine sK ?_|refine sC (fun _=>?_) (fun _=>?_)|fail)
  exact retq rfl rfl
theorem zh7 (g:Img) (hF:Fine g) (t:Int) (hk:zN g t=0):ACall Tryz.prog 107 [zH g,pi t] (pb (Wx g t (QX g t) (Zz g t))):=by
 have hW:=Vu hF.well
 have hFm:=zcq hF.formed
 obtain ⟨hgt,_,hgm,hgf⟩:=zW hF.formed
 have c1:=zdE g hF _ t (Nat.le_refl _)
 have c3:=zaF g t (by omega) (fun td h=>by have:=(Ye (hgf td h)).2.2.2.2.1;omega)
 refine zh zf Tryz.func107 rfl (by kernel_rfl) Tryz.ntmps107 (by simp) _ rfl (fun hw gB hgB=>?_)
 rw [Wx]
 obtain ⟨N,hN⟩:∃ N,N=(Zz g t).any fun f=>(methodsOf g f).any fun m=>Qe g (QX g t m):=⟨_,rfl⟩
 rw [←hN]
 repeat' (first|(refine shC ?_;first|refine qC c1 ?_)|refine sK ?_|refine sC (fun _=>?_) (fun _=>?_)|fail)
 refine zJ (fun i:Nat=>[(1,.pv (pi t)),(2,.pv (.ptr (zH g) 0)),(5,.pv (ints (tbl g t))),(6,.pv (pi i))]) (fun _=>[]) (fun i=>i≤(tbl g t).length∧(tbl g t).any (Qe g)=((tbl g t).drop i).any (Qe g)) (fun i=>(tbl g t).length - i) 0 ⟨by omega,rfl⟩ (tS) tH ?_
 have htl:=zjI hF t
 rintro i ⟨hi,hr⟩
 by_cases hlt:i < (tbl g t).length
 ·have he:((tbl g t).map pi)[i]?=some (pi (tbl g t)[i]):=yu (f:=pi) hlt
  have co:=zgz g (tbl g t)[i] (.inr (zgo (List.getElem_mem hlt)))
  rw [WS hlt] at hr
  cases ho:Qe g (tbl g t)[i]
  ·rw [ho] at co hr
   repeat' (first|(refine shC ?_;first|refine qC co ?_)|(refine shX ?_;first|refine qX he ?_)|refine sK ?_|refine sC (fun _=>?_) (fun _=>?_)|fail)
   exact ⟨i + 1,⟨hlt,hr⟩,tD,tS,tH⟩
  ·rw [ho] at co hr
   repeat' (first|(refine shC ?_;first|refine qC co ?_)|(refine shX ?_;first|refine qX he ?_)|refine sK ?_|refine sC (fun _=>?_) (fun _=>?_)|fail)
   exact retq rfl (by rw [hr];rfl)
 ·rw [drop_end (by omega)] at hr
  rw [hr]
  clear hr
  repeat' (first|(refine shC ?_;first|refine qC c3 ?_)|refine sK ?_|refine sC (fun _=>?_) (fun _=>?_)|fail)
  refine zJ (fun i:Nat=>[(1,.pv (pi t)),(2,.pv (.ptr (zH g) 0)),(7,.pv (ints (Zz g t))),(8,.pv (pi i))]) (fun _=>[])
   (fun i=>i≤(Zz g t).length∧N=((Zz g t).drop i).any fun f=>(methodsOf g f).any fun m=>Qe g (QX g t m)) (fun i=>(Zz g t).length - i) 0 ⟨by omega,hN⟩ (tS) tH ?_
  have hfl:(Zz g t).length≤1000:=by
   have:(Zz g t).length≤(nums g.types.length).length:=List.length_filter_le _ _
   simp [nums] at this;omega
  rintro i ⟨hi,hr⟩
  by_cases hlt:i < (Zz g t).length
  ·obtain ⟨f,hf⟩:∃ f,f=(Zz g t)[i]:=⟨_,rfl⟩
   have hfk:zN g f=2:=hW.rf_kind ((zbB hFm).1 (by rw [hf];exact List.getElem_mem hlt))
   have hef:((Zz g t).map pi)[i]?=some (pi f):=by rw [hf];exact yu (f:=pi) hlt
   have cm:=Qh g f (by omega)
   have hml:=Zn g f
   rw [WS hlt,←hf] at hr
   repeat' (first|(refine shC ?_;first|refine qC cm ?_)|(refine shX ?_;first|refine qX hef ?_)|refine sK ?_|refine sC (fun _=>?_) (fun _=>?_)|fail)
   refine zJ (fun j:Nat=>[(1,.pv (pi t)),(2,.pv (.ptr (zH g) 0)),(7,.pv (ints (Zz g t))),(8,.pv (pi i)),(9,.pv (ints (methodsOf g f))),(10,.pv (pi j))]) (fun _=>[])
    (fun j=>j≤(methodsOf g f).length∧N=((((methodsOf g f).drop j).any fun m=>Qe g (QX g t m))||((Zz g t).drop (i + 1)).any fun f=>(methodsOf g f).any fun m=>Qe g (QX g t m))) (fun j=>(methodsOf g f).length - j) 0 ⟨by omega,hr⟩ (tS) tH ?_
   clear hr
   rintro j ⟨hj,hr⟩
   by_cases hjl:j < (methodsOf g f).length
   ·obtain ⟨m,hm⟩:∃ m,m=(methodsOf g f)[j]:=⟨_,rfl⟩
    have hmf:m∈methodsOf g f:=by rw [hm];exact List.getElem_mem hjl
    have hem:((methodsOf g f).map pi)[j]?=some (pi m):=by rw [hm];exact yu (f:=pi) hjl
    have hmk:mOk g m:=qc hmf
    have hb:zN g (QN g m)=0→QN g m∈up g t:=fun h=>by rw [WH hmf,hfk] at h;omega
    have cd:=zmC g hF t m hmk hk hb
    have cv:=zgz g (QX g t m) (zqw hW hmk hk hb)
    rw [WS hjl,←hm] at hr
    cases hop:Qe g (QX g t m)
    ·rw [hop] at cv hr
     repeat' (first|(refine shC ?_;first|refine qC cd ?_|refine qC cv ?_)|(refine shX ?_;first|refine qX hem ?_)|refine sK ?_|refine sC (fun _=>?_) (fun _=>?_)|fail)
     exact ⟨j + 1,⟨hjl,hr⟩,tD,tS,tH⟩
    ·rw [hop] at cv hr
     repeat' (first|(refine shC ?_;first|refine qC cd ?_|refine qC cv ?_)|(refine shX ?_;first|refine qX hem ?_)|refine sK ?_|refine sC (fun _=>?_) (fun _=>?_)|fail)
     exact retq rfl (by rw [hr];rfl)
   ·rw [drop_end (by omega)] at hr
    repeat' (first|refine sK ?_|refine sC (fun _=>?_) (fun _=>?_)|fail)
    exact ⟨i + 1,⟨hlt,hr⟩,tD,tS,tH⟩
  ·rw [drop_end (by omega)] at hr
   repeat' (first|refine sK ?_|refine sC (fun _=>?_) (fun _=>?_)|fail)
   exact retq rfl (by rw [hr];rfl)
def zsG (t:Ty):Bool:=decide (t=⟨1,0,0,false⟩)||decide (t=⟨2,0,0,false⟩)||decide (t=⟨3,0,0,false⟩)
def zqz (m:Me):Bool:=yM m.flags 1&&!yM m.flags 4&&m.params.length==0&&zsG m.ret
theorem zsL {t:Ty} (hp:Zw t=true) (hr:t.ref=false):zsG t=(t.dims==0&&decide (1≤t.kind)&&decide (t.kind≤3)):=by
 obtain ⟨k,i,d,r⟩:=t
 simp only at hr
 subst hr
 rw [Bool.eq_iff_iff]
 simp only [zsG,Ty.mk.injEq,Bool.or_eq_true,decide_eq_true_eq,Bool.and_eq_true,beq_iff_eq,and_true]
 constructor
 ·omega
 ·rintro ⟨⟨h1,h2⟩,h3⟩
  have hk:k=1∨k=2∨k=3:=by omega
  rcases hk with rfl|rfl|rfl <;> simp_all [Zw]
set_option maxHeartbeats 1000000 in
theorem zja (g:Img) (m:Me) (h:MeOk g m):ACall Tryz.prog 73 [yL m] (pb (zqz m)):=by
 obtain ⟨h1,_,h4,_,_⟩:=ztj h
 have e1:=QA m.ret ⟨1,0,0,false⟩
 have e2:=QA m.ret ⟨2,0,0,false⟩
 have e3:=QA m.ret ⟨3,0,0,false⟩
 have hl:((((m.params.map yJ).length:Nat):Int)==0)=(m.params.length==0):=by
  rw [List.length_map,Bool.eq_iff_iff];simp only [beq_iff_eq];omega
 refine zh zf Tryz.func73 rfl (by kernel_rfl) Tryz.ntmps73 (by simp) _ rfl (fun hw gB hgB=>?_)
 rw [zqz,zsG,←e1,←e2,←e3]
 generalize yM m.flags 1=b1 at h1 ⊢
 generalize yM m.flags 4=b4 at h4 ⊢
 clear e1 e2 e3
 repeat' (first|(refine shC ?_;first|refine qC h1 ?_|refine qC h4 ?_)|refine sA ?_|refine sC (fun _=>?_) (fun _=>?_)|fail)
 all_goals (refine retq rfl ?_;first|(simp_all [zk];done)|(simp_all [zk];intro hh;rcases hh with ⟨a1,a2,a3,a4⟩|⟨a1,a2,a3,a4⟩ <;> simp_all))
abbrev ze5:=(Int × Int) × Int
def zjH (r:ze5):PV:=.tup [.agg [pi r.1.1,pi r.1.2],pi r.2]
def stE (g:Img):ze5:=if decide (0≤g.entry)&&!zqz (mAt g g.entry) then ((1,g.entry),11) else ((0,0),0)
def zpr (g:Img) (t:Int):Bool:=zN g t==3&&(methodsOf g t).length==0
def zs8 (g:Img) (W:Int→Bool) (t:Int):Bool:=zN g t==0&&!yM (g.types.getD t.toNat default).flags 4&&!W t
def stD (g:Img):List Nat→ze5
 | []=>stE g
 | t::ts=>if zpr g (t:Int) then ((0,(t:Int)),8) else stD g ts
def stC (g:Img) (W:Int→Bool):List Nat→ze5
 | []=>stD g (List.range g.types.length)
 | t::ts=>if zs8 g W (t:Int) then ((0,(t:Int)),18) else stC g W ts
def stM (g:Img):List Nat→ze5
 | []=>stC g (fun t=>Wx g t (QX g t) (Zz g t)) (List.range g.types.length)
 | i::is=>if zfR g (mAt g (i:Int)) then (if XZ g (mAt g (i:Int)) then stM g is else ((1,(i:Int)),10)) else ((1,(i:Int)),8)
def qM (g:Img):ze5:=if zdg g then stM g (List.range g.methods.length) else ((0,0),17)
theorem Wj {n k:Nat} (h:k < n):(List.range n).drop k=k::(List.range n).drop (k + 1):=by
 rw [List.drop_eq_getElem_cons (by simpa using h)];simp
theorem VN (n:Nat):(List.range n).drop n=[]:=List.drop_eq_nil_of_le (by simp)
theorem zdm {l l':List Int} {p q:Int→Bool} (h:∀ x,x∈l↔x∈l') (hp:∀ x∈l,p x=q x):l.any p=l'.any q:=by
 rw [Bool.eq_iff_iff,List.any_eq_true,List.any_eq_true]
 constructor
 ·rintro ⟨x,hx,hpx⟩;exact ⟨x,(h x).1 hx,by rw [←hp x hx];exact hpx⟩
 ·rintro ⟨x,hx,hpx⟩;exact ⟨x,(h x).2 hx,by rw [hp x ((h x).2 hx)];exact hpx⟩
theorem zoB {k:Int} {b1 b2 b4 b8 b16 rv f16 em nc m1 ab:Bool} (h:YS k b1 b2 b4 b8 b16 rv f16 em nc m1 ab=true) (hk:k=2):b2=true:=by
 subst hk
 cases b2
 ·cases b4
  ·simp [YS] at h
  ·simp [YS] at h
 ·rfl
theorem zqm {g:Img} (hF:Fine g) (hm:∀ i,i < g.methods.length→zfR g (mAt g (i:Int))=true) (t:Int):Wx g t (XT g t) (YC g t)=Wx g t (QX g t) (Zz g t):=by
 have hFm:=zcq hF.formed
 have hW:=Vu hF.well
 rw [Wx,Wx]
 congr 2
 refine zdm (fun f=>by rw [zbu hFm,zbB hFm]) fun f hf=>?_
 refine zdm (fun m=>Iff.rfl) fun m hmm=>?_
 have hk:zN g (QN g m)=2:=by rw [WH hmm];exact hW.rf_kind ((zbu hFm).1 hf)
 have hmo:=qc hmm
 have h1:=hm m.toNat hmo.2
 rw [Int.toNat_of_nonneg hmo.1] at h1
 have hv:VD g m=true:=zoB h1 hk
 rw [QX,hk,hv];rfl
theorem zjJ {g:Img} {k:Nat} (h:k < g.methods.length):mOk g (k:Int):=⟨by omega,by simpa using h⟩
theorem zq4 {g:Img} {k:Nat} (h:k < g.methods.length):(g.methods.map yL)[((k:Int)).toNat]?=some (yL (mAt g (k:Int))):=ZF (zjJ h)
theorem zru {g:Img} {k:Nat} (h:k < g.types.length):(g.types.map ZA)[((k:Int)).toNat]?=some (ZA (g.types.getD ((k:Int)).toNat default)):=by
 have h':((k:Int)).toNat < g.types.length:=by simpa using h
 rw [zL h'];exact qW h'
theorem zkN {g:Img} (hf:yg g=true) (h:0≤g.entry):mOk g g.entry:=by
 simp only [yg,Bool.and_eq_true,decide_eq_true_eq] at hf
 exact ⟨h,by omega⟩
theorem zpE {f:Int} (h0:0≤f) (h1:f≤31):(IntKind.i64.wrap ((BitVec.ofInt IntKind.i64.bits f &&& BitVec.ofInt IntKind.i64.bits 4).toNat:Int)==0)=!yM f 4:=by
 rw [←(zbl h0 h1).2.2.1,qK,bne,Bool.not_not]
theorem zqZ:∀ a:Fin 32,((IntKind.i64.wrap ((a.val:Int).tdiv 4)).tmod 2==0)=!yM (a.val:Int) 4:=by decide +kernel
theorem zoF {f:Int} (h0:0≤f) (h1:f≤31):((IntKind.i64.wrap (f.tdiv 4)).tmod 2==0)=!yM f 4:=by
 have:=zqZ ⟨f.toNat,by omega⟩
 simpa only [Int.toNat_of_nonneg h0] using this
theorem ziM {g:Img} (hf:yg g=true) {k:Nat} (h:k < g.types.length):0≤(g.types.getD ((k:Int)).toNat default).flags∧(g.types.getD ((k:Int)).toNat default).flags≤31:=zkm hf (by omega) (by simpa using h)
theorem zlN {l:List Int}:((((l.map pi).length:Nat):Int)==0)=(l.length==0):=by
 rw [List.length_map,Bool.eq_iff_iff];simp only [beq_iff_eq];omega
set_option maxHeartbeats 4000000 in
theorem zlx (g:Img) (hx:OkA g):ACall Tryz.prog 51 [zH g] (zjH (qM g)):=by
 have c0:=znA g hx
 refine zh zf Tryz.func51 rfl (by kernel_rfl) Tryz.ntmps51 (by simp) _ rfl (fun hw gB hgB=>?_)
 cases hfi:zdg g
 ·rw [hfi] at c0
  repeat' (first|(refine shC ?_;first|refine qC c0 ?_)|refine sK ?_|refine sC (fun _=>?_) (fun _=>?_)|fail)
  exact retq rfl (by rw [qM,hfi];rfl)
 ·rw [hfi] at c0
  have hF:=zc7 hfi
  obtain ⟨hgt,_,hgm,_⟩:=zW hF.formed
  have hr0:qM g=stM g (List.range g.methods.length):=by rw [qM,hfi];rfl
  repeat' (first|(refine shC ?_;first|refine qC c0 ?_)|refine sK ?_|refine sC (fun _=>?_) (fun _=>?_)|fail)
  refine zJ (fun k:Nat=>[(1,.pv (.ptr (zH g) 0)),(2,.box 0 0),(14,.pv (.slc 12 (g.methods.map yL) false)),(15,.pv (pi g.methods.length)),(16,.pv (pi k))]) (fun _=>[(0,.cell (.pv (.agg [pi 0,pi 0])))])
   (fun k=>k≤g.methods.length∧qM g=stM g ((List.range g.methods.length).drop k)∧∀ i,i < k→zfR g (mAt g (i:Int))=true) (fun k=>g.methods.length - k) 0 ⟨by omega,hr0,fun i h=>by omega⟩ (by repeat (first|exact yS|refine yG rfl ?_|(refine Zc rfl ?_ ?_;· simp))) tH ?_
  rintro k ⟨hk,hr,hall⟩
  by_cases hlt:k < g.methods.length
  ·have he:=zq4 hlt
   have hM:=zaO hF.formed (zjJ hlt)
   have cf:=zh0 g hF.formed _ hM
   have co:=zkT g hF.formed _ hM
   have ct:=zmg g hF.formed _ hM
   have hfe:=zsi hM
   rw [Wj hlt,stM] at hr
   cases hf:zn7 g (mAt g (k:Int))
   ·rw [hf] at cf hfe
    rw [←hfe] at hr
    repeat' (first|(refine shC ?_;first|refine qC cf ?_)|(refine shX ?_;first|refine qX he ?_)|refine sK ?_|refine sC (fun _=>?_) (fun _=>?_)|fail)
    exact retq rfl (by rw [hr];rfl)
   ·rw [hf] at cf hfe
    cases ho:zjv g (mAt g (k:Int))
    ·rw [ho] at co hfe
     rw [←hfe] at hr
     repeat' (first|(refine shC ?_;first|refine qC cf ?_|refine qC co ?_)|(refine shX ?_;first|refine qX he ?_)|refine sK ?_|refine sC (fun _=>?_) (fun _=>?_)|fail)
     exact retq rfl (by rw [hr];rfl)
    ·rw [ho] at co hfe
     have hfR:zfR g (mAt g (k:Int))=true:=hfe.symm
     rw [hfR,if_pos rfl] at hr
     cases ht:XZ g (mAt g (k:Int))
     ·rw [ht] at ct hr
      repeat' (first|(refine shC ?_;first|refine qC cf ?_|refine qC co ?_|refine qC ct ?_)|(refine shX ?_;first|refine qX he ?_)|refine sK ?_|refine sC (fun _=>?_) (fun _=>?_)|fail)
      exact retq rfl (by rw [hr];rfl)
     ·rw [ht] at ct hr
      repeat' (first|(refine shC ?_;first|refine qC cf ?_|refine qC co ?_|refine qC ct ?_)|(refine shX ?_;first|refine qX he ?_)|refine sK ?_|refine sC (fun _=>?_) (fun _=>?_)|fail)
      exact ⟨k + 1,⟨hlt,hr,fun i hi=>by
       by_cases e:i=k
       ·subst e;exact hfR
       ·exact hall i (by omega)⟩,tD,tS,tH⟩
  ·have hk2:k=g.methods.length:=by omega
   subst hk2
   rw [VN,stM] at hr
   have hwe:=fun t=>zqm hF hall t
   clear hall
   repeat' (first|refine sK ?_|refine sC (fun _=>?_) (fun _=>?_)|fail)
   refine zJ (fun k:Nat=>[(1,.pv (.ptr (zH g) 0)),(2,.box 0 0),(43,.pv (.slc 4 (g.types.map ZA) false)),(44,.pv (pi g.types.length)),(45,.pv (pi k))]) (fun _=>[(0,.cell (.pv (.agg [pi 0,pi 0])))])
    (fun k=>k≤g.types.length∧qM g=stC g (fun t=>Wx g t (QX g t) (Zz g t)) ((List.range g.types.length).drop k)) (fun k=>g.types.length - k) 0 ⟨by omega,hr⟩ (by repeat (first|exact yS|refine yG rfl ?_|(refine Zc rfl ?_ ?_;· simp))) tH ?_
   clear hr hk hlt
   rintro k ⟨hk,hr⟩
   by_cases hlt:k < g.types.length
   ·have he:=zru hlt
    have hfl:=ziM hF.formed hlt
    have hz:=zpE hfl.1 hfl.2
    have ck:=ZI g hF.formed (k:Int)
    rw [Wj hlt,stC,zs8] at hr
    by_cases hk0:zN g (k:Int)=0
    ·have cw:=zkQ g hF (k:Int) hk0
     rw [hwe] at cw
     rw [hk0] at ck hr
     cases hb:yM (g.types.getD ((k:Int)).toNat default).flags 4
     ·rw [hb] at hz hr
      cases hw2:Wx g (k:Int) (QX g (k:Int)) (Zz g (k:Int))
      ·rw [hw2] at cw hr
       repeat' (first|(refine shC ?_;first|refine qC ck ?_|refine qC cw ?_)|(refine shX ?_;first|refine qX he ?_)|refine sK ?_|refine sC (fun _=>?_) (fun _=>?_)|fail)
       exact retq rfl (by rw [hr];rfl)
      ·rw [hw2] at cw hr
       repeat' (first|(refine shC ?_;first|refine qC ck ?_|refine qC cw ?_)|(refine shX ?_;first|refine qX he ?_)|refine sK ?_|refine sC (fun _=>?_) (fun _=>?_)|fail)
       exact ⟨k + 1,⟨hlt,hr⟩,tD,tS,tH⟩
     ·rw [hb] at hz hr
      repeat' (first|(refine shC ?_;first|refine qC ck ?_)|(refine shX ?_;first|refine qX he ?_)|refine sK ?_|refine sC (fun _=>?_) (fun _=>?_)|fail)
      exact ⟨k + 1,⟨hlt,hr⟩,tD,tS,tH⟩
    ·have hkb:(zN g (k:Int)==0)=false:=by simp [hk0]
     rw [hkb] at hr
     repeat' (first|(refine shC ?_;first|refine qC ck ?_)|(refine shX ?_;first|refine qX he ?_)|refine sK ?_|refine sC (fun _=>?_) (fun _=>?_)|fail)
     exact ⟨k + 1,⟨hlt,hr⟩,tD,tS,tH⟩
   ·have hk2:k=g.types.length:=by omega
    subst hk2
    rw [VN,stC] at hr
    repeat' (first|refine sK ?_|refine sC (fun _=>?_) (fun _=>?_)|fail)
    refine zJ (fun k:Nat=>[(1,.pv (.ptr (zH g) 0)),(2,.box 0 0),(71,.pv (pi g.types.length)),(72,.pv (pi k))]) (fun _=>[(0,.cell (.pv (.agg [pi 0,pi 0])))])
     (fun k=>k≤g.types.length∧qM g=stD g ((List.range g.types.length).drop k)) (fun k=>g.types.length - k) 0 ⟨by omega,hr⟩ (by repeat (first|exact yS|refine yG rfl ?_|(refine Zc rfl ?_ ?_;· simp))) tH ?_
    clear hr hk hlt
    rintro k ⟨hk,hr⟩
    by_cases hlt:k < g.types.length
    ·have ck:=ZI g hF.formed (k:Int)
     have cm:=YD g (k:Int) (by omega)
     have hlz:=zlN (l:=methodsOf g (k:Int))
     rw [Wj hlt,stD,zpr] at hr
     by_cases hk3:zN g (k:Int)=3
     ·rw [hk3] at ck hr
      cases hb:(methodsOf g (k:Int)).length==0
      ·rw [hb] at hlz hr
       repeat' (first|(refine shC ?_;first|refine qC ck ?_|refine qC cm ?_)|refine sK ?_|refine sC (fun _=>?_) (fun _=>?_)|fail)
       exact ⟨k + 1,⟨hlt,hr⟩,tD,tS,tH⟩
      ·rw [hb] at hlz hr
       repeat' (first|(refine shC ?_;first|refine qC ck ?_|refine qC cm ?_)|refine sK ?_|refine sC (fun _=>?_) (fun _=>?_)|fail)
       exact retq rfl (by rw [hr];rfl)
     ·have hkb:(zN g (k:Int)==3)=false:=by simp [hk3]
      rw [hkb] at hr
      repeat' (first|(refine shC ?_;first|refine qC ck ?_)|refine sK ?_|refine sC (fun _=>?_) (fun _=>?_)|fail)
      exact ⟨k + 1,⟨hlt,hr⟩,tD,tS,tH⟩
    ·have hk2:k=g.types.length:=by omega
     subst hk2
     rw [VN,stD,stE] at hr
     by_cases h0:0≤g.entry
     ·have hen:=zkN hF.formed h0
      have hem:=ZF hen
      have cb:=zja g _ (zaO hF.formed hen)
      rw [decide_eq_true h0] at hr
      cases hb:zqz (mAt g g.entry)
      ·rw [hb] at cb hr
       repeat' (first|(refine shC ?_;first|refine qC cb ?_)|(refine shX ?_;first|refine zB rfl (zl zf rfl rfl rfl rfl rfl rfl h0 hem) rfl rfl ?_|refine AD.step _ _ _ _ _ rfl (zl zf rfl rfl rfl rfl rfl rfl h0 hem) rfl rfl ?_)|refine sK ?_|refine sC (fun _=>?_) (fun _=>?_)|fail)
       exact retq rfl (by rw [hr];rfl)
      ·rw [hb] at cb hr
       repeat' (first|(refine shC ?_;first|refine qC cb ?_)|(refine shX ?_;first|refine zB rfl (zl zf rfl rfl rfl rfl rfl rfl h0 hem) rfl rfl ?_|refine AD.step _ _ _ _ _ rfl (zl zf rfl rfl rfl rfl rfl rfl h0 hem) rfl rfl ?_)|refine sK ?_|refine sC (fun _=>?_) (fun _=>?_)|fail)
       exact retq rfl (by rw [hr];rfl)
     ·rw [decide_eq_false h0] at hr
      repeat' (first|refine sK ?_|refine sC (fun _=>?_) (fun _=>?_)|fail)
      exact retq rfl (by rw [hr];rfl)
set_option maxHeartbeats 4000000 in
theorem zih (g:Img):ACall Tryz.prog 64 [zH g] (zjH (qM g)):=by
 have c0:=zm6 g
 refine zh zf Tryz.func64 rfl (by kernel_rfl) Tryz.ntmps64 (by simp) _ rfl (fun hw gB hgB=>?_)
 cases hfi:zdg g
 ·rw [hfi] at c0
  repeat' (first|(refine shC ?_;first|refine qC c0 ?_)|refine sK ?_|refine sC (fun _=>?_) (fun _=>?_)|fail)
  exact retq rfl (by rw [qM,hfi];rfl)
 ·rw [hfi] at c0
  have hF:=zc7 hfi
  obtain ⟨hgt,_,hgm,_⟩:=zW hF.formed
  have hr0:qM g=stM g (List.range g.methods.length):=by rw [qM,hfi];rfl
  repeat' (first|(refine shC ?_;first|refine qC c0 ?_)|refine sK ?_|refine sC (fun _=>?_) (fun _=>?_)|fail)
  refine zJ (fun k:Nat=>[(1,.pv (.ptr (zH g) 0)),(2,.box 0 0),(4,.pv (pi k))]) (fun _=>[(0,.cell (.pv (.agg [pi 0,pi 0])))])
   (fun k=>k≤g.methods.length∧qM g=stM g ((List.range g.methods.length).drop k)) (fun k=>g.methods.length - k) 0 ⟨by omega,hr0⟩ (tS) tH ?_
  rintro k ⟨hk,hr⟩
  by_cases hlt:k < g.methods.length
  ·have he:=zq4 hlt
   have hM:=zaO hF.formed (zjJ hlt)
   have cf:=zgc g hF.formed _ hM
   have ct:=zid g _ hM
   rw [Wj hlt,stM] at hr
   cases hf:zfR g (mAt g (k:Int))
   ·rw [hf] at cf hr
    repeat' (first|(refine shC ?_;first|refine qC cf ?_)|(refine shX ?_;first|refine qX he ?_)|refine sK ?_|refine sC (fun _=>?_) (fun _=>?_)|fail)
    exact retq rfl (by rw [hr];rfl)
   ·rw [hf] at cf hr
    cases ht:XZ g (mAt g (k:Int))
    ·rw [ht] at ct hr
     repeat' (first|(refine shC ?_;first|refine qC cf ?_|refine qC ct ?_)|(refine shX ?_;first|refine qX he ?_)|refine sK ?_|refine sC (fun _=>?_) (fun _=>?_)|fail)
     exact retq rfl (by rw [hr];rfl)
    ·rw [ht] at ct hr
     repeat' (first|(refine shC ?_;first|refine qC cf ?_|refine qC ct ?_)|(refine shX ?_;first|refine qX he ?_)|refine sK ?_|refine sC (fun _=>?_) (fun _=>?_)|fail)
     exact ⟨k + 1,⟨hlt,hr⟩,tD,tS,tH⟩
  ·have hk2:k=g.methods.length:=by omega
   subst hk2
   rw [VN,stM] at hr
   repeat' (first|refine sK ?_|refine sC (fun _=>?_) (fun _=>?_)|fail)
   refine zJ (fun k:Nat=>[(1,.pv (.ptr (zH g) 0)),(2,.box 0 0),(5,.pv (pi k))]) (fun _=>[(0,.cell (.pv (.agg [pi 0,pi 0])))])
    (fun k=>k≤g.types.length∧qM g=stC g (fun t=>Wx g t (QX g t) (Zz g t)) ((List.range g.types.length).drop k)) (fun k=>g.types.length - k) 0 ⟨by omega,hr⟩ (tS) tH ?_
   clear hr hk hlt
   rintro k ⟨hk,hr⟩
   by_cases hlt:k < g.types.length
   ·have he:=zru hlt
    have hfl:=ziM hF.formed hlt
    have hz:=zoF hfl.1 hfl.2
    have ck:=qZ g (k:Int)
    rw [Wj hlt,stC,zs8] at hr
    by_cases hk0:zN g (k:Int)=0
    ·have cw:=zh7 g hF (k:Int) hk0
     rw [hk0] at ck hr
     cases hb:yM (g.types.getD ((k:Int)).toNat default).flags 4
     ·rw [hb] at hz hr
      cases hw2:Wx g (k:Int) (QX g (k:Int)) (Zz g (k:Int))
      ·rw [hw2] at cw hr
       repeat' (first|(refine shC ?_;first|refine qC ck ?_|refine qC cw ?_)|(refine shX ?_;first|refine qX he ?_)|refine sK ?_|refine sC (fun _=>?_) (fun _=>?_)|fail)
       exact retq rfl (by rw [hr];rfl)
      ·rw [hw2] at cw hr
       repeat' (first|(refine shC ?_;first|refine qC ck ?_|refine qC cw ?_)|(refine shX ?_;first|refine qX he ?_)|refine sK ?_|refine sC (fun _=>?_) (fun _=>?_)|fail)
       exact ⟨k + 1,⟨hlt,hr⟩,tD,tS,tH⟩
     ·rw [hb] at hz hr
      repeat' (first|(refine shC ?_;first|refine qC ck ?_)|(refine shX ?_;first|refine qX he ?_)|refine sK ?_|refine sC (fun _=>?_) (fun _=>?_)|fail)
      exact ⟨k + 1,⟨hlt,hr⟩,tD,tS,tH⟩
    ·have hkb:(zN g (k:Int)==0)=false:=by simp [hk0]
     rw [hkb] at hr
     repeat' (first|(refine shC ?_;first|refine qC ck ?_)|(refine shX ?_;first|refine qX he ?_)|refine sK ?_|refine sC (fun _=>?_) (fun _=>?_)|fail)
     exact ⟨k + 1,⟨hlt,hr⟩,tD,tS,tH⟩
   ·have hk2:k=g.types.length:=by omega
    subst hk2
    rw [VN,stC] at hr
    repeat' (first|refine sK ?_|refine sC (fun _=>?_) (fun _=>?_)|fail)
    refine zJ (fun k:Nat=>[(1,.pv (.ptr (zH g) 0)),(2,.box 0 0),(6,.pv (pi k))]) (fun _=>[(0,.cell (.pv (.agg [pi 0,pi 0])))])
     (fun k=>k≤g.types.length∧qM g=stD g ((List.range g.types.length).drop k)) (fun k=>g.types.length - k) 0 ⟨by omega,hr⟩ (tS) tH ?_
    clear hr hk hlt
    rintro k ⟨hk,hr⟩
    by_cases hlt:k < g.types.length
    ·have ck:=qZ g (k:Int)
     have cm:=Qh g (k:Int) (by omega)
     have hlz:=zlN (l:=methodsOf g (k:Int))
     rw [Wj hlt,stD,zpr] at hr
     by_cases hk3:zN g (k:Int)=3
     ·rw [hk3] at ck hr
      cases hb:(methodsOf g (k:Int)).length==0
      ·rw [hb] at hlz hr
       repeat' (first|(refine shC ?_;first|refine qC ck ?_|refine qC cm ?_)|refine sK ?_|refine sC (fun _=>?_) (fun _=>?_)|fail)
       exact ⟨k + 1,⟨hlt,hr⟩,tD,tS,tH⟩
      ·rw [hb] at hlz hr
       repeat' (first|(refine shC ?_;first|refine qC ck ?_|refine qC cm ?_)|refine sK ?_|refine sC (fun _=>?_) (fun _=>?_)|fail)
       exact retq rfl (by rw [hr];rfl)
     ·have hkb:(zN g (k:Int)==3)=false:=by simp [hk3]
      rw [hkb] at hr
      repeat' (first|(refine shC ?_;first|refine qC ck ?_)|refine sK ?_|refine sC (fun _=>?_) (fun _=>?_)|fail)
      exact ⟨k + 1,⟨hlt,hr⟩,tD,tS,tH⟩
    ·have hk2:k=g.types.length:=by omega
     subst hk2
     rw [VN,stD,stE] at hr
     by_cases h0:0≤g.entry
     ·have hen:=zkN hF.formed h0
      have hem:=ZF hen
      have hM:=zaO hF.formed hen
      have b1:=ziD (mAt g g.entry)
      have b4:=zfj (mAt g g.entry)
      have hmay:QG (mAt g g.entry).ret 3 g.types.length=true:=by
       have:=hM.formed
       simp only [qL,Bool.and_eq_true] at this
       exact this.1.1.1.2
      have hnr:(mAt g g.entry).ret.ref=false:=by
       have hpl:=(VT hmay).1
       rw [QG,Bool.and_eq_true,Zy,hpl] at hmay
       simpa using hmay.1
      have hl0:decide (0 < ((((mAt g g.entry).params.map yJ).length:Nat):Int))=!((mAt g g.entry).params.length==0):=by
       rw [List.length_map,Bool.eq_iff_iff]
       simp only [decide_eq_true_eq,Bool.not_eq_true',beq_eq_false_iff_ne]
       omega
      rw [decide_eq_true h0,zqz,zsL (VT hmay).1 hnr] at hr
      generalize yM (mAt g g.entry).flags 1=c1 at b1 hr
      generalize yM (mAt g g.entry).flags 4=c4 at b4 hr
      repeat' (first|(refine shX ?_;first|refine zB rfl (zl zf rfl rfl rfl rfl rfl rfl h0 hem) rfl rfl ?_|refine AD.step _ _ _ _ _ rfl (zl zf rfl rfl rfl rfl rfl rfl h0 hem) rfl rfl ?_)|refine sK ?_|refine sC (fun _=>?_) (fun _=>?_)|fail)
      all_goals repeat' (first|(refine shC ?_;first|refine qC b1 ?_|refine qC b4 ?_)|refine sA ?_|refine sC (fun _=>?_) (fun _=>?_)|fail)
      all_goals (refine retq rfl ?_;rw [hr];clear hr hr0;first|(rw [if_neg (by simp_all)];rfl)|(rw [if_pos (by simp_all)];rfl))
     ·rw [decide_eq_false h0] at hr
      repeat' (first|refine sK ?_|refine sC (fun _=>?_) (fun _=>?_)|fail)
      exact retq rfl (by rw [hr];rfl)
set_option maxHeartbeats 1000000 in
theorem zjm (g:Img):ACall Tryz.prog 48 [zH g] (pb ((qM g).2==0)):=by
 refine zh zf Tryz.func48 rfl (by kernel_rfl) Tryz.ntmps48 (by simp) _ rfl (fun hw gB hgB=>?_)
 repeat' (first|(refine shC ?_;first|refine qC (zih g) ?_)|refine sK ?_|refine sC (fun _=>?_) (fun _=>?_)|fail)
 exact retq rfl rfl
end Go.Cg
