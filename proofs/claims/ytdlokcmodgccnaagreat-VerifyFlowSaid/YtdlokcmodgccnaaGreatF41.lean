/- A part of the walks by abstract values: no statement of its own. -/
import Derived.Test.YtdlokcmodgccnaaGreatF37
import Derived.Test.YtdlokcmodgccnaaGreatF12
import Derived.Test.YtdlokcmodgccnaaGreatF19
import Derived.Test.YtdlokcmodgccnaaGreatF38
import Derived.Test.YtdlokcmodgccnaaGreatF39
set_option linter.unusedVariables false
set_option linter.unusedSimpArgs false
namespace Go.Cg
open Go.Proofs
set_option maxHeartbeats 20000000
structure DocOk (g:Img) (m:Me):Prop where
 me:MeOk g m
 fine:zcm g=true
 mm:∀ i:Int,0≤i→i.toNat < m.code.length→(zX m i).op=43∨(zX m i).op=44→mOk g (zX m i).arg
section
variable {g:Img} {m:Me}
theorem DocOk.chk (h:DocOk g m):(ZE m.code.length m.clauses).2=0:=by
 have:=h.me.formed
 simp only [yV,Zf,Wq,Bool.and_eq_true,beq_iff_eq] at this
 exact this.2.2
theorem YA (h:DocOk g m) (at_:Int):ACall Tryz.prog 23 [cls m.clauses,pi at_] (rgs (yh m.clauses at_)):=by
 have hcl:=zgM h.me
 rw [show yh m.clauses at_=YH (Qo at_ m.clauses) from zej (zpk h.chk) (zcq at_ m.clauses m.clauses.length)]
 exact zj1 m.clauses at_ hcl.n (hcl.s at_)
theorem zaU (h:DocOk g m) (at_ to:Int):RgOk m.clauses to (yh m.clauses at_):=by
 have hcl:=zgM h.me
 refine ⟨?_,fun x hx=>Wn hx,fun x hx=>?_⟩
 ·rw [show yh m.clauses at_=YH (Qo at_ m.clauses) from zej (zpk h.chk) (zcq at_ m.clauses m.clauses.length)]
  have h1:=zhf (Qo at_ m.clauses)
  have h2:=Vt at_ m.clauses m.clauses.length
  have h3:=hcl.n
  unfold Qo at *;omega
 ·obtain ⟨j,h1,h2,_⟩:=zdH hx
  obtain ⟨e1,e2,e3⟩:=XW h2
  unfold zcb
  rw [e1,show ((j:Int)).toNat=j by omega]
  rcases e2 with e2|e2|⟨e2,_⟩
  ·rw [e2] at e3
   simp only [bounds,beq_self_eq_true,if_true,Prod.mk.injEq] at e3
   rw [e3.1]
  ·rw [e2];rfl
  ·rw [e2];rfl
theorem zpa (h:DocOk g m) {r:Pt} (hc:0≤r.c∧r.c.toNat < m.clauses.length):1≤(m.clauses.getD r.c.toNat default).kind∧(m.clauses.getD r.c.toNat default).kind≤4:=by
 have ha:=(zfo h.chk).1 _ hc.2
 unfold ZW at ha
 split at ha
 ·simp at ha
 ·rename_i hn
  simp only [Bool.or_eq_true,decide_eq_true_eq,not_or] at hn
  omega
theorem out_ok (h:DocOk g m) (at_:Int):∀ x∈yh m.clauses at_,zoF m.clauses x=(x.p==3||x.p==2&&decide (2 < (m.clauses.getD x.c.toNat default).kind)):=fun x hx=>by
 have hk:=zpa h (Wn hx)
 unfold zoF
 generalize (m.clauses.getD x.c.toNat default).kind=k at hk
 have:k=1∨k=2∨k=3∨k=4:=by omega
 rcases this with rfl|rfl|rfl|rfl <;> simp
theorem zgl (h:DocOk g m) (i to:Int):ACall Tryz.prog 31 [cls m.clauses,pi i,pi to] (pb (zam m.clauses i to)):=by
 have c:=zfD m.clauses i to false _ _ (YA h i) (YA h to) (zaU h i to).n (fun x hx=>Wn hx) (zaU h to to) (out_ok h i)
 rw [show zbZ m.clauses false to (yh m.clauses to) (yh m.clauses i)=zam m.clauses i to from rfl] at c
 refine zf zh Tryz.func31 rfl (by kernel_rfl) Tryz.ntmps31 (by simp) _ rfl (fun hw gB hgB=>?_)
 repeat' (first|(refine shC ?_;first|refine qC c ?_)|refine sK ?_|refine sC (fun _=>?_) (fun _=>?_)|fail)
 exact retq rfl rfl
theorem zkC (h:DocOk g m) (i to:Int):ACall Tryz.prog 32 [cls m.clauses,pi i,pi to] (pb (zbp m.clauses i to)):=by
 have c:=zfD m.clauses i to true _ _ (YA h i) (YA h to) (zaU h i to).n (fun x hx=>Wn hx) (zaU h to to) (out_ok h i)
 rw [show zbZ m.clauses true to (yh m.clauses to) (yh m.clauses i)=zbp m.clauses i to from rfl] at c
 refine zf zh Tryz.func32 rfl (by kernel_rfl) Tryz.ntmps32 (by simp) _ rfl (fun hw gB hgB=>?_)
 repeat' (first|(refine shC ?_;first|refine qC c ?_)|refine sK ?_|refine sC (fun _=>?_) (fun _=>?_)|fail)
 exact retq rfl rfl
theorem zrL:∀ k:Fin 76,1≤k.val→zkH (k.val:Int)=(ofI (k.val:Int)).2.2:=by decide +kernel
theorem zuq (h:DocOk g m) {i:Int} (h0:0≤i) (h1:i.toNat < m.code.length):1≤(zX m i).op∧(zX m i).op≤75:=by
 have hx:=zpl h.me.formed h0 h1
 unfold codeOk at hx
 simp only [Bool.and_eq_true,beq_iff_eq] at hx
 exact zeZ (by rw [hx.1];rfl)
theorem zoa (h:DocOk g m) {i:Int} (h0:0≤i) (h1:i.toNat < m.code.length):ACall Tryz.prog 30 [zG m,pi i] (pi (QX m i)):=by
 have hei:(m.code.map zY)[i.toNat]?=some (zY (zX m i)):=by rw [zX,zx h1];exact zA h1
 obtain ⟨o1,o2⟩:=zuq h h0 h1
 have co:=zeg (zX m i).op o1 o2
 have hw:QX m i=zkH (zX m i).op:=by
  have:=zrL ⟨(zX m i).op.toNat,by omega⟩ (by show 1≤(zX m i).op.toNat;omega)
  simp only [show (((zX m i).op.toNat:Nat):Int)=(zX m i).op by omega] at this
  rw [QX,decide_eq_true o1,decide_eq_true o2,this];rfl
 rw [hw]
 generalize (zX m i)=x at hei co
 refine zf zh Tryz.func30 rfl (by kernel_rfl) Tryz.ntmps30 (by simp) _ rfl (fun hw gB hgB=>?_)
 repeat' (first|(refine shC ?_;first|refine qC co ?_)|(refine shX ?_;first|refine zu rfl (zk zh rfl rfl rfl rfl rfl rfl h0 hei) rfl rfl ?_|refine AD.step _ _ _ _ _ rfl (zk zh rfl rfl rfl rfl rfl rfl h0 hei) rfl rfl ?_)|refine sK ?_|refine sC (fun _=>?_) (fun _=>?_)|fail)
 exact retq rfl rfl
theorem za7 (m:Me) (i:Int):ACall Tryz.prog 34 [zG m,pi i] (pi (opV m i)):=by
 by_cases h0:i < 0
 ·have e0:decide (i < 0)=true:=decide_eq_true h0
  refine zf zh Tryz.func34 rfl (by kernel_rfl) Tryz.ntmps34 (by simp) _ rfl (fun hw gB hgB=>?_)
  repeat' (first|refine sK ?_|refine sC (fun _=>?_) (fun _=>?_)|fail)
  exact retq rfl (by simp [zi,opV,h0])
 ·have e0:decide (i < 0)=false:=decide_eq_false h0
  by_cases h1:(m.code.length:Int)≤i
  ·have e1:decide ((((m.code.map zY).length:Nat):Int)≤i)=true:=decide_eq_true (by rw [List.length_map];exact h1)
   refine zf zh Tryz.func34 rfl (by kernel_rfl) Tryz.ntmps34 (by simp) _ rfl (fun hw gB hgB=>?_)
   repeat' (first|refine sK ?_|refine sC (fun _=>?_) (fun _=>?_)|fail)
   exact retq rfl (by simp [zi,opV,h1])
  ·have e1:decide ((((m.code.map zY).length:Nat):Int)≤i)=false:=decide_eq_false (by rw [List.length_map];exact h1)
   have hl:i.toNat < m.code.length:=by omega
   have hei:(m.code.map zY)[i.toNat]?=some (zY (zX m i)):=by rw [zX,zx hl];exact zA hl
   have hi0:0≤i:=by omega
   refine zf zh Tryz.func34 rfl (by kernel_rfl) Tryz.ntmps34 (by simp) _ rfl (fun hw gB hgB=>?_)
   repeat' (first|(refine shX ?_;first|refine zu rfl (zk zh rfl rfl rfl rfl rfl rfl hi0 hei) rfl rfl ?_|refine AD.step _ _ _ _ _ rfl (zk zh rfl rfl rfl rfl rfl rfl hi0 hei) rfl rfl ?_)|refine sK ?_|refine sC (fun _=>?_) (fun _=>?_)|fail)
   exact retq rfl (by simp [zi,opV,h0,h1])
end
set_option maxHeartbeats 20000000
section
variable {g:Img} {m:Me}
def zcC (g:Img) (m:Me) (i:Int):Int :=
 if !((opV m (i + 1)==43||opV m (i + 1)==44)&&opV m (i + 2)==46&&(yh m.clauses i).isEmpty) then 11
 else if !tyB (qJ g m i).ret m.ret then 10
 else if (Xc g (qJ g m i)).any (fun t=>t.ref) then 13 else 0
theorem zlR (h:DocOk g m) {i:Int} (h0:0≤i) (h1:i.toNat < m.code.length):ACall Tryz.prog 35 [zq g,zG m,pi i] (pi (zcC g m i)):=by
 have hs:=h.me.small
 have hwr:IntKind.i64.wrap (i + 1)=i + 1:=wrap_in (by omega) (by omega)
 have hw2:IntKind.i64.wrap (i + 2)=i + 2:=wrap_in (by omega) (by omega)
 have c1:ACall Tryz.prog 34 [zG m,pi (IntKind.i64.wrap (i + 1))] (pi (opV m (i + 1))):=by rw [hwr];exact za7 m (i + 1)
 have c2:ACall Tryz.prog 34 [zG m,pi (IntKind.i64.wrap (i + 2))] (pi (opV m (i + 2))):=by rw [hw2];exact za7 m (i + 2)
 have cc:=YA h i
 have hle:decide ((0:Int) < ((((yh m.clauses i).map qN).length:Nat):Int))=!(yh m.clauses i).isEmpty:=by cases yh m.clauses i <;> simp <;> omega
 cases hb:((opV m (i + 1)==43||opV m (i + 1)==44)&&opV m (i + 2)==46&&(yh m.clauses i).isEmpty)
 ·have hz:zcC g m i=11:=by rw [zcC,hb];rfl
  rw [hz]
  rcases Bool.eq_false_or_eq_true (opV m (i + 1) != 43) with k1|k1
  ·rcases Bool.eq_false_or_eq_true (opV m (i + 1) != 44) with k2|k2
   ·refine zf zh Tryz.func35 rfl (by kernel_rfl) Tryz.ntmps35 (by simp) _ rfl (fun hw gB hgB=>?_)
    repeat' (first|(refine shC ?_;first|refine qC c1 ?_)|refine sK ?_|refine sC (fun _=>?_) (fun _=>?_)|fail)
    exact retq rfl rfl
   ·rcases Bool.eq_false_or_eq_true (opV m (i + 2) != 46) with k3|k3
    ·refine zf zh Tryz.func35 rfl (by kernel_rfl) Tryz.ntmps35 (by simp) _ rfl (fun hw gB hgB=>?_)
     repeat' (first|(refine shC ?_;first|refine qC c1 ?_|refine qC c2 ?_)|refine sK ?_|refine sC (fun _=>?_) (fun _=>?_)|fail)
     exact retq rfl rfl
    ·have k4:decide ((0:Int) < ((((yh m.clauses i).map qN).length:Nat):Int))=true:=by
      simp only [bne_eq_false_iff_eq] at k2 k3
      rw [k2,k3] at hb;rw [hle];simpa using hb
     refine zf zh Tryz.func35 rfl (by kernel_rfl) Tryz.ntmps35 (by simp) _ rfl (fun hw gB hgB=>?_)
     repeat' (first|(refine shC ?_;first|refine qC c1 ?_|refine qC c2 ?_|refine qC cc ?_)|refine sK ?_|refine sC (fun _=>?_) (fun _=>?_)|fail)
     exact retq rfl rfl
  ·rcases Bool.eq_false_or_eq_true (opV m (i + 2) != 46) with k3|k3
   ·refine zf zh Tryz.func35 rfl (by kernel_rfl) Tryz.ntmps35 (by simp) _ rfl (fun hw gB hgB=>?_)
    repeat' (first|(refine shC ?_;first|refine qC c1 ?_|refine qC c2 ?_)|refine sK ?_|refine sC (fun _=>?_) (fun _=>?_)|fail)
    exact retq rfl rfl
   ·have k4:decide ((0:Int) < ((((yh m.clauses i).map qN).length:Nat):Int))=true:=by
     simp only [bne_eq_false_iff_eq] at k1 k3
     rw [k1,k3] at hb;rw [hle];simpa using hb
    refine zf zh Tryz.func35 rfl (by kernel_rfl) Tryz.ntmps35 (by simp) _ rfl (fun hw gB hgB=>?_)
    repeat' (first|(refine shC ?_;first|refine qC c1 ?_|refine qC c2 ?_|refine qC cc ?_)|refine sK ?_|refine sC (fun _=>?_) (fun _=>?_)|fail)
    exact retq rfl rfl
 ·have hz:zcC g m i=if !tyB (qJ g m i).ret m.ret then 10 else if (Xc g (qJ g m i)).any (fun t=>t.ref) then 13 else 0:=by rw [zcC,hb];rfl
  rw [hz]
  simp only [Bool.and_eq_true,Bool.or_eq_true] at hb
  obtain ⟨⟨hb1,hb2⟩,hb3⟩:=hb
  have hin:(i + 1).toNat < m.code.length:=by
   rcases Nat.lt_or_ge (i + 1).toNat m.code.length with h|h
   ·exact h
   ·have:opV m (i + 1)=0:=by rw [opV];simp;omega
    rw [this] at hb1;simp at hb1
  have hop:opV m (i + 1)=(zX m (i + 1)).op:=by
   rw [opV,decide_eq_false (show ¬ i + 1 < 0 by omega),decide_eq_false (show ¬ (m.code.length:Int)≤i + 1 by omega)];rfl
  have ha:=h.mm (i + 1) (by omega) hin (by rw [←hop];simpa using hb1)
  have ha0:=ha.1
  have hei:(m.code.map zY)[(IntKind.i64.wrap (i + 1)).toNat]?=some (zY (zX m (i + 1))):=by rw [hwr,zX,zx hin];exact zA hin
  have hem:(g.methods.map zG)[(zX m (i + 1)).arg.toNat]?=some (zG (qJ g m i)):=by rw [qJ,mAt,zx ha.2];exact zA ha.2
  have k3:(opV m (i + 2) != 46)=false:=by simpa using hb2
  have k4:decide ((0:Int) < ((((yh m.clauses i).map qN).length:Nat):Int))=false:=by rw [hle,hb3];rfl
  have hF:=Xk h.fine
  have hcm:=YV hF.formed ha
  have hpl:=hcm.small
  have cA:=znF g (qJ g m i) (by show (mAt g _).params.length≤1000;omega)
  have hag:zln (Yo (zB g (qJ g m i).owner) ((qJ g m i).flags.tmod 2 != 0) (qJ g m i).owner) (qJ g m i).params=Xc g (qJ g m i):=by
   rw [Xc,zdW hF.formed,zso]
  rw [hag] at cA
  have hix:(0:Int)≤IntKind.i64.wrap (i + 1):=by omega
  have hal:(Xc g (qJ g m i)).length≤1000:=by
   unfold Xc zln
   have:(qJ g m i).params.length≤6:=hpl.2.2.1
   split <;> simp <;> omega
  generalize zX m (i + 1)=x at *
  generalize qJ g m i=c at *
  generalize Xc g c=ar at *
  have k12:(opV m (i + 1) != 43)=false∨((opV m (i + 1) != 43)=true∧(opV m (i + 1) != 44)=false):=by
   rcases Bool.eq_false_or_eq_true (opV m (i + 1) != 43) with k|k
   ·exact .inr ⟨k,by simp at k hb1 ⊢;rcases hb1 with h|h <;> first|exact absurd h k|exact h⟩
   ·exact .inl k
  have tyN:(!(c.ret.kind==m.ret.kind&&(c.ret.index==m.ret.index&&(c.ret.dims==m.ret.dims&&(c.ret.ref==m.ret.ref&&true)))))=!tyB c.ret m.ret:=rfl
  cases ht:tyB c.ret m.ret
  ·rw [ht] at tyN
   rw [if_pos (show (!false)=true from rfl)]
   rcases k12 with k1|⟨k1,k2⟩
   ·refine zf zh Tryz.func35 rfl (by kernel_rfl) Tryz.ntmps35 (by simp) _ rfl (fun hw gB hgB=>?_)
    repeat' (first|refine yE 1 11 0 zh rfl (by kernel_rfl) (by kernel_rfl) (by kernel_rfl) rfl rfl rfl rfl rfl rfl rfl rfl rfl rfl rfl rfl rfl rfl (fun _=>rfl) rfl rfl rfl ?_|refine ⟨_,_,rfl,rfl,rfl,?_⟩|(refine shC ?_;first|refine qC c1 ?_|refine qC c2 ?_|refine qC cc ?_)|(refine shX ?_;first|refine zu rfl (zk zh rfl rfl rfl rfl rfl rfl hix hei) rfl rfl ?_|refine AD.step _ _ _ _ _ rfl (zk zh rfl rfl rfl rfl rfl rfl hix hei) rfl rfl ?_|refine zu rfl (zk zh rfl rfl rfl rfl rfl rfl ha0 hem) rfl rfl ?_|refine AD.step _ _ _ _ _ rfl (zk zh rfl rfl rfl rfl rfl rfl ha0 hem) rfl rfl ?_)|refine sK ?_|refine sC (fun _=>?_) (fun _=>?_)|fail)
    exact retq rfl rfl
   ·refine zf zh Tryz.func35 rfl (by kernel_rfl) Tryz.ntmps35 (by simp) _ rfl (fun hw gB hgB=>?_)
    repeat' (first|refine yE 1 11 0 zh rfl (by kernel_rfl) (by kernel_rfl) (by kernel_rfl) rfl rfl rfl rfl rfl rfl rfl rfl rfl rfl rfl rfl rfl rfl (fun _=>rfl) rfl rfl rfl ?_|refine ⟨_,_,rfl,rfl,rfl,?_⟩|(refine shC ?_;first|refine qC c1 ?_|refine qC c2 ?_|refine qC cc ?_)|(refine shX ?_;first|refine zu rfl (zk zh rfl rfl rfl rfl rfl rfl hix hei) rfl rfl ?_|refine AD.step _ _ _ _ _ rfl (zk zh rfl rfl rfl rfl rfl rfl hix hei) rfl rfl ?_|refine zu rfl (zk zh rfl rfl rfl rfl rfl rfl ha0 hem) rfl rfl ?_|refine AD.step _ _ _ _ _ rfl (zk zh rfl rfl rfl rfl rfl rfl ha0 hem) rfl rfl ?_)|refine sK ?_|refine sC (fun _=>?_) (fun _=>?_)|fail)
    exact retq rfl rfl
  ·rw [ht] at tyN
   rw [if_neg (by simp)]
   rcases k12 with k1|⟨k1,k2⟩
   all_goals
    refine zf zh Tryz.func35 rfl (by kernel_rfl) Tryz.ntmps35 (by simp) _ rfl (fun hw gB hgB=>?_)
    repeat' (first|refine yE 1 11 0 zh rfl (by kernel_rfl) (by kernel_rfl) (by kernel_rfl) rfl rfl rfl rfl rfl rfl rfl rfl rfl rfl rfl rfl rfl rfl (fun _=>rfl) rfl rfl rfl ?_|refine ⟨_,_,rfl,rfl,rfl,?_⟩|(refine shC ?_;first|refine qC c1 ?_|refine qC c2 ?_|refine qC cc ?_|refine qC cA ?_)|(refine shX ?_;first|refine zu rfl (zk zh rfl rfl rfl rfl rfl rfl hix hei) rfl rfl ?_|refine AD.step _ _ _ _ _ rfl (zk zh rfl rfl rfl rfl rfl rfl hix hei) rfl rfl ?_|refine zu rfl (zk zh rfl rfl rfl rfl rfl rfl ha0 hem) rfl rfl ?_|refine AD.step _ _ _ _ _ rfl (zk zh rfl rfl rfl rfl rfl rfl ha0 hem) rfl rfl ?_)|refine sK ?_|refine sC (fun _=>?_) (fun _=>?_)|fail)
    refine zo (fun k:Nat=>[(9,.pv (tys ar)),(10,.pv (pi k))]) (fun _=>[]) (fun k=>k≤ar.length∧ar.any (fun t=>t.ref)=(ar.drop k).any fun t=>t.ref) (fun k=>ar.length - k) 0 ⟨Nat.zero_le _,rfl⟩ (tS) tH ?_
    rintro k ⟨hk,hr⟩
    by_cases hlt:k < ar.length
    ·have d1:decide ((k:Int) < (((ar.map yK).length:Nat):Int))=true:=decide_eq_true (by rw [List.length_map];omega)
     have he:=zA (f:=yK) hlt
     rw [QF hlt] at hr
     generalize ar[k]=t at he hr
     cases htr:t.ref
     ·rw [htr,Bool.false_or] at hr
      repeat' (first|(refine shX ?_;first|refine qX he ?_)|refine sK ?_|refine sC (fun _=>?_) (fun _=>?_)|fail)
      exact ⟨k + 1,⟨hlt,hr⟩,by show ar.length - (k + 1) < ar.length - k;omega,tS,tH⟩
     ·rw [htr,Bool.true_or] at hr
      repeat' (first|(refine shX ?_;first|refine qX he ?_)|refine sK ?_|refine sC (fun _=>?_) (fun _=>?_)|fail)
      exact retq rfl (by rw [hr];rfl)
    ·have d1:decide ((k:Int) < (((ar.map yK).length:Nat):Int))=false:=decide_eq_false (by rw [List.length_map];omega)
     rw [List.drop_of_length_le (by omega)] at hr
     repeat' (first|refine sK ?_|refine sC (fun _=>?_) (fun _=>?_)|fail)
     exact retq rfl (by rw [hr];rfl)
theorem ziG (h:DocOk g m) {i:Int} (h0:0≤i) (h1:i.toNat < m.code.length):ACall Tryz.prog 33 [zG m,pi i] (pb (yM m i==0)):=by
 have hs:=h.me.small
 have c0:=za7 m i
 have cc:=YA h i
 have hcc:=fun x (hx:x∈yh m.clauses i)=>Wn hx
 have hkk:=fun x (hx:x∈yh m.clauses i)=>zpa h (Wn hx)
 have hiv:yM m i=yM m i:=rfl
 conv at hiv=>rhs;rw [yM]
 have hl18:=(zaU h i i).n
 generalize yh m.clauses i=c at *
 rcases Bool.eq_false_or_eq_true (opV m i==46) with k1|k1
 ·rw [k1,if_pos rfl] at hiv
  have hle:((((c.map qN).length:Nat):Int)==0)=c.isEmpty:=by cases c <;> simp <;> omega
  refine zf zh Tryz.func33 rfl (by kernel_rfl) Tryz.ntmps33 (by simp) _ rfl (fun hw gB hgB=>?_)
  repeat' (first|(refine shC ?_;first|refine qC cc ?_|refine qC c0 ?_)|refine sK ?_|refine sC (fun _=>?_) (fun _=>?_)|fail)
  exact retq rfl (by rw [hiv];simp only [zi,hle];cases c.isEmpty <;> rfl)
 ·rw [k1,if_neg (by simp)] at hiv
  rcases Bool.eq_false_or_eq_true (opV m i==70) with k2|k2
  ·rw [k2,if_pos rfl] at hiv
   refine zf zh Tryz.func33 rfl (by kernel_rfl) Tryz.ntmps33 (by simp) _ rfl (fun hw gB hgB=>?_)
   repeat' (first|(refine shC ?_;first|refine qC cc ?_|refine qC c0 ?_)|refine sK ?_|refine sC (fun _=>?_) (fun _=>?_)|fail)
   refine zo (fun k:Nat=>[(2,.pv (.ptr (zG m) 0)),(5,.pv (rgs c)),(6,.pv (pi k))]) (fun _=>[]) (fun k=>k≤c.length∧c.find? (fun r=>r.p != 1)=(c.drop k).find? fun r=>r.p != 1) (fun k=>c.length - k) 0 ⟨Nat.zero_le _,rfl⟩ (tS) tH ?_
   rintro k ⟨hk,hf⟩
   by_cases hlt:k < c.length
   ·have d1:decide ((k:Int) < (((c.map qN).length:Nat):Int))=true:=decide_eq_true (by rw [List.length_map];omega)
    have he:=zA (f:=qN) hlt
    have hm:=List.getElem_mem hlt
    rw [List.drop_eq_getElem_cons hlt,List.find?_cons] at hf
    generalize c[k]=r at he hf hm
    have hrc:=hcc r hm
    have hrk:=hkk r hm
    have hek:(m.clauses.map yI)[r.c.toNat]?=some (yI (clV m r)):=by rw [clV,zx hrc.2];exact zA hrc.2
    have hc0:=hrc.1
    have hkd:(clV m r).kind=(m.clauses.getD r.c.toNat default).kind:=rfl
    cases hp:(r.p != 1)
    ·rw [hp] at hf
     repeat' (first|(refine shX ?_;first|refine qX he ?_)|refine sK ?_|refine sC (fun _=>?_) (fun _=>?_)|fail)
     exact ⟨k + 1,⟨hlt,hf⟩,by show c.length - (k + 1) < c.length - k;omega,tS,tH⟩
    ·rw [hp] at hf
     have hz:yM m i=if ZN m r 1 2 then 0 else 12:=by rw [hiv,hf]
     have hh:ZN m r 1 2=(r.p==2&&decide ((clV m r).kind≤2)):=by
      unfold ZN
      have:(clV m r).kind=1∨(clV m r).kind=2∨(clV m r).kind=3∨(clV m r).kind=4:=by omega
      rcases this with e|e|e|e <;> rw [e] <;> simp
     rw [hh] at hz
     rcases Bool.eq_false_or_eq_true (r.p==2) with p2|p2
     ·rw [p2,Bool.true_and] at hz
      repeat' (first|(refine shX ?_;first|refine qX he ?_|refine zu rfl (zk zh rfl rfl rfl rfl rfl rfl hc0 hek) rfl rfl ?_|refine AD.step _ _ _ _ _ rfl (zk zh rfl rfl rfl rfl rfl rfl hc0 hek) rfl rfl ?_)|refine sK ?_|refine sC (fun _=>?_) (fun _=>?_)|fail)
      exact retq rfl (by rw [hz];simp only [zi];cases decide ((clV m r).kind≤2) <;> rfl)
     ·rw [p2,Bool.false_and] at hz
      repeat' (first|(refine shX ?_;first|refine qX he ?_|refine zu rfl (zk zh rfl rfl rfl rfl rfl rfl hc0 hek) rfl rfl ?_|refine AD.step _ _ _ _ _ rfl (zk zh rfl rfl rfl rfl rfl rfl hc0 hek) rfl rfl ?_)|refine sK ?_|refine sC (fun _=>?_) (fun _=>?_)|fail)
      exact retq rfl (by rw [hz];rfl)
   ·have d1:decide ((k:Int) < (((c.map qN).length:Nat):Int))=false:=decide_eq_false (by rw [List.length_map];omega)
    rw [List.drop_of_length_le (by omega)] at hf
    have hz:yM m i=12:=by rw [hiv,hf];rfl
    repeat' (first|refine sK ?_|refine sC (fun _=>?_) (fun _=>?_)|fail)
    exact retq rfl (by rw [hz];rfl)
  ·rw [k2,if_neg (by simp)] at hiv
   rcases Bool.eq_false_or_eq_true (opV m i==72) with k3|k3
   ·rw [k3,if_pos rfl] at hiv
    cases c with
    | nil =>
     refine zf zh Tryz.func33 rfl (by kernel_rfl) Tryz.ntmps33 (by simp) _ rfl (fun hw gB hgB=>?_)
     repeat' (first|(refine shC ?_;first|refine qC cc ?_|refine qC c0 ?_)|refine sK ?_|refine sC (fun _=>?_) (fun _=>?_)|fail)
     exact retq rfl (by rw [hiv];rfl)
    | cons r c =>
     have hrc:=hcc r (by simp)
     have hrk:=hkk r (by simp)
     have hek:(m.clauses.map yI)[r.c.toNat]?=some (yI (clV m r)):=by rw [clV,zx hrc.2];exact zA hrc.2
     have hc0:=hrc.1
     have hkd:(clV m r).kind=(m.clauses.getD r.c.toNat default).kind:=rfl
     have hd:decide ((0:Int) < ((((r::c).map qN).length:Nat):Int))=true:=decide_eq_true (by simp)
     have he:((r::c).map qN)[(0:Int).toNat]?=some (qN r):=rfl
     have hz:yM m i=if r.p==2&&decide (3≤(clV m r).kind) then 0 else 12:=by
      rw [hiv]
      show (if ZN m r 3 4=true then (0:Int) else 12)=_
      unfold ZN
      have:(clV m r).kind=1∨(clV m r).kind=2∨(clV m r).kind=3∨(clV m r).kind=4:=by omega
      rcases this with e|e|e|e <;> rw [e] <;> simp
     rcases Bool.eq_false_or_eq_true (r.p==2) with p2|p2
     ·rw [p2,Bool.true_and] at hz
      refine zf zh Tryz.func33 rfl (by kernel_rfl) Tryz.ntmps33 (by simp) _ rfl (fun hw gB hgB=>?_)
      repeat' (first|(refine shC ?_;first|refine qC cc ?_|refine qC c0 ?_)|(refine shX ?_;first|refine zu rfl (zk zh rfl rfl rfl rfl rfl rfl (by decide) he) rfl rfl ?_|refine AD.step _ _ _ _ _ rfl (zk zh rfl rfl rfl rfl rfl rfl (by decide) he) rfl rfl ?_|refine zu rfl (zk zh rfl rfl rfl rfl rfl rfl hc0 hek) rfl rfl ?_|refine AD.step _ _ _ _ _ rfl (zk zh rfl rfl rfl rfl rfl rfl hc0 hek) rfl rfl ?_)|refine sK ?_|refine sC (fun _=>?_) (fun _=>?_)|fail)
      exact retq rfl (by rw [hz];simp only [zi];cases decide (3≤(clV m r).kind) <;> rfl)
     ·rw [p2,Bool.false_and] at hz
      refine zf zh Tryz.func33 rfl (by kernel_rfl) Tryz.ntmps33 (by simp) _ rfl (fun hw gB hgB=>?_)
      repeat' (first|(refine shC ?_;first|refine qC cc ?_|refine qC c0 ?_)|(refine shX ?_;first|refine zu rfl (zk zh rfl rfl rfl rfl rfl rfl (by decide) he) rfl rfl ?_|refine AD.step _ _ _ _ _ rfl (zk zh rfl rfl rfl rfl rfl rfl (by decide) he) rfl rfl ?_|refine zu rfl (zk zh rfl rfl rfl rfl rfl rfl hc0 hek) rfl rfl ?_|refine AD.step _ _ _ _ _ rfl (zk zh rfl rfl rfl rfl rfl rfl hc0 hek) rfl rfl ?_)|refine sK ?_|refine sC (fun _=>?_) (fun _=>?_)|fail)
      exact retq rfl (by rw [hz];rfl)
   ·rw [k3,if_neg (by simp)] at hiv
    rcases Bool.eq_false_or_eq_true (opV m i==73) with k4|k4
    ·rw [k4,if_pos rfl] at hiv
     have hw1:IntKind.i64.wrap (i + 1)=i + 1:=wrap_in (by omega) (by omega)
     cases c with
     | nil =>
      refine zf zh Tryz.func33 rfl (by kernel_rfl) Tryz.ntmps33 (by simp) _ rfl (fun hw gB hgB=>?_)
      repeat' (first|(refine shC ?_;first|refine qC cc ?_|refine qC c0 ?_)|refine sK ?_|refine sC (fun _=>?_) (fun _=>?_)|fail)
      exact retq rfl (by rw [hiv];rfl)
     | cons r c =>
      have hrc:=hcc r (by simp)
      have hek:(m.clauses.map yI)[r.c.toNat]?=some (yI (clV m r)):=by rw [clV,zx hrc.2];exact zA hrc.2
      have hc0:=hrc.1
      have hd:decide ((0:Int) < ((((r::c).map qN).length:Nat):Int))=true:=decide_eq_true (by simp)
      have he:((r::c).map qN)[(0:Int).toNat]?=some (qN r):=rfl
      have hz:yM m i=if r.p==3&&(clV m r).hf==IntKind.i64.wrap (i + 1) then 0 else 12:=by rw [hiv,hw1]
      rcases Bool.eq_false_or_eq_true (r.p==3) with p3|p3
      ·rw [p3,Bool.true_and] at hz
       refine zf zh Tryz.func33 rfl (by kernel_rfl) Tryz.ntmps33 (by simp) _ rfl (fun hw gB hgB=>?_)
       repeat' (first|(refine shC ?_;first|refine qC cc ?_|refine qC c0 ?_)|(refine shX ?_;first|refine zu rfl (zk zh rfl rfl rfl rfl rfl rfl (by decide) he) rfl rfl ?_|refine AD.step _ _ _ _ _ rfl (zk zh rfl rfl rfl rfl rfl rfl (by decide) he) rfl rfl ?_|refine zu rfl (zk zh rfl rfl rfl rfl rfl rfl hc0 hek) rfl rfl ?_|refine AD.step _ _ _ _ _ rfl (zk zh rfl rfl rfl rfl rfl rfl hc0 hek) rfl rfl ?_)|refine sK ?_|refine sC (fun _=>?_) (fun _=>?_)|fail)
       exact retq rfl (by rw [hz];simp only [zi];cases ((clV m r).hf==IntKind.i64.wrap (i + 1)) <;> rfl)
      ·rw [p3,Bool.false_and] at hz
       refine zf zh Tryz.func33 rfl (by kernel_rfl) Tryz.ntmps33 (by simp) _ rfl (fun hw gB hgB=>?_)
       repeat' (first|(refine shC ?_;first|refine qC cc ?_|refine qC c0 ?_)|(refine shX ?_;first|refine zu rfl (zk zh rfl rfl rfl rfl rfl rfl (by decide) he) rfl rfl ?_|refine AD.step _ _ _ _ _ rfl (zk zh rfl rfl rfl rfl rfl rfl (by decide) he) rfl rfl ?_|refine zu rfl (zk zh rfl rfl rfl rfl rfl rfl hc0 hek) rfl rfl ?_|refine AD.step _ _ _ _ _ rfl (zk zh rfl rfl rfl rfl rfl rfl hc0 hek) rfl rfl ?_)|refine sK ?_|refine sC (fun _=>?_) (fun _=>?_)|fail)
       exact retq rfl (by rw [hz];rfl)
    ·rw [k4,if_neg (by simp)] at hiv
     refine zf zh Tryz.func33 rfl (by kernel_rfl) Tryz.ntmps33 (by simp) _ rfl (fun hw gB hgB=>?_)
     repeat' (first|(refine shC ?_;first|refine qC cc ?_|refine qC c0 ?_)|refine sK ?_|refine sC (fun _=>?_) (fun _=>?_)|fail)
     exact retq rfl (by rw [hiv];rfl)
end
end Go.Cg
