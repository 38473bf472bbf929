/- A part of the walks by abstract values: no statement of its own. -/
import Derived.Test.YtoeplllgofpddaaGreatU18
import Derived.Test.YtoeplllgofpddaaGreatU19
import Derived.Test.YtoeplllgofpddaaGreatU20
import Derived.Test.YtoeplllgofpddaaGreatU10
import Derived.Test.YtoeplllgofpddaaGreatU12
import Derived.Test.YtoeplllgofpddaaGreatU8
import Derived.Test.YtoeplllgofpddaaGreatU17
import Derived.Test.YtoeplllgofpddaaGreatU9
import Derived.Test.YtoeplllgofpddaaGreatU13
import Derived.Test.YtoeplllgofpddaaGreatU4
import Derived.OpenShut
import Derived.Deep.Slices
import Derived.ProofKit
import Derived.Test.YtoeplllgofpddaaGreatRows
import Derived.JoinedOf
import Derived.Test.YtoeplllgofpddaaGreatChecked
set_option linter.unusedVariables false
set_option linter.unusedSimpArgs false
namespace Go.Cg
open Go.Proofs
theorem zoj {g:Img}:∀ {l:List Nat},(stD g l).2=0→∀ i∈l,zpr g (i:Int)=false
 | [],_,i,hi=>by cases hi
 | j::l,h,i,hi=>by
  rw [stD] at h
  cases hb:zpr g (j:Int)
  ·rw [hb,if_neg (by simp)] at h
   rcases List.mem_cons.1 hi with rfl|hi
   ·exact hb
   ·exact zoj h i hi
  ·rw [hb,if_pos rfl] at h;cases h
theorem zrq {g:Img} {W:Int→Bool}:∀ {l:List Nat},(stC g W l).2=0→(stD g (List.range g.types.length)).2=0
 | [],h=>h
 | j::l,h=>by
  rw [stC] at h
  split at h
  ·cases h
  ·exact zrq h
theorem zq5 {g:Img}:∀ {l:List Nat},(stM g l).2=0→(stD g (List.range g.types.length)).2=0
 | [],h=>zrq h
 | j::l,h=>by
  rw [stM] at h
  split at h
  ·split at h
   ·exact zq5 h
   ·cases h
  ·cases h
theorem zdZ {g:Img} (h:(qM g).2=0):zdg g=true∧∀ t:Int,zN g t=3→methodsOf g t≠[]:=by
 unfold qM at h
 split at h
 ·rename_i hf
  refine ⟨hf,fun t hk=>?_⟩
  have hin:0≤t∧t < g.types.length:=by
   unfold zN at hk
   cases ht:typeAt g t with
   | none=>rw [ht] at hk;simp at hk
   | some td =>
    unfold typeAt at ht
    split at ht
    ·rename_i hh;have:=(List.getElem?_eq_some_iff.1 ht).1;omega
    ·cases ht
  have:=zoj (zq5 h) t.toNat (by rw [List.mem_range];omega)
  rw [show ((t.toNat:Nat):Int)=t by omega,zpr,hk] at this
  intro he
  rw [he] at this;cases this
 ·cases h
theorem opk:∀ n:Fin 76,1≤n.val→(2≤n.val→n.val≤7→yF (n.val:Int)=3∨yF (n.val:Int)=4)∧((n.val=43∨n.val=44∨n.val=45∨n.val=67)→yF (n.val:Int)=6)∧(48≤n.val→n.val≤53→yF (n.val:Int)=7):=by decide +kernel
theorem ztv {op:Int} (h1:1≤op) (h2:op≤75):(2≤op→op≤7→yF op=3∨yF op=4)∧((op=43∨op=44∨op=45∨op=67)→yF op=6)∧(48≤op→op≤53→yF op=7):=by
 have:=opk ⟨op.toNat,by omega⟩ (by show 1≤op.toNat;omega)
 simp only [show ((op.toNat:Nat):Int)=op by omega] at this
 exact ⟨fun a b=>this.1 (by omega) (by omega),fun a=>this.2.1 (by omega),fun a b=>this.2.2 (by omega) (by omega)⟩
theorem zsn {g:Img} {m:Me} {a:Int} (h:qL g m=true) (h0:0≤a) (h1:a.toNat < m.code.length):codeOk g m (WY m a)=true:=by
 simp only [qL,ZL,Bool.and_eq_true,List.all_eq_true] at h
 exact h.2.1.1.2 _ (by rw [WY,zL h1];exact List.getElem_mem h1)
theorem ztd {g:Img} (hc:(qM g).2=0) {m a:Int} (hm:mOk g m) (h0:0≤a) (h1:a.toNat < (mAt g m).code.length):XOk g (WY (mAt g m) a):=by
 obtain ⟨hf,hd⟩:=zdZ hc
 have hF:=zc7 hf
 have hcode:=zsn (zaO hF.formed hm).formed h0 h1
 generalize WY (mAt g m) a=x at hcode ⊢
 rw [codeOk,Bool.and_eq_true] at hcode
 obtain ⟨e1,e2⟩:=hcode
 have e1:QU x=0:=by simpa using e1
 unfold QU at e1
 split at e1
 ·cases e1
 rename_i hop
 have b1:1≤x.op:=by omega
 have b2:x.op≤75:=by omega
 split at e1
 ·cases e1
 rename_i harg
 split at e1
 ·cases e1
 rename_i hty
 split at e1
 ·cases e1
 rename_i hwh
 obtain ⟨k1,k2,k3⟩:=ztv b1 b2
 have hmo:∀ i:Int,0≤i→i.toNat < g.methods.length→(mAt g i).params.length≤100∧0≤(mAt g i).owner∧(mAt g i).owner.toNat < g.types.length:=fun i i0 i1=>by
  have hM:=zaO hF.formed (x:=i) ⟨i0,i1⟩
  have:=hM.small
  exact ⟨by omega,hM.o0,hM.o1⟩
 refine ⟨b1,b2,fun a1 a2=>?_,fun a1=>?_,fun a1 a2=>?_,fun _ _=>?_,fun i i0 i1=>(hmo i i0 i1).1,fun _ _ _ hk=>hd _ ?_⟩
 ·rcases k1 a1 a2 with e|e <;> rw [e] at harg <;> simp [zaU] at harg <;> omega
 ·rw [k2 a1] at harg e2
  simp [zaU] at harg e2
  exact ⟨by omega,by omega,hmo _ (by omega) (by omega)⟩
 ·rw [k3 a1 a2] at harg e2
  simp [zaU] at harg e2
  exact ⟨by omega,by omega⟩
 ·by_cases h8:yF x.op=8
  ·have hw:Zy x.t 1=true:=by
    cases hw:Zy x.t 1
    ·exact absurd ⟨h8,hw⟩ hwh
    ·rfl
   have hp:Zw x.t=true:=by
    unfold Zy at hw
    split at hw
    ·cases hw
    ·rename_i hp;simpa using hp
   have hd:0≤x.t.dims∧x.t.dims≤3:=by
    unfold Zw at hp
    split at hp
    ·cases hp
    ·rename_i hb
     simp at hb
     omega
   omega
  ·have ht:x.t=ty0:=Classical.byContradiction fun hne=>hty ⟨h8,hne⟩
   rw [ht];exact ⟨Int.le_refl 0,by show (0:Int)≤100;omega⟩
 ·rw [←zg2 hF.formed];exact hk
theorem zov {g:Img} (hf:yg g=true) {m:Me} (h:m∈g.methods):MeOk g m:=by
 obtain ⟨i,hi,rfl⟩:=List.getElem_of_mem h
 have:=zaO hf (x:=(i:Int)) (zjJ hi)
 rwa [show mAt g (i:Int)=g.methods[i] by rw [mAt,show ((i:Int)).toNat=i by omega,zL hi]] at this
theorem zp6 {g:Img} (hf:yg g=true):OwnOk g:=by
 obtain ⟨b1,b2,b3,_⟩:=zW hf
 refine ⟨by omega,by omega,by omega,fun td h=>?_,fun m h=>?_⟩
 ·have:=((zcq hf).faces td h).1;omega
 ·have:=(zov hf h).small;omega
set_option maxHeartbeats 4000000 in
theorem Vw (g:Img) (hx:OkA g) (hc:(qM g).2=0):ACall Tryz.prog 26 [zH g] (.ptr (zH g) 0):=by
 have c1:=zlx g hx
 have c2:=zpY g (zp6 (zc7 (zdZ hc).1).formed)
 rw [show zjH (qM g)=.tup [.agg [pi (qM g).1.1,pi (qM g).1.2],pi 0] by rw [zjH,hc]] at c1
 refine zh zf Tryz.func26 rfl (by kernel_rfl) Tryz.ntmps26 (by simp) _ rfl (fun hw gB hgB=>?_)
 repeat' (first|(refine shC ?_;first|refine qC c1 ?_|refine qC c2 ?_)|refine sK ?_|refine sC (fun _=>?_) (fun _=>?_)|fail)
 exact retq rfl rfl
theorem zgC (a:Ty):tyB a a=true:=by simp [tyB]
theorem Vj {a b:Ty} (h:tyB a b=true):a=b:=by
 have:=QA a b
 simp only [tyB] at h
 rw [h] at this
 simpa using this.symm
theorem ziu (g:Img) (a:Ty):Zx g a a=true:=by simp [Zx,zgC]
theorem znv {g:Img} {a:Ty} (h:plain a 7=true):Zx g a ⟨7,0,0,false⟩=true:=by
 have hk:a.kind=7∧a.dims=0∧a.ref=false:=by simpa [plain,and_assoc] using h
 have ho:object a=true:=by simp [object,hk.1,hk.2.2]
 have h2:object ⟨7,0,0,false⟩=true:=by decide
 have h4:plain a 8=false:=by simp [plain,hk.1]
 have h5:plain a 5=false:=by simp [plain,hk.1]
 have h6:plain ⟨7,0,0,false⟩ 4=false:=by decide
 unfold Zx
 split
 ·rfl
 ·rw [ho,h2,h4,h5,h6,h,zgC];rfl
theorem Vz {a:Ty} (h:plain a 5=true):object a=true:=by
 have hk:a.kind=5∧a.dims=0∧a.ref=false:=by simpa [plain,and_assoc] using h
 simp [object,hk.1,hk.2.2]
theorem zmt {g:Img} {a:Ty} {t:Int} (h:plain a 5=true) (hb:Xk g a.index t=true):Zx g a ⟨5,t,0,false⟩=true:=by
 have ho:=Vz h
 have hk:a.kind=5∧a.dims=0∧a.ref=false:=by simpa [plain,and_assoc] using h
 have h2:object ⟨5,t,0,false⟩=true:=by simp [object]
 have h4:plain a 8=false:=by simp [plain,hk.1]
 have h6:plain ⟨5,t,0,false⟩ 4=false:=by simp [plain]
 have h7:plain ⟨5,t,0,false⟩ 5=true:=by simp [plain]
 unfold Zx
 split
 ·rfl
 ·rw [ho,h2,h4,h6,h,h7];simpa using hb
theorem zgl {p:Ty→Ty→Bool} {a b:List Ty}:eqF p a b=true↔a.length=b.length∧∀ i (h:i < a.length) (h2:i < b.length),p a[i] b[i]=true:=by
 unfold eqF
 simp only [Bool.and_eq_true,decide_eq_true_eq,List.all_eq_true,List.mem_range]
 constructor
 ·rintro ⟨h1,h2⟩
  refine ⟨h1,fun i h h3=>?_⟩
  have:=h2 i h
  rwa [zL h,zL h3] at this
 ·rintro ⟨h1,h2⟩
  refine ⟨h1,fun i h=>?_⟩
  rw [zL h,zL (h1 ▸ h)]
  exact h2 i h _
end Go.Cg
namespace Go.Cg
open Go.RowKit
section
variable {P:Program} {tb:Tab} {n:Nat} {g:Base} {H:HEnv} {env:Env} {QQ:QC} {c:Code} {K:KK} {w:World} {ρ:Nat→Value}
theorem zoD (hf:FS g K ρ H w) {i t sz:Nat} {es:List PV} (hi:H.get i=some (.row t sz es)) {v:Value} (h:ARel K w ρ H (.own i) v):PRel K w (.slc sz es false) v :=
 zbT hf h (by simp [AV.cellPV,hi])
end
section
variable {P:Program} {tb:Tab} {n:Nat} {g:Base} {K:KK} {w:World} {ρ:Nat→Value} {H:HEnv} {env:Env} {a:Act} {ops:List Oper} {o:Oper} {rest:List Oper} {Q:Env→HEnv→Prop}
end
end Go.Cg
namespace Go.Cg
open Go.Proofs
section
variable {g:Img} {k i d:Int}
end
end Go.Cg
namespace Go.Cg
section
variable {P:Program} {n:Nat} {g:Base} {H:HEnv} {env:Env} {QQ:QC} {c:Code} {Q:Env→HEnv→Prop} {ops:List Oper}
theorem zm0 {t i e sz:Nat} {es:List PV} {a:Act} {w:World} (ht:env.get t=some (.own i)) (hi:H.get i=some (.row e sz es)) (hinv:Inv n g env H a w):Inv n g ((t,.pv (.slc sz es false))::env) H a w:=by
 obtain ⟨g1,g2,K,ρ,hf,he⟩:=hinv
 refine ⟨g1,g2,K,ρ,hf,fun t' av hg=>?_⟩
 rw [Env.get_cons] at hg
 split at hg
 ·rename_i e1;subst e1
  simp only [Option.some.injEq] at hg;subst hg
  obtain ⟨v,h1,h2⟩:=he _ _ ht
  exact ⟨v,h1,.pv _ _ (zoD hf hi h2)⟩
 ·exact he t' av hg
theorem zox {l:List Oper} (t:Nat) {i e sz:Nat} {es:List PV} (ht:env.get t=some (.own i)) (hi:H.get i=some (.row e sz es)) (k:AO P n g ops.toArray l ((t,.pv (.slc sz es false))::env) H Q):AO P n g ops.toArray l env H Q:=⟨fun a w hinv=>k.go a w (zm0 ht hi hinv)⟩
end
end Go.Cg
namespace Go.Cg
open Go.Proofs
def zbU (t:Ty):Bool:=!t.ref&&(decide (0 < t.dims)||t.kind==4||t.kind==5||t.kind==7||t.kind==8)
set_option maxHeartbeats 1000000 in
theorem zcb (t:Ty):ACall Tryz.prog 65 [yJ t] (pb (zbU t)):=by
 refine zh zf Tryz.func65 rfl (by kernel_rfl) Tryz.ntmps65 (by simp) _ rfl (fun hw gB hgB=>?_)
 repeat' (first|refine sA ?_|refine sC (fun _=>?_) (fun _=>?_)|fail)
 all_goals (first|refine retq rfl ?_|refine ZN rfl ?_)
 all_goals (first|(simp_all [zk,zbU];done)|(simp_all [zk,zbU];omega))
set_option maxHeartbeats 20000000
def zk7 (g:Img) (a b:Ty):Bool :=
 if tyB a b then true
 else if !zbU a||!zbU b then false
 else if decide (a.dims≤0)&&a.kind==8&&a.dims==0||b.dims==0&&b.kind==4 then true
 else if a.dims != 0||b.dims != 0||a.kind != b.kind then false
 else if a.kind==5 then Vb g a.index b.index
 else a.kind==7&&b.index==0
theorem zq6 {g:Img} (hF:Fm g) (a b:Ty):zk7 g a b=Zx g a b:=by
 rw [zk7,Zx]
 cases h1:tyB a b
 ·have ea:zbU a=object a:=rfl
  have eb:zbU b=object b:=rfl
  rw [ea,eb]
  cases ha:object a
  ·rfl
  cases hb:object b
  ·rfl
  obtain ⟨ka,ia,da,ra⟩:=a
  obtain ⟨kb,ib,db,rb⟩:=b
  have hra:ra=false:=by simp [object] at ha;exact ha.1
  have hrb:rb=false:=by simp [object] at hb;exact hb.1
  subst hra;subst hrb
  simp only [plain,zoR hF,Bool.not_true,Bool.or_self,Bool.false_eq_true,if_false,Bool.not_false,Bool.and_true]
  have e8:(decide (da≤0)&&ka==8&&da==0)=(ka==8&&da==0):=by
   rw [Bool.eq_iff_iff];simp only [Bool.and_eq_true,decide_eq_true_eq,beq_iff_eq];omega
  rw [e8,Bool.and_comm (x:=db==0)]
  by_cases h8:(ka==8&&da==0||kb==4&&db==0)=true
  ·rw [if_pos h8,if_pos h8]
  ·rw [if_neg h8,if_neg h8]
   by_cases hd:da=0
   ·by_cases hd':db=0
    ·subst hd;subst hd'
     have e5:∀ k:Int,(k==5)=decide (k=5):=fun k=>rfl
     have e7:∀ k:Int,(k==7)=decide (k=7):=fun k=>rfl
     simp only [e5,e7,tyB,bne,beq_self_eq_true,Bool.not_true,Bool.false_or,Bool.true_and,Bool.and_true]
     by_cases hk:ka=kb
     ·subst hk
      by_cases h5:ka=5
      ·subst h5;simp
      ·by_cases h7:ka=7
       ·subst h7;simp
       ·rw [decide_eq_false h5,decide_eq_false h7];simp
     ·have hkb:(ka==kb)=false:=beq_eq_false_iff_ne.2 hk
      rw [hkb]
      by_cases h5:ka=5
      ·rw [decide_eq_false (show ¬ kb=5 by omega),decide_eq_false (show ¬ ka=7 by omega)];simp
      ·by_cases h7:ka=7
       ·rw [decide_eq_false (show ¬ kb=7 by omega),decide_eq_false h5];simp
       ·rw [decide_eq_false h5,decide_eq_false h7];simp
    ·simp [hd,hd',tyB]
   ·simp [hd]
 ·rfl
theorem zj3 (g:Img) (a b:Ty) (hF:Fm g):ACall Tryz.prog 49 [zH g,yJ a,yJ b] (pb (Zx g a b)):=by
 rw [←zq6 hF]
 refine zh zf Tryz.func49 rfl (by kernel_rfl) Tryz.ntmps49 (by simp) _ rfl (fun hw gB hgB=>?_)
 repeat' (first|(refine shC ?_;first|refine qC (zcb a) ?_|refine qC (zcb b) ?_|refine qC (zkt g _ _ hF) ?_)|refine sA ?_|refine sC (fun _=>?_) (fun _=>?_)|fail)
 all_goals refine retq rfl ?_
 all_goals first|(simp only [zk,zk7,tyB, *];done)|(simp only [zk,zk7,tyB, *];rfl)|(simp_all [zk,zk7,tyB];done)
theorem zdS (g:Img) (a b:List Ty) (hF:Fm g):ACall Tryz.prog 24 [zH g,tys a,tys b] (pb (ZG g a b)):=by
 refine zh zf Tryz.func24 rfl (by kernel_rfl) Tryz.ntmps24 (by simp) _ rfl (fun hw gB hgB=>?_)
 have hl:=zb1 hw.2.1
 by_cases hlen:a.length=b.length
 ·repeat' (first|refine sK ?_|refine sC (fun _=>?_) (fun _=>?_)|fail)
  refine zJ (fun k:Nat=>[(1,.pv (tys a)),(2,.pv (tys b)),(3,.pv (.ptr (zH g) 0)),(7,.pv (pi k))]) (fun _=>[]) (fun k=>k≤a.length∧∀ i (h:i < a.length) (h2:i < b.length),i < k→Zx g a[i] b[i]=true) (fun k=>a.length - k) 0 ⟨by simp,fun _ _ _ h=>absurd h (by omega)⟩ (tS) tH ?_
  rintro k ⟨hk,hno⟩
  by_cases hlt:k < a.length
  ·have he:=WJ hlt
   have hltb:k < b.length:=by omega
   have he':=WJ hltb
   have c1:=zj3 g a[k] b[k] hF
   cases hf:Zx g a[k] b[k]
   ·rw [hf] at c1
    repeat' (first|(refine shC ?_;first|refine qC c1 ?_)|(refine shX ?_;first|refine qX he ?_|refine qX he' ?_)|refine sK ?_|refine sC (fun _=>?_) (fun _=>?_)|fail)
    refine retq rfl ?_
    have:ZG g a b=false:=Bool.eq_false_iff.2 fun h=>by
     have:=(zgl.1 h).2 k hlt hltb
     rw [hf] at this;cases this
    rw [this];rfl
   ·rw [hf] at c1
    repeat' (first|(refine shC ?_;first|refine qC c1 ?_)|(refine shX ?_;first|refine qX he ?_|refine qX he' ?_)|refine sK ?_|refine sC (fun _=>?_) (fun _=>?_)|fail)
    refine ⟨k + 1,⟨hlt,fun i h h2 hi=>?_⟩,tD,tS,tH⟩
    by_cases e:i=k
    ·subst e;exact hf
    ·exact hno i h h2 (by omega)
  ·repeat' (first|refine sK ?_|refine sC (fun _=>?_) (fun _=>?_)|fail)
   have:ZG g a b=true:=zgl.2 ⟨hlen,fun i h h2=>hno i h h2 (by omega)⟩
   exact retq rfl (by rw [this];rfl)
 ·have hb:((((a.map yJ).length:Nat):Int) != (((b.map yJ).length:Nat):Int))=true:=by simp;omega
  repeat' (first|refine sK ?_|refine sC (fun _=>?_) (fun _=>?_)|fail)
  have:ZG g a b=false:=Bool.eq_false_iff.2 fun h=>hlen (zgl.1 h).1
  exact retq rfl (by rw [this];rfl)
def zbJ (t:Ty):Bool:=Zw t&&t.kind != 1||tyB t ⟨8,0,0,false⟩||tyB t ⟨9,t.index,0,false⟩
theorem zhs (t:Ty):ACall Tryz.prog 25 [yJ t] (pb (zbJ t)):=by
 refine zh zf Tryz.func25 rfl (by kernel_rfl) Tryz.ntmps25 (by simp) _ rfl (fun hw gB hgB=>?_)
 repeat' (first|(refine shC ?_;first|refine qC (zdp t) ?_)|refine sA ?_|refine sC (fun _=>?_) (fun _=>?_)|fail)
 all_goals refine retq rfl ?_
 all_goals first|(simp only [zk,zbJ,tyB, *];done)|(simp only [zk,zbJ,tyB, *];rfl)|(simp_all [zk,zbJ,tyB];done)
def zdC (g:Img) (m a:Int):Bool:=(qM g).2==0&&decide (0≤m)&&decide (m < g.methods.length)&&decide (0≤a)&&decide (a < (mAt g m).code.length)
abbrev zrt (m a:Int):PV:=.agg [pi m,pi a]
theorem zcz (g:Img) (m a:Int):ACall Tryz.prog 23 [zH g,zrt m a] (pb (zdC g m a)):=by
 have c1:=zjm g
 rw [zdC]
 cases hc:(qM g).2==0
 ·rw [hc] at c1
  refine zh zf Tryz.func23 rfl (by kernel_rfl) Tryz.ntmps23 (by simp) _ rfl (fun hw gB hgB=>?_)
  repeat' (first|(refine shC ?_;first|refine qC c1 ?_)|refine sK ?_|refine sC (fun _=>?_) (fun _=>?_)|fail)
  exact retq rfl rfl
 ·rw [hc] at c1
  by_cases h0:0≤m
  ·by_cases h1:m < g.methods.length
   ·have hd1:decide (m < (((g.methods.map yL).length:Nat):Int))=true:=decide_eq_true (by simpa using h1)
    have hem:=ZF (g:=g) ⟨h0,by omega⟩
    refine zh zf Tryz.func23 rfl (by kernel_rfl) Tryz.ntmps23 (by simp) _ rfl (fun hw gB hgB=>?_)
    repeat' (first|(refine shC ?_;first|refine qC c1 ?_)|(refine shX ?_;first|refine zB rfl (zl zf rfl rfl rfl rfl rfl rfl h0 hem) rfl rfl ?_|refine AD.step _ _ _ _ _ rfl (zl zf rfl rfl rfl rfl rfl rfl h0 hem) rfl rfl ?_)|refine sK ?_|refine sC (fun _=>?_) (fun _=>?_)|fail)
    all_goals (refine retq rfl ?_;first|(simp_all [zk];done)|(simp_all [zk];intros;omega))
   ·have hd1:decide (m < (((g.methods.map yL).length:Nat):Int))=false:=decide_eq_false (by simpa using h1)
    refine zh zf Tryz.func23 rfl (by kernel_rfl) Tryz.ntmps23 (by simp) _ rfl (fun hw gB hgB=>?_)
    repeat' (first|(refine shC ?_;first|refine qC c1 ?_)|refine sK ?_|refine sC (fun _=>?_) (fun _=>?_)|fail)
    all_goals (refine retq rfl ?_;first|(simp_all [zk];done)|(simp_all [zk];intros;omega))
  ·refine zh zf Tryz.func23 rfl (by kernel_rfl) Tryz.ntmps23 (by simp) _ rfl (fun hw gB hgB=>?_)
   repeat' (first|(refine shC ?_;first|refine qC c1 ?_)|refine sK ?_|refine sC (fun _=>?_) (fun _=>?_)|fail)
   all_goals (refine retq rfl ?_;first|(simp_all [zk];done)|(simp_all [zk];intros;omega))
def NzS {α:Type} (act:SM α):Prop:=∀ l e,act l=.error e→e≠0
theorem zr2 {α β:Type} {x:SM α} {f:α→SM β} (hx:NzS x) (hf:∀ a,NzS (f a)):NzS (x >>= f):=fun l e h=>by
 rw [zx] at h
 cases hxl:x l with
 | error e'=>rw [hxl] at h;cases h;exact hx l e hxl
 | ok p=>rw [hxl] at h;exact hf p.1 p.2 e h
theorem zr3 {α:Type} (a:α):NzS (pure a:SM α):=fun l e h=>by rw [zA] at h;cases h
theorem zsd (b:Bool) {k:Int} (hk:k≠0):NzS (zI b k):=fun l e h=>by unfold zI at h;split at h <;> cases h;exact hk
theorem ztm:NzS Yk:=fun l e h=>by unfold Yk at h;split at h <;> cases h;decide
theorem zsg (max:Int) (ts:List Ty):NzS (yR max ts):=fun l e h=>by unfold yR at h;split at h <;> cases h;decide
theorem zrT:NzS zai:=fun l e h=>by cases h
theorem zqg {k:Int} (hk:k≠0):NzS (emptyS k):=fun l e h=>by unfold emptyS at h;split at h <;> cases h;exact hk
theorem zqa (g:Img) (ls:List Ty):NzS (Zh g ls):=fun l e h=>by
 unfold Zh at h
 split at h
 ·cases h;decide
 ·split at h <;> cases h;decide
theorem zs6 {α:Type} {p:Prop} [Decidable p] {x y:SM α} (hx:NzS x) (hy:NzS y):NzS (if p then x else y):=by split <;> assumption
theorem zsR (g:Img) (ar:List Ty) (m:Me) (x:Ins):NzS (doS g ar m x):=by
 unfold doS qJ qm Ze qw yE qI yB yw yt Zm yI
 dsimp only
 unfold XR Yo Ym qU za3 qN ZY Zb QO
 repeat' (first|with_reducible exact ztm|with_reducible exact zsg _ _|with_reducible exact zr3 _|with_reducible exact zrT|with_reducible exact zsd _ (by decide)|with_reducible exact zqg (by decide)|with_reducible exact zqa _ _|with_reducible refine zr2 ?_ fun _=>?_|with_reducible refine zs6 ?_ ?_)
theorem zoe {g:Img} {m a:Int} {l:List Ty} {e:Int} (h:stepS g m a l=.error e):e≠0:=zsR _ _ _ _ l e h
theorem Qs (g:Img) (hc:(qM g).2=0) {m a:Int} (hm:mOk g m) (h0:0≤a) (h1:a.toNat < (mAt g m).code.length) (l:List Ty) (hl:l.length≤100) :
  ACall Tryz.prog 27 [.ptr (zH g) 0,pi m,pi a,tys l] (zq8 (stepS g m a l)):=by
 have hf:=(zc7 (zdZ hc).1).formed
 have hM:=(zaO hf hm).small
 have hb:=zW hf
 exact zoJ g (zcq hf) (by omega) m a l hl hm (by omega) h0 h1 (ztd hc hm h0 h1)
def gW:Img:=⟨[⟨⟨#[65]⟩,0,-1,[]⟩],[],[⟨⟨#[109]⟩,0,1,[],⟨1,0,0,false⟩,[],2,[⟨13,0,⟨0,0,0,false⟩⟩],[]⟩],-1⟩
theorem ztK:Yq gW=true:=by decide +kernel
theorem ztF:Ya gW=true:=by decide +kernel
theorem ztG:∀ j,j < gW.types.length→YG gW j=false:=by
 intro j hj
 have:j=0:=by have:gW.types.length=1:=rfl;omega
 subst this;decide +kernel
theorem zra:YW gW=(0,0):=zdB ztK ztF ztG
theorem okW:OkA gW:=by
 intro m hm x hx
 have hm2:m=⟨⟨#[109]⟩,0,1,[],⟨1,0,0,false⟩,[],2,[⟨13,0,⟨0,0,0,false⟩⟩],[]⟩:=by simpa [gW] using hm
 have hx2:x=⟨13,0,⟨0,0,0,false⟩⟩:=by rw [hm2] at hx;simpa using hx
 subst hx2
 exact ⟨by decide,by decide⟩
theorem zrF:qM gW=((0,0),0):=by
 rw [qM,show zdg gW=true by rw [zdg,zra];rfl]
 show stM gW (List.range gW.methods.length)=((0,0),0)
 decide +kernel
abbrev zt3:PV:=.agg [.slc 4 [wTD 65 (-1)] true,.base (.slice none 0 0),.slc 12 [.agg [.base (.string ⟨#[109]⟩),pi 0,pi 1,.base (.slice none 0 0),pi 1,pi 0,pi 0,pb false,.base (.slice none 0 0),pi 2,.slc 6 [.agg [pi 13,pi 0,pi 0,pi 0,pi 0,pb false]] true,.base (.slice none 0 0)]] true,pi (-1)]
theorem zmw:PTells zt3 (zH gW) :=
 ztC (yY (ze1 (zac (zo9 65 (-1)) zc5)) (yY (zht 7 false) (yY (ze1 (zac
  (yY (.refl _) (yY (.refl _) (yY (.refl _) (yY (zht 4 false) (yY (.refl _) (yY (.refl _) (yY (.refl _) (yY (.refl _) (yY (zht 4 false) (yY (.refl _)
   (yY (ze1 (zac (yY (.refl _) (yY (.refl _) (yY (.refl _) (yY (.refl _) (yY (.refl _) (yY (.refl _) zbP)))))) zc5)) (yY (zht 10 false) zbP))))))))))))
  zc5)) (yY (.refl _) zbP))))
theorem zd4:∀ l:List PV,PTL l l
 | []=>zbP
 | _::l=>yY (.refl _) (zd4 l)
theorem zgG (a b:Ty):PTells (.slc 4 [yJ a,yJ b] true) (tys [a,b]):=ze1 (zac (zd4 _) (zac (zd4 _) zc5))
theorem zgY (a:Ty):PTells (.slc 4 [yJ a] true) (tys [a]):=ze1 (zac (zd4 _) zc5)
set_option maxHeartbeats 4000000 in
theorem yT:ACall Tryz.prog 21 [] (pb true):=by
 have hc:(qM gW).2=0:=by rw [zrF]
 have m0:mOk gW 0:=⟨by decide,by decide⟩
 have h1:(0:Int).toNat < (mAt gW 0).code.length:=by decide
 have c0:=Vw gW okW hc
 have c1:=Qs gW hc m0 (by decide) h1 [kTy 2,kTy 2] (by decide)
 have c2:=Qs gW hc m0 (by decide) h1 [kTy 2,kTy 3] (by decide)
 have c3:=Qs gW hc m0 (by decide) h1 [kTy 2] (by decide)
 rw [show stepS gW 0 0 [kTy 2,kTy 2]=.ok ((),[kTy 2]) from rfl] at c1
 rw [show stepS gW 0 0 [kTy 2,kTy 3]=.error 10 from rfl] at c2
 rw [show stepS gW 0 0 [kTy 2]=.error 9 from rfl] at c3
 have c4:=zah [kTy 2] [kTy 2]
 rw [decide_eq_true rfl] at c4
 refine zh zf Tryz.func21 rfl (by kernel_rfl) Tryz.ntmps21 (by simp) _ rfl (fun hw gB hgB=>?_)
 repeat' (first|refine XW (t:=1) rfl rfl rfl ?_|refine XW (t:=2) rfl rfl rfl ?_|refine za8 21 zmw rfl ?_|refine za8 27 (zgG (kTy 2) (kTy 2)) rfl ?_|refine za8 35 (zgG (kTy 2) (kTy 3)) rfl ?_|refine za8 42 (zgY (kTy 2)) rfl ?_|refine za8 51 (zgY (kTy 2)) rfl ?_|(refine shC ?_;first|refine qC c0 ?_|refine qC c1 ?_|refine qC c2 ?_|refine qC c3 ?_|refine qC c4 ?_)|refine sK ?_|refine sC (fun _=>?_) (fun _=>?_)|fail)
 exact retq rfl rfl
def BdS {α:Type} (max:Int) (act:SM α):Prop:=∀ l a l',act l=.ok (a,l')→((l'.length:Int)≤max∨l'.length≤l.length)∧l'.length≤l.length + 1
theorem zd8 {α:Type} {max:Int} {act:SM α} (h:LeS act):BdS max act:=fun l a l' hx=>⟨.inr (h l a l' hx),by have:=h l a l' hx;omega⟩
theorem QH {α β:Type} {max:Int} {x:SM α} {f:α→SM β} (hx:LeS x) (hf:∀ a,BdS max (f a)):BdS max (x >>= f):=fun l b l' h=>by
 rw [zx] at h
 cases hxl:x l with
 | error e=>rw [hxl] at h;cases h
 | ok p =>
  obtain ⟨a,l1⟩:=p
  rw [hxl] at h
  have h1:=hf a l1 b l' h
  have h2:=hx l a l1 hxl
  exact ⟨h1.1.imp (fun h=>h) (fun h=>by omega),by omega⟩
theorem zgy (max:Int) (t:Ty):BdS max (yR max [t]):=fun l a l' h=>by
 unfold yR at h
 split at h
 ·rename_i hm
  cases h
  simp at hm ⊢;omega
 ·cases h
theorem ztA (max:Int):BdS max (do let t ←Yk;yR max [t,t]):=fun l a l' h=>by
 rcases Zv l with e|⟨t,l1,e,e2⟩
 ·rw [zeY e] at h;cases h
 ·rw [zml e] at h
  unfold yR at h
  split at h
  ·rename_i hm
   cases h
   subst e2
   simp at hm ⊢;omega
  ·cases h
theorem zqF:LeS zai:=fun l a l' h=>by cases h;simp
theorem znB:LeS qU:=fun l a l' h=>zaL h
theorem one_le:LeS za3:=fun l a l' h=>zd1 h
theorem zis:LeS qN:=fun l a l' h=>zdv h
theorem zr6 (x:Ins) (ls:List Ty):LeS (XR x ls):=fun l a l' h=>zae h
theorem zi3 (g:Img) (f:Fd) (it:Bool):LeS (Zb g f it):=fun l a l' h=>zbO h
theorem zqC (x:Ins):LeS (QO x):=fun l a l' h=>zbi h
theorem znt (max:Int) (t:Ty):BdS max (Ym max t):=QH (WG _ _) fun _=>zgy _ _
theorem zoG (max:Int) (c:Me):BdS max (ZY max c):=by
 unfold ZY
 split
 ·exact zgy _ _
 ·exact zd8 (zbH _)
theorem ztz {α:Type} {max:Int} {p:Prop} [Decidable p] {x y:SM α} (hx:BdS max x) (hy:BdS max y):BdS max (if p then x else y):=by split <;> assumption
theorem zsQ (g:Img) (ar:List Ty) (m:Me) (x:Ins):BdS m.max (doS g ar m x):=by
 unfold doS qJ qm Ze qw yE qI yB yw yt Zm yI
 try dsimp only
 repeat' (first|with_reducible exact zgy _ _|with_reducible exact ztA _|with_reducible exact zd8 (zbH _)|with_reducible exact zd8 (WG _ _)|with_reducible exact zd8 (zjg _ _)|with_reducible exact zd8 (zg6 _ _)|with_reducible exact zd8 (zi3 _ _ _)|with_reducible exact zd8 zis|with_reducible exact zd8 zqF|with_reducible exact znt _ _|with_reducible exact zoG _ _|with_reducible exact zd8 zaW|with_reducible refine QH (zbH _) fun _=>?_|with_reducible refine QH (WG _ _) fun _=>?_|with_reducible refine QH (zaW) fun _=>?_|with_reducible refine QH (zjg _ _) fun _=>?_|with_reducible refine QH (zg6 _ _) fun _=>?_|with_reducible refine QH (znB) fun _=>?_|with_reducible refine QH (one_le) fun _=>?_|with_reducible refine QH (zis) fun _=>?_|with_reducible refine QH (zr6 _ _) fun _=>?_|with_reducible refine QH (zi3 _ _ _) fun _=>?_|with_reducible refine QH (zqC _) fun _=>?_|with_reducible refine QH (empty_le _) fun _=>?_|with_reducible refine ztz ?_ ?_|split|dsimp only)
theorem zeD {g:Img} {m a:Int} (h:zdC g m a=true):(qM g).2=0∧mOk g m∧m < g.methods.length∧0≤a∧a < (mAt g m).code.length:=by
 simp only [zdC,Bool.and_eq_true,decide_eq_true_eq,beq_iff_eq] at h
 obtain ⟨⟨⟨⟨h1,h2⟩,h3⟩,h4⟩,h5⟩:=h
 exact ⟨h1,⟨h2,by omega⟩,h3,h4,h5⟩
set_option maxHeartbeats 4000000 in
theorem zga (g:Img) (hx:OkA g) (m a:Int) (l:List Ty):ACall Tryz.prog 6 [zH g,zrt m a,tys l] (pb true):=by
 have c1:=ze9 g
 have c2:=zcz g m a
 refine zh zf Tryz.func6 rfl (by kernel_rfl) Tryz.ntmps6 (by simp) _ rfl (fun hw gB hgB=>?_)
 cases hl:zaq g
 ·rw [hl] at c1
  by_cases hn:(60:Int) < (((l.map yJ).length:Nat):Int)
  ·have hd:=decide_eq_true hn
   repeat' (first|(refine shC ?_;first|refine qC yT ?_|refine qC c1 ?_|refine qC c2 ?_)|refine sK ?_|refine sC (fun _=>?_) (fun _=>?_)|fail)
   all_goals exact retq rfl rfl
  ·have hd:=decide_eq_false hn
   cases ht:zdC g m a
   ·rw [ht] at c2
    repeat' (first|(refine shC ?_;first|refine qC yT ?_|refine qC c1 ?_|refine qC c2 ?_)|refine sK ?_|refine sC (fun _=>?_) (fun _=>?_)|fail)
    all_goals exact retq rfl rfl
   ·rw [ht] at c2
    obtain ⟨hc,hm,_,h0,h1⟩:=zeD ht
    rw [List.length_map] at hn
    have c3:=Vw g hx hc
    have c4:=Qs g hc hm h0 (by omega) l (by omega)
    have hem:=ZF hm
    cases hS:stepS g m a l with
    | error e =>
     rw [hS] at c4
     have hne:(e != 0)=true:=bne_iff_ne.2 (zoe hS)
     repeat' (first|(refine shC ?_;first|refine qC yT ?_|refine qC c1 ?_|refine qC c2 ?_|refine qC c3 ?_|refine qC c4 ?_)|(refine shX ?_;first|refine zB rfl (zl zf rfl rfl rfl rfl rfl rfl hm.1 hem) rfl rfl ?_|refine AD.step _ _ _ _ _ rfl (zl zf rfl rfl rfl rfl rfl rfl hm.1 hem) rfl rfl ?_)|refine sK ?_|refine sC (fun _=>?_) (fun _=>?_)|fail)
     all_goals exact retq rfl rfl
    | ok p =>
     obtain ⟨⟨⟩,l2⟩:=p
     replace c4:ACall Tryz.prog 27 [.ptr (zH g) 0,pi m,pi a,tys l] (.tup [tys l2,pi 0]):=by rw [hS] at c4;exact c4
     obtain ⟨b1,b2⟩:=zsQ _ _ _ _ _ _ _ hS
     have hdw:decide (IntKind.i64.wrap ((((l2.map yJ).length:Nat):Int) - (((l.map yJ).length:Nat):Int))≤2)=true:=by
      rw [List.length_map,List.length_map,wrap_in (by omega) (by omega)];exact decide_eq_true (by omega)
     repeat' (first|(refine shC ?_;first|refine qC yT ?_|refine qC c1 ?_|refine qC c2 ?_|refine qC c3 ?_|refine qC c4 ?_)|(refine shX ?_;first|refine zB rfl (zl zf rfl rfl rfl rfl rfl rfl hm.1 hem) rfl rfl ?_|refine AD.step _ _ _ _ _ rfl (zl zf rfl rfl rfl rfl rfl rfl hm.1 hem) rfl rfl ?_)|refine sK ?_|refine sC (fun _=>?_) (fun _=>?_)|fail)
     all_goals first
      | (exfalso;simp only [List.length_map,decide_eq_false_iff_not] at *;omega)
      | exact retq rfl (by simp only [zk,hdw])
 ·rw [hl] at c1
  repeat' (first|(refine shC ?_;first|refine qC yT ?_|refine qC c1 ?_)|refine sK ?_|refine sC (fun _=>?_) (fun _=>?_)|fail)
  all_goals exact retq rfl rfl
end Go.Cg
/- From a reading of an argument to a pure value. -/
namespace Go.Cg
open Go.RowKit Go.ChangeShapes Go.WideShapes Go.ChangeAt Go.Deep

/-- All that lay when the call began. -/
def KW (w : World) : KK := fun b _ => b < w.heap.size

section
variable {H : Type} {enc : TypeId × Value → H} {P : Program} {w : World}

/-- Whatever reads at this type, holds cells of this kind. -/
def Rd (enc : TypeId × Value → H) (P : Program) (w : World) (t : TypeId) (sz : Nat) (X : List PV → Prop) : Prop :=
  P.cellsOf t = sz ∧ ∀ fuel cs x, DataW.trod enc P w 0 (fun _ => true) true fuel t cs = some x → ∃ pvs, X pvs ∧ PRels (KW w) w pvs cs ∧ cs.length = sz ∧ (∀ v ∈ cs, v.oneCell' = true)

theorem Rd.mono {t : TypeId} {sz : Nat} {X Y : List PV → Prop} (h : Rd enc P w t sz X) (hxy : ∀ ps, X ps → Y ps) : Rd enc P w t sz Y :=
  ⟨h.1, fun fuel cs x hx => let ⟨ps, h1, h2⟩ := h.2 fuel cs x hx; ⟨ps, hxy ps h1, h2⟩⟩

theorem zrC {t : TypeId} {k : IntKind} (ht : P.underlying t = some (.int k)) (hc : P.cellsOf t = 1) : Rd enc P w t 1 (fun ps => ∃ n, (Lit.int k n).wf = true ∧ ps = [.base (.int k n)]) := by
  refine ⟨hc, fun fuel cs x hx => ?_⟩
  obtain ⟨n, rfl, _, hw⟩ := DataW.trod_int ht hx
  exact ⟨_, ⟨n, hw, rfl⟩, .cons (.base _ rfl) .nil, rfl, by simp [Value.oneCell']⟩

theorem zsj {t : TypeId} (ht : P.underlying t = some .bool) (hc : P.cellsOf t = 1) : Rd enc P w t 1 (fun ps => ∃ b, ps = [.base (.bool b)]) := by
  refine ⟨hc, fun fuel cs x hx => ?_⟩
  obtain ⟨b, rfl, _⟩ := DataW.trod_bool ht hx
  exact ⟨_, ⟨b, rfl⟩, .cons (.base _ rfl) .nil, rfl, by simp [Value.oneCell']⟩

theorem zpp {t : TypeId} (ht : P.underlying t = some .string) (hc : P.cellsOf t = 1) : Rd enc P w t 1 (fun ps => ∃ s : ByteArray, s.size ≤ maxLen ∧ ps = [.base (.string s)]) := by
  refine ⟨hc, fun fuel cs x hx => ?_⟩
  obtain ⟨s, rfl, _, hs⟩ := DataW.trod_string ht hx
  exact ⟨_, ⟨s, hs, rfl⟩, .cons (.base _ (by simpa [Xh] using hs)) .nil, rfl, by simp [Value.oneCell']⟩

theorem zal {t e : TypeId} {sz : Nat} {α : Type} [Inhabited α] {G : α → Prop} {f : α → PV} (ht : P.underlying t = some (.slice e)) (hc : P.cellsOf t = 1) (h0 : 0 < sz) (he : Rd enc P w e sz (fun ps => ∃ x : α, G x ∧ ps = (f x).cells)) :
    Rd enc P w t 1 (fun ps => ∃ l : List α, (∀ x ∈ l, G x) ∧ ps = [.slc sz (l.map f) false]) := by
  refine ⟨hc, fun fuel cs x hx => ?_⟩
  obtain ⟨hes, hel⟩ := he
  rcases open_slice ht hx with ⟨rfl, _⟩ | ⟨a, len, cap, m, n, D, Pl, rfl, _, hl, hm, hmm, _, hall⟩
  · exact ⟨_, ⟨[], by simp, rfl⟩, .cons (.nil sz false) .nil, rfl, by simp [Value.oneCell']⟩
  · simp only [if_true] at hmm
    subst hmm
    rw [hes] at hall
    by_cases hcap : m = 0
    · subst hcap
      obtain rfl : len = 0 := by omega
      exact ⟨_, ⟨[], by simp, rfl⟩, .cons (.emp sz false a) .nil, rfl, by simp [Value.oneCell']⟩
    · have hx : ∀ i, i < len → ∃ y : α × List Value, G y.1 ∧ w.cells? 0 (a.add (i * sz)) sz = some y.2 ∧ PRels (KW w) w (f y.1).cells y.2 ∧ y.2.length = sz ∧ (∀ v ∈ y.2, v.oneCell' = true) := by
        intro i hi
        obtain ⟨cs', h1, h2⟩ := hall i (by omega)
        obtain ⟨pvs, ⟨x, hg, rfl⟩, h4, h5, h6⟩ := hel _ _ _ h2
        exact ⟨(x, cs'), hg, h1, h4, h5, h6⟩
      obtain ⟨F, hF⟩ := choose_lt hx
      obtain ⟨b, o, spot⟩ := a
      have hspot : spot = none := by
        obtain ⟨cs', h1, _⟩ := hall 0 (by omega)
        obtain ⟨_, h2, h3⟩ := World.cells?_some h1
        have := h3 0 h0
        have h4 : cs'[0]? = some (cs'[0]'(by omega)) := List.getElem?_eq_getElem _
        rw [h4] at this
        simp only [Nat.zero_mul] at this
        have := World.cell?_spot this
        simpa [Addr.add] using this
      subst hspot
      refine ⟨_, ⟨(List.range len).map fun i => (F i).1, ?_, rfl⟩, .cons ?_ .nil, rfl, by simp [Value.oneCell']⟩
      · intro x hx
        simp only [List.mem_map, List.mem_range] at hx
        obtain ⟨i, hi, rfl⟩ := hx
        exact (hF i hi).1
      · have hlen : (((List.range len).map fun i => (F i).1).map f).length = len := by simp
        have hget : ∀ i e, (((List.range len).map fun i => (F i).1).map f)[i]? = some e → i < len ∧ e = f (F i).1 := by
          intro i e he
          have hi : i < len := by have := (List.getElem?_eq_some_iff.1 he).1; rw [hlen] at this; exact this
          refine ⟨hi, ?_⟩
          simp [hi] at he
          exact he.symm
        have := PRel.slc (K := KW w) (w := w) sz (((List.range len).map fun i => (F i).1).map f) false b o m (fun i => (F i).2) h0 (by rw [hlen]; exact hl) (by simp) (by rw [hlen]; omega) hm
          (fun i e he => by
            obtain ⟨hi, rfl⟩ := hget i e he
            obtain ⟨_, h1, h2, h3, h4⟩ := hF i hi
            refine ⟨by rw [← h2.1]; exact h3, h3, fun k v hv => ?_⟩
            have hk : k < sz := by rw [← h3]; exact (List.getElem?_eq_some_iff.1 hv).1
            obtain ⟨_, _, h5⟩ := World.cells?_some h1
            have h6 := h5 k hk
            rw [hv, Addr.add_lit, Addr.add_lit] at h6
            have h7 : b < w.heap.size := World.cells?_block h1 h0 |> (by simpa [Addr.add_lit] using ·)
            exact ⟨h7, h6, h4 v (List.mem_of_getElem? hv)⟩)
          (fun i e k c v he hc hv => by
            obtain ⟨hi, rfl⟩ := hget i e he
            exact (hF i hi).2.2.1.2 k c v hc hv)
        rw [hlen] at this
        exact this

def zsB : List (List PV → Prop) → List PV → Prop
  | [], ps => ps = []
  | X :: r, ps => ∃ a b, X a ∧ zsB r b ∧ ps = a ++ b

def zir (enc : TypeId × Value → H) (P : Program) (w : World) (n : Nat) : List Field → List (List PV → Prop) → Nat → Prop
  | [], [], off => off = n
  | f :: fs, X :: Xs, off => f.offset = off ∧ ∃ sz, Rd enc P w f.type sz X ∧ zir enc P w n fs Xs (off + sz)
  | _, _, _ => False

theorem WM {n : Nat} : zir enc P w n [] [] n := rfl
theorem yK {n sz off : Nat} {f : Field} {fs : List Field} {X : List PV → Prop} {Xs : List (List PV → Prop)} (ho : f.offset = off) (hr : Rd enc P w f.type sz X) (h : zir enc P w n fs Xs (off + sz)) : zir enc P w n (f :: fs) (X :: Xs) off := ⟨ho, sz, hr, h⟩

theorem zkj {n m : Nat} {cs : List Value} (hl : cs.length = n) : ∀ {fs : List Field} {Xs : List (List PV → Prop)} {off : Nat}, zir enc P w n fs Xs off →
    (∀ (i : Nat) (f : Field), fs[i]? = some f → ∃ x, DataW.trod enc P w 0 (fun _ => true) true m f.type ((cs.drop f.offset).take (P.cellsOf f.type)) = some x) →
    ∃ pvs, zsB Xs pvs ∧ PRels (KW w) w pvs (cs.drop off) ∧ (∀ v ∈ cs.drop off, v.oneCell' = true)
  | [], [], off, h, _ => by
    have h : off = n := h
    subst h
    have : cs.drop off = [] := by rw [← hl]; simp
    rw [this]
    exact ⟨[], rfl, .nil, by simp⟩
  | f :: fs, X :: Xs, off, h, hall => by
    obtain ⟨rfl, sz, ⟨h1, h2⟩, h3⟩ := h
    obtain ⟨x, hx⟩ := hall 0 f rfl
    obtain ⟨pa, a1, a2, a3, a4⟩ := h2 _ _ _ hx
    obtain ⟨pb, b1, b2, b3⟩ := zkj hl h3 (fun i g hg => hall (i + 1) g (by simpa using hg))
    have e : cs.drop f.offset = (cs.drop f.offset).take sz ++ cs.drop (f.offset + sz) := by
      rw [← List.drop_drop, List.take_append_drop]
    rw [h1] at a2 a3 a4
    rw [e]
    exact ⟨pa ++ pb, ⟨pa, pb, a1, b1, rfl⟩, a2.append b2, fun v hv => (List.mem_append.1 hv).elim (a4 v) (b3 v)⟩

theorem Xu {t : TypeId} {fs : Array Field} {n : Nat} {Xs : List (List PV → Prop)} (ht : P.underlying t = some (.struct fs)) (hc : P.cellsOf t = n) (hf : zir enc P w n fs.toList Xs 0) : Rd enc P w t n (zsB Xs) := by
  refine ⟨hc, fun fuel cs x hx => ?_⟩
  obtain ⟨xs, m, _, _, hl, hxs, hall⟩ := DataW.trod_struct ht hx
  have := zkj (m := m) (by rw [hl, hc]) hf (fun i f hf => by
    have hi : i < fs.size := by simpa using (List.getElem?_eq_some_iff.1 hf).1
    have := hall i f (by simpa using hf)
    exact ⟨_, this.trans (List.getElem?_eq_getElem (by omega))⟩)
  simp only [List.drop_zero] at this
  obtain ⟨pvs, h1, h2, h3⟩ := this
  exact ⟨pvs, h1, h2, by rw [hl, hc], h3⟩

/-- An argument of one cell. -/
theorem ztw {t : TypeId} {X : List PV → Prop} (h : Rd enc P w t 1 X) {v : Value} {d : DataW H} {ps : List MemPlace} (hv : v.cells = #[v]) (ht : DataW.Trod enc P w 0 (fun _ => true) true t v d ps) : ∃ p, X [p] ∧ PRel (KW w) w p v := by
  obtain ⟨fuel, hx⟩ := ht
  obtain ⟨pvs, h1, h2, _, _⟩ := h.2 _ _ _ hx
  rw [hv] at h2
  have hl : pvs.length = 1 := by simpa using h2.1.symm
  obtain ⟨p, rfl⟩ := List.length_eq_one_iff.1 hl
  exact ⟨p, h1, h2.2 0 p v (by simp) (by simp)⟩
/-- An argument that is a struct or an array. -/
theorem zcK {t : TypeId} {n : Nat} {X : List PV → Prop} (h : Rd enc P w t n X) {cs : Array Value} {d : DataW H} {ps : List MemPlace} (ht : DataW.Trod enc P w 0 (fun _ => true) true t (.agg cs) d ps) : ∃ pvs, X pvs ∧ PRel (KW w) w (.agg pvs) (.agg cs) := by
  obtain ⟨fuel, hx⟩ := ht
  obtain ⟨pvs, h1, h2, _, h4⟩ := h.2 _ _ _ hx
  refine ⟨pvs, h1, ?_⟩
  have := PRel.agg pvs cs.toList h2.1 (by simpa [Value.cells] using h4) (by simpa [Value.cells] using h2.2)
  simpa using this

theorem okWide_slice_one {t e : TypeId} {v : Value} (ht : P.underlying t = some (.slice e)) {base : Nat} (h : Value.okWide P w .any base t v) : v.cells = #[v] := by
  simp only [Value.okWide, ht, Cell.okWide, Cell.ok] at h
  cases v <;> first | rfl | simp at h
theorem okWide_struct {t : TypeId} {fs : Array Field} {v : Value} (ht : P.underlying t = some (.struct fs)) {base : Nat} (h : Value.okWide P w .any base t v) : ∃ cs, v = .agg cs := by
  simp only [Value.okWide, ht] at h
  obtain ⟨cs, h, _⟩ := h
  exact ⟨cs, h⟩
theorem okWide_array {t e : TypeId} {n : Nat} {v : Value} (ht : P.underlying t = some (.array n e)) {base : Nat} (h : Value.okWide P w .any base t v) : ∃ cs, v = .agg cs := by
  simp only [Value.okWide, ht] at h
  obtain ⟨cs, h, _⟩ := h
  exact ⟨cs, h⟩

end
end Go.Cg
namespace Go.Cg
open Go.RowKit Go.Proofs

def zpi (t : Ty) : Prop := (Lit.int .i64 t.kind).wf = true ∧ (Lit.int .i64 t.index).wf = true ∧ (Lit.int .i64 t.dims).wf = true
def zhe (l : List Ty) : Prop := ∀ t ∈ l, zpi t
def ztf (t : TD) : Prop := (Lit.int .i64 t.flags).wf = true ∧ (Lit.int .i64 t.ext).wf = true ∧ ∀ f ∈ t.faces, (Lit.int .i64 f).wf = true
def ztp (f : Fd) : Prop := (Lit.int .i64 f.owner).wf = true ∧ zpi f.ty
def zqi (x : Ins) : Prop := (Lit.int .i64 x.op).wf = true ∧ (Lit.int .i64 x.arg).wf = true ∧ zpi x.t
def zty (c : Cl) : Prop := (Lit.int .i64 c.kind).wf = true ∧ (Lit.int .i64 c.tf).wf = true ∧ (Lit.int .i64 c.tt).wf = true ∧ (Lit.int .i64 c.hf).wf = true ∧ (Lit.int .i64 c.ht).wf = true ∧ (Lit.int .i64 c.filter).wf = true ∧ zpi c.t
def zs4 (m : Me) : Prop := (Lit.int .i64 m.owner).wf = true ∧ (Lit.int .i64 m.flags).wf = true ∧ zhe m.params ∧ zpi m.ret ∧ zhe m.locals ∧ (Lit.int .i64 m.max).wf = true ∧ (∀ x ∈ m.code, zqi x) ∧ ∀ c ∈ m.clauses, zty c
def zft (g : Img) : Prop := (∀ t ∈ g.types, ztf t) ∧ (∀ f ∈ g.fields, ztp f) ∧ (∀ m ∈ g.methods, zs4 m) ∧ (Lit.int .i64 g.entry).wf = true
section
variable {H : Type} {enc : TypeId × Value → H} {w : World}
theorem XQ : Rd enc Tryz.prog w 3 1 (fun ps => ∃ n, (Lit.int .i64 n).wf = true ∧ ps = [.base (.int .i64 n)]) := zrC Tryz.underlying3 (by kernel_rfl)
theorem zst : Rd enc Tryz.prog w 2 1 (fun ps => ∃ n, (Lit.int .i64 n).wf = true ∧ ps = [.base (.int .i64 n)]) := zrC Tryz.underlying2 (by kernel_rfl)
theorem rdBool : Rd enc Tryz.prog w 4 1 (fun ps => ∃ b, ps = [.base (.bool b)]) := zsj Tryz.underlying4 (by kernel_rfl)
theorem rdStr : Rd enc Tryz.prog w 9 1 (fun ps => ∃ s : ByteArray, s.size ≤ maxLen ∧ ps = [.base (.string s)]) := zpp Tryz.underlying9 (by kernel_rfl)
theorem zqj : Rd enc Tryz.prog w 60 4 (fun ps => ∃ t : Ty, zpi t ∧ ps = (yJ t).cells) := by
  refine (Xu Tryz.underlying60 (by kernel_rfl) (yK rfl XQ (yK rfl XQ (yK rfl XQ (yK rfl rdBool WM))))).mono ?_
  rintro _ ⟨_, _, ⟨a, ha, rfl⟩, ⟨_, _, ⟨b, hb, rfl⟩, ⟨_, _, ⟨c, hc, rfl⟩, ⟨_, _, ⟨d, rfl⟩, rfl, rfl⟩, rfl⟩, rfl⟩, rfl⟩
  exact ⟨⟨a, b, c, d⟩, ⟨ha, hb, hc⟩, rfl⟩
theorem zn4 : Rd enc Tryz.prog w 53 1 (fun ps => ∃ l : List Ty, zhe l ∧ ps = [tys l]) := zal Tryz.underlying53 (by kernel_rfl) (by decide) zqj
theorem ztk : Rd enc Tryz.prog w 97 1 (fun ps => ∃ l : List Int, (∀ n ∈ l, (Lit.int .i64 n).wf = true) ∧ ps = [ints l]) :=
  zal (f := pi) Tryz.underlying97 (by kernel_rfl) (by decide) XQ
theorem zt0 : Rd enc Tryz.prog w 99 4 (fun ps => ∃ t : TD, ztf t ∧ ps = (ZA t).cells) := by
  refine (Xu Tryz.underlying99 (by kernel_rfl) (yK rfl rdStr (yK rfl XQ (yK rfl XQ (yK rfl ztk WM))))).mono ?_
  rintro _ ⟨_, _, ⟨a, ha, rfl⟩, ⟨_, _, ⟨b, hb, rfl⟩, ⟨_, _, ⟨c, hc, rfl⟩, ⟨_, _, ⟨d, hd, rfl⟩, rfl, rfl⟩, rfl⟩, rfl⟩, rfl⟩
  exact ⟨⟨a, b, c, d⟩, ⟨hb, hc, hd⟩, rfl⟩
theorem zt6 : Rd enc Tryz.prog w 136 7 (fun ps => ∃ t : Fd, ztp t ∧ ps = (ZK t).cells) := by
  refine (Xu Tryz.underlying136 (by kernel_rfl) (yK rfl rdStr (yK rfl XQ (yK rfl zqj (yK rfl rdBool WM))))).mono ?_
  rintro _ ⟨_, _, ⟨a, ha, rfl⟩, ⟨_, _, ⟨b, hb, rfl⟩, ⟨_, _, ⟨c, hc, rfl⟩, ⟨_, _, ⟨d, rfl⟩, rfl, rfl⟩, rfl⟩, rfl⟩, rfl⟩
  exact ⟨⟨a, b, c, d⟩, ⟨hb, hc⟩, rfl⟩
theorem ztH : Rd enc Tryz.prog w 73 6 (fun ps => ∃ t : Ins, zqi t ∧ ps = (ZP t).cells) := by
  refine (Xu Tryz.underlying73 (by kernel_rfl) (yK rfl XQ (yK rfl zst (yK rfl zqj WM)))).mono ?_
  rintro _ ⟨_, _, ⟨a, ha, rfl⟩, ⟨_, _, ⟨b, hb, rfl⟩, ⟨_, _, ⟨c, hc, rfl⟩, rfl, rfl⟩, rfl⟩, rfl⟩
  exact ⟨⟨a, b, c⟩, ⟨ha, hb, hc⟩, rfl⟩
theorem zt5 : Rd enc Tryz.prog w 144 10 (fun ps => ∃ t : Cl, zty t ∧ ps = (ZB t).cells) := by
  refine (Xu Tryz.underlying144 (by kernel_rfl) (yK rfl XQ (yK rfl XQ (yK rfl XQ (yK rfl XQ (yK rfl XQ (yK rfl XQ (yK rfl zqj WM)))))))).mono ?_
  rintro _ ⟨_, _, ⟨a, ha, rfl⟩, ⟨_, _, ⟨b, hb, rfl⟩, ⟨_, _, ⟨c, hc, rfl⟩, ⟨_, _, ⟨d, hd, rfl⟩, ⟨_, _, ⟨e, he, rfl⟩, ⟨_, _, ⟨f, hf, rfl⟩, ⟨_, _, ⟨t, ht, rfl⟩, rfl, rfl⟩, rfl⟩, rfl⟩, rfl⟩, rfl⟩, rfl⟩, rfl⟩
  exact ⟨⟨a, b, c, d, e, f, t⟩, ⟨ha, hb, hc, hd, he, hf, ht⟩, rfl⟩
theorem zth : Rd enc Tryz.prog w 67 1 (fun ps => ∃ l : List Ins, (∀ x ∈ l, zqi x) ∧ ps = [.slc 6 (l.map ZP) false]) := zal Tryz.underlying67 (by kernel_rfl) (by decide) ztH
theorem ztV : Rd enc Tryz.prog w 68 1 (fun ps => ∃ l : List Cl, (∀ x ∈ l, zty x) ∧ ps = [.slc 10 (l.map ZB) false]) := zal Tryz.underlying68 (by kernel_rfl) (by decide) zt5
theorem zt1 : Rd enc Tryz.prog w 70 12 (fun ps => ∃ t : Me, zs4 t ∧ ps = (yL t).cells) := by
  refine (Xu Tryz.underlying70 (by kernel_rfl) (yK rfl rdStr (yK rfl XQ (yK rfl XQ (yK rfl zn4 (yK rfl zqj (yK rfl zn4 (yK rfl XQ (yK rfl zth (yK rfl ztV WM)))))))))).mono ?_
  rintro _ ⟨_, _, ⟨a, ha, rfl⟩, ⟨_, _, ⟨b, hb, rfl⟩, ⟨_, _, ⟨c, hc, rfl⟩, ⟨_, _, ⟨d, hd, rfl⟩, ⟨_, _, ⟨e, he, rfl⟩, ⟨_, _, ⟨f, hf, rfl⟩, ⟨_, _, ⟨t, ht, rfl⟩, ⟨_, _, ⟨x, hx, rfl⟩, ⟨_, _, ⟨y, hy, rfl⟩, rfl, rfl⟩, rfl⟩, rfl⟩, rfl⟩, rfl⟩, rfl⟩, rfl⟩, rfl⟩, rfl⟩
  exact ⟨⟨a, b, c, d, e, f, t, x, y⟩, ⟨hb, hc, hd, he, hf, ht, hx, hy⟩, rfl⟩
theorem ztI : Rd enc Tryz.prog w 46 1 (fun ps => ∃ l : List TD, (∀ x ∈ l, ztf x) ∧ ps = [.slc 4 (l.map ZA) false]) := zal Tryz.underlying46 (by kernel_rfl) (by decide) zt0
theorem ztO : Rd enc Tryz.prog w 47 1 (fun ps => ∃ l : List Fd, (∀ x ∈ l, ztp x) ∧ ps = [.slc 7 (l.map ZK) false]) := zal Tryz.underlying47 (by kernel_rfl) (by decide) zt6
theorem ztP : Rd enc Tryz.prog w 48 1 (fun ps => ∃ l : List Me, (∀ x ∈ l, zs4 x) ∧ ps = [.slc 12 (l.map yL) false]) := zal Tryz.underlying48 (by kernel_rfl) (by decide) zt1
theorem zq7 : Rd enc Tryz.prog w 50 4 (fun ps => ∃ t : Img, zft t ∧ ps = (zH t).cells) := by
  refine (Xu Tryz.underlying50 (by kernel_rfl) (yK rfl ztI (yK rfl ztO (yK rfl ztP (yK rfl XQ WM))))).mono ?_
  rintro _ ⟨_, _, ⟨a, ha, rfl⟩, ⟨_, _, ⟨b, hb, rfl⟩, ⟨_, _, ⟨c, hc, rfl⟩, ⟨_, _, ⟨d, hd, rfl⟩, rfl, rfl⟩, rfl⟩, rfl⟩, rfl⟩
  exact ⟨⟨a, b, c, d⟩, ⟨ha, hb, hc, hd⟩, rfl⟩
end
theorem own : ownKnob Tryz.prog.godebug = none := by kernel_rfl
theorem laidOut : laidOutB Tryz.prog = true := by kernel_rfl
def zrd (n : Int) : Prop := (Lit.int .i64 n).wf = true
theorem zsZ {H : Type} {enc : TypeId × Value → H} {w : World} : Rd enc Tryz.prog w 3 1 (fun ps => ∃ n, zrd n ∧ ps = [.base (.int .i64 n)]) := XQ
theorem zfd {g : Img} (h : zft g) : ∀ m ∈ g.methods, ∀ x ∈ m.code, zeA x := fun m hm x hx => by
  have := ((h.2.2.1 m hm).2.2.2.2.2.2.1 x hx).2.1
  simp [Lit.wf, IntKind.has, IntKind.min, IntKind.max, IntKind.bits, IntKind.signed] at this
  exact ⟨by omega, by omega⟩
def zhv (p : Int × Int) : PV := .agg [pi p.1, pi p.2]
def zbr (p : Int × Int) : Prop := zrd p.1 ∧ zrd p.2
def zio (l : List Ty × List Ty) : PV := .agg [tys l.1, tys l.2]
def zkf (l : List Ty × List Ty) : Prop := zhe l.1 ∧ zhe l.2
section
variable {P : Program} {H : Type} {enc : TypeId × Value → H} {w : World}
theorem zpv {t e : TypeId} {sz : Nat} {X : List PV → Prop} (ht : P.underlying t = some (.array 2 e)) (hc : P.cellsOf t = 2 * sz) (he : Rd enc P w e sz X) : Rd enc P w t (2 * sz) (zsB [X, X]) := by
  refine ⟨hc, fun fuel cs x hx => ?_⟩
  obtain ⟨xs, m, _, _, hl, hxs, hall⟩ := DataW.trod_array ht hx
  obtain ⟨hes, hel⟩ := he
  rw [hc] at hl
  rw [hes] at hall
  have one : ∀ i, i < 2 → ∃ pvs, X pvs ∧ PRels (KW w) w pvs ((cs.drop (i * sz)).take sz) ∧ (∀ v ∈ (cs.drop (i * sz)).take sz, v.oneCell' = true) := by
    intro i hi
    have h1 := (hall i hi).trans (List.getElem?_eq_getElem (by omega))
    obtain ⟨pvs, h2, h3, _, h5⟩ := hel _ _ _ h1
    exact ⟨pvs, h2, h3, h5⟩
  obtain ⟨a, a1, a2, a3⟩ := one 0 (by omega)
  obtain ⟨b, b1, b2, b3⟩ := one 1 (by omega)
  have hcs : cs = (cs.drop (0 * sz)).take sz ++ (cs.drop (1 * sz)).take sz := by
    have e2 : cs.drop sz = (cs.drop sz).take sz := by rw [List.take_of_length_le]; simp; omega
    simp only [Nat.zero_mul, List.drop_zero, Nat.one_mul]
    rw [← e2]; exact (List.take_append_drop sz cs).symm
  refine ⟨a ++ b, ⟨a, b, a1, ⟨b, [], b1, rfl, by simp⟩, rfl⟩, ?_, hl, ?_⟩
  · rw [hcs]; exact a2.append b2
  · rw [hcs]
    intro v hv
    simp only [List.mem_append] at hv
    rcases hv with hv | hv
    · exact a3 v hv
    · exact b3 v hv
end
section
variable {H : Type} {enc : TypeId × Value → H} {w : World}
theorem zjk : Rd enc Tryz.prog w 52 2 (fun ps => ∃ p : Int × Int, zbr p ∧ ps = (zhv p).cells) := by
  refine (Xu Tryz.underlying52 (by kernel_rfl) (yK rfl zsZ (yK rfl zsZ WM))).mono ?_
  rintro _ ⟨_, _, ⟨a, ha, rfl⟩, ⟨_, _, ⟨b, hb, rfl⟩, rfl, rfl⟩, rfl⟩
  exact ⟨(a, b), ⟨ha, hb⟩, rfl⟩
theorem zsY : Rd enc Tryz.prog w 54 2 (fun ps => ∃ l : List Ty × List Ty, zkf l ∧ ps = (zio l).cells) := by
  refine (zpv Tryz.underlying54 (by kernel_rfl) zn4).mono ?_
  rintro _ ⟨_, _, ⟨a, ha, rfl⟩, ⟨_, _, ⟨b, hb, rfl⟩, rfl, rfl⟩, rfl⟩
  exact ⟨(a, b), ⟨ha, hb⟩, by simp [zio, PV.cells]⟩
end
end Go.Cg
namespace Go.Cg
open Go
theorem zeF {P:Program} {f:FuncId} {fn:Func} {s:ChangeSpec} {c:OpenClaim}
  (a1:laidOutB P=true) (a2:mapsRowed P=true) (a3:P.stopsHeard=true) (a4:P.mayEnter=true) (a5:P.liftsFinal=c.lifted) (a6:P.make=some c.make)
  (b1:P.inPlace f=c.inPlace) (b2:P.unfollowed f=c.unfollowed) (b3:P.recurses f=c.recurses) (b4:P.varsNamed f=c.named)
  (rest:(c.wf (OpenSpec.ofChange s)&&fn.params.all (P.readableRec ·)&&namedTie P c.named s.vars &&
   (c.stops==[])&&(P.stops==[])&&(c.knobs==[])&&(P.stopKnobs==[]) &&
   (c.maps==(fn.params.toList++s.plain.varTypes P).any (P.mapsRec ·))&&(c.ifaces==(fn.params.toList++s.plain.varTypes P).any (P.ifacesRec ·))&&(c.mapsOut==P.mapsAmong fn.resultTypes.toList) &&
   (c.loops==(fn.params.toList++s.plain.varTypes P).any (P.loopsFrom ·))&&(c.wideKeys==(fn.params.toList++s.plain.varTypes P++fn.resultTypes.toList).any (P.wideKeysFrom ·)) &&
   s.vars.all (P.varReadable ·)&&fn.resultTypes.all (fun t=>P.readableRec t&&decide (t < P.types.size))&&(c.ifacesOut==fn.resultTypes.toList.any (P.ifacesRec ·))&&(c.loopsOut==fn.resultTypes.toList.any (P.loopsFrom ·))&&(c.plainKeys==P.plainKeys)&&c.shortTexts.isNone&&(c.kinds==(if c.domain.isEmpty then [] else fn.params.toList.map fun t=>match P.underlying t with|some (.int k)=>some k|_=>none))&&(c.pinned==c.pinnedBy) &&
   (c.veiled==(fn.params.toList++s.plain.varTypes P++fn.resultTypes.toList).any (P.veiledRec ·))&&c.veiledFits P fn.params.toList (fn.params.toList++s.plain.varTypes P++fn.resultTypes.toList))=true):joinedFacts P f fn s c=true:=by
 unfold joinedFacts
 rw [a1,a2,a3,a4,a5,a6,b1,b2,b3,b4]
 simp only [Bool.and_eq_true,beq_self_eq_true,and_true,true_and] at rest ⊢
 exact rest
end Go.Cg
namespace Go.Cg
open Go Go.Proofs
theorem zjD:laidOutB Tryz.checked.prog=true:=by kernel_rfl
theorem zj8:mapsRowed Tryz.checked.prog=true:=by kernel_rfl
theorem zhP:Tryz.checked.prog.stopsHeard=true:=by kernel_rfl
theorem zhE:Tryz.checked.prog.mayEnter=true:=by kernel_rfl
theorem zhC:Tryz.checked.prog.liftsFinal=false:=by kernel_rfl
theorem zjC:Tryz.checked.prog.make=some .cut:=by kernel_rfl
end Go.Cg
