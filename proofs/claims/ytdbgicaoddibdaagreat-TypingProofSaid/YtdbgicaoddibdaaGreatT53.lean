/- A part of the walks by abstract values: no statement of its own. -/
import Derived.Test.YtdbgicaoddibdaaGreatT28
import Derived.Test.YtdbgicaoddibdaaGreatT26
import Derived.Test.YtdbgicaoddibdaaGreatT51
import Derived.Test.YtdbgicaoddibdaaGreatT48
import Derived.Test.YtdbgicaoddibdaaGreatT50
import Derived.Test.YtdbgicaoddibdaaGreatT41
import Derived.Test.YtdbgicaoddibdaaGreatT25
import Derived.Test.YtdbgicaoddibdaaGreatT20
import Derived.Test.YtdbgicaoddibdaaGreatT15
import Derived.Test.YtdbgicaoddibdaaGreatT9
import Derived.Test.YtdbgicaoddibdaaGreatT22
set_option linter.unusedVariables false
set_option linter.unusedSimpArgs false

namespace Go.Cg
set_option linter.unusedSectionVars false
open Go.Proofs
theorem zkm {g:Img} {a b:List Ty}:Zl g a b=true↔a.length=b.length∧∀ i (h:i < a.length) (h2:i < b.length),ZO g a[i] b[i]=true:=zlN
theorem zaV {g:Img} (hW:Wl g) {a b c:List Ty} (h:Zl g a b=true) (h':Zl g b c=true):Zl g a c=true:=by
 rw [zkm] at h h' ⊢;exact ⟨by omega,fun i h1 h2=>zpb hW (h.2 i h1 zwy62) (h'.2 i zwy62 h2)⟩
section
variable {α β γ δ:Type} {g:Img}
end
section
variable {g:Img}
variable (hW:Wl g)
include hW
end
end Go.Cg
namespace Go.Cg
open Go.Proofs
structure RightV (g:Img) (k:Int) (s:VS):Prop where
 given:∀ i:Nat,i < (mAt g k).code.length→∀ a,zkG (zaq (mAt g k)) i=some a→Zl g a (YM s i)=true
 steps:∀ i:Nat,i < (mAt g k).code.length→∃ b,stepS g k i (YM s i)=.ok ((),b) ∧
  ∀ t∈Vr (mAt g k) i,(b=[]∨XA (mAt g k) i t=false)∧Zl g b (YM s t)=true
theorem QO (g:Img) (a:List Ty):Zl g a a=true:=zkm.2 ⟨rfl,fun i h _=>zdg g a[i]⟩
structure Grow (g:Img) (i:Int) (s s':VS):Prop where
 same:∀ j:Int,0≤j→j≤i→YM s' j=YM s j
 kn:∀ j:Nat,s.kn.getD j false=true→s'.kn.getD j false=true
 fit:∀ j:Nat,s.kn.getD j false=true→Zl g (s.st.getD j []) (s'.st.getD j [])=true
theorem Grow.trans {g:Img} (hW:Wl g) {i:Int} {a b c:VS} (h:Grow g i a b) (h':Grow g i b c):Grow g i a c :=
 ⟨fun j h0 h1=>(h'.same j h0 h1).trans (h.same j h0 h1),fun j hj=>h'.kn j (h.kn j hj),fun j hj=>zaV hW (h.fit j hj) (h'.fit j (h.kn j hj))⟩
theorem Grow.refl (g:Img) (i:Int) (s:VS):Grow g i s s:=⟨fun _ _ _=>rfl,fun _ h=>h,fun _ _=>QO g _⟩
theorem Vh {α:Type} {l:List α} {i j:Nat} {a d:α} (h:i≠j):(l.set i a).getD j d=l.getD j d:=by
 rw [List.getD_eq_getElem?_getD,List.getElem?_set_ne h,←List.getD_eq_getElem?_getD]
theorem YW {α:Type} {l:List α} {i:Nat} {a d:α} (h:i < l.length):(l.set i a).getD i d=a:=by
 rw [List.getD_eq_getElem?_getD,List.getElem?_set_self h];rfl
theorem zk3 {g:Img} {m:Me} {i t:Int} {l:List Ty} {n:Nat} {s s':VS} (hs:LenV n s) (h0:0≤t) (h1:t.toNat < n) (hkt:t≤i→s.kn.getD t.toNat false=true) (h:toV g m i t l s=.ok s') :
  Grow g i s s'∧(l=[]∨XA m i t=false)∧Zl g l (YM s' t)=true∧s'.kn.getD t.toNat false=true:=by
 have e1:=hs.st;have e2:=hs.kn;unfold toV at h;split at h
 ·cases h
 rename_i hen;have hen2:l=[]∨XA m i t=false:=by
  simp only [Bool.not_eq_true',Bool.not_eq_false,Bool.or_eq_true,List.isEmpty_iff] at hen;simpa using hen
 split at h
 ·rename_i hti;have hti:t≤i:=by simpa using hti
  split at h
  ·rename_i hf;cases h;exact ⟨⟨fun _ _ _=>rfl,fun _ h=>h,fun _ _=>QO g _⟩,hen2,hf,hkt hti⟩
  ·cases h
 ·rename_i hti;have hti:¬ t≤i:=by simpa using hti
  split at h
  ·rename_i hk;have hk:s.kn.getD t.toNat false=false:=by simpa using hk
   cases h;refine ⟨⟨fun j j0 j1=>Vh zwy62,fun j hj=>?_,fun j hj=>?_⟩,hen2,?_,by show (s.kn.set t.toNat true).getD t.toNat false=true;exact YW zwy62⟩
   ·have hne:t.toNat≠j:=fun e=>by rw [←e,hk] at hj;cases hj
    show (s.kn.set t.toNat true).getD j false=true
    rw [Vh hne];exact hj
   ·have hne:t.toNat≠j:=fun e=>by rw [←e,hk] at hj;cases hj
    show Zl g _ ((s.st.set t.toNat l).getD j [])=true
    rw [Vh hne];exact QO g _
   ·show Zl g l ((s.st.set t.toNat l).getD t.toNat [])=true
    rw [YW zwy62];exact QO g _
  ·rename_i hk;have hk:s.kn.getD t.toNat false=true:=by simpa using hk
   split at h
   ·rename_i hm;have hm:=zrt (by simpa using hm);cases h;refine ⟨⟨fun j j0 j1=>Vh zwy62,fun j hj=>hj,fun j hj=>?_⟩,hen2,?_,hk⟩
    ·by_cases hne:t.toNat=j
     ·subst hne;show Zl g _ ((s.st.set t.toNat _).getD t.toNat [])=true
      rw [YW zwy62];exact hm.1
     ·show Zl g _ ((s.st.set t.toNat _).getD j [])=true
      rw [Vh hne];exact QO g _
    ·show Zl g l ((s.st.set t.toNat _).getD t.toNat [])=true
     rw [YW zwy62];exact hm.2
   ·cases h
structure MidT (g:Img) (k:Int) (n i:Nat) (s:VS):Prop where
 len:LenV n s
 kn:∀ j,j < i→s.kn.getD j false=true
 given:∀ j:Nat,j < n→∀ a,zkG (zaq (mAt g k)) j=some a→s.kn.getD j false=true∧Zl g a (YM s j)=true
 steps:∀ j:Nat,j < i→∃ b,stepS g k j (YM s j)=.ok ((),b) ∧
  ∀ t∈Vr (mAt g k) j,(b=[]∨XA (mAt g k) j t=false)∧Zl g b (YM s t)=true∧s.kn.getD t.toNat false=true
theorem ziQ (s:VS) (j:Nat):YM s (j:Int)=s.st.getD j []:=rfl
theorem zvk {g:Img} (hW:Wl g) {k:Int} {n i:Nat} {s s':VS} (hi:i < n) (hm:MidT g k n i s) (hr:∀ t∈Vr (mAt g k) i,0≤t∧t.toNat < n) (h:zeU g k i s=.ok s'):MidT g k n (i + 1) s':=by
 have hl:=hm.len;have e2:=hl.kn;unfold zeU at h;split at h
 ·cases h
 rename_i p hp;obtain ⟨⟨⟩,b⟩:=p;dsimp only at h;obtain ⟨s1,hs1⟩:∃ s1:VS,s1={ s with kn:=s.kn.set (i:Int).toNat true,wk:=s.wk + 1 }:=⟨_,rfl⟩
 rw [←hs1] at h;have l1:LenV n s1:=by rw [hs1];exact ⟨hl.st,by simp [hl.kn]⟩
 have ki:s1.kn.getD i false=true:=by rw [hs1];exact YW (l:=s.kn) (by show (i:Int).toNat < _;omega)
 have g1:Grow g i s s1:=by
  rw [hs1];refine ⟨fun _ _ _=>rfl,fun j hj=>?_,fun _ _=>QO g _⟩;show (s.kn.set i true).getD j false=true
  by_cases hne:i=j
  ·subst hne;exact YW zwy62
  ·rw [Vh hne];exact hj
 have kl:∀ t:Int,0≤t→t≤i→s1.kn.getD t.toNat false=true:=fun t h0 h1=>by
  by_cases e:t.toNat=i
  ·rw [e];exact ki
  ·exact g1.kn _ (hm.kn _ zwy62)
 have fin:∀ s2:VS,LenV n s2→Grow g i s1 s2→(∀ t∈Vr (mAt g k) i,(b=[]∨XA (mAt g k) i t=false)∧Zl g b (YM s2 t)=true∧s2.kn.getD t.toNat false=true)→MidT g k n (i + 1) s2:=by
  intro s2 l2 g2 hw;have gg:=g1.trans hW g2;refine ⟨l2,fun j hj=>?_,fun j hj a ha=>?_,fun j hj=>?_⟩
  ·by_cases e:j=i
   ·subst e;exact g2.kn _ ki
   ·exact gg.kn _ (hm.kn j zwy62)
  ·obtain ⟨a1,a2⟩:=hm.given j hj a ha;exact ⟨gg.kn _ a1,zaV hW a2 (gg.fit j a1)⟩
  ·by_cases e:j=i
   ·subst e;refine ⟨b,by rw [gg.same _ zwy62 zwy62];exact hp,hw⟩
   ·obtain ⟨c,c1,c2⟩:=hm.steps j zwy62;refine ⟨c,by rw [gg.same _ zwy62 zwy62];exact c1,fun t ht=>?_⟩;obtain ⟨d1,d2,d3⟩:=c2 t ht;exact ⟨d1,zaV hW d2 (gg.fit _ d3),gg.kn _ d3⟩
 unfold zgU at h;split at h
 ·cases h
 rename_i s2 h2;unfold Vr at hr fin;cases hn:Qr (YN (mAt g k) i)
 ·rw [hn] at h2 hr fin;simp only [Bool.false_eq_true,if_false,List.nil_append] at h2 hr fin;cases h2;cases hpl:ZU (YN (mAt g k) i)
  ·rw [hpl] at h fin;simp only [Bool.false_eq_true,if_false] at h fin;cases h;exact fin _ l1 (Grow.refl g i _) (fun t ht=>by cases ht)
  ·rw [hpl] at h hr fin;simp only [if_true] at h hr fin;obtain ⟨t0,t1⟩:=hr _ (List.mem_singleton.2 rfl);obtain ⟨a1,a2,a3,a4⟩:=zk3 l1 t0 t1 (kl _ t0) h;exact fin _ (zdv l1 h) a1 (fun t ht=>by obtain rfl:=List.mem_singleton.1 ht;exact ⟨a2,a3,a4⟩)
 ·rw [hn] at h2 hr fin;simp only [if_true] at h2 hr fin;obtain ⟨n0,n1⟩:=hr ((i:Int) + 1) (List.mem_append_left _ (List.mem_singleton.2 rfl));obtain ⟨a1,a2,a3,a4⟩:=zk3 l1 n0 n1 (kl _ n0) h2;have l2:=zdv l1 h2;cases hpl:ZU (YN (mAt g k) i)
  ·rw [hpl] at h fin;simp only [Bool.false_eq_true,if_false,List.append_nil] at h fin;cases h;exact fin _ l2 a1 (fun t ht=>by obtain rfl:=List.mem_singleton.1 ht;exact ⟨a2,a3,a4⟩)
  ·rw [hpl] at h hr fin;simp only [if_true] at h hr fin;obtain ⟨t0,t1⟩:=hr _ (List.mem_append_right _ (List.mem_singleton.2 rfl));obtain ⟨b1,b2,b3,b4⟩:=zk3 l2 t0 t1 (fun hti=>a1.kn _ (kl _ t0 hti)) h;refine fin _ (zdv l2 h) (a1.trans hW b1) (fun t ht=>?_);rcases List.mem_append.1 ht with ht|ht
   ·obtain rfl:=List.mem_singleton.1 ht;exact ⟨a2,zaV hW a3 (b1.fit _ a4),b1.kn _ a4⟩
   ·obtain rfl:=List.mem_singleton.1 ht;exact ⟨b2,b3,b4⟩
theorem zuH {g:Img} (hW:Wl g) {k:Int} {n:Nat} (hr:∀ i:Nat,i < n→onV (mAt g k) i=0→∀ t∈Vr (mAt g k) i,0≤t∧t.toNat < n) (hon:∀ i:Nat,i < n→onV (mAt g k) i=0):∀ (f i:Nat) (s s':VS),i + f=n→MidT g k n i s→goV g k f i s=.ok s'→MidT g k n n s'
 | 0,i,s,s',hif,hm,h=>by cases h;rw [←show i=n by omega];rw [show i=n by omega] at hm ⊢;exact hm
 | f + 1,i,s,s',hif,hm,h=>by
  rw [goV] at h;split at h
  ·cases h
  ·rename_i s1 h1;exact zuH hW hr hon f (i + 1) s1 s' zwy62 (zvk hW zwy62 hm (hr i zwy62 (hon i zwy62)) h1) h
theorem zjq {n:Nat} (t:Nat) (ht:t < n):∀ (l:List (Int × List Ty)) (s:VS) (r:Option (List Ty)),LenV n s→s.kn.getD t false=r.isSome→s.st.getD t []=r.getD []→(∀ e∈l,0≤e.1) →
  (l.foldl (fun s e=>qo e.1 e.2 s) s).kn.getD t false=(l.foldl (fun r e=>if e.1==(t:Int) then some e.2 else r) r).isSome ∧
  (l.foldl (fun s e=>qo e.1 e.2 s) s).st.getD t []=(l.foldl (fun r e=>if e.1==(t:Int) then some e.2 else r) r).getD []
 | [],_,_,_,h1,h2,_=>⟨h1,h2⟩
 | e::l,s,r,hs,h1,h2,hp=>by
  have e1:=hs.st;have e2:=hs.kn;have hp0:=hp e (List.mem_cons_self ..);rw [List.foldl_cons,List.foldl_cons];refine zjq t ht l _ _ ⟨by simp [qo,e1],by simp [qo,e2]⟩ ?_ ?_ (fun x hx=>hp x (List.mem_cons_of_mem _ hx))
  ·show (s.kn.set e.1.toNat true).getD t false=_
   by_cases he:e.1=(t:Int)
   ·rw [if_pos zwy116,show e.1.toNat=t by omega,YW zwy62];rfl
   ·rw [if_neg zwy116,Vh zwy62];exact h1
  ·show (s.st.set e.1.toNat e.2).getD t []=_
   by_cases he:e.1=(t:Int)
   ·rw [if_pos zwy116,show e.1.toNat=t by omega,YW zwy62];rfl
   ·rw [if_neg zwy116,Vh zwy62];exact h2
theorem zpu (s:VS) (c:Cl):YK s c=(QX c).foldl (fun s e=>qo e.1 e.2 s) s:=by
 unfold YK QX;split
 ·rfl
 ·split <;> rfl
theorem zgQ:∀ (l:List Cl) (s:VS),l.foldl YK s=(l.flatMap QX).foldl (fun s e=>qo e.1 e.2 s) s
 | [],_=>rfl
 | c::l,s=>by rw [List.foldl_cons,List.flatMap_cons,List.foldl_append,zgQ l,zpu]
theorem znb {n:Nat}:∀ (l:List (Int × List Ty)) (s:VS),LenV n s→LenV n (l.foldl (fun s e=>qo e.1 e.2 s) s)
 | [],_,h=>h
 | e::l,s,h=>znb l _ ⟨by simp [qo,h.st],by simp [qo,h.kn]⟩
theorem zq0 {g:Img} {k:Int} (hp:∀ e∈zaq (mAt g k),0≤e.1):MidT g k (mAt g k).code.length 0 (WA (mAt g k)):=by
 obtain ⟨n,hn⟩:∃ n,n=(mAt g k).code.length:=⟨_,rfl⟩
 have hs0:LenV n ⟨List.replicate n [],List.replicate n false,0⟩:=⟨by simp,by simp⟩
 have hst:WA (mAt g k)=(zaq (mAt g k)).foldl (fun s e=>qo e.1 e.2 s) ⟨List.replicate n [],List.replicate n false,0⟩:=by
  rw [WA,zgQ,zaq,List.foldl_cons,hn]
 rw [←hn,hst];refine ⟨znb _ _ hs0,fun j hj=>absurd hj (Nat.not_lt_zero j),fun j hj a ha=>?_,fun j hj=>absurd hj (Nat.not_lt_zero j)⟩;have hb:=zjq j hj (zaq (mAt g k)) _ none hs0 (by show (List.replicate n false).getD j false=_;rw [List.getD_eq_getElem?_getD,List.getElem?_replicate];split <;> rfl) (by show (List.replicate n ([]:List Ty)).getD j []=_;rw [List.getD_eq_getElem?_getD,List.getElem?_replicate];split <;> rfl) hp;rw [zkG] at ha;rw [ha] at hb;exact ⟨hb.1,by rw [ziQ,hb.2];exact QO g _⟩
theorem zhv {g:Img} (hW:Wl g) {k:Int} {s:VS} (hp:∀ e∈zaq (mAt g k),0≤e.1)
  (hr:∀ i:Nat,i < (mAt g k).code.length→onV (mAt g k) i=0→∀ t∈Vr (mAt g k) i,0≤t∧t.toNat < (mAt g k).code.length)
  (hon:∀ i:Nat,i < (mAt g k).code.length→onV (mAt g k) i=0) (h:goV g k (mAt g k).code.length 0 (WA (mAt g k))=.ok s):RightV g k s:=by
 have hm:=zuH hW hr hon _ 0 _ _ zwy62 (zq0 hp) h;refine ⟨fun i hi a ha=>(hm.given i hi a ha).2,fun i hi=>?_⟩;obtain ⟨b,b1,b2⟩:=hm.steps i hi;exact ⟨b,b1,fun t ht=>⟨(b2 t ht).1,(b2 t ht).2.1⟩⟩
set_option maxHeartbeats 20000000
theorem zwk77 {G:Prop} (h:G:=by repeat' (first|(refine shC ?_;first|(have:=b0;refine qC c1 ?_))|refine sA ?_|refine sC (fun _=>?_) (fun _=>?_)|exact retq rfl rfl|fail)):G:=h
theorem zk5 (f:Bool):ACall Tryz.prog 23 [.ptr (.slc 3 [] f) 0] (.tup [pi 0,pi 0]):=by
 have c1:ACall Tryz.prog 19 [.slc 3 [] f] (pi 0):=by
  refine zi zf Tryz.func19 rfl zws Tryz.ntmps19 zwy63 _ rfl (fun hw gB hgB=>?_);exact zwk77
 refine zi zf Tryz.func23 rfl zws Tryz.ntmps23 zwy63 _ rfl (fun hw gB hgB=>?_);have b0:=();exact zwk77
section
variable {P:Program} {tb:Tab} {g:Base} {H:HEnv} {env:Env} {o:Oper} {K:KK} {w:World}
theorem zjC {t kt et:Nat} {m x:Operand} {i:Nat} {ks:List (Int × Value)} {k:Int} {z:Value} {j:Nat} {u:Value} (hix:Zk k ks 0=some (j,u)) (hu:Zm u=true) (htb:yR P tb) (hop:o.op=.lookup t m x true) (hk:tb.k t=.map kt et) (hkt:tb.k kt=.int .i64) (hz:tb.zero et=some z) (hzb:Zm z=true)
  (hm:env.val m=some (.own i)) (hi:H.get i=some (.obj (zdH ks))) (hx:env.pv H x=some (.base (.int .i64 k))):QStep P g H o env (.pv (.tup [.base u,.base (.bool true)])):=by
 have:=zkA (g:=g) htb hop hk hkt hz hzb hm hi hx (fun j' u' h=>by rw [hix] at h;cases h;exact hu);rw [hix] at this;exact this
theorem zlW {t kt et:Nat} {m x:Operand} {i:Nat} {ks:List (Int × Value)} {k:Int} {z:Value} (hix:Zk k ks 0=none) (htb:yR P tb) (hop:o.op=.lookup t m x true) (hk:tb.k t=.map kt et) (hkt:tb.k kt=.int .i64) (hz:tb.zero et=some z) (hzb:Zm z=true)
  (hm:env.val m=some (.own i)) (hi:H.get i=some (.obj (zdH ks))) (hx:env.pv H x=some (.base (.int .i64 k))):QStep P g H o env (.pv (.tup [.base z,.base (.bool false)])):=by
 have:=zkA (g:=g) htb hop hk hkt hz hzb hm hi hx (fun j' u' h=>by rw [hix] at h;cases h);rw [hix] at this;exact this
end
theorem zuP {m:Me} {us:List Value} (hus:us.length=(gvE m.clauses).length) (i:Int) :
  (zkG (zaq m) i=none∧Zk i (((gvE m.clauses).map Prod.fst).zip us) 0=none) ∨
  ∃ a j u,zkG (zaq m) i=some a∧Zk i (((gvE m.clauses).map Prod.fst).zip us) 0=some (j,u)∧us[j]?=some u∧((gvE m.clauses).map fun e=>tys e.2)[j]?=some (tys a):=by
 obtain ⟨h1,h2⟩:=zl5 (k:=i) (gvE m.clauses) us 0 hus;rw [←ztW];cases hx:Zk i (gvE m.clauses) 0 with
 | none=>exact .inl ⟨rfl,h1 hx⟩
 | some p =>
  obtain ⟨j,a⟩:=p;obtain ⟨u,a1,a2⟩:=h2 j a hx;obtain ⟨_,a4⟩:=zct _ _ hx;refine .inr ⟨a,j,u,rfl,a2,by simpa using a1,?_⟩;rw [Nat.sub_zero] at a4;rw [List.getElem?_map,a4];rfl
abbrev zcc:PV:=.base (.slice none 0 0)
def bhR (n:Nat) (b:Nat→List Ty) (i:Nat):List PV:=(List.range n).map fun j=>if j < i then tys (b j) else zcc
def dnR (n i:Nat):List PV:=(List.range n).map fun j=>pb (decide (j < i))
theorem zs6 (n:Nat) (b:Nat→List Ty):List.replicate n zcc=bhR n b 0:=by
 apply List.ext_getElem <;> simp [bhR]
theorem zsZ (n:Nat):List.replicate n (PV.base (.bool false))=dnR n 0:=by
 apply List.ext_getElem <;> simp [dnR]
theorem zsR (n:Nat) (b:Nat→List Ty) (i:Nat):(bhR n b i).set i (tys (b i))=bhR n b (i + 1) :=
 zqT fun p _=>by
  by_cases h:p=i
  ·subst h;simp
  ·simp only [h,if_false];by_cases h2:p < i
   ·rw [if_pos h2,if_pos zwy62]
   ·rw [if_neg h2,if_neg zwy62]
theorem zuq (n i:Nat):(dnR n i).set i (pb true)=dnR n (i + 1) :=
 zqT fun p _=>by
  by_cases h:p=i
  ·subst h;simp
  ·simp only [h,if_false];rw [show decide (p < i)=decide (p < i + 1) from by by_cases h2:p < i <;> simp <;> omega]
abbrev rtO (m:Me):HEnv:=[(0,.cell (.pv (yh m))),(1,.cell (.agg [.own 70])),(2,.cell (.pv (.ptr (.slc 3 [] true) 0))),(4,.cell (.agg [.own 71]))]
abbrev rtB (m:Me) (es ds:List PV):HEnv:=rtO m++[(70,.mrow 47 1 es),(71,.mrow 4 1 ds)]
def rtH (m:Me) (es ds:List PV) (i:Nat) (b:PV) (d:PV):Nat→HEnv
 | 0=>rtB m es ds
 | 1=>(70,.mrow 47 1 (es.set i b))::rtB m es ds
 | _=>(71,.mrow 4 1 (ds.set i d))::(70,.mrow 47 1 (es.set i b))::rtB m es ds
abbrev rtT (m:Me):HEnv:=rtO m++[(70,.dead),(71,.dead)]
theorem zs5 (m:Me) (es ds:List PV) (i:Nat) (b d:PV):∀ p,p < 3→qg (rtH m es ds i b d p) (rtT m)=true∧qg (rtT m) (rtH m es ds i b d p)=true:=by
 intro p h;have hp:p=0∨p=1∨p=2:=by omega
 rcases hp with rfl|rfl|rfl <;> exact ⟨rfl,rfl⟩
theorem zun (m:Me) (es ds:List PV) (i:Nat) (b d:PV) {gB:Base}:∀ p,p≤2→∀ K ρ w,FS gB K ρ (rtH m es ds i b d p) w→FS gB K ρ (rtT m) w:=by
 intro p h K ρ w hf;have hp:p=0∨p=1∨p=2:=by omega
 rcases hp with rfl|rfl|rfl <;> exact ((hf.kill 70).kill 71).narrow (e:=[]) tH
theorem zp3 {m:Me} {k:Nat} {x:Int × Int} (h:x∈Yr m k):∃ i:Nat,i < k∧x.1=(i:Int)∧x.2∈Vr m i:=by
 obtain ⟨i,hi,h2⟩:=List.mem_flatMap.1 h;obtain ⟨t,ht,rfl⟩:=List.mem_map.1 h2;exact ⟨i,by simpa using hi,rfl,ht⟩
theorem tHZ {P:Prop} (h:P:=by repeat (first|exact zA|refine aB ?_)):P:=h
abbrev sts (l:List (List Ty)):PV:=.slc 1 (l.map tys) false
theorem zp1 (g:Img) (hx:OkA g) (hc:(qG g).2=0) {k:Int} (hm:mOk g k) {at_:Int} (hfl:zbI g k=(at_,0)) (l:List (List Ty)) (hl:l.length=(mAt g k).code.length) (hll:∀ x∈l,x.length≤100) (hR:RightV g k ⟨l,[],0⟩) (hrng:∀ i:Nat,i < (mAt g k).code.length→∀ t∈Vr (mAt g k) i,0≤t∧t.toNat < (mAt g k).code.length) :
  ACall Tryz.prog 7 [zO g,pi k,sts l] (.tup [pi 0,pi 0]):=by
 have hF:=(Xc (Qo hc).1).formed;have hM:=(Xb hF hm).small;have hmk:(g.methods.map yh)[k.toNat]?=some (yh (mAt g k)):=by
  rw [Yy hm.2,mAt,List.getD_eq_getElem?_getD,List.getElem?_eq_getElem hm.2,Option.getD_some]
 have c1:=zfT g hx k;rw [hfl] at c1;have cN:=zbW g hx hc;have hmc:(mAt g k).clauses.length≤100000:=by omega
 have hmi:(((l.map tys).length:Nat):Int)=((l.length:Nat):Int):=by simp
 refine zaa zf Tryz.func7 rfl zws Tryz.ntmps7 zwy63 _ rfl (fun hw gB hgB hbg=>?_);refine yZ ?_
 repeat' (first|refine sK ?_|refine sC (fun _=>?_) (fun _=>?_)|fail)
 refine yZ ?_
 repeat' (first|(refine shC ?_;first|refine qC c1 ?_)|refine sK ?_|refine sC (fun _=>?_) (fun _=>?_)|fail)
 refine yZ ?_
 repeat' (first|(refine shX ?_;first|refine zy rfl (ah hm.1 hmk) rfl rfl ?_|refine zq rfl (ah hm.1 hmk) rfl rfl ?_)|refine sK ?_|refine sC (fun _=>?_) (fun _=>?_)|fail)
 refine yZ ?_;have hle:((((l.map tys).length:Nat):Int) != ((((mAt g k).code.map qx).length:Nat):Int))=false:=by simp [hl]
 repeat' (first|refine Vs rfl hle ?_|refine sK ?_|refine sC (fun _=>?_) (fun _=>?_)|fail)
 refine yZ ?_
 repeat' (first|refine zeD [] (fun us=>gvH (gvE (mAt g k).clauses) us) [(0,.cell (.pv (yh (mAt g k))))] [(1,.pv (pi k)),(3,.pv (.ptr (zO g) 0)),(5,.pv (.ptr (sts l) 0)),(10,.box 0 0)] [] (fun _=>hgB) rfl rfl rfl tHZ tS rfl rfl (fun _=>rfl) (fun _=>zeu _ hmc) (fun us=>?_)|refine sK ?_|refine sC (fun _=>?_) (fun _=>?_)|fail)
 refine yZ ?_;refine zlz (φ:=us.length=(gvE (mAt g k).clauses).length∧∀ u∈us,Zm u=true) (fun K ρ w hf=>?_) (fun hus=>?_)
 ·have hp:=Xz (j:=61) hf rfl;have hlen:=zlV hp;rw [List.length_map] at hlen;refine ⟨hlen,fun u hu=>?_⟩;obtain ⟨j,hj,rfl⟩:=List.getElem_of_mem hu;exact zcB (zgx hp (p:=tys ((gvE (mAt g k).clauses)[j]'zwy62).2) (by rw [List.getElem?_map,List.getElem?_eq_getElem (by omega)];rfl) (List.getElem?_eq_getElem hj))
 obtain ⟨hus,hub⟩:=hus
 repeat' (first|refine sK ?_|refine sC (fun _=>?_) (fun _=>?_)|fail)
 refine zW (fun i:Nat=>[(1,.pv (pi k)),(3,.pv (.ptr (zO g) 0)),(5,.pv (.ptr (sts l) 0)),(10,.box 0 0),(11,.own 60),(49,.pv (pi (l.map tys).length)),(50,.pv (pi i))]) (fun _=>gvH (gvE (mAt g k).clauses) us++[(0,.cell (.pv (yh (mAt g k))))]) (fun i=>i≤l.length) (fun i=>l.length - i) 0 zwy62 tS ⟨tHZ,rfl⟩ ?_
 ·rintro i hi;by_cases hlt:i < l.length
  ·have he:=zY (f:=tys) hlt;have hdk:decide ((i:Int) < (((l.map tys).length:Nat):Int))=true:=decide_eq_true zwy80;have hst:YM ⟨l,[],0⟩ i=l[i]:=by rw [ziQ,List.getD_eq_getElem?_getD,List.getElem?_eq_getElem hlt,Option.getD_some]
   rcases zuP hus i with ⟨h1,h2⟩|⟨a,j,u,h1,h2,h3,h4⟩
   ·repeat' (first|refine Vm rfl hdk ?_|refine zy rfl (zlW h2 zf rfl rfl rfl rfl rfl rfl rfl rfl) rfl rfl ?_|refine sK ?_|refine sC (fun _=>?_) (fun _=>?_)|fail)
    exact ⟨i + 1,hlt,tD,tS,⟨tHZ,rfl⟩⟩
   ·have hfit:=hR.given i zwy62 a h1;rw [hst] at hfit;have cF:=XE g a l[i] (VH hF);rw [hfit] at cF;generalize l[i]=li at he cF;have hu:=hub u (List.mem_of_getElem? h3)
    repeat' (first|refine Vm rfl hdk ?_|refine zpV 13 (u:=u) rfl (fun K ρ w hf=>zgx (Xz (j:=61) hf rfl) h4 h3) ?_|refine zy rfl (zjC h2 hu zf rfl rfl rfl rfl rfl rfl rfl rfl) rfl rfl ?_|(refine shC ?_;first|refine qC cF ?_)|(refine shX ?_;first|refine qX he ?_)|refine sK ?_|refine sC (fun _=>?_) (fun _=>?_)|fail)
    exact ⟨i + 1,hlt,tD,tS,⟨tHZ,rfl⟩⟩
  ·have hdk:decide ((i:Int) < (((l.map tys).length:Nat):Int))=false:=decide_eq_false zwy80
   repeat' (first|refine Vs rfl hdk ?_|refine sK ?_|refine sC (fun _=>?_) (fun _=>?_)|fail)
   refine yZ ?_
   repeat' (first|(refine shC ?_;first|refine qC cN ?_)|refine sK ?_|refine sC (fun _=>?_) (fun _=>?_)|fail)
   refine yZ ?_
   repeat' (first|refine ze8 (m:=l.length) (sz:=1) zf 70 rfl rfl rfl rfl rfl hmi rfl rfl (by show 24 * _≤_;omega) zwy90 rfl rfl rfl ?_|refine sK ?_|refine sC (fun _=>?_) (fun _=>?_)|fail)
   refine yZ ?_
   repeat' (first|refine zy rfl (QH zf rfl rfl rfl rfl rfl) rfl rfl ?_|refine sK ?_|refine sC (fun _=>?_) (fun _=>?_)|fail)
   refine yZ ?_
   repeat' (first|refine sK ?_|refine sC (fun _=>?_) (fun _=>?_)|fail)
   refine yZ ?_
   repeat' (first|refine ze8 (m:=l.length) (sz:=1) zf 71 rfl rfl rfl rfl rfl hmi rfl rfl (by show 1 * _≤_;omega) zwy90 rfl rfl rfl ?_|refine sK ?_|refine sC (fun _=>?_) (fun _=>?_)|fail)
   refine yZ ?_
   repeat' (first|refine zbN 1 70 rfl rfl ?_|refine zbN 4 71 rfl rfl ?_|refine sK ?_|refine sC (fun _=>?_) (fun _=>?_)|fail)
   obtain ⟨b,hb⟩:∃ b:Nat→List Ty,∀ i:Nat,i < (mAt g k).code.length→stepS g k i (YM ⟨l,[],0⟩ i)=.ok ((),b i)∧∀ t∈Vr (mAt g k) i,(b i=[]∨XA (mAt g k) i t=false)∧Zl g (b i) (YM ⟨l,[],0⟩ t)=true :=
    ⟨fun i=>if h:i < (mAt g k).code.length then (hR.steps i h).choose else [],fun i h=>by dsimp only;rw [dif_pos h];exact (hR.steps i h).choose_spec⟩
   refine zW (fun i:Nat=>[(1,.pv (pi k)),(3,.pv (.ptr (zO g) 0)),(5,.pv (.ptr (sts l) 0)),(10,.box 0 0),(15,.pv (.ptr (zO g) 0)),(16,.box 1 0),(17,.box 2 0),(19,.box 4 0),(84,.pv (pi (l.map tys).length)),(85,.pv (pi i))]) (fun i=>rtB (mAt g k) (bhR l.length b i) (dnR l.length i)) (fun i=>i≤l.length) (fun i=>l.length - i) 0 zwy62 tS ⟨zx rfl (zx rfl (zx rfl (zx rfl (Zh rfl (zs6 _ _) (Zh rfl (zsZ _) zA))))),rfl⟩ ?_;clear hi hlt hdk i;rintro i hi;by_cases hlt:i < l.length
   ·have he:=zY (f:=tys) hlt;have hdk:decide ((i:Int) < (((l.map tys).length:Nat):Int))=true:=decide_eq_true zwy80;have hst:YM ⟨l,[],0⟩ i=l[i]:=by rw [ziQ,List.getD_eq_getElem?_getD,List.getElem?_eq_getElem hlt,Option.getD_some]
    have cS:=zbR g hc hm (a:=i) zwy62 (by rw [Int.toNat_natCast];omega) l[i] (hll _ (List.getElem_mem hlt));have hs:=(hb i zwy62).1;rw [hst] at hs;rw [hs] at cS;generalize l[i]=li at he cS;have e1:(bhR l.length b i)[i]?=some zcc:=by rw [bhR,zhy hlt,if_neg zwy62]
    have e2:(dnR l.length i)[i]?=some (pb false):=by rw [dnR,zhy hlt,show decide (i < i)=false by simp]
    have l1:i < (bhR l.length b i).length:=by simp [bhR];omega
    have l2:i < (dnR l.length i).length:=by simp [dnR];omega
    repeat' (first|refine Vm rfl hdk ?_|refine Vs rfl (show ((0:Int) != 0)=false from rfl) ?_|refine Zr (id:=24) 11 11 [8,10] [[106],[107]] (rtH (mAt g k) (bhR l.length b i) (dnR l.length i) i (tys (b i)) (pb true)) (fun _=>rtT (mAt g k)) (rtT (mAt g k)) none rfl zws zws zws zws zws zws zws (fun p hp=>zs5 _ _ _ i _ _ p zwy107) rfl (fun p hp=>zun _ _ _ i _ _ p hp) rfl (fun _ _ _ _=>rfl) (fun _ _=>rfl) tH rfl (fun v hv=>by cases hv) ?_|refine QF 0 1 [0,2] rfl rfl zws ?_|refine Qp 7 [1,3] rfl rfl ?_|refine Zt [1] (.pv (.tup [])) rfl rfl rfl ?_|refine QF 1 1 [0] rfl rfl zws ?_|refine Zt [] (.pv (.tup [])) rfl rfl rfl ?_|refine ZV ?_|refine ⟨⟨rfl,qB (k:=i) (j:=0) zf rfl rfl rfl rfl e1 rfl rfl rfl rfl,.inl rfl⟩,?_⟩|refine ⟨⟨rfl,qB (k:=i) (j:=0) zf rfl rfl rfl rfl e2 rfl rfl rfl rfl,.inl rfl⟩,?_⟩|intro _|refine QL ?_|(refine shC ?_;first|refine qC cS ?_)|(refine shX ?_;first|refine qX he ?_|refine zy rfl (ak (k:=i) l1) rfl rfl ?_|refine zq rfl (ak (k:=i) l1) rfl rfl ?_|refine zy rfl (ak (k:=i) l2) rfl rfl ?_|refine zq rfl (ak (k:=i) l2) rfl rfl ?_)|refine sK ?_|refine sC (fun _=>?_) (fun _=>?_)|fail)
    exact ⟨i + 1,hlt,tD,tS,⟨zx rfl (zx rfl (zx rfl (zx rfl (Zh rfl (zsR _ _ _) (Zh rfl (zuq _ _) zA))))),rfl⟩⟩
   ·have hdk:decide ((i:Int) < (((l.map tys).length:Nat):Int))=false:=decide_eq_false zwy80;obtain rfl:i=l.length:=by omega
    repeat' (first|refine Vs rfl hdk ?_|refine sK ?_|refine sC (fun _=>?_) (fun _=>?_)|fail)
    have cO:=zcS (mAt g k);refine zfb ?_;refine yZ ?_
    repeat' (first|refine WG 70 rfl ?_|refine WG 71 rfl ?_|refine zgM 1 70 rfl rfl ?_|refine zgM 4 71 rfl rfl ?_|refine QW (t:=16) rfl rfl rfl ?_|refine QW (t:=19) rfl rfl rfl ?_|refine QW (t:=17) rfl rfl rfl ?_|refine QW (t:=10) rfl rfl rfl ?_|(refine shC ?_;first|refine qC cO ?_)|refine sK ?_|refine sC (fun _=>?_) (fun _=>?_)|fail)
    refine zc9 ?_;refine ziJ (fun x=>.int .i64 x.1.1) (fun x=>.int .i64 x.1.2) (zcY (mAt g k) zwy62) [(3,.pv (.ptr (zO g) 0)),(5,.pv (.ptr (sts l) 0)),(10,.pv (.ptr (yh (mAt g k)) 0)),(16,.pv (.ptr (.slc 1 (bhR l.length b l.length) false) 0)),(17,.pv (.ptr (.ptr (.slc 3 [] true) 0) 0)),(19,.pv (.ptr (.slc 1 (dnR l.length l.length) false) 0)),(116,.pv (.fn (.func 44) [] [.ptr (yh (mAt g k)) 0]))]
     (fun _=>[]) 100 hgB hbg (fun _=>rfl) (fun _=>rfl) (fun _=>rfl) rfl tS rfl rfl rfl zwy67 ⟨zA,rfl⟩ (fun _=>rfl) (fun _=>rfl) rfl (.inr (fun _ i h hg=>by simp [HEnv.get_nil] at hg)) rfl ?_ ?_
    ·rintro g2 us2 pre ⟨⟨from_,to_⟩,hx2⟩ hlen;obtain ⟨i,hi2,hfr,hto⟩:=zp3 hx2;obtain rfl:from_=(i:Int):=hfr;have hto:to_∈Vr (mAt g k) i:=hto;obtain ⟨t0,t1⟩:=hrng i hi2 to_ hto;obtain ⟨w1,w2⟩:=(hb i hi2).2 to_ hto;have hil:i < l.length:=by omega
     have hl3:to_.toNat < l.length:=by omega
     dsimp only;have he1:(dnR l.length l.length)[((i:Nat):Int).toNat]?=some (pb true):=by rw [Int.toNat_natCast,dnR,zhy hil,show decide (i < l.length)=true from decide_eq_true hil]
     have he2:(bhR l.length b l.length)[((i:Nat):Int).toNat]?=some (tys (b i)):=by rw [Int.toNat_natCast,bhR,zhy hil,if_pos hil]
     have hst:YM ⟨l,[],0⟩ to_=l[to_.toNat]'hl3:=by unfold YM;rw [List.getD_eq_getElem?_getD,List.getElem?_eq_getElem hl3,Option.getD_some]
     have he3:(l.map tys)[to_.toNat]?=some (tys (l[to_.toNat]'hl3)):=by rw [List.getElem?_map,List.getElem?_eq_getElem hl3];rfl
     rw [hst] at w2;have cF:=XE g (b i) (l[to_.toNat]'hl3) (VH hF);rw [w2] at cF;generalize l[to_.toNat]'hl3=lt at he3 cF;have cE:=zfh (mAt g k) i to_;generalize b i=bi at w1 he2 cF;generalize bhR l.length b l.length=BH at he2;generalize dnR l.length l.length=DN at he1;rcases w1 with rfl|w1
     ·repeat' (first|(refine shC ?_;first|refine qC cE ?_|refine qC cF ?_)|(refine shX ?_;first|refine qX he1 ?_|refine qX he2 ?_|refine zy rfl (ah t0 he3) rfl rfl ?_|refine zq rfl (ah t0 he3) rfl rfl ?_)|refine sK ?_|refine sC (fun _=>?_) (fun _=>?_)|fail)
      all_goals exact ⟨tHZ,rfl⟩
     ·rw [w1] at cE;rcases Bool.eq_false_or_eq_true (decide ((0:Int) < ((bi.map yJ).length:Nat))) with hbi|hbi
      ·repeat' (first|(refine shC ?_;first|refine qC cE ?_|refine qC cF ?_)|(refine shX ?_;first|refine qX he1 ?_|refine qX he2 ?_|refine zy rfl (ah t0 he3) rfl rfl ?_|refine zq rfl (ah t0 he3) rfl rfl ?_)|refine sK ?_|refine sC (fun _=>?_) (fun _=>?_)|fail)
       all_goals exact ⟨tHZ,rfl⟩
      ·repeat' (first|(refine shC ?_;first|refine qC cE ?_|refine qC cF ?_)|(refine shX ?_;first|refine qX he1 ?_|refine qX he2 ?_|refine zy rfl (ah t0 he3) rfl rfl ?_|refine zq rfl (ah t0 he3) rfl rfl ?_)|refine sK ?_|refine sC (fun _=>?_) (fun _=>?_)|fail)
       all_goals exact ⟨tHZ,rfl⟩
    ·intro g3
     repeat' (first|(refine shC ?_;first|refine qC (zk5 _) ?_)|refine sK ?_|refine sC (fun _=>?_) (fun _=>?_)|fail)
     exact ⟨rfl,retq rfl rfl⟩
set_option maxHeartbeats 20000000
def zpw (g:Img) (a b:List (List Ty)):Bool:=decide (a.length=b.length)&&(List.range a.length).all fun i=>Zl g (a.getD i []) (b.getD i [])
theorem znU (g:Img) (x y:List Ty) (hF:Fm g):ACall Tryz.prog 25 [tys x,tys y,.ptr (zO g) 0] (pb (Zl g x y)):=by
 refine zi zf Tryz.func25 rfl zws Tryz.ntmps25 zwy63 _ rfl (fun hw gB hgB=>?_)
 repeat' (first|(refine shC ?_;first|refine qC (XE g x y hF) ?_)|refine sA ?_|refine sC (fun _=>?_) (fun _=>?_)|fail)
 exact retq rfl rfl
theorem zqP {l:List (List Ty)} {k:Nat} (h:k < l.length):(l.map tys)[((k:Int)).toNat]?=some (tys (l.getD k [])):=by
 rw [zY h,List.getD_eq_getElem?_getD,List.getElem?_eq_getElem h,Option.getD_some]
theorem zu9 {l:List (List Ty)} (h:(sts l).lenOk):l.length≤9223372036854775807:=by simp [PV.lenOk,maxLen] at h;exact h.1
theorem zwk78 {G:Prop} (h:G:=by repeat' (first|(have:=b0;refine Vm rfl hdk ?_)|(refine shC ?_;first|(have:=b0;refine qV (hc) ?_))|(refine shX ?_;first|(have:=b0;refine qX he ?_)|(have:=b0;refine qX heb ?_))|(have:=b1;refine Vs rfl hdk ?_)|(have:=b2;refine Vm rfl hne ?_)|refine sK ?_|refine sC (fun _=>?_) (fun _=>?_)|(have:=b3;exact retq rfl (by simp [zC,hr]))|(have:=b4;exact ⟨k + 1,⟨hlt,by simpa using hr⟩,tD,tS,tH⟩)|(have:=b2;exact retq rfl (by rw [hR];simp [zC,hlen]))|fail)):G:=h
theorem zht (a b:List (List Ty)) (p:List Ty→List Ty→Bool) (f:FuncId) (first cap:List PV) (hp:∀ x y,ACall Tryz.prog f (first++[tys x,tys y]++cap) (pb (p x y))) :
  ACall Tryz.prog 24 [sts a,sts b,.fn (.func f) first cap] (pb (decide (a.length=b.length)&&(List.range a.length).all fun i=>p (a.getD i []) (b.getD i []))):=by
 obtain ⟨R,hR⟩:∃ R,R=(decide (a.length=b.length)&&(List.range a.length).all fun i=>p (a.getD i []) (b.getD i [])):=⟨_,rfl⟩
 rw [←hR];refine zi zf Tryz.func24 rfl zws Tryz.ntmps24 zwy63 _ rfl (fun hw gB hgB=>?_);have hla:=zu9 hw.1;by_cases hlen:a.length=b.length
 ·have hne:((((a.map tys).length:Nat):Int) != ((((b.map tys).length:Nat):Int)))=false:=by simp [hlen]
  repeat' (first|refine Vs rfl hne ?_|refine sK ?_|refine sC (fun _=>?_) (fun _=>?_)|fail)
  refine zW (fun k:Nat=>[(1,.pv (sts b)),(2,.pv (.fn (.func f) first cap)),(15,.pv (sts a)),(16,.pv (pi (a.map tys).length)),(17,.pv (pi k))]) (fun _=>[]) (fun k=>k≤a.length∧R=((List.range a.length).drop k).all fun i=>p (a.getD i []) (b.getD i [])) (fun k=>a.length - k) 0 ⟨by simp,by simp [hR,hlen]⟩ (tS) tH ?_;rintro k ⟨hk,hr⟩;by_cases hlt:k < a.length
  ·have he:=zqP hlt;have heb:=zqP (show k < b.length by omega);have hdk:decide ((k:Int) < (((a.map tys).length:Nat):Int))=true:=decide_eq_true zwy80;rw [YS hlt] at hr;have hc:=hp (a.getD k []) (b.getD k []);generalize p (a.getD k []) (b.getD k [])=q at hc hr;cases q
   ·have b0:=();have b3:=();exact zwk78
   ·have b0:=();have b4:=();exact zwk78
  ·have hdk:decide ((k:Int) < (((a.map tys).length:Nat):Int))=false:=decide_eq_false zwy80;rw [drop_end zwy64] at hr;have b1:=();have b3:=();exact zwk78
 ·have hne:((((a.map tys).length:Nat):Int) != ((((b.map tys).length:Nat):Int)))=true:=by simp only [List.length_map,bne_iff_ne,ne_eq,Int.natCast_inj];exact hlen
  have b2:=();exact zwk78
theorem zpQ (g:Img) (a b:List (List Ty)) (hF:Fm g):ACall Tryz.prog 8 [zO g,sts a,sts b] (pb (zpw g a b)):=by
 have c1:=zht a b (Zl g) 25 [] [.ptr (zO g) 0] (fun x y=>znU g x y hF);refine zi zf Tryz.func8 rfl zws Tryz.ntmps8 zwy63 _ rfl (fun hw gB hgB=>?_)
 repeat' (first|(refine shC ?_;first|refine qC c1 ?_)|refine sA ?_|refine sC (fun _=>?_) (fun _=>?_)|fail)
 exact retq rfl rfl
theorem zpE (g:Img) (a:List (List Ty)):zpw g a a=true:=by
 simp [zpw,QO]
end Go.Cg
