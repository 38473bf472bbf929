/- A part of the walks by abstract values: no statement of its own. -/
import Derived.Test.YtdbgicaoddibdaaGreatT7
set_option linter.unusedVariables false
set_option linter.unusedSimpArgs false
namespace Go.Cg
open Go.RowKit
structure ACallM (P:Program) (f:FuncId) (args:List AV) (H:HEnv) (r:AV) (H':HEnv) (lone:Bool:=false):Prop where
 stands:Vy P f
 calls:∀ (g:Base) (K:KK) (ρ:Nat→Value) (w:World) (vs:List Value),(lone=true→g.w1.heap.size=0)→FS g K ρ H w→Yx K w ρ H args vs →
  Calls P f vs.toArray w fun e w'=>∃ v K' ρ',e=.returned v∧FS g K' ρ' H' w'∧ARel K' w' ρ' H' r v
structure ACallU {ι:Type} (P:Program) (f:FuncId) (args:List AV) (H:HEnv) (r:ι→AV) (H':ι→HEnv) (lone:Bool:=false):Prop where
 stands:Vy P f
 calls:∀ (g:Base) (K:KK) (ρ:Nat→Value) (w:World) (vs:List Value),(lone=true→g.w1.heap.size=0)→FS g K ρ H w→Yx K w ρ H args vs →
  Calls P f vs.toArray w fun e w'=>∃ v K' ρ' u,e=.returned v∧FS g K' ρ' (H' u) w'∧ARel K' w' ρ' (H' u) (r u) v
def zho (tb:Tab) (rs:List ResultVar) (r:AV) (H':HEnv):QC:=fun ex env H=>(ex=.normal∨ex=.ret) ∧
 ((∃ ps,VN tb H env rs=some ps∧r=.pv (zC ps)∧Yj H H' [])∨(∃ t,rs=[.tmp t]∧env.get t=some r∧Yj H H' [(t,r)]))
section
variable {P:Program} {tb:Tab} {n:Nat} {g:Base} {K K':KK} {w w':World} {ρ ρ':Nat→Value} {H H':HEnv} {env:Env} {a:Act} {ops:List Oper} {o:Oper} {rest:List Oper} {Q:Env→HEnv→Prop} {f:FuncId} {args:List AV} {r:AV}
theorem FS.narrow {e:Env} (hf:FS g K ρ H w) (hs:Yj H H' e):FS g K ρ H' w:=by
 obtain ⟨hs,hin⟩:=hs;simp only [Bool.and_eq_true] at hin;refine ⟨hf.below,hf.old,hf.new,hf.lt,hf.others,hf.pt,fun i h b hi=>hf.away i h b (hs i h hi),?_,?_⟩
 ·intro i h hi;have:=hf.heap.ok i h (hs i h hi);cases h with
  | cell v=>obtain ⟨b,t,arr,u,h1,h2,h3,h4,h5,h6⟩:=this;exact ⟨b,t,arr,u,h1,h2,h3,h4.refs (zb2 hin.2 i v hi),h5,h6⟩
  | pin v u=>exact ARel.refs this (zaL hin.2 i v u hi)
  | row t sz es=>exact this
  | mrow t sz es=>exact this
  | dead=>exact this
  | obj X=>exact this
 ·intro i j h h' b hij hi hj;exact hf.heap.apart i j h h' b hij (hs i h hi) (hs j h' hj)
theorem ze0 {ι:Type} {r:ι→AV} {H':ι→HEnv} (htb:yR P tb) {fn:Func} {c:Code} (hf:P.funcs[f]?=some fn) (hb:fn.body=some c) (hn:(fn.name == "runtime.NumGoroutine")=false) (hnt:fn.ntmps=n) (hargs:args.length≤n) (rs:List ResultVar) (hrs:fn.results.toList=rs)
  {lone:Bool} (h:∀ g:Base,(lone=true→g.w1.heap.size=0)→AW P n g c (WJ 0 args) H (fun ex env1 H1=>∃ u,zho tb rs (r u) (H' u) ex env1 H1)):ACallU P f args H r H' lone:=by
 refine ⟨⟨fn,hf,by simp [hb],hn⟩,fun g0 K ρ w vs hw1 hfs0 hv=>?_⟩;obtain ⟨g,hg0⟩:∃ g:Base,g=⟨g0.w0,g0.K0,g0.w1,[],g0.wp,g0.pr⟩:=⟨_,rfl⟩
 have hfs:FS g K ρ H w:=by subst hg0;exact ⟨hfs0.below,hfs0.old,hfs0.new,hfs0.lt,hfs0.others,⟨hfs0.pt.same,hfs0.pt.kept⟩,hfs0.away,hfs0.heap⟩
 refine calls_of_wp hf hb ?_;have hlen:vs.length=args.length:=hv.1;refine wp_mono (wpIn_wide.1 ((h g (by subst hg0;exact hw1)).go _ w ⟨by simp [hnt];omega,by subst hg0;rfl,K,ρ,hfs,?_⟩ none 0)) ?_
 ·intro t av hg;obtain ⟨_,hp⟩:=zaH args 0 t av hg;have hlt:t < vs.length:=by rw [hlen];exact (List.getElem?_eq_some_iff.1 hp).1
  refine ⟨vs[t],?_,hv.2 t av _ hp (List.getElem?_eq_getElem hlt)⟩;rw [Array.getElem?_append_left zwy83];simp [hlt]
 ·rintro e a' w' ⟨env1,H1,hi,u0,he,hq⟩;have key:∃ v K' ρ',(results fn a'.tmps).run P w'=.ok v w'∧a'.defers=[]∧FS g0 K' ρ' (H' u0) w'∧ARel K' w' ρ' (H' u0) (r u0) v:=by
   have back:∀ {K':KK} {ρ':Nat→Value},FS g K' ρ' (H' u0) w'→FS g0 K' ρ' (H' u0) w':=fun hf1=>by
    subst hg0;exact ⟨hf1.below,hf1.old,hf1.new,hf1.lt,hf1.others,⟨hf1.pt.same,hf1.pt.kept⟩,hf1.away,hf1.heap⟩
   rcases hq with ⟨ps,hps,hr0,hfit⟩|⟨t,ht,hget,hfit⟩
   ·obtain ⟨_,h2,K',ρ',hf',he0⟩:=hi;obtain ⟨us,hrun,hru⟩:=zae htb hf' he0 hps;have hi2:Inv n g [] (H' u0) a' w':=((⟨‹_›,h2,K',ρ',hf',he0⟩:Inv n g env1 H1 a' w').sub qh).hsub hfit;have hres:(results fn a'.tmps).run P w'=.ok (if hh:us.toArray.size=1 then us.toArray[0] else .tuple us.toArray) w':=by
     unfold results;rw [Array.mapM_eq_mapM_toList,hrs];simp only [Sem.run_bind,Sem.run_map]
     erw [hrun]
     rfl
    have hval:PRel K' w' (zC ps) (if hh:us.toArray.size=1 then us.toArray[0] else .tuple us.toArray):=by
     split
     ·rename_i hh;have hl1:=hru.1;have hu:us.length=1:=by simpa using hh
      obtain ⟨u,rfl⟩:=List.length_eq_one_iff.1 hu;obtain ⟨p,rfl⟩:=List.length_eq_one_iff.1 (show ps.length=1 by omega);exact hru.2 0 p u zwy63 zwy63
     ·rename_i hh;simp at hh;have:zC ps=.tup ps:=by
       unfold zC;split
       ·rename_i p;exact absurd zwy102 hh
       ·rfl
      rw [this];exact .tup ps us hru.1 hru.2
    have hf2:=FS.narrow hf' hfit;exact ⟨_,K',ρ',hres,by rw [h2];subst hg0;rfl,back hf2,by rw [hr0];exact .pv _ _ hval⟩
   ·obtain ⟨h1,h2,K',ρ',hf',he0⟩:=hi;obtain ⟨v,hv1,hv2⟩:=he0 t (r u0) hget;have hf2:=FS.narrow hf' hfit;have hin:=hfit.2;simp only [QD,Bool.and_eq_true] at hin;have hres:(results fn a'.tmps).run P w'=.ok v w':=by
     unfold results;rw [Array.mapM_eq_mapM_toList,hrs,ht];simp [Result.andThen,hv1]
    exact ⟨v,K',ρ',hres,by rw [h2];subst hg0;rfl,back hf2,hv2.refs hin.1.1⟩
  obtain ⟨v,K',ρ',hres,hd,hf',hr⟩:=key;rcases he with rfl|rfl
  ·exact ⟨hd,_,hres,v,K',ρ',u0,rfl,hf',hr⟩
  ·exact ⟨hd,_,hres,v,K',ρ',u0,rfl,hf',hr⟩
theorem ACallU.one {P:Program} {f:FuncId} {args:List AV} {H H':HEnv} {r:AV} {lone:Bool} (h:ACallU (ι:=Unit) P f args H (fun _=>r) (fun _=>H') lone):ACallM P f args H r H' lone :=
 ⟨h.stands,fun g K ρ w vs hw1 hf hv=>(h.calls g K ρ w vs hw1 hf hv).mono fun _ _ ⟨v,K',ρ',_,a,b,c⟩=>⟨v,K',ρ',a,b,c⟩⟩
theorem ACallM.toU {P:Program} {f:FuncId} {args:List AV} {H H':HEnv} {r:AV} {lone:Bool} (h:ACallM P f args H r H' lone):ACallU (ι:=Unit) P f args H (fun _=>r) (fun _=>H') lone :=
 ⟨h.stands,fun g K ρ w vs hw1 hf hv=>(h.calls g K ρ w vs hw1 hf hv).mono fun _ _ ⟨v,K',ρ',a,b,c⟩=>⟨v,K',ρ',(),a,b,c⟩⟩
theorem yB (htb:yR P tb) {fn:Func} {c:Code} (hf:P.funcs[f]?=some fn) (hb:fn.body=some c) (hn:(fn.name == "runtime.NumGoroutine")=false) (hnt:fn.ntmps=n) (hargs:args.length≤n) (rs:List ResultVar) (hrs:fn.results.toList=rs)
  {lone:Bool} (h:∀ g:Base,(lone=true→g.w1.heap.size=0)→AW P n g c (WJ 0 args) H (zho tb rs r H')):ACallM P f args H r H' lone :=
 ACallU.one (ze0 htb hf hb hn hnt hargs rs hrs fun g hg=>(h g hg).mono fun _ _ _ hq=>⟨(),hq⟩)
def qE (us:Nat→Value) (ps:List Nat):HEnv:=ps.map fun i=>(1000 + i,.pin (.own i) (us i))
def Wx (ps:List Nat):HEnv:=ps.map fun i=>(i,.dead)
def ziE (A:HEnv) (B:HEnv):Bool:=A.all fun x=>(B.get x.1).isNone
def YB (Hc Hc' R:HEnv) (ps:List Nat) (ars:List AV) (env2:Env) (r:AV):Bool :=
 ziE Hc R&&ziE Hc' R&&zcK 1000 Hc&&zcK 1000 Hc'&&YT Hc ars&&hIn Hc Hc&&hIn Hc' Hc'&&Zx Hc' r&&hIn (R++Wx ps) R&&QD (R++Wx ps) env2&&ps.all fun i=>(Hc.get i).isSome&&(Hc'.get i).isSome
theorem zfk {us:Nat→Value}:∀ {ps:List Nat} {i:Nat} {h:HE},HEnv.get (qE us ps) i=some h→1000≤i∧i - 1000∈ps∧h=.pin (.own (i - 1000)) (us (i - 1000))
 | [],i,h,hg=>by simp [qE,HEnv.get_nil] at hg
 | p::ps,i,h,hg=>by
  rw [qE,List.map_cons,HEnv.get_cons] at hg;split at hg
  ·rename_i e;subst e;simp only [Option.some.injEq] at hg;subst hg;rw [Nat.add_sub_cancel_left];exact ⟨by omega,by simp,rfl⟩
  ·obtain ⟨h1,h2,h3⟩:=zfk (ps:=ps) hg;exact ⟨h1,by simp [h2],h3⟩
theorem zmh {us:Nat→Value}:∀ {ps:List Nat} {i:Nat},i∈ps→HEnv.get (qE us ps) (1000 + i)=some (.pin (.own i) (us i))
 | [],i,h=>by cases h
 | p::ps,i,h=>by
  rw [qE,List.map_cons,HEnv.get_cons];split
  ·rename_i e;have:p=i:=by omega
   subst this;rfl
  ·rename_i e;rcases List.mem_cons.1 h with rfl|h
   ·exact absurd rfl e
   ·exact zmh h
theorem zgu {A B:HEnv} (h:ziE A B=true):∀ i x,A.get i=some x→B.get i=none:=by
 induction A with
 | nil=>intro i x hx;simp [HEnv.get_nil] at hx
 | cons y A ih =>
  intro i x hx;obtain ⟨j,z⟩:=y;simp only [ziE,List.all_cons,Bool.and_eq_true] at h;rw [HEnv.get_cons] at hx;split at hx
  ·rename_i e;subst e;simpa using h.1
  ·exact ih h.2 i x hx
theorem zsG {ps:List Nat} {i:Nat} (h:(HEnv.get (Wx ps) i).isSome=true):i∈ps:=by
 induction ps with
 | nil=>simp [Wx,HEnv.get_nil] at h
 | cons p ps ih =>
  rw [Wx,List.map_cons,HEnv.get_cons] at h;split at h
  ·rename_i e;simp [e]
  ·simp [ih h]
theorem zdK {w w':World} {B e sz n:Nat} {v:Value} {xs:List Value} (h:w.ownsRow B e sz v n xs) (hb:∀ b,yj v=some b→w'.heap[b]?=w.heap[b]?):w'.ownsRow B e sz v n xs:=by
 obtain ⟨h1,h2⟩:=h;refine ⟨h1,h2.imp id ?_⟩;rintro ⟨g,cap,cur,a,b,c,d⟩;exact ⟨g,cap,cur,a,b,by rw [hb g (by rw [a];rfl)];exact c,d⟩
theorem zgD {w:World} {B e sz n:Nat} {v:Value} {xs:List Value} (h:w.ownsRow B e sz v n xs) (b:Nat):yj v=some b↔v.ownBlock=some b:=by
 rcases h.2 with ⟨rfl,_⟩|⟨_,_,_,rfl,_⟩ <;> simp [yj,Value.ownBlock]
theorem zcU {Hc Hc' R:HEnv} {ps:List Nat} {ars:List AV} {env2:Env} {r:AV} (h:YB Hc Hc' R ps ars env2 r=true):YB Hc Hc' R ps ars [] r=true∧QD (R++Wx ps) env2=true:=by
 simp only [YB,Bool.and_eq_true] at h ⊢;obtain ⟨⟨h1,h6⟩,h7⟩:=h;exact ⟨⟨⟨h1,rfl⟩,h7⟩,h6⟩
theorem zhZ {ars:List AV} {vs:List Value} (Hc R:HEnv) (ps:List Nat) (hsub:HSub H (Hc++R)) (d1:ziE Hc R=true) (i1:YT Hc ars=true) (i2:hIn Hc Hc=true) (i5:hIn (R++Wx ps) R=true) (i7a:(ps.all fun i=>(Hc.get i).isSome)=true) (hf:FS g K ρ H w) (hall0:Yx K w ρ H ars vs) :
  ∃ g':Base,g'.w1=g.w1∧FS g' K ρ (Hc++qE ρ ps) w∧Yx K w ρ (Hc++qE ρ ps) ars vs∧∀ K' ρ' w' Hc',ziE Hc' R=true→zcK 1000 Hc'=true→hIn Hc' Hc'=true→(ps.all fun i=>(HEnv.get Hc' i).isSome)=true→FS g' K' ρ' (Hc'++qE ρ ps) w' →
   ∃ ρ2,FS g K' ρ2 (Hc'++R) w'∧Later K K' w w'∧(∀ j,(HEnv.get (R++Wx ps) j).isSome=true→(HEnv.get (Hc'++R) j).isSome=true∧ρ2 j=ρ j)∧∀ r v,Zx Hc' r=true→ARel K' w' ρ' (Hc'++qE ρ ps) r v→ARel K' w' ρ2 (Hc'++R) r v:=by
 have i7b:∀ i∈ps,(Hc.get i).isSome=true:=fun i hi=>List.all_eq_true.1 i7a i hi
 have hlatR:Later K K w w:=.refl K w;have gC:∀ i x,Hc.get i=some x→H.get i=some x:=fun i x hx=>hsub i x (by rw [get_append,hx])
 have gR:∀ i x,R.get i=some x→H.get i=some x:=fun i x hx=>hsub i x (by
  rw [get_append];cases hh:Hc.get i with
  | none=>exact hx
  | some y=>rw [zgu d1 i y hh] at hx;cases hx)
 have nC:∀ i x,R.get i=some x→Hc.get i=none:=fun i x hx=>by
  cases hh:Hc.get i with
  | none=>rfl
  | some y=>rw [zgu d1 i y hh] at hx;cases hx
 have hpinC:∀ {A:HEnv} {us:Nat→Value} {i:Nat} {x:HE},HEnv.get (A++qE us ps) i=some x→x.live=true→A.get i=some x:=by
  intro A us i x hx hl;rw [get_append] at hx;cases hh:A.get i with
  | some z=>rw [hh] at hx;exact hx
  | none =>
   rw [hh] at hx;obtain ⟨_,_,rfl⟩:=zfk hx;simp [HE.live] at hl
 obtain ⟨g',hg'⟩:∃ g':Base,g'=⟨g.w0,K,g.w1,g.ds,w,fun b=>g.pr b∨∃ i x,R.get i=some x∧x.live=true∧yj (ρ i)=some b⟩:=⟨_,rfl⟩
 have hfs:FS g' K ρ (Hc++qE ρ ps) w:=by
  subst hg';refine ⟨hf.below,fun _ _ h=>h,fun _ _ h=>.inl h,hf.lt,hf.others,⟨?_,fun _ _ _=>rfl⟩,?_,?_,?_⟩
  ·rintro b (hb|⟨i,x,hi,hl,hb⟩)
   ·exact ⟨(hf.pt.same b hb).1,rfl,fun _=>Iff.rfl⟩
   ·exact ⟨((hf.heap.ok i x (gR i x hi)).block_lt hl hb).2,rfl,fun _=>Iff.rfl⟩
  ·intro i x b hi hl hb;have hC:=hpinC hi hl;rintro (hp|⟨j,y,hj,hly,hbj⟩)
   ·exact hf.away i x b (gC i x hC) hl hb hp
   ·have hne:i≠j:=by rintro rfl;rw [nC i y hj] at hC;cases hC
    exact hf.heap.apart i j x y b hne (gC i x hC) (gR j y hj) hl hly hb hbj
  ·intro i x hi;rw [get_append] at hi;cases hh:Hc.get i with
   | some y =>
    rw [hh] at hi;simp only [Option.some.injEq] at hi;subst hi;have hok:=hf.heap.ok i y (gC i y hh);have hk:∀ j,(HEnv.get Hc j).isSome=true→(HEnv.get (Hc++qE ρ ps) j).isSome=true∧ρ j=ρ j:=fun j hj=>⟨Zn j hj,rfl⟩
    cases y with
    | cell v=>obtain ⟨b,t,arr,u,q1,q2,q3,q4,q5,q6⟩:=hok;exact ⟨b,t,arr,u,q1,q2,q3,(q4.refs (zb2 i2 i v hh)).keeps hlatR hk,q5,q6⟩
    | pin v u=>exact (ARel.refs hok (zaL i2 i v u hh)).keeps hlatR hk
    | row t sz es=>exact hok
    | mrow t sz es=>exact hok
    | dead=>exact hok
    | obj X=>exact hok
   | none =>
    rw [hh] at hi;obtain ⟨q1,q2,rfl⟩:=zfk hi;exact .own _ (Zn _ (i7b _ q2))
  ·intro i j x y b hij hi hj lx ly bx bj;exact hf.heap.apart i j x y b hij (gC i x (hpinC hi lx)) (gC j y (hpinC hj ly)) lx ly bx bj
 have hall:Yx K w ρ (Hc++qE ρ ps) ars vs :=
  ⟨hall0.1,fun k c v hc hv=>((hall0.2 k c v hc hv).refs (Qw i1 k c hc)).keeps hlatR fun j hj=>⟨Zn j hj,rfl⟩⟩
 refine ⟨g',by subst hg';rfl,hfs,hall,fun K' ρ' w' Hc' d2 d4 i3 i7c hf'=>?_⟩;have i7':∀ i∈ps,(Hc.get i).isSome=true∧(Hc'.get i).isSome=true:=fun i hi=>⟨i7b i hi,List.all_eq_true.1 i7c i hi⟩
 have nC':∀ i x,R.get i=some x→Hc'.get i=none:=fun i x hx=>by
  cases hh:Hc'.get i with
  | none=>rfl
  | some y=>rw [zgu d2 i y hh] at hx;cases hx
 have hlat:Later K K' w w':=by subst hg';exact ⟨hf'.old,hf'.pt.kept⟩
 have hprot:∀ b,(g.pr b∨∃ i x,R.get i=some x∧x.live=true∧yj (ρ i)=some b)→b < w'.heap.size∧w'.heap[b]?=w.heap[b]?∧∀ o,K' b o↔K b o:=by subst hg';exact hf'.pt.same
 have haway:∀ i x b,Hc'.get i=some x→x.live=true→yj (ρ' i)=some b→¬ (g.pr b∨∃ i x,R.get i=some x∧x.live=true∧yj (ρ i)=some b):=by
  subst hg';exact fun i x b hi=>hf'.away i x b (by rw [get_append,hi])
 obtain ⟨ρ2,hρ2⟩:∃ ρ2:Nat→Value,∀ j,ρ2 j=if (Hc'.get j).isSome then ρ' j else ρ j:=⟨_,fun _=>rfl⟩
 have r1:∀ j,(Hc'.get j).isSome=true→ρ2 j=ρ' j:=fun j hj=>by rw [hρ2,if_pos hj]
 have r2:∀ j,Hc'.get j=none→ρ2 j=ρ j:=fun j hj=>by rw [hρ2,hj];rfl
 have hkC:∀ j,(HEnv.get Hc' j).isSome=true→(HEnv.get (Hc'++R) j).isSome=true∧ρ2 j=ρ' j:=fun j hj=>⟨Zn j hj,r1 j hj⟩
 have hps:∀ i∈ps,ρ' i=ρ i:=fun i hi=>by
  have hnone:Hc'.get (1000 + i)=none:=by
   cases hh:Hc'.get (1000 + i) with
   | none=>rfl
   | some x=>have:=zbE d4 _ x hh;omega
  have:=hf'.heap.ok (1000 + i) _ (by rw [get_append,hnone];exact zmh hi);have this:ARel K' w' ρ' (Hc'++qE ρ ps) (.own i) (ρ i):=this;generalize hu:ρ i=u at this;cases this with
  | own _ _=>rfl
 have hkR:∀ j,(HEnv.get (R++Wx ps) j).isSome=true→(HEnv.get (Hc'++R) j).isSome=true∧ρ2 j=ρ j:=fun j hj=>by
  rw [get_append] at hj;cases hh:R.get j with
  | some x =>
   have hn:=nC' j x hh;exact ⟨by rw [get_append,hn,hh];rfl,r2 j hn⟩
  | none =>
   rw [hh] at hj;have hm:=zsG hj;have hs':=(i7' j hm).2;exact ⟨Zn j hs',by rw [r1 j hs',hps j hm]⟩
 have hfs2:FS g K' ρ2 (Hc'++R) w':=by
  have b1:Below g.w0.heap.size g.w0 w':=by subst hg';exact hf'.below
  have b3:∀ b o,K' b o→K b o∨g.w0.heap.size≤b:=by subst hg';exact hf'.new
  have b5:KeepsOthers g.w1 w':=by subst hg';exact hf'.others
  have bB:HRel K' w' g.w0.heap.size ρ' (Hc'++qE ρ ps):=by subst hg';exact hf'.heap
  refine ⟨b1,fun b o h=>hlat.sub b o (hf.old b o h),fun b o hk=>(b3 b o hk).elim (hf.new b o) .inr,hf'.lt,b5,⟨fun b hb=>?_,fun b o h0=>(hlat.cell b o (hf.old b o h0)).trans (hf.pt.kept b o h0)⟩,fun i x b hi hl hb=>?_,fun i x hi=>?_,fun i j x y b hij hi hj lx ly bx bj=>?_⟩
  ·obtain ⟨p1,p2,p3⟩:=hprot b (.inl hb);obtain ⟨q1,q2,q3⟩:=hf.pt.same b hb;exact ⟨p1,p2.trans q2,fun o=>(p3 o).trans (q3 o)⟩
  ·rw [get_append] at hi;cases hh:Hc'.get i with
   | some y =>
    rw [hh] at hi;simp only [Option.some.injEq] at hi;subst hi;rw [r1 i (by rw [hh];rfl)] at hb;exact fun hp=>haway i y b hh hl hb (.inl hp)
   | none =>
    rw [hh] at hi;rw [r2 i hh] at hb;exact hf.away i x b (gR i x hi) hl hb
  ·rw [get_append] at hi;cases hh:Hc'.get i with
   | some y =>
    rw [hh] at hi;simp only [Option.some.injEq] at hi;subst hi;rw [r1 i (by rw [hh];rfl)];have hok:=bB.ok i y (by rw [get_append,hh]);have hl':=Later.refl K' w';cases y with
    | cell v=>obtain ⟨b,t,arr,u,q1,q2,q3,q4,q5,q6⟩:=hok;exact ⟨b,t,arr,u,q1,q2,q3,(q4.refs (zb2 i3 i v hh)).keeps hl' hkC,q5,q6⟩
    | pin v u=>exact (ARel.refs hok (zaL i3 i v u hh)).keeps hl' hkC
    | row t sz es=>exact hok
    | mrow t sz es=>exact hok
    | dead=>exact hok
    | obj X=>exact hok
   | none =>
    rw [hh] at hi;rw [r2 i hh];have hok:=hf.heap.ok i x (gR i x hi);have hsame:x.live=true→∀ b,yj (ρ i)=some b→w'.heap[b]?=w.heap[b]?∧∀ o,K' b o↔K b o:=fun hl b hb=>(hprot b (.inr ⟨i,x,hi,hl,hb⟩)).2
    cases x with
    | cell v =>
     obtain ⟨b,t,arr,u,q1,q2,q3,q4,q5,q6⟩:=hok;obtain ⟨s1,s2⟩:=hsame rfl b (by rw [q1];rfl);exact ⟨b,t,arr,u,q1,q2,by rw [s1];exact q3,(q4.refs (zb2 i5 i v hi)).keeps hlat hkR,q5,fun o hk=>q6 o ((s2 o).1 hk)⟩
    | pin v u=>exact (ARel.refs hok (zaL i5 i v u hi)).keeps hlat hkR
    | row t sz es =>
     obtain ⟨xs,q1,q2,q3,q4⟩:=hok;refine ⟨xs,zdK q1 fun b hb=>(hsame rfl b hb).1,q2,fun k e he=>?_,fun b hb o=>?_⟩
     ·obtain ⟨c1,c2⟩:=q3 k e he;exact ⟨c1,fun k c hc=>let ⟨v,h4,h5,h6⟩:=c2 k c hc;⟨v,h4,h5,h6.later hlat⟩⟩
     ·rw [(hsame rfl b ((zgD q1 b).2 hb)).2 o];exact q4 b hb o
    | mrow t sz es =>
     obtain ⟨xs,q1,q2,q3,q4⟩:=hok;refine ⟨xs,zdK q1 fun b hb=>(hsame rfl b hb).1,q2,fun k e he=>?_,fun b hb o hk=>?_⟩
     ·obtain ⟨c1,c2⟩:=q3 k e he;exact ⟨c1,fun k c hc=>let ⟨v,h4,h5,h6⟩:=c2 k c hc;⟨v,h4,h5,h6.later hlat⟩⟩
     ·exact q4 b hb o (((hsame rfl b ((zgD q1 b).2 hb)).2 o).1 hk)
    | dead=>trivial
    | obj X =>
     obtain ⟨b,ob,q1,q2,q3,q4,q5⟩:=hok;obtain ⟨s1,s2⟩:=hsame rfl b (by rw [q1];rfl);exact ⟨b,ob,q1,q2,by rw [s1];exact q3,q4,fun o hk=>q5 o ((s2 o).1 hk)⟩
  ·rw [get_append] at hi hj;cases hhi:Hc'.get i with
   | some x' =>
    rw [hhi] at hi;simp only [Option.some.injEq] at hi;subst hi;rw [r1 i (by rw [hhi];rfl)] at bx;cases hhj:Hc'.get j with
    | some y' =>
     rw [hhj] at hj;simp only [Option.some.injEq] at hj;subst hj;rw [r1 j (by rw [hhj];rfl)] at bj;exact bB.apart i j x' y' b hij (by rw [get_append,hhi]) (by rw [get_append,hhj]) lx ly bx bj
    | none =>
     rw [hhj] at hj;rw [r2 j hhj] at bj;exact haway i x' b hhi lx bx (.inr ⟨j,y,hj,ly,bj⟩)
   | none =>
    rw [hhi] at hi;rw [r2 i hhi] at bx;cases hhj:Hc'.get j with
    | some y' =>
     rw [hhj] at hj;simp only [Option.some.injEq] at hj;subst hj;rw [r1 j (by rw [hhj];rfl)] at bj;exact haway j y' b hhj ly bj (.inr ⟨i,x,hi,lx,bx⟩)
    | none =>
     rw [hhj] at hj;rw [r2 j hhj] at bj;exact hf.heap.apart i j x y b hij (gR i x hi) (gR j y hj) lx ly bx bj
 exact ⟨ρ2,hfs2,hlat,hkR,fun r v hr hv=>(hv.refs hr).keeps (Later.refl K' w') hkC⟩
theorem zkD {ι:Type} [Inhabited ι] {rs:ι→AV} {ars:List AV} {vs:List Value} (Hc:HEnv) (Hs':ι→HEnv) (R:HEnv) {lone:Bool} (ps:List Nat) (hw1:lone=true→g.w1.heap.size=0) (hsub:HSub H (Hc++R))
  (hchk:∀ u,YB Hc (Hs' u) R ps ars [] (rs u)=true) (hc:∀ us,ACallU P f ars (Hc++qE us ps) rs (fun u=>Hs' u++qE us ps) lone) (hf:FS g K ρ H w) (hall0:Yx K w ρ H ars vs) :
  Calls P f vs.toArray w fun e w'=>∃ v K' ρ2 u,e=.returned v∧FS g K' ρ2 (Hs' u++R) w'∧ARel K' w' ρ2 (Hs' u++R) (rs u) v∧Later K K' w w'∧(∀ j,(HEnv.get (R++Wx ps) j).isSome=true→(HEnv.get (Hs' u++R) j).isSome=true∧ρ2 j=ρ j):=by
 have hchk0:=hchk default;simp only [YB,Bool.and_eq_true] at hchk0;obtain ⟨⟨⟨⟨⟨⟨⟨⟨⟨⟨d1,_⟩,_⟩,_⟩,i1⟩,i2⟩,_⟩,_⟩,i5⟩,_⟩,i7⟩:=hchk0;obtain ⟨g',e1,hfs,hall,back⟩:=zhZ Hc R ps hsub d1 i1 i2 i5 (List.all_eq_true.2 fun i hi=>by have:=List.all_eq_true.1 i7 i hi;simp only [Bool.and_eq_true] at this;exact this.1) hf hall0;refine ((hc ρ).calls g' K ρ w _ (by rw [e1];exact hw1) hfs hall).mono fun e w' ⟨v,K',ρ',u,e1,hf',hv⟩=>?_
 have hchk1:=hchk u;simp only [YB,Bool.and_eq_true] at hchk1;obtain ⟨⟨⟨⟨⟨⟨⟨⟨⟨⟨_,d2⟩,_⟩,d4⟩,_⟩,_⟩,i3⟩,i4⟩,_⟩,_⟩,i7⟩:=hchk1;obtain ⟨ρ2,q1,q2,q3,q4⟩:=back K' ρ' w' _ d2 d4 i3 (List.all_eq_true.2 fun i hi=>by have:=List.all_eq_true.1 i7 i hi;simp only [Bool.and_eq_true] at this;exact this.2) hf';exact ⟨v,K',ρ2,u,e1,q1,q4 _ _ i4 hv,q2,q3⟩
theorem zbC {ars:List AV} {vs:List Value} (Hc Hc' R:HEnv) {lone:Bool} (ps:List Nat) (hw1:lone=true→g.w1.heap.size=0) (hsub:HSub H (Hc++R))
  (hchk:YB Hc Hc' R ps ars [] r=true) (hc:∀ us,ACallM P f ars (Hc++qE us ps) r (Hc'++qE us ps) lone) (hf:FS g K ρ H w) (hall0:Yx K w ρ H ars vs) :
  Calls P f vs.toArray w fun e w'=>∃ v K' ρ2,e=.returned v∧FS g K' ρ2 (Hc'++R) w'∧ARel K' w' ρ2 (Hc'++R) r v∧Later K K' w w'∧(∀ j,(HEnv.get (R++Wx ps) j).isSome=true→(HEnv.get (Hc'++R) j).isSome=true∧ρ2 j=ρ j) :=
 (zkD (rs:=fun _:Unit=>r) Hc (fun _=>Hc') R ps hw1 hsub (fun _=>hchk) (fun us=>(hc us).toU) hf hall0).mono fun _ _ ⟨v,K',ρ2,_,q⟩=>⟨v,K',ρ2,q⟩
theorem zeD {ι:Type} [Inhabited ι] {r:ι→AV} {xs:Array Operand} {ts:Array TypeId} {d:Tmp} {ars:List AV} (Hc:HEnv) (Hc':ι→HEnv) (R:HEnv) (env2:Env) {lone:Bool} (ps:List Nat) (hw1:lone=true→g.w1.heap.size=0) (hg:guardE ops env o=some true)
  (hop:o.op=.call { callee:=.value (.func f),args:=xs,argTypes:=ts }) (hargs:avs env xs.toList=some ars) (hsub:HSub H (Hc++R)) (hs:Sub env env2) (hd:o.dst=some d) (hdt:Nat.blt d n=true)
  (hchk:∀ u,YB Hc (Hc' u) R ps ars env2 (r u)=true) (hc:∀ us,ACallU P f ars (Hc++qE us ps) r (fun u=>Hc' u++qE us ps) lone)
  (h:∀ u,AO P n g ops.toArray rest ((d,r u)::env2) (Hc' u++R) Q):AO P n g ops.toArray (o::rest) env H Q:=by
 refine ⟨fun a w hinv=>?_⟩;have hw:=yT hinv hg;obtain ⟨h1,h2,K,ρ,hf,he⟩:=hinv;refine wpList_step fun KK hKK=>?_
 rw [if_pos hw];have hrun:(execOp a.eval o).run P w=.ok (.enter f (xs.toList.map a.eval).toArray) w:=by
  have e:(xs.toList.map a.eval).toArray=xs.map a.eval:=by rw [←Array.toList_map,Array.toArray_toList]
  rw [e];simp [execOp,hop,resolve,Act.eval,Deferred.ofValue,invoke,Ze (hc ρ).stands]
 unfold Oper.wp;rw [hrun];simp only [Oper.upon];refine (zkD Hc Hc' R ps hw1 hsub (fun u=>(zcU (hchk u)).1) hc hf (VP (a:=a) he hargs)).mono fun e w' ⟨v,K',ρ2,u,e1,hf',hv,hlat,hps⟩=>?_
 subst e1;refine hKK _ _ ((h u).go _ _ ⟨qW h1,put_defers h2,K',ρ2,hf',?_⟩);rw [hd];refine Zo h1 hdt (fun t av ht=>?_) hv;obtain ⟨u1,u2,u3⟩:=he t av (hs t av ht);exact ⟨u1,u2,(u3.refs (zbo (zcU (hchk u)).2 t av ht)).keeps hlat hps⟩
theorem yD {xs:Array Operand} {ts:Array TypeId} {d:Tmp} {ars:List AV} (Hc Hc' R:HEnv) (env2:Env) {lone:Bool} (ps:List Nat) (hw1:lone=true→g.w1.heap.size=0) (hg:guardE ops env o=some true)
  (hop:o.op=.call { callee:=.value (.func f),args:=xs,argTypes:=ts }) (hargs:avs env xs.toList=some ars) (hsub:HSub H (Hc++R)) (hs:Sub env env2) (hd:o.dst=some d) (hdt:Nat.blt d n=true)
  (hchk:YB Hc Hc' R ps ars env2 r=true) (hc:∀ us,ACallM P f ars (Hc++qE us ps) r (Hc'++qE us ps) lone)
  (h:AO P n g ops.toArray rest ((d,r)::env2) (Hc'++R) Q):AO P n g ops.toArray (o::rest) env H Q :=
 zeD (r:=fun _:Unit=>r) Hc (fun _=>Hc') R env2 ps hw1 hg hop hargs hsub hs hd hdt (fun _=>hchk) (fun us=>(hc us).toU) (fun _=>h)
end
end Go.Cg

namespace Go.Cg
open Go.RowKit
mutual
def AV.rn (σ:Nat→Nat):AV→AV
 | .pv p=>.pv p
 | .own i=>.own (σ i)
 | .box i off=>.box (σ i) off
 | .ad i off=>.ad (σ i) off
 | .agg cs=>.agg (AV.rns σ cs)
 | .fn f first cap=>.fn f (AV.rns σ first) (AV.rns σ cap)
 | .any=>.any
 | .any1=>.any1
def AV.rns (σ:Nat→Nat):List AV→List AV
 | []=>[]
 | c::l=>AV.rn σ c::AV.rns σ l
end
theorem zhC (σ:Nat→Nat):∀ l:List AV,(AV.rns σ l).length=l.length
 | []=>rfl
 | c::l=>by rw [AV.rns,List.length_cons,List.length_cons,zhC σ l]
theorem zhI (σ:Nat→Nat):∀ (l:List AV) (j:Nat),(AV.rns σ l)[j]?=(l[j]?).map (AV.rn σ)
 | [],j=>by simp [AV.rns]
 | c::l,0=>by simp [AV.rns]
 | c::l,j + 1=>by simp [AV.rns,zhI σ l j]
section
variable {K:KK} {w:World} {ρ:Nat→Value} {H:HEnv} {σ:Nat→Nat} {av:AV} {v:Value}
theorem ARel.up {ρ':Nat→Value} {H':HEnv} (h:ARel K w ρ H av v) (hk:∀ i,(H.get i).isSome=true→(H'.get (σ i)).isSome=true∧ρ' (σ i)=ρ i):ARel K w ρ' H' (av.rn σ) v:=by
 induction h with
 | pv p v hp=>exact .pv p v hp
 | own i hi=>obtain ⟨h1,h2⟩:=hk i hi;rw [←h2];exact .own (σ i) h1
 | box i off b hi hb=>obtain ⟨h1,h2⟩:=hk i hi;exact .box (σ i) off b h1 (by rw [h2];exact hb)
 | ad i off b m c hi hb=>obtain ⟨h1,h2⟩:=hk i hi;exact .ad (σ i) off b m c h1 (by rw [h2];exact hb)
 | agg cs vs h1 h2 h3 ih =>
  refine .agg (AV.rns σ cs) vs (by rw [zhC];exact h1) h2 fun j c v hc hv=>?_
  rw [zhI] at hc;cases hx:cs[j]? with
  | none=>rw [hx] at hc;cases hc
  | some x=>rw [hx] at hc;simp only [Option.map_some,Option.some.injEq] at hc;subst hc;exact ih j x v hx hv
 | fn f first cap vf vc h1 h2 h3 h4 ih1 ih2 =>
  refine .fn f (AV.rns σ first) (AV.rns σ cap) vf vc (by rw [zhC];exact h1) (by rw [zhC];exact h2) (fun j c v hc hv=>?_) fun j c v hc hv=>?_
  ·rw [zhI] at hc;cases hx:first[j]? with
   | none=>rw [hx] at hc;cases hc
   | some x=>rw [hx] at hc;simp only [Option.map_some,Option.some.injEq] at hc;subst hc;exact ih1 j x v hx hv
  ·rw [zhI] at hc;cases hx:cap[j]? with
   | none=>rw [hx] at hc;cases hc
   | some x=>rw [hx] at hc;simp only [Option.map_some,Option.some.injEq] at hc;subst hc;exact ih2 j x v hx hv
 | any v=>exact .any v
 | any1 v h1 h2=>exact .any1 v h1 h2
end
section
variable {g:Base} {K K':KK} {w w':World} {ρ ρ':Nat→Value} {H H' Hc Hc':HEnv} {σ:Nat→Nat}
end
section
variable {P:Program} {n:Nat} {g:Base} {H:HEnv} {env:Env} {ops:List Oper} {o:Oper} {rest:List Oper} {Q:Env→HEnv→Prop} {QQ:QC} {c:Code} {f:FuncId} {args:List AV} {ι:Type} {r:ι→AV} {H':ι→HEnv} {ps:List Nat} {σ:Nat→Nat}
end
end Go.Cg
