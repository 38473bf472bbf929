/- A part of the walks by abstract values: no statement of its own. -/
import Derived.Test.YtmgdpkcmbnlklaaGreatA4
import Derived.Test.YtmgdpkcmbnlklaaGreatA6
import Derived.Shelf.RegionOpenPlain
import Derived.WalkKit
import Derived.Lib.Walk
import Derived.Lib.SliceRun
import Derived.Lib.AppendZerosOnto
import Derived.Test.YtmgdpkcmbnlklaaGreatA10
set_option linter.unusedVariables false
set_option linter.unusedSimpArgs false
set_option linter.unusedVariables false
set_option linter.unusedSimpArgs false
namespace Go.Cg
open Go.Proofs Go.Shelf Go.RowKit Go.Lib
end Go.Cg
namespace Go.Cg
open Go.RowKit
theorem zcI {P:Program} {tb:Tab} {g:Base} {H:HEnv} {env:Env} {o:Oper} {t e len:Nat} {parts:Array (Nat × Operand)} {z:Value} {cells:Array Value} (vs:List (Nat × Value)) (htb:yc P tb) (hop:o.op=.build t parts) (hk:tb.k t=.arr len e) (hke:tb.known e=true) (hz:tb.zero t=some z)
  (hp:parts.toList=vs.map fun x=>(x.1,.const x.2)) (hf:Instr.fill (fun i=>some (i * tb.size e,tb.size e)) z.cells vs=some cells) (hok:cells.toList.all Yc=true):QStep P g H o env (.pv (.agg (cells.toList.map .base))):=by
 refine ⟨fun K ρ a w hfs hv=>?_⟩
 have hko:tb.k e≠.oth:=by intro h;simp [Tab.known,h] at hke
 have hs:=run_sizeOf htb hko w
 have hzi:∃ i,P.info? t=some i∧i.zero=some z:=by
  unfold Tab.zero at hz
  split at hz
  ·rename_i ti hti
   obtain ⟨i,e1,_,_,e4,_⟩:=yN htb hti
   exact ⟨i,e1,by rw [e4];exact hz⟩
  ·cases hz
 obtain ⟨i,hi,hiz⟩:=hzi
 have hp2:(parts.map fun x=>(x.1,a.eval x.2)).toList=vs:=by
  rw [Array.toList_map,hp,List.map_map]
  conv=>rhs;rw [←List.map_id vs]
  apply List.map_congr_left
  intro x _
  rfl
 have hrun:(execOp a.eval o).run P w=.ok (.value (.agg cells)) w:=by
  simp only [execOp,hop,Instr.build,Sem.run_bind,zeroValue,typeInfo,run_program,hi,hiz,Result.andThen_ok,Sem.run_pure,run_underlying (zju htb hk),hs,hp2,hf]
 rw [hrun]
 have hone:=List.all_eq_true.1 hok
 refine qA hfs (.pv _ _ ?_)
 have:=PRel.agg (K:=K) (w:=w) (cells.toList.map .base) cells.toList (by simp) (fun v hv=>zdK (hone v hv)) (fun k c v hc hv=>by
  rw [List.getElem?_map] at hc
  rw [hv] at hc
  simp at hc;subst hc
  exact .base v (hone v (List.mem_of_getElem? hv)))
 simpa using this
structure ACallM (P:Program) (f:FuncId) (args:List AV) (H:HEnv) (r:AV) (H':HEnv) (lone:Bool:=false):Prop where
 stands:Ve P f
 calls:∀ (g:Base) (K:KK) (ρ:Nat→Value) (w:World) (vs:List Value),(lone=true→g.w1.heap.size=0)→FS g K ρ H w→Qj K w ρ H args vs →
  Calls P f vs.toArray w fun e w'=>∃ v K' ρ',e=.returned v∧FS g K' ρ' H' w'∧ARel K' w' ρ' H' r v
def znf (tb:Tab) (rs:List ResultVar) (r:AV) (H':HEnv):QC:=fun ex env H=>(ex=.normal∨ex=.ret) ∧
 ((∃ ps,zcl tb H env rs=some ps∧r=.pv (zl ps)∧Xr H H' [])∨(∃ t,rs=[.tmp t]∧env.get t=some r∧Xr H H' [(t,r)]))
section
variable {P:Program} {tb:Tab} {n:Nat} {g:Base} {K K':KK} {w w':World} {ρ ρ':Nat→Value} {H H':HEnv} {env:Env} {a:Act} {ops:List Oper} {o:Oper} {rest:List Oper} {Q:Env→HEnv→Prop} {f:FuncId} {args:List AV} {r:AV}
theorem FS.narrow {e:Env} (hf:FS g K ρ H w) (hs:Xr H H' e):FS g K ρ H' w:=by
 obtain ⟨hs,hin⟩:=hs
 simp only [Bool.and_eq_true] at hin
 refine ⟨hf.below,hf.old,hf.new,hf.lt,hf.others,hf.pt,fun i h b hi=>hf.away i h b (hs i h hi),?_,?_⟩
 ·intro i h hi
  have:=hf.heap.ok i h (hs i h hi)
  cases h with
  | cell v=>obtain ⟨b,t,arr,u,h1,h2,h3,h4,h5,h6⟩:=this;exact ⟨b,t,arr,u,h1,h2,h3,h4.refs (qR hin.2 i v hi),h5,h6⟩
  | pin v u=>exact ARel.refs this (yR hin.2 i v u hi)
  | row t sz es=>exact this
  | mrow t sz es=>exact this
  | dead=>exact this
  | obj X=>exact this
 ·intro i j h h' b hij hi hj
  exact hf.heap.apart i j h h' b hij (hs i h hi) (hs j h' hj)
theorem zn (htb:yc P tb) {fn:Func} {c:Code} (hf:P.funcs[f]?=some fn) (hb:fn.body=some c) (hn:(fn.name == "runtime.NumGoroutine")=false) (hnt:fn.ntmps=n) (hargs:args.length≤n) (rs:List ResultVar) (hrs:fn.results.toList=rs)
  {lone:Bool} (h:∀ g:Base,(lone=true→g.w1.heap.size=0)→AW P n g c (zaw 0 args) H (znf tb rs r H')):ACallM P f args H r H' lone:=by
 refine ⟨⟨fn,hf,by simp [hb],hn⟩,fun g0 K ρ w vs hw1 hfs0 hv=>?_⟩
 obtain ⟨g,hg0⟩:∃ g:Base,g=⟨g0.w0,g0.K0,g0.w1,[],g0.wp,g0.pr⟩:=⟨_,rfl⟩
 have hfs:FS g K ρ H w:=by subst hg0;exact ⟨hfs0.below,hfs0.old,hfs0.new,hfs0.lt,hfs0.others,⟨hfs0.pt.same,hfs0.pt.kept⟩,hfs0.away,hfs0.heap⟩
 refine calls_of_wp hf hb ?_
 have hlen:vs.length=args.length:=hv.1
 refine wp_mono (wpIn_wide.1 ((h g (by subst hg0;exact hw1)).go _ w ⟨by simp [hnt];omega,by subst hg0;rfl,K,ρ,hfs,?_⟩ none 0)) ?_
 ·intro t av hg
  obtain ⟨_,hp⟩:=WE args 0 t av hg
  have hlt:t < vs.length:=by rw [hlen];exact (List.getElem?_eq_some_iff.1 hp).1
  refine ⟨vs[t],?_,hv.2 t av _ hp (List.getElem?_eq_getElem hlt)⟩
  rw [Array.getElem?_append_left (by simpa using hlt)]
  simp [hlt]
 ·rintro e a' w' ⟨env1,H1,hi,he,hq⟩
  have key:∃ v K' ρ',(results fn a'.tmps).run P w'=.ok v w'∧a'.defers=[]∧FS g0 K' ρ' H' w'∧ARel K' w' ρ' H' r v:=by
   have back:∀ {K':KK} {ρ':Nat→Value},FS g K' ρ' H' w'→FS g0 K' ρ' H' w':=fun hf1=>by
    subst hg0;exact ⟨hf1.below,hf1.old,hf1.new,hf1.lt,hf1.others,⟨hf1.pt.same,hf1.pt.kept⟩,hf1.away,hf1.heap⟩
   rcases hq with ⟨ps,hps,rfl,hfit⟩|⟨t,ht,hget,hfit⟩
   ·obtain ⟨_,h2,K',ρ',hf',he0⟩:=hi
    obtain ⟨us,hrun,hru⟩:=VI htb hf' he0 hps
    have hi2:Inv n g [] H' a' w':=((⟨‹_›,h2,K',ρ',hf',he0⟩:Inv n g env1 H1 a' w').sub qO).hsub hfit
    have hres:(results fn a'.tmps).run P w'=.ok (if hh:us.toArray.size=1 then us.toArray[0] else .tuple us.toArray) w':=by
     unfold results
     rw [Array.mapM_eq_mapM_toList,hrs]
     simp only [Sem.run_bind,Sem.run_map]
     erw [hrun]
     rfl
    have hval:PRel K' w' (zl ps) (if hh:us.toArray.size=1 then us.toArray[0] else .tuple us.toArray):=by
     split
     ·rename_i hh
      have hl1:=hru.1
      have hu:us.length=1:=by simpa using hh
      obtain ⟨u,rfl⟩:=List.length_eq_one_iff.1 hu
      obtain ⟨p,rfl⟩:=List.length_eq_one_iff.1 (show ps.length=1 by omega)
      exact hru.2 0 p u (by simp) (by simp)
     ·rename_i hh
      simp at hh
      have:zl ps=.tup ps:=by
       unfold zl
       split
       ·rename_i p;exact absurd (by have:=hru.1;simpa using this) hh
       ·rfl
      rw [this]
      exact .tup ps us hru.1 hru.2
    have hf2:=FS.narrow hf' hfit
    exact ⟨_,K',ρ',hres,by rw [h2];subst hg0;rfl,back hf2,.pv _ _ hval⟩
   ·obtain ⟨h1,h2,K',ρ',hf',he0⟩:=hi
    obtain ⟨v,hv1,hv2⟩:=he0 t r hget
    have hf2:=FS.narrow hf' hfit
    have hin:=hfit.2
    simp only [Zz,Bool.and_eq_true] at hin
    have hres:(results fn a'.tmps).run P w'=.ok v w':=by
     unfold results
     rw [Array.mapM_eq_mapM_toList,hrs,ht]
     simp [Result.andThen,hv1]
    exact ⟨v,K',ρ',hres,by rw [h2];subst hg0;rfl,back hf2,hv2.refs hin.1.1⟩
  obtain ⟨v,K',ρ',hres,hd,hf',hr⟩:=key
  rcases he with rfl|rfl
  ·exact ⟨hd,_,hres,v,K',ρ',rfl,hf',hr⟩
  ·exact ⟨hd,_,hres,v,K',ρ',rfl,hf',hr⟩
def zu (us:Nat→Value) (ps:List Nat):HEnv:=ps.map fun i=>(1000 + i,.pin (.own i) (us i))
def YP (ps:List Nat):HEnv:=ps.map fun i=>(i,.dead)
def zjC (A:HEnv) (B:HEnv):Bool:=A.all fun x=>(B.get x.1).isNone
def qY (Hc Hc' R:HEnv) (ps:List Nat) (ars:List AV) (env2:Env) (r:AV):Bool :=
 zjC Hc R&&zjC Hc' R&&zch 1000 Hc&&zch 1000 Hc'&&qx Hc ars&&hIn Hc Hc&&hIn Hc' Hc'&&yE Hc' r&&hIn (R++YP ps) R&&Zz (R++YP ps) env2&&ps.all fun i=>(Hc.get i).isSome&&(Hc'.get i).isSome
theorem Zq {us:Nat→Value}:∀ {ps:List Nat} {i:Nat} {h:HE},HEnv.get (zu us ps) i=some h→1000≤i∧i - 1000∈ps∧h=.pin (.own (i - 1000)) (us (i - 1000))
 | [],i,h,hg=>by simp [zu,HEnv.get_nil] at hg
 | p::ps,i,h,hg=>by
  rw [zu,List.map_cons,HEnv.get_cons] at hg
  split at hg
  ·rename_i e;subst e
   simp only [Option.some.injEq] at hg;subst hg
   rw [Nat.add_sub_cancel_left];exact ⟨by omega,by simp,rfl⟩
  ·obtain ⟨h1,h2,h3⟩:=Zq (ps:=ps) hg
   exact ⟨h1,by simp [h2],h3⟩
theorem XO {us:Nat→Value}:∀ {ps:List Nat} {i:Nat},i∈ps→HEnv.get (zu us ps) (1000 + i)=some (.pin (.own i) (us i))
 | [],i,h=>by cases h
 | p::ps,i,h=>by
  rw [zu,List.map_cons,HEnv.get_cons]
  split
  ·rename_i e
   have:p=i:=by omega
   subst this;rfl
  ·rename_i e
   rcases List.mem_cons.1 h with rfl|h
   ·exact absurd rfl e
   ·exact XO h
theorem qJ {A B:HEnv} (h:zjC A B=true):∀ i x,A.get i=some x→B.get i=none:=by
 induction A with
 | nil=>intro i x hx;simp [HEnv.get_nil] at hx
 | cons y A ih =>
  intro i x hx
  obtain ⟨j,z⟩:=y
  simp only [zjC,List.all_cons,Bool.and_eq_true] at h
  rw [HEnv.get_cons] at hx
  split at hx
  ·rename_i e;subst e;simpa using h.1
  ·exact ih h.2 i x hx
theorem QB {ps:List Nat} {i:Nat} (h:(HEnv.get (YP ps) i).isSome=true):i∈ps:=by
 induction ps with
 | nil=>simp [YP,HEnv.get_nil] at h
 | cons p ps ih =>
  rw [YP,List.map_cons,HEnv.get_cons] at h
  split at h
  ·rename_i e;simp [e]
  ·simp [ih h]
theorem yK {w w':World} {B e sz n:Nat} {v:Value} {xs:List Value} (h:w.ownsRow B e sz v n xs) (hb:∀ b,zq v=some b→w'.heap[b]?=w.heap[b]?):w'.ownsRow B e sz v n xs:=by
 obtain ⟨h1,h2⟩:=h
 refine ⟨h1,h2.imp id ?_⟩
 rintro ⟨g,cap,cur,a,b,c,d⟩
 exact ⟨g,cap,cur,a,b,by rw [hb g (by rw [a];rfl)];exact c,d⟩
theorem qh {w:World} {B e sz n:Nat} {v:Value} {xs:List Value} (h:w.ownsRow B e sz v n xs) (b:Nat):zq v=some b↔v.ownBlock=some b:=by
 rcases h.2 with ⟨rfl,_⟩|⟨_,_,_,rfl,_⟩ <;> simp [zq,Value.ownBlock]
theorem yt {xs:Array Operand} {ts:Array TypeId} {d:Tmp} {ars:List AV} (Hc Hc' R:HEnv) (env2:Env) {lone:Bool} (ps:List Nat) (hw1:lone=true→g.w1.heap.size=0) (hg:guardE ops env o=some true)
  (hop:o.op=.call { callee:=.value (.func f),args:=xs,argTypes:=ts }) (hargs:avs env xs.toList=some ars) (hsub:HSub H (Hc++R)) (hs:Sub env env2) (hd:o.dst=some d) (hdt:Nat.blt d n=true)
  (hchk:qY Hc Hc' R ps ars env2 r=true) (hc:∀ us,ACallM P f ars (Hc++zu us ps) r (Hc'++zu us ps) lone)
  (h:AO P n g ops.toArray rest ((d,r)::env2) (Hc'++R) Q):AO P n g ops.toArray (o::rest) env H Q:=by
 simp only [qY,Bool.and_eq_true] at hchk
 obtain ⟨⟨⟨⟨⟨⟨⟨⟨⟨⟨d1,d2⟩,d3⟩,d4⟩,i1⟩,i2⟩,i3⟩,i4⟩,i5⟩,i6⟩,i7⟩:=hchk
 have i7':∀ i∈ps,(Hc.get i).isSome=true∧(Hc'.get i).isSome=true:=fun i hi=>by simpa using List.all_eq_true.1 i7 i hi
 refine ⟨fun a w hinv=>?_⟩
 have hw:=yh hinv hg
 obtain ⟨h1,h2,K,ρ,hf,he⟩:=hinv
 refine wpList_step fun KK hKK=>?_
 rw [if_pos hw]
 have hlatR:Later K K w w:=.refl K w
 have gC:∀ i x,Hc.get i=some x→H.get i=some x:=fun i x hx=>hsub i x (by rw [get_append,hx])
 have gR:∀ i x,R.get i=some x→H.get i=some x:=fun i x hx=>hsub i x (by
  rw [get_append]
  cases hh:Hc.get i with
  | none=>exact hx
  | some y=>rw [qJ d1 i y hh] at hx;cases hx)
 have nC:∀ i x,R.get i=some x→Hc.get i=none:=fun i x hx=>by
  cases hh:Hc.get i with
  | none=>rfl
  | some y=>rw [qJ d1 i y hh] at hx;cases hx
 have nC':∀ i x,R.get i=some x→Hc'.get i=none:=fun i x hx=>by
  cases hh:Hc'.get i with
  | none=>rfl
  | some y=>rw [qJ d2 i y hh] at hx;cases hx
 have hpinC:∀ {A:HEnv} {us:Nat→Value} {i:Nat} {x:HE},HEnv.get (A++zu us ps) i=some x→x.live=true→A.get i=some x:=by
  intro A us i x hx hl
  rw [get_append] at hx
  cases hh:A.get i with
  | some z=>rw [hh] at hx;exact hx
  | none =>
   rw [hh] at hx
   obtain ⟨_,_,rfl⟩:=Zq hx
   simp [HE.live] at hl
 obtain ⟨g',hg'⟩:∃ g':Base,g'=⟨g.w0,K,g.w1,g.ds,w,fun b=>g.pr b∨∃ i x,R.get i=some x∧x.live=true∧zq (ρ i)=some b⟩:=⟨_,rfl⟩
 have hfs:FS g' K ρ (Hc++zu ρ ps) w:=by
  subst hg'
  refine ⟨hf.below,fun _ _ h=>h,fun _ _ h=>.inl h,hf.lt,hf.others,⟨?_,fun _ _ _=>rfl⟩,?_,?_,?_⟩
  ·rintro b (hb|⟨i,x,hi,hl,hb⟩)
   ·exact ⟨(hf.pt.same b hb).1,rfl,fun _=>Iff.rfl⟩
   ·exact ⟨((hf.heap.ok i x (gR i x hi)).block_lt hl hb).2,rfl,fun _=>Iff.rfl⟩
  ·intro i x b hi hl hb
   have hC:=hpinC hi hl
   rintro (hp|⟨j,y,hj,hly,hbj⟩)
   ·exact hf.away i x b (gC i x hC) hl hb hp
   ·have hne:i≠j:=by rintro rfl;rw [nC i y hj] at hC;cases hC
    exact hf.heap.apart i j x y b hne (gC i x hC) (gR j y hj) hl hly hb hbj
  ·intro i x hi
   rw [get_append] at hi
   cases hh:Hc.get i with
   | some y =>
    rw [hh] at hi;simp only [Option.some.injEq] at hi;subst hi
    have hok:=hf.heap.ok i y (gC i y hh)
    have hk:∀ j,(HEnv.get Hc j).isSome=true→(HEnv.get (Hc++zu ρ ps) j).isSome=true∧ρ j=ρ j:=fun j hj=>⟨zF j hj,rfl⟩
    cases y with
    | cell v=>obtain ⟨b,t,arr,u,q1,q2,q3,q4,q5,q6⟩:=hok;exact ⟨b,t,arr,u,q1,q2,q3,(q4.refs (qR i2 i v hh)).keeps hlatR hk,q5,q6⟩
    | pin v u=>exact (ARel.refs hok (yR i2 i v u hh)).keeps hlatR hk
    | row t sz es=>exact hok
    | mrow t sz es=>exact hok
    | dead=>exact hok
    | obj X=>exact hok
   | none =>
    rw [hh] at hi
    obtain ⟨q1,q2,rfl⟩:=Zq hi
    exact .own _ (zF _ (i7' _ q2).1)
  ·intro i j x y b hij hi hj lx ly bx bj
   exact hf.heap.apart i j x y b hij (gC i x (hpinC hi lx)) (gC j y (hpinC hj ly)) lx ly bx bj
 have hpa:=VT (a:=a) he hargs
 have hall:Qj K w ρ (Hc++zu ρ ps) ars (xs.toList.map a.eval) :=
  ⟨hpa.1,fun k c v hc hv=>((hpa.2 k c v hc hv).refs (yg i1 k c hc)).keeps hlatR fun j hj=>⟨zF j hj,rfl⟩⟩
 have hrun:(execOp a.eval o).run P w=.ok (.enter f (xs.toList.map a.eval).toArray) w:=by
  have e:(xs.toList.map a.eval).toArray=xs.map a.eval:=by rw [←Array.toList_map,Array.toArray_toList]
  rw [e]
  simp [execOp,hop,resolve,Act.eval,Deferred.ofValue,invoke,Zd (hc ρ).stands]
 unfold Oper.wp
 rw [hrun]
 simp only [Oper.upon]
 refine ((hc ρ).calls g' K ρ w _ (by subst hg';exact hw1) hfs hall).mono fun e w' ⟨v,K',ρ',e1,hf',hv⟩=>?_
 subst e1
 have hlat:Later K K' w w':=by subst hg';exact ⟨hf'.old,hf'.pt.kept⟩
 have hprot:∀ b,(g.pr b∨∃ i x,R.get i=some x∧x.live=true∧zq (ρ i)=some b)→b < w'.heap.size∧w'.heap[b]?=w.heap[b]?∧∀ o,K' b o↔K b o:=by subst hg';exact hf'.pt.same
 have haway:∀ i x b,Hc'.get i=some x→x.live=true→zq (ρ' i)=some b→¬ (g.pr b∨∃ i x,R.get i=some x∧x.live=true∧zq (ρ i)=some b):=by
  subst hg';exact fun i x b hi=>hf'.away i x b (by rw [get_append,hi])
 obtain ⟨ρ2,hρ2⟩:∃ ρ2:Nat→Value,∀ j,ρ2 j=if (Hc'.get j).isSome then ρ' j else ρ j:=⟨_,fun _=>rfl⟩
 have r1:∀ j,(Hc'.get j).isSome=true→ρ2 j=ρ' j:=fun j hj=>by rw [hρ2,if_pos hj]
 have r2:∀ j,Hc'.get j=none→ρ2 j=ρ j:=fun j hj=>by rw [hρ2,hj];rfl
 have hkC:∀ j,(HEnv.get Hc' j).isSome=true→(HEnv.get (Hc'++R) j).isSome=true∧ρ2 j=ρ' j:=fun j hj=>⟨zF j hj,r1 j hj⟩
 have hps:∀ i∈ps,ρ' i=ρ i:=fun i hi=>by
  have hnone:Hc'.get (1000 + i)=none:=by
   cases hh:Hc'.get (1000 + i) with
   | none=>rfl
   | some x=>have:=YK d4 _ x hh;omega
  have:=hf'.heap.ok (1000 + i) _ (by rw [get_append,hnone];exact XO hi)
  have this:ARel K' w' ρ' (Hc'++zu ρ ps) (.own i) (ρ i):=this
  generalize hu:ρ i=u at this
  cases this with
  | own _ _=>rfl
 have hkR:∀ j,(HEnv.get (R++YP ps) j).isSome=true→(HEnv.get (Hc'++R) j).isSome=true∧ρ2 j=ρ j:=fun j hj=>by
  rw [get_append] at hj
  cases hh:R.get j with
  | some x =>
   have hn:=nC' j x hh
   exact ⟨by rw [get_append,hn,hh];rfl,r2 j hn⟩
  | none =>
   rw [hh] at hj
   have hm:=QB hj
   have hs':=(i7' j hm).2
   exact ⟨zF j hs',by rw [r1 j hs',hps j hm]⟩
 have hfs2:FS g K' ρ2 (Hc'++R) w':=by
  have b1:Below g.w0.heap.size g.w0 w':=by subst hg';exact hf'.below
  have b3:∀ b o,K' b o→K b o∨g.w0.heap.size≤b:=by subst hg';exact hf'.new
  have b5:KeepsOthers g.w1 w':=by subst hg';exact hf'.others
  have bB:HRel K' w' g.w0.heap.size ρ' (Hc'++zu ρ ps):=by subst hg';exact hf'.heap
  refine ⟨b1,fun b o h=>hlat.sub b o (hf.old b o h),fun b o hk=>(b3 b o hk).elim (hf.new b o) .inr,hf'.lt,b5,⟨fun b hb=>?_,fun b o h0=>(hlat.cell b o (hf.old b o h0)).trans (hf.pt.kept b o h0)⟩,fun i x b hi hl hb=>?_,fun i x hi=>?_,fun i j x y b hij hi hj lx ly bx bj=>?_⟩
  ·obtain ⟨p1,p2,p3⟩:=hprot b (.inl hb)
   obtain ⟨q1,q2,q3⟩:=hf.pt.same b hb
   exact ⟨p1,p2.trans q2,fun o=>(p3 o).trans (q3 o)⟩
  ·rw [get_append] at hi
   cases hh:Hc'.get i with
   | some y =>
    rw [hh] at hi;simp only [Option.some.injEq] at hi;subst hi
    rw [r1 i (by rw [hh];rfl)] at hb
    exact fun hp=>haway i y b hh hl hb (.inl hp)
   | none =>
    rw [hh] at hi
    rw [r2 i hh] at hb
    exact hf.away i x b (gR i x hi) hl hb
  ·rw [get_append] at hi
   cases hh:Hc'.get i with
   | some y =>
    rw [hh] at hi;simp only [Option.some.injEq] at hi;subst hi
    rw [r1 i (by rw [hh];rfl)]
    have hok:=bB.ok i y (by rw [get_append,hh])
    have hl':=Later.refl K' w'
    cases y with
    | cell v=>obtain ⟨b,t,arr,u,q1,q2,q3,q4,q5,q6⟩:=hok;exact ⟨b,t,arr,u,q1,q2,q3,(q4.refs (qR i3 i v hh)).keeps hl' hkC,q5,q6⟩
    | pin v u=>exact (ARel.refs hok (yR i3 i v u hh)).keeps hl' hkC
    | row t sz es=>exact hok
    | mrow t sz es=>exact hok
    | dead=>exact hok
    | obj X=>exact hok
   | none =>
    rw [hh] at hi
    rw [r2 i hh]
    have hok:=hf.heap.ok i x (gR i x hi)
    have hsame:x.live=true→∀ b,zq (ρ i)=some b→w'.heap[b]?=w.heap[b]?∧∀ o,K' b o↔K b o:=fun hl b hb=>(hprot b (.inr ⟨i,x,hi,hl,hb⟩)).2
    cases x with
    | cell v =>
     obtain ⟨b,t,arr,u,q1,q2,q3,q4,q5,q6⟩:=hok
     obtain ⟨s1,s2⟩:=hsame rfl b (by rw [q1];rfl)
     exact ⟨b,t,arr,u,q1,q2,by rw [s1];exact q3,(q4.refs (qR i5 i v hi)).keeps hlat hkR,q5,fun o hk=>q6 o ((s2 o).1 hk)⟩
    | pin v u=>exact (ARel.refs hok (yR i5 i v u hi)).keeps hlat hkR
    | row t sz es =>
     obtain ⟨xs,q1,q2,q3,q4⟩:=hok
     refine ⟨xs,yK q1 fun b hb=>(hsame rfl b hb).1,q2,fun k e he=>?_,fun b hb o=>?_⟩
     ·obtain ⟨c1,c2⟩:=q3 k e he
      exact ⟨c1,fun k c hc=>let ⟨v,h4,h5,h6⟩:=c2 k c hc;⟨v,h4,h5,h6.later hlat⟩⟩
     ·rw [(hsame rfl b ((qh q1 b).2 hb)).2 o];exact q4 b hb o
    | mrow t sz es =>
     obtain ⟨xs,q1,q2,q3,q4⟩:=hok
     refine ⟨xs,yK q1 fun b hb=>(hsame rfl b hb).1,q2,fun k e he=>?_,fun b hb o hk=>?_⟩
     ·obtain ⟨c1,c2⟩:=q3 k e he
      exact ⟨c1,fun k c hc=>let ⟨v,h4,h5,h6⟩:=c2 k c hc;⟨v,h4,h5,h6.later hlat⟩⟩
     ·exact q4 b hb o (((hsame rfl b ((qh q1 b).2 hb)).2 o).1 hk)
    | dead=>trivial
    | obj X =>
     obtain ⟨b,ob,q1,q2,q3,q4,q5⟩:=hok
     obtain ⟨s1,s2⟩:=hsame rfl b (by rw [q1];rfl)
     exact ⟨b,ob,q1,q2,by rw [s1];exact q3,q4,fun o hk=>q5 o ((s2 o).1 hk)⟩
  ·rw [get_append] at hi hj
   cases hhi:Hc'.get i with
   | some x' =>
    rw [hhi] at hi;simp only [Option.some.injEq] at hi;subst hi
    rw [r1 i (by rw [hhi];rfl)] at bx
    cases hhj:Hc'.get j with
    | some y' =>
     rw [hhj] at hj;simp only [Option.some.injEq] at hj;subst hj
     rw [r1 j (by rw [hhj];rfl)] at bj
     exact bB.apart i j x' y' b hij (by rw [get_append,hhi]) (by rw [get_append,hhj]) lx ly bx bj
    | none =>
     rw [hhj] at hj;rw [r2 j hhj] at bj
     exact haway i x' b hhi lx bx (.inr ⟨j,y,hj,ly,bj⟩)
   | none =>
    rw [hhi] at hi;rw [r2 i hhi] at bx
    cases hhj:Hc'.get j with
    | some y' =>
     rw [hhj] at hj;simp only [Option.some.injEq] at hj;subst hj
     rw [r1 j (by rw [hhj];rfl)] at bj
     exact haway j y' b hhj ly bj (.inr ⟨i,x,hi,lx,bx⟩)
    | none =>
     rw [hhj] at hj;rw [r2 j hhj] at bj
     exact hf.heap.apart i j x y b hij (gR i x hi) (gR j y hj) lx ly bx bj
 have he2:EnvR K' w' ρ2 (Hc'++R) env2 a.tmps:=fun t av ht=>by
  obtain ⟨u,u1,u2⟩:=he t av (hs t av ht)
  exact ⟨u,u1,(u2.refs (YI i6 t av ht)).keeps hlat hkR⟩
 refine hKK _ _ (h.go _ _ ⟨yB h1,put_defers h2,K',ρ2,hfs2,?_⟩)
 rw [hd]
 exact yY h1 hdt he2 ((hv.refs i4).keeps (Later.refl K' w') hkC)
end
theorem zU {P:Prop}:false=true→P:=fun h=>nomatch h
structure AOX (P:Program) (n:Nat) (g:Base) (ops:Array Oper) (l:List Oper) (env:Env) (H:HEnv) (Q:QC):Prop where
 go:∀ a w,Inv n g env H a w→wpList P ops (fun e a' w'=>∃ env' H',Inv n g env' H' a' w'∧(e=.normal∨∃ ch,e=.panic ch)∧Q e env' H') l a w
section
variable {P:Program} {tb:Tab} {n:Nat} {g:Base} {K K':KK} {w w':World} {ρ ρ':Nat→Value} {H H':HEnv} {env:Env} {a:Act} {ops:List Oper} {o:Oper} {rest:List Oper} {Q:Env→HEnv→Prop} {f:FuncId} {args:List AV} {r:AV} {QQ:QC}
theorem Qa {l:List Oper} (h:AO P n g ops.toArray l env H (fun env' H'=>QQ .normal env' H')):AOX P n g ops.toArray l env H QQ :=
 ⟨fun a w hi=>ql (fun _ _ _ ⟨env',H',h1,h2,h3⟩=>⟨env',H',h1,.inl h2,by rw [h2];exact h3⟩) (h.go a w hi)⟩
theorem zhg:¬ LetsOut (fun e a w=>∃ env' H',Inv n g env' H' a w∧(e=.normal∨∃ ch,e=.panic ch)∧QQ e env' H'):=fun ⟨_,_,_,_,_,hx,_⟩=>by rcases hx with hx|⟨_,hx⟩ <;> cases hx
end
section
variable {P:Program} {tb:Tab} {n:Nat} {H H':HEnv} {f:FuncId} {args:List AV}
end
structure ACallU {ι:Type} (P:Program) (f:FuncId) (args:List AV) (H:HEnv) (r:ι→AV) (H':ι→HEnv) (lone:Bool:=false):Prop where
 stands:Ve P f
 calls:∀ (g:Base) (K:KK) (ρ:Nat→Value) (w:World) (vs:List Value),(lone=true→g.w1.heap.size=0)→FS g K ρ H w→Qj K w ρ H args vs →
  Calls P f vs.toArray w fun e w'=>∃ v K' ρ' u,e=.returned v∧FS g K' ρ' (H' u) w'∧ARel K' w' ρ' (H' u) (r u) v
section
variable {P:Program} {tb:Tab} {n:Nat} {g:Base} {K K':KK} {w w':World} {ρ ρ':Nat→Value} {H:HEnv} {env:Env} {a:Act} {ops:List Oper} {o:Oper} {rest:List Oper} {Q:Env→HEnv→Prop} {f:FuncId} {args:List AV}
theorem zK {ι:Type} {r:ι→AV} {H':ι→HEnv} (htb:yc P tb) {fn:Func} {c:Code} (hf:P.funcs[f]?=some fn) (hb:fn.body=some c) (hn:(fn.name == "runtime.NumGoroutine")=false) (hnt:fn.ntmps=n) (hargs:args.length≤n) (rs:List ResultVar) (hrs:fn.results.toList=rs)
  {lone:Bool} (h:∀ g:Base,(lone=true→g.w1.heap.size=0)→AW P n g c (zaw 0 args) H (fun ex env1 H1=>∃ u,znf tb rs (r u) (H' u) ex env1 H1)):ACallU P f args H r H' lone:=by
 refine ⟨⟨fn,hf,by simp [hb],hn⟩,fun g0 K ρ w vs hw1 hfs0 hv=>?_⟩
 obtain ⟨g,hg0⟩:∃ g:Base,g=⟨g0.w0,g0.K0,g0.w1,[],g0.wp,g0.pr⟩:=⟨_,rfl⟩
 have hfs:FS g K ρ H w:=by subst hg0;exact ⟨hfs0.below,hfs0.old,hfs0.new,hfs0.lt,hfs0.others,⟨hfs0.pt.same,hfs0.pt.kept⟩,hfs0.away,hfs0.heap⟩
 refine calls_of_wp hf hb ?_
 have hlen:vs.length=args.length:=hv.1
 refine wp_mono (wpIn_wide.1 ((h g (by subst hg0;exact hw1)).go _ w ⟨by simp [hnt];omega,by subst hg0;rfl,K,ρ,hfs,?_⟩ none 0)) ?_
 ·intro t av hg
  obtain ⟨_,hp⟩:=WE args 0 t av hg
  have hlt:t < vs.length:=by rw [hlen];exact (List.getElem?_eq_some_iff.1 hp).1
  refine ⟨vs[t],?_,hv.2 t av _ hp (List.getElem?_eq_getElem hlt)⟩
  rw [Array.getElem?_append_left (by simpa using hlt)]
  simp [hlt]
 ·rintro e a' w' ⟨env1,H1,hi,u0,he,hq⟩
  have key:∃ v K' ρ',(results fn a'.tmps).run P w'=.ok v w'∧a'.defers=[]∧FS g0 K' ρ' (H' u0) w'∧ARel K' w' ρ' (H' u0) (r u0) v:=by
   have back:∀ {K':KK} {ρ':Nat→Value},FS g K' ρ' (H' u0) w'→FS g0 K' ρ' (H' u0) w':=fun hf1=>by
    subst hg0;exact ⟨hf1.below,hf1.old,hf1.new,hf1.lt,hf1.others,⟨hf1.pt.same,hf1.pt.kept⟩,hf1.away,hf1.heap⟩
   rcases hq with ⟨ps,hps,hr0,hfit⟩|⟨t,ht,hget,hfit⟩
   ·obtain ⟨_,h2,K',ρ',hf',he0⟩:=hi
    obtain ⟨us,hrun,hru⟩:=VI htb hf' he0 hps
    have hi2:Inv n g [] (H' u0) a' w':=((⟨‹_›,h2,K',ρ',hf',he0⟩:Inv n g env1 H1 a' w').sub qO).hsub hfit
    have hres:(results fn a'.tmps).run P w'=.ok (if hh:us.toArray.size=1 then us.toArray[0] else .tuple us.toArray) w':=by
     unfold results
     rw [Array.mapM_eq_mapM_toList,hrs]
     simp only [Sem.run_bind,Sem.run_map]
     erw [hrun]
     rfl
    have hval:PRel K' w' (zl ps) (if hh:us.toArray.size=1 then us.toArray[0] else .tuple us.toArray):=by
     split
     ·rename_i hh
      have hl1:=hru.1
      have hu:us.length=1:=by simpa using hh
      obtain ⟨u,rfl⟩:=List.length_eq_one_iff.1 hu
      obtain ⟨p,rfl⟩:=List.length_eq_one_iff.1 (show ps.length=1 by omega)
      exact hru.2 0 p u (by simp) (by simp)
     ·rename_i hh
      simp at hh
      have:zl ps=.tup ps:=by
       unfold zl
       split
       ·rename_i p;exact absurd (by have:=hru.1;simpa using this) hh
       ·rfl
      rw [this]
      exact .tup ps us hru.1 hru.2
    have hf2:=FS.narrow hf' hfit
    exact ⟨_,K',ρ',hres,by rw [h2];subst hg0;rfl,back hf2,by rw [hr0];exact .pv _ _ hval⟩
   ·obtain ⟨h1,h2,K',ρ',hf',he0⟩:=hi
    obtain ⟨v,hv1,hv2⟩:=he0 t (r u0) hget
    have hf2:=FS.narrow hf' hfit
    have hin:=hfit.2
    simp only [Zz,Bool.and_eq_true] at hin
    have hres:(results fn a'.tmps).run P w'=.ok v w':=by
     unfold results
     rw [Array.mapM_eq_mapM_toList,hrs,ht]
     simp [Result.andThen,hv1]
    exact ⟨v,K',ρ',hres,by rw [h2];subst hg0;rfl,back hf2,hv2.refs hin.1.1⟩
  obtain ⟨v,K',ρ',hres,hd,hf',hr⟩:=key
  rcases he with rfl|rfl
  ·exact ⟨hd,_,hres,v,K',ρ',u0,rfl,hf',hr⟩
  ·exact ⟨hd,_,hres,v,K',ρ',u0,rfl,hf',hr⟩
theorem Yp {ι:Type} [Inhabited ι] {r:ι→AV} {xs:Array Operand} {ts:Array TypeId} {d:Tmp} {ars:List AV} (Hc:HEnv) (Hc':ι→HEnv) (R:HEnv) (env2:Env) {lone:Bool} (ps:List Nat) (hw1:lone=true→g.w1.heap.size=0) (hg:guardE ops env o=some true)
  (hop:o.op=.call { callee:=.value (.func f),args:=xs,argTypes:=ts }) (hargs:avs env xs.toList=some ars) (hsub:HSub H (Hc++R)) (hs:Sub env env2) (hd:o.dst=some d) (hdt:Nat.blt d n=true)
  (hchk:∀ u,qY Hc (Hc' u) R ps ars env2 (r u)=true) (hc:∀ us,ACallU P f ars (Hc++zu us ps) r (fun u=>Hc' u++zu us ps) lone)
  (h:∀ u,AO P n g ops.toArray rest ((d,r u)::env2) (Hc' u++R) Q):AO P n g ops.toArray (o::rest) env H Q:=by
 have hchk0:=hchk default
 simp only [qY,Bool.and_eq_true] at hchk0
 obtain ⟨⟨⟨⟨⟨⟨⟨⟨⟨⟨d1,_⟩,d3⟩,_⟩,i1⟩,i2⟩,_⟩,_⟩,i5⟩,i6⟩,i7a⟩:=hchk0
 have i7':∀ i∈ps,(Hc.get i).isSome=true∧((Hc' default).get i).isSome=true:=fun i hi=>by simpa using List.all_eq_true.1 i7a i hi
 refine ⟨fun a w hinv=>?_⟩
 have hw:=yh hinv hg
 obtain ⟨h1,h2,K,ρ,hf,he⟩:=hinv
 refine wpList_step fun KK hKK=>?_
 rw [if_pos hw]
 have hlatR:Later K K w w:=.refl K w
 have gC:∀ i x,Hc.get i=some x→H.get i=some x:=fun i x hx=>hsub i x (by rw [get_append,hx])
 have gR:∀ i x,R.get i=some x→H.get i=some x:=fun i x hx=>hsub i x (by
  rw [get_append]
  cases hh:Hc.get i with
  | none=>exact hx
  | some y=>rw [qJ d1 i y hh] at hx;cases hx)
 have nC:∀ i x,R.get i=some x→Hc.get i=none:=fun i x hx=>by
  cases hh:Hc.get i with
  | none=>rfl
  | some y=>rw [qJ d1 i y hh] at hx;cases hx
 have hpinC:∀ {A:HEnv} {us:Nat→Value} {i:Nat} {x:HE},HEnv.get (A++zu us ps) i=some x→x.live=true→A.get i=some x:=by
  intro A us i x hx hl
  rw [get_append] at hx
  cases hh:A.get i with
  | some z=>rw [hh] at hx;exact hx
  | none =>
   rw [hh] at hx
   obtain ⟨_,_,rfl⟩:=Zq hx
   simp [HE.live] at hl
 obtain ⟨g',hg'⟩:∃ g':Base,g'=⟨g.w0,K,g.w1,g.ds,w,fun b=>g.pr b∨∃ i x,R.get i=some x∧x.live=true∧zq (ρ i)=some b⟩:=⟨_,rfl⟩
 have hfs:FS g' K ρ (Hc++zu ρ ps) w:=by
  subst hg'
  refine ⟨hf.below,fun _ _ h=>h,fun _ _ h=>.inl h,hf.lt,hf.others,⟨?_,fun _ _ _=>rfl⟩,?_,?_,?_⟩
  ·rintro b (hb|⟨i,x,hi,hl,hb⟩)
   ·exact ⟨(hf.pt.same b hb).1,rfl,fun _=>Iff.rfl⟩
   ·exact ⟨((hf.heap.ok i x (gR i x hi)).block_lt hl hb).2,rfl,fun _=>Iff.rfl⟩
  ·intro i x b hi hl hb
   have hC:=hpinC hi hl
   rintro (hp|⟨j,y,hj,hly,hbj⟩)
   ·exact hf.away i x b (gC i x hC) hl hb hp
   ·have hne:i≠j:=by rintro rfl;rw [nC i y hj] at hC;cases hC
    exact hf.heap.apart i j x y b hne (gC i x hC) (gR j y hj) hl hly hb hbj
  ·intro i x hi
   rw [get_append] at hi
   cases hh:Hc.get i with
   | some y =>
    rw [hh] at hi;simp only [Option.some.injEq] at hi;subst hi
    have hok:=hf.heap.ok i y (gC i y hh)
    have hk:∀ j,(HEnv.get Hc j).isSome=true→(HEnv.get (Hc++zu ρ ps) j).isSome=true∧ρ j=ρ j:=fun j hj=>⟨zF j hj,rfl⟩
    cases y with
    | cell v=>obtain ⟨b,t,arr,u,q1,q2,q3,q4,q5,q6⟩:=hok;exact ⟨b,t,arr,u,q1,q2,q3,(q4.refs (qR i2 i v hh)).keeps hlatR hk,q5,q6⟩
    | pin v u=>exact (ARel.refs hok (yR i2 i v u hh)).keeps hlatR hk
    | row t sz es=>exact hok
    | mrow t sz es=>exact hok
    | dead=>exact hok
    | obj X=>exact hok
   | none =>
    rw [hh] at hi
    obtain ⟨q1,q2,rfl⟩:=Zq hi
    exact .own _ (zF _ (i7' _ q2).1)
  ·intro i j x y b hij hi hj lx ly bx bj
   exact hf.heap.apart i j x y b hij (gC i x (hpinC hi lx)) (gC j y (hpinC hj ly)) lx ly bx bj
 have hpa:=VT (a:=a) he hargs
 have hall:Qj K w ρ (Hc++zu ρ ps) ars (xs.toList.map a.eval) :=
  ⟨hpa.1,fun k c v hc hv=>((hpa.2 k c v hc hv).refs (yg i1 k c hc)).keeps hlatR fun j hj=>⟨zF j hj,rfl⟩⟩
 have hrun:(execOp a.eval o).run P w=.ok (.enter f (xs.toList.map a.eval).toArray) w:=by
  have e:(xs.toList.map a.eval).toArray=xs.map a.eval:=by rw [←Array.toList_map,Array.toArray_toList]
  rw [e]
  simp [execOp,hop,resolve,Act.eval,Deferred.ofValue,invoke,Zd (hc ρ).stands]
 unfold Oper.wp
 rw [hrun]
 simp only [Oper.upon]
 refine ((hc ρ).calls g' K ρ w _ (by subst hg';exact hw1) hfs hall).mono fun e w' ⟨v,K',ρ',u0,e1,hf',hv⟩=>?_
 obtain ⟨Hq,hHq⟩:∃ X,X=Hc' u0:=⟨_,rfl⟩
 rw [←hHq] at hf'
 have hchk2:=hchk u0
 have h2q:=h u0
 rw [←hHq] at hchk2 h2q
 have hv:ARel K' w' ρ' (Hq++zu ρ ps) (r u0) v:=by rw [hHq];exact hv
 simp only [qY,Bool.and_eq_true] at hchk2
 obtain ⟨⟨⟨⟨⟨⟨⟨⟨⟨⟨_,d2⟩,_⟩,d4⟩,_⟩,_⟩,i3⟩,i4⟩,_⟩,_⟩,i7⟩:=hchk2
 have i7':∀ i∈ps,(Hc.get i).isSome=true∧(Hq.get i).isSome=true:=fun i hi=>by simpa using List.all_eq_true.1 i7 i hi
 have nC':∀ i x,R.get i=some x→Hq.get i=none:=fun i x hx=>by
  cases hh:Hq.get i with
  | none=>rfl
  | some y=>rw [qJ d2 i y hh] at hx;cases hx
 subst e1
 have hlat:Later K K' w w':=by subst hg';exact ⟨hf'.old,hf'.pt.kept⟩
 have hprot:∀ b,(g.pr b∨∃ i x,R.get i=some x∧x.live=true∧zq (ρ i)=some b)→b < w'.heap.size∧w'.heap[b]?=w.heap[b]?∧∀ o,K' b o↔K b o:=by subst hg';exact hf'.pt.same
 have haway:∀ i x b,Hq.get i=some x→x.live=true→zq (ρ' i)=some b→¬ (g.pr b∨∃ i x,R.get i=some x∧x.live=true∧zq (ρ i)=some b):=by
  subst hg';exact fun i x b hi=>hf'.away i x b (by rw [get_append,hi])
 obtain ⟨ρ2,hρ2⟩:∃ ρ2:Nat→Value,∀ j,ρ2 j=if (Hq.get j).isSome then ρ' j else ρ j:=⟨_,fun _=>rfl⟩
 have r1:∀ j,(Hq.get j).isSome=true→ρ2 j=ρ' j:=fun j hj=>by rw [hρ2,if_pos hj]
 have r2:∀ j,Hq.get j=none→ρ2 j=ρ j:=fun j hj=>by rw [hρ2,hj];rfl
 have hkC:∀ j,(HEnv.get Hq j).isSome=true→(HEnv.get (Hq++R) j).isSome=true∧ρ2 j=ρ' j:=fun j hj=>⟨zF j hj,r1 j hj⟩
 have hps:∀ i∈ps,ρ' i=ρ i:=fun i hi=>by
  have hnone:Hq.get (1000 + i)=none:=by
   cases hh:Hq.get (1000 + i) with
   | none=>rfl
   | some x=>have:=YK d4 _ x hh;omega
  have:=hf'.heap.ok (1000 + i) _ (by rw [get_append,hnone];exact XO hi)
  have this:ARel K' w' ρ' (Hq++zu ρ ps) (.own i) (ρ i):=this
  generalize hu:ρ i=u at this
  cases this with
  | own _ _=>rfl
 have hkR:∀ j,(HEnv.get (R++YP ps) j).isSome=true→(HEnv.get (Hq++R) j).isSome=true∧ρ2 j=ρ j:=fun j hj=>by
  rw [get_append] at hj
  cases hh:R.get j with
  | some x =>
   have hn:=nC' j x hh
   exact ⟨by rw [get_append,hn,hh];rfl,r2 j hn⟩
  | none =>
   rw [hh] at hj
   have hm:=QB hj
   have hs':=(i7' j hm).2
   exact ⟨zF j hs',by rw [r1 j hs',hps j hm]⟩
 have hfs2:FS g K' ρ2 (Hq++R) w':=by
  have b1:Below g.w0.heap.size g.w0 w':=by subst hg';exact hf'.below
  have b3:∀ b o,K' b o→K b o∨g.w0.heap.size≤b:=by subst hg';exact hf'.new
  have b5:KeepsOthers g.w1 w':=by subst hg';exact hf'.others
  have bB:HRel K' w' g.w0.heap.size ρ' (Hq++zu ρ ps):=by subst hg';exact hf'.heap
  refine ⟨b1,fun b o h=>hlat.sub b o (hf.old b o h),fun b o hk=>(b3 b o hk).elim (hf.new b o) .inr,hf'.lt,b5,⟨fun b hb=>?_,fun b o h0=>(hlat.cell b o (hf.old b o h0)).trans (hf.pt.kept b o h0)⟩,fun i x b hi hl hb=>?_,fun i x hi=>?_,fun i j x y b hij hi hj lx ly bx bj=>?_⟩
  ·obtain ⟨p1,p2,p3⟩:=hprot b (.inl hb)
   obtain ⟨q1,q2,q3⟩:=hf.pt.same b hb
   exact ⟨p1,p2.trans q2,fun o=>(p3 o).trans (q3 o)⟩
  ·rw [get_append] at hi
   cases hh:Hq.get i with
   | some y =>
    rw [hh] at hi;simp only [Option.some.injEq] at hi;subst hi
    rw [r1 i (by rw [hh];rfl)] at hb
    exact fun hp=>haway i y b hh hl hb (.inl hp)
   | none =>
    rw [hh] at hi
    rw [r2 i hh] at hb
    exact hf.away i x b (gR i x hi) hl hb
  ·rw [get_append] at hi
   cases hh:Hq.get i with
   | some y =>
    rw [hh] at hi;simp only [Option.some.injEq] at hi;subst hi
    rw [r1 i (by rw [hh];rfl)]
    have hok:=bB.ok i y (by rw [get_append,hh])
    have hl':=Later.refl K' w'
    cases y with
    | cell v=>obtain ⟨b,t,arr,u,q1,q2,q3,q4,q5,q6⟩:=hok;exact ⟨b,t,arr,u,q1,q2,q3,(q4.refs (qR i3 i v hh)).keeps hl' hkC,q5,q6⟩
    | pin v u=>exact (ARel.refs hok (yR i3 i v u hh)).keeps hl' hkC
    | row t sz es=>exact hok
    | mrow t sz es=>exact hok
    | dead=>exact hok
    | obj X=>exact hok
   | none =>
    rw [hh] at hi
    rw [r2 i hh]
    have hok:=hf.heap.ok i x (gR i x hi)
    have hsame:x.live=true→∀ b,zq (ρ i)=some b→w'.heap[b]?=w.heap[b]?∧∀ o,K' b o↔K b o:=fun hl b hb=>(hprot b (.inr ⟨i,x,hi,hl,hb⟩)).2
    cases x with
    | cell v =>
     obtain ⟨b,t,arr,u,q1,q2,q3,q4,q5,q6⟩:=hok
     obtain ⟨s1,s2⟩:=hsame rfl b (by rw [q1];rfl)
     exact ⟨b,t,arr,u,q1,q2,by rw [s1];exact q3,(q4.refs (qR i5 i v hi)).keeps hlat hkR,q5,fun o hk=>q6 o ((s2 o).1 hk)⟩
    | pin v u=>exact (ARel.refs hok (yR i5 i v u hi)).keeps hlat hkR
    | row t sz es =>
     obtain ⟨xs,q1,q2,q3,q4⟩:=hok
     refine ⟨xs,yK q1 fun b hb=>(hsame rfl b hb).1,q2,fun k e he=>?_,fun b hb o=>?_⟩
     ·obtain ⟨c1,c2⟩:=q3 k e he
      exact ⟨c1,fun k c hc=>let ⟨v,h4,h5,h6⟩:=c2 k c hc;⟨v,h4,h5,h6.later hlat⟩⟩
     ·rw [(hsame rfl b ((qh q1 b).2 hb)).2 o];exact q4 b hb o
    | mrow t sz es =>
     obtain ⟨xs,q1,q2,q3,q4⟩:=hok
     refine ⟨xs,yK q1 fun b hb=>(hsame rfl b hb).1,q2,fun k e he=>?_,fun b hb o hk=>?_⟩
     ·obtain ⟨c1,c2⟩:=q3 k e he
      exact ⟨c1,fun k c hc=>let ⟨v,h4,h5,h6⟩:=c2 k c hc;⟨v,h4,h5,h6.later hlat⟩⟩
     ·exact q4 b hb o (((hsame rfl b ((qh q1 b).2 hb)).2 o).1 hk)
    | dead=>trivial
    | obj X =>
     obtain ⟨b,ob,q1,q2,q3,q4,q5⟩:=hok
     obtain ⟨s1,s2⟩:=hsame rfl b (by rw [q1];rfl)
     exact ⟨b,ob,q1,q2,by rw [s1];exact q3,q4,fun o hk=>q5 o ((s2 o).1 hk)⟩
  ·rw [get_append] at hi hj
   cases hhi:Hq.get i with
   | some x' =>
    rw [hhi] at hi;simp only [Option.some.injEq] at hi;subst hi
    rw [r1 i (by rw [hhi];rfl)] at bx
    cases hhj:Hq.get j with
    | some y' =>
     rw [hhj] at hj;simp only [Option.some.injEq] at hj;subst hj
     rw [r1 j (by rw [hhj];rfl)] at bj
     exact bB.apart i j x' y' b hij (by rw [get_append,hhi]) (by rw [get_append,hhj]) lx ly bx bj
    | none =>
     rw [hhj] at hj;rw [r2 j hhj] at bj
     exact haway i x' b hhi lx bx (.inr ⟨j,y,hj,ly,bj⟩)
   | none =>
    rw [hhi] at hi;rw [r2 i hhi] at bx
    cases hhj:Hq.get j with
    | some y' =>
     rw [hhj] at hj;simp only [Option.some.injEq] at hj;subst hj
     rw [r1 j (by rw [hhj];rfl)] at bj
     exact haway j y' b hhj ly bj (.inr ⟨i,x,hi,lx,bx⟩)
    | none =>
     rw [hhj] at hj;rw [r2 j hhj] at bj
     exact hf.heap.apart i j x y b hij (gR i x hi) (gR j y hj) lx ly bx bj
 have he2:EnvR K' w' ρ2 (Hq++R) env2 a.tmps:=fun t av ht=>by
  obtain ⟨u,u1,u2⟩:=he t av (hs t av ht)
  exact ⟨u,u1,(u2.refs (YI i6 t av ht)).keeps hlat hkR⟩
 refine hKK _ _ (h2q.go _ _ ⟨yB h1,put_defers h2,K',ρ2,hfs2,?_⟩)
 rw [hd]
 exact yY h1 hdt he2 ((hv.refs i4).keeps (Later.refl K' w') hkC)
end
mutual
def AV.rn (σ:Nat→Nat):AV→AV
 | .pv p=>.pv p
 | .own i=>.own (σ i)
 | .box i off=>.box (σ i) off
 | .ad i off=>.ad (σ i) off
 | .agg cs=>.agg (AV.rns σ cs)
 | .fn f first cap=>.fn f (AV.rns σ first) (AV.rns σ cap)
 | .any=>.any
 | .any1=>.any1
def AV.rns (σ:Nat→Nat):List AV→List AV
 | []=>[]
 | c::l=>AV.rn σ c::AV.rns σ l
end
def HE.rn (σ:Nat→Nat):HE→HE
 | .cell v=>.cell (v.rn σ)
 | .row t sz es=>.row t sz es
 | .dead=>.dead
 | .pin v u=>.pin (v.rn σ) u
 | .obj X=>.obj X
 | .mrow t sz es=>.mrow t sz es
theorem Xo (σ:Nat→Nat):∀ l:List AV,(AV.rns σ l).length=l.length
 | []=>rfl
 | c::l=>by rw [AV.rns,List.length_cons,List.length_cons,Xo σ l]
theorem Xb (σ:Nat→Nat):∀ (l:List AV) (j:Nat),(AV.rns σ l)[j]?=(l[j]?).map (AV.rn σ)
 | [],j=>by simp [AV.rns]
 | c::l,0=>by simp [AV.rns]
 | c::l,j + 1=>by simp [AV.rns,Xb σ l j]
theorem Xe {σ:Nat→Nat} (x:HE):(x.rn σ).live=x.live:=by cases x <;> rfl
abbrev Inj (σ:Nat→Nat):Prop:=∀ i j,σ i=σ j→i=j
section
variable {K:KK} {w:World} {ρ:Nat→Value} {H:HEnv} {σ:Nat→Nat} {av:AV} {v:Value}
theorem ARel.up {ρ':Nat→Value} {H':HEnv} (h:ARel K w ρ H av v) (hk:∀ i,(H.get i).isSome=true→(H'.get (σ i)).isSome=true∧ρ' (σ i)=ρ i):ARel K w ρ' H' (av.rn σ) v:=by
 induction h with
 | pv p v hp=>exact .pv p v hp
 | own i hi=>obtain ⟨h1,h2⟩:=hk i hi;rw [←h2];exact .own (σ i) h1
 | box i off b hi hb=>obtain ⟨h1,h2⟩:=hk i hi;exact .box (σ i) off b h1 (by rw [h2];exact hb)
 | ad i off b m c hi hb=>obtain ⟨h1,h2⟩:=hk i hi;exact .ad (σ i) off b m c h1 (by rw [h2];exact hb)
 | agg cs vs h1 h2 h3 ih =>
  refine .agg (AV.rns σ cs) vs (by rw [Xo];exact h1) h2 fun j c v hc hv=>?_
  rw [Xb] at hc
  cases hx:cs[j]? with
  | none=>rw [hx] at hc;cases hc
  | some x=>rw [hx] at hc;simp only [Option.map_some,Option.some.injEq] at hc;subst hc;exact ih j x v hx hv
 | fn f first cap vf vc h1 h2 h3 h4 ih1 ih2 =>
  refine .fn f (AV.rns σ first) (AV.rns σ cap) vf vc (by rw [Xo];exact h1) (by rw [Xo];exact h2) (fun j c v hc hv=>?_) fun j c v hc hv=>?_
  ·rw [Xb] at hc
   cases hx:first[j]? with
   | none=>rw [hx] at hc;cases hc
   | some x=>rw [hx] at hc;simp only [Option.map_some,Option.some.injEq] at hc;subst hc;exact ih1 j x v hx hv
  ·rw [Xb] at hc
   cases hx:cap[j]? with
   | none=>rw [hx] at hc;cases hc
   | some x=>rw [hx] at hc;simp only [Option.map_some,Option.some.injEq] at hc;subst hc;exact ih2 j x v hx hv
 | any v=>exact .any v
 | any1 v h1 h2=>exact .any1 v h1 h2
theorem ARel.down {Hc:HEnv} {a':AV} (h:ARel K w ρ H a' v):∀ av:AV,a'=av.rn σ→yE Hc av=true→ARel K w (fun i=>ρ (σ i)) Hc av v:=by
 induction h with
 | pv p v hp=>intro av e _;cases av <;> simp only [AV.rn,AV.pv.injEq,reduceCtorEq] at e;subst e;exact .pv _ _ hp
 | own i hi=>intro av e hr;cases av <;> simp only [AV.rn,AV.own.injEq,reduceCtorEq] at e;subst e;exact .own _ hr
 | box i off b hi hb=>intro av e hr;cases av <;> simp only [AV.rn,AV.box.injEq,reduceCtorEq] at e;obtain ⟨rfl,rfl⟩:=e;exact .box _ _ b hr hb
 | ad i off b m c hi hb=>intro av e hr;cases av <;> simp only [AV.rn,AV.ad.injEq,reduceCtorEq] at e;obtain ⟨rfl,rfl⟩:=e;exact .ad _ _ b m c hr hb
 | agg cs vs h1 h2 h3 ih =>
  intro av e hr
  cases av <;> simp only [AV.rn,AV.agg.injEq,reduceCtorEq] at e
  subst e
  exact .agg _ vs (by rw [Xo] at h1;exact h1) h2 fun j c v hc hv=>ih j (c.rn σ) v (by rw [Xb,hc];rfl) hv c rfl (yg hr j c hc)
 | fn f first cap vf vc h1 h2 h3 h4 ih1 ih2 =>
  intro av e hr
  cases av <;> simp only [AV.rn,AV.fn.injEq,reduceCtorEq] at e
  obtain ⟨rfl,rfl,rfl⟩:=e
  simp only [yE,Bool.and_eq_true] at hr
  exact .fn _ _ _ vf vc (by rw [Xo] at h1;exact h1) (by rw [Xo] at h2;exact h2) (fun j c v hc hv=>ih1 j (c.rn σ) v (by rw [Xb,hc];rfl) hv c rfl (yg hr.1 j c hc)) fun j c v hc hv=>ih2 j (c.rn σ) v (by rw [Xb,hc];rfl) hv c rfl (yg hr.2 j c hc)
 | any v=>intro av e _;cases av <;> simp only [AV.rn,reduceCtorEq] at e;exact .any v
 | any1 v h1 h2=>intro av e _;cases av <;> simp only [AV.rn,reduceCtorEq] at e;exact .any1 v h1 h2
end
def zmj (g:Base) (K:KK) (w:World) (ρ:Nat→Value) (σ:Nat→Nat) (Hc H:HEnv):Base :=
 ⟨g.w0,K,g.w1,g.ds,w,fun b=>g.pr b∨∃ j y,H.get j=some y∧(∀ i,j=σ i→Hc.get i=none)∧y.live=true∧zq (ρ j)=some b⟩
def PartOf (σ:Nat→Nat) (Hc H:HEnv):Prop:=∀ i x,Hc.get i=some x→H.get (σ i)=some (x.rn σ)
def zmt (σ:Nat→Nat) (Hc H:HEnv):HE→Prop
 | .cell _=>False
 | .pin (.own q) _=>(H.get q).isSome=true∧∀ i,q=σ i→Hc.get i=none
 | .pin _ _=>False
 | _=>True
structure Whole (σ:Nat→Nat) (Hc H Hc' H':HEnv):Prop where
 up:∀ i,(Hc'.get i).isSome=true→(H'.get (σ i)).isSome=true
 get:∀ j y,H'.get j=some y→(∃ i x,j=σ i∧Hc'.get i=some x∧y=x.rn σ)∨(H.get j=some y∧(∀ i,j=σ i→Hc.get i=none∧Hc'.get i=none)∧zmt σ Hc' H' y)
section
variable {g:Base} {K K':KK} {w w':World} {ρ ρ':Nat→Value} {H H' Hc Hc':HEnv} {σ:Nat→Nat}
theorem FS.take (hσ:Inj σ) (hp:PartOf σ Hc H) (hin:hIn Hc Hc=true) (hf:FS g K ρ H w):FS (zmj g K w ρ σ Hc H) K (fun i=>ρ (σ i)) Hc w:=by
 refine ⟨hf.below,fun _ _ h=>h,fun _ _ h=>.inl h,hf.lt,hf.others,⟨?_,fun _ _ _=>rfl⟩,?_,?_,?_⟩
 ·rintro b (hb|⟨j,y,hj,hn,hl,hb⟩)
  ·exact ⟨(hf.pt.same b hb).1,rfl,fun _=>Iff.rfl⟩
  ·exact ⟨((hf.heap.ok j y hj).block_lt hl hb).2,rfl,fun _=>Iff.rfl⟩
 ·intro i x b hi hl hb
  have hl':(x.rn σ).live=true:=by rw [Xe];exact hl
  rintro (hpr|⟨j,y,hj,hn,hly,hbj⟩)
  ·exact hf.away (σ i) _ b (hp i x hi) hl' hb hpr
  ·have hne:σ i≠j:=by intro e;have:=hn i e.symm;rw [hi] at this;cases this
   exact hf.heap.apart (σ i) j _ y b hne (hp i x hi) hj hl' hly hb hbj
 ·intro i x hi
  have hok:=hf.heap.ok (σ i) _ (hp i x hi)
  cases x with
  | cell v=>obtain ⟨b,t,arr,u,q1,q2,q3,q4,q5,q6⟩:=hok;exact ⟨b,t,arr,u,q1,q2,q3,q4.down v rfl (qR hin i v hi),q5,q6⟩
  | pin v u=>exact ARel.down hok v rfl (yR hin i v u hi)
  | row t sz es=>exact hok
  | mrow t sz es=>exact hok
  | dead=>trivial
  | obj X=>exact hok
 ·intro i j x y b hij hi hj lx ly bx bj
  exact hf.heap.apart (σ i) (σ j) _ _ b (fun e=>hij (hσ _ _ e)) (hp i x hi) (hp j y hj) (by rw [Xe];exact lx) (by rw [Xe];exact ly) bx bj
theorem FS.give (hσ:Inj σ) (hf:FS g K ρ H w) (hf':FS (zmj g K w ρ σ Hc H) K' ρ' Hc' w') (hw:Whole σ Hc H Hc' H') :
  ∃ ρ2,FS g K' ρ2 H' w'∧(∀ i,(Hc'.get i).isSome=true→ρ2 (σ i)=ρ' i)∧∀ j,(∀ i,j=σ i→Hc'.get i=none)→ρ2 j=ρ j:=by
 obtain ⟨ρ2,r1,r2⟩:∃ ρ2:Nat→Value,(∀ i,(Hc'.get i).isSome=true→ρ2 (σ i)=ρ' i)∧∀ j,(∀ i,j=σ i→Hc'.get i=none)→ρ2 j=ρ j:=by
  classical
  refine ⟨fun j=>if h:∃ i,j=σ i∧(Hc'.get i).isSome=true then ρ' h.choose else ρ j,fun i hi=>?_,fun j hj=>?_⟩
  ·have h:∃ i',σ i=σ i'∧(Hc'.get i').isSome=true:=⟨i,rfl,hi⟩
   show (if h:∃ i',σ i=σ i'∧(Hc'.get i').isSome=true then ρ' h.choose else ρ (σ i))=ρ' i
   rw [dif_pos h,←hσ _ _ h.choose_spec.1]
  ·show (if h:∃ i,j=σ i∧(Hc'.get i).isSome=true then ρ' h.choose else ρ j)=ρ j
   rw [dif_neg]
   rintro ⟨i,e,hi⟩
   rw [hj i e] at hi;cases hi
 refine ⟨ρ2,?_,r1,r2⟩
 have hlat:Later K K' w w':=⟨hf'.old,hf'.pt.kept⟩
 have hprot:=hf'.pt.same
 have hk:∀ i,(Hc'.get i).isSome=true→(H'.get (σ i)).isSome=true∧ρ2 (σ i)=ρ' i:=fun i hi=>⟨hw.up i hi,r1 i hi⟩
 have hrest:∀ j y,H.get j=some y→(∀ i,j=σ i→Hc.get i=none∧Hc'.get i=none)→y.live=true→∀ b,zq (ρ j)=some b→w'.heap[b]?=w.heap[b]?∧∀ o,K' b o↔K b o :=
  fun j y hj hn hl b hb=>(hprot b (.inr ⟨j,y,hj,fun i e=>(hn i e).1,hl,hb⟩)).2
 refine ⟨hf'.below,fun b o h=>hlat.sub b o (hf.old b o h),fun b o hk=>(hf'.new b o hk).elim (hf.new b o) .inr,hf'.lt,hf'.others,⟨fun b hb=>?_,fun b o h0=>(hlat.cell b o (hf.old b o h0)).trans (hf.pt.kept b o h0)⟩,fun j y b hj hl hb=>?_,fun j y hj=>?_,fun i j x y b hij hi hj lx ly bx bj=>?_⟩
 ·obtain ⟨p1,p2,p3⟩:=hprot b (.inl hb)
  obtain ⟨q1,q2,q3⟩:=hf.pt.same b hb
  exact ⟨p1,p2.trans q2,fun o=>(p3 o).trans (q3 o)⟩
 ·rcases hw.get j y hj with ⟨i,x,rfl,hi,rfl⟩|⟨h1,h2,_⟩
  ·rw [r1 i (by rw [hi];rfl)] at hb
   rw [Xe] at hl
   exact fun hp=>hf'.away i x b hi hl hb (.inl hp)
  ·rw [r2 j fun i e=>(h2 i e).2] at hb
   exact hf.away j y b h1 hl hb
 ·rcases hw.get j y hj with ⟨i,x,rfl,hi,rfl⟩|⟨h1,h2,h3⟩
  ·rw [r1 i (by rw [hi];rfl)]
   have hok:=hf'.heap.ok i x hi
   cases x with
   | cell v=>obtain ⟨b,t,arr,u,q1,q2,q3,q4,q5,q6⟩:=hok;exact ⟨b,t,arr,u,q1,q2,q3,q4.up hk,q5,q6⟩
   | pin v u=>exact ARel.up hok hk
   | row t sz es=>exact hok
   | mrow t sz es=>exact hok
   | dead=>trivial
   | obj X=>exact hok
  ·rw [r2 j fun i e=>(h2 i e).2]
   have hok:=hf.heap.ok j y h1
   have hsame:=hrest j y h1 h2
   cases y with
   | cell v=>exact h3.elim
   | pin v u =>
    cases v with
    | own q =>
     obtain ⟨e1,e2⟩:=h3
     have hok:ARel K w ρ H (.own q) u:=hok
     show ARel K' w' ρ2 H' (.own q) u
     cases hok with
     | own _ _=>rw [←r2 q e2];exact .own q e1
    | _=>exact h3.elim
   | row t sz es =>
    obtain ⟨xs,q1,q2,q3,q4⟩:=hok
    refine ⟨xs,yK q1 fun b hb=>(hsame rfl b hb).1,q2,fun k e he=>?_,fun b hb o=>?_⟩
    ·obtain ⟨c1,c2⟩:=q3 k e he
     exact ⟨c1,fun k c hc=>let ⟨v,h4,h5,h6⟩:=c2 k c hc;⟨v,h4,h5,h6.later hlat⟩⟩
    ·rw [(hsame rfl b ((qh q1 b).2 hb)).2 o];exact q4 b hb o
   | mrow t sz es =>
    obtain ⟨xs,q1,q2,q3,q4⟩:=hok
    refine ⟨xs,yK q1 fun b hb=>(hsame rfl b hb).1,q2,fun k e he=>?_,fun b hb o hk=>?_⟩
    ·obtain ⟨c1,c2⟩:=q3 k e he
     exact ⟨c1,fun k c hc=>let ⟨v,h4,h5,h6⟩:=c2 k c hc;⟨v,h4,h5,h6.later hlat⟩⟩
    ·exact q4 b hb o (((hsame rfl b ((qh q1 b).2 hb)).2 o).1 hk)
   | dead=>trivial
   | obj X =>
    obtain ⟨b,ob,q1,q2,q3,q4,q5⟩:=hok
    obtain ⟨s1,s2⟩:=hsame rfl b (by rw [q1];rfl)
    exact ⟨b,ob,q1,q2,by rw [s1];exact q3,q4,fun o hk=>q5 o ((s2 o).1 hk)⟩
 ·rcases hw.get i x hi with ⟨i',x',rfl,hi',rfl⟩|⟨h1,h2,_⟩
  ·rw [r1 i' (by rw [hi'];rfl)] at bx
   rw [Xe] at lx
   rcases hw.get j y hj with ⟨j',y',rfl,hj',rfl⟩|⟨k1,k2,_⟩
   ·rw [r1 j' (by rw [hj'];rfl)] at bj
    rw [Xe] at ly
    exact hf'.heap.apart i' j' x' y' b (fun e=>hij (by rw [e])) hi' hj' lx ly bx bj
   ·rw [r2 j fun i e=>(k2 i e).2] at bj
    exact hf'.away i' x' b hi' lx bx (.inr ⟨j,y,k1,fun i e=>(k2 i e).1,ly,bj⟩)
  ·rw [r2 i fun q e=>(h2 q e).2] at bx
   rcases hw.get j y hj with ⟨j',y',rfl,hj',rfl⟩|⟨k1,k2,_⟩
   ·rw [r1 j' (by rw [hj'];rfl)] at bj
    rw [Xe] at ly
    exact hf'.away j' y' b hj' ly bj (.inr ⟨i,x,h1,fun q e=>(h2 q e).1,lx,bx⟩)
   ·rw [r2 j fun i e=>(k2 i e).2] at bj
    exact hf.heap.apart i j x y b hij h1 k1 lx ly bx bj
end
theorem FS.moved {g:Base} {K:KK} {w:World} {ρ:Nat→Value} {H Hc:HEnv} {σ:Nat→Nat} (hσ:Inj σ) (hp:PartOf σ Hc H) (hin:hIn Hc Hc=true) (hf:FS g K ρ H w):FS g K (fun i=>ρ (σ i)) Hc w:=by
 have h:=hf.take hσ hp hin
 exact ⟨hf.below,hf.old,hf.new,hf.lt,hf.others,hf.pt,fun i x b hi hl hb=>hf.away (σ i) _ b (hp i x hi) (by rw [Xe];exact hl) hb,h.heap⟩
theorem zkr {σ:Nat→Nat} {H:HEnv}:PartOf σ [] H:=fun i x h=>by simp [HEnv.get_nil] at h
theorem XB {σ:Nat→Nat} {H Hc:HEnv} {i:Nat} {x:HE} (h:H.get (σ i)=some (x.rn σ)) (hs:PartOf σ Hc H):PartOf σ ((i,x)::Hc) H:=fun j y hj=>by
 rw [HEnv.get_cons] at hj
 split at hj
 ·rename_i e;subst e;simp only [Option.some.injEq] at hj;subst hj;exact h
 ·exact hs j y hj
def zgo (σ:Nat→Nat) (env2 env:Env):Prop:=∀ t av,env2.get t=some av→env.get t=some (av.rn σ)
theorem zlJ {σ:Nat→Nat} {env:Env}:zgo σ [] env:=fun t av h=>by simp [Env.get_nil] at h
theorem zkE {σ:Nat→Nat} {env env2:Env} {t:Nat} {av:AV} (h:env.get t=some (av.rn σ)) (hs:zgo σ env2 env):zgo σ ((t,av)::env2) env:=fun t' av' h'=>by
 rw [Env.get_cons] at h'
 split at h'
 ·rename_i e;subst e;simp only [Option.some.injEq] at h';subst h';exact h
 ·exact hs t' av' h'
structure ACallE {ι:Type} (P:Program) (f:FuncId) (args:List AV) (H:HEnv) (r:ι→AV) (H':ι→HEnv) (ps:List Nat):Prop where
 stands:Ve P f
 calls:∀ (g:Base) (K:KK) (ρ:Nat→Value) (w:World) (vs:List Value),FS g K ρ H w→Qj K w ρ H args vs →
  Calls P f vs.toArray w fun e w'=>∃ v K' ρ' u,e=.returned v∧FS g K' ρ' (H' u) w'∧ARel K' w' ρ' (H' u) (r u) v∧∀ i∈ps,ρ' i=ρ i
section
variable {P:Program} {n:Nat} {g:Base} {H:HEnv} {env:Env} {ops:List Oper} {o:Oper} {rest:List Oper} {Q:Env→HEnv→Prop} {QQ:QC} {c:Code} {f:FuncId} {args:List AV} {ι:Type} {r:ι→AV} {H':ι→HEnv} {ps:List Nat} {σ:Nat→Nat}
def zfs (H:HEnv) (ps:List Nat):Bool:=zch 1000 H&&hIn H H&&ps.all fun i=>(H.get i).isSome
theorem zca (h:∀ us,ACallU P f args (H++zu us ps) r fun u=>H' u++zu us ps) (h1:zfs H ps=true) (h2:∀ u,zfs (H' u) ps=true) (hr:∀ u,yE (H' u) (r u)=true):ACallE P f args H r H' ps:=by
 refine ⟨(h fun _=>.bool true).stands,fun g K ρ w vs hf hv=>?_⟩
 simp only [zfs,Bool.and_eq_true] at h1
 have s1:∀ i∈ps,(H.get i).isSome=true:=fun i hi=>by simpa using List.all_eq_true.1 h1.2 i hi
 have hpin:∀ {A:HEnv} {us:Nat→Value} {i:Nat} {x:HE},HEnv.get (A++zu us ps) i=some x→x.live=true→A.get i=some x:=by
  intro A us i x hx hl
  rw [get_append] at hx
  cases hh:A.get i with
  | some z=>rw [hh] at hx;exact hx
  | none =>
   rw [hh] at hx
   obtain ⟨_,_,rfl⟩:=Zq hx
   simp [HE.live] at hl
 have hlat:Later K K w w:=.refl K w
 have hk:∀ j,(HEnv.get H j).isSome=true→(HEnv.get (H++zu ρ ps) j).isSome=true∧ρ j=ρ j:=fun j hj=>⟨zF j hj,rfl⟩
 have hf2:FS g K ρ (H++zu ρ ps) w:=by
  refine ⟨hf.below,hf.old,hf.new,hf.lt,hf.others,hf.pt,fun i x b hi hl hb=>hf.away i x b (hpin hi hl) hl hb,fun i x hi=>?_,fun i j x y b hij hi hj lx ly bx bj=>hf.heap.apart i j x y b hij (hpin hi lx) (hpin hj ly) lx ly bx bj⟩
  rw [get_append] at hi
  cases hh:H.get i with
  | some y =>
   rw [hh] at hi;simp only [Option.some.injEq] at hi;subst hi
   have hok:=hf.heap.ok i y hh
   cases y with
   | cell v=>obtain ⟨b,t,arr,u,q1,q2,q3,q4,q5,q6⟩:=hok;exact ⟨b,t,arr,u,q1,q2,q3,q4.keeps hlat hk,q5,q6⟩
   | pin v u=>exact ARel.keeps hlat hk hok
   | row t sz es=>exact hok
   | mrow t sz es=>exact hok
   | dead=>exact hok
   | obj X=>exact hok
  | none =>
   rw [hh] at hi
   obtain ⟨q1,q2,rfl⟩:=Zq hi
   exact .own _ (zF _ (s1 _ q2))
 refine ((h ρ).calls g K ρ w vs (fun e=>by cases e) hf2 ⟨hv.1,fun k c v hc hv2=>(hv.2 k c v hc hv2).keeps hlat hk⟩).mono fun e w' ⟨v,K',ρ',u,e1,hf',hv'⟩=>?_
 have h3:=h2 u
 simp only [zfs,Bool.and_eq_true] at h3
 refine ⟨v,K',ρ',u,e1,hf'.narrow (e:=[]) ⟨fun i x hx=>by rw [get_append,hx],by simp only [Zz,Bool.true_and];exact h3.1.2⟩,ARel.refs hv' (hr u),fun i hi=>?_⟩
 have hnone:(H' u).get (1000 + i)=none:=by
  cases hh:(H' u).get (1000 + i) with
  | none=>rfl
  | some x=>have:=YK h3.1.1 _ x hh;omega
 have:=hf'.heap.ok (1000 + i) _ (by rw [get_append,hnone];exact XO hi)
 have this:ARel K' w' ρ' (H' u++zu ρ ps) (.own i) (ρ i):=this
 generalize hu:ρ i=z at this
 cases this with
 | own _ _=>rfl
theorem ACallE.lift {Hc:HEnv} {Hc':ι→HEnv} {args2:List AV} {r2:ι→AV} (hσ:Inj σ) (h:ACallE P f args Hc r Hc' ps) (ha:args2=AV.rns σ args) (har:qx Hc args=true) (hr:∀ u,r2 u=(r u).rn σ) (hp:PartOf σ Hc H) (hin:hIn Hc Hc=true)
  (hw:∀ u,Whole σ Hc H (Hc' u) (H' u)) (hps:∀ i∈ps,σ i=i) (hs:∀ u,∀ i∈ps,((Hc' u).get i).isSome=true):ACallE P f args2 H r2 H' ps:=by
 refine ⟨h.stands,fun g K ρ w vs hf hv=>?_⟩
 subst ha
 refine (h.calls _ K _ w vs (hf.take hσ hp hin) ⟨by rw [←Xo σ];exact hv.1,fun k c v hc hv2=>ARel.down (hv.2 k (c.rn σ) v (by rw [Xb,hc];rfl) hv2) c rfl (yg har k c hc)⟩).mono fun e w' ⟨v,K',ρ',u,e1,hf',hv',hn⟩=>?_
 obtain ⟨ρ2,f2,q1,q2⟩:=FS.give hσ hf hf' (hw u)
 refine ⟨v,K',ρ2,u,e1,f2,by rw [hr u];exact hv'.up fun i hi=>⟨(hw u).up i hi,q1 i hi⟩,fun i hi=>?_⟩
 have e2:=q1 i (hs u i hi)
 rw [hps i hi] at e2
 rw [e2,hn i hi]
 show ρ (σ i)=ρ i
 rw [hps i hi]
theorem yD {xs:Array Operand} {ts:Array TypeId} {d:Tmp} {ars:List AV} (Hc:HEnv) (env2:Env) (hc:ACallE P f ars Hc r H' ps) (hg:guardE ops env o=some true)
  (hop:o.op=.call { callee:=.value (.func f),args:=xs,argTypes:=ts }) (hargs:avs env xs.toList=some ars) (hfit:HSub H Hc) (hin:hIn Hc Hc=true) (har:qx Hc ars=true) (hs:Sub env env2) (he2:Zz (YP ps) env2=true) (hps:∀ u,∀ i∈ps,((H' u).get i).isSome=true) (hd:o.dst=some d) (hdt:Nat.blt d n=true)
  (h:∀ u,AO P n g ops.toArray rest ((d,r u)::env2) (H' u) Q):AO P n g ops.toArray (o::rest) env H Q:=by
 refine ⟨fun a w hinv=>?_⟩
 have hw:=yh hinv hg
 obtain ⟨h1,h2,K,ρ,hf,he⟩:=hinv
 refine wpList_step fun KK hKK=>?_
 rw [if_pos hw]
 have hpa:=VT (a:=a) he hargs
 have hall:Qj K w ρ Hc ars (xs.toList.map a.eval):=⟨hpa.1,fun k c v hc hv=>(hpa.2 k c v hc hv).refs (yg har k c hc)⟩
 have hrun:(execOp a.eval o).run P w=.ok (.enter f (xs.toList.map a.eval).toArray) w:=by
  have e:(xs.toList.map a.eval).toArray=xs.map a.eval:=by rw [←Array.toList_map,Array.toArray_toList]
  rw [e]
  simp [execOp,hop,resolve,Act.eval,Deferred.ofValue,invoke,Zd hc.stands]
 unfold Oper.wp
 rw [hrun]
 simp only [Oper.upon]
 have hfc:FS g K ρ Hc w:=hf.narrow (e:=[]) ⟨hfit,by simp only [Zz,Bool.true_and];exact hin⟩
 have hfc2:FS ⟨g.w0,K,g.w1,g.ds,w,g.pr⟩ K ρ Hc w:=⟨hfc.below,fun _ _ h=>h,fun _ _ h=>.inl h,hfc.lt,hfc.others,⟨fun b hb=>⟨(hfc.pt.same b hb).1,rfl,fun _=>Iff.rfl⟩,fun _ _ _=>rfl⟩,hfc.away,hfc.heap⟩
 refine (hc.calls _ K ρ w _ hfc2 hall).mono fun e w' ⟨v,K',ρ',u,e1,hf',hv,hn⟩=>?_
 subst e1
 have hlat:Later K K' w w':=⟨hf'.old,hf'.pt.kept⟩
 have hf2:FS g K' ρ' (H' u) w':=by
  refine ⟨hf'.below,fun b o h=>hlat.sub b o (hf.old b o h),fun b o hk=>(hf'.new b o hk).elim (hf.new b o) .inr,hf'.lt,hf'.others,⟨fun b hb=>?_,fun b o h0=>(hlat.cell b o (hf.old b o h0)).trans (hf.pt.kept b o h0)⟩,hf'.away,hf'.heap⟩
  obtain ⟨p1,p2,p3⟩:=hf'.pt.same b hb
  obtain ⟨q1,q2,q3⟩:=hf.pt.same b hb
  exact ⟨p1,p2.trans q2,fun o=>(p3 o).trans (q3 o)⟩
 rw [hd]
 have he3:EnvR K' w' ρ' (H' u) env2 a.tmps:=fun t av ht=>by
  obtain ⟨v2,v3,v4⟩:=he t av (hs t av ht)
  exact ⟨v2,v3,(v4.refs (YI he2 t av ht)).keeps hlat fun j hj=>⟨hps u j (QB hj),hn j (QB hj)⟩⟩
 exact hKK _ _ ((h u).go _ _ ⟨yB h1,put_defers h2,K',ρ',hf2,yY h1 hdt he3 hv⟩)
theorem zko (σ:Nat→Nat) (hσ:Inj σ) (env2:Env) (Hc:HEnv) (hs:zgo σ env2 env) (he2:Zz Hc env2=true) (hp:PartOf σ Hc H) (hin:hIn Hc Hc=true) (k:AW P n g c env2 Hc QQ):AW P n g c env H QQ:=by
 refine ⟨fun a w ⟨h1,h2,K,ρ,hf,he⟩=>k.go a w ⟨h1,h2,K,_,hf.moved hσ hp hin,fun t av ht=>?_⟩⟩
 obtain ⟨v,v1,v2⟩:=he t _ (hs t av ht)
 exact ⟨v,v1,v2.down av rfl (YI he2 t av ht)⟩
end
end Go.Cg
namespace Go.Cg
open Go.Proofs
end Go.Cg
