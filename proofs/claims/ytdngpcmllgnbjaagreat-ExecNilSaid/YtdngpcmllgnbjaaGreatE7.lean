/- A part of the walks by abstract values: no statement of its own. -/
import Derived.Shelf.Sort.Plain
import Derived.Shelf.Slices.In.SortNone
import Derived.Test.YtdngpcmllgnbjaaGreatProg
import Derived.Test.YtdngpcmllgnbjaaGreatE6
import Derived.OpenShut
import Derived.Deep.Slices
import Derived.ProofKit
set_option linter.unusedVariables false
set_option linter.unusedSimpArgs false
namespace Go.Proofs
open Go.Shelf
def Tryz.lays189_ren:Go.Shelf.Ren:=⟨fun|189=>394|125=>410|257=>409|128=>433|129=>434|294=>424|295=>425|296=>426|297=>427|298=>428|299=>429|216=>430|300=>431|301=>432|328=>443|329=>444|330=>445|331=>446|332=>447|215=>448|343=>462|n=>n,fun|28=>59|3=>3|46=>339|0=>0|51=>427|53=>102|4=>4|183=>439|182=>438|131=>369|5=>5|9=>9|218=>449|222=>452|228=>462|229=>463|n=>n,fun|n=>n⟩
theorem Tryz.lays189:Go.Proofs.Lays.n189 Tryz.prog Tryz.lays189_ren:={
 mixed:=by kernel_rfl
 f125:=Tryz.func410.trans (congrArg some (by kernel_rfl))
 f128:=Tryz.func433.trans (congrArg some (by kernel_rfl))
 f129:=Tryz.func434.trans (congrArg some (by kernel_rfl))
 f189:=Tryz.func394.trans (congrArg some (by kernel_rfl))
 f215:=Tryz.func448.trans (congrArg some (by kernel_rfl))
 f216:=Tryz.func430.trans (congrArg some (by kernel_rfl))
 f257:=Tryz.func409.trans (congrArg some (by kernel_rfl))
 f294:=Tryz.func424.trans (congrArg some (by kernel_rfl))
 f295:=Tryz.func425.trans (congrArg some (by kernel_rfl))
 f296:=Tryz.func426.trans (congrArg some (by kernel_rfl))
 f297:=Tryz.func427.trans (congrArg some (by kernel_rfl))
 f298:=Tryz.func428.trans (congrArg some (by kernel_rfl))
 f299:=Tryz.func429.trans (congrArg some (by kernel_rfl))
 f300:=Tryz.func431.trans (congrArg some (by kernel_rfl))
 f301:=Tryz.func432.trans (congrArg some (by kernel_rfl))
 f328:=Tryz.func443.trans (congrArg some (by kernel_rfl))
 f329:=Tryz.func444.trans (congrArg some (by kernel_rfl))
 f330:=Tryz.func445.trans (congrArg some (by kernel_rfl))
 f331:=Tryz.func446.trans (congrArg some (by kernel_rfl))
 f332:=Tryz.func447.trans (congrArg some (by kernel_rfl))
 f343:=Tryz.func462.trans (congrArg some (by kernel_rfl))
 t0:=Tryz.underlying0
 a0:=Tryz.isAgg0
 z0:=Tryz.sizeOf0
 v0:=Tryz.zeroValue0
 t3:=Tryz.underlying3
 a3:=Tryz.isAgg3
 z3:=Tryz.sizeOf3
 v3:=Tryz.zeroValue3
 t4:=Tryz.underlying4
 a4:=Tryz.isAgg4
 z4:=Tryz.sizeOf4
 v4:=Tryz.zeroValue4
 t5:=Tryz.underlying5
 a5:=Tryz.isAgg5
 z5:=Tryz.sizeOf5
 v5:=Tryz.zeroValue5
 t9:=Tryz.underlying9
 a9:=Tryz.isAgg9
 z9:=Tryz.sizeOf9
 v9:=Tryz.zeroValue9
 t28:=Tryz.underlying59
 a28:=Tryz.isAgg59
 z28:=Tryz.sizeOf59
 v28:=Tryz.zeroValue59
 t46:=Tryz.underlying339
 a46:=Tryz.isAgg339
 z46:=Tryz.sizeOf339
 v46:=Tryz.zeroValue339
 t51:=Tryz.underlying427
 a51:=Tryz.isAgg427
 z51:=Tryz.sizeOf427
 v51:=Tryz.zeroValue427
 t53:=Tryz.underlying102
 a53:=Tryz.isAgg102
 z53:=Tryz.sizeOf102
 v53:=Tryz.zeroValue102
 t131:=Tryz.underlying369
 a131:=Tryz.isAgg369
 z131:=Tryz.sizeOf369
 v131:=Tryz.zeroValue369
 t182:=Tryz.underlying438
 a182:=Tryz.isAgg438
 z182:=Tryz.sizeOf438
 v182:=Tryz.zeroValue438
 t183:=Tryz.underlying439
 a183:=Tryz.isAgg439
 z183:=Tryz.sizeOf439
 v183:=Tryz.zeroValue439
 t218:=Tryz.underlying449
 a218:=Tryz.isAgg449
 z218:=Tryz.sizeOf449
 v218:=Tryz.zeroValue449
 t222:=Tryz.underlying452
 a222:=Tryz.isAgg452
 z222:=Tryz.sizeOf452
 v222:=Tryz.zeroValue452
 t228:=Tryz.underlying462
 a228:=Tryz.isAgg462
 z228:=Tryz.sizeOf462
 v228:=Tryz.zeroValue462
 t229:=Tryz.underlying463
 a229:=Tryz.isAgg463
 z229:=Tryz.sizeOf463
 v229:=Tryz.zeroValue463 }
open Go.Sort Go.RowKit in
theorem Tryz.slices_Sort_int (blk off cap:Nat) (zs:List Int) (w:World) (hH:Holds (Value.int .i64) w blk off zs.toArray) (hblk:blk < w.heap.size) (hsz:zs.length < 4611686018427387904) :
  Calls Tryz.prog 394 #[.slice (some ⟨blk,off,none⟩) zs.length cap] w fun e w' =>
   e=.returned (.tuple #[])∧∃ n os,w'=grow (putRow (Value.int .i64) (Sort.ahead w n) blk off (zs.mergeSort fun x y=>decide (x≤y)).toArray) os:=Any.slices_Sort_int Tryz.lays189 blk off cap zs w hH hblk hsz
open Go.RowKit Go.Sort in
theorem Tryz.slices_Sort_int_none (p:Option Addr) (cap:Nat) (w:World) :
  Calls Tryz.prog 394 #[.slice p 0 cap] w fun e w'=>e=.returned (.tuple #[])∧w'=w:=Any.slices_Sort_int_none Tryz.lays189 p cap w
end Go.Proofs
namespace Go.Cg
open Go.RowKit
structure ACallM (P:Program) (f:FuncId) (args:List AV) (H:HEnv) (r:AV) (H':HEnv) (lone:Bool:=false):Prop where
 stands:Vr P f
 calls:∀ (g:Base) (K:KK) (ρ:Nat→Value) (w:World) (vs:List Value),(lone=true→g.w1.heap.size=0)→FS g K ρ H w→ZQ K w ρ H args vs →
  Calls P f vs.toArray w fun e w'=>∃ v K' ρ',e=.returned v∧FS g K' ρ' H' w'∧ARel K' w' ρ' H' r v
def ziz (tb:Tab) (rs:List ResultVar) (r:AV) (H':HEnv):QC:=fun ex env H=>(ex=.normal∨ex=.ret) ∧
 ((∃ ps,Vy tb H env rs=some ps∧r=.pv (zn ps)∧Ye H H' [])∨(∃ t,rs=[.tmp t]∧env.get t=some r∧Ye H H' [(t,r)]))
section
variable {P:Program} {tb:Tab} {n:Nat} {g:Base} {K K':KK} {w w':World} {ρ ρ':Nat→Value} {H H':HEnv} {env:Env} {a:Act} {ops:List Oper} {o:Oper} {rest:List Oper} {Q:Env→HEnv→Prop} {f:FuncId} {args:List AV} {r:AV}
theorem FS.narrow {e:Env} (hf:FS g K ρ H w) (hs:Ye H H' e):FS g K ρ H' w:=by
 obtain ⟨hs,hin⟩:=hs
 simp only [Bool.and_eq_true] at hin
 refine ⟨hf.below,hf.old,hf.new,hf.lt,hf.others,hf.pt,fun i h b hi=>hf.away i h b (hs i h hi),?_,?_⟩
 ·intro i h hi
  have:=hf.heap.ok i h (hs i h hi)
  cases h with
  | cell v=>obtain ⟨b,t,arr,u,h1,h2,h3,h4,h5,h6⟩:=this;exact ⟨b,t,arr,u,h1,h2,h3,h4.refs (Zw hin.2 i v hi),h5,h6⟩
  | pin v u=>exact ARel.refs this (qP hin.2 i v u hi)
  | row t sz es=>exact this
  | mrow t sz es=>exact this
  | dead=>exact this
  | obj X=>exact this
 ·intro i j h h' b hij hi hj
  exact hf.heap.apart i j h h' b hij (hs i h hi) (hs j h' hj)
theorem zC (htb:yA P tb) {fn:Func} {c:Code} (hf:P.funcs[f]?=some fn) (hb:fn.body=some c) (hn:(fn.name == "runtime.NumGoroutine")=false) (hnt:fn.ntmps=n) (hargs:args.length≤n) (rs:List ResultVar) (hrs:fn.results.toList=rs)
  {lone:Bool} (h:∀ g:Base,(lone=true→g.w1.heap.size=0)→AW P n g c (QN 0 args) H (ziz tb rs r H')):ACallM P f args H r H' lone:=by
 refine ⟨⟨fn,hf,by simp [hb],hn⟩,fun g0 K ρ w vs hw1 hfs0 hv=>?_⟩
 obtain ⟨g,hg0⟩:∃ g:Base,g=⟨g0.w0,g0.K0,g0.w1,[],g0.wp,g0.pr⟩:=⟨_,rfl⟩
 have hfs:FS g K ρ H w:=by subst hg0;exact ⟨hfs0.below,hfs0.old,hfs0.new,hfs0.lt,hfs0.others,⟨hfs0.pt.same,hfs0.pt.kept⟩,hfs0.away,hfs0.heap⟩
 refine calls_of_wp hf hb ?_
 have hlen:vs.length=args.length:=hv.1
 refine wp_mono (wpIn_wide.1 ((h g (by subst hg0;exact hw1)).go _ w ⟨by simp [hnt];omega,by subst hg0;rfl,K,ρ,hfs,?_⟩ none 0)) ?_
 ·intro t av hg
  obtain ⟨_,hp⟩:=Qy args 0 t av hg
  have hlt:t < vs.length:=by rw [hlen];exact (List.getElem?_eq_some_iff.1 hp).1
  refine ⟨vs[t],?_,hv.2 t av _ hp (List.getElem?_eq_getElem hlt)⟩
  rw [Array.getElem?_append_left (by simpa using hlt)]
  simp [hlt]
 ·rintro e a' w' ⟨env1,H1,hi,he,hq⟩
  have key:∃ v K' ρ',(results fn a'.tmps).run P w'=.ok v w'∧a'.defers=[]∧FS g0 K' ρ' H' w'∧ARel K' w' ρ' H' r v:=by
   have back:∀ {K':KK} {ρ':Nat→Value},FS g K' ρ' H' w'→FS g0 K' ρ' H' w':=fun hf1=>by
    subst hg0;exact ⟨hf1.below,hf1.old,hf1.new,hf1.lt,hf1.others,⟨hf1.pt.same,hf1.pt.kept⟩,hf1.away,hf1.heap⟩
   rcases hq with ⟨ps,hps,rfl,hfit⟩|⟨t,ht,hget,hfit⟩
   ·obtain ⟨_,h2,K',ρ',hf',he0⟩:=hi
    obtain ⟨us,hrun,hru⟩:=QG htb hf' he0 hps
    have hi2:Inv n g [] H' a' w':=((⟨‹_›,h2,K',ρ',hf',he0⟩:Inv n g env1 H1 a' w').sub yu).hsub hfit
    have hres:(results fn a'.tmps).run P w'=.ok (if hh:us.toArray.size=1 then us.toArray[0] else .tuple us.toArray) w':=by
     unfold results
     rw [Array.mapM_eq_mapM_toList,hrs]
     simp only [Sem.run_bind,Sem.run_map]
     erw [hrun]
     rfl
    have hval:PRel K' w' (zn ps) (if hh:us.toArray.size=1 then us.toArray[0] else .tuple us.toArray):=by
     split
     ·rename_i hh
      have hl1:=hru.1
      have hu:us.length=1:=by simpa using hh
      obtain ⟨u,rfl⟩:=List.length_eq_one_iff.1 hu
      obtain ⟨p,rfl⟩:=List.length_eq_one_iff.1 (show ps.length=1 by omega)
      exact hru.2 0 p u (by simp) (by simp)
     ·rename_i hh
      simp at hh
      have:zn ps=.tup ps:=by
       unfold zn
       split
       ·rename_i p;exact absurd (by have:=hru.1;simpa using this) hh
       ·rfl
      rw [this]
      exact .tup ps us hru.1 hru.2
    have hf2:=FS.narrow hf' hfit
    exact ⟨_,K',ρ',hres,by rw [h2];subst hg0;rfl,back hf2,.pv _ _ hval⟩
   ·obtain ⟨h1,h2,K',ρ',hf',he0⟩:=hi
    obtain ⟨v,hv1,hv2⟩:=he0 t r hget
    have hf2:=FS.narrow hf' hfit
    have hin:=hfit.2
    simp only [YI,Bool.and_eq_true] at hin
    have hres:(results fn a'.tmps).run P w'=.ok v w':=by
     unfold results
     rw [Array.mapM_eq_mapM_toList,hrs,ht]
     simp [Result.andThen,hv1]
    exact ⟨v,K',ρ',hres,by rw [h2];subst hg0;rfl,back hf2,hv2.refs hin.1.1⟩
  obtain ⟨v,K',ρ',hres,hd,hf',hr⟩:=key
  rcases he with rfl|rfl
  ·exact ⟨hd,_,hres,v,K',ρ',rfl,hf',hr⟩
  ·exact ⟨hd,_,hres,v,K',ρ',rfl,hf',hr⟩
def zJ (us:Nat→Value) (ps:List Nat):HEnv:=ps.map fun i=>(1000 + i,.pin (.own i) (us i))
def Xk (ps:List Nat):HEnv:=ps.map fun i=>(i,.dead)
def ziR (A:HEnv) (B:HEnv):Bool:=A.all fun x=>(B.get x.1).isNone
def Yv (Hc Hc' R:HEnv) (ps:List Nat) (ars:List AV) (env2:Env) (r:AV):Bool :=
 ziR Hc R&&ziR Hc' R&&zcR 1000 Hc&&zcR 1000 Hc'&&YB Hc ars&&hIn Hc Hc&&hIn Hc' Hc'&&Zh Hc' r&&hIn (R++Xk ps) R&&YI (R++Xk ps) env2&&ps.all fun i=>(Hc.get i).isSome&&(Hc'.get i).isSome
theorem Yz {us:Nat→Value}:∀ {ps:List Nat} {i:Nat} {h:HE},HEnv.get (zJ us ps) i=some h→1000≤i∧i - 1000∈ps∧h=.pin (.own (i - 1000)) (us (i - 1000))
 | [],i,h,hg=>by simp [zJ,HEnv.get_nil] at hg
 | p::ps,i,h,hg=>by
  rw [zJ,List.map_cons,HEnv.get_cons] at hg
  split at hg
  ·rename_i e;subst e
   simp only [Option.some.injEq] at hg;subst hg
   rw [Nat.add_sub_cancel_left];exact ⟨by omega,by simp,rfl⟩
  ·obtain ⟨h1,h2,h3⟩:=Yz (ps:=ps) hg
   exact ⟨h1,by simp [h2],h3⟩
theorem zaF {us:Nat→Value}:∀ {ps:List Nat} {i:Nat},i∈ps→HEnv.get (zJ us ps) (1000 + i)=some (.pin (.own i) (us i))
 | [],i,h=>by cases h
 | p::ps,i,h=>by
  rw [zJ,List.map_cons,HEnv.get_cons]
  split
  ·rename_i e
   have:p=i:=by omega
   subst this;rfl
  ·rename_i e
   rcases List.mem_cons.1 h with rfl|h
   ·exact absurd rfl e
   ·exact zaF h
theorem Zc {A B:HEnv} (h:ziR A B=true):∀ i x,A.get i=some x→B.get i=none:=by
 induction A with
 | nil=>intro i x hx;simp [HEnv.get_nil] at hx
 | cons y A ih =>
  intro i x hx
  obtain ⟨j,z⟩:=y
  simp only [ziR,List.all_cons,Bool.and_eq_true] at h
  rw [HEnv.get_cons] at hx
  split at hx
  ·rename_i e;subst e;simpa using h.1
  ·exact ih h.2 i x hx
theorem zaG {ps:List Nat} {i:Nat} (h:(HEnv.get (Xk ps) i).isSome=true):i∈ps:=by
 induction ps with
 | nil=>simp [Xk,HEnv.get_nil] at h
 | cons p ps ih =>
  rw [Xk,List.map_cons,HEnv.get_cons] at h
  split at h
  ·rename_i e;simp [e]
  ·simp [ih h]
theorem qL {w w':World} {B e sz n:Nat} {v:Value} {xs:List Value} (h:w.ownsRow B e sz v n xs) (hb:∀ b,zA v=some b→w'.heap[b]?=w.heap[b]?):w'.ownsRow B e sz v n xs:=by
 obtain ⟨h1,h2⟩:=h
 refine ⟨h1,h2.imp id ?_⟩
 rintro ⟨g,cap,cur,a,b,c,d⟩
 exact ⟨g,cap,cur,a,b,by rw [hb g (by rw [a];rfl)];exact c,d⟩
theorem Zy {w:World} {B e sz n:Nat} {v:Value} {xs:List Value} (h:w.ownsRow B e sz v n xs) (b:Nat):zA v=some b↔v.ownBlock=some b:=by
 rcases h.2 with ⟨rfl,_⟩|⟨_,_,_,rfl,_⟩ <;> simp [zA,Value.ownBlock]
theorem yx {xs:Array Operand} {ts:Array TypeId} {d:Tmp} {ars:List AV} (Hc Hc' R:HEnv) (env2:Env) {lone:Bool} (ps:List Nat) (hw1:lone=true→g.w1.heap.size=0) (hg:guardE ops env o=some true)
  (hop:o.op=.call { callee:=.value (.func f),args:=xs,argTypes:=ts }) (hargs:avs env xs.toList=some ars) (hsub:HSub H (Hc++R)) (hs:Sub env env2) (hd:o.dst=some d) (hdt:Nat.blt d n=true)
  (hchk:Yv Hc Hc' R ps ars env2 r=true) (hc:∀ us,ACallM P f ars (Hc++zJ us ps) r (Hc'++zJ us ps) lone)
  (h:AO P n g ops.toArray rest ((d,r)::env2) (Hc'++R) Q):AO P n g ops.toArray (o::rest) env H Q:=by
 simp only [Yv,Bool.and_eq_true] at hchk
 obtain ⟨⟨⟨⟨⟨⟨⟨⟨⟨⟨d1,d2⟩,d3⟩,d4⟩,i1⟩,i2⟩,i3⟩,i4⟩,i5⟩,i6⟩,i7⟩:=hchk
 have i7':∀ i∈ps,(Hc.get i).isSome=true∧(Hc'.get i).isSome=true:=fun i hi=>by simpa using List.all_eq_true.1 i7 i hi
 refine ⟨fun a w hinv=>?_⟩
 have hw:=yB hinv hg
 obtain ⟨h1,h2,K,ρ,hf,he⟩:=hinv
 refine wpList_step fun KK hKK=>?_
 rw [if_pos hw]
 have hlatR:Later K K w w:=.refl K w
 have gC:∀ i x,Hc.get i=some x→H.get i=some x:=fun i x hx=>hsub i x (by rw [get_append,hx])
 have gR:∀ i x,R.get i=some x→H.get i=some x:=fun i x hx=>hsub i x (by
  rw [get_append]
  cases hh:Hc.get i with
  | none=>exact hx
  | some y=>rw [Zc d1 i y hh] at hx;cases hx)
 have nC:∀ i x,R.get i=some x→Hc.get i=none:=fun i x hx=>by
  cases hh:Hc.get i with
  | none=>rfl
  | some y=>rw [Zc d1 i y hh] at hx;cases hx
 have nC':∀ i x,R.get i=some x→Hc'.get i=none:=fun i x hx=>by
  cases hh:Hc'.get i with
  | none=>rfl
  | some y=>rw [Zc d2 i y hh] at hx;cases hx
 have hpinC:∀ {A:HEnv} {us:Nat→Value} {i:Nat} {x:HE},HEnv.get (A++zJ us ps) i=some x→x.live=true→A.get i=some x:=by
  intro A us i x hx hl
  rw [get_append] at hx
  cases hh:A.get i with
  | some z=>rw [hh] at hx;exact hx
  | none =>
   rw [hh] at hx
   obtain ⟨_,_,rfl⟩:=Yz hx
   simp [HE.live] at hl
 obtain ⟨g',hg'⟩:∃ g':Base,g'=⟨g.w0,K,g.w1,g.ds,w,fun b=>g.pr b∨∃ i x,R.get i=some x∧x.live=true∧zA (ρ i)=some b⟩:=⟨_,rfl⟩
 have hfs:FS g' K ρ (Hc++zJ ρ ps) w:=by
  subst hg'
  refine ⟨hf.below,fun _ _ h=>h,fun _ _ h=>.inl h,hf.lt,hf.others,⟨?_,fun _ _ _=>rfl⟩,?_,?_,?_⟩
  ·rintro b (hb|⟨i,x,hi,hl,hb⟩)
   ·exact ⟨(hf.pt.same b hb).1,rfl,fun _=>Iff.rfl⟩
   ·exact ⟨((hf.heap.ok i x (gR i x hi)).block_lt hl hb).2,rfl,fun _=>Iff.rfl⟩
  ·intro i x b hi hl hb
   have hC:=hpinC hi hl
   rintro (hp|⟨j,y,hj,hly,hbj⟩)
   ·exact hf.away i x b (gC i x hC) hl hb hp
   ·have hne:i≠j:=by rintro rfl;rw [nC i y hj] at hC;cases hC
    exact hf.heap.apart i j x y b hne (gC i x hC) (gR j y hj) hl hly hb hbj
  ·intro i x hi
   rw [get_append] at hi
   cases hh:Hc.get i with
   | some y =>
    rw [hh] at hi;simp only [Option.some.injEq] at hi;subst hi
    have hok:=hf.heap.ok i y (gC i y hh)
    have hk:∀ j,(HEnv.get Hc j).isSome=true→(HEnv.get (Hc++zJ ρ ps) j).isSome=true∧ρ j=ρ j:=fun j hj=>⟨zH j hj,rfl⟩
    cases y with
    | cell v=>obtain ⟨b,t,arr,u,q1,q2,q3,q4,q5,q6⟩:=hok;exact ⟨b,t,arr,u,q1,q2,q3,(q4.refs (Zw i2 i v hh)).keeps hlatR hk,q5,q6⟩
    | pin v u=>exact (ARel.refs hok (qP i2 i v u hh)).keeps hlatR hk
    | row t sz es=>exact hok
    | mrow t sz es=>exact hok
    | dead=>exact hok
    | obj X=>exact hok
   | none =>
    rw [hh] at hi
    obtain ⟨q1,q2,rfl⟩:=Yz hi
    exact .own _ (zH _ (i7' _ q2).1)
  ·intro i j x y b hij hi hj lx ly bx bj
   exact hf.heap.apart i j x y b hij (gC i x (hpinC hi lx)) (gC j y (hpinC hj ly)) lx ly bx bj
 have hpa:=VG (a:=a) he hargs
 have hall:ZQ K w ρ (Hc++zJ ρ ps) ars (xs.toList.map a.eval) :=
  ⟨hpa.1,fun k c v hc hv=>((hpa.2 k c v hc hv).refs (qM i1 k c hc)).keeps hlatR fun j hj=>⟨zH j hj,rfl⟩⟩
 have hrun:(execOp a.eval o).run P w=.ok (.enter f (xs.toList.map a.eval).toArray) w:=by
  have e:(xs.toList.map a.eval).toArray=xs.map a.eval:=by rw [←Array.toList_map,Array.toArray_toList]
  rw [e]
  simp [execOp,hop,resolve,Act.eval,Deferred.ofValue,invoke,yX (hc ρ).stands]
 unfold Oper.wp
 rw [hrun]
 simp only [Oper.upon]
 refine ((hc ρ).calls g' K ρ w _ (by subst hg';exact hw1) hfs hall).mono fun e w' ⟨v,K',ρ',e1,hf',hv⟩=>?_
 subst e1
 have hlat:Later K K' w w':=by subst hg';exact ⟨hf'.old,hf'.pt.kept⟩
 have hprot:∀ b,(g.pr b∨∃ i x,R.get i=some x∧x.live=true∧zA (ρ i)=some b)→b < w'.heap.size∧w'.heap[b]?=w.heap[b]?∧∀ o,K' b o↔K b o:=by subst hg';exact hf'.pt.same
 have haway:∀ i x b,Hc'.get i=some x→x.live=true→zA (ρ' i)=some b→¬ (g.pr b∨∃ i x,R.get i=some x∧x.live=true∧zA (ρ i)=some b):=by
  subst hg';exact fun i x b hi=>hf'.away i x b (by rw [get_append,hi])
 obtain ⟨ρ2,hρ2⟩:∃ ρ2:Nat→Value,∀ j,ρ2 j=if (Hc'.get j).isSome then ρ' j else ρ j:=⟨_,fun _=>rfl⟩
 have r1:∀ j,(Hc'.get j).isSome=true→ρ2 j=ρ' j:=fun j hj=>by rw [hρ2,if_pos hj]
 have r2:∀ j,Hc'.get j=none→ρ2 j=ρ j:=fun j hj=>by rw [hρ2,hj];rfl
 have hkC:∀ j,(HEnv.get Hc' j).isSome=true→(HEnv.get (Hc'++R) j).isSome=true∧ρ2 j=ρ' j:=fun j hj=>⟨zH j hj,r1 j hj⟩
 have hps:∀ i∈ps,ρ' i=ρ i:=fun i hi=>by
  have hnone:Hc'.get (1000 + i)=none:=by
   cases hh:Hc'.get (1000 + i) with
   | none=>rfl
   | some x=>have:=YV d4 _ x hh;omega
  have:=hf'.heap.ok (1000 + i) _ (by rw [get_append,hnone];exact zaF hi)
  have this:ARel K' w' ρ' (Hc'++zJ ρ ps) (.own i) (ρ i):=this
  generalize hu:ρ i=u at this
  cases this with
  | own _ _=>rfl
 have hkR:∀ j,(HEnv.get (R++Xk ps) j).isSome=true→(HEnv.get (Hc'++R) j).isSome=true∧ρ2 j=ρ j:=fun j hj=>by
  rw [get_append] at hj
  cases hh:R.get j with
  | some x =>
   have hn:=nC' j x hh
   exact ⟨by rw [get_append,hn,hh];rfl,r2 j hn⟩
  | none =>
   rw [hh] at hj
   have hm:=zaG hj
   have hs':=(i7' j hm).2
   exact ⟨zH j hs',by rw [r1 j hs',hps j hm]⟩
 have hfs2:FS g K' ρ2 (Hc'++R) w':=by
  have b1:Below g.w0.heap.size g.w0 w':=by subst hg';exact hf'.below
  have b3:∀ b o,K' b o→K b o∨g.w0.heap.size≤b:=by subst hg';exact hf'.new
  have b5:KeepsOthers g.w1 w':=by subst hg';exact hf'.others
  have bB:HRel K' w' g.w0.heap.size ρ' (Hc'++zJ ρ ps):=by subst hg';exact hf'.heap
  refine ⟨b1,fun b o h=>hlat.sub b o (hf.old b o h),fun b o hk=>(b3 b o hk).elim (hf.new b o) .inr,hf'.lt,b5,⟨fun b hb=>?_,fun b o h0=>(hlat.cell b o (hf.old b o h0)).trans (hf.pt.kept b o h0)⟩,fun i x b hi hl hb=>?_,fun i x hi=>?_,fun i j x y b hij hi hj lx ly bx bj=>?_⟩
  ·obtain ⟨p1,p2,p3⟩:=hprot b (.inl hb)
   obtain ⟨q1,q2,q3⟩:=hf.pt.same b hb
   exact ⟨p1,p2.trans q2,fun o=>(p3 o).trans (q3 o)⟩
  ·rw [get_append] at hi
   cases hh:Hc'.get i with
   | some y =>
    rw [hh] at hi;simp only [Option.some.injEq] at hi;subst hi
    rw [r1 i (by rw [hh];rfl)] at hb
    exact fun hp=>haway i y b hh hl hb (.inl hp)
   | none =>
    rw [hh] at hi
    rw [r2 i hh] at hb
    exact hf.away i x b (gR i x hi) hl hb
  ·rw [get_append] at hi
   cases hh:Hc'.get i with
   | some y =>
    rw [hh] at hi;simp only [Option.some.injEq] at hi;subst hi
    rw [r1 i (by rw [hh];rfl)]
    have hok:=bB.ok i y (by rw [get_append,hh])
    have hl':=Later.refl K' w'
    cases y with
    | cell v=>obtain ⟨b,t,arr,u,q1,q2,q3,q4,q5,q6⟩:=hok;exact ⟨b,t,arr,u,q1,q2,q3,(q4.refs (Zw i3 i v hh)).keeps hl' hkC,q5,q6⟩
    | pin v u=>exact (ARel.refs hok (qP i3 i v u hh)).keeps hl' hkC
    | row t sz es=>exact hok
    | mrow t sz es=>exact hok
    | dead=>exact hok
    | obj X=>exact hok
   | none =>
    rw [hh] at hi
    rw [r2 i hh]
    have hok:=hf.heap.ok i x (gR i x hi)
    have hsame:x.live=true→∀ b,zA (ρ i)=some b→w'.heap[b]?=w.heap[b]?∧∀ o,K' b o↔K b o:=fun hl b hb=>(hprot b (.inr ⟨i,x,hi,hl,hb⟩)).2
    cases x with
    | cell v =>
     obtain ⟨b,t,arr,u,q1,q2,q3,q4,q5,q6⟩:=hok
     obtain ⟨s1,s2⟩:=hsame rfl b (by rw [q1];rfl)
     exact ⟨b,t,arr,u,q1,q2,by rw [s1];exact q3,(q4.refs (Zw i5 i v hi)).keeps hlat hkR,q5,fun o hk=>q6 o ((s2 o).1 hk)⟩
    | pin v u=>exact (ARel.refs hok (qP i5 i v u hi)).keeps hlat hkR
    | row t sz es =>
     obtain ⟨xs,q1,q2,q3,q4⟩:=hok
     refine ⟨xs,qL q1 fun b hb=>(hsame rfl b hb).1,q2,fun k e he=>?_,fun b hb o=>?_⟩
     ·obtain ⟨c1,c2⟩:=q3 k e he
      exact ⟨c1,fun k c hc=>let ⟨v,h4,h5,h6⟩:=c2 k c hc;⟨v,h4,h5,h6.later hlat⟩⟩
     ·rw [(hsame rfl b ((Zy q1 b).2 hb)).2 o];exact q4 b hb o
    | mrow t sz es =>
     obtain ⟨xs,q1,q2,q3,q4⟩:=hok
     refine ⟨xs,qL q1 fun b hb=>(hsame rfl b hb).1,q2,fun k e he=>?_,fun b hb o hk=>?_⟩
     ·obtain ⟨c1,c2⟩:=q3 k e he
      exact ⟨c1,fun k c hc=>let ⟨v,h4,h5,h6⟩:=c2 k c hc;⟨v,h4,h5,h6.later hlat⟩⟩
     ·exact q4 b hb o (((hsame rfl b ((Zy q1 b).2 hb)).2 o).1 hk)
    | dead=>trivial
    | obj X =>
     obtain ⟨b,ob,q1,q2,q3,q4,q5⟩:=hok
     obtain ⟨s1,s2⟩:=hsame rfl b (by rw [q1];rfl)
     exact ⟨b,ob,q1,q2,by rw [s1];exact q3,q4,fun o hk=>q5 o ((s2 o).1 hk)⟩
  ·rw [get_append] at hi hj
   cases hhi:Hc'.get i with
   | some x' =>
    rw [hhi] at hi;simp only [Option.some.injEq] at hi;subst hi
    rw [r1 i (by rw [hhi];rfl)] at bx
    cases hhj:Hc'.get j with
    | some y' =>
     rw [hhj] at hj;simp only [Option.some.injEq] at hj;subst hj
     rw [r1 j (by rw [hhj];rfl)] at bj
     exact bB.apart i j x' y' b hij (by rw [get_append,hhi]) (by rw [get_append,hhj]) lx ly bx bj
    | none =>
     rw [hhj] at hj;rw [r2 j hhj] at bj
     exact haway i x' b hhi lx bx (.inr ⟨j,y,hj,ly,bj⟩)
   | none =>
    rw [hhi] at hi;rw [r2 i hhi] at bx
    cases hhj:Hc'.get j with
    | some y' =>
     rw [hhj] at hj;simp only [Option.some.injEq] at hj;subst hj
     rw [r1 j (by rw [hhj];rfl)] at bj
     exact haway j y' b hhj ly bj (.inr ⟨i,x,hi,lx,bx⟩)
    | none =>
     rw [hhj] at hj;rw [r2 j hhj] at bj
     exact hf.heap.apart i j x y b hij (gR i x hi) (gR j y hj) lx ly bx bj
 have he2:EnvR K' w' ρ2 (Hc'++R) env2 a.tmps:=fun t av ht=>by
  obtain ⟨u,u1,u2⟩:=he t av (hs t av ht)
  exact ⟨u,u1,(u2.refs (WU i6 t av ht)).keeps hlat hkR⟩
 refine hKK _ _ (h.go _ _ ⟨yT h1,put_defers h2,K',ρ2,hfs2,?_⟩)
 rw [hd]
 exact qW h1 hdt he2 ((hv.refs i4).keeps (Later.refl K' w') hkC)
end
structure ACallPan (P:Program) (f:FuncId) (args:List AV) (H:HEnv) (v:Value) (lone:Bool:=false):Prop where
 stands:Vr P f
 calls:∀ (g:Base) (K:KK) (ρ:Nat→Value) (w:World) (vs:List Value),(lone=true→g.w1.heap.size=0)→FS g K ρ H w→ZQ K w ρ H args vs →
  Calls P f vs.toArray w fun e w'=>e=.panicked [{ v:=v,recovered:=false }]∧∃ K' ρ',FS g K' ρ' [] w'
theorem zq {P:Prop}:false=true→P:=fun h=>nomatch h
inductive Out where
 | ret (r:AV) (H':HEnv)
 | pan (v:Value)
def QU (P:Program) (f:FuncId) (args:List AV) (H:HEnv) (o:Out) (lone:Bool:=false):Prop :=
 match o with
 | .ret r H'=>ACallM P f args H r H' lone
 | .pan v=>ACallPan P f args H v lone
def zlH (tb:Tab) (rs:List ResultVar):Out→QC
 | .ret r H'=>ziz tb rs r H'
 | .pan v=>fun ex _ _=>ex=.panic [{ v:=v,recovered:=false }]
structure AOX (P:Program) (n:Nat) (g:Base) (ops:Array Oper) (l:List Oper) (env:Env) (H:HEnv) (Q:QC):Prop where
 go:∀ a w,Inv n g env H a w→wpList P ops (fun e a' w'=>∃ env' H',Inv n g env' H' a' w'∧(e=.normal∨∃ ch,e=.panic ch)∧Q e env' H') l a w
section
variable {P:Program} {tb:Tab} {n:Nat} {g:Base} {K K':KK} {w w':World} {ρ ρ':Nat→Value} {H H':HEnv} {env:Env} {a:Act} {ops:List Oper} {o:Oper} {rest:List Oper} {Q:Env→HEnv→Prop} {f:FuncId} {args:List AV} {r:AV} {QQ:QC}
theorem Xq {R:Exit→Act→World→Prop} {arr:Array Oper} {l2:List Oper}:∀ {l1:List Oper} {a:Act} {w:World},wpList P arr (fun e a' w'=>e=.normal∧wpList P arr R l2 a' w') l1 a w→wpList P arr R (l1++l2) a w
 | [],a,w,h=>h.2
 | o::l1,a,w,h=>by
  rw [List.cons_append]
  unfold wpList at h ⊢
  split
  ·rename_i hw
   rw [if_pos hw] at h
   rcases h with h|⟨h1,a',w',h2,_⟩
   ·refine .inl ?_
    unfold Oper.wp at h ⊢
    generalize (execOp a.eval o).run P w=r at *
    cases r with
    | ok nx w' =>
     cases nx <;> simp only [Oper.upon] at h ⊢ <;>
      first
       | exact Xq h
       | exact Calls.mono h (fun e w'' he=>by
         cases e with
         | returned v=>exact Xq he
         | panicked ch=>cases he.1
         | outgrown=>obtain ⟨_,_,he,_⟩:=he;cases he)
       | exact Rows.mono h (fun _ _ he=>Xq he)
    | halt x w'=>cases x <;> simp only [Oper.upon] at h ⊢ <;> first|exact h.elim|(obtain ⟨he,_⟩:=h;cases he)
   ·cases h2
  ·rename_i hw
   rw [if_neg hw] at h
   exact Xq h
theorem ztY {l1 l2:List Oper} (h:AO P n g ops.toArray l1 env H (fun env' H'=>AOX P n g ops.toArray l2 env' H' QQ)):AOX P n g ops.toArray (l1++l2) env H QQ :=
 ⟨fun a w hi=>Xq (Zl (fun e a' w' ⟨env',H',h1,h2,h3⟩=>⟨h2,h3.go a' w' h1⟩) (h.go a w hi))⟩
theorem ztw (k:Nat) {l l1 l2:List Oper} (h1:l.take k=l1) (h2:l.drop k=l2) (h:AO P n g ops.toArray l1 env H (fun env' H'=>AOX P n g ops.toArray l2 env' H' QQ)):AOX P n g ops.toArray l env H QQ:=by
 have:=ztY h
 rwa [←h1,←h2,List.take_append_drop] at this
theorem zuj (h:QQ .normal env H):AOX P n g ops.toArray [] env H QQ:=⟨fun a w hi=>⟨env,H,hi,.inl rfl,h⟩⟩
theorem YE {l:List Oper} (h:AO P n g ops.toArray l env H (fun env' H'=>QQ .normal env' H')):AOX P n g ops.toArray l env H QQ :=
 ⟨fun a w hi=>Zl (fun _ _ _ ⟨env',H',h1,h2,h3⟩=>⟨env',H',h1,.inl h2,by rw [h2];exact h3⟩) (h.go a w hi)⟩
theorem zhh:¬ LetsOut (fun e a w=>∃ env' H',Inv n g env' H' a w∧(e=.normal∨∃ ch,e=.panic ch)∧QQ e env' H'):=fun ⟨_,_,_,_,_,hx,_⟩=>by rcases hx with hx|⟨_,hx⟩ <;> cases hx
theorem zn8 {id:Nat} (h:AOX P n g ops.toArray ops env H QQ) (hnd:qo ops=true:=by kernel_rfl):AW P n g (.region id ops.toArray false) env H QQ :=
 ⟨fun a w hi r d=>wpIn_mono (wpIn_region_lit (za8 (r:=r) (n:=d) zhh hnd (h.go a w hi))) (fun e a' w' ⟨env',H',h1,_,h3⟩=>⟨env',H',h1,h3⟩)⟩
theorem yJ {xs:Array Operand} {ts:Array TypeId} {ars:List AV} {v:Value} (Hc:HEnv) {lone:Bool} (hw1:lone=true→g.w1.heap.size=0) (hg:guardE ops env o=some true)
  (hop:o.op=.call { callee:=.value (.func f),args:=xs,argTypes:=ts }) (hargs:avs env xs.toList=some ars) (hfit:Ye H Hc (QN 0 ars)) (hc:ACallPan P f ars Hc v lone)
  (h:QQ (.panic [{ v:=v,recovered:=false }]) [] []):AOX P n g ops.toArray (o::rest) env H QQ:=by
 refine ⟨fun a w hinv=>?_⟩
 have hw:=yB hinv hg
 obtain ⟨h1,h2,K,ρ,hf,he⟩:=hinv
 refine wpList_step fun KK hKK=>?_
 rw [if_pos hw]
 have hpa:=VG (a:=a) he hargs
 have hall:ZQ K w ρ Hc ars (xs.toList.map a.eval) :=
  ⟨hpa.1,fun k c v hc hv=>(hpa.2 k c v hc hv).refs (by
   have hin:=hfit.2
   simp only [Bool.and_eq_true] at hin
   have key:∀ (l:List AV) (b k:Nat) (c:AV),l[k]?=some c→YI Hc (QN b l)=true→Zh Hc c=true:=by
    intro l
    induction l with
    | nil=>intro b k c hc;simp at hc
    | cons x l ih =>
     intro b k c hc hb
     simp only [QN,YI,Bool.and_eq_true] at hb
     cases k with
     | zero=>simp at hc;subst hc;exact hb.1
     | succ k=>simp at hc;exact ih _ k c hc hb.2
   exact key ars 0 k c hc hin.1)⟩
 have hrun:(execOp a.eval o).run P w=.ok (.enter f (xs.toList.map a.eval).toArray) w:=by
  have e:(xs.toList.map a.eval).toArray=xs.map a.eval:=by rw [←Array.toList_map,Array.toArray_toList]
  rw [e]
  simp [execOp,hop,resolve,Act.eval,Deferred.ofValue,invoke,yX hc.stands]
 unfold Oper.wp
 rw [hrun]
 simp only [Oper.upon]
 refine (hc.calls g K ρ w _ hw1 (hf.narrow hfit) hall).mono fun e w' ⟨e1,K',ρ',hf'⟩=>?_
 subst e1
 exact ⟨[],[],⟨h1,h2,K',ρ',hf',fun t av ht=>by simp [Env.get_nil] at ht⟩,.inr ⟨_,rfl⟩,h⟩
theorem zjE {x:Operand} {v:Value} {t:TypeId} (hg:guardE ops env o=some true) (hop:o.op=.panic x) (hx:env.pv H x=some (.base (.iface t v))) (h:QQ (.panic [{ v:=.iface t v,recovered:=false }]) env H):AOX P n g ops.toArray (o::rest) env H QQ:=by
 refine ⟨fun a w hinv=>?_⟩
 have hw:=yB hinv hg
 have hinv':=hinv
 obtain ⟨h1,h2,K,ρ,hf,he⟩:=hinv
 refine wpList_step fun KK hKK=>?_
 rw [if_pos hw]
 have hxr:=yH (a:=a) hf (x:=x) (fun av hh=>yL he hh) hx
 unfold Oper.wp
 generalize hxv:a.eval x=xv at hxr
 cases hxr
 have hrun:(execOp a.eval o).run P w=.halt (.panic (.iface t v)) w:=by
  simp [execOp,hop,hxv,Instr.panic]
 rw [hrun]
 exact ⟨env,H,hinv',.inr ⟨_,rfl⟩,h⟩
end
section
variable {P:Program} {tb:Tab} {n:Nat} {H H':HEnv} {f:FuncId} {args:List AV}
theorem Vw {fn:Func} {c:Code} {v:Value} (hf:P.funcs[f]?=some fn) (hb:fn.body=some c) (hn:(fn.name == "runtime.NumGoroutine")=false) (hnt:fn.ntmps=n) (hargs:args.length≤n)
  {lone:Bool} (h:∀ g:Base,(lone=true→g.w1.heap.size=0)→AW P n g c (QN 0 args) H (fun ex _ _=>ex=.panic [{ v:=v,recovered:=false }])):ACallPan P f args H v lone:=by
 refine ⟨⟨fn,hf,by simp [hb],hn⟩,fun g0 K ρ w vs hw1 hfs0 hv=>?_⟩
 obtain ⟨g,hg0⟩:∃ g:Base,g=⟨g0.w0,g0.K0,g0.w1,[],g0.wp,g0.pr⟩:=⟨_,rfl⟩
 have hfs:FS g K ρ H w:=by subst hg0;exact ⟨hfs0.below,hfs0.old,hfs0.new,hfs0.lt,hfs0.others,⟨hfs0.pt.same,hfs0.pt.kept⟩,hfs0.away,hfs0.heap⟩
 refine calls_of_wp hf hb ?_
 have hlen:vs.length=args.length:=hv.1
 refine wp_mono (wpIn_wide.1 ((h g (by subst hg0;exact hw1)).go _ w ⟨by simp [hnt];omega,by subst hg0;rfl,K,ρ,hfs,?_⟩ none 0)) ?_
 ·intro t av hg
  obtain ⟨_,hp⟩:=Qy args 0 t av hg
  have hlt:t < vs.length:=by rw [hlen];exact (List.getElem?_eq_some_iff.1 hp).1
  refine ⟨vs[t],?_,hv.2 t av _ hp (List.getElem?_eq_getElem hlt)⟩
  rw [Array.getElem?_append_left (by simpa using hlt)]
  simp [hlt]
 ·rintro e a' w' ⟨env1,H1,hi,rfl⟩
  obtain ⟨_,h2,K',ρ',hf',_⟩:=hi
  have hf2:FS g K' ρ' [] w':=hf'.narrow (e:=[]) ⟨zk,rfl⟩
  refine ⟨by rw [h2];subst hg0;rfl,rfl,K',ρ',?_⟩
  subst hg0;exact ⟨hf2.below,hf2.old,hf2.new,hf2.lt,hf2.others,⟨hf2.pt.same,hf2.pt.kept⟩,hf2.away,hf2.heap⟩
theorem yY (htb:yA P tb) {fn:Func} {c:Code} {o:Out} (hf:P.funcs[f]?=some fn) (hb:fn.body=some c) (hn:(fn.name == "runtime.NumGoroutine")=false) (hnt:fn.ntmps=n) (hargs:args.length≤n) (rs:List ResultVar) (hrs:fn.results.toList=rs)
  {lone:Bool} (h:∀ g:Base,(lone=true→g.w1.heap.size=0)→AW P n g c (QN 0 args) H (zlH tb rs o)):QU P f args H o lone:=by
 cases o with
 | ret r H'=>exact zC htb hf hb hn hnt hargs rs hrs h
 | pan v=>exact Vw hf hb hn hnt hargs h
end
end Go.Cg
namespace Go.Cg
open Go.RowKit Go.ChangeShapes Go.WideShapes Go.ChangeAt Go.Deep
def KW (w:World):KK:=fun b _=>b < w.heap.size
section
variable {H:Type} {enc:TypeId × Value→H} {P:Program} {w:World}
def Rd (enc:TypeId × Value→H) (P:Program) (w:World) (t:TypeId) (sz:Nat) (X:List PV→Prop):Prop :=
 P.cellsOf t=sz∧∀ fuel cs x,DataW.trod enc P w 0 (fun _=>true) true fuel t cs=some x→∃ pvs,X pvs∧PRels (KW w) w pvs cs∧cs.length=sz∧(∀ v∈cs,v.oneCell'=true)
theorem Rd.mono {t:TypeId} {sz:Nat} {X Y:List PV→Prop} (h:Rd enc P w t sz X) (hxy:∀ ps,X ps→Y ps):Rd enc P w t sz Y :=
 ⟨h.1,fun fuel cs x hx=>let ⟨ps,h1,h2⟩:=h.2 fuel cs x hx;⟨ps,hxy ps h1,h2⟩⟩
theorem zj8 {t:TypeId} {k:IntKind} (ht:P.underlying t=some (.int k)) (hc:P.cellsOf t=1):Rd enc P w t 1 (fun ps=>∃ n,(Lit.int k n).wf=true∧ps=[.base (.int k n)]):=by
 refine ⟨hc,fun fuel cs x hx=>?_⟩
 obtain ⟨n,rfl,_,hw⟩:=DataW.trod_int ht hx
 exact ⟨_,⟨n,hw,rfl⟩,.cons (.base _ rfl) .nil,rfl,by simp [Value.oneCell']⟩
theorem zuh {t:TypeId} (ht:P.underlying t=some .bool) (hc:P.cellsOf t=1):Rd enc P w t 1 (fun ps=>∃ b,ps=[.base (.bool b)]):=by
 refine ⟨hc,fun fuel cs x hx=>?_⟩
 obtain ⟨b,rfl,_⟩:=DataW.trod_bool ht hx
 exact ⟨_,⟨b,rfl⟩,.cons (.base _ rfl) .nil,rfl,by simp [Value.oneCell']⟩
theorem zrd {t:TypeId} (ht:P.underlying t=some .string) (hc:P.cellsOf t=1):Rd enc P w t 1 (fun ps=>∃ s:ByteArray,s.size≤maxLen∧ps=[.base (.string s)]):=by
 refine ⟨hc,fun fuel cs x hx=>?_⟩
 obtain ⟨s,rfl,_,hs⟩:=DataW.trod_string ht hx
 exact ⟨_,⟨s,hs,rfl⟩,.cons (.base _ (by simpa [YJ] using hs)) .nil,rfl,by simp [Value.oneCell']⟩
theorem Vu {t e:TypeId} {sz:Nat} {α:Type} [Inhabited α] {G:α→Prop} {f:α→PV} (ht:P.underlying t=some (.slice e)) (hc:P.cellsOf t=1) (h0:0 < sz) (he:Rd enc P w e sz (fun ps=>∃ x:α,G x∧ps=(f x).cells)) :
  Rd enc P w t 1 (fun ps=>∃ l:List α,(∀ x∈l,G x)∧ps=[.slc sz (l.map f) false]):=by
 refine ⟨hc,fun fuel cs x hx=>?_⟩
 obtain ⟨hes,hel⟩:=he
 rcases open_slice ht hx with ⟨rfl,_⟩|⟨a,len,cap,m,n,D,Pl,rfl,_,hl,hm,hmm,_,hall⟩
 ·exact ⟨_,⟨[],by simp,rfl⟩,.cons (.nil sz false) .nil,rfl,by simp [Value.oneCell']⟩
 ·simp only [if_true] at hmm
  subst hmm
  rw [hes] at hall
  by_cases hcap:m=0
  ·subst hcap
   obtain rfl:len=0:=by omega
   exact ⟨_,⟨[],by simp,rfl⟩,.cons (.emp sz false a) .nil,rfl,by simp [Value.oneCell']⟩
  ·have hx:∀ i,i < len→∃ y:α × List Value,G y.1∧w.cells? 0 (a.add (i * sz)) sz=some y.2∧PRels (KW w) w (f y.1).cells y.2∧y.2.length=sz∧(∀ v∈y.2,v.oneCell'=true):=by
    intro i hi
    obtain ⟨cs',h1,h2⟩:=hall i (by omega)
    obtain ⟨pvs,⟨x,hg,rfl⟩,h4,h5,h6⟩:=hel _ _ _ h2
    exact ⟨(x,cs'),hg,h1,h4,h5,h6⟩
   obtain ⟨F,hF⟩:=choose_lt hx
   obtain ⟨b,o,spot⟩:=a
   have hspot:spot=none:=by
    obtain ⟨cs',h1,_⟩:=hall 0 (by omega)
    obtain ⟨_,h2,h3⟩:=World.cells?_some h1
    have:=h3 0 h0
    have h4:cs'[0]?=some (cs'[0]'(by omega)):=List.getElem?_eq_getElem _
    rw [h4] at this
    simp only [Nat.zero_mul] at this
    have:=World.cell?_spot this
    simpa [Addr.add] using this
   subst hspot
   refine ⟨_,⟨(List.range len).map fun i=>(F i).1,?_,rfl⟩,.cons ?_ .nil,rfl,by simp [Value.oneCell']⟩
   ·intro x hx
    simp only [List.mem_map,List.mem_range] at hx
    obtain ⟨i,hi,rfl⟩:=hx
    exact (hF i hi).1
   ·have hlen:(((List.range len).map fun i=>(F i).1).map f).length=len:=by simp
    have hget:∀ i e,(((List.range len).map fun i=>(F i).1).map f)[i]?=some e→i < len∧e=f (F i).1:=by
     intro i e he
     have hi:i < len:=by have:=(List.getElem?_eq_some_iff.1 he).1;rw [hlen] at this;exact this
     refine ⟨hi,?_⟩
     simp [hi] at he
     exact he.symm
    have:=PRel.slc (K:=KW w) (w:=w) sz (((List.range len).map fun i=>(F i).1).map f) false b o m (fun i=>(F i).2) h0 (by rw [hlen];exact hl) (by simp) (by rw [hlen];omega) hm
     (fun i e he=>by
      obtain ⟨hi,rfl⟩:=hget i e he
      obtain ⟨_,h1,h2,h3,h4⟩:=hF i hi
      refine ⟨by rw [←h2.1];exact h3,h3,fun k v hv=>?_⟩
      have hk:k < sz:=by rw [←h3];exact (List.getElem?_eq_some_iff.1 hv).1
      obtain ⟨_,_,h5⟩:=World.cells?_some h1
      have h6:=h5 k hk
      rw [hv,Addr.add_lit,Addr.add_lit] at h6
      have h7:b < w.heap.size:=World.cells?_block h1 h0 |> (by simpa [Addr.add_lit] using ·)
      exact ⟨h7,h6,h4 v (List.mem_of_getElem? hv)⟩)
     (fun i e k c v he hc hv=>by
      obtain ⟨hi,rfl⟩:=hget i e he
      exact (hF i hi).2.2.1.2 k c v hc hv)
    rw [hlen] at this
    exact this
def zua:List (List PV→Prop)→List PV→Prop
 | [],ps=>ps=[]
 | X::r,ps=>∃ a b,X a∧zua r b∧ps=a++b
def zi5 (enc:TypeId × Value→H) (P:Program) (w:World) (n:Nat):List Field→List (List PV→Prop)→Nat→Prop
 | [],[],off=>off=n
 | f::fs,X::Xs,off=>f.offset=off∧∃ sz,Rd enc P w f.type sz X∧zi5 enc P w n fs Xs (off + sz)
 | _,_,_=>False
theorem Vm {n:Nat}:zi5 enc P w n [] [] n:=rfl
theorem zW {n sz off:Nat} {f:Field} {fs:List Field} {X:List PV→Prop} {Xs:List (List PV→Prop)} (ho:f.offset=off) (hr:Rd enc P w f.type sz X) (h:zi5 enc P w n fs Xs (off + sz)):zi5 enc P w n (f::fs) (X::Xs) off:=⟨ho,sz,hr,h⟩
theorem zme {n m:Nat} {cs:List Value} (hl:cs.length=n):∀ {fs:List Field} {Xs:List (List PV→Prop)} {off:Nat},zi5 enc P w n fs Xs off →
  (∀ (i:Nat) (f:Field),fs[i]?=some f→∃ x,DataW.trod enc P w 0 (fun _=>true) true m f.type ((cs.drop f.offset).take (P.cellsOf f.type))=some x) →
  ∃ pvs,zua Xs pvs∧PRels (KW w) w pvs (cs.drop off)∧(∀ v∈cs.drop off,v.oneCell'=true)
 | [],[],off,h,_=>by
  have h:off=n:=h
  subst h
  have:cs.drop off=[]:=by rw [←hl];simp
  rw [this]
  exact ⟨[],rfl,.nil,by simp⟩
 | f::fs,X::Xs,off,h,hall=>by
  obtain ⟨rfl,sz,⟨h1,h2⟩,h3⟩:=h
  obtain ⟨x,hx⟩:=hall 0 f rfl
  obtain ⟨pa,a1,a2,a3,a4⟩:=h2 _ _ _ hx
  obtain ⟨pb,b1,b2,b3⟩:=zme hl h3 (fun i g hg=>hall (i + 1) g (by simpa using hg))
  have e:cs.drop f.offset=(cs.drop f.offset).take sz++cs.drop (f.offset + sz):=by
   rw [←List.drop_drop,List.take_append_drop]
  rw [h1] at a2 a3 a4
  rw [e]
  exact ⟨pa++pb,⟨pa,pb,a1,b1,rfl⟩,a2.append b2,fun v hv=>(List.mem_append.1 hv).elim (a4 v) (b3 v)⟩
theorem Xn {t:TypeId} {fs:Array Field} {n:Nat} {Xs:List (List PV→Prop)} (ht:P.underlying t=some (.struct fs)) (hc:P.cellsOf t=n) (hf:zi5 enc P w n fs.toList Xs 0):Rd enc P w t n (zua Xs):=by
 refine ⟨hc,fun fuel cs x hx=>?_⟩
 obtain ⟨xs,m,_,_,hl,hxs,hall⟩:=DataW.trod_struct ht hx
 have:=zme (m:=m) (by rw [hl,hc]) hf (fun i f hf=>by
  have hi:i < fs.size:=by simpa using (List.getElem?_eq_some_iff.1 hf).1
  have:=hall i f (by simpa using hf)
  exact ⟨_,this.trans (List.getElem?_eq_getElem (by omega))⟩)
 simp only [List.drop_zero] at this
 obtain ⟨pvs,h1,h2,h3⟩:=this
 exact ⟨pvs,h1,h2,by rw [hl,hc],h3⟩
theorem zu7 {t:TypeId} {X:List PV→Prop} (h:Rd enc P w t 1 X) {v:Value} {d:DataW H} {ps:List MemPlace} (hv:v.cells=#[v]) (ht:DataW.Trod enc P w 0 (fun _=>true) true t v d ps):∃ p,X [p]∧PRel (KW w) w p v:=by
 obtain ⟨fuel,hx⟩:=ht
 obtain ⟨pvs,h1,h2,_,_⟩:=h.2 _ _ _ hx
 rw [hv] at h2
 have hl:pvs.length=1:=by simpa using h2.1.symm
 obtain ⟨p,rfl⟩:=List.length_eq_one_iff.1 hl
 exact ⟨p,h1,h2.2 0 p v (by simp) (by simp)⟩
theorem zvJ {t:TypeId} {n:Nat} {X:List PV→Prop} (h:Rd enc P w t n X) {cs:Array Value} {d:DataW H} {ps:List MemPlace} (ht:DataW.Trod enc P w 0 (fun _=>true) true t (.agg cs) d ps):∃ pvs,X pvs∧PRel (KW w) w (.agg pvs) (.agg cs):=by
 obtain ⟨fuel,hx⟩:=ht
 obtain ⟨pvs,h1,h2,_,h4⟩:=h.2 _ _ _ hx
 refine ⟨pvs,h1,?_⟩
 have:=PRel.agg pvs cs.toList h2.1 (by simpa [Value.cells] using h4) (by simpa [Value.cells] using h2.2)
 simpa using this
theorem zq0 {t e:TypeId} {v:Value} (ht:P.underlying t=some (.slice e)) {base:Nat} (h:Value.okWide P w .any base t v):v.cells=#[v]:=by
 simp only [Value.okWide,ht,Cell.okWide,Cell.ok] at h
 cases v <;> first|rfl|simp at h
theorem okWide_int_one {t:TypeId} {k:IntKind} {v:Value} (ht:P.underlying t=some (.int k)) {base:Nat} (h:Value.okWide P w .any base t v):v.cells=#[v]:=by
 simp only [Value.okWide,ht,Cell.okWide,Cell.ok] at h
 cases v <;> first|rfl|simp at h
theorem okWide_struct {t:TypeId} {fs:Array Field} {v:Value} (ht:P.underlying t=some (.struct fs)) {base:Nat} (h:Value.okWide P w .any base t v):∃ cs,v=.agg cs:=by
 simp only [Value.okWide,ht] at h
 obtain ⟨cs,h,_⟩:=h
 exact ⟨cs,h⟩
theorem zuq {t e:TypeId} {n:Nat} {v:Value} (ht:P.underlying t=some (.array n e)) {base:Nat} (h:Value.okWide P w .any base t v):∃ cs,v=.agg cs:=by
 simp only [Value.okWide,ht] at h
 obtain ⟨cs,h,_⟩:=h
 exact ⟨cs,h⟩
theorem zvj {t e:TypeId} {sz:Nat} {X:List PV→Prop} (ht:P.underlying t=some (.array 3 e)) (hc:P.cellsOf t=3 * sz) (he:Rd enc P w e sz X):Rd enc P w t (3 * sz) (zua [X,X,X]):=by
 refine ⟨hc,fun fuel cs x hx=>?_⟩
 obtain ⟨xs,m,_,_,hl,hxs,hall⟩:=DataW.trod_array ht hx
 obtain ⟨hes,hel⟩:=he
 rw [hc] at hl
 rw [hes] at hall
 have one:∀ i,i < 3→∃ pvs,X pvs∧PRels (KW w) w pvs ((cs.drop (i * sz)).take sz)∧(∀ v∈(cs.drop (i * sz)).take sz,v.oneCell'=true):=by
  intro i hi
  have h1:=(hall i hi).trans (List.getElem?_eq_getElem (by omega))
  obtain ⟨pvs,h2,h3,_,h5⟩:=hel _ _ _ h1
  exact ⟨pvs,h2,h3,h5⟩
 obtain ⟨a,a1,a2,a3⟩:=one 0 (by omega)
 obtain ⟨b,b1,b2,b3⟩:=one 1 (by omega)
 obtain ⟨c,c1,c2,c3⟩:=one 2 (by omega)
 have hcs:cs=(cs.drop (0 * sz)).take sz++((cs.drop (1 * sz)).take sz++(cs.drop (2 * sz)).take sz):=by
  have e1:cs=cs.take sz++(cs.drop sz):=(List.take_append_drop sz cs).symm
  have e2:cs.drop sz=(cs.drop sz).take sz++(cs.drop sz).drop sz:=(List.take_append_drop sz _).symm
  have e3:(cs.drop sz).drop sz=(cs.drop (2 * sz)).take sz:=by
   rw [List.drop_drop,show sz + sz=2 * sz by omega,List.take_of_length_le];simp;omega
  simp only [Nat.zero_mul,List.drop_zero,Nat.one_mul]
  rw [←e3,←e2,←e1]
 refine ⟨a++(b++c),⟨a,b++c,a1,⟨b,c,b1,⟨c,[],c1,rfl,by simp⟩,rfl⟩,rfl⟩,?_,hl,?_⟩
 ·rw [hcs];exact a2.append (b2.append c2)
 ·rw [hcs]
  intro v hv
  simp only [List.mem_append] at hv
  rcases hv with hv|hv|hv
  ·exact a3 v hv
  ·exact b3 v hv
  ·exact c3 v hv
end
end Go.Cg
namespace Go.Cg
open Go.RowKit
structure ACallU {ι:Type} (P:Program) (f:FuncId) (args:List AV) (H:HEnv) (r:ι→AV) (H':ι→HEnv) (lone:Bool:=false):Prop where
 stands:Vr P f
 calls:∀ (g:Base) (K:KK) (ρ:Nat→Value) (w:World) (vs:List Value),(lone=true→g.w1.heap.size=0)→FS g K ρ H w→ZQ K w ρ H args vs →
  Calls P f vs.toArray w fun e w'=>∃ v K' ρ' u,e=.returned v∧FS g K' ρ' (H' u) w'∧ARel K' w' ρ' (H' u) (r u) v
section
variable {P:Program} {tb:Tab} {n:Nat} {g:Base} {K K':KK} {w w':World} {ρ ρ':Nat→Value} {H:HEnv} {env:Env} {a:Act} {ops:List Oper} {o:Oper} {rest:List Oper} {Q:Env→HEnv→Prop} {f:FuncId} {args:List AV}
theorem zk8 {ι:Type} {r:ι→AV} {H':ι→HEnv} (htb:yA P tb) {fn:Func} {c:Code} (hf:P.funcs[f]?=some fn) (hb:fn.body=some c) (hn:(fn.name == "runtime.NumGoroutine")=false) (hnt:fn.ntmps=n) (hargs:args.length≤n) (rs:List ResultVar) (hrs:fn.results.toList=rs)
  {lone:Bool} (h:∀ g:Base,(lone=true→g.w1.heap.size=0)→AW P n g c (QN 0 args) H (fun ex env1 H1=>∃ u,ziz tb rs (r u) (H' u) ex env1 H1)):ACallU P f args H r H' lone:=by
 refine ⟨⟨fn,hf,by simp [hb],hn⟩,fun g0 K ρ w vs hw1 hfs0 hv=>?_⟩
 obtain ⟨g,hg0⟩:∃ g:Base,g=⟨g0.w0,g0.K0,g0.w1,[],g0.wp,g0.pr⟩:=⟨_,rfl⟩
 have hfs:FS g K ρ H w:=by subst hg0;exact ⟨hfs0.below,hfs0.old,hfs0.new,hfs0.lt,hfs0.others,⟨hfs0.pt.same,hfs0.pt.kept⟩,hfs0.away,hfs0.heap⟩
 refine calls_of_wp hf hb ?_
 have hlen:vs.length=args.length:=hv.1
 refine wp_mono (wpIn_wide.1 ((h g (by subst hg0;exact hw1)).go _ w ⟨by simp [hnt];omega,by subst hg0;rfl,K,ρ,hfs,?_⟩ none 0)) ?_
 ·intro t av hg
  obtain ⟨_,hp⟩:=Qy args 0 t av hg
  have hlt:t < vs.length:=by rw [hlen];exact (List.getElem?_eq_some_iff.1 hp).1
  refine ⟨vs[t],?_,hv.2 t av _ hp (List.getElem?_eq_getElem hlt)⟩
  rw [Array.getElem?_append_left (by simpa using hlt)]
  simp [hlt]
 ·rintro e a' w' ⟨env1,H1,hi,u0,he,hq⟩
  have key:∃ v K' ρ',(results fn a'.tmps).run P w'=.ok v w'∧a'.defers=[]∧FS g0 K' ρ' (H' u0) w'∧ARel K' w' ρ' (H' u0) (r u0) v:=by
   have back:∀ {K':KK} {ρ':Nat→Value},FS g K' ρ' (H' u0) w'→FS g0 K' ρ' (H' u0) w':=fun hf1=>by
    subst hg0;exact ⟨hf1.below,hf1.old,hf1.new,hf1.lt,hf1.others,⟨hf1.pt.same,hf1.pt.kept⟩,hf1.away,hf1.heap⟩
   rcases hq with ⟨ps,hps,hr0,hfit⟩|⟨t,ht,hget,hfit⟩
   ·obtain ⟨_,h2,K',ρ',hf',he0⟩:=hi
    obtain ⟨us,hrun,hru⟩:=QG htb hf' he0 hps
    have hi2:Inv n g [] (H' u0) a' w':=((⟨‹_›,h2,K',ρ',hf',he0⟩:Inv n g env1 H1 a' w').sub yu).hsub hfit
    have hres:(results fn a'.tmps).run P w'=.ok (if hh:us.toArray.size=1 then us.toArray[0] else .tuple us.toArray) w':=by
     unfold results
     rw [Array.mapM_eq_mapM_toList,hrs]
     simp only [Sem.run_bind,Sem.run_map]
     erw [hrun]
     rfl
    have hval:PRel K' w' (zn ps) (if hh:us.toArray.size=1 then us.toArray[0] else .tuple us.toArray):=by
     split
     ·rename_i hh
      have hl1:=hru.1
      have hu:us.length=1:=by simpa using hh
      obtain ⟨u,rfl⟩:=List.length_eq_one_iff.1 hu
      obtain ⟨p,rfl⟩:=List.length_eq_one_iff.1 (show ps.length=1 by omega)
      exact hru.2 0 p u (by simp) (by simp)
     ·rename_i hh
      simp at hh
      have:zn ps=.tup ps:=by
       unfold zn
       split
       ·rename_i p;exact absurd (by have:=hru.1;simpa using this) hh
       ·rfl
      rw [this]
      exact .tup ps us hru.1 hru.2
    have hf2:=FS.narrow hf' hfit
    exact ⟨_,K',ρ',hres,by rw [h2];subst hg0;rfl,back hf2,by rw [hr0];exact .pv _ _ hval⟩
   ·obtain ⟨h1,h2,K',ρ',hf',he0⟩:=hi
    obtain ⟨v,hv1,hv2⟩:=he0 t (r u0) hget
    have hf2:=FS.narrow hf' hfit
    have hin:=hfit.2
    simp only [YI,Bool.and_eq_true] at hin
    have hres:(results fn a'.tmps).run P w'=.ok v w':=by
     unfold results
     rw [Array.mapM_eq_mapM_toList,hrs,ht]
     simp [Result.andThen,hv1]
    exact ⟨v,K',ρ',hres,by rw [h2];subst hg0;rfl,back hf2,hv2.refs hin.1.1⟩
  obtain ⟨v,K',ρ',hres,hd,hf',hr⟩:=key
  rcases he with rfl|rfl
  ·exact ⟨hd,_,hres,v,K',ρ',u0,rfl,hf',hr⟩
  ·exact ⟨hd,_,hres,v,K',ρ',u0,rfl,hf',hr⟩
theorem zl5 {ι:Type} [Inhabited ι] {r:ι→AV} {xs:Array Operand} {ts:Array TypeId} {d:Tmp} {ars:List AV} (Hc:HEnv) (Hc':ι→HEnv) (R:HEnv) (env2:Env) {lone:Bool} (ps:List Nat) (hw1:lone=true→g.w1.heap.size=0) (hg:guardE ops env o=some true)
  (hop:o.op=.call { callee:=.value (.func f),args:=xs,argTypes:=ts }) (hargs:avs env xs.toList=some ars) (hsub:HSub H (Hc++R)) (hs:Sub env env2) (hd:o.dst=some d) (hdt:Nat.blt d n=true)
  (hchk:∀ u,Yv Hc (Hc' u) R ps ars env2 (r u)=true) (hc:∀ us,ACallU P f ars (Hc++zJ us ps) r (fun u=>Hc' u++zJ us ps) lone)
  (h:∀ u,AO P n g ops.toArray rest ((d,r u)::env2) (Hc' u++R) Q):AO P n g ops.toArray (o::rest) env H Q:=by
 have hchk0:=hchk default
 simp only [Yv,Bool.and_eq_true] at hchk0
 obtain ⟨⟨⟨⟨⟨⟨⟨⟨⟨⟨d1,_⟩,d3⟩,_⟩,i1⟩,i2⟩,_⟩,_⟩,i5⟩,i6⟩,i7a⟩:=hchk0
 have i7':∀ i∈ps,(Hc.get i).isSome=true∧((Hc' default).get i).isSome=true:=fun i hi=>by simpa using List.all_eq_true.1 i7a i hi
 refine ⟨fun a w hinv=>?_⟩
 have hw:=yB hinv hg
 obtain ⟨h1,h2,K,ρ,hf,he⟩:=hinv
 refine wpList_step fun KK hKK=>?_
 rw [if_pos hw]
 have hlatR:Later K K w w:=.refl K w
 have gC:∀ i x,Hc.get i=some x→H.get i=some x:=fun i x hx=>hsub i x (by rw [get_append,hx])
 have gR:∀ i x,R.get i=some x→H.get i=some x:=fun i x hx=>hsub i x (by
  rw [get_append]
  cases hh:Hc.get i with
  | none=>exact hx
  | some y=>rw [Zc d1 i y hh] at hx;cases hx)
 have nC:∀ i x,R.get i=some x→Hc.get i=none:=fun i x hx=>by
  cases hh:Hc.get i with
  | none=>rfl
  | some y=>rw [Zc d1 i y hh] at hx;cases hx
 have hpinC:∀ {A:HEnv} {us:Nat→Value} {i:Nat} {x:HE},HEnv.get (A++zJ us ps) i=some x→x.live=true→A.get i=some x:=by
  intro A us i x hx hl
  rw [get_append] at hx
  cases hh:A.get i with
  | some z=>rw [hh] at hx;exact hx
  | none =>
   rw [hh] at hx
   obtain ⟨_,_,rfl⟩:=Yz hx
   simp [HE.live] at hl
 obtain ⟨g',hg'⟩:∃ g':Base,g'=⟨g.w0,K,g.w1,g.ds,w,fun b=>g.pr b∨∃ i x,R.get i=some x∧x.live=true∧zA (ρ i)=some b⟩:=⟨_,rfl⟩
 have hfs:FS g' K ρ (Hc++zJ ρ ps) w:=by
  subst hg'
  refine ⟨hf.below,fun _ _ h=>h,fun _ _ h=>.inl h,hf.lt,hf.others,⟨?_,fun _ _ _=>rfl⟩,?_,?_,?_⟩
  ·rintro b (hb|⟨i,x,hi,hl,hb⟩)
   ·exact ⟨(hf.pt.same b hb).1,rfl,fun _=>Iff.rfl⟩
   ·exact ⟨((hf.heap.ok i x (gR i x hi)).block_lt hl hb).2,rfl,fun _=>Iff.rfl⟩
  ·intro i x b hi hl hb
   have hC:=hpinC hi hl
   rintro (hp|⟨j,y,hj,hly,hbj⟩)
   ·exact hf.away i x b (gC i x hC) hl hb hp
   ·have hne:i≠j:=by rintro rfl;rw [nC i y hj] at hC;cases hC
    exact hf.heap.apart i j x y b hne (gC i x hC) (gR j y hj) hl hly hb hbj
  ·intro i x hi
   rw [get_append] at hi
   cases hh:Hc.get i with
   | some y =>
    rw [hh] at hi;simp only [Option.some.injEq] at hi;subst hi
    have hok:=hf.heap.ok i y (gC i y hh)
    have hk:∀ j,(HEnv.get Hc j).isSome=true→(HEnv.get (Hc++zJ ρ ps) j).isSome=true∧ρ j=ρ j:=fun j hj=>⟨zH j hj,rfl⟩
    cases y with
    | cell v=>obtain ⟨b,t,arr,u,q1,q2,q3,q4,q5,q6⟩:=hok;exact ⟨b,t,arr,u,q1,q2,q3,(q4.refs (Zw i2 i v hh)).keeps hlatR hk,q5,q6⟩
    | pin v u=>exact (ARel.refs hok (qP i2 i v u hh)).keeps hlatR hk
    | row t sz es=>exact hok
    | mrow t sz es=>exact hok
    | dead=>exact hok
    | obj X=>exact hok
   | none =>
    rw [hh] at hi
    obtain ⟨q1,q2,rfl⟩:=Yz hi
    exact .own _ (zH _ (i7' _ q2).1)
  ·intro i j x y b hij hi hj lx ly bx bj
   exact hf.heap.apart i j x y b hij (gC i x (hpinC hi lx)) (gC j y (hpinC hj ly)) lx ly bx bj
 have hpa:=VG (a:=a) he hargs
 have hall:ZQ K w ρ (Hc++zJ ρ ps) ars (xs.toList.map a.eval) :=
  ⟨hpa.1,fun k c v hc hv=>((hpa.2 k c v hc hv).refs (qM i1 k c hc)).keeps hlatR fun j hj=>⟨zH j hj,rfl⟩⟩
 have hrun:(execOp a.eval o).run P w=.ok (.enter f (xs.toList.map a.eval).toArray) w:=by
  have e:(xs.toList.map a.eval).toArray=xs.map a.eval:=by rw [←Array.toList_map,Array.toArray_toList]
  rw [e]
  simp [execOp,hop,resolve,Act.eval,Deferred.ofValue,invoke,yX (hc ρ).stands]
 unfold Oper.wp
 rw [hrun]
 simp only [Oper.upon]
 refine ((hc ρ).calls g' K ρ w _ (by subst hg';exact hw1) hfs hall).mono fun e w' ⟨v,K',ρ',u0,e1,hf',hv⟩=>?_
 obtain ⟨Hq,hHq⟩:∃ X,X=Hc' u0:=⟨_,rfl⟩
 rw [←hHq] at hf'
 have hchk2:=hchk u0
 have h2q:=h u0
 rw [←hHq] at hchk2 h2q
 have hv:ARel K' w' ρ' (Hq++zJ ρ ps) (r u0) v:=by rw [hHq];exact hv
 simp only [Yv,Bool.and_eq_true] at hchk2
 obtain ⟨⟨⟨⟨⟨⟨⟨⟨⟨⟨_,d2⟩,_⟩,d4⟩,_⟩,_⟩,i3⟩,i4⟩,_⟩,_⟩,i7⟩:=hchk2
 have i7':∀ i∈ps,(Hc.get i).isSome=true∧(Hq.get i).isSome=true:=fun i hi=>by simpa using List.all_eq_true.1 i7 i hi
 have nC':∀ i x,R.get i=some x→Hq.get i=none:=fun i x hx=>by
  cases hh:Hq.get i with
  | none=>rfl
  | some y=>rw [Zc d2 i y hh] at hx;cases hx
 subst e1
 have hlat:Later K K' w w':=by subst hg';exact ⟨hf'.old,hf'.pt.kept⟩
 have hprot:∀ b,(g.pr b∨∃ i x,R.get i=some x∧x.live=true∧zA (ρ i)=some b)→b < w'.heap.size∧w'.heap[b]?=w.heap[b]?∧∀ o,K' b o↔K b o:=by subst hg';exact hf'.pt.same
 have haway:∀ i x b,Hq.get i=some x→x.live=true→zA (ρ' i)=some b→¬ (g.pr b∨∃ i x,R.get i=some x∧x.live=true∧zA (ρ i)=some b):=by
  subst hg';exact fun i x b hi=>hf'.away i x b (by rw [get_append,hi])
 obtain ⟨ρ2,hρ2⟩:∃ ρ2:Nat→Value,∀ j,ρ2 j=if (Hq.get j).isSome then ρ' j else ρ j:=⟨_,fun _=>rfl⟩
 have r1:∀ j,(Hq.get j).isSome=true→ρ2 j=ρ' j:=fun j hj=>by rw [hρ2,if_pos hj]
 have r2:∀ j,Hq.get j=none→ρ2 j=ρ j:=fun j hj=>by rw [hρ2,hj];rfl
 have hkC:∀ j,(HEnv.get Hq j).isSome=true→(HEnv.get (Hq++R) j).isSome=true∧ρ2 j=ρ' j:=fun j hj=>⟨zH j hj,r1 j hj⟩
 have hps:∀ i∈ps,ρ' i=ρ i:=fun i hi=>by
  have hnone:Hq.get (1000 + i)=none:=by
   cases hh:Hq.get (1000 + i) with
   | none=>rfl
   | some x=>have:=YV d4 _ x hh;omega
  have:=hf'.heap.ok (1000 + i) _ (by rw [get_append,hnone];exact zaF hi)
  have this:ARel K' w' ρ' (Hq++zJ ρ ps) (.own i) (ρ i):=this
  generalize hu:ρ i=u at this
  cases this with
  | own _ _=>rfl
 have hkR:∀ j,(HEnv.get (R++Xk ps) j).isSome=true→(HEnv.get (Hq++R) j).isSome=true∧ρ2 j=ρ j:=fun j hj=>by
  rw [get_append] at hj
  cases hh:R.get j with
  | some x =>
   have hn:=nC' j x hh
   exact ⟨by rw [get_append,hn,hh];rfl,r2 j hn⟩
  | none =>
   rw [hh] at hj
   have hm:=zaG hj
   have hs':=(i7' j hm).2
   exact ⟨zH j hs',by rw [r1 j hs',hps j hm]⟩
 have hfs2:FS g K' ρ2 (Hq++R) w':=by
  have b1:Below g.w0.heap.size g.w0 w':=by subst hg';exact hf'.below
  have b3:∀ b o,K' b o→K b o∨g.w0.heap.size≤b:=by subst hg';exact hf'.new
  have b5:KeepsOthers g.w1 w':=by subst hg';exact hf'.others
  have bB:HRel K' w' g.w0.heap.size ρ' (Hq++zJ ρ ps):=by subst hg';exact hf'.heap
  refine ⟨b1,fun b o h=>hlat.sub b o (hf.old b o h),fun b o hk=>(b3 b o hk).elim (hf.new b o) .inr,hf'.lt,b5,⟨fun b hb=>?_,fun b o h0=>(hlat.cell b o (hf.old b o h0)).trans (hf.pt.kept b o h0)⟩,fun i x b hi hl hb=>?_,fun i x hi=>?_,fun i j x y b hij hi hj lx ly bx bj=>?_⟩
  ·obtain ⟨p1,p2,p3⟩:=hprot b (.inl hb)
   obtain ⟨q1,q2,q3⟩:=hf.pt.same b hb
   exact ⟨p1,p2.trans q2,fun o=>(p3 o).trans (q3 o)⟩
  ·rw [get_append] at hi
   cases hh:Hq.get i with
   | some y =>
    rw [hh] at hi;simp only [Option.some.injEq] at hi;subst hi
    rw [r1 i (by rw [hh];rfl)] at hb
    exact fun hp=>haway i y b hh hl hb (.inl hp)
   | none =>
    rw [hh] at hi
    rw [r2 i hh] at hb
    exact hf.away i x b (gR i x hi) hl hb
  ·rw [get_append] at hi
   cases hh:Hq.get i with
   | some y =>
    rw [hh] at hi;simp only [Option.some.injEq] at hi;subst hi
    rw [r1 i (by rw [hh];rfl)]
    have hok:=bB.ok i y (by rw [get_append,hh])
    have hl':=Later.refl K' w'
    cases y with
    | cell v=>obtain ⟨b,t,arr,u,q1,q2,q3,q4,q5,q6⟩:=hok;exact ⟨b,t,arr,u,q1,q2,q3,(q4.refs (Zw i3 i v hh)).keeps hl' hkC,q5,q6⟩
    | pin v u=>exact (ARel.refs hok (qP i3 i v u hh)).keeps hl' hkC
    | row t sz es=>exact hok
    | mrow t sz es=>exact hok
    | dead=>exact hok
    | obj X=>exact hok
   | none =>
    rw [hh] at hi
    rw [r2 i hh]
    have hok:=hf.heap.ok i x (gR i x hi)
    have hsame:x.live=true→∀ b,zA (ρ i)=some b→w'.heap[b]?=w.heap[b]?∧∀ o,K' b o↔K b o:=fun hl b hb=>(hprot b (.inr ⟨i,x,hi,hl,hb⟩)).2
    cases x with
    | cell v =>
     obtain ⟨b,t,arr,u,q1,q2,q3,q4,q5,q6⟩:=hok
     obtain ⟨s1,s2⟩:=hsame rfl b (by rw [q1];rfl)
     exact ⟨b,t,arr,u,q1,q2,by rw [s1];exact q3,(q4.refs (Zw i5 i v hi)).keeps hlat hkR,q5,fun o hk=>q6 o ((s2 o).1 hk)⟩
    | pin v u=>exact (ARel.refs hok (qP i5 i v u hi)).keeps hlat hkR
    | row t sz es =>
     obtain ⟨xs,q1,q2,q3,q4⟩:=hok
     refine ⟨xs,qL q1 fun b hb=>(hsame rfl b hb).1,q2,fun k e he=>?_,fun b hb o=>?_⟩
     ·obtain ⟨c1,c2⟩:=q3 k e he
      exact ⟨c1,fun k c hc=>let ⟨v,h4,h5,h6⟩:=c2 k c hc;⟨v,h4,h5,h6.later hlat⟩⟩
     ·rw [(hsame rfl b ((Zy q1 b).2 hb)).2 o];exact q4 b hb o
    | mrow t sz es =>
     obtain ⟨xs,q1,q2,q3,q4⟩:=hok
     refine ⟨xs,qL q1 fun b hb=>(hsame rfl b hb).1,q2,fun k e he=>?_,fun b hb o hk=>?_⟩
     ·obtain ⟨c1,c2⟩:=q3 k e he
      exact ⟨c1,fun k c hc=>let ⟨v,h4,h5,h6⟩:=c2 k c hc;⟨v,h4,h5,h6.later hlat⟩⟩
     ·exact q4 b hb o (((hsame rfl b ((Zy q1 b).2 hb)).2 o).1 hk)
    | dead=>trivial
    | obj X =>
     obtain ⟨b,ob,q1,q2,q3,q4,q5⟩:=hok
     obtain ⟨s1,s2⟩:=hsame rfl b (by rw [q1];rfl)
     exact ⟨b,ob,q1,q2,by rw [s1];exact q3,q4,fun o hk=>q5 o ((s2 o).1 hk)⟩
  ·rw [get_append] at hi hj
   cases hhi:Hq.get i with
   | some x' =>
    rw [hhi] at hi;simp only [Option.some.injEq] at hi;subst hi
    rw [r1 i (by rw [hhi];rfl)] at bx
    cases hhj:Hq.get j with
    | some y' =>
     rw [hhj] at hj;simp only [Option.some.injEq] at hj;subst hj
     rw [r1 j (by rw [hhj];rfl)] at bj
     exact bB.apart i j x' y' b hij (by rw [get_append,hhi]) (by rw [get_append,hhj]) lx ly bx bj
    | none =>
     rw [hhj] at hj;rw [r2 j hhj] at bj
     exact haway i x' b hhi lx bx (.inr ⟨j,y,hj,ly,bj⟩)
   | none =>
    rw [hhi] at hi;rw [r2 i hhi] at bx
    cases hhj:Hq.get j with
    | some y' =>
     rw [hhj] at hj;simp only [Option.some.injEq] at hj;subst hj
     rw [r1 j (by rw [hhj];rfl)] at bj
     exact haway j y' b hhj ly bj (.inr ⟨i,x,hi,lx,bx⟩)
    | none =>
     rw [hhj] at hj;rw [r2 j hhj] at bj
     exact hf.heap.apart i j x y b hij (gR i x hi) (gR j y hj) lx ly bx bj
 have he2:EnvR K' w' ρ2 (Hq++R) env2 a.tmps:=fun t av ht=>by
  obtain ⟨u,u1,u2⟩:=he t av (hs t av ht)
  exact ⟨u,u1,(u2.refs (WU i6 t av ht)).keeps hlat hkR⟩
 refine hKK _ _ (h2q.go _ _ ⟨yT h1,put_defers h2,K',ρ2,hfs2,?_⟩)
 rw [hd]
 exact qW h1 hdt he2 ((hv.refs i4).keeps (Later.refl K' w') hkC)
end
end Go.Cg
