/- A part of the walks by abstract values: no statement of its own. -/
import Derived.Test.YtdlokcmodgccnaaGreatF5
import Derived.Test.YtdlokcmodgccnaaGreatF7
import Derived.Test.YtdlokcmodgccnaaGreatF6
import Derived.Shelf.Abstract
import Derived.OwnWalkIn
import Derived.TacticsInMore
import Derived.LoopNIn
import Derived.LoopIn
import Derived.Test.YtdlokcmodgccnaaGreatF10
import Derived.Test.YtdlokcmodgccnaaGreatF4
import Derived.Test.YtdlokcmodgccnaaGreatRows
import Derived.Test.YtdlokcmodgccnaaGreatF13
import Derived.Test.YtdlokcmodgccnaaGreatF21
import Derived.Test.YtdlokcmodgccnaaGreatChecked
import Derived.Test.YtdlokcmodgccnaaGreatF17
set_option linter.unusedVariables false
set_option linter.unusedSimpArgs false
set_option linter.unusedVariables false
set_option linter.unusedSimpArgs false
namespace Go.Cg
open Go.Proofs Go.RowKit Go.Shelf
set_option maxHeartbeats 20000000
attribute [local go_sem] Oper.semAt_some
def Vb (l:List Int) (r:Nat):List (Int × Int):=(List.range (l.length - r)).map fun k=>(((l.length - 1 - k:Nat):Int),l.getD (l.length - 1 - k) 0)
theorem zoG (l:List Int):Vb l l.length=[]:=by simp [Vb]
theorem ze9 (l:List Int) (r:Nat):(Vb l r).length=l.length - r:=by simp [Vb]
theorem znh {l:List Int} {m:Nat} (h:m < l.length):Vb l m=Vb l (m + 1)++[((m:Int),l.getD m 0)]:=by
 rw [Vb,Vb,show l.length - m=(l.length - (m + 1)) + 1 by omega,List.range_succ,List.map_append,List.map_singleton]
 rw [show l.length - 1 - (l.length - (m + 1))=m by omega]
def zjK (W:World) (v:Value) (l:List Int):Prop :=
 ∃ (Bs o:Nat) (sv:Value),v=.pointer (some ⟨Bs,o,none⟩)∧W.cell? ⟨Bs,o,none⟩=some sv ∧
  ((l=[]∧∃ p,sv=.slice p 0 0)∨∃ b off cap,sv=.slice (some ⟨b,off,none⟩) l.length cap∧∀ j,j < l.length→W.cell? ⟨b,off + j,none⟩=some (.int .i64 (l.getD j 0)))
theorem zdo {K:Cg.KK} {W:World} {l:List Int} {vc:List Value} (h:PRels K W [.ptr (ints l) 0] vc):∃ v,vc=[v]∧zjK W v l:=by
 obtain ⟨v,vs,rfl,r,h2⟩:=h.cons_inv
 obtain rfl:=h2.nil_inv
 refine ⟨v,rfl,?_⟩
 cases r with
 | ptr _ _ b o vs hl hr hc =>
  cases vs with
  | nil=>simp [PV.cells,ints] at hl
  | cons sv vs' =>
   have h0:=hr 0 sv rfl
   have hp:=hc 0 (ints l) sv rfl rfl
   refine ⟨b,o,sv,by simp,by simpa using h0.2.1,?_⟩
   generalize hls:ints l=p at hp
   cases hp with
   | nil sz full =>
    simp [ints] at hls
    exact .inl ⟨hls.2.1,none,rfl⟩
   | emp sz full a =>
    simp [ints] at hls
    exact .inl ⟨hls.2.1,some a,rfl⟩
   | slc sz es full b2 o2 cap vss q0 q1 q2 q3 q4 q5 q6 =>
    simp only [ints,PV.slc.injEq] at hls
    obtain ⟨rfl,rfl,_⟩:=hls
    refine .inr ⟨b2,o2,cap,by simp,fun j hj=>?_⟩
    have he:(l.map pi)[j]?=some (pi l[j]):=by simp [hj]
    obtain ⟨_,e2,e3⟩:=q5 j _ he
    have hlt:0 < (vss j).length:=by omega
    have hv:=q6 j _ 0 _ (vss j)[0] he rfl (List.getElem?_eq_getElem hlt)
    have hcell:=(e3 0 _ (List.getElem?_eq_getElem hlt)).2.1
    generalize (vss j)[0]=y at hv hcell
    cases hv
    rw [List.getD_eq_getElem?_getD,List.getElem?_eq_getElem hj,Option.getD_some]
    simpa using hcell
   | _=>simp [ints] at hls
set_option maxRecDepth 100000 in
theorem zsE (n:Nat) (rn:Nat) (v:Value) (l:List Int) (hreach:l.length≤1000) (J Jx:List (Int × Int)→World→Prop)
  (hY:∀ pre x W,J pre W→pre.length < l.length→YieldAt Fence.wide (n - 1) Tryz.prog rn #[.int .i64 x.1,.int .i64 x.2] W fun e W' =>
   (e=.returned (.bool true)∧J (pre++[x]) W'∧((∃ K,PRels K W [.ptr (ints l) 0] [v])→∃ K,PRels K W' [.ptr (ints l) 0] [v]))∨(e=.returned (.bool false)∧Jx (pre++[x]) W'))
  (W:World) (hvP:∃ K,PRels K W [.ptr (ints l) 0] [v]) (h0:J [] W) :
  CallsIn Fence.wide n Tryz.prog 174 #[.func (.yield rn) #[] #[],v] W fun e W'=>(∃ u,e=.returned u) ∧
   ((∃ ys,ys=Vb l 0∧J ys W')∨(∃ pre,Jx pre W')):=by
 obtain ⟨Bs,o,sv,rfl,hBs,hsv⟩:zjK W v l:=by
  obtain ⟨K,hp⟩:=hvP
  obtain ⟨v2,e,hv2⟩:=zdo hp
  simp only [List.cons.injEq,and_true] at e;subst e;exact hv2
 obtain ⟨p,cap,hsve⟩:∃ p cap,sv=.slice p l.length cap:=by
  rcases hsv with ⟨rfl,p,rfl⟩|⟨b,off,cap,rfl,_⟩
  ·exact ⟨p,0,rfl⟩
  ·exact ⟨_,cap,rfl⟩
 subst hsve
 refine callsIn_of_wp Tryz.func174 rfl trivial ?_ rfl
 simp only [Tryz.ntmps174,List.size_toArray,List.length_cons,List.length_nil,Nat.reduceAdd,Nat.reduceSub,Array.replicate_succ,Array.replicate_zero,List.push_toArray,List.append_toArray,List.nil_append,List.cons_append]
 gi_wp2
 gi_loopw [3] (fun i wr=>∃ r:Nat,r≤l.length∧i=.int .i64 ((r:Int) - 1)∧J (Vb l r) wr∧∃ K,PRels K wr [.ptr (ints l) 0] [.pointer (some ⟨Bs,o,none⟩)])
  (fun i _=>(RowKit.intOf i + 1).toNat)
 case atStart=>exact ⟨l.length,Nat.le_refl _,by first|rfl|(simp;done)|(congr 1;exact wrap_in (by omega) (by omega)),by rw [zoG];exact h0,hvP⟩
 case round =>
  obtain ⟨r,hk,rfl,hJs,hnx⟩:=hrel
  clear hsv hBs
  obtain ⟨Bs',o',sv,e1,hBs,hsv⟩:zjK wr (.pointer (some ⟨Bs,o,none⟩)) l:=by
   obtain ⟨K,hp⟩:=hnx
   obtain ⟨v2,e,hv2⟩:=zdo hp
   simp only [List.cons.injEq,and_true] at e;subst e;exact hv2
  simp only [Value.pointer.injEq,Option.some.injEq,Addr.mk.injEq,and_true] at e1
  obtain ⟨rfl,rfl⟩:=e1
  cases r with
  | zero =>
   gi_wp2
   go_end0
   exact ⟨⟨_,rfl⟩,.inl ⟨_,rfl,hJs⟩⟩
  | succ m =>
   have hm:m < l.length:=by omega
   rcases hsv with ⟨rfl,_⟩|⟨b,off,cap2,rfl,hcs⟩
   ·simp at hm
   ·have hcx:=hcs m hm
    obtain ⟨fn,tmps,assign,body,hy,hR⟩:=hY _ ((m:Int),l.getD m 0) wr hJs (by rw [ze9];omega)
    dsimp only at hy
    have hgd:l.getD m 0=l[m]:=by rw [List.getD_eq_getElem?_getD,List.getElem?_eq_getElem hm,Option.getD_some]
    rw [hgd] at hy hcx
    rw [show (((m + 1:Nat):Int) - 1)=((m:Nat):Int) by omega]
    gi_wp2
    refine ⟨fun hh=>by simp [Fence.wide] at hh,hR.mono ?_⟩
    rintro e W3 (⟨rfl,hJ3,hk3⟩|⟨rfl,hJx3⟩)
    ·gi_wp2
     go_roundw
     case rel=>exact ⟨m,by omega,by first|rfl|(simp;done)|(congr 1;exact wrap_in (by omega) (by omega)),by rw [znh hm];exact hJ3,hk3 hnx⟩
     case measure=>simp [RowKit.intOf]
    ·gi_wp2
     refine bodyPost_ret (results_none rfl _ _ _) rfl ?_
     exact ⟨⟨_,rfl⟩,.inr ⟨_,hJx3⟩⟩
theorem zqx (l:List Int) (hreach:l.length≤1000):AIter Tryz.prog 174 [.ptr (ints l) 0] (fun x:Int × Int=>#[.int .i64 x.1,.int .i64 x.2]) (Vb l 0):=by
 refine ⟨⟨_,Tryz.func174,rfl,by kernel_rfl⟩,fun K w vc n hp=>?_⟩
 obtain ⟨v,rfl,_⟩:=zdo hp
 intro rn J Jx W hW hJ hJx hY h0
 have hpW:PRels K W [.ptr (ints l) 0] [v]:=hp.keepc fun x u hx=>by
  obtain ⟨o,ho,_⟩:=cells_of_cell hx
  exact (hW.cell (p:=x) (Array.getElem?_eq_some_iff.1 ho).1).trans hx
 rw [show (Vb l 0).length=l.length by rw [ze9];omega] at hY
 refine (zsE n rn v l hreach J Jx hY W ⟨K,hpW⟩ h0).mono ?_
 rintro e W' ⟨h1,h2|⟨pre,h2⟩⟩
 ·exact ⟨h1,.inl h2⟩
 ·exact ⟨h1,.inr ⟨pre,trivial,h2⟩⟩
theorem ziI (l:List Int):ACall Tryz.prog 128 [ints l] (.fn (.func 174) [] [.ptr (ints l) 0]):=by
 refine zf zh Tryz.func128 rfl (by kernel_rfl) Tryz.ntmps128 (by simp) _ rfl (fun hw gB hgB=>?_)
 repeat' (first|refine sA ?_|refine sC (fun _=>?_) (fun _=>?_)|fail)
 exact retq rfl rfl
end Go.Cg
namespace Go.Cg
open Go.RowKit
section
variable {P:Program} {tb:Tab} {n:Nat} {g:Base} {K K':KK} {w w':World} {ρ ρ':Nat→Value} {H H':HEnv} {env:Env} {a:Act} {ops:List Oper} {o:Oper} {rest:List Oper} {Q:Env→HEnv→Prop} {f:FuncId} {args:List AV} {r:AV}
theorem zp4 {d:Tmp} {ars:List AV} (Hc Hc' R:HEnv) (env2:Env) {lone:Bool} (ps:List Nat) (hw1:lone=true→g.w1.heap.size=0) (hg:guardE ops env o=some true)
  (henter:∀ (K:KK) (ρ:Nat→Value) (a:Act) (w:World),FS g K ρ H w→EnvR K w ρ H env a.tmps→zaJ P f→∃ vs:List Value,(execOp a.eval o).run P w=.ok (.enter f vs.toArray) w∧Yu K w ρ H ars vs) (hsub:HSub H (Hc++R)) (hs:Sub env env2) (hd:o.dst=some d) (hdt:Nat.blt d n=true)
  (hchk:QL Hc Hc' R ps ars env2 r=true) (hc:∀ us,ACallM P f ars (Hc++yP us ps) r (Hc'++yP us ps) lone)
  (h:AO P n g ops.toArray rest ((d,r)::env2) (Hc'++R) Q):AO P n g ops.toArray (o::rest) env H Q:=by
 simp only [QL,Bool.and_eq_true] at hchk
 obtain ⟨⟨⟨⟨⟨⟨⟨⟨⟨⟨d1,d2⟩,d3⟩,d4⟩,i1⟩,i2⟩,i3⟩,i4⟩,i5⟩,i6⟩,i7⟩:=hchk
 have i7':∀ i∈ps,(Hc.get i).isSome=true∧(Hc'.get i).isSome=true:=fun i hi=>by simpa using List.all_eq_true.1 i7 i hi
 refine ⟨fun a w hinv=>?_⟩
 have hw:=yF hinv hg
 obtain ⟨h1,h2,K,ρ,hf,he⟩:=hinv
 refine wpList_step fun KK hKK=>?_
 rw [if_pos hw]
 have hlatR:Later K K w w:=.refl K w
 have gC:∀ i x,Hc.get i=some x→H.get i=some x:=fun i x hx=>hsub i x (by rw [get_append,hx])
 have gR:∀ i x,R.get i=some x→H.get i=some x:=fun i x hx=>hsub i x (by
  rw [get_append]
  cases hh:Hc.get i with
  | none=>exact hx
  | some y=>rw [Ya d1 i y hh] at hx;cases hx)
 have nC:∀ i x,R.get i=some x→Hc.get i=none:=fun i x hx=>by
  cases hh:Hc.get i with
  | none=>rfl
  | some y=>rw [Ya d1 i y hh] at hx;cases hx
 have nC':∀ i x,R.get i=some x→Hc'.get i=none:=fun i x hx=>by
  cases hh:Hc'.get i with
  | none=>rfl
  | some y=>rw [Ya d2 i y hh] at hx;cases hx
 have hpinC:∀ {A:HEnv} {us:Nat→Value} {i:Nat} {x:HE},HEnv.get (A++yP us ps) i=some x→x.live=true→A.get i=some x:=by
  intro A us i x hx hl
  rw [get_append] at hx
  cases hh:A.get i with
  | some z=>rw [hh] at hx;exact hx
  | none =>
   rw [hh] at hx
   obtain ⟨_,_,rfl⟩:=QJ hx
   simp [HE.live] at hl
 obtain ⟨g',hg'⟩:∃ g':Base,g'=⟨g.w0,K,g.w1,g.ds,w,fun b=>g.pr b∨∃ i x,R.get i=some x∧x.live=true∧zH (ρ i)=some b⟩:=⟨_,rfl⟩
 have hfs:FS g' K ρ (Hc++yP ρ ps) w:=by
  subst hg'
  refine ⟨hf.below,fun _ _ h=>h,fun _ _ h=>.inl h,hf.lt,hf.others,⟨?_,fun _ _ _=>rfl⟩,?_,?_,?_⟩
  ·rintro b (hb|⟨i,x,hi,hl,hb⟩)
   ·exact ⟨(hf.pt.same b hb).1,rfl,fun _=>Iff.rfl⟩
   ·exact ⟨((hf.heap.ok i x (gR i x hi)).block_lt hl hb).2,rfl,fun _=>Iff.rfl⟩
  ·intro i x b hi hl hb
   have hC:=hpinC hi hl
   rintro (hp|⟨j,y,hj,hly,hbj⟩)
   ·exact hf.away i x b (gC i x hC) hl hb hp
   ·have hne:i≠j:=by rintro rfl;rw [nC i y hj] at hC;cases hC
    exact hf.heap.apart i j x y b hne (gC i x hC) (gR j y hj) hl hly hb hbj
  ·intro i x hi
   rw [get_append] at hi
   cases hh:Hc.get i with
   | some y =>
    rw [hh] at hi;simp only [Option.some.injEq] at hi;subst hi
    have hok:=hf.heap.ok i y (gC i y hh)
    have hk:∀ j,(HEnv.get Hc j).isSome=true→(HEnv.get (Hc++yP ρ ps) j).isSome=true∧ρ j=ρ j:=fun j hj=>⟨zO j hj,rfl⟩
    cases y with
    | cell v=>obtain ⟨b,t,arr,u,q1,q2,q3,q4,q5,q6⟩:=hok;exact ⟨b,t,arr,u,q1,q2,q3,(q4.refs (Yn i2 i v hh)).keeps hlatR hk,q5,q6⟩
    | pin v u=>exact (ARel.refs hok (Zx i2 i v u hh)).keeps hlatR hk
    | row t sz es=>exact hok
    | mrow t sz es=>exact hok
    | dead=>exact hok
    | obj X=>exact hok
   | none =>
    rw [hh] at hi
    obtain ⟨q1,q2,rfl⟩:=QJ hi
    exact .own _ (zO _ (i7' _ q2).1)
  ·intro i j x y b hij hi hj lx ly bx bj
   exact hf.heap.apart i j x y b hij (gC i x (hpinC hi lx)) (gC j y (hpinC hj ly)) lx ly bx bj
 obtain ⟨vals,hrun,hpa⟩:=henter K ρ a w hf he (hc ρ).stands
 have hall:Yu K w ρ (Hc++yP ρ ps) ars vals :=
  ⟨hpa.1,fun k c v hc hv=>((hpa.2 k c v hc hv).refs (Zl i1 k c hc)).keeps hlatR fun j hj=>⟨zO j hj,rfl⟩⟩
 unfold Oper.wp
 rw [hrun]
 simp only [Oper.upon]
 refine ((hc ρ).calls g' K ρ w _ (by subst hg';exact hw1) hfs hall).mono fun e w' ⟨v,K',ρ',e1,hf',hv⟩=>?_
 subst e1
 have hlat:Later K K' w w':=by subst hg';exact ⟨hf'.old,hf'.pt.kept⟩
 have hprot:∀ b,(g.pr b∨∃ i x,R.get i=some x∧x.live=true∧zH (ρ i)=some b)→b < w'.heap.size∧w'.heap[b]?=w.heap[b]?∧∀ o,K' b o↔K b o:=by subst hg';exact hf'.pt.same
 have haway:∀ i x b,Hc'.get i=some x→x.live=true→zH (ρ' i)=some b→¬ (g.pr b∨∃ i x,R.get i=some x∧x.live=true∧zH (ρ i)=some b):=by
  subst hg';exact fun i x b hi=>hf'.away i x b (by rw [get_append,hi])
 obtain ⟨ρ2,hρ2⟩:∃ ρ2:Nat→Value,∀ j,ρ2 j=if (Hc'.get j).isSome then ρ' j else ρ j:=⟨_,fun _=>rfl⟩
 have r1:∀ j,(Hc'.get j).isSome=true→ρ2 j=ρ' j:=fun j hj=>by rw [hρ2,if_pos hj]
 have r2:∀ j,Hc'.get j=none→ρ2 j=ρ j:=fun j hj=>by rw [hρ2,hj];rfl
 have hkC:∀ j,(HEnv.get Hc' j).isSome=true→(HEnv.get (Hc'++R) j).isSome=true∧ρ2 j=ρ' j:=fun j hj=>⟨zO j hj,r1 j hj⟩
 have hps:∀ i∈ps,ρ' i=ρ i:=fun i hi=>by
  have hnone:Hc'.get (1000 + i)=none:=by
   cases hh:Hc'.get (1000 + i) with
   | none=>rfl
   | some x=>have:=XY d4 _ x hh;omega
  have:=hf'.heap.ok (1000 + i) _ (by rw [get_append,hnone];exact zcH hi)
  have this:ARel K' w' ρ' (Hc'++yP ρ ps) (.own i) (ρ i):=this
  generalize hu:ρ i=u at this
  cases this with
  | own _ _=>rfl
 have hkR:∀ j,(HEnv.get (R++WI ps) j).isSome=true→(HEnv.get (Hc'++R) j).isSome=true∧ρ2 j=ρ j:=fun j hj=>by
  rw [get_append] at hj
  cases hh:R.get j with
  | some x =>
   have hn:=nC' j x hh
   exact ⟨by rw [get_append,hn,hh];rfl,r2 j hn⟩
  | none =>
   rw [hh] at hj
   have hm:=zcO hj
   have hs':=(i7' j hm).2
   exact ⟨zO j hs',by rw [r1 j hs',hps j hm]⟩
 have hfs2:FS g K' ρ2 (Hc'++R) w':=by
  have b1:Below g.w0.heap.size g.w0 w':=by subst hg';exact hf'.below
  have b3:∀ b o,K' b o→K b o∨g.w0.heap.size≤b:=by subst hg';exact hf'.new
  have b5:KeepsOthers g.w1 w':=by subst hg';exact hf'.others
  have bB:HRel K' w' g.w0.heap.size ρ' (Hc'++yP ρ ps):=by subst hg';exact hf'.heap
  refine ⟨b1,fun b o h=>hlat.sub b o (hf.old b o h),fun b o hk=>(b3 b o hk).elim (hf.new b o) .inr,hf'.lt,b5,⟨fun b hb=>?_,fun b o h0=>(hlat.cell b o (hf.old b o h0)).trans (hf.pt.kept b o h0)⟩,fun i x b hi hl hb=>?_,fun i x hi=>?_,fun i j x y b hij hi hj lx ly bx bj=>?_⟩
  ·obtain ⟨p1,p2,p3⟩:=hprot b (.inl hb)
   obtain ⟨q1,q2,q3⟩:=hf.pt.same b hb
   exact ⟨p1,p2.trans q2,fun o=>(p3 o).trans (q3 o)⟩
  ·rw [get_append] at hi
   cases hh:Hc'.get i with
   | some y =>
    rw [hh] at hi;simp only [Option.some.injEq] at hi;subst hi
    rw [r1 i (by rw [hh];rfl)] at hb
    exact fun hp=>haway i y b hh hl hb (.inl hp)
   | none =>
    rw [hh] at hi
    rw [r2 i hh] at hb
    exact hf.away i x b (gR i x hi) hl hb
  ·rw [get_append] at hi
   cases hh:Hc'.get i with
   | some y =>
    rw [hh] at hi;simp only [Option.some.injEq] at hi;subst hi
    rw [r1 i (by rw [hh];rfl)]
    have hok:=bB.ok i y (by rw [get_append,hh])
    have hl':=Later.refl K' w'
    cases y with
    | cell v=>obtain ⟨b,t,arr,u,q1,q2,q3,q4,q5,q6⟩:=hok;exact ⟨b,t,arr,u,q1,q2,q3,(q4.refs (Yn i3 i v hh)).keeps hl' hkC,q5,q6⟩
    | pin v u=>exact (ARel.refs hok (Zx i3 i v u hh)).keeps hl' hkC
    | row t sz es=>exact hok
    | mrow t sz es=>exact hok
    | dead=>exact hok
    | obj X=>exact hok
   | none =>
    rw [hh] at hi
    rw [r2 i hh]
    have hok:=hf.heap.ok i x (gR i x hi)
    have hsame:x.live=true→∀ b,zH (ρ i)=some b→w'.heap[b]?=w.heap[b]?∧∀ o,K' b o↔K b o:=fun hl b hb=>(hprot b (.inr ⟨i,x,hi,hl,hb⟩)).2
    cases x with
    | cell v =>
     obtain ⟨b,t,arr,u,q1,q2,q3,q4,q5,q6⟩:=hok
     obtain ⟨s1,s2⟩:=hsame rfl b (by rw [q1];rfl)
     exact ⟨b,t,arr,u,q1,q2,by rw [s1];exact q3,(q4.refs (Yn i5 i v hi)).keeps hlat hkR,q5,fun o hk=>q6 o ((s2 o).1 hk)⟩
    | pin v u=>exact (ARel.refs hok (Zx i5 i v u hi)).keeps hlat hkR
    | row t sz es =>
     obtain ⟨xs,q1,q2,q3,q4⟩:=hok
     refine ⟨xs,ZK q1 fun b hb=>(hsame rfl b hb).1,q2,fun k e he=>?_,fun b hb o=>?_⟩
     ·obtain ⟨c1,c2⟩:=q3 k e he
      exact ⟨c1,fun k c hc=>let ⟨v,h4,h5,h6⟩:=c2 k c hc;⟨v,h4,h5,h6.later hlat⟩⟩
     ·rw [(hsame rfl b ((Yz q1 b).2 hb)).2 o];exact q4 b hb o
    | mrow t sz es =>
     obtain ⟨xs,q1,q2,q3,q4⟩:=hok
     refine ⟨xs,ZK q1 fun b hb=>(hsame rfl b hb).1,q2,fun k e he=>?_,fun b hb o hk=>?_⟩
     ·obtain ⟨c1,c2⟩:=q3 k e he
      exact ⟨c1,fun k c hc=>let ⟨v,h4,h5,h6⟩:=c2 k c hc;⟨v,h4,h5,h6.later hlat⟩⟩
     ·exact q4 b hb o (((hsame rfl b ((Yz q1 b).2 hb)).2 o).1 hk)
    | dead=>trivial
    | obj X =>
     obtain ⟨b,ob,q1,q2,q3,q4,q5⟩:=hok
     obtain ⟨s1,s2⟩:=hsame rfl b (by rw [q1];rfl)
     exact ⟨b,ob,q1,q2,by rw [s1];exact q3,q4,fun o hk=>q5 o ((s2 o).1 hk)⟩
  ·rw [get_append] at hi hj
   cases hhi:Hc'.get i with
   | some x' =>
    rw [hhi] at hi;simp only [Option.some.injEq] at hi;subst hi
    rw [r1 i (by rw [hhi];rfl)] at bx
    cases hhj:Hc'.get j with
    | some y' =>
     rw [hhj] at hj;simp only [Option.some.injEq] at hj;subst hj
     rw [r1 j (by rw [hhj];rfl)] at bj
     exact bB.apart i j x' y' b hij (by rw [get_append,hhi]) (by rw [get_append,hhj]) lx ly bx bj
    | none =>
     rw [hhj] at hj;rw [r2 j hhj] at bj
     exact haway i x' b hhi lx bx (.inr ⟨j,y,hj,ly,bj⟩)
   | none =>
    rw [hhi] at hi;rw [r2 i hhi] at bx
    cases hhj:Hc'.get j with
    | some y' =>
     rw [hhj] at hj;simp only [Option.some.injEq] at hj;subst hj
     rw [r1 j (by rw [hhj];rfl)] at bj
     exact haway j y' b hhj ly bj (.inr ⟨i,x,hi,lx,bx⟩)
    | none =>
     rw [hhj] at hj;rw [r2 j hhj] at bj
     exact hf.heap.apart i j x y b hij (gR i x hi) (gR j y hj) lx ly bx bj
 have he2:EnvR K' w' ρ2 (Hc'++R) env2 a.tmps:=fun t av ht=>by
  obtain ⟨u,u1,u2⟩:=he t av (hs t av ht)
  exact ⟨u,u1,(u2.refs (zaX i6 t av ht)).keeps hlat hkR⟩
 refine hKK _ _ (h.go _ _ ⟨qF h1,put_defers h2,K',ρ2,hfs2,?_⟩)
 rw [hd]
 exact Zv h1 hdt he2 ((hv.refs i4).keeps (Later.refl K' w') hkC)
theorem zri {t:Tmp} {xs:Array Operand} {ts:Array TypeId} {d:Tmp} {first cap ars:List AV} (Hc Hc' R:HEnv) (env2:Env) {lone:Bool} (ps:List Nat) (hw1:lone=true→g.w1.heap.size=0) (hg:guardE ops env o=some true)
  (hop:o.op=.call { callee:=.value (.tmp t),args:=xs,argTypes:=ts }) (ht:env.get t=some (.fn (.func f) first cap)) (hargs:avs env xs.toList=some ars) (hsub:HSub H (Hc++R)) (hs:Sub env env2) (hd:o.dst=some d) (hdt:Nat.blt d n=true)
  (hchk:QL Hc Hc' R ps (first++ars++cap) env2 r=true) (hc:∀ us,ACallM P f (first++ars++cap) (Hc++yP us ps) r (Hc'++yP us ps) lone)
  (h:AO P n g ops.toArray rest ((d,r)::env2) (Hc'++R) Q):AO P n g ops.toArray (o::rest) env H Q :=
 zp4 Hc Hc' R env2 ps hw1 hg (fun K ρ a w hf he hst=>by
  have hfn:=yU he (x:=.tmp t) ht
  generalize hfv:a.eval (.tmp t)=fv at hfn
  have hpa:=zbR (a:=a) he hargs
  cases hfn with
  | fn _ _ _ vf vc f1 f2 f3 f4 =>
   refine ⟨vf++xs.toList.map a.eval++vc,?_,by have:=hpa.1;simp at this;simp [f1,f2,this],fun k c v hc hv=>?_⟩
   ·have e:(vf++xs.toList.map a.eval++vc).toArray=vf.toArray++xs.map a.eval++vc.toArray:=by
     rw [show xs.map a.eval=(xs.toList.map a.eval).toArray by rw [←Array.toList_map,Array.toArray_toList]]
     simp
    rw [e]
    simp [execOp,hop,resolve,hfv,Deferred.ofValue,invoke,Zg hst]
   ·rw [List.append_assoc,List.getElem?_append] at hc hv
    split at hc
    ·rename_i hl
     rw [if_pos (by omega)] at hv
     exact f3 k c v hc hv
    ·rename_i hl
     rw [if_neg (by omega),f1] at hv
     rw [List.getElem?_append] at hc hv
     have e:(xs.toList.map a.eval).length=ars.length:=hpa.1
     split at hc
     ·rename_i hl2
      rw [if_pos (by omega)] at hv
      exact hpa.2 _ c v hc hv
     ·rename_i hl2
      rw [if_neg (by omega),e] at hv
      exact f4 _ c v hc hv) hsub hs hd hdt hchk hc h
variable {listed:List Bool} {QQ:QC}
end
end Go.Cg
namespace Go.Cg
open Go.RowKit Go.Proofs
def zj8 (t:Ty):Prop:=(Lit.int .i64 t.kind).wf=true∧(Lit.int .i64 t.index).wf=true∧(Lit.int .i64 t.dims).wf=true
def zsu (l:List Ty):Prop:=∀ t∈l,zj8 t
def zt5 (t:TD):Prop:=(Lit.int .i64 t.flags).wf=true∧(Lit.int .i64 t.ext).wf=true∧∀ f∈t.faces,(Lit.int .i64 f).wf=true
def zum (f:Fd):Prop:=(Lit.int .i64 f.owner).wf=true∧zj8 f.ty
def zsD (x:Ins):Prop:=(Lit.int .i64 x.op).wf=true∧(Lit.int .i64 x.arg).wf=true∧zj8 x.t
def zuy (c:Cl):Prop:=(Lit.int .i64 c.kind).wf=true∧(Lit.int .i64 c.tf).wf=true∧(Lit.int .i64 c.tt).wf=true∧(Lit.int .i64 c.hf).wf=true∧(Lit.int .i64 c.ht).wf=true∧(Lit.int .i64 c.filter).wf=true∧zj8 c.t
def zt2 (m:Me):Prop:=(Lit.int .i64 m.owner).wf=true∧(Lit.int .i64 m.flags).wf=true∧zsu m.params∧zj8 m.ret∧zsu m.locals∧(Lit.int .i64 m.max).wf=true∧(∀ x∈m.code,zsD x)∧∀ c∈m.clauses,zuy c
def zo0 (g:Img):Prop:=(∀ t∈g.types,zt5 t)∧(∀ f∈g.fields,zum f)∧(∀ m∈g.methods,zt2 m)∧(Lit.int .i64 g.entry).wf=true
def zvh (l:Ty × Ty × Ty):PV:=.agg ((yK l.1).cells++((yK l.2.1).cells++(yK l.2.2).cells))
def zvj (l:Ty × Ty × Ty):Prop:=zj8 l.1∧zj8 l.2.1∧zj8 l.2.2
def zuh (n:Int):Prop:=(Lit.int .u8 n).wf=true
section
variable {H:Type} {enc:TypeId × Value→H} {w:World}
theorem Xz:Rd enc Tryz.prog w 3 1 (fun ps=>∃ n,(Lit.int .i64 n).wf=true∧ps=[.base (.int .i64 n)]):=znG Tryz.underlying3 (by kernel_rfl)
theorem ztF:Rd enc Tryz.prog w 2 1 (fun ps=>∃ n,(Lit.int .i64 n).wf=true∧ps=[.base (.int .i64 n)]):=znG Tryz.underlying2 (by kernel_rfl)
theorem rdBool:Rd enc Tryz.prog w 4 1 (fun ps=>∃ b,ps=[.base (.bool b)]):=ztJ Tryz.underlying4 (by kernel_rfl)
theorem rdStr:Rd enc Tryz.prog w 9 1 (fun ps=>∃ s:ByteArray,s.size≤maxLen∧ps=[.base (.string s)]):=zpL Tryz.underlying9 (by kernel_rfl)
theorem zru:Rd enc Tryz.prog w 42 4 (fun ps=>∃ t:Ty,zj8 t∧ps=(yK t).cells):=by
 refine (XH Tryz.underlying42 (by kernel_rfl) (zV rfl Xz (zV rfl Xz (zV rfl Xz (zV rfl rdBool VI))))).mono ?_
 rintro _ ⟨_,_,⟨a,ha,rfl⟩,⟨_,_,⟨b,hb,rfl⟩,⟨_,_,⟨c,hc,rfl⟩,⟨_,_,⟨d,rfl⟩,rfl,rfl⟩,rfl⟩,rfl⟩,rfl⟩
 exact ⟨⟨a,b,c,d⟩,⟨ha,hb,hc⟩,rfl⟩
theorem ztW:Rd enc Tryz.prog w 40 1 (fun ps=>∃ l:List Ty,zsu l∧ps=[tys l]):=VU Tryz.underlying40 (by kernel_rfl) (by decide) zru
theorem zt1:Rd enc Tryz.prog w 67 1 (fun ps=>∃ l:List Int,(∀ n∈l,(Lit.int .i64 n).wf=true)∧ps=[ints l]) :=
 VU (f:=pi) Tryz.underlying67 (by kernel_rfl) (by decide) Xz
theorem zu6:Rd enc Tryz.prog w 69 4 (fun ps=>∃ t:TD,zt5 t∧ps=(Zb t).cells):=by
 refine (XH Tryz.underlying69 (by kernel_rfl) (zV rfl rdStr (zV rfl Xz (zV rfl Xz (zV rfl zt1 VI))))).mono ?_
 rintro _ ⟨_,_,⟨a,ha,rfl⟩,⟨_,_,⟨b,hb,rfl⟩,⟨_,_,⟨c,hc,rfl⟩,⟨_,_,⟨d,hd,rfl⟩,rfl,rfl⟩,rfl⟩,rfl⟩,rfl⟩
 exact ⟨⟨a,b,c,d⟩,⟨hb,hc,hd⟩,rfl⟩
theorem zvb:Rd enc Tryz.prog w 109 7 (fun ps=>∃ t:Fd,zum t∧ps=(Yc t).cells):=by
 refine (XH Tryz.underlying109 (by kernel_rfl) (zV rfl rdStr (zV rfl Xz (zV rfl zru (zV rfl rdBool VI))))).mono ?_
 rintro _ ⟨_,_,⟨a,ha,rfl⟩,⟨_,_,⟨b,hb,rfl⟩,⟨_,_,⟨c,hc,rfl⟩,⟨_,_,⟨d,rfl⟩,rfl,rfl⟩,rfl⟩,rfl⟩,rfl⟩
 exact ⟨⟨a,b,c,d⟩,⟨hb,hc⟩,rfl⟩
theorem zuQ:Rd enc Tryz.prog w 49 6 (fun ps=>∃ t:Ins,zsD t∧ps=(zY t).cells):=by
 refine (XH Tryz.underlying49 (by kernel_rfl) (zV rfl Xz (zV rfl ztF (zV rfl zru VI)))).mono ?_
 rintro _ ⟨_,_,⟨a,ha,rfl⟩,⟨_,_,⟨b,hb,rfl⟩,⟨_,_,⟨c,hc,rfl⟩,rfl,rfl⟩,rfl⟩,rfl⟩
 exact ⟨⟨a,b,c⟩,⟨ha,hb,hc⟩,rfl⟩
theorem zvf:Rd enc Tryz.prog w 63 10 (fun ps=>∃ t:Cl,zuy t∧ps=(yI t).cells):=by
 refine (XH Tryz.underlying63 (by kernel_rfl) (zV rfl Xz (zV rfl Xz (zV rfl Xz (zV rfl Xz (zV rfl Xz (zV rfl Xz (zV rfl zru VI)))))))).mono ?_
 rintro _ ⟨_,_,⟨a,ha,rfl⟩,⟨_,_,⟨b,hb,rfl⟩,⟨_,_,⟨c,hc,rfl⟩,⟨_,_,⟨d,hd,rfl⟩,⟨_,_,⟨e,he,rfl⟩,⟨_,_,⟨f,hf,rfl⟩,⟨_,_,⟨t,ht,rfl⟩,rfl,rfl⟩,rfl⟩,rfl⟩,rfl⟩,rfl⟩,rfl⟩,rfl⟩
 exact ⟨⟨a,b,c,d,e,f,t⟩,⟨ha,hb,hc,hd,he,hf,ht⟩,rfl⟩
theorem zuj:Rd enc Tryz.prog w 43 1 (fun ps=>∃ l:List Ins,(∀ x∈l,zsD x)∧ps=[.slc 6 (l.map zY) false]):=VU Tryz.underlying43 (by kernel_rfl) (by decide) zuQ
theorem zuL:Rd enc Tryz.prog w 44 1 (fun ps=>∃ l:List Cl,(∀ x∈l,zuy x)∧ps=[.slc 10 (l.map yI) false]):=VU Tryz.underlying44 (by kernel_rfl) (by decide) zvf
theorem zvd:Rd enc Tryz.prog w 46 12 (fun ps=>∃ t:Me,zt2 t∧ps=(zG t).cells):=by
 refine (XH Tryz.underlying46 (by kernel_rfl) (zV rfl rdStr (zV rfl Xz (zV rfl Xz (zV rfl ztW (zV rfl zru (zV rfl ztW (zV rfl Xz (zV rfl zuj (zV rfl zuL VI)))))))))).mono ?_
 rintro _ ⟨_,_,⟨a,ha,rfl⟩,⟨_,_,⟨b,hb,rfl⟩,⟨_,_,⟨c,hc,rfl⟩,⟨_,_,⟨d,hd,rfl⟩,⟨_,_,⟨e,he,rfl⟩,⟨_,_,⟨f,hf,rfl⟩,⟨_,_,⟨t,ht,rfl⟩,⟨_,_,⟨x,hx,rfl⟩,⟨_,_,⟨y,hy,rfl⟩,rfl,rfl⟩,rfl⟩,rfl⟩,rfl⟩,rfl⟩,rfl⟩,rfl⟩,rfl⟩,rfl⟩
 exact ⟨⟨a,b,c,d,e,f,t,x,y⟩,⟨hb,hc,hd,he,hf,ht,hx,hy⟩,rfl⟩
theorem zuM:Rd enc Tryz.prog w 22 1 (fun ps=>∃ l:List TD,(∀ x∈l,zt5 x)∧ps=[.slc 4 (l.map Zb) false]):=VU Tryz.underlying22 (by kernel_rfl) (by decide) zu6
theorem zuP:Rd enc Tryz.prog w 23 1 (fun ps=>∃ l:List Fd,(∀ x∈l,zum x)∧ps=[.slc 7 (l.map Yc) false]):=VU Tryz.underlying23 (by kernel_rfl) (by decide) zvb
theorem zuU:Rd enc Tryz.prog w 24 1 (fun ps=>∃ l:List Me,(∀ x∈l,zt2 x)∧ps=[.slc 12 (l.map zG) false]):=VU Tryz.underlying24 (by kernel_rfl) (by decide) zvd
theorem zu1:Rd enc Tryz.prog w 26 4 (fun ps=>∃ t:Img,zo0 t∧ps=(zq t).cells):=by
 refine (XH Tryz.underlying26 (by kernel_rfl) (zV rfl zuM (zV rfl zuP (zV rfl zuU (zV rfl Xz VI))))).mono ?_
 rintro _ ⟨_,_,⟨a,ha,rfl⟩,⟨_,_,⟨b,hb,rfl⟩,⟨_,_,⟨c,hc,rfl⟩,⟨_,_,⟨d,hd,rfl⟩,rfl,rfl⟩,rfl⟩,rfl⟩,rfl⟩
 exact ⟨⟨a,b,c,d⟩,⟨ha,hb,hc,hd⟩,rfl⟩
end
theorem own:ownKnob Tryz.prog.godebug=none:=by kernel_rfl
theorem laidOut:laidOutB Tryz.prog=true:=by kernel_rfl
theorem zvk {H:Type} {enc:TypeId × Value→H} {w:World}:Rd enc Tryz.prog w 5 1 (fun ps=>∃ n,zuh n∧ps=[.base (.int .u8 n)]):=znG Tryz.underlying5 (by kernel_rfl)
theorem zu4 {n:Int} (h:zuh n):0≤n∧n≤255:=by
 simp [zuh,Lit.wf,IntKind.has,IntKind.min,IntKind.max,IntKind.bits,IntKind.signed] at h;omega
end Go.Cg
namespace Go.Cg
open Go.RowKit
section
variable {P:Program} {n:Nat} {g:Base} {H:HEnv} {env:Env} {ops:List Oper} {o:Oper} {rest:List Oper} {f:FuncId} {QQ:QC}
end
end Go.Cg
namespace Go.Cg
open Go.RowKit Go.Proofs
def zmA (n:Int):Prop:=(Lit.int .i64 n).wf=true
theorem zuZ {H:Type} {enc:TypeId × Value→H} {w:World}:Rd enc Tryz.prog w 3 1 (fun ps=>∃ n,zmA n∧ps=[.base (.int .i64 n)]):=Xz
theorem zuR {n:Int} (h:zmA n) : -9223372036854775808≤n∧n≤9223372036854775807:=by
 simp [zmA,Lit.wf,IntKind.has,IntKind.min,IntKind.max,IntKind.bits,IntKind.signed] at h;omega
theorem zpZ {g:Img} (h:zo0 g):∀ m∈g.methods,∀ x∈m.code,zdQ x:=fun m hm x hx=>by
 have:=((h.2.2.1 m hm).2.2.2.2.2.2.1 x hx).2.1
 simp [Lit.wf,IntKind.has,IntKind.min,IntKind.max,IntKind.bits,IntKind.signed] at this
 exact ⟨by omega,by omega⟩
end Go.Cg
namespace Go.Cg
open Go Go.Proofs
theorem zth:laidOutB Tryz.checked.prog=true:=by kernel_rfl
theorem zsU:mapsRowed Tryz.checked.prog=true:=by kernel_rfl
theorem zqR:Tryz.checked.prog.stopsHeard=true:=by kernel_rfl
theorem zrJ:Tryz.checked.prog.mayEnter=true:=by kernel_rfl
theorem zsc:Tryz.checked.prog.liftsFinal=false:=by kernel_rfl
theorem zsR:Tryz.checked.prog.make=some .cut:=by kernel_rfl
end Go.Cg
