/- A part of the walks by abstract values: no statement of its own. -/
import Derived.Test.YtdlokcmodgccnaaGreatU7
import Derived.Test.YtdlokcmodgccnaaGreatU6
import Derived.RangeFuncFrom
import Derived.RangeFuncLeaves
import Derived.RangeFuncWrites
import Derived.Test.YtdlokcmodgccnaaGreatU5
import Derived.Shelf.Abstract
import Derived.OwnWalkIn
import Derived.TacticsInMore
import Derived.LoopNIn
import Derived.LoopIn
import Derived.Test.YtdlokcmodgccnaaGreatU28
set_option linter.unusedVariables false
set_option linter.unusedSimpArgs false
namespace Go.Cg
open Go.RowKit
def zaV:HEnv→Bool
 | []=>true
 | (_,.obj _)::_=>false
 | _::e=>zaV e
theorem ziv:∀ {e:HEnv},zaV e=true→∀ i h,e.get i=some h→∀ X,h≠.obj X
 | [],_,i,h,hg,_=>by simp [HEnv.get_nil] at hg
 | (j,x)::e,hn,i,h,hg,X=>by
  have hn':zaV e=true∧∀ X,x≠.obj X:=by
   cases x <;> simp_all [zaV]
  rw [HEnv.get_cons] at hg
  split at hg
  ·simp only [Option.some.injEq] at hg;subst hg;exact hn'.2 X
  ·exact ziv hn'.1 i h hg X
section
variable {P:Program} {tb:Tab} {n:Nat} {g:Base} {K:KK} {w w':World} {ρ:Nat→Value} {H H':HEnv} {env:Env} {a:Act}
structure NC (B:Nat) (w w':World):Prop where
 row:∃ row,w.grownBy w' row∧∀ r,row=some r→B≤r∧∃ o:Obj,w.heap[r]?=some o∧o.isCells=false
theorem NC.cell {B:Nat} (h:NC B w w') {x:Addr} {v:Value} (hc:w.cell? x=some v):w'.cell? x=some v:=by
 obtain ⟨row,hg,hr⟩:=h.row
 exact cell_kept hc hg fun r e=>(hr r e).2
theorem PRel.keepc (h:∀ (x:Addr) (v:Value),w.cell? x=some v→w'.cell? x=some v) {p:PV} {v:Value} (hp:PRel K w p v):PRel K w' p v:=by
 have hrow:∀ {b o:Nat} {vs:List Value},Rows K w b o vs→Rows K w' b o vs:=fun hr k v hv=>⟨(hr k v hv).1,h _ _ (hr k v hv).2.1,(hr k v hv).2.2⟩
 induction hp with
 | base v h1=>exact .base v h1
 | agg cs vs hl h1 _ ih=>exact .agg cs vs hl h1 ih
 | nil sz full=>exact .nil sz full
 | emp sz full a=>exact .emp sz full a
 | slc sz es full b o cap vss h0 hc hf hm hm' hr _ ih=>exact .slc sz es full b o cap vss h0 hc hf hm hm' (fun i e he=>⟨(hr i e he).1,(hr i e he).2.1,hrow (hr i e he).2.2⟩) ih
 | ptr p off b o vs hl hr _ ih=>exact .ptr p off b o vs hl (hrow hr) ih
 | fn f first cap vf vc h1 h2 _ _ ih1 ih2=>exact .fn f first cap vf vc h1 h2 ih1 ih2
 | tup cs vs hl _ ih=>exact .tup cs vs hl ih
theorem PRels.keepc (h:∀ (x:Addr) (v:Value),w.cell? x=some v→w'.cell? x=some v) {ps:List PV} {vs:List Value} (hp:PRels K w ps vs):PRels K w' ps vs :=
 ⟨hp.1,fun k c v hc hv=>(hp.2 k c v hc hv).keepc h⟩
theorem PRel.nc {B:Nat} (h:NC B w w') {p:PV} {v:Value} (hp:PRel K w p v):PRel K w' p v:=hp.keepc fun _ _ hc=>h.cell hc
theorem PRels.nc {B:Nat} (h:NC B w w') {ps:List PV} {vs:List Value} (hp:PRels K w ps vs):PRels K w' ps vs:=hp.keepc fun _ _ hc=>h.cell hc
theorem ARel.nc {B:Nat} (h:NC B w w') {av:AV} {v:Value} (ha:ARel K w ρ H av v):ARel K w' ρ H av v:=by
 induction ha with
 | pv p v hp=>exact .pv p v (hp.nc h)
 | own i hv=>exact .own i hv
 | box i off b hi hb=>exact .box i off b hi hb
 | ad i off b m c hi hb=>exact .ad i off b m c hi hb
 | agg cs vs hl h1 _ ih=>exact .agg cs vs hl h1 ih
 | fn f first cap vf vc h1 h2 _ _ ih1 ih2=>exact .fn f first cap vf vc h1 h2 ih1 ih2
 | any v=>exact .any v
 | any1 v h1 h2=>exact .any1 v h1 h2
theorem NC.block {B:Nat} (h:NC B w w') {b:Nat} {arr:Array Value} {t:TypeId} {x:Nat × Nat} (hb:w.heap[b]?=some (.cells arr t x)):w'.heap[b]?=some (.cells arr t x):=by
 obtain ⟨row,hg,hr⟩:=h.row
 have hlt:=(Array.getElem?_eq_some_iff.1 hb).1
 rw [hg.block b hlt (fun e=>by
  obtain ⟨_,o,ho,hc⟩:=hr b e.symm
  rw [hb] at ho;cases ho;simp [Obj.isCells] at hc)]
 exact hb
theorem HOk.nc {B B0:Nat} (h:NC B0 w w') {e:HE} {r:Value} (hX:∀ X,e≠.obj X) (ho:HOk K w B ρ H e r):HOk K w' B ρ H e r:=by
 cases e with
 | cell v =>
  obtain ⟨b,t,arr,u,rfl,hB,hb,hu,ha,hn⟩:=ho
  exact ⟨b,t,arr,u,rfl,hB,h.block hb,hu.nc h,ha,hn⟩
 | row t sz es =>
  obtain ⟨xs,hown,h0,hc,hk⟩:=ho
  obtain ⟨row,hg,hr⟩:=h.row
  refine ⟨xs,hown.kept hg ?_,h0,fun i e he=>⟨(hc i e he).1,fun k c hkc=>?_⟩,hk⟩
  ·rcases hown.2 with ⟨e,_⟩|⟨b,cap,cur,e,_,hb,_⟩
   ·left;rw [e];rfl
   ·right;rw [e];intro e2
    obtain ⟨_,o,ho,hcc⟩:=hr b e2.symm
    rw [hb] at ho;cases ho;simp [Obj.isCells] at hcc
  ·obtain ⟨v,v1,v2,v3⟩:=(hc i e he).2 k c hkc
   exact ⟨v,v1,v2,v3.nc h⟩
 | mrow t sz es =>
  obtain ⟨xs,hown,h0,hc,hk⟩:=ho
  obtain ⟨row,hg,hr⟩:=h.row
  refine ⟨xs,hown.kept hg ?_,h0,fun i e he=>⟨(hc i e he).1,fun k c hkc=>?_⟩,hk⟩
  ·rcases hown.2 with ⟨e,_⟩|⟨b,cap,cur,e,_,hb,_⟩
   ·left;rw [e];rfl
   ·right;rw [e];intro e2
    obtain ⟨_,o,ho,hcc⟩:=hr b e2.symm
    rw [hb] at ho;cases ho;simp [Obj.isCells] at hcc
  ·obtain ⟨v,v1,v2,v3⟩:=(hc i e he).2 k c hkc
   exact ⟨v,v1,v2,v3.nc h⟩
 | dead=>trivial
 | pin v u=>exact ARel.nc h ho
 | obj X=>exact (hX X rfl).elim
structure Bare (g:Base):Prop where
 ds:g.ds=[]
 pr:∀ b,¬ g.pr b
 k0:∀ b o,g.K0 b o→b < g.w0.heap.size
theorem FS.nc (hf:FS g K ρ H w) (hpr:∀ b,¬ g.pr b) (hk0:∀ b o,g.K0 b o→b < g.w0.heap.size) (hw1:g.w1.heap.size=0) (hno:zaV H=true) (h:NC g.w0.heap.size w w'):FS g K ρ H w':=by
 obtain ⟨row,hg,hr⟩:=h.row
 have hpt:Prot g K w':=⟨fun b hb=>(hpr b hb).elim,fun b o h0=>by
  rw [←hf.pt.kept b o h0]
  refine World.cell?_of_block (hg.block b (hf.lt b o (hf.old b o h0)) fun e=>?_)
  have h1:=(hr b e.symm).1
  have h2:=hk0 b o h0
  omega⟩
 refine ⟨hf.below.grown hg hf.below.size (fun k e=>(hr k e).1),hf.old,hf.new,fun b o hk=>Nat.lt_of_lt_of_le (hf.lt b o hk) hg.size,⟨by rw [hw1];omega,fun k o hk=>by have:=(Array.getElem?_eq_some_iff.1 hk).1;omega⟩,hpt,hf.away,?_,hf.heap.apart⟩
 intro i e hi
 exact (hf.heap.ok i e hi).nc h (ziv hno i e hi)
structure AIter (P:Program) (f:FuncId) (cap:List PV) {α:Type} (encs:α→Array Value) (all:List α):Prop where
 stands:zax P f
 stops:∀ (K:KK) (w:World) (vc:List Value) (n:Nat),PRels K w cap vc→SeqStopsK Fence.wide n P f vc.toArray encs (fun A B=>(∃ K,PRels K A cap vc)→∃ K,PRels K B cap vc) (fun xs=>xs=all) (fun _=>True) all.length w
def mark (D:Nat):Deferred:={ target:=.collected D,args:=#[] }
structure AW2 (P:Program) (n:Nat) (g:Base) (c:Code) (env:Env) (H:HEnv) (Q:QC):Prop where
 go:∀ a w,Inv n g env H a w→∀ d,2≤d→c.wpIn Fence.wide d P (fun e a' w'=>∃ (g2:Base) (D:Nat),g2.w0=g.w0∧g2.K0=g.K0∧g2.ds=[mark D]∧g.w0.heap.size≤D∧g2.w1.heap[D]?=some (.deferred (some [])) ∧
  ∃ env' H',Inv n g2 env' H' a' w'∧Q e env' H') a w
variable {x y c:Code} {QQ:QC} {ops:List Oper}
def zjb (next:Env→HEnv→Prop):QC
 | .normal,env,H=>next env H
 | _,_,_=>False
theorem zgV (h:AW P n g x env H (zjb fun env' H'=>AW2 P n g y env' H' QQ)):AW2 P n g (.seq x y) env H QQ :=
 ⟨fun a w hi d hd=>wpIn_seq (wpIn_mono (h.go a w hi none d) fun e a' w' ⟨env',H',h1,h2⟩=>by
  cases e <;> first
   | exact h2.go a' w' h1 d hd
   | exact h2.elim)⟩
theorem zpH (h:AW2 P n g x env H (zjb fun env' H'=>∀ g2:Base,AW P n g2 y env' H' QQ)):AW2 P n g (.seq x y) env H QQ :=
 ⟨fun a w hi d hd=>wpIn_seq (wpIn_mono (h.go a w hi d hd) fun e a' w' ⟨g2,D,q1,q2,q3,q4,q5,env',H',h1,h2⟩=>by
  cases e <;> first
   | exact wpIn_mono ((h2 g2).go a' w' h1 none d) (fun e a2 w2 ⟨env2,H2,k1,k2⟩=>⟨g2,D,q1,q2,q3,q4,q5,env2,H2,k1,k2⟩)
   | exact h2.elim)⟩
theorem zpm {id:Nat} (h:AW2 P n g c env H (zjb fun env' H'=>QQ .normal env' H')):AW2 P n g (.block id c) env H QQ :=
 ⟨fun a w hi d hd=>wpIn_block (wpIn_mono (h.go a w hi d hd) fun e a' w' ⟨g2,D,q1,q2,q3,q4,q5,env',H',h1,h2⟩=>by
  cases e <;> first
   | exact ⟨g2,D,q1,q2,q3,q4,q5,env',H',h1,h2⟩
   | exact h2.elim)⟩
theorem zjl (htb:qc P tb) {f:FuncId} {args:List PV} {r:PV} {fn:Func} (hf:P.funcs[f]?=some fn) (hb:fn.body=some c) (hn:(fn.name == "runtime.NumGoroutine")=false) (hnt:fn.ntmps=n) (hargs:args.length≤n)
  (rs:List ResultVar) (hrs:fn.results.toList=rs) (h:lensOk args→∀ g:Base,g.w1.heap.size=0→Bare g→AW2 P n g c (ze8 0 args) [] (fun e env H=>zaV H=true∧zpr tb rs r e env H)):ACall P f args r:=by
 refine ⟨⟨fn,hf,by simp [hb],hn⟩,fun K w vs hl hv=>?_⟩
 refine callsIn_wide.1 (callsIn_of_wp_marks (F:=Fence.wide) (n:=2) hf hb trivial ?_)
 have hlen:vs.length=args.length:=hv.1
 refine wpIn_mono ((h hv.lensOk (Base.of w K (bare w) []) rfl ⟨rfl,fun _ h=>h,hl⟩).go _ w ⟨by simp [hnt];omega,rfl,K,fun _=>undef,⟨.refl _ _,fun _ _ h=>h,fun _ _ h=>.inl h,hl,Wn _ _,.base,.none _ _,⟨by simp [HEnv.get_nil,HEnv.get_cons],by simp [HEnv.get_nil,HEnv.get_cons]⟩⟩,?_⟩ 2 (Nat.le_refl _)) ?_
 ·intro t av hg
  obtain ⟨_,p,hp,rfl⟩:=zaM args 0 t av hg
  have hlt:t < vs.length:=by rw [hlen];exact (List.getElem?_eq_some_iff.1 hp).1
  refine ⟨vs[t],?_,.pv _ _ (hv.2 t p _ hp (List.getElem?_eq_getElem hlt))⟩
  rw [Array.getElem?_append_left (by simpa using hlt)]
  simp [hlt]
 ·rintro e a' w' ⟨g2,D,q1,q2,q3,q4,q5,env1,H',hi,hno,he,env',hent,ps,hps,rfl⟩
  obtain ⟨_,h2,K',ρ',hf2,he0⟩:=hi
  have hD:w'.heap[D]?=some (.deferred (some [])):=hf2.others.same D _ q5 rfl
  have hf':FS (Base.of w K (bare w) []) K' ρ' H' w':=by
   have b1:=hf2.below;rw [q1] at b1
   have b2:=hf2.old;rw [q2] at b2
   have b3:=hf2.new;rw [q1,q2] at b3
   have b5:=hf2.heap;rw [q1] at b5
   exact ⟨b1,b2,b3,hf2.lt,Wn _ _,⟨fun _ h=>h.elim,fun b o h0=>World.cell?_of_block (b1.block b (hl b o h0))⟩,.none _ _,b5⟩
  obtain ⟨w3,hw3⟩:∃ w3,w3=w'.putObj D (.deferred none):=⟨_,rfl⟩
  have hnc:NC w.heap.size w' w3:=⟨some D,by rw [hw3];exact grownBy_putObj' _ _ _,fun r e=>by cases e;exact ⟨q4,_,hD,rfl⟩⟩
  have hf3:=hf'.nc (fun _ h=>h) hl rfl hno hnc
  have he':EnvR K' w3 ρ' H' env' a'.tmps:=fun t av ht=>by
   obtain ⟨av0,q1,q2⟩:=hent t av ht
   obtain ⟨v,v1,v2⟩:=he0 t av0 q1
   exact ⟨v,v1,q2 _ _ _ _ _ (v2.nc hnc)⟩
  obtain ⟨us,hrun,hru⟩:=Vt htb hf3 he' hps
  have hev:Evo K K' w w3:=⟨hf3.below,hf3.old,hf3.new,hf3.lt⟩
  have hres:(results fn a'.tmps).run P w3=.ok (if hh:us.toArray.size=1 then us.toArray[0] else .tuple us.toArray) w3:=by
   unfold results
   rw [Array.mapM_eq_mapM_toList,hrs]
   simp only [Sem.run_bind,Sem.run_map]
   erw [hrun]
   rfl
  have hval:PRel K' w3 (zy ps) (if hh:us.toArray.size=1 then us.toArray[0] else .tuple us.toArray):=by
   split
   ·rename_i hh
    have hl1:=hru.1
    have hu:us.length=1:=by simpa using hh
    obtain ⟨u,rfl⟩:=List.length_eq_one_iff.1 hu
    obtain ⟨p,rfl⟩:=List.length_eq_one_iff.1 (show ps.length=1 by omega)
    exact hru.2 0 p u (by simp) (by simp)
   ·rename_i hh
    simp at hh
    have:zy ps=.tup ps:=by
     unfold zy
     split
     ·rename_i p;exact absurd (by have:=hru.1;simpa using this) hh
     ·rfl
    rw [this]
    exact .tup ps us hru.1 hru.2
  have hds:a'.defers=[mark D]:=h2.trans q3
  have hleave:LeavesInM Fence.wide 2 P fn a'.tmps (fun e w'=>∃ v K',e=.returned v∧Evo K K' w w'∧PRel K' w' (zy ps) v) a'.defers .returning w':=by
   rw [hds]
   refine ⟨by simp,.inl ⟨D,w3,rfl,by rw [hw3];exact run_takeDeferred hD,?_⟩⟩
   exact ⟨_,hres,_,K',rfl,hev,hval⟩
  rcases he with rfl|rfl
  ·exact hleave
  ·exact hleave
def zqd (ts:List Nat) (env:Env):Bool:=ts.all fun t=>(env.get t).isNone
theorem zph {α:Type} {tf p0 p1 tv:Nat} {id:Nat} {ty:TypeId} {po:String} {af:Array Edge} {body:Code} {fB:FuncId} {cap:List PV} {encs:α→Array Value} {all:List α} (v0 v1:α→Value) (hit:AIter P fB cap encs all)
  (env2:Env) (HH:List α→HEnv) (b:Nat) (hw1:g.w1.heap.size=0) (hbg:Bare g)
  (henc:∀ x,encs x=#[v0 x,v1 x]) (hv1:∀ x,Xa (v1 x)=true)
  (ht:env.get tf=some (.pv (.fn (.func fB) [] cap))) (hs:Sub env env2) (hft:env2.get tf=some (.pv (.fn (.func fB) [] cap))) (hnd:zll env2=true) (hfr:zqd [p0,p1,tv] env2=true) (hpp:p0 < n∧p1 < n∧tv < n∧p0≠p1)
  (hfit:Qo H (HH []) env2) (hids:∀ pre,zdu b (HH pre)=true) (hno:∀ pre,zaV (HH pre)=true)
  (hend:(XB (HH all) env2&&hIn (HH all) (HH all))=true)
  (hbody:∀ (g2:Base) (us:Nat→Value) (pre:List α) (x:α),pre.length < all.length→AW P n g2 body ((tv,.pv (.base (v1 x)))::env2) (HH pre++qH us b env2) (zjb fun env' H'=>Qo H' (HH (pre++[x])++qH us b env2) []))
  (h:QQ .normal env2 (HH all)):AW2 P n g (.rangeFunc (.tmp tf) #[p0,p1] (.region id #[{ dst:=some tv,op:=.assign (.tmp p1),type:=ty,pos:=po,after:=af,guard:=none }] false) body) env H QQ:=by
 refine ⟨fun a w hinv d hd=>?_⟩
 have hinv2:=(hinv.sub hs).hsub hfit
 obtain ⟨h1,h2,K,ρ,hf,he⟩:=hinv2
 let us:Nat→Value:=fun t=>a.tmps.getD t undef
 have hus:∀ t av,(t,av)∈env2→ARel K w ρ (HH []) av (us t):=by
  intro t av hm
  obtain ⟨v,v1,v2⟩:=he t av (zcY hnd hm)
  have:us t=v:=by simp [us,Array.getD_eq_getD_getElem?,v1]
  rw [this];exact v2
 have hpins:∀ (pre:List α),zaV (HH pre++qH us b env2)=true:=by
  intro pre
  have h3:∀ (e:Env) (k:Nat),zaV (qH us k e)=true:=by
   intro e
   induction e with
   | nil=>intro k;rfl
   | cons x e ih=>intro k;exact ih (k + 1)
  have h4:∀ (A B:HEnv),zaV A=true→zaV B=true→zaV (A++B)=true:=by
   intro A
   induction A with
   | nil=>intro B _ hB;exact hB
   | cons x A ih =>
    intro B hA hB
    obtain ⟨j,x⟩:=x
    cases x <;> simp only [zaV,List.cons_append] at hA ⊢ <;> first|exact ih B hA hB|cases hA
  exact h4 _ _ (hno pre) (h3 _ _)
 have hfs0:FS g K ρ (HH []++qH us b env2) w:=by
  have hlat:Later K K w w:=.refl K w
  have hk:∀ j,(HEnv.get (HH []) j).isSome=true→(HEnv.get (HH []++qH us b env2) j).isSome=true∧ρ j=ρ j:=fun j hj=>⟨yE j hj,rfl⟩
  refine ⟨hf.below,hf.old,hf.new,hf.lt,hf.others,hf.pt,fun i h bb _ _ _=>hbg.pr bb,?_,?_⟩
  ·intro i e hi
   rw [get_append] at hi
   cases hh:HEnv.get (HH []) i with
   | some x=>rw [hh] at hi;simp only [Option.some.injEq] at hi;subst hi;exact (hf.heap.ok i _ hh).keeps (.refl hf.lt) hf.lt hk
   | none =>
    rw [hh] at hi
    obtain ⟨_,t,av,hm,rfl⟩:=VW hi
    exact (hus t av hm).keeps hlat hk
  ·intro i j x y bb hij hi hj lx ly bx bby
   have e1:∀ i x,HEnv.get (HH []++qH us b env2) i=some x→x.live=true→HEnv.get (HH []) i=some x:=by
    intro i x hi hl
    rw [get_append] at hi
    cases hh:HEnv.get (HH []) i with
    | some z=>rw [hh] at hi;exact hi
    | none =>
     rw [hh] at hi
     obtain ⟨_,t,av,hm,rfl⟩:=VW hi
     simp [HE.live] at hl
   exact hf.heap.apart i j x y bb hij (e1 i x hi lx) (e1 j y hj ly) lx ly bx bby
 have hread:∀ {K':KK} {ρ':Nat→Value} {pre:List α} {W:World} {g':Base},FS g' K' ρ' (HH pre++qH us b env2) W→∀ t av,env2.get t=some av→a.tmps[t]?=some (us t)∧ARel K' W ρ' (HH pre++qH us b env2) av (us t):=by
  intro K' ρ' pre W g' hf' t av hg
  obtain ⟨v,v1,v2⟩:=he t av hg
  have hu:us t=v:=by simp [us,Array.getD_eq_getD_getElem?,v1]
  obtain ⟨i,hbi,hgi⟩:=zgq (us:=us) (b:=b) (zf0 hg)
  have hn:HEnv.get (HH pre) i=none:=by
   cases hh:HEnv.get (HH pre) i with
   | none=>rfl
   | some z=>have:=XM (hids pre) i z hh;omega
  have hget:HEnv.get (HH pre++qH us b env2) i=some (.pin av (us t)):=by rw [get_append,hn];exact hgi
  exact ⟨by rw [hu];exact v1,hf'.heap.ok i _ hget⟩
 have hfn:∃ vc,us tf=.func (.func fB) #[] vc.toArray∧PRels K w cap vc:=by
  have:=(hus tf _ (zf0 hft))
  cases this with
  | pv _ _ hp =>
   generalize us tf=u at hp
   cases hp with
   | fn _ _ _ vf vc f1 f2 f3 f4 =>
    have:vf=[]:=List.eq_nil_of_length_eq_zero (by simpa using f1)
    subst this
    exact ⟨vc,rfl,f2,f4⟩
 obtain ⟨vc,hvc,hpc⟩:=hfn
 have hev:a.eval (.tmp tf)=.func (.func fB) #[] vc.toArray:=by rw [←hvc];rfl
 have hcapW:∀ {K':KK} {ρ':Nat→Value} {pre:List α} {W:World} {g':Base},FS g' K' ρ' (HH pre++qH us b env2) W→PRels K' W cap vc:=by
  intro K' ρ' pre W g' hf'
  have:=(hread hf' tf _ hft).2
  rw [hvc] at this
  cases this with
  | pv _ _ hp =>
   cases hp with
   | fn _ _ _ vf vc' f1 f2 f3 f4=>exact ⟨f2,f4⟩
 have hseq:=hit.stops K w vc (d - 1) hpc
 let a₁:α→Act:=fun x=>{ tmps:=((a.tmps.setIfInBounds p0 (v0 x)).setIfInBounds p1 (v1 x)).setIfInBounds tv (v1 x),defers:=[] }
 let I:List α→World→Prop:=fun pre W=>∃ K ρ,FS g K ρ (HH pre++qH us b env2) W
 refine wpIn_rangeFunc_ownF (α:=α) (F:=Fence.wide) (n:=d) (w0:=w) (N:=all.length) rfl (by omega) hev trivial (fun args w=>Zi hit.stands args w) hseq
  (fun h1 h2 h=>h2 (h1 h)) (fun W l o o' hl hlo ho _=>fun ⟨K',hK'⟩=>⟨K',hK'.nc (B:=0) ⟨some l,grownBy_putObj' _ _ _,fun r e=>by cases e;exact ⟨Nat.zero_le _,o,hlo,ho⟩⟩⟩) (.refl _ _)
  (fun x=>by rw [henc];rfl) I (fun _ _ _=>False) ?_ (fun _ _ _ _ _ h=>h.elim) ⟨K,ρ,hfs0⟩ a₁ ?_ ?_ ?_ (fun _ _ _ _ _ _ h _=>h.elim)
 ·rintro pre W W' row ⟨K',ρ',hf'⟩ hg hr
  exact ⟨K',ρ',hf'.nc hbg.pr hbg.k0 hw1 (hpins pre) ⟨row,hg,fun r e=>⟨Nat.le_trans hf.below.size (hr r e).1,(hr r e).2⟩⟩⟩
 ·intro l x W KK hKK
  refine wpIn_region_list ?_
  have hK:KK (a₁ x) W:=hKK
  show wpListIn _ _ _ _ _ [_] _ _
  refine wpListIn_plain rfl fun K2 hK2=>?_
  refine ⟨fun _ _=>trivial,?_⟩
  rw [Oper.semAt_eq _ _ _ (fun c hc=>by cases hc)]
  have hrun:∀ ρ:Operand→Value,(execOp ρ { dst:=some tv,op:=.assign (.tmp p1),type:=ty,pos:=po,after:=af,guard:=none:Oper }).run P W=.ok (.value (ρ (.tmp p1))) W:=fun ρ=>by simp [execOp]
  rw [hrun]
  simp only [Oper.uponIn]
  refine hK2 _ _ ?_
  show Exit.then KK _ .normal _ W
  have e1:(({ tmps:=((#[p0,p1]:Array Tmp).zip (encs x)).foldl (fun t (p,v)=>t.setIfInBounds p v) a.tmps,defers:=[] }:Act).put (some tv) (({ tmps:=((#[p0,p1]:Array Tmp).zip (encs x)).foldl (fun t (p,v)=>t.setIfInBounds p v) a.tmps,defers:=[] }:Act).eval (.tmp p1)))=a₁ x:=by
   rw [henc x]
   have hsz:p1 < (a.tmps.setIfInBounds p0 (v0 x)).size:=by simp;omega
   have hz:((#[p0,p1]:Array Tmp).zip #[v0 x,v1 x]).foldl (fun t (p,v)=>t.setIfInBounds p v) a.tmps=(a.tmps.setIfInBounds p0 (v0 x)).setIfInBounds p1 (v1 x):=by
    have hz0:(#[p0,p1]:Array Tmp).zip #[v0 x,v1 x]=#[(p0,v0 x),(p1,v1 x)]:=Array.ext' (by rw [Array.toList_zip];rfl)
    rw [hz0];rfl
   rw [hz]
   simp only [Act.put,Act.eval,a₁]
   congr 2
   simp [Array.getD_eq_getD_getElem?]
   intro h;omega
  rw [e1]
  exact hK
 ·rintro l pre x W ⟨K',ρ',hf'⟩ hlen
  have hf2:FS ⟨g.w0,g.K0,W,[],g.wp,g.pr⟩ K' ρ' (HH pre++qH us b env2) W:=⟨hf'.below,hf'.old,hf'.new,hf'.lt,KeepsOthers.refl W,⟨hf'.pt.same,hf'.pt.kept⟩,hf'.away,hf'.heap⟩
  have hinvB:Inv n ⟨g.w0,g.K0,W,[],g.wp,g.pr⟩ ((tv,.pv (.base (v1 x)))::env2) (HH pre++qH us b env2) (a₁ x) W:=by
   refine ⟨by simp [a₁,h1],rfl,K',ρ',hf2,fun t av hg=>?_⟩
   rw [Env.get_cons] at hg
   split at hg
   ·rename_i e;subst e
    simp only [Option.some.injEq] at hg;subst hg
    refine ⟨v1 x,?_,.pv _ _ (.base _ (hv1 x))⟩
    show (((a.tmps.setIfInBounds p0 (v0 x)).setIfInBounds p1 (v1 x)).setIfInBounds tv (v1 x))[tv]?=some (v1 x)
    exact Array.getElem?_setIfInBounds_self_of_lt (by simp;omega)
   ·rename_i hne
    obtain ⟨q1,q2⟩:=hread hf' t av hg
    have hfresh:∀ p,p∈[p0,p1,tv]→p≠t:=by
     intro p hp e;subst e
     have:=List.all_eq_true.1 hfr p hp
     rw [hg] at this;cases this
    refine ⟨us t,?_,q2⟩
    show (((a.tmps.setIfInBounds p0 (v0 x)).setIfInBounds p1 (v1 x)).setIfInBounds tv (v1 x))[t]?=_
    rw [Array.getElem?_setIfInBounds_ne (hfresh tv (by simp)),Array.getElem?_setIfInBounds_ne (hfresh p1 (by simp)),Array.getElem?_setIfInBounds_ne (hfresh p0 (by simp))]
    exact q1
  refine wpIn_mono ((hbody ⟨g.w0,g.K0,W,[],g.wp,g.pr⟩ us pre x hlen).go (a₁ x) W hinvB (some l) (d - 1 - 1)) ?_
  rintro e a' W' ⟨env',H',hi',hq⟩
  cases e with
  | normal =>
   obtain ⟨_,_,K2,ρ2,hfe,_⟩:=(hi'.sub yZ).hsub (H':=HH (pre++[x])++qH us b env2) hq
   refine ⟨hfe.others,fun _=>⟨K2,hcapW hfe⟩,K2,ρ2,⟨hfe.below,hfe.old,hfe.new,hfe.lt,⟨by rw [hw1];omega,fun k o hk=>by have:=(Array.getElem?_eq_some_iff.1 hk).1;omega⟩,⟨hfe.pt.same,hfe.pt.kept⟩,hfe.away,hfe.heap⟩⟩
  | _=>exact hq.elim
 ·rintro D xs W hD rfl ⟨K',ρ',hf'⟩ hWD
  have hend':=hend
  simp only [Bool.and_eq_true] at hend'
  have hfe:FS ⟨g.w0,g.K0,W,[mark D],g.wp,g.pr⟩ K' ρ' (HH xs++qH us b env2) W:=⟨hf'.below,hf'.old,hf'.new,hf'.lt,KeepsOthers.refl W,⟨hf'.pt.same,hf'.pt.kept⟩,hf'.away,hf'.heap⟩
  have hinvE:Inv n ⟨g.w0,g.K0,W,[mark D],g.wp,g.pr⟩ env2 (HH xs++qH us b env2) { a with defers:=mark D::a.defers } W:=by
   refine ⟨h1,?_,K',ρ',hfe,fun t av hg=>?_⟩
   ·show mark D::a.defers=[mark D]
    rw [h2,hbg.ds]
   ·obtain ⟨q1,q2⟩:=hread hf' t av hg
    exact ⟨us t,q1,q2⟩
  have hsub:HSub (HH xs++qH us b env2) (HH xs):=fun i h hi=>by rw [get_append,hi]
  exact ⟨⟨g.w0,g.K0,W,[mark D],g.wp,g.pr⟩,D,rfl,rfl,rfl,Nat.le_trans hf.below.size hD,hWD,env2,HH xs,hinvE.hsub ⟨hsub,hend⟩,h⟩
end
end Go.Cg
set_option linter.unusedVariables false
set_option linter.unusedSimpArgs false
namespace Go.Cg
open Go.Proofs Go.RowKit Go.Shelf
set_option maxHeartbeats 20000000
attribute [local go_sem] Oper.semAt_some
def WT (l:List Int) (r:Nat):List (Int × Int):=(List.range (l.length - r)).map fun k=>(((l.length - 1 - k:Nat):Int),l.getD (l.length - 1 - k) 0)
theorem zm8 (l:List Int):WT l l.length=[]:=by simp [WT]
theorem ze3 (l:List Int) (r:Nat):(WT l r).length=l.length - r:=by simp [WT]
theorem zna {l:List Int} {m:Nat} (h:m < l.length):WT l m=WT l (m + 1)++[((m:Int),l.getD m 0)]:=by
 rw [WT,WT,show l.length - m=(l.length - (m + 1)) + 1 by omega,List.range_succ,List.map_append,List.map_singleton]
 rw [show l.length - 1 - (l.length - (m + 1))=m by omega]
def zjV (W:World) (v:Value) (l:List Int):Prop :=
 ∃ (Bs o:Nat) (sv:Value),v=.pointer (some ⟨Bs,o,none⟩)∧W.cell? ⟨Bs,o,none⟩=some sv ∧
  ((l=[]∧∃ p,sv=.slice p 0 0)∨∃ b off cap,sv=.slice (some ⟨b,off,none⟩) l.length cap∧∀ j,j < l.length→W.cell? ⟨b,off + j,none⟩=some (.int .i64 (l.getD j 0)))
theorem zcR {K:Cg.KK} {W:World} {l:List Int} {vc:List Value} (h:PRels K W [.ptr (ints l) 0] vc):∃ v,vc=[v]∧zjV W v l:=by
 obtain ⟨v,vs,rfl,r,h2⟩:=h.cons_inv
 obtain rfl:=h2.nil_inv
 refine ⟨v,rfl,?_⟩
 cases r with
 | ptr _ _ b o vs hl hr hc =>
  cases vs with
  | nil=>simp [PV.cells,ints] at hl
  | cons sv vs' =>
   have h0:=hr 0 sv rfl
   have hp:=hc 0 (ints l) sv rfl rfl
   refine ⟨b,o,sv,by simp,by simpa using h0.2.1,?_⟩
   generalize hls:ints l=p at hp
   cases hp with
   | nil sz full =>
    simp [ints] at hls
    exact .inl ⟨hls.2.1,none,rfl⟩
   | emp sz full a =>
    simp [ints] at hls
    exact .inl ⟨hls.2.1,some a,rfl⟩
   | slc sz es full b2 o2 cap vss q0 q1 q2 q3 q4 q5 q6 =>
    simp only [ints,PV.slc.injEq] at hls
    obtain ⟨rfl,rfl,_⟩:=hls
    refine .inr ⟨b2,o2,cap,by simp,fun j hj=>?_⟩
    have he:(l.map pi)[j]?=some (pi l[j]):=by simp [hj]
    obtain ⟨_,e2,e3⟩:=q5 j _ he
    have hlt:0 < (vss j).length:=by omega
    have hv:=q6 j _ 0 _ (vss j)[0] he rfl (List.getElem?_eq_getElem hlt)
    have hcell:=(e3 0 _ (List.getElem?_eq_getElem hlt)).2.1
    generalize (vss j)[0]=y at hv hcell
    cases hv
    rw [List.getD_eq_getElem?_getD,List.getElem?_eq_getElem hj,Option.getD_some]
    simpa using hcell
   | _=>simp [ints] at hls
set_option maxRecDepth 100000 in
theorem zrg (n:Nat) (rn:Nat) (v:Value) (l:List Int) (hreach:l.length≤1000) (J Jx:List (Int × Int)→World→Prop)
  (hY:∀ pre x W,J pre W→pre.length < l.length→YieldAt Fence.wide (n - 1) Tryz.prog rn #[.int .i64 x.1,.int .i64 x.2] W fun e W' =>
   (e=.returned (.bool true)∧J (pre++[x]) W'∧((∃ K,PRels K W [.ptr (ints l) 0] [v])→∃ K,PRels K W' [.ptr (ints l) 0] [v]))∨(e=.returned (.bool false)∧Jx (pre++[x]) W'))
  (W:World) (hvP:∃ K,PRels K W [.ptr (ints l) 0] [v]) (h0:J [] W) :
  CallsIn Fence.wide n Tryz.prog 174 #[.func (.yield rn) #[] #[],v] W fun e W'=>(∃ u,e=.returned u) ∧
   ((∃ ys,ys=WT l 0∧J ys W')∨(∃ pre,Jx pre W')):=by
 obtain ⟨Bs,o,sv,rfl,hBs,hsv⟩:zjV W v l:=by
  obtain ⟨K,hp⟩:=hvP
  obtain ⟨v2,e,hv2⟩:=zcR hp
  simp only [List.cons.injEq,and_true] at e;subst e;exact hv2
 obtain ⟨p,cap,hsve⟩:∃ p cap,sv=.slice p l.length cap:=by
  rcases hsv with ⟨rfl,p,rfl⟩|⟨b,off,cap,rfl,_⟩
  ·exact ⟨p,0,rfl⟩
  ·exact ⟨_,cap,rfl⟩
 subst hsve
 refine callsIn_of_wp Tryz.func174 rfl trivial ?_ rfl
 simp only [Tryz.ntmps174,List.size_toArray,List.length_cons,List.length_nil,Nat.reduceAdd,Nat.reduceSub,Array.replicate_succ,Array.replicate_zero,List.push_toArray,List.append_toArray,List.nil_append,List.cons_append]
 gi_wp2
 gi_loopw [3] (fun i wr=>∃ r:Nat,r≤l.length∧i=.int .i64 ((r:Int) - 1)∧J (WT l r) wr∧∃ K,PRels K wr [.ptr (ints l) 0] [.pointer (some ⟨Bs,o,none⟩)])
  (fun i _=>(RowKit.intOf i + 1).toNat)
 case atStart=>exact ⟨l.length,Nat.le_refl _,by first|rfl|(simp;done)|(congr 1;exact wrap_in (by omega) (by omega)),by rw [zm8];exact h0,hvP⟩
 case round =>
  obtain ⟨r,hk,rfl,hJs,hnx⟩:=hrel
  clear hsv hBs
  obtain ⟨Bs',o',sv,e1,hBs,hsv⟩:zjV wr (.pointer (some ⟨Bs,o,none⟩)) l:=by
   obtain ⟨K,hp⟩:=hnx
   obtain ⟨v2,e,hv2⟩:=zcR hp
   simp only [List.cons.injEq,and_true] at e;subst e;exact hv2
  simp only [Value.pointer.injEq,Option.some.injEq,Addr.mk.injEq,and_true] at e1
  obtain ⟨rfl,rfl⟩:=e1
  cases r with
  | zero =>
   gi_wp2
   go_end0
   exact ⟨⟨_,rfl⟩,.inl ⟨_,rfl,hJs⟩⟩
  | succ m =>
   have hm:m < l.length:=by omega
   rcases hsv with ⟨rfl,_⟩|⟨b,off,cap2,rfl,hcs⟩
   ·simp at hm
   ·have hcx:=hcs m hm
    obtain ⟨fn,tmps,assign,body,hy,hR⟩:=hY _ ((m:Int),l.getD m 0) wr hJs (by rw [ze3];omega)
    dsimp only at hy
    have hgd:l.getD m 0=l[m]:=by rw [List.getD_eq_getElem?_getD,List.getElem?_eq_getElem hm,Option.getD_some]
    rw [hgd] at hy hcx
    rw [show (((m + 1:Nat):Int) - 1)=((m:Nat):Int) by omega]
    gi_wp2
    refine ⟨fun hh=>by simp [Fence.wide] at hh,hR.mono ?_⟩
    rintro e W3 (⟨rfl,hJ3,hk3⟩|⟨rfl,hJx3⟩)
    ·gi_wp2
     go_roundw
     case rel=>exact ⟨m,by omega,by first|rfl|(simp;done)|(congr 1;exact wrap_in (by omega) (by omega)),by rw [zna hm];exact hJ3,hk3 hnx⟩
     case measure=>simp [RowKit.intOf]
    ·gi_wp2
     refine bodyPost_ret (results_none rfl _ _ _) rfl ?_
     exact ⟨⟨_,rfl⟩,.inr ⟨_,hJx3⟩⟩
theorem zo1 (l:List Int) (hreach:l.length≤1000):AIter Tryz.prog 174 [.ptr (ints l) 0] (fun x:Int × Int=>#[.int .i64 x.1,.int .i64 x.2]) (WT l 0):=by
 refine ⟨⟨_,Tryz.func174,rfl,by kernel_rfl⟩,fun K w vc n hp=>?_⟩
 obtain ⟨v,rfl,_⟩:=zcR hp
 intro rn J Jx W hW hJ hJx hY h0
 have hpW:PRels K W [.ptr (ints l) 0] [v]:=hp.keepc fun x u hx=>by
  obtain ⟨o,ho,_⟩:=cells_of_cell hx
  exact (hW.cell (p:=x) (Array.getElem?_eq_some_iff.1 ho).1).trans hx
 rw [show (WT l 0).length=l.length by rw [ze3];omega] at hY
 refine (zrg n rn v l hreach J Jx hY W ⟨K,hpW⟩ h0).mono ?_
 rintro e W' ⟨h1,h2|⟨pre,h2⟩⟩
 ·exact ⟨h1,.inl h2⟩
 ·exact ⟨h1,.inr ⟨pre,trivial,h2⟩⟩
theorem zhU (l:List Int):ACall Tryz.prog 128 [ints l] (.fn (.func 174) [] [.ptr (ints l) 0]):=by
 refine zi zf Tryz.func128 rfl (by kernel_rfl) Tryz.ntmps128 (by simp) _ rfl (fun hw gB hgB=>?_)
 repeat' (first|refine sA ?_|refine sC (fun _=>?_) (fun _=>?_)|fail)
 exact retq rfl rfl
end Go.Cg
namespace Go.Cg
open Go.Proofs
set_option maxHeartbeats 20000000
theorem zoV (g:Img) (hF:Fm g) (m:Me) (ar:List Ty) (arg:Int) (t0:Ty) (l:List Ty) (hl:l.length≤100):XC 157 [] (⟨g,m,ar,⟨55,arg,t0⟩⟩:RC) (qY g m ⟨55,arg,t0⟩) uV l:=by
 intro u;refine zH zf Tryz.func157 rfl (by kernel_rfl) Tryz.ntmps157 (by simp) _ rfl (fun gB hw1=>?_)
 have cr:=ZF t0
 cases hS1:(Zw g [rfT t0,t0]) l with
 | error e =>
  have hw:(qY g m ⟨55,arg,t0⟩) l=.error e:=by simp [qY,zu,zC,hS1]
  repeat' (first|refine yU 6 5 rfl (by kernel_rfl) (by kernel_rfl) (by kernel_rfl) (by kernel_rfl) (by kernel_rfl) ?_|refine zA ((yP u ⟨g,m,ar,⟨55,arg,t0⟩⟩ l)) zh rfl rfl rfl tH ((ZQ ⟨g,m,ar,⟨55,arg,t0⟩⟩ hF [rfT t0,t0] _ (by omega)).bad hS1 u) ?_|refine zx rfl (zk (ps:=(yR t0)) zf rfl rfl rfl rfl rfl) rfl rfl ?_|refine AD.step _ _ _ _ _ rfl (zk (ps:=(yR t0)) zf rfl rfl rfl rfl rfl) rfl rfl ?_|(refine shC ?_;first|refine qC cr ?_)|refine sK ?_|refine sC (fun _=>?_) (fun _=>?_)|fail)
  exact zB hw
 | ok p =>
  obtain ⟨⟨⟩,l1⟩:=p
  have hl1:l1.length≤100:=by have:=XD hS1;omega
  have hw:(qY g m ⟨55,arg,t0⟩) l=.ok ((),l1):=by simp [qY,zu,zC,hS1]
  repeat' (first|refine zV 6 5 rfl (by kernel_rfl) (by kernel_rfl) (by kernel_rfl) (by kernel_rfl) (by kernel_rfl) ?_|refine zx rfl (zk (ps:=(yR t0)) zf rfl rfl rfl rfl rfl) rfl rfl ?_|refine AD.step _ _ _ _ _ rfl (zk (ps:=(yR t0)) zf rfl rfl rfl rfl rfl) rfl rfl ?_|(refine shC ?_;first|refine qC cr ?_)|(refine zn ?_;first|(refine zo 0 zh rfl rfl ((ZQ ⟨g,m,ar,⟨55,arg,t0⟩⟩ hF [rfT t0,t0] _ (by omega)).ok hS1) rfl rfl rfl rfl rfl ?_))|refine sK ?_|refine sC (fun _=>?_) (fun _=>?_)|fail)
  exact zU hw (yw (.inr rfl) tH)
theorem zn3 (g:Img) (hF:Fm g) (m:Me) (ar:List Ty) (arg:Int) (t0:Ty) (l:List Ty) (hl:l.length≤100) (h0:0≤t0.dims) (h1:t0.dims≤100):XC 158 [] (⟨g,m,ar,⟨57,arg,t0⟩⟩:RC) (yF g m ⟨57,arg,t0⟩) uV l:=by
 intro u;refine zH zf Tryz.func158 rfl (by kernel_rfl) Tryz.ntmps158 (by simp) _ rfl (fun gB hw1=>?_)
 cases hS1:(XG ⟨57,arg,t0⟩) l with
 | error e =>
  have hw:(yF g m ⟨57,arg,t0⟩) l=.error e:=by simp [yF,zu,zC,hS1]
  repeat' (first|refine zl 4 1 rfl rfl rfl ?_|refine zA ((yP u ⟨g,m,ar,⟨57,arg,t0⟩⟩ l)) zh rfl rfl rfl tH ((Zf ⟨g,m,ar,⟨57,arg,t0⟩⟩ _ h0 h1).bad hS1 u) ?_|refine zx rfl (zk (ps:=(yR t0)) zf rfl rfl rfl rfl rfl) rfl rfl ?_|refine AD.step _ _ _ _ _ rfl (zk (ps:=(yR t0)) zf rfl rfl rfl rfl rfl) rfl rfl ?_|(refine shC ?_;first|refine qC (zM 2) ?_)|refine sK ?_|refine sC (fun _=>?_) (fun _=>?_)|fail)
  exact zB hw
 | ok p =>
  obtain ⟨a,l1⟩:=p
  have hl1:l1.length≤100:=by have:=zaY hS1;omega
  cases hS2:(Yy g (kTy 2)) l1 with
  | error e =>
   have hw:(yF g m ⟨57,arg,t0⟩) l=.error e:=by simp [yF,zu,zC,hS1,hS2]
   repeat' (first|refine zl 11 2 rfl rfl rfl ?_|refine zA ((yP u ⟨g,m,ar,⟨57,arg,t0⟩⟩ l1)) zh rfl rfl rfl tH ((qg ⟨g,m,ar,⟨57,arg,t0⟩⟩ hF (kTy 2) _ (by omega)).bad hS2 u) ?_|refine zx rfl (zk (ps:=(yR t0)) zf rfl rfl rfl rfl rfl) rfl rfl ?_|refine AD.step _ _ _ _ _ rfl (zk (ps:=(yR t0)) zf rfl rfl rfl rfl rfl) rfl rfl ?_|(refine shC ?_;first|refine qC (zM 2) ?_)|(refine zn ?_;first|(refine zo 0 zh rfl rfl ((Zf ⟨g,m,ar,⟨57,arg,t0⟩⟩ _ h0 h1).ok hS1) rfl rfl rfl rfl rfl ?_))|refine sK ?_|refine sC (fun _=>?_) (fun _=>?_)|fail)
   exact zB hw
  | ok p =>
   obtain ⟨⟨⟩,l2⟩:=p
   have hl2:l2.length≤100:=by have:=XZ hS2;omega
   cases hS3:(yV m.max [a]) l2 with
   | error e =>
    have hw:(yF g m ⟨57,arg,t0⟩) l=.error e:=by simp [yF,zu,zC,hS1,hS2,hS3]
    repeat' (first|refine zl 12 3 rfl rfl rfl ?_|refine zA ((yP u ⟨g,m,ar,⟨57,arg,t0⟩⟩ l2)) zh rfl rfl rfl tH ((zO ⟨g,m,ar,⟨57,arg,t0⟩⟩ [a] _ (by omega) (by simp)).bad hS3 u) ?_|refine zx rfl (zk (ps:=(yR t0)) zf rfl rfl rfl rfl rfl) rfl rfl ?_|refine AD.step _ _ _ _ _ rfl (zk (ps:=(yR t0)) zf rfl rfl rfl rfl rfl) rfl rfl ?_|(refine shC ?_;first|refine qC (zM 2) ?_)|(refine zn ?_;first|(refine zo 0 zh rfl rfl ((Zf ⟨g,m,ar,⟨57,arg,t0⟩⟩ _ h0 h1).ok hS1) rfl rfl rfl rfl rfl ?_)|(refine zo 0 zh rfl rfl ((qg ⟨g,m,ar,⟨57,arg,t0⟩⟩ hF (kTy 2) _ (by omega)).ok hS2) rfl rfl rfl rfl rfl ?_))|refine sK ?_|refine sC (fun _=>?_) (fun _=>?_)|fail)
    exact zB hw
   | ok p =>
    obtain ⟨⟨⟩,l3⟩:=p
    have hw:(yF g m ⟨57,arg,t0⟩) l=.ok ((),l3):=by simp [yF,zu,zC,hS1,hS2,hS3]
    repeat' (first|refine zx rfl (zk (ps:=(yR t0)) zf rfl rfl rfl rfl rfl) rfl rfl ?_|refine AD.step _ _ _ _ _ rfl (zk (ps:=(yR t0)) zf rfl rfl rfl rfl rfl) rfl rfl ?_|(refine shC ?_;first|refine qC (zM 2) ?_)|(refine zn ?_;first|(refine zo 0 zh rfl rfl ((Zf ⟨g,m,ar,⟨57,arg,t0⟩⟩ _ h0 h1).ok hS1) rfl rfl rfl rfl rfl ?_)|(refine zo 0 zh rfl rfl ((qg ⟨g,m,ar,⟨57,arg,t0⟩⟩ hF (kTy 2) _ (by omega)).ok hS2) rfl rfl rfl rfl rfl ?_)|(refine zo 0 zh rfl rfl ((zO ⟨g,m,ar,⟨57,arg,t0⟩⟩ [a] _ (by omega) (by simp)).ok hS3) rfl rfl rfl rfl rfl ?_))|refine sK ?_|refine sC (fun _=>?_) (fun _=>?_)|fail)
    exact zU hw (yw (.inl rfl) tH)
theorem zpz (g:Img) (hF:Fm g) (m:Me) (ar:List Ty) (arg:Int) (t0:Ty) (l:List Ty) (hl:l.length≤100):XC 158 [] (⟨g,m,ar,⟨58,arg,t0⟩⟩:RC) (yF g m ⟨58,arg,t0⟩) uV l:=by
 intro u;refine zH zf Tryz.func158 rfl (by kernel_rfl) Tryz.ntmps158 (by simp) _ rfl (fun gB hw1=>?_)
 cases hS1:(YC) l with
 | error e =>
  have hw:(yF g m ⟨58,arg,t0⟩) l=.error e:=by simp [yF,zu,zC,hS1]
  repeat' (first|refine zl 1 1 rfl rfl rfl ?_|refine zA ((yP u ⟨g,m,ar,⟨58,arg,t0⟩⟩ l)) zh rfl rfl rfl tH ((yh ⟨g,m,ar,⟨58,arg,t0⟩⟩ _ (by omega)).bad hS1 u) ?_|(refine shC ?_;first|refine qC (zM 2) ?_)|refine sK ?_|refine sC (fun _=>?_) (fun _=>?_)|fail)
  exact zB hw
 | ok p =>
  obtain ⟨t,l1⟩:=p
  have hl1:l1.length≤100:=by have:=QU hS1;omega
  have cx:=qN t
  cases hC3:(object t)
  ·rw [hC3] at cx
   have hw:(yF g m ⟨58,arg,t0⟩) l=.error 10:=by simp [yF,zu,zC,hS1,hC3,zJ,emptyS]
   repeat' (first|refine zl 2 12 rfl rfl rfl ?_|refine zA ([]) zh rfl rfl rfl tH (yc (by first|rfl|assumption|simp [hC3]) 10) ?_|(refine shC ?_;first|refine qC cx ?_|refine qC (zM 2) ?_)|(refine zn ?_;first|(refine zo 0 zh rfl rfl ((yh ⟨g,m,ar,⟨58,arg,t0⟩⟩ _ (by omega)).ok hS1) rfl rfl rfl rfl rfl ?_))|refine sK ?_|refine sC (fun _=>?_) (fun _=>?_)|fail)
   exact zB hw
  ·rw [hC3] at cx
   cases hC4:(decide (0 < t.dims))
   ·skip
    cases hC5:(t.kind==8)
    ·skip
     have hw:(yF g m ⟨58,arg,t0⟩) l=.error 10:=by simp [yF,zu,zC,hS1,hC3,hC4,hC5,zJ,emptyS]
     repeat' (first|refine zl 2 12 rfl rfl rfl ?_|refine zA ([]) zh rfl rfl rfl tH (yc (by first|rfl|assumption|simp [hC3,hC4,hC5]) 10) ?_|(refine shC ?_;first|refine qC cx ?_|refine qC (zM 2) ?_)|(refine zn ?_;first|(refine zo 0 zh rfl rfl ((yh ⟨g,m,ar,⟨58,arg,t0⟩⟩ _ (by omega)).ok hS1) rfl rfl rfl rfl rfl ?_))|refine sK ?_|refine sC (fun _=>?_) (fun _=>?_)|fail)
     exact zB hw
    ·skip
     cases hS7:(yV m.max [kTy 2]) l1 with
     | error e =>
      have hw:(yF g m ⟨58,arg,t0⟩) l=.error e:=by simp [yF,zu,zC,hS1,hC3,hC4,hC5,zJ,emptyS,hS7]
      repeat' (first|refine zl 3 3 rfl rfl rfl ?_|refine zA ((yP u ⟨g,m,ar,⟨58,arg,t0⟩⟩ l1)) zh rfl rfl rfl tH ((zO ⟨g,m,ar,⟨58,arg,t0⟩⟩ [kTy 2] _ (by omega) (by simp)).bad hS7 u) ?_|(refine shC ?_;first|refine qC cx ?_|refine zx rfl (zI rfl rfl (zF (by first|rfl|assumption|simp [hC3,hC4,hC5]) 10)) rfl rfl ?_|refine AD.step _ _ _ _ _ rfl (zI rfl rfl (zF (by first|rfl|assumption|simp [hC3,hC4,hC5]) 10)) rfl rfl ?_|refine qC (zM 2) ?_)|(refine zn ?_;first|(refine zo 0 zh rfl rfl ((yh ⟨g,m,ar,⟨58,arg,t0⟩⟩ _ (by omega)).ok hS1) rfl rfl rfl rfl rfl ?_))|refine sK ?_|refine sC (fun _=>?_) (fun _=>?_)|fail)
      exact zB hw
     | ok p =>
      obtain ⟨⟨⟩,l7⟩:=p
      have hw:(yF g m ⟨58,arg,t0⟩) l=.ok ((),l7):=by simp [yF,zu,zC,hS1,hC3,hC4,hC5,zJ,emptyS,hS7]
      repeat' (first|(refine shC ?_;first|refine qC cx ?_|refine zx rfl (zI rfl rfl (zF (by first|rfl|assumption|simp [hC3,hC4,hC5]) 10)) rfl rfl ?_|refine AD.step _ _ _ _ _ rfl (zI rfl rfl (zF (by first|rfl|assumption|simp [hC3,hC4,hC5]) 10)) rfl rfl ?_|refine qC (zM 2) ?_)|(refine zn ?_;first|(refine zo 0 zh rfl rfl ((yh ⟨g,m,ar,⟨58,arg,t0⟩⟩ _ (by omega)).ok hS1) rfl rfl rfl rfl rfl ?_)|(refine zo 0 zh rfl rfl ((zO ⟨g,m,ar,⟨58,arg,t0⟩⟩ [kTy 2] _ (by omega) (by simp)).ok hS7) rfl rfl rfl rfl rfl ?_))|refine sK ?_|refine sC (fun _=>?_) (fun _=>?_)|fail)
      exact zU hw (yw (.inr rfl) tH)
   ·skip
    cases hS6:(yV m.max [kTy 2]) l1 with
    | error e =>
     have hw:(yF g m ⟨58,arg,t0⟩) l=.error e:=by simp [yF,zu,zC,hS1,hC3,hC4,zJ,emptyS,hS6]
     repeat' (first|refine zl 3 3 rfl rfl rfl ?_|refine zA ((yP u ⟨g,m,ar,⟨58,arg,t0⟩⟩ l1)) zh rfl rfl rfl tH ((zO ⟨g,m,ar,⟨58,arg,t0⟩⟩ [kTy 2] _ (by omega) (by simp)).bad hS6 u) ?_|(refine shC ?_;first|refine qC cx ?_|refine zx rfl (zI rfl rfl (zF (by first|rfl|assumption|simp [hC3,hC4]) 10)) rfl rfl ?_|refine AD.step _ _ _ _ _ rfl (zI rfl rfl (zF (by first|rfl|assumption|simp [hC3,hC4]) 10)) rfl rfl ?_|refine qC (zM 2) ?_)|(refine zn ?_;first|(refine zo 0 zh rfl rfl ((yh ⟨g,m,ar,⟨58,arg,t0⟩⟩ _ (by omega)).ok hS1) rfl rfl rfl rfl rfl ?_))|refine sK ?_|refine sC (fun _=>?_) (fun _=>?_)|fail)
     exact zB hw
    | ok p =>
     obtain ⟨⟨⟩,l6⟩:=p
     have hw:(yF g m ⟨58,arg,t0⟩) l=.ok ((),l6):=by simp [yF,zu,zC,hS1,hC3,hC4,zJ,emptyS,hS6]
     repeat' (first|(refine shC ?_;first|refine qC cx ?_|refine zx rfl (zI rfl rfl (zF (by first|rfl|assumption|simp [hC3,hC4]) 10)) rfl rfl ?_|refine AD.step _ _ _ _ _ rfl (zI rfl rfl (zF (by first|rfl|assumption|simp [hC3,hC4]) 10)) rfl rfl ?_|refine qC (zM 2) ?_)|(refine zn ?_;first|(refine zo 0 zh rfl rfl ((yh ⟨g,m,ar,⟨58,arg,t0⟩⟩ _ (by omega)).ok hS1) rfl rfl rfl rfl rfl ?_)|(refine zo 0 zh rfl rfl ((zO ⟨g,m,ar,⟨58,arg,t0⟩⟩ [kTy 2] _ (by omega) (by simp)).ok hS6) rfl rfl rfl rfl rfl ?_))|refine sK ?_|refine sC (fun _=>?_) (fun _=>?_)|fail)
     exact zU hw (yw (.inr rfl) tH)
theorem zo0 (g:Img) (hF:Fm g) (m:Me) (ar:List Ty) (arg:Int) (t0:Ty) (l:List Ty) (hl:l.length≤100) (h0:0≤t0.dims) (h1:t0.dims≤100):XC 158 [] (⟨g,m,ar,⟨59,arg,t0⟩⟩:RC) (yF g m ⟨59,arg,t0⟩) uV l:=by
 intro u;refine zH zf Tryz.func158 rfl (by kernel_rfl) Tryz.ntmps158 (by simp) _ rfl (fun gB hw1=>?_)
 cases hS1:(XG ⟨59,arg,t0⟩) l with
 | error e =>
  have hw:(yF g m ⟨59,arg,t0⟩) l=.error e:=by simp [yF,zu,zC,hS1]
  repeat' (first|refine zl 4 1 rfl rfl rfl ?_|refine zA ((yP u ⟨g,m,ar,⟨59,arg,t0⟩⟩ l)) zh rfl rfl rfl tH ((Zf ⟨g,m,ar,⟨59,arg,t0⟩⟩ _ h0 h1).bad hS1 u) ?_|refine zx rfl (zk (ps:=(yR t0)) zf rfl rfl rfl rfl rfl) rfl rfl ?_|refine AD.step _ _ _ _ _ rfl (zk (ps:=(yR t0)) zf rfl rfl rfl rfl rfl) rfl rfl ?_|(refine shC ?_;first|refine qC (zM 2) ?_)|refine sK ?_|refine sC (fun _=>?_) (fun _=>?_)|fail)
  exact zB hw
 | ok p =>
  obtain ⟨a,l1⟩:=p
  have hl1:l1.length≤100:=by have:=zaY hS1;omega
  cases hS2:(Zw g [a,kTy 2]) l1 with
  | error e =>
   have hw:(yF g m ⟨59,arg,t0⟩) l=.error e:=by simp [yF,zu,zC,hS1,hS2]
   repeat' (first|refine yU 5 4 rfl (by kernel_rfl) (by kernel_rfl) (by kernel_rfl) (by kernel_rfl) (by kernel_rfl) ?_|refine zA ((yP u ⟨g,m,ar,⟨59,arg,t0⟩⟩ l1)) zh rfl rfl rfl tH ((ZQ ⟨g,m,ar,⟨59,arg,t0⟩⟩ hF [a,kTy 2] _ (by omega)).bad hS2 u) ?_|refine zx rfl (zk (ps:=(yR t0)) zf rfl rfl rfl rfl rfl) rfl rfl ?_|refine AD.step _ _ _ _ _ rfl (zk (ps:=(yR t0)) zf rfl rfl rfl rfl rfl) rfl rfl ?_|(refine shC ?_;first|refine qC (zM 2) ?_)|(refine zn ?_;first|(refine zo 0 zh rfl rfl ((Zf ⟨g,m,ar,⟨59,arg,t0⟩⟩ _ h0 h1).ok hS1) rfl rfl rfl rfl rfl ?_))|refine sK ?_|refine sC (fun _=>?_) (fun _=>?_)|fail)
   exact zB hw
  | ok p =>
   obtain ⟨⟨⟩,l2⟩:=p
   have hl2:l2.length≤100:=by have:=XD hS2;omega
   cases hS3:(yV m.max [t0]) l2 with
   | error e =>
    have hw:(yF g m ⟨59,arg,t0⟩) l=.error e:=by simp [yF,zu,zC,hS1,hS2,hS3]
    repeat' (first|refine zl 8 7 rfl rfl rfl ?_|refine zA ((yP u ⟨g,m,ar,⟨59,arg,t0⟩⟩ l2)) zh rfl rfl rfl tH ((zO ⟨g,m,ar,⟨59,arg,t0⟩⟩ [t0] _ (by omega) (by simp)).bad hS3 u) ?_|refine zV 5 4 rfl (by kernel_rfl) (by kernel_rfl) (by kernel_rfl) (by kernel_rfl) (by kernel_rfl) ?_|refine zx rfl (zk (ps:=(yR t0)) zf rfl rfl rfl rfl rfl) rfl rfl ?_|refine AD.step _ _ _ _ _ rfl (zk (ps:=(yR t0)) zf rfl rfl rfl rfl rfl) rfl rfl ?_|(refine shC ?_;first|refine qC (zM 2) ?_)|(refine zn ?_;first|(refine zo 0 zh rfl rfl ((Zf ⟨g,m,ar,⟨59,arg,t0⟩⟩ _ h0 h1).ok hS1) rfl rfl rfl rfl rfl ?_)|(refine zo 0 zh rfl rfl ((ZQ ⟨g,m,ar,⟨59,arg,t0⟩⟩ hF [a,kTy 2] _ (by omega)).ok hS2) rfl rfl rfl rfl rfl ?_))|refine sK ?_|refine sC (fun _=>?_) (fun _=>?_)|fail)
    exact zB hw
   | ok p =>
    obtain ⟨⟨⟩,l3⟩:=p
    have hw:(yF g m ⟨59,arg,t0⟩) l=.ok ((),l3):=by simp [yF,zu,zC,hS1,hS2,hS3]
    repeat' (first|refine zV 5 4 rfl (by kernel_rfl) (by kernel_rfl) (by kernel_rfl) (by kernel_rfl) (by kernel_rfl) ?_|refine zx rfl (zk (ps:=(yR t0)) zf rfl rfl rfl rfl rfl) rfl rfl ?_|refine AD.step _ _ _ _ _ rfl (zk (ps:=(yR t0)) zf rfl rfl rfl rfl rfl) rfl rfl ?_|(refine shC ?_;first|refine qC (zM 2) ?_)|(refine zn ?_;first|(refine zo 0 zh rfl rfl ((Zf ⟨g,m,ar,⟨59,arg,t0⟩⟩ _ h0 h1).ok hS1) rfl rfl rfl rfl rfl ?_)|(refine zo 0 zh rfl rfl ((ZQ ⟨g,m,ar,⟨59,arg,t0⟩⟩ hF [a,kTy 2] _ (by omega)).ok hS2) rfl rfl rfl rfl rfl ?_)|(refine zo 0 zh rfl rfl ((zO ⟨g,m,ar,⟨59,arg,t0⟩⟩ [t0] _ (by omega) (by simp)).ok hS3) rfl rfl rfl rfl rfl ?_))|refine sK ?_|refine sC (fun _=>?_) (fun _=>?_)|fail)
    exact zU hw (yw (.inl rfl) tH)
theorem zot (g:Img) (hF:Fm g) (m:Me) (ar:List Ty) (arg:Int) (t0:Ty) (l:List Ty) (hl:l.length≤100) (h0:0≤t0.dims) (h1:t0.dims≤100):XC 158 [] (⟨g,m,ar,⟨60,arg,t0⟩⟩:RC) (yF g m ⟨60,arg,t0⟩) uV l:=by
 intro u;refine zH zf Tryz.func158 rfl (by kernel_rfl) Tryz.ntmps158 (by simp) _ rfl (fun gB hw1=>?_)
 cases hS1:(XG ⟨60,arg,t0⟩) l with
 | error e =>
  have hw:(yF g m ⟨60,arg,t0⟩) l=.error e:=by simp [yF,zu,zC,hS1]
  repeat' (first|refine zl 4 1 rfl rfl rfl ?_|refine zA ((yP u ⟨g,m,ar,⟨60,arg,t0⟩⟩ l)) zh rfl rfl rfl tH ((Zf ⟨g,m,ar,⟨60,arg,t0⟩⟩ _ h0 h1).bad hS1 u) ?_|refine zx rfl (zk (ps:=(yR t0)) zf rfl rfl rfl rfl rfl) rfl rfl ?_|refine AD.step _ _ _ _ _ rfl (zk (ps:=(yR t0)) zf rfl rfl rfl rfl rfl) rfl rfl ?_|(refine shC ?_;first|refine qC (zM 2) ?_)|refine sK ?_|refine sC (fun _=>?_) (fun _=>?_)|fail)
  exact zB hw
 | ok p =>
  obtain ⟨a,l1⟩:=p
  have hl1:l1.length≤100:=by have:=zaY hS1;omega
  cases hS2:(Zw g [a,kTy 2,t0]) l1 with
  | error e =>
   have hw:(yF g m ⟨60,arg,t0⟩) l=.error e:=by simp [yF,zu,zC,hS1,hS2]
   repeat' (first|refine yU 10 9 rfl (by kernel_rfl) (by kernel_rfl) (by kernel_rfl) (by kernel_rfl) (by kernel_rfl) ?_|refine zA ((yP u ⟨g,m,ar,⟨60,arg,t0⟩⟩ l1)) zh rfl rfl rfl tH ((ZQ ⟨g,m,ar,⟨60,arg,t0⟩⟩ hF [a,kTy 2,t0] _ (by omega)).bad hS2 u) ?_|refine zx rfl (zk (ps:=(yR t0)) zf rfl rfl rfl rfl rfl) rfl rfl ?_|refine AD.step _ _ _ _ _ rfl (zk (ps:=(yR t0)) zf rfl rfl rfl rfl rfl) rfl rfl ?_|(refine shC ?_;first|refine qC (zM 2) ?_)|(refine zn ?_;first|(refine zo 0 zh rfl rfl ((Zf ⟨g,m,ar,⟨60,arg,t0⟩⟩ _ h0 h1).ok hS1) rfl rfl rfl rfl rfl ?_))|refine sK ?_|refine sC (fun _=>?_) (fun _=>?_)|fail)
   exact zB hw
  | ok p =>
   obtain ⟨⟨⟩,l2⟩:=p
   have hl2:l2.length≤100:=by have:=XD hS2;omega
   have hw:(yF g m ⟨60,arg,t0⟩) l=.ok ((),l2):=by simp [yF,zu,zC,hS1,hS2]
   repeat' (first|refine zV 10 9 rfl (by kernel_rfl) (by kernel_rfl) (by kernel_rfl) (by kernel_rfl) (by kernel_rfl) ?_|refine zx rfl (zk (ps:=(yR t0)) zf rfl rfl rfl rfl rfl) rfl rfl ?_|refine AD.step _ _ _ _ _ rfl (zk (ps:=(yR t0)) zf rfl rfl rfl rfl rfl) rfl rfl ?_|(refine shC ?_;first|refine qC (zM 2) ?_)|(refine zn ?_;first|(refine zo 0 zh rfl rfl ((Zf ⟨g,m,ar,⟨60,arg,t0⟩⟩ _ h0 h1).ok hS1) rfl rfl rfl rfl rfl ?_)|(refine zo 0 zh rfl rfl ((ZQ ⟨g,m,ar,⟨60,arg,t0⟩⟩ hF [a,kTy 2,t0] _ (by omega)).ok hS2) rfl rfl rfl rfl rfl ?_))|refine sK ?_|refine sC (fun _=>?_) (fun _=>?_)|fail)
   exact zU hw (yw (.inl rfl) tH)
theorem zol (g:Img) (hF:Fm g) (m:Me) (ar:List Ty) (arg:Int) (t0:Ty) (l:List Ty) (hl:l.length≤100) (h0:0≤t0.dims) (h1:t0.dims≤100):XC 158 [] (⟨g,m,ar,⟨61,arg,t0⟩⟩:RC) (yF g m ⟨61,arg,t0⟩) uV l:=by
 intro u;refine zH zf Tryz.func158 rfl (by kernel_rfl) Tryz.ntmps158 (by simp) _ rfl (fun gB hw1=>?_)
 have cr:=ZF t0
 cases hS1:(XG ⟨61,arg,t0⟩) l with
 | error e =>
  have hw:(yF g m ⟨61,arg,t0⟩) l=.error e:=by simp [yF,zu,zC,hS1]
  repeat' (first|refine zl 4 1 rfl rfl rfl ?_|refine zA ((yP u ⟨g,m,ar,⟨61,arg,t0⟩⟩ l)) zh rfl rfl rfl tH ((Zf ⟨g,m,ar,⟨61,arg,t0⟩⟩ _ h0 h1).bad hS1 u) ?_|refine zx rfl (zk (ps:=(yR t0)) zf rfl rfl rfl rfl rfl) rfl rfl ?_|refine AD.step _ _ _ _ _ rfl (zk (ps:=(yR t0)) zf rfl rfl rfl rfl rfl) rfl rfl ?_|(refine shC ?_;first|refine qC (zM 2) ?_|refine qC cr ?_)|refine sK ?_|refine sC (fun _=>?_) (fun _=>?_)|fail)
  exact zB hw
 | ok p =>
  obtain ⟨a,l1⟩:=p
  have hl1:l1.length≤100:=by have:=zaY hS1;omega
  cases hS2:(Zw g [a,kTy 2]) l1 with
  | error e =>
   have hw:(yF g m ⟨61,arg,t0⟩) l=.error e:=by simp [yF,zu,zC,hS1,hS2]
   repeat' (first|refine yU 5 4 rfl (by kernel_rfl) (by kernel_rfl) (by kernel_rfl) (by kernel_rfl) (by kernel_rfl) ?_|refine zA ((yP u ⟨g,m,ar,⟨61,arg,t0⟩⟩ l1)) zh rfl rfl rfl tH ((ZQ ⟨g,m,ar,⟨61,arg,t0⟩⟩ hF [a,kTy 2] _ (by omega)).bad hS2 u) ?_|refine zx rfl (zk (ps:=(yR t0)) zf rfl rfl rfl rfl rfl) rfl rfl ?_|refine AD.step _ _ _ _ _ rfl (zk (ps:=(yR t0)) zf rfl rfl rfl rfl rfl) rfl rfl ?_|(refine shC ?_;first|refine qC (zM 2) ?_|refine qC cr ?_)|(refine zn ?_;first|(refine zo 0 zh rfl rfl ((Zf ⟨g,m,ar,⟨61,arg,t0⟩⟩ _ h0 h1).ok hS1) rfl rfl rfl rfl rfl ?_))|refine sK ?_|refine sC (fun _=>?_) (fun _=>?_)|fail)
   exact zB hw
  | ok p =>
   obtain ⟨⟨⟩,l2⟩:=p
   have hl2:l2.length≤100:=by have:=XD hS2;omega
   cases hS3:(yV m.max [rfT t0]) l2 with
   | error e =>
    have hw:(yF g m ⟨61,arg,t0⟩) l=.error e:=by simp [yF,zu,zC,hS1,hS2,hS3]
    repeat' (first|refine zl 9 8 rfl rfl rfl ?_|refine zA ((yP u ⟨g,m,ar,⟨61,arg,t0⟩⟩ l2)) zh rfl rfl rfl tH ((zO ⟨g,m,ar,⟨61,arg,t0⟩⟩ [rfT t0] _ (by omega) (by simp)).bad hS3 u) ?_|refine zV 5 4 rfl (by kernel_rfl) (by kernel_rfl) (by kernel_rfl) (by kernel_rfl) (by kernel_rfl) ?_|refine zx rfl (zk (ps:=(yR t0)) zf rfl rfl rfl rfl rfl) rfl rfl ?_|refine AD.step _ _ _ _ _ rfl (zk (ps:=(yR t0)) zf rfl rfl rfl rfl rfl) rfl rfl ?_|(refine shC ?_;first|refine qC (zM 2) ?_|refine qC cr ?_)|(refine zn ?_;first|(refine zo 0 zh rfl rfl ((Zf ⟨g,m,ar,⟨61,arg,t0⟩⟩ _ h0 h1).ok hS1) rfl rfl rfl rfl rfl ?_)|(refine zo 0 zh rfl rfl ((ZQ ⟨g,m,ar,⟨61,arg,t0⟩⟩ hF [a,kTy 2] _ (by omega)).ok hS2) rfl rfl rfl rfl rfl ?_))|refine sK ?_|refine sC (fun _=>?_) (fun _=>?_)|fail)
    exact zB hw
   | ok p =>
    obtain ⟨⟨⟩,l3⟩:=p
    have hw:(yF g m ⟨61,arg,t0⟩) l=.ok ((),l3):=by simp [yF,zu,zC,hS1,hS2,hS3]
    repeat' (first|refine zV 5 4 rfl (by kernel_rfl) (by kernel_rfl) (by kernel_rfl) (by kernel_rfl) (by kernel_rfl) ?_|refine zx rfl (zk (ps:=(yR t0)) zf rfl rfl rfl rfl rfl) rfl rfl ?_|refine AD.step _ _ _ _ _ rfl (zk (ps:=(yR t0)) zf rfl rfl rfl rfl rfl) rfl rfl ?_|(refine shC ?_;first|refine qC (zM 2) ?_|refine qC cr ?_)|(refine zn ?_;first|(refine zo 0 zh rfl rfl ((Zf ⟨g,m,ar,⟨61,arg,t0⟩⟩ _ h0 h1).ok hS1) rfl rfl rfl rfl rfl ?_)|(refine zo 0 zh rfl rfl ((ZQ ⟨g,m,ar,⟨61,arg,t0⟩⟩ hF [a,kTy 2] _ (by omega)).ok hS2) rfl rfl rfl rfl rfl ?_)|(refine zo 0 zh rfl rfl ((zO ⟨g,m,ar,⟨61,arg,t0⟩⟩ [rfT t0] _ (by omega) (by simp)).ok hS3) rfl rfl rfl rfl rfl ?_))|refine sK ?_|refine sC (fun _=>?_) (fun _=>?_)|fail)
    exact zU hw (yw (.inl rfl) tH)
set_option maxHeartbeats 20000000
theorem zsR (g:Img) (hF:Fm g) (m:Me) (ar:List Ty) (arg:Int) (t0:Ty) (l:List Ty) (hl:l.length≤100) (h0:0≤arg):XC 152 [] (⟨g,m,ar,⟨2,arg,t0⟩⟩:RC) (qP g ar m ⟨2,arg,t0⟩) uV l:=by
 intro u;refine zH zf Tryz.func152 rfl (by kernel_rfl) Tryz.ntmps152 (by simp) _ rfl (fun gB hw1=>?_)
 cases hS1:(VE ⟨2,arg,t0⟩ ar) l with
 | error e =>
  have hw:(qP g ar m ⟨2,arg,t0⟩) l=.error e:=by simp [qP,zu,zC,hS1]
  repeat' (first|refine zl 6 2 rfl rfl rfl ?_|refine zA ((yP u ⟨g,m,ar,⟨2,arg,t0⟩⟩ l)) zh rfl rfl rfl tH ((Zc ⟨g,m,ar,⟨2,arg,t0⟩⟩ ar _ h0).bad hS1 u) ?_|refine sK ?_|refine sC (fun _=>?_) (fun _=>?_)|fail)
  exact zB hw
 | ok p =>
  obtain ⟨t,l1⟩:=p
  have hl1:l1.length≤100:=by have:=Vy hS1;omega
  cases hS2:(yV m.max [t]) l1 with
  | error e =>
   have hw:(qP g ar m ⟨2,arg,t0⟩) l=.error e:=by simp [qP,zu,zC,hS1,hS2]
   repeat' (first|refine zl 11 3 rfl rfl rfl ?_|refine zA ((yP u ⟨g,m,ar,⟨2,arg,t0⟩⟩ l1)) zh rfl rfl rfl tH ((zO ⟨g,m,ar,⟨2,arg,t0⟩⟩ [t] _ (by omega) (by simp)).bad hS2 u) ?_|(refine zn ?_;first|(refine zo 0 zh rfl rfl ((Zc ⟨g,m,ar,⟨2,arg,t0⟩⟩ ar _ h0).ok hS1) rfl rfl rfl rfl rfl ?_))|refine sK ?_|refine sC (fun _=>?_) (fun _=>?_)|fail)
   exact zB hw
  | ok p =>
   obtain ⟨⟨⟩,l2⟩:=p
   have hw:(qP g ar m ⟨2,arg,t0⟩) l=.ok ((),l2):=by simp [qP,zu,zC,hS1,hS2]
   repeat' (first|(refine zn ?_;first|(refine zo 0 zh rfl rfl ((Zc ⟨g,m,ar,⟨2,arg,t0⟩⟩ ar _ h0).ok hS1) rfl rfl rfl rfl rfl ?_)|(refine zo 0 zh rfl rfl ((zO ⟨g,m,ar,⟨2,arg,t0⟩⟩ [t] _ (by omega) (by simp)).ok hS2) rfl rfl rfl rfl rfl ?_))|refine sK ?_|refine sC (fun _=>?_) (fun _=>?_)|fail)
   exact zU hw (yw (.inl rfl) tH)
theorem ztf (g:Img) (hF:Fm g) (m:Me) (ar:List Ty) (arg:Int) (t0:Ty) (l:List Ty) (hl:l.length≤100) (h0:0≤arg):XC 152 [] (⟨g,m,ar,⟨3,arg,t0⟩⟩:RC) (qP g ar m ⟨3,arg,t0⟩) uV l:=by
 intro u;refine zH zf Tryz.func152 rfl (by kernel_rfl) Tryz.ntmps152 (by simp) _ rfl (fun gB hw1=>?_)
 cases hS1:(VE ⟨3,arg,t0⟩ ar) l with
 | error e =>
  have hw:(qP g ar m ⟨3,arg,t0⟩) l=.error e:=by simp [qP,zu,zC,hS1]
  repeat' (first|refine zl 6 2 rfl rfl rfl ?_|refine zA ((yP u ⟨g,m,ar,⟨3,arg,t0⟩⟩ l)) zh rfl rfl rfl tH ((Zc ⟨g,m,ar,⟨3,arg,t0⟩⟩ ar _ h0).bad hS1 u) ?_|refine sK ?_|refine sC (fun _=>?_) (fun _=>?_)|fail)
  exact zB hw
 | ok p =>
  obtain ⟨t,l1⟩:=p
  have hl1:l1.length≤100:=by have:=Vy hS1;omega
  cases hS2:(Yy g t) l1 with
  | error e =>
   have hw:(qP g ar m ⟨3,arg,t0⟩) l=.error e:=by simp [qP,zu,zC,hS1,hS2]
   repeat' (first|refine zl 14 2 rfl rfl rfl ?_|refine zA ((yP u ⟨g,m,ar,⟨3,arg,t0⟩⟩ l1)) zh rfl rfl rfl tH ((qg ⟨g,m,ar,⟨3,arg,t0⟩⟩ hF t _ (by omega)).bad hS2 u) ?_|(refine zn ?_;first|(refine zo 0 zh rfl rfl ((Zc ⟨g,m,ar,⟨3,arg,t0⟩⟩ ar _ h0).ok hS1) rfl rfl rfl rfl rfl ?_))|refine sK ?_|refine sC (fun _=>?_) (fun _=>?_)|fail)
   exact zB hw
  | ok p =>
   obtain ⟨⟨⟩,l2⟩:=p
   have hw:(qP g ar m ⟨3,arg,t0⟩) l=.ok ((),l2):=by simp [qP,zu,zC,hS1,hS2]
   repeat' (first|(refine zn ?_;first|(refine zo 0 zh rfl rfl ((Zc ⟨g,m,ar,⟨3,arg,t0⟩⟩ ar _ h0).ok hS1) rfl rfl rfl rfl rfl ?_)|(refine zo 0 zh rfl rfl ((qg ⟨g,m,ar,⟨3,arg,t0⟩⟩ hF t _ (by omega)).ok hS2) rfl rfl rfl rfl rfl ?_))|refine sK ?_|refine sC (fun _=>?_) (fun _=>?_)|fail)
   exact zU hw (yw (.inl rfl) tH)
theorem ztm (g:Img) (hF:Fm g) (m:Me) (ar:List Ty) (arg:Int) (t0:Ty) (l:List Ty) (hl:l.length≤100) (h0:0≤arg):XC 152 [] (⟨g,m,ar,⟨4,arg,t0⟩⟩:RC) (qP g ar m ⟨4,arg,t0⟩) uV l:=by
 intro u;refine zH zf Tryz.func152 rfl (by kernel_rfl) Tryz.ntmps152 (by simp) _ rfl (fun gB hw1=>?_)
 cases hS1:(VE ⟨4,arg,t0⟩ ar) l with
 | error e =>
  have hw:(qP g ar m ⟨4,arg,t0⟩) l=.error e:=by simp [qP,zu,zC,hS1]
  repeat' (first|refine zl 6 2 rfl rfl rfl ?_|refine zA ((yP u ⟨g,m,ar,⟨4,arg,t0⟩⟩ l)) zh rfl rfl rfl tH ((Zc ⟨g,m,ar,⟨4,arg,t0⟩⟩ ar _ h0).bad hS1 u) ?_|refine sK ?_|refine sC (fun _=>?_) (fun _=>?_)|fail)
  exact zB hw
 | ok p =>
  obtain ⟨t,l1⟩:=p
  have hl1:l1.length≤100:=by have:=Vy hS1;omega
  cases hS2:(YX m.max t) l1 with
  | error e =>
   have hw:(qP g ar m ⟨4,arg,t0⟩) l=.error e:=by simp [qP,zu,zC,hS1,hS2]
   repeat' (first|refine zl 8 2 rfl rfl rfl ?_|refine zA ((yP u ⟨g,m,ar,⟨4,arg,t0⟩⟩ l1)) zh rfl rfl rfl tH ((Vl ⟨g,m,ar,⟨4,arg,t0⟩⟩ t _ (by omega)).bad hS2 u) ?_|(refine zn ?_;first|(refine zo 0 zh rfl rfl ((Zc ⟨g,m,ar,⟨4,arg,t0⟩⟩ ar _ h0).ok hS1) rfl rfl rfl rfl rfl ?_))|refine sK ?_|refine sC (fun _=>?_) (fun _=>?_)|fail)
   exact zB hw
  | ok p =>
   obtain ⟨⟨⟩,l2⟩:=p
   have hw:(qP g ar m ⟨4,arg,t0⟩) l=.ok ((),l2):=by simp [qP,zu,zC,hS1,hS2]
   repeat' (first|(refine zn ?_;first|(refine zo 0 zh rfl rfl ((Zc ⟨g,m,ar,⟨4,arg,t0⟩⟩ ar _ h0).ok hS1) rfl rfl rfl rfl rfl ?_)|(refine zo 0 zh rfl rfl ((Vl ⟨g,m,ar,⟨4,arg,t0⟩⟩ t _ (by omega)).ok hS2) rfl rfl rfl rfl rfl ?_))|refine sK ?_|refine sC (fun _=>?_) (fun _=>?_)|fail)
   exact zU hw (yw (.inl rfl) tH)
theorem zsY (g:Img) (hF:Fm g) (m:Me) (ar:List Ty) (arg:Int) (t0:Ty) (l:List Ty) (hl:l.length≤100) (h0:0≤arg):XC 152 [] (⟨g,m,ar,⟨5,arg,t0⟩⟩:RC) (qP g ar m ⟨5,arg,t0⟩) uV l:=by
 intro u;refine zH zf Tryz.func152 rfl (by kernel_rfl) Tryz.ntmps152 (by simp) _ rfl (fun gB hw1=>?_)
 cases hS1:(VE ⟨5,arg,t0⟩ m.locals) l with
 | error e =>
  have hw:(qP g ar m ⟨5,arg,t0⟩) l=.error e:=by simp [qP,zu,zC,hS1]
  repeat' (first|refine zl 6 2 rfl rfl rfl ?_|refine zA ((yP u ⟨g,m,ar,⟨5,arg,t0⟩⟩ l)) zh rfl rfl rfl tH ((Zc ⟨g,m,ar,⟨5,arg,t0⟩⟩ m.locals _ h0).bad hS1 u) ?_|refine sK ?_|refine sC (fun _=>?_) (fun _=>?_)|fail)
  exact zB hw
 | ok p =>
  obtain ⟨t,l1⟩:=p
  have hl1:l1.length≤100:=by have:=Vy hS1;omega
  cases hS2:(yV m.max [t]) l1 with
  | error e =>
   have hw:(qP g ar m ⟨5,arg,t0⟩) l=.error e:=by simp [qP,zu,zC,hS1,hS2]
   repeat' (first|refine zl 11 3 rfl rfl rfl ?_|refine zA ((yP u ⟨g,m,ar,⟨5,arg,t0⟩⟩ l1)) zh rfl rfl rfl tH ((zO ⟨g,m,ar,⟨5,arg,t0⟩⟩ [t] _ (by omega) (by simp)).bad hS2 u) ?_|(refine zn ?_;first|(refine zo 0 zh rfl rfl ((Zc ⟨g,m,ar,⟨5,arg,t0⟩⟩ m.locals _ h0).ok hS1) rfl rfl rfl rfl rfl ?_))|refine sK ?_|refine sC (fun _=>?_) (fun _=>?_)|fail)
   exact zB hw
  | ok p =>
   obtain ⟨⟨⟩,l2⟩:=p
   have hw:(qP g ar m ⟨5,arg,t0⟩) l=.ok ((),l2):=by simp [qP,zu,zC,hS1,hS2]
   repeat' (first|(refine zn ?_;first|(refine zo 0 zh rfl rfl ((Zc ⟨g,m,ar,⟨5,arg,t0⟩⟩ m.locals _ h0).ok hS1) rfl rfl rfl rfl rfl ?_)|(refine zo 0 zh rfl rfl ((zO ⟨g,m,ar,⟨5,arg,t0⟩⟩ [t] _ (by omega) (by simp)).ok hS2) rfl rfl rfl rfl rfl ?_))|refine sK ?_|refine sC (fun _=>?_) (fun _=>?_)|fail)
   exact zU hw (yw (.inl rfl) tH)
theorem zs6 (g:Img) (hF:Fm g) (m:Me) (ar:List Ty) (arg:Int) (t0:Ty) (l:List Ty) (hl:l.length≤100) (h0:0≤arg):XC 152 [] (⟨g,m,ar,⟨6,arg,t0⟩⟩:RC) (qP g ar m ⟨6,arg,t0⟩) uV l:=by
 intro u;refine zH zf Tryz.func152 rfl (by kernel_rfl) Tryz.ntmps152 (by simp) _ rfl (fun gB hw1=>?_)
 cases hS1:(VE ⟨6,arg,t0⟩ m.locals) l with
 | error e =>
  have hw:(qP g ar m ⟨6,arg,t0⟩) l=.error e:=by simp [qP,zu,zC,hS1]
  repeat' (first|refine zl 6 2 rfl rfl rfl ?_|refine zA ((yP u ⟨g,m,ar,⟨6,arg,t0⟩⟩ l)) zh rfl rfl rfl tH ((Zc ⟨g,m,ar,⟨6,arg,t0⟩⟩ m.locals _ h0).bad hS1 u) ?_|refine sK ?_|refine sC (fun _=>?_) (fun _=>?_)|fail)
  exact zB hw
 | ok p =>
  obtain ⟨t,l1⟩:=p
  have hl1:l1.length≤100:=by have:=Vy hS1;omega
  cases hS2:(Yy g t) l1 with
  | error e =>
   have hw:(qP g ar m ⟨6,arg,t0⟩) l=.error e:=by simp [qP,zu,zC,hS1,hS2]
   repeat' (first|refine zl 14 2 rfl rfl rfl ?_|refine zA ((yP u ⟨g,m,ar,⟨6,arg,t0⟩⟩ l1)) zh rfl rfl rfl tH ((qg ⟨g,m,ar,⟨6,arg,t0⟩⟩ hF t _ (by omega)).bad hS2 u) ?_|(refine zn ?_;first|(refine zo 0 zh rfl rfl ((Zc ⟨g,m,ar,⟨6,arg,t0⟩⟩ m.locals _ h0).ok hS1) rfl rfl rfl rfl rfl ?_))|refine sK ?_|refine sC (fun _=>?_) (fun _=>?_)|fail)
   exact zB hw
  | ok p =>
   obtain ⟨⟨⟩,l2⟩:=p
   have hw:(qP g ar m ⟨6,arg,t0⟩) l=.ok ((),l2):=by simp [qP,zu,zC,hS1,hS2]
   repeat' (first|(refine zn ?_;first|(refine zo 0 zh rfl rfl ((Zc ⟨g,m,ar,⟨6,arg,t0⟩⟩ m.locals _ h0).ok hS1) rfl rfl rfl rfl rfl ?_)|(refine zo 0 zh rfl rfl ((qg ⟨g,m,ar,⟨6,arg,t0⟩⟩ hF t _ (by omega)).ok hS2) rfl rfl rfl rfl rfl ?_))|refine sK ?_|refine sC (fun _=>?_) (fun _=>?_)|fail)
   exact zU hw (yw (.inl rfl) tH)
theorem ztc (g:Img) (hF:Fm g) (m:Me) (ar:List Ty) (arg:Int) (t0:Ty) (l:List Ty) (hl:l.length≤100) (h0:0≤arg):XC 152 [] (⟨g,m,ar,⟨7,arg,t0⟩⟩:RC) (qP g ar m ⟨7,arg,t0⟩) uV l:=by
 intro u;refine zH zf Tryz.func152 rfl (by kernel_rfl) Tryz.ntmps152 (by simp) _ rfl (fun gB hw1=>?_)
 cases hS1:(VE ⟨7,arg,t0⟩ m.locals) l with
 | error e =>
  have hw:(qP g ar m ⟨7,arg,t0⟩) l=.error e:=by simp [qP,zu,zC,hS1]
  repeat' (first|refine zl 6 2 rfl rfl rfl ?_|refine zA ((yP u ⟨g,m,ar,⟨7,arg,t0⟩⟩ l)) zh rfl rfl rfl tH ((Zc ⟨g,m,ar,⟨7,arg,t0⟩⟩ m.locals _ h0).bad hS1 u) ?_|refine sK ?_|refine sC (fun _=>?_) (fun _=>?_)|fail)
  exact zB hw
 | ok p =>
  obtain ⟨t,l1⟩:=p
  have hl1:l1.length≤100:=by have:=Vy hS1;omega
  cases hS2:(YX m.max t) l1 with
  | error e =>
   have hw:(qP g ar m ⟨7,arg,t0⟩) l=.error e:=by simp [qP,zu,zC,hS1,hS2]
   repeat' (first|refine zl 8 2 rfl rfl rfl ?_|refine zA ((yP u ⟨g,m,ar,⟨7,arg,t0⟩⟩ l1)) zh rfl rfl rfl tH ((Vl ⟨g,m,ar,⟨7,arg,t0⟩⟩ t _ (by omega)).bad hS2 u) ?_|(refine zn ?_;first|(refine zo 0 zh rfl rfl ((Zc ⟨g,m,ar,⟨7,arg,t0⟩⟩ m.locals _ h0).ok hS1) rfl rfl rfl rfl rfl ?_))|refine sK ?_|refine sC (fun _=>?_) (fun _=>?_)|fail)
   exact zB hw
  | ok p =>
   obtain ⟨⟨⟩,l2⟩:=p
   have hw:(qP g ar m ⟨7,arg,t0⟩) l=.ok ((),l2):=by simp [qP,zu,zC,hS1,hS2]
   repeat' (first|(refine zn ?_;first|(refine zo 0 zh rfl rfl ((Zc ⟨g,m,ar,⟨7,arg,t0⟩⟩ m.locals _ h0).ok hS1) rfl rfl rfl rfl rfl ?_)|(refine zo 0 zh rfl rfl ((Vl ⟨g,m,ar,⟨7,arg,t0⟩⟩ t _ (by omega)).ok hS2) rfl rfl rfl rfl rfl ?_))|refine sK ?_|refine sC (fun _=>?_) (fun _=>?_)|fail)
   exact zU hw (yw (.inl rfl) tH)
end Go.Cg
