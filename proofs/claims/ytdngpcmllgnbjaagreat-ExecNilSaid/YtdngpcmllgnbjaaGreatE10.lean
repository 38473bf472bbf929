/- A part of the walks by abstract values: no statement of its own. -/
import Derived.Test.YtdngpcmllgnbjaaGreatE3
import Derived.Test.YtdngpcmllgnbjaaGreatE6
import Derived.RangeFuncFrom
import Derived.RangeFuncLeaves
import Derived.RangeFuncWrites
import Derived.Test.YtdngpcmllgnbjaaGreatE7
import Derived.RangeFuncNested
set_option linter.unusedVariables false
set_option linter.unusedSimpArgs false
namespace Go.Cg
open Go.RowKit
section
variable {P:Program} {n:Nat} {g:Base} {H:HEnv} {env:Env} {c:Code} {QQ:QC} {K:KK} {w:World} {ρ:Nat→Value}
def aggOf:AV→Option (List AV)
 | .agg cs=>some cs
 | .pv (.agg ps)=>some (ps.map .pv)
 | _=>none
theorem ARel.aggOf {v:AV} {cs:List AV} {u:Value} (h:ARel K w ρ H v u) (hc:Cg.aggOf v=some cs):ARel K w ρ H (.agg cs) u:=by
 cases h with
 | pv p v hp =>
  cases hp <;> simp [Cg.aggOf] at hc
  rename_i ps vs h1 h2 h3
  subst hc
  refine .agg _ vs (by simpa using h1) h2 fun k c v hc hv=>?_
  simp only [List.getElem?_map,Option.map_eq_some_iff] at hc
  obtain ⟨p,hp,rfl⟩:=hc
  exact .pv _ _ (h3 k p v hp hv)
 | agg ds vs h1 h2 h3=>simp only [Cg.aggOf,Option.some.injEq] at hc;subst hc;exact .agg _ vs h1 h2 h3
 | _=>simp [Cg.aggOf] at hc
theorem Zz (b i k:Nat) (e:TypeId) (sz:Nat) {v:AV} {cs:List AV} (hsz:0 < sz) (hb:H.get b=some (.cell v)) (hv:aggOf v=some cs) (hk:cs[k]?=some (.pv (.base (.slice none 0 0)))) (hi:H.get i=none)
  (h:AW P n g c env ((b,.cell (.agg (cs.set k (.own i))))::(i,.row e sz [])::H) QQ):AW P n g c env H QQ:=by
 refine ⟨fun a w hinv=>h.go a w ?_⟩
 obtain ⟨h1,h2,K,ρ,hf,he⟩:=hinv
 have hev:Evo K K w w:=.refl hf.lt
 have hne:b≠i:=by rintro rfl;simp [hi] at hb
 have hf2:FS g K (fun j=>if j=i then .slice none 0 0 else ρ j) ((i,.row e sz [])::H) w:=hf.fresh hev hi ⟨[],World.ownsRow_nil w _ e sz,hsz,fun i e h=>by simp at h,by simp [Value.ownBlock]⟩ (by simp [zA])
 have hkk:∀ j,(HEnv.get ((i,HE.row e sz [])::H) j).isSome=true→(HEnv.get ((b,.cell (.agg (cs.set k (.own i))))::(i,HE.row e sz [])::H) j).isSome=true∧(fun j=>if j=i then Value.slice none 0 0 else ρ j) j=(fun j=>if j=i then Value.slice none 0 0 else ρ j) j:=by
  intro j hj
  refine ⟨?_,rfl⟩
  simp only [HEnv.get_nil,HEnv.get_cons] at hj ⊢
  split
  ·rfl
  ·exact hj
 have hlat:=hev.later hf.lt
 refine ⟨h1,h2,K,fun j=>if j=i then .slice none 0 0 else ρ j,⟨hf2.below,hf2.old,hf2.new,hf2.lt,hf2.others,hf2.pt,hf2.away.set (e0:=.cell v) (by rw [HEnv.get_cons,if_neg (Ne.symm hne)];exact hb) rfl,?_,?_⟩,(he.keeps hlat (qj hi _ _)).keeps hlat hkk⟩
 ·intro j hh hj
  simp only [HEnv.get_nil,HEnv.get_cons] at hj
  split at hj
  ·rename_i e';subst e'
   simp only [Option.some.injEq] at hj;subst hj
   have hb2:=(hf2.heap.ok b (.cell v) (by rw [HEnv.get_cons,if_neg (Ne.symm hne)];exact hb)).keeps hev hf.lt hkk
   obtain ⟨b',t',arr,u,hr,hB,hheap,hu,harr,hn⟩:=hb2
   refine ⟨b',t',arr,u,hr,hB,hheap,?_,harr,hn⟩
   have hu':=hu.aggOf hv
   cases hu' with
   | agg _ vs a1 a2 a3 =>
    refine .agg _ vs (by simpa using a1) a2 fun m c x hc hx=>?_
    rw [List.getElem?_set] at hc
    split at hc
    ·rename_i e1;subst e1
     split at hc
     ·simp only [Option.some.injEq] at hc;subst hc
      have:=a3 k _ x hk hx
      cases this with
      | pv _ _ hp =>
       cases hp
       have:=ARel.own (K:=K) (w:=w) (ρ:=fun j=>if j=i then .slice none 0 0 else ρ j) (H:=(b,.cell (.agg (cs.set k (.own i))))::(i,HE.row e sz [])::H) i (by simp [HEnv.get_nil,HEnv.get_cons,hne])
       simpa using this
     ·cases hc
    ·exact a3 m c x hc hx
  ·exact (hf2.heap.ok j hh (by simpa only [HEnv.get_nil,HEnv.get_cons] using hj)).keeps hev hf.lt hkk
 ·intro j k' hh hh' bb hjk hj hk' hlj hlk hbj hbk
  have e1:∀ (j:Nat) (hh:HE),HEnv.get ((b,.cell (.agg (cs.set k (.own i))))::(i,HE.row e sz [])::H) j=some hh→hh.live=true→∃ h0,HEnv.get ((i,HE.row e sz [])::H) j=some h0∧h0.live=true:=by
   intro j hh hj hl
   rw [HEnv.get_cons] at hj
   split at hj
   ·rename_i e';subst e'
    refine ⟨.cell v,?_,rfl⟩
    simp only [HEnv.get_nil,HEnv.get_cons];rw [if_neg (Ne.symm hne)];exact hb
   ·exact ⟨hh,hj,hl⟩
  obtain ⟨a1,a2,a3⟩:=e1 j hh hj hlj
  obtain ⟨b1,b2,b3⟩:=e1 k' hh' hk' hlk
  exact hf2.heap.apart j k' a1 b1 bb hjk a2 b2 a3 b3 hbj hbk
end
def Yn:HEnv→Bool
 | []=>true
 | (_,.obj _)::_=>false
 | _::e=>Yn e
theorem ze6:∀ {e:HEnv},Yn e=true→∀ i h,e.get i=some h→∀ X,h≠.obj X
 | [],_,i,h,hg,_=>by simp [HEnv.get_nil] at hg
 | (j,x)::e,hn,i,h,hg,X=>by
  have hn':Yn e=true∧∀ X,x≠.obj X:=by
   cases x <;> simp_all [Yn]
  rw [HEnv.get_cons] at hg
  split at hg
  ·simp only [Option.some.injEq] at hg;subst hg;exact hn'.2 X
  ·exact ze6 hn'.1 i h hg X
section
variable {P:Program} {tb:Tab} {n:Nat} {g:Base} {K:KK} {w w':World} {ρ:Nat→Value} {H H':HEnv} {env:Env} {a:Act}
structure NC (B:Nat) (w w':World):Prop where
 row:∃ row,w.grownBy w' row∧∀ r,row=some r→B≤r∧∃ o:Obj,w.heap[r]?=some o∧o.isCells=false
theorem NC.cell {B:Nat} (h:NC B w w') {x:Addr} {v:Value} (hc:w.cell? x=some v):w'.cell? x=some v:=by
 obtain ⟨row,hg,hr⟩:=h.row
 exact cell_kept hc hg fun r e=>(hr r e).2
theorem PRel.keepc (h:∀ (x:Addr) (v:Value),w.cell? x=some v→w'.cell? x=some v) {p:PV} {v:Value} (hp:PRel K w p v):PRel K w' p v:=by
 have hrow:∀ {b o:Nat} {vs:List Value},Rows K w b o vs→Rows K w' b o vs:=fun hr k v hv=>⟨(hr k v hv).1,h _ _ (hr k v hv).2.1,(hr k v hv).2.2⟩
 induction hp with
 | base v h1=>exact .base v h1
 | agg cs vs hl h1 _ ih=>exact .agg cs vs hl h1 ih
 | nil sz full=>exact .nil sz full
 | emp sz full a=>exact .emp sz full a
 | slc sz es full b o cap vss h0 hc hf hm hm' hr _ ih=>exact .slc sz es full b o cap vss h0 hc hf hm hm' (fun i e he=>⟨(hr i e he).1,(hr i e he).2.1,hrow (hr i e he).2.2⟩) ih
 | ptr p off b o vs hl hr _ ih=>exact .ptr p off b o vs hl (hrow hr) ih
 | fn f first cap vf vc h1 h2 _ _ ih1 ih2=>exact .fn f first cap vf vc h1 h2 ih1 ih2
 | tup cs vs hl _ ih=>exact .tup cs vs hl ih
theorem PRels.keepc (h:∀ (x:Addr) (v:Value),w.cell? x=some v→w'.cell? x=some v) {ps:List PV} {vs:List Value} (hp:PRels K w ps vs):PRels K w' ps vs :=
 ⟨hp.1,fun k c v hc hv=>(hp.2 k c v hc hv).keepc h⟩
theorem PRel.nc {B:Nat} (h:NC B w w') {p:PV} {v:Value} (hp:PRel K w p v):PRel K w' p v:=hp.keepc fun _ _ hc=>h.cell hc
theorem PRels.nc {B:Nat} (h:NC B w w') {ps:List PV} {vs:List Value} (hp:PRels K w ps vs):PRels K w' ps vs:=hp.keepc fun _ _ hc=>h.cell hc
theorem ARel.nc {B:Nat} (h:NC B w w') {av:AV} {v:Value} (ha:ARel K w ρ H av v):ARel K w' ρ H av v:=by
 induction ha with
 | pv p v hp=>exact .pv p v (hp.nc h)
 | own i hv=>exact .own i hv
 | box i off b hi hb=>exact .box i off b hi hb
 | ad i off b m c hi hb=>exact .ad i off b m c hi hb
 | agg cs vs hl h1 _ ih=>exact .agg cs vs hl h1 ih
 | fn f first cap vf vc h1 h2 _ _ ih1 ih2=>exact .fn f first cap vf vc h1 h2 ih1 ih2
 | any v=>exact .any v
 | any1 v h1 h2=>exact .any1 v h1 h2
theorem NC.block {B:Nat} (h:NC B w w') {b:Nat} {arr:Array Value} {t:TypeId} {x:Nat × Nat} (hb:w.heap[b]?=some (.cells arr t x)):w'.heap[b]?=some (.cells arr t x):=by
 obtain ⟨row,hg,hr⟩:=h.row
 have hlt:=(Array.getElem?_eq_some_iff.1 hb).1
 rw [hg.block b hlt (fun e=>by
  obtain ⟨_,o,ho,hc⟩:=hr b e.symm
  rw [hb] at ho;cases ho;simp [Obj.isCells] at hc)]
 exact hb
theorem HOk.nc {B B0:Nat} (h:NC B0 w w') {e:HE} {r:Value} (hX:∀ X,e≠.obj X) (ho:HOk K w B ρ H e r):HOk K w' B ρ H e r:=by
 cases e with
 | cell v =>
  obtain ⟨b,t,arr,u,rfl,hB,hb,hu,ha,hn⟩:=ho
  exact ⟨b,t,arr,u,rfl,hB,h.block hb,hu.nc h,ha,hn⟩
 | row t sz es =>
  obtain ⟨xs,hown,h0,hc,hk⟩:=ho
  obtain ⟨row,hg,hr⟩:=h.row
  refine ⟨xs,hown.kept hg ?_,h0,fun i e he=>⟨(hc i e he).1,fun k c hkc=>?_⟩,hk⟩
  ·rcases hown.2 with ⟨e,_⟩|⟨b,cap,cur,e,_,hb,_⟩
   ·left;rw [e];rfl
   ·right;rw [e];intro e2
    obtain ⟨_,o,ho,hcc⟩:=hr b e2.symm
    rw [hb] at ho;cases ho;simp [Obj.isCells] at hcc
  ·obtain ⟨v,v1,v2,v3⟩:=(hc i e he).2 k c hkc
   exact ⟨v,v1,v2,v3.nc h⟩
 | mrow t sz es =>
  obtain ⟨xs,hown,h0,hc,hk⟩:=ho
  obtain ⟨row,hg,hr⟩:=h.row
  refine ⟨xs,hown.kept hg ?_,h0,fun i e he=>⟨(hc i e he).1,fun k c hkc=>?_⟩,hk⟩
  ·rcases hown.2 with ⟨e,_⟩|⟨b,cap,cur,e,_,hb,_⟩
   ·left;rw [e];rfl
   ·right;rw [e];intro e2
    obtain ⟨_,o,ho,hcc⟩:=hr b e2.symm
    rw [hb] at ho;cases ho;simp [Obj.isCells] at hcc
  ·obtain ⟨v,v1,v2,v3⟩:=(hc i e he).2 k c hkc
   exact ⟨v,v1,v2,v3.nc h⟩
 | dead=>trivial
 | pin v u=>exact ARel.nc h ho
 | obj X=>exact (hX X rfl).elim
structure Bare (g:Base):Prop where
 ds:g.ds=[]
 pr:∀ b,¬ g.pr b
 k0:∀ b o,g.K0 b o→b < g.w0.heap.size
theorem FS.nc (hf:FS g K ρ H w) (hpr:∀ b,¬ g.pr b) (hk0:∀ b o,g.K0 b o→b < g.w0.heap.size) (hw1:g.w1.heap.size=0) (hno:Yn H=true) (h:NC g.w0.heap.size w w'):FS g K ρ H w':=by
 obtain ⟨row,hg,hr⟩:=h.row
 have hpt:Prot g K w':=⟨fun b hb=>(hpr b hb).elim,fun b o h0=>by
  rw [←hf.pt.kept b o h0]
  refine World.cell?_of_block (hg.block b (hf.lt b o (hf.old b o h0)) fun e=>?_)
  have h1:=(hr b e.symm).1
  have h2:=hk0 b o h0
  omega⟩
 refine ⟨hf.below.grown hg hf.below.size (fun k e=>(hr k e).1),hf.old,hf.new,fun b o hk=>Nat.lt_of_lt_of_le (hf.lt b o hk) hg.size,⟨by rw [hw1];omega,fun k o hk=>by have:=(Array.getElem?_eq_some_iff.1 hk).1;omega⟩,hpt,hf.away,?_,hf.heap.apart⟩
 intro i e hi
 exact (hf.heap.ok i e hi).nc h (ze6 hno i e hi)
theorem EnvR.nc {B:Nat} (h:NC B w w') {tmps:Array Value} (he:EnvR K w ρ H env tmps):EnvR K w' ρ H env tmps :=
 fun t av ht=>let ⟨v,h1,h2⟩:=he t av ht;⟨v,h1,h2.nc h⟩
structure AIter (P:Program) (f:FuncId) (cap:List PV) {α:Type} (encs:α→Array Value) (all:List α):Prop where
 stands:Vr P f
 stops:∀ (K:KK) (w:World) (vc:List Value) (n:Nat),PRels K w cap vc→SeqStopsK Fence.wide n P f vc.toArray encs (fun A B=>(∃ K,PRels K A cap vc)→∃ K,PRels K B cap vc) (fun xs=>xs=all) (fun _=>True) all.length w
def mark (D:Nat):Deferred:={ target:=.collected D,args:=#[] }
structure AW2 (P:Program) (n:Nat) (g:Base) (c:Code) (env:Env) (H:HEnv) (Q:QC):Prop where
 go:∀ a w,Inv n g env H a w→∀ d,2≤d→c.wpIn Fence.wide d P (fun e a' w'=>∃ (g2:Base) (D:Nat),g2.w0=g.w0∧g2.K0=g.K0∧g2.ds=[mark D]∧g.w0.heap.size≤D∧g2.w1.heap[D]?=some (.deferred (some [])) ∧
  ∃ env' H',Inv n g2 env' H' a' w'∧Q e env' H') a w
variable {x y c:Code} {QQ:QC} {ops:List Oper}
def zid (next:Env→HEnv→Prop):QC
 | .normal,env,H=>next env H
 | _,_,_=>False
theorem zaD (h:AW P n g x env H (zid fun env' H'=>AW2 P n g y env' H' QQ)):AW2 P n g (.seq x y) env H QQ :=
 ⟨fun a w hi d hd=>wpIn_seq (wpIn_mono (h.go a w hi none d) fun e a' w' ⟨env',H',h1,h2⟩=>by
  cases e <;> first
   | exact h2.go a' w' h1 d hd
   | exact h2.elim)⟩
theorem zmc (h:AW2 P n g x env H (zid fun env' H'=>∀ g2:Base,AW P n g2 y env' H' QQ)):AW2 P n g (.seq x y) env H QQ :=
 ⟨fun a w hi d hd=>wpIn_seq (wpIn_mono (h.go a w hi d hd) fun e a' w' ⟨g2,D,q1,q2,q3,q4,q5,env',H',h1,h2⟩=>by
  cases e <;> first
   | exact wpIn_mono ((h2 g2).go a' w' h1 none d) (fun e a2 w2 ⟨env2,H2,k1,k2⟩=>⟨g2,D,q1,q2,q3,q4,q5,env2,H2,k1,k2⟩)
   | exact h2.elim)⟩
theorem zju {id:Nat} (h:AW2 P n g c env H (zid fun env' H'=>QQ .normal env' H')):AW2 P n g (.block id c) env H QQ :=
 ⟨fun a w hi d hd=>wpIn_block (wpIn_mono (h.go a w hi d hd) fun e a' w' ⟨g2,D,q1,q2,q3,q4,q5,env',H',h1,h2⟩=>by
  cases e <;> first
   | exact ⟨g2,D,q1,q2,q3,q4,q5,env',H',h1,h2⟩
   | exact h2.elim)⟩
theorem zey (htb:yA P tb) {f:FuncId} {args:List PV} {r:PV} {fn:Func} (hf:P.funcs[f]?=some fn) (hb:fn.body=some c) (hn:(fn.name == "runtime.NumGoroutine")=false) (hnt:fn.ntmps=n) (hargs:args.length≤n)
  (rs:List ResultVar) (hrs:fn.results.toList=rs) (h:lensOk args→∀ g:Base,g.w1.heap.size=0→Bare g→AW2 P n g c (zfO 0 args) [] (fun e env H=>Yn H=true∧zqa tb rs r e env H)):ACall P f args r:=by
 refine ⟨⟨fn,hf,by simp [hb],hn⟩,fun K w vs hl hv=>?_⟩
 refine callsIn_wide.1 (callsIn_of_wp_marks (F:=Fence.wide) (n:=2) hf hb trivial ?_)
 have hlen:vs.length=args.length:=hv.1
 refine wpIn_mono ((h hv.lensOk (Base.of w K (bare w) []) rfl ⟨rfl,fun _ h=>h,hl⟩).go _ w ⟨by simp [hnt];omega,rfl,K,fun _=>undef,⟨.refl _ _,fun _ _ h=>h,fun _ _ h=>.inl h,hl,XR _ _,.base,.none _ _,⟨by simp [HEnv.get_nil,HEnv.get_cons],by simp [HEnv.get_nil,HEnv.get_cons]⟩⟩,?_⟩ 2 (Nat.le_refl _)) ?_
 ·intro t av hg
  obtain ⟨_,p,hp,rfl⟩:=zay args 0 t av hg
  have hlt:t < vs.length:=by rw [hlen];exact (List.getElem?_eq_some_iff.1 hp).1
  refine ⟨vs[t],?_,.pv _ _ (hv.2 t p _ hp (List.getElem?_eq_getElem hlt))⟩
  rw [Array.getElem?_append_left (by simpa using hlt)]
  simp [hlt]
 ·rintro e a' w' ⟨g2,D,q1,q2,q3,q4,q5,env1,H',hi,hno,he,env',hent,ps,hps,rfl⟩
  obtain ⟨_,h2,K',ρ',hf2,he0⟩:=hi
  have hD:w'.heap[D]?=some (.deferred (some [])):=hf2.others.same D _ q5 rfl
  have hf':FS (Base.of w K (bare w) []) K' ρ' H' w':=by
   have b1:=hf2.below;rw [q1] at b1
   have b2:=hf2.old;rw [q2] at b2
   have b3:=hf2.new;rw [q1,q2] at b3
   have b5:=hf2.heap;rw [q1] at b5
   exact ⟨b1,b2,b3,hf2.lt,XR _ _,⟨fun _ h=>h.elim,fun b o h0=>World.cell?_of_block (b1.block b (hl b o h0))⟩,.none _ _,b5⟩
  obtain ⟨w3,hw3⟩:∃ w3,w3=w'.putObj D (.deferred none):=⟨_,rfl⟩
  have hnc:NC w.heap.size w' w3:=⟨some D,by rw [hw3];exact grownBy_putObj' _ _ _,fun r e=>by cases e;exact ⟨q4,_,hD,rfl⟩⟩
  have hf3:=hf'.nc (fun _ h=>h) hl rfl hno hnc
  have he':EnvR K' w3 ρ' H' env' a'.tmps:=fun t av ht=>by
   obtain ⟨av0,q1,q2⟩:=hent t av ht
   obtain ⟨v,v1,v2⟩:=he0 t av0 q1
   exact ⟨v,v1,q2 _ _ _ _ _ (v2.nc hnc)⟩
  obtain ⟨us,hrun,hru⟩:=QG htb hf3 he' hps
  have hev:Evo K K' w w3:=⟨hf3.below,hf3.old,hf3.new,hf3.lt⟩
  have hres:(results fn a'.tmps).run P w3=.ok (if hh:us.toArray.size=1 then us.toArray[0] else .tuple us.toArray) w3:=by
   unfold results
   rw [Array.mapM_eq_mapM_toList,hrs]
   simp only [Sem.run_bind,Sem.run_map]
   erw [hrun]
   rfl
  have hval:PRel K' w3 (zn ps) (if hh:us.toArray.size=1 then us.toArray[0] else .tuple us.toArray):=by
   split
   ·rename_i hh
    have hl1:=hru.1
    have hu:us.length=1:=by simpa using hh
    obtain ⟨u,rfl⟩:=List.length_eq_one_iff.1 hu
    obtain ⟨p,rfl⟩:=List.length_eq_one_iff.1 (show ps.length=1 by omega)
    exact hru.2 0 p u (by simp) (by simp)
   ·rename_i hh
    simp at hh
    have:zn ps=.tup ps:=by
     unfold zn
     split
     ·rename_i p;exact absurd (by have:=hru.1;simpa using this) hh
     ·rfl
    rw [this]
    exact .tup ps us hru.1 hru.2
  have hds:a'.defers=[mark D]:=h2.trans q3
  have hleave:LeavesInM Fence.wide 2 P fn a'.tmps (fun e w'=>∃ v K',e=.returned v∧Evo K K' w w'∧PRel K' w' (zn ps) v) a'.defers .returning w':=by
   rw [hds]
   refine ⟨by simp,.inl ⟨D,w3,rfl,by rw [hw3];exact run_takeDeferred hD,?_⟩⟩
   exact ⟨_,hres,_,K',rfl,hev,hval⟩
  rcases he with rfl|rfl
  ·exact hleave
  ·exact hleave
def zmL (ts:List Nat) (env:Env):Bool:=ts.all fun t=>(env.get t).isNone
theorem zjC {α:Type} {tf p0 p1 tv:Nat} {id:Nat} {ty:TypeId} {po:String} {af:Array Edge} {body:Code} {fB:FuncId} {cap:List PV} {encs:α→Array Value} {all:List α} (v0 v1:α→Value) (hit:AIter P fB cap encs all)
  (env2:Env) (HH:List α→HEnv) (b:Nat) (hw1:g.w1.heap.size=0) (hbg:Bare g)
  (henc:∀ x,encs x=#[v0 x,v1 x]) (hv1:∀ x,YJ (v1 x)=true)
  (ht:env.get tf=some (.pv (.fn (.func fB) [] cap))) (hs:Sub env env2) (hft:env2.get tf=some (.pv (.fn (.func fB) [] cap))) (hnd:zjB env2=true) (hfr:zmL [p0,p1,tv] env2=true) (hpp:p0 < n∧p1 < n∧tv < n∧p0≠p1)
  (hfit:Ye H (HH []) env2) (hids:∀ pre,zcR b (HH pre)=true) (hno:∀ pre,Yn (HH pre)=true)
  (hend:(YI (HH all) env2&&hIn (HH all) (HH all))=true)
  (hbody:∀ (g2:Base) (us:Nat→Value) (pre:List α) (x:α),pre.length < all.length→AW P n g2 body ((tv,.pv (.base (v1 x)))::env2) (HH pre++zT us b env2) (zid fun env' H'=>Ye H' (HH (pre++[x])++zT us b env2) []))
  (h:QQ .normal env2 (HH all)):AW2 P n g (.rangeFunc (.tmp tf) #[p0,p1] (.region id #[{ dst:=some tv,op:=.assign (.tmp p1),type:=ty,pos:=po,after:=af,guard:=none }] false) body) env H QQ:=by
 refine ⟨fun a w hinv d hd=>?_⟩
 have hinv2:=(hinv.sub hs).hsub hfit
 obtain ⟨h1,h2,K,ρ,hf,he⟩:=hinv2
 let us:Nat→Value:=fun t=>a.tmps.getD t undef
 have hus:∀ t av,(t,av)∈env2→ARel K w ρ (HH []) av (us t):=by
  intro t av hm
  obtain ⟨v,v1,v2⟩:=he t av (za4 hnd hm)
  have:us t=v:=by simp [us,Array.getD_eq_getD_getElem?,v1]
  rw [this];exact v2
 have hpins:∀ (pre:List α),Yn (HH pre++zT us b env2)=true:=by
  intro pre
  have h3:∀ (e:Env) (k:Nat),Yn (zT us k e)=true:=by
   intro e
   induction e with
   | nil=>intro k;rfl
   | cons x e ih=>intro k;exact ih (k + 1)
  have h4:∀ (A B:HEnv),Yn A=true→Yn B=true→Yn (A++B)=true:=by
   intro A
   induction A with
   | nil=>intro B _ hB;exact hB
   | cons x A ih =>
    intro B hA hB
    obtain ⟨j,x⟩:=x
    cases x <;> simp only [Yn,List.cons_append] at hA ⊢ <;> first|exact ih B hA hB|cases hA
  exact h4 _ _ (hno pre) (h3 _ _)
 have hfs0:FS g K ρ (HH []++zT us b env2) w:=by
  have hlat:Later K K w w:=.refl K w
  have hk:∀ j,(HEnv.get (HH []) j).isSome=true→(HEnv.get (HH []++zT us b env2) j).isSome=true∧ρ j=ρ j:=fun j hj=>⟨zH j hj,rfl⟩
  refine ⟨hf.below,hf.old,hf.new,hf.lt,hf.others,hf.pt,fun i h bb _ _ _=>hbg.pr bb,?_,?_⟩
  ·intro i e hi
   rw [get_append] at hi
   cases hh:HEnv.get (HH []) i with
   | some x=>rw [hh] at hi;simp only [Option.some.injEq] at hi;subst hi;exact (hf.heap.ok i _ hh).keeps (.refl hf.lt) hf.lt hk
   | none =>
    rw [hh] at hi
    obtain ⟨_,t,av,hm,rfl⟩:=Xd hi
    exact (hus t av hm).keeps hlat hk
  ·intro i j x y bb hij hi hj lx ly bx bby
   have e1:∀ i x,HEnv.get (HH []++zT us b env2) i=some x→x.live=true→HEnv.get (HH []) i=some x:=by
    intro i x hi hl
    rw [get_append] at hi
    cases hh:HEnv.get (HH []) i with
    | some z=>rw [hh] at hi;exact hi
    | none =>
     rw [hh] at hi
     obtain ⟨_,t,av,hm,rfl⟩:=Xd hi
     simp [HE.live] at hl
   exact hf.heap.apart i j x y bb hij (e1 i x hi lx) (e1 j y hj ly) lx ly bx bby
 have hread:∀ {K':KK} {ρ':Nat→Value} {pre:List α} {W:World} {g':Base},FS g' K' ρ' (HH pre++zT us b env2) W→∀ t av,env2.get t=some av→a.tmps[t]?=some (us t)∧ARel K' W ρ' (HH pre++zT us b env2) av (us t):=by
  intro K' ρ' pre W g' hf' t av hg
  obtain ⟨v,v1,v2⟩:=he t av hg
  have hu:us t=v:=by simp [us,Array.getD_eq_getD_getElem?,v1]
  obtain ⟨i,hbi,hgi⟩:=zdJ (us:=us) (b:=b) (zcw hg)
  have hn:HEnv.get (HH pre) i=none:=by
   cases hh:HEnv.get (HH pre) i with
   | none=>rfl
   | some z=>have:=YV (hids pre) i z hh;omega
  have hget:HEnv.get (HH pre++zT us b env2) i=some (.pin av (us t)):=by rw [get_append,hn];exact hgi
  exact ⟨by rw [hu];exact v1,hf'.heap.ok i _ hget⟩
 have hfn:∃ vc,us tf=.func (.func fB) #[] vc.toArray∧PRels K w cap vc:=by
  have:=(hus tf _ (zcw hft))
  cases this with
  | pv _ _ hp =>
   generalize us tf=u at hp
   cases hp with
   | fn _ _ _ vf vc f1 f2 f3 f4 =>
    have:vf=[]:=List.eq_nil_of_length_eq_zero (by simpa using f1)
    subst this
    exact ⟨vc,rfl,f2,f4⟩
 obtain ⟨vc,hvc,hpc⟩:=hfn
 have hev:a.eval (.tmp tf)=.func (.func fB) #[] vc.toArray:=by rw [←hvc];rfl
 have hcapW:∀ {K':KK} {ρ':Nat→Value} {pre:List α} {W:World} {g':Base},FS g' K' ρ' (HH pre++zT us b env2) W→PRels K' W cap vc:=by
  intro K' ρ' pre W g' hf'
  have:=(hread hf' tf _ hft).2
  rw [hvc] at this
  cases this with
  | pv _ _ hp =>
   cases hp with
   | fn _ _ _ vf vc' f1 f2 f3 f4=>exact ⟨f2,f4⟩
 have hseq:=hit.stops K w vc (d - 1) hpc
 let a₁:α→Act:=fun x=>{ tmps:=((a.tmps.setIfInBounds p0 (v0 x)).setIfInBounds p1 (v1 x)).setIfInBounds tv (v1 x),defers:=[] }
 let I:List α→World→Prop:=fun pre W=>∃ K ρ,FS g K ρ (HH pre++zT us b env2) W
 refine wpIn_rangeFunc_ownF (α:=α) (F:=Fence.wide) (n:=d) (w0:=w) (N:=all.length) rfl (by omega) hev trivial (fun args w=>yX hit.stands args w) hseq
  (fun h1 h2 h=>h2 (h1 h)) (fun W l o o' hl hlo ho _=>fun ⟨K',hK'⟩=>⟨K',hK'.nc (B:=0) ⟨some l,grownBy_putObj' _ _ _,fun r e=>by cases e;exact ⟨Nat.zero_le _,o,hlo,ho⟩⟩⟩) (.refl _ _)
  (fun x=>by rw [henc];rfl) I (fun _ _ _=>False) ?_ (fun _ _ _ _ _ h=>h.elim) ⟨K,ρ,hfs0⟩ a₁ ?_ ?_ ?_ (fun _ _ _ _ _ _ h _=>h.elim)
 ·rintro pre W W' row ⟨K',ρ',hf'⟩ hg hr
  exact ⟨K',ρ',hf'.nc hbg.pr hbg.k0 hw1 (hpins pre) ⟨row,hg,fun r e=>⟨Nat.le_trans hf.below.size (hr r e).1,(hr r e).2⟩⟩⟩
 ·intro l x W KK hKK
  refine wpIn_region_list ?_
  have hK:KK (a₁ x) W:=hKK
  show wpListIn _ _ _ _ _ [_] _ _
  refine wpListIn_plain rfl fun K2 hK2=>?_
  refine ⟨fun _ _=>trivial,?_⟩
  rw [Oper.semAt_eq _ _ _ (fun c hc=>by cases hc)]
  have hrun:∀ ρ:Operand→Value,(execOp ρ { dst:=some tv,op:=.assign (.tmp p1),type:=ty,pos:=po,after:=af,guard:=none:Oper }).run P W=.ok (.value (ρ (.tmp p1))) W:=fun ρ=>by simp [execOp]
  rw [hrun]
  simp only [Oper.uponIn]
  refine hK2 _ _ ?_
  show Exit.then KK _ .normal _ W
  have e1:(({ tmps:=((#[p0,p1]:Array Tmp).zip (encs x)).foldl (fun t (p,v)=>t.setIfInBounds p v) a.tmps,defers:=[] }:Act).put (some tv) (({ tmps:=((#[p0,p1]:Array Tmp).zip (encs x)).foldl (fun t (p,v)=>t.setIfInBounds p v) a.tmps,defers:=[] }:Act).eval (.tmp p1)))=a₁ x:=by
   rw [henc x]
   have hsz:p1 < (a.tmps.setIfInBounds p0 (v0 x)).size:=by simp;omega
   have hz:((#[p0,p1]:Array Tmp).zip #[v0 x,v1 x]).foldl (fun t (p,v)=>t.setIfInBounds p v) a.tmps=(a.tmps.setIfInBounds p0 (v0 x)).setIfInBounds p1 (v1 x):=by
    have hz0:(#[p0,p1]:Array Tmp).zip #[v0 x,v1 x]=#[(p0,v0 x),(p1,v1 x)]:=Array.ext' (by rw [Array.toList_zip];rfl)
    rw [hz0];rfl
   rw [hz]
   simp only [Act.put,Act.eval,a₁]
   congr 2
   simp [Array.getD_eq_getD_getElem?]
   intro h;omega
  rw [e1]
  exact hK
 ·rintro l pre x W ⟨K',ρ',hf'⟩ hlen
  have hf2:FS ⟨g.w0,g.K0,W,[],g.wp,g.pr⟩ K' ρ' (HH pre++zT us b env2) W:=⟨hf'.below,hf'.old,hf'.new,hf'.lt,KeepsOthers.refl W,⟨hf'.pt.same,hf'.pt.kept⟩,hf'.away,hf'.heap⟩
  have hinvB:Inv n ⟨g.w0,g.K0,W,[],g.wp,g.pr⟩ ((tv,.pv (.base (v1 x)))::env2) (HH pre++zT us b env2) (a₁ x) W:=by
   refine ⟨by simp [a₁,h1],rfl,K',ρ',hf2,fun t av hg=>?_⟩
   rw [Env.get_cons] at hg
   split at hg
   ·rename_i e;subst e
    simp only [Option.some.injEq] at hg;subst hg
    refine ⟨v1 x,?_,.pv _ _ (.base _ (hv1 x))⟩
    show (((a.tmps.setIfInBounds p0 (v0 x)).setIfInBounds p1 (v1 x)).setIfInBounds tv (v1 x))[tv]?=some (v1 x)
    exact Array.getElem?_setIfInBounds_self_of_lt (by simp;omega)
   ·rename_i hne
    obtain ⟨q1,q2⟩:=hread hf' t av hg
    have hfresh:∀ p,p∈[p0,p1,tv]→p≠t:=by
     intro p hp e;subst e
     have:=List.all_eq_true.1 hfr p hp
     rw [hg] at this;cases this
    refine ⟨us t,?_,q2⟩
    show (((a.tmps.setIfInBounds p0 (v0 x)).setIfInBounds p1 (v1 x)).setIfInBounds tv (v1 x))[t]?=_
    rw [Array.getElem?_setIfInBounds_ne (hfresh tv (by simp)),Array.getElem?_setIfInBounds_ne (hfresh p1 (by simp)),Array.getElem?_setIfInBounds_ne (hfresh p0 (by simp))]
    exact q1
  refine wpIn_mono ((hbody ⟨g.w0,g.K0,W,[],g.wp,g.pr⟩ us pre x hlen).go (a₁ x) W hinvB (some l) (d - 1 - 1)) ?_
  rintro e a' W' ⟨env',H',hi',hq⟩
  cases e with
  | normal =>
   obtain ⟨_,_,K2,ρ2,hfe,_⟩:=(hi'.sub yu).hsub (H':=HH (pre++[x])++zT us b env2) hq
   refine ⟨hfe.others,fun _=>⟨K2,hcapW hfe⟩,K2,ρ2,⟨hfe.below,hfe.old,hfe.new,hfe.lt,⟨by rw [hw1];omega,fun k o hk=>by have:=(Array.getElem?_eq_some_iff.1 hk).1;omega⟩,⟨hfe.pt.same,hfe.pt.kept⟩,hfe.away,hfe.heap⟩⟩
  | _=>exact hq.elim
 ·rintro D xs W hD rfl ⟨K',ρ',hf'⟩ hWD
  have hend':=hend
  simp only [Bool.and_eq_true] at hend'
  have hfe:FS ⟨g.w0,g.K0,W,[mark D],g.wp,g.pr⟩ K' ρ' (HH xs++zT us b env2) W:=⟨hf'.below,hf'.old,hf'.new,hf'.lt,KeepsOthers.refl W,⟨hf'.pt.same,hf'.pt.kept⟩,hf'.away,hf'.heap⟩
  have hinvE:Inv n ⟨g.w0,g.K0,W,[mark D],g.wp,g.pr⟩ env2 (HH xs++zT us b env2) { a with defers:=mark D::a.defers } W:=by
   refine ⟨h1,?_,K',ρ',hfe,fun t av hg=>?_⟩
   ·show mark D::a.defers=[mark D]
    rw [h2,hbg.ds]
   ·obtain ⟨q1,q2⟩:=hread hf' t av hg
    exact ⟨us t,q1,q2⟩
  have hsub:HSub (HH xs++zT us b env2) (HH xs):=fun i h hi=>by rw [get_append,hi]
  exact ⟨⟨g.w0,g.K0,W,[mark D],g.wp,g.pr⟩,D,rfl,rfl,rfl,Nat.le_trans hf.below.size hD,hWD,env2,HH xs,hinvE.hsub ⟨hsub,hend⟩,h⟩
end
end Go.Cg
/- Code with ranges over iterators in it,any number of them,in a frame of which others hold parts. -/
namespace Go.Cg
open Go.RowKit

/-- What all bases of a frame share;s0: where its own blocks begin. -/
structure Fam where
  w0:World
  K0:KK
  wp:World
  pr:Nat→Prop
  w1:World
  s0:Nat
structure Fam.ok (F:Fam):Prop where
  s:F.w0.heap.size≤F.s0
  pr:∀ b,F.pr b→b < F.s0
  k0:∀ b o,F.K0 b o→b < F.s0
  w1:F.w1.heap.size≤F.s0
structure Fam.mem (F:Fam) (g:Base) (Ds:List Nat):Prop where
  w0:g.w0=F.w0
  K0:g.K0=F.K0
  wp:g.wp=F.wp
  pr:g.pr=F.pr
  w1:KeepsOthers F.w1 g.w1
  ds:g.ds=Ds.map mark
  nd:Ds.Nodup
  s1:F.s0≤g.w1.heap.size
  at_:∀ D∈Ds,F.s0≤D∧g.w1.heap[D]?=some (.deferred (some []))
section
variable {P:Program} {tb:Tab} {n:Nat} {g:Base} {K:KK} {w w':World} {ρ:Nat→Value} {H H':HEnv} {env:Env} {a:Act} {x y c:Code} {QQ:QC} {F:Fam}
theorem FS.ncF {B:Nat} (hf:FS g K ρ H w) (hB:g.w0.heap.size≤B) (hpr:∀ b,g.pr b→b < B) (hk0:∀ b o,g.K0 b o→b < B) (hw1:KeepsOthers g.w1 w') (hno:Yn H=true) (h:NC B w w'):FS g K ρ H w':=by
  obtain ⟨row,hg,hr⟩:=h.row
  have hpt:Prot g K w':=⟨fun b hb=>by
    obtain ⟨p1,p2,p3⟩:=hf.pt.same b hb
    refine ⟨Nat.lt_of_lt_of_le p1 hg.size,(hg.block b p1 fun e=>?_).trans p2,p3⟩
    have h1:=(hr b e.symm).1
    have h2:=hpr b hb
    omega,fun b o h0=>by
    rw [←hf.pt.kept b o h0]
    refine World.cell?_of_block (hg.block b (hf.lt b o (hf.old b o h0)) fun e=>?_)
    have h1:=(hr b e.symm).1
    have h2:=hk0 b o h0
    omega⟩
  refine ⟨hf.below.grown hg hf.below.size (fun k e=>Nat.le_trans hB (hr k e).1),hf.old,hf.new,fun b o hk=>Nat.lt_of_lt_of_le (hf.lt b o hk) hg.size,hw1,hpt,hf.away,?_,hf.heap.apart⟩
  intro i e hi
  exact (hf.heap.ok i e hi).nc h (ze6 hno i e hi)
/-- Code with such ranges in it: each leaves its mark. -/
structure AW3 (P:Program) (n:Nat) (F:Fam) (c:Code) (env:Env) (H:HEnv) (Q:QC):Prop where
  go:∀ g Ds,F.mem g Ds→∀ a w,Inv n g env H a w→∀ d,2≤d→c.wpIn Fence.wide d P (fun e a' w'=>∃ g2 Ds2,F.mem g2 Ds2∧∃ env' H',Inv n g2 env' H' a' w'∧Q e env' H') a w
theorem yD (h:∀ g,AW P n g c env H QQ):AW3 P n F c env H QQ :=
  ⟨fun g Ds hg a w hi d _=>wpIn_mono ((h g).go a w hi none d) fun _ _ _ h2=>⟨g,Ds,hg,h2⟩⟩
theorem yF (h:AW3 P n F x env H (zsd (fun env' H'=>AW3 P n F y env' H' QQ) QQ)):AW3 P n F (.seq x y) env H QQ :=
  ⟨fun g Ds hg a w hi d hd=>wpIn_seq (wpIn_mono (h.go g Ds hg a w hi d hd) fun e a' w' ⟨g2,D2,hm,env',H',h1,h2⟩=>by
    cases e <;> first
      | exact h2.go g2 D2 hm a' w' h1 d hd
      | exact ⟨g2,D2,hm,env',H',h1,h2⟩)⟩
theorem Xr {id:Nat} (h:AW3 P n F c env H (zkR id QQ)):AW3 P n F (.block id c) env H QQ :=
  ⟨fun g Ds hg a w hi d hd=>wpIn_block (wpIn_mono (h.go g Ds hg a w hi d hd) fun e a' w' ⟨g2,D2,hm,env',H',h1,h2⟩=>by
    cases e <;> first
      | exact ⟨g2,D2,hm,env',H',h1,h2⟩
      | (simp only [zkR,Exit.inBlock] at h2 ⊢
         split
         · rename_i he;rw [if_pos he] at h2;exact ⟨g2,D2,hm,env',H',h1,h2⟩
         · rename_i he;rw [if_neg he] at h2;exact ⟨g2,D2,hm,env',H',h1,h2⟩))⟩
theorem zsP {t:Nat} {b:Bool} (hc:env.get t=some (.pv (.base (.bool b)))) (h1:b=true→AW3 P n F x env H QQ) (h2:b=false→AW3 P n F y env H QQ):AW3 P n F (.cond (.tmp t) x y) env H QQ :=
  ⟨fun g Ds hg a w hi d hd=>wpIn_cond_split (zcA (c:=.tmp t) hi hc) (fun h=>(h1 h).go g Ds hg a w hi d hd) (fun h=>(h2 h).go g Ds hg a w hi d hd)⟩
def zu3 (P:Program) (n:Nat) (F:Fam) (c:Code) (QQ:QC):Nat→Env→HEnv→Prop
  | 0,_,_=>False
  | m + 1,env,H=>AW3 P n F c env H (fun e env' H'=>match e with|.normal=>zu3 P n F c QQ m env' H'|e=>QQ e env' H')
theorem zh8 (m:Nat) (h:zu3 P n F c QQ m env H):AW3 P n F (.loop c) env H QQ:=by
  refine ⟨fun g Ds hg a w hi d hd=>?_⟩
  intro b k cs hro hb hr
  have key:∀ m env H,zu3 P n F c QQ m env H→∀ g Ds,F.mem g Ds→∀ a w,Inv n g env H a w →
      ∃ e a' w',(∃ g2 Ds2,F.mem g2 Ds2∧∃ env' H',Inv n g2 env' H' a' w'∧QQ e env' H')∧ArrivesIn (Machine.fenced P Fence.wide) P (lone (b.atR a (.code c::.inLoop c::k)) cs w) b k cs e a' w':=by
    intro m
    induction m with
    | zero=>intro env H h;exact h.elim
    | succ m ih =>
      intro env H h g Ds hg a w hi
      obtain ⟨e,a₁,w₁,⟨g2,D2,hm,env',H',h1,h2⟩,harr⟩:=AW3.go h g Ds hg a w hi d hd b (.inLoop c::k) cs hro hb hr
      cases e with
      | normal =>
        obtain ⟨e₂,a₂,w₂,hq₂,harr₂⟩:=ih env' H' h2 g2 D2 hm a₁ w₁ h1
        exact ⟨e₂,a₂,w₂,hq₂,.of_steps (StepsIn.trans harr (.one (fenced_calm hb hr rfl) stepR_inLoop)) harr₂⟩
      | exit id=>exact ⟨_,a₁,w₁,⟨g2,D2,hm,env',H',h1,h2⟩,.pass (x:=.inLoop c) rfl (fun _ _=>.inl (by simp)) harr⟩
      | goto l=>exact ⟨_,a₁,w₁,⟨g2,D2,hm,env',H',h1,h2⟩,.pass (x:=.inLoop c) rfl (fun _ _=>.inl (by simp)) harr⟩
      | ret=>exact ⟨_,a₁,w₁,⟨g2,D2,hm,env',H',h1,h2⟩,.pass (x:=.inLoop c) rfl (fun _ _=>.inl (by simp)) harr⟩
      | panic ch=>exact ⟨_,a₁,w₁,⟨g2,D2,hm,env',H',h1,h2⟩,.pass (x:=.inLoop c) rfl (fun _ _=>.inl (by simp)) harr⟩
      | outgrown=>exact ⟨_,a₁,w₁,⟨g2,D2,hm,env',H',h1,h2⟩,.pass (x:=.inLoop c) rfl (fun _ _=>.inl (by simp)) harr⟩
  obtain ⟨e,a',w',hq,harr⟩:=key _ _ _ h g Ds hg a w hi
  exact ⟨e,a',w',hq,.of_steps (.one (fenced_calm hb hr rfl) stepR_loop) harr⟩
/-- The marks are taken,one behind the other. -/
theorem zdN {fn:Func} {tmps:Array Value} {R:Ending→World→Prop} {s0:Nat} {I:World→Prop} (hstep:∀ w D,I w→s0≤D→w.heap[D]?=some (.deferred (some []))→I (w.putObj D (.deferred none)))
    (hfin:∀ w,I w→∃ v,(results fn tmps).run P w=.ok v w∧R (.returned v) w):∀ Ds:List Nat,Ds.Nodup→∀ w,I w→(∀ D∈Ds,s0≤D∧w.heap[D]?=some (.deferred (some [])))→LeavesInM Fence.wide 2 P fn tmps R (Ds.map mark) .returning w
  | [],_,w,hi,_=>by
    obtain ⟨v,hv,hR⟩:=hfin w hi
    exact ⟨v,hv,hR⟩
  | D::Ds,hn,w,hi,hD=>by
    rw [List.nodup_cons] at hn
    obtain ⟨h1,h2⟩:=hD D (by simp)
    refine ⟨by simp,.inl ⟨D,w.putObj D (.deferred none),rfl,run_takeDeferred h2,?_⟩⟩
    refine zdN hstep hfin Ds hn.2 _ (hstep w D hi h1 h2) fun D' hD'=>?_
    obtain ⟨k1,k2⟩:=hD D' (by simp [hD'])
    have hne:D≠D':=fun e=>hn.1 (e ▸ hD')
    refine ⟨k1,?_⟩
    simp [World.putObj,Array.getElem?_setIfInBounds_ne hne,k2]
/-- The contract of a function in which such ranges are. -/
theorem zis (htb:yA P tb) {ι:Type} {f:FuncId} {args:List AV} {r:ι→PV} {H':ι→HEnv} {fn:Func} (hf:P.funcs[f]?=some fn) (hb:fn.body=some c) (hn:(fn.name == "runtime.NumGoroutine")=false) (hnt:fn.ntmps=n) (hargs:args.length≤n)
    (rs:List ResultVar) (hrs:fn.results.toList=rs) (h:∀ F:Fam,F.ok→AW3 P n F c (QN 0 args) H (fun e env1 H1=>(e=.normal∨e=.ret)∧Yn H1=true∧∃ u ps,Vy tb H1 env1 rs=some ps∧r u=zn ps∧Ye H1 (H' u) [])):ACallU P f args H (fun u=>.pv (r u)) H':=by
  refine ⟨⟨fn,hf,by simp [hb],hn⟩,fun g0 K ρ w vs _ hfs0 hv=>?_⟩
  refine callsIn_wide.1 (callsIn_of_wp_marks (F:=Fence.wide) (n:=2) hf hb trivial ?_)
  have hlen:vs.length=args.length:=hv.1
  have hok:Fam.ok ⟨g0.w0,g0.K0,g0.wp,g0.pr,g0.w1,w.heap.size⟩:=⟨hfs0.below.size,fun b hb=>(hfs0.pt.same b hb).1,fun b o hk=>hfs0.lt b o (hfs0.old b o hk),hfs0.others.size⟩
  refine wpIn_mono ((h _ hok).go ⟨g0.w0,g0.K0,w,[],g0.wp,g0.pr⟩ [] ⟨rfl,rfl,rfl,rfl,hfs0.others,rfl,List.nodup_nil,Nat.le_refl _,fun D hD=>by cases hD⟩ _ w ⟨by simp [hnt];omega,rfl,K,ρ,⟨hfs0.below,hfs0.old,hfs0.new,hfs0.lt,KeepsOthers.refl w,⟨hfs0.pt.same,hfs0.pt.kept⟩,hfs0.away,hfs0.heap⟩,?_⟩ 2 (Nat.le_refl _)) ?_
  · intro t av hg
    obtain ⟨_,hp⟩:=Qy args 0 t av hg
    have hlt:t < vs.length:=by rw [hlen];exact (List.getElem?_eq_some_iff.1 hp).1
    refine ⟨vs[t],?_,hv.2 t av _ hp (List.getElem?_eq_getElem hlt)⟩
    rw [Array.getElem?_append_left (by simpa using hlt)]
    simp [hlt]
  · rintro e a' w' ⟨g2,Ds,hm,env1,H1,hi,he,hno,u,ps,hps,hr,hfit⟩
    obtain ⟨gw0,gK0,gw1,gds,gwp,gpr⟩:=g2
    obtain ⟨m1,m2,m3,m4,m5,m6,m7,m9,m8⟩:=hm
    simp only at m1 m2 m3 m4 m5 m6 m8
    subst m1 m2 m3 m4
    obtain ⟨_,h2,K',ρ',hf2,he0⟩:=hi
    have hfs:FS g0 K' ρ' H1 w':=⟨hf2.below,hf2.old,hf2.new,hf2.lt,m5.trans hf2.others,⟨hf2.pt.same,hf2.pt.kept⟩,hf2.away,hf2.heap⟩
    have hds:a'.defers=Ds.map mark:=h2.trans m6
    have hmarks:∀ D∈Ds,w.heap.size≤D∧w'.heap[D]?=some (.deferred (some [])):=fun D hD=>⟨(m8 D hD).1,hf2.others.same D _ (m8 D hD).2 rfl⟩
    have key:LeavesInM Fence.wide 2 P fn a'.tmps (fun e w'=>∃ v K' ρ' u,e=.returned v∧FS g0 K' ρ' (H' u) w'∧ARel K' w' ρ' (H' u) (.pv (r u)) v) (Ds.map mark) .returning w':=by
      refine zdN (s0:=w.heap.size) (I:=fun W=>FS g0 K' ρ' H1 W∧EnvR K' W ρ' H1 env1 a'.tmps) ?_ ?_ Ds m7 w' ⟨hfs,he0⟩ hmarks
      · rintro W D ⟨i1,i2⟩ hs hD
        have hnc:NC w.heap.size W (W.putObj D (.deferred none)):=⟨some D,grownBy_putObj' _ _ _,fun r e=>by cases e;exact ⟨hs,_,hD,rfl⟩⟩
        have hko:KeepsOthers g0.w1 (W.putObj D (.deferred none)):=⟨by have:=i1.others.size;simpa [World.putObj] using this,fun k o hk ho=>by
          have h3:=i1.others.same k o hk ho
          have hlt:=(Array.getElem?_eq_some_iff.1 hk).1
          have h4:=hok.w1
          simp only at h4
          have hne:D≠k:=by omega
          simp [World.putObj,Array.getElem?_setIfInBounds_ne hne,h3]⟩
        exact ⟨i1.ncF (B:=w.heap.size) hok.s hok.pr hok.k0 hko hno hnc,i2.nc hnc⟩
      · rintro W ⟨i1,i2⟩
        obtain ⟨us,hrun,hru⟩:=QG htb i1 i2 hps
        have hres:(results fn a'.tmps).run P W=.ok (if hh:us.toArray.size=1 then us.toArray[0] else .tuple us.toArray) W:=by
          unfold results
          rw [Array.mapM_eq_mapM_toList,hrs]
          simp only [Sem.run_bind,Sem.run_map]
          erw [hrun]
          rfl
        refine ⟨_,hres,_,K',ρ',u,rfl,i1.narrow hfit,?_⟩
        refine .pv _ _ ?_
        rw [hr]
        split
        · rename_i hh
          have hl1:=hru.1
          have hu:us.length=1:=by simpa using hh
          obtain ⟨x,rfl⟩:=List.length_eq_one_iff.1 hu
          obtain ⟨p,rfl⟩:=List.length_eq_one_iff.1 (show ps.length=1 by omega)
          exact hru.2 0 p x (by simp) (by simp)
        · rename_i hh
          simp at hh
          have:zn ps=.tup ps:=by
            unfold zn
            split
            · rename_i p;exact absurd (by have:=hru.1;simpa using this) hh
            · rfl
          rw [this]
          exact .tup ps us hru.1 hru.2
    rw [←hds] at key
    rcases he with rfl|rfl
    · exact key
    · exact key
/-- The range over what hands nothing over. -/
theorem znx {tf:Nat} {pp:Array Tmp} {asg body:Code} {fB:FuncId} {cap:List PV} {encs:Empty→Array Value} (hit:AIter P fB cap encs []) (ht:env.get tf=some (.pv (.fn (.func fB) [] cap))) (hno:Yn H=true) (h:QQ .normal env H) :
    AW3 P n F (.rangeFunc (.tmp tf) pp asg body) env H QQ:=by
  refine ⟨fun g Ds hm a w hinv d hd=>?_⟩
  obtain ⟨h1,h2,K,ρ,hf,he⟩:=hinv
  have hfn:∃ vc,a.eval (.tmp tf)=.func (.func fB) #[] vc.toArray∧PRels K w cap vc:=by
    have:=yL he (x:=.tmp tf) ht
    generalize a.eval (.tmp tf)=u at this
    cases this with
    | pv _ _ hp =>
      cases hp with
      | fn _ _ _ vf vc f1 f2 f3 f4 =>
        have:vf=[]:=List.eq_nil_of_length_eq_zero (by simpa using f1)
        subst this
        exact ⟨vc,rfl,f2,f4⟩
  obtain ⟨vc,hev,hpc⟩:=hfn
  have hseq:=hit.stops K w vc (d - 1) hpc
  refine wpIn_rangeFunc_ownF (α:=Empty) (F:=Fence.wide) (n:=d) (w0:=w) (N:=0) rfl (by omega) hev trivial (fun args w=>yX hit.stands args w) hseq
    (fun h1 h2 h=>h2 (h1 h)) (fun W l o o' hl hlo ho _=>fun ⟨K',hK'⟩=>⟨K',hK'.nc (B:=0) ⟨some l,grownBy_putObj' _ _ _,fun r e=>by cases e;exact ⟨Nat.zero_le _,o,hlo,ho⟩⟩⟩) (.refl _ _)
    (fun x=>x.elim) (fun _ W=>∃ K ρ,FS g K ρ H W∧EnvR K W ρ H env a.tmps) (fun _ _ _=>False) ?_ (fun _ _ _ _ _ h=>h.elim) ⟨K,ρ,hf,he⟩ (fun _=>a) (fun _ x=>x.elim) (fun _ _ x=>x.elim) ?_ (fun _ _ _ _ _ _ h _=>h.elim)
  · rintro pre W W' row ⟨K',ρ',hf',he'⟩ hg hr
    have hnc:NC w.heap.size W W':=⟨row,hg,fun r e=>⟨(hr r e).1,(hr r e).2⟩⟩
    have hko:KeepsOthers g.w1 W':=⟨Nat.le_trans hf'.others.size hg.size,fun k o hk ho=>by
      have h3:=hf'.others.same k o hk ho
      have hlt:=(Array.getElem?_eq_some_iff.1 hk).1
      have hsz:=hf.others.size
      refine (hg.block k (Array.getElem?_eq_some_iff.1 h3).1 fun e=>?_).trans h3
      have h4:=(hr k e.symm).1
      omega⟩
    exact ⟨K',ρ',hf'.ncF (B:=w.heap.size) hf.below.size (fun b hb=>(hf.pt.same b hb).1) (fun b o hk=>hf.lt b o (hf.old b o hk)) hko hno hnc,he'.nc hnc⟩
  · rintro D xs W hD rfl ⟨K',ρ',hf',he'⟩ hWD
    have hs1:=hm.s1
    have hsz:=hf.others.size
    refine ⟨⟨g.w0,g.K0,W,mark D::g.ds,g.wp,g.pr⟩,D::Ds,⟨hm.w0,hm.K0,hm.wp,hm.pr,hm.w1.trans hf'.others,by simp [hm.ds],?_,Nat.le_trans hs1 hf'.others.size,?_⟩,env,H,⟨h1,by show mark D::a.defers=mark D::g.ds;rw [h2],K',ρ',⟨hf'.below,hf'.old,hf'.new,hf'.lt,KeepsOthers.refl W,⟨hf'.pt.same,hf'.pt.kept⟩,hf'.away,hf'.heap⟩,he'⟩,h⟩
    · refine List.nodup_cons.2 ⟨fun hin=>?_,hm.nd⟩
      have h3:=(Array.getElem?_eq_some_iff.1 (hm.at_ D hin).2).1
      omega
    · intro D' hD'
      rcases List.mem_cons.1 hD' with rfl|hin
      · exact ⟨by omega,hWD⟩
      · exact ⟨(hm.at_ D' hin).1,hf'.others.same D' _ (hm.at_ D' hin).2 rfl⟩
end
end Go.Cg
namespace Go.Cg
open Go.RowKit
section
variable {P:Program} {tb:Tab} {n:Nat} {g:Base} {K:KK} {w w':World} {ρ:Nat→Value} {H H':HEnv} {env:Env} {a:Act} {x y c:Code} {QQ:QC} {F:Fam}
theorem zeN:∀ A B:HEnv,Yn A=true→Yn B=true→Yn (A++B)=true
 | [],_,_,hB=>hB
 | (_,h)::A,B,hA,hB=>by
  cases h <;> simp only [Yn,List.cons_append] at hA ⊢ <;> first|exact zeN A B hA hB|cases hA
theorem zc2 (us:Nat→Value):∀ (e:Env) (k:Nat),Yn (zT us k e)=true
 | [],_=>rfl
 | _::e,k=>zc2 us e (k + 1)
theorem zoi {tf p0 p1:Nat} {asg body:Code} {fB:FuncId} {cap:List PV} {v0 v1:Value} {encs:Unit→Array Value} (hit:AIter P fB cap encs [()]) (henc:∀ x,encs x=#[v0,v1]) (q1:PV) (hv0:YJ v0=true) (hv1:∀ K w,PRel K w q1 v1)
  (env2:Env) (HH:Bool→HEnv) (HB:HEnv) (envB:Env) (b:Nat) (hs:Sub env env2) (hft:env2.get tf=some (.pv (.fn (.func fB) [] cap))) (hnd:zjB env2=true) (hfr:zmL [p0,p1] env2=true) (hlt:p0 < n∧p1 < n∧p0≠p1)
  (hfit:Ye H (HH false) env2) (hids:∀ k,zcR b (HH k)=true) (hno:∀ k,Yn (HH k)=true) (hnoB:Yn HB=true) (hend:(YI (HH true) env2&&hIn (HH true) (HH true))=true)
  (hasg:∀ (g2:Base) (us:Nat→Value) (k:Bool),AW P n g2 asg ((p1,.pv q1)::(p0,.pv (.base v0))::env2) (HH k++zT us b env2) (fun e env' H'=>e=.normal∧Ye H' (HH k++zT us b env2) []∧(k=false→Sub env' envB∧Ye H' (HB++zT us b env2) envB)))
  (hbody:∀ (g2:Base) (us:Nat→Value),AW P n g2 body envB (HB++zT us b env2) (zid fun env' H'=>Ye H' (HH true++zT us b env2) []))
  (hne:∀ (g:Base) (us:Nat→Value) K ρ K' ρ' W,FS g K ρ (HH false++zT us b env2) W→FS g K' ρ' (HH true++zT us b env2) W→False)
  (h:QQ .normal env2 (HH true)):AW3 P n F (.rangeFunc (.tmp tf) #[p0,p1] asg body) env H QQ:=by
 refine ⟨fun g Ds hm a w hinv d hd=>?_⟩
 have hinv2:=(hinv.sub hs).hsub hfit
 obtain ⟨h1,h2,K,ρ,hf,he⟩:=hinv2
 obtain ⟨us,husd⟩:∃ us:Nat→Value,∀ t,us t=a.tmps.getD t undef:=⟨_,fun _=>rfl⟩
 have hus:∀ t av,(t,av)∈env2→ARel K w ρ (HH false) av (us t):=by
  intro t av hmm
  obtain ⟨v,v1,v2⟩:=he t av (za4 hnd hmm)
  have:us t=v:=by simp [husd,Array.getD_eq_getD_getElem?,v1]
  rw [this];exact v2
 have hpins:∀ k,Yn (HH k++zT us b env2)=true:=fun k=>zeN _ _ (hno k) (zc2 _ _ _)
 have hpinB:Yn (HB++zT us b env2)=true:=zeN _ _ hnoB (zc2 _ _ _)
 have hfs0:FS g K ρ (HH false++zT us b env2) w:=by
  have hlat:Later K K w w:=.refl K w
  have hk:∀ j,(HEnv.get (HH false) j).isSome=true→(HEnv.get (HH false++zT us b env2) j).isSome=true∧ρ j=ρ j:=fun j hj=>⟨zH j hj,rfl⟩
  have e1:∀ i x,HEnv.get (HH false++zT us b env2) i=some x→x.live=true→HEnv.get (HH false) i=some x:=by
   intro i x hi hl
   rw [get_append] at hi
   cases hh:HEnv.get (HH false) i with
   | some z=>rw [hh] at hi;exact hi
   | none =>
    rw [hh] at hi
    obtain ⟨_,t,av,hmm,rfl⟩:=Xd hi
    simp [HE.live] at hl
  refine ⟨hf.below,hf.old,hf.new,hf.lt,hf.others,hf.pt,fun i x bb hi hl hb=>hf.away i x bb (e1 i x hi hl) hl hb,?_,?_⟩
  ·intro i e hi
   rw [get_append] at hi
   cases hh:HEnv.get (HH false) i with
   | some x=>rw [hh] at hi;simp only [Option.some.injEq] at hi;subst hi;exact (hf.heap.ok i _ hh).keeps (.refl hf.lt) hf.lt hk
   | none =>
    rw [hh] at hi
    obtain ⟨_,t,av,hmm,rfl⟩:=Xd hi
    exact (hus t av hmm).keeps hlat hk
  ·intro i j x y bb hij hi hj lx ly bx bby
   exact hf.heap.apart i j x y bb hij (e1 i x hi lx) (e1 j y hj ly) lx ly bx bby
 have hread:∀ {K':KK} {ρ':Nat→Value} {k:Bool} {W:World} {g':Base},FS g' K' ρ' (HH k++zT us b env2) W→∀ t av,env2.get t=some av→a.tmps[t]?=some (us t)∧ARel K' W ρ' (HH k++zT us b env2) av (us t):=by
  intro K' ρ' k W g' hf' t av hg
  obtain ⟨v,v1,v2⟩:=he t av hg
  have hu:us t=v:=by simp [husd,Array.getD_eq_getD_getElem?,v1]
  obtain ⟨i,hbi,hgi⟩:=zdJ (us:=us) (b:=b) (zcw hg)
  have hn:HEnv.get (HH k) i=none:=by
   cases hh:HEnv.get (HH k) i with
   | none=>rfl
   | some z=>have:=YV (hids k) i z hh;omega
  have hget:HEnv.get (HH k++zT us b env2) i=some (.pin av (us t)):=by rw [get_append,hn];exact hgi
  exact ⟨by rw [hu];exact v1,hf'.heap.ok i _ hget⟩
 have hfn:∃ vc,us tf=.func (.func fB) #[] vc.toArray∧PRels K w cap vc:=by
  have:=hus tf _ (zcw hft)
  generalize us tf=u at this
  cases this with
  | pv _ _ hp =>
   cases hp with
   | fn _ _ _ vf vc f1 f2 f3 f4 =>
    have:vf=[]:=List.eq_nil_of_length_eq_zero (by simpa using f1)
    subst this
    exact ⟨vc,rfl,f2,f4⟩
 obtain ⟨vc,hvc,hpc⟩:=hfn
 have hev:a.eval (.tmp tf)=.func (.func fB) #[] vc.toArray:=by rw [←hvc,husd];rfl
 have hcapW:∀ {K':KK} {ρ':Nat→Value} {k:Bool} {W:World} {g':Base},FS g' K' ρ' (HH k++zT us b env2) W→PRels K' W cap vc:=by
  intro K' ρ' k W g' hf'
  have:=(hread hf' tf _ hft).2
  rw [hvc] at this
  cases this with
  | pv _ _ hp =>
   cases hp with
   | fn _ _ _ vf vc' f1 f2 f3 f4=>exact ⟨f2,f4⟩
 have hseq:=hit.stops K w vc (d - 1) hpc
 have hnc:∀ {W W':World} {row:Option Nat} {K':KK} {ρ':Nat→Value} {X:HEnv},FS g K' ρ' X W→Yn X=true→W.grownBy W' row→(∀ r,row=some r→w.heap.size≤r∧∃ o:Obj,W.heap[r]?=some o∧o.isCells=false)→FS g K' ρ' X W'∧NC w.heap.size W W':=by
  intro W W' row K' ρ' X hf' hx hg hr
  have hnc:NC w.heap.size W W':=⟨row,hg,fun r e=>⟨(hr r e).1,(hr r e).2⟩⟩
  have hko:KeepsOthers g.w1 W':=⟨Nat.le_trans hf'.others.size hg.size,fun k o hk ho=>by
   have h3:=hf'.others.same k o hk ho
   have hlt:=(Array.getElem?_eq_some_iff.1 hk).1
   have hsz:=hf.others.size
   refine (hg.block k (Array.getElem?_eq_some_iff.1 h3).1 fun e=>?_).trans h3
   have h4:=(hr k e.symm).1
   omega⟩
  exact ⟨hf'.ncF (B:=w.heap.size) hf.below.size (fun b hb=>(hf.pt.same b hb).1) (fun b o hk=>hf.lt b o (hf.old b o hk)) hko hx hnc,hnc⟩
 refine wpIn_rangeFunc_ownH (α:=Unit) (F:=Fence.wide) (n:=d) (w0:=w) (N:=1) rfl (by omega) hev trivial (fun args w=>yX hit.stands args w) hseq
  (fun h1 h2 h=>h2 (h1 h)) (fun W l o o' hl hlo ho _=>fun ⟨K',hK'⟩=>⟨K',hK'.nc (B:=0) ⟨some l,grownBy_putObj' _ _ _,fun r e=>by cases e;exact ⟨Nat.zero_le _,o,hlo,ho⟩⟩⟩) (.refl _ _)
  (fun x=>by rw [henc];rfl) (fun pre W=>∃ K ρ,FS g K ρ (HH (!pre.isEmpty)++zT us b env2) W) (fun _ _ _=>False) ?_ (fun _ _ _ _ _ h=>h.elim) ⟨K,ρ,hfs0⟩
  (fun _ a' W=>(a'.tmps.size=n∧a'.defers=[]∧∃ K ρ,FS g K ρ (HB++zT us b env2) W∧EnvR K W ρ (HB++zT us b env2) envB a'.tmps)∨∃ K ρ,FS g K ρ (HH true++zT us b env2) W) ?_ ?_ ?_ ?_ (fun _ _ _ _ _ _ h _=>h.elim)
 ·rintro pre W W' row ⟨K',ρ',hf'⟩ hg hr
  exact ⟨K',ρ',(hnc hf' (hpins _) hg hr).1⟩
 ·rintro x a' _ W W' row hax hg hr
  rcases hax with ⟨s1,s2,K',ρ',hf',he'⟩|⟨K',ρ',hf'⟩
  ·obtain ⟨k1,k2⟩:=hnc hf' hpinB hg hr
   exact .inl ⟨s1,s2,K',ρ',k1,he'.nc k2⟩
  ·exact .inr ⟨K',ρ',(hnc hf' (hpins _) hg hr).1⟩
 ·rintro l pre x W KK ⟨K',ρ',hf'⟩ hK
  have hf2:FS ⟨g.w0,g.K0,W,[],g.wp,g.pr⟩ K' ρ' (HH (!pre.isEmpty)++zT us b env2) W:=⟨hf'.below,hf'.old,hf'.new,hf'.lt,KeepsOthers.refl W,⟨hf'.pt.same,hf'.pt.kept⟩,hf'.away,hf'.heap⟩
  have hz:((#[p0,p1]:Array Tmp).zip (encs x)).foldl (fun t (p,v)=>t.setIfInBounds p v) a.tmps=(a.tmps.setIfInBounds p0 v0).setIfInBounds p1 v1:=by
   rw [henc]
   have hz0:(#[p0,p1]:Array Tmp).zip #[v0,v1]=#[(p0,v0),(p1,v1)]:=Array.ext' (by rw [Array.toList_zip];rfl)
   rw [hz0];rfl
  have hinvA:Inv n ⟨g.w0,g.K0,W,[],g.wp,g.pr⟩ ((p1,.pv q1)::(p0,.pv (.base v0))::env2) (HH (!pre.isEmpty)++zT us b env2) { tmps:=((#[p0,p1]:Array Tmp).zip (encs x)).foldl (fun t (p,v)=>t.setIfInBounds p v) a.tmps,defers:=[] } W:=by
   rw [hz]
   refine ⟨by simp [h1],rfl,K',ρ',hf2,fun t av hg=>?_⟩
   rw [Env.get_cons] at hg
   split at hg
   ·rename_i e;subst e
    simp only [Option.some.injEq] at hg;subst hg
    exact ⟨v1,Array.getElem?_setIfInBounds_self_of_lt (by rw [Array.size_setIfInBounds,h1];exact hlt.2.1),.pv _ _ (hv1 _ _)⟩
   ·rename_i hne1
    rw [Env.get_cons] at hg
    split at hg
    ·rename_i e;subst e
     simp only [Option.some.injEq] at hg;subst hg
     refine ⟨v0,?_,.pv _ _ (.base _ hv0)⟩
     show ((a.tmps.setIfInBounds p0 v0).setIfInBounds p1 v1)[p0]?=some v0
     rw [Array.getElem?_setIfInBounds_ne hne1]
     exact Array.getElem?_setIfInBounds_self_of_lt (by rw [h1];exact hlt.1)
    ·rename_i hne0
     obtain ⟨r1,r2⟩:=hread hf2 t av hg
     refine ⟨us t,?_,r2⟩
     show ((a.tmps.setIfInBounds p0 v0).setIfInBounds p1 v1)[t]?=_
     rw [Array.getElem?_setIfInBounds_ne hne1,Array.getElem?_setIfInBounds_ne hne0]
     exact r1
  refine wpIn_mono ((hasg _ us (!pre.isEmpty)).go _ W hinvA (some l) (d - 1 - 1)) ?_
  rintro e a' W' ⟨env',H',hi',rfl,hq1,hq2⟩
  obtain ⟨_,_,K2,ρ2,hfe,_⟩:=(hi'.sub yu).hsub hq1
  have hback:FS g K2 ρ2 (HH (!pre.isEmpty)++zT us b env2) W':=⟨hfe.below,hfe.old,hfe.new,hfe.lt,hf'.others.trans hfe.others,⟨hfe.pt.same,hfe.pt.kept⟩,hfe.away,hfe.heap⟩
  refine hK a' W' (hfe.others.from _) (fun _=>⟨K2,hcapW hfe⟩) ⟨K2,ρ2,hback⟩ ?_
  cases pre with
  | nil =>
   obtain ⟨hb1,hb2⟩:=hq2 rfl
   obtain ⟨j1,j2,K3,ρ3,hfb,heb⟩:=(hi'.sub hb1).hsub hb2
   exact .inl ⟨j1,j2,K3,ρ3,⟨hfb.below,hfb.old,hfb.new,hfb.lt,hf'.others.trans hfb.others,⟨hfb.pt.same,hfb.pt.kept⟩,hfb.away,hfb.heap⟩,heb⟩
  | cons _ _=>exact .inr ⟨K2,ρ2,hback⟩
 ·rintro l pre x a' W _ _ ⟨K',ρ',hf'⟩ hax hlen
  obtain rfl:pre=[]:=List.eq_nil_of_length_eq_zero (by omega)
  rcases hax with ⟨s1,s2,K2,ρ2,hf2,he2⟩|⟨K2,ρ2,hf2⟩
  ·have hf3:FS ⟨g.w0,g.K0,W,[],g.wp,g.pr⟩ K2 ρ2 (HB++zT us b env2) W:=⟨hf2.below,hf2.old,hf2.new,hf2.lt,KeepsOthers.refl W,⟨hf2.pt.same,hf2.pt.kept⟩,hf2.away,hf2.heap⟩
   refine wpIn_mono ((hbody ⟨g.w0,g.K0,W,[],g.wp,g.pr⟩ us).go a' W ⟨s1,s2,K2,ρ2,hf3,he2⟩ (some l) (d - 1 - 1)) ?_
   rintro e a2 W' ⟨env',H',hi',hq⟩
   cases e with
   | normal =>
    obtain ⟨_,_,K3,ρ3,hfe,_⟩:=(hi'.sub yu).hsub (H':=HH true++zT us b env2) hq
    exact ⟨hfe.others.from _,fun _=>⟨K3,hcapW hfe⟩,K3,ρ3,⟨hfe.below,hfe.old,hfe.new,hfe.lt,hf2.others.trans hfe.others,⟨hfe.pt.same,hfe.pt.kept⟩,hfe.away,hfe.heap⟩⟩
   | _=>exact hq.elim
  ·exact (hne g us _ _ _ _ W hf' hf2).elim
 ·rintro D xs W hD rfl ⟨K',ρ',hf'⟩ hWD
  have hs1:=hm.s1
  have hsz:=hf.others.size
  have hend':=hend
  have hsub:HSub (HH true++zT us b env2) (HH true):=fun i h hi=>by rw [get_append,hi]
  have hinvE:Inv n ⟨g.w0,g.K0,W,mark D::g.ds,g.wp,g.pr⟩ env2 (HH true++zT us b env2) { a with defers:=mark D::a.defers } W :=
   ⟨h1,by show mark D::a.defers=mark D::g.ds;rw [h2],K',ρ',⟨hf'.below,hf'.old,hf'.new,hf'.lt,KeepsOthers.refl W,⟨hf'.pt.same,hf'.pt.kept⟩,hf'.away,hf'.heap⟩,fun t av hg=>by
    obtain ⟨r1,r2⟩:=hread hf' t av hg
    exact ⟨us t,r1,r2⟩⟩
  refine ⟨⟨g.w0,g.K0,W,mark D::g.ds,g.wp,g.pr⟩,D::Ds,⟨hm.w0,hm.K0,hm.wp,hm.pr,hm.w1.trans hf'.others,by simp [hm.ds],?_,Nat.le_trans hs1 hf'.others.size,?_⟩,env2,HH true,hinvE.hsub ⟨hsub,hend'⟩,h⟩
  ·refine List.nodup_cons.2 ⟨fun hin=>?_,hm.nd⟩
   have h3:=(Array.getElem?_eq_some_iff.1 (hm.at_ D hin).2).1
   omega
  ·intro D' hD'
   rcases List.mem_cons.1 hD' with rfl|hin
   ·exact ⟨by omega,hWD⟩
   ·exact ⟨(hm.at_ D' hin).1,hf'.others.same D' _ (hm.at_ D' hin).2 rfl⟩
end
end Go.Cg
