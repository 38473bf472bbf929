/- A part of the walks by abstract values: no statement of its own. -/
import Derived.WalkKit
import Derived.OrdersIn
import Derived.TacticsIn
import Derived.RangeFuncWrites
import Derived.KernelRfl
set_option linter.unusedVariables false
set_option linter.unusedSimpArgs false
namespace Go.Cg
open Go.RowKit
abbrev zaz (r:Option Nat):Fence:={ Fence.wide with round:=r }
def ze6 (o:Oper):Bool:=match o.op with|.defer _=>false|_=>true
def qU:List Oper→Bool
 | []=>true
 | o::l=>ze6 o&&qU l
theorem zg7:∀ {l:List Oper},qU l=true→∀ o∈l,ze6 o=true
 | [],_,o,h=>by simp at h
 | x::l,hl,o,h=>by
  simp only [qU,Bool.and_eq_true] at hl;rcases List.mem_cons.1 h with rfl|h
  ·exact hl.1
  ·exact zg7 hl.2 o h
section
variable {r:Option Nat} {n:Nat} {P:Program} {ops:Array Oper} {a:Act} {w:World}
theorem zjY {f:FuncId} {args:Array Value} {R:Ending→World→Prop} (h:Calls P f args w R):CallsIn (zaz r) n P f args w R:=by
 have:CallsIn Fence.wide n P f args w R:=callsIn_wide.2 h;exact this
theorem zln {row:String} {args:Array Value} {R:Value→World→Prop} (h:Rows P row args w R):RowsIn (zaz r) n P row args w R:=fun c cs _=>by
 obtain ⟨v,w',h1,h2⟩:=h c cs;exact ⟨v,w',h1,stepsIn_wide.2 h2⟩
theorem zeb {o:Oper} {K:Act→World→Prop} {Q:Exit→Act→World→Prop} (hd:ze6 o=true) (h:o.wp P a w K Q):o.wpIn (zaz r) n P a w K Q:=by
 refine ⟨fun _ _=>trivial,?_⟩;rw [Oper.semAt_eq _ _ _ (fun c hc=>by simp [ze6,hc] at hd)];unfold Oper.wp at h;generalize (execOp a.eval o).run P w=x at h ⊢;cases x with
 | ok y w' =>
  cases y <;> simp only [Oper.upon,Oper.uponIn] at h ⊢ <;> first
   | exact h
   | exact ⟨fun hh=>by simp [Fence.wide] at hh,zjY h⟩
   | exact ⟨fun hh=>by simp [Fence.wide] at hh,zln h⟩
   | exact h.elim
 | halt y w'=>cases y <;> simp only [Oper.upon,Oper.uponIn] at h ⊢ <;> exact h
theorem zau {Q:Exit→Act→World→Prop} (hq:¬ LetsOut Q):∀ {l:List Oper} {a:Act} {w:World},qU l=true→wpList P ops Q l a w→wpListIn (zaz r) n P ops Q l a w
 | [],a,w,_,h=>h
 | o::l,a,w,hd,h=>by
  simp only [qU,Bool.and_eq_true] at hd;unfold wpList at h;unfold wpListIn;split
  ·rename_i hw;rw [if_pos hw] at h;rcases h with h|h
   ·exact Oper.wpIn_mono (fun a w h=>zau hq hd.2 h) (zeb hd.1 h)
   ·exact (hq h.2).elim
  ·rename_i hw;rw [if_neg hw] at h;exact ⟨fun _ _=>trivial,zau hq hd.2 h⟩
theorem zam {Q:Exit→Act→World→Prop} {md:Region.Mode} (hq:¬ LetsOut Q) (hd:qU ops.toList=true):∀ (fuel:Nat) (listed:Array Bool) (a:Act) (w:World),wpAny P md ops Q fuel listed a w→wpAnyIn (zaz r) n P md ops Q fuel listed a w
 | 0,_,_,_,h=>h
 | fuel + 1,listed,a,w,h=>by
  refine ⟨h.1,fun i hi=>?_⟩;have h1:=h.2 i hi;unfold wpOp at h1;unfold wpOpIn;cases ho:ops[i]? with
  | none=>rw [ho] at h1;exact zam hq hd fuel _ _ _ h1
  | some o =>
   rw [ho] at h1;simp only at h1 ⊢;have hn:=zg7 hd o (by obtain ⟨hlt,he⟩:=Array.getElem?_eq_some_iff.1 ho;rw [←he];simp);split
   ·rename_i hw;rw [if_pos hw] at h1;rcases h1 with h1|h1
    ·exact Oper.wpIn_mono (fun a w h=>zam hq hd fuel _ _ _ h) (zeb hn h1)
    ·exact (hq h1.2).elim
   ·rename_i hw;rw [if_neg hw] at h1;exact ⟨fun _ _=>trivial,zam hq hd fuel _ _ _ h1⟩
theorem zcD {R:Act→World→Prop}:¬ LetsOut (fun e a w=>e=Exit.normal∧R a w):=by
 rintro ⟨a,w,h,_⟩;cases h
theorem zmz {id:Nat} {l:List Oper} {R:Act→World→Prop} (hd:qU l=true) (h:wpList P l.toArray (fun e a w=>e=Exit.normal∧R a w) l a w):(Code.region id l.toArray false).wpIn (zaz r) n P (fun e a w=>e=Exit.normal∧R a w) a w :=
 wpIn_region_lit (zau zcD hd h)
theorem zwh {id:Nat} {l:List Oper} {R:Act→World→Prop} (hd:qU l=true) (hm:P.follows .mixedOrders=true) (h:wpAny P .any l.toArray (fun e a w=>e=Exit.normal∧R a w) l.toArray.size (Array.replicate l.toArray.size false) a { w with drawn:=w.drawn + 1 }) :
  (Code.region id l.toArray true).wpIn (zaz r) n P (fun e a w=>e=Exit.normal∧R a w) a w :=
 wpIn_region_any hm (zam zcD (by simpa using hd) _ _ _ _ h)
end
theorem zlY {w w':World} (h:Below w.heap.size w w'):KeepsOthers w w' :=
 ⟨h.size,fun k o hk _=>(h.block k (Array.getElem?_eq_some_iff.1 hk).1).trans hk⟩
def bare (w:World):World:={ w with heap:=#[] }
theorem YX (w w':World):KeepsOthers (bare w) w':=⟨by simp [bare],fun k o h=>by simp [bare] at h⟩
theorem zdU {w w':World} {b:Nat} {arr:Array Value} {t:TypeId} {x:Nat × Nat} (h:w.heap[b]?=some (.cells arr t x)) (hg:w.grownBy w' (some b)):KeepsOthers w w' :=
 KeepsOthers.of_grownBy hg fun j o hj ho=>by cases hj;rw [h] at ho;cases ho;rfl
inductive PV where
 | base (v:Value)
 | agg (cs:List PV)
 | slc (sz:Nat) (es:List PV) (full:Bool)
 | ptr (p:PV) (off:Nat)
 | fn (f:Fn) (first cap:List PV)
 | tup (vs:List PV)
 deriving Inhabited
def PV.cells:PV→List PV
 | .agg cs=>cs
 | p=>[p]
abbrev KK:=Nat→Nat→Prop
def Rows (K:KK) (w:World) (b o:Nat) (vs:List Value):Prop :=
 ∀ k v,vs[k]?=some v→K b (o + k)∧w.cell? ⟨b,o + k,none⟩=some v∧v.oneCell'=true
def Zm:Value→Bool
 | .agg _=>false
 | .tuple _=>false
 | .string s=>decide (s.size≤maxLen)
 | _=>true
theorem zi0 {v:Value} (h:Zm v=true):v.oneCell'=true:=by cases v <;> first|rfl|(simp [Zm] at h)
inductive PRel (K:KK) (w:World):PV→Value→Prop where
 | base (v:Value):Zm v=true→PRel K w (.base v) v
 | agg (cs:List PV) (vs:List Value):vs.length=cs.length→(∀ v∈vs,v.oneCell'=true)→(∀ (k:Nat) (c:PV) (v:Value),cs[k]?=some c→vs[k]?=some v→PRel K w c v) →
   PRel K w (.agg cs) (.agg vs.toArray)
 | nil (sz:Nat) (full:Bool):PRel K w (.slc sz [] full) (.slice none 0 0)
 | emp (sz:Nat) (full:Bool) (a:Addr):PRel K w (.slc sz [] full) (.slice (some a) 0 0)
 | slc (sz:Nat) (es:List PV) (full:Bool) (b o cap:Nat) (vss:Nat→List Value):0 < sz→es.length≤cap→(full=true→cap=es.length) →
   es.length≤maxLen→cap≤maxLen →
   (∀ (i:Nat) (e:PV),es[i]?=some e→e.cells.length=sz∧(vss i).length=sz∧Rows K w b (o + i * sz) (vss i)) →
   (∀ (i:Nat) (e:PV) (k:Nat) (c:PV) (v:Value),es[i]?=some e→e.cells[k]?=some c→(vss i)[k]?=some v→PRel K w c v) →
   PRel K w (.slc sz es full) (.slice (some ⟨b,o,none⟩) es.length cap)
 | ptr (p:PV) (off b o:Nat) (vs:List Value):vs.length=p.cells.length→Rows K w b o vs →
   (∀ (k:Nat) (c:PV) (v:Value),p.cells[k]?=some c→vs[k]?=some v→PRel K w c v)→PRel K w (.ptr p off) (.pointer (some ⟨b,o + off,none⟩))
 | fn (f:Fn) (first cap:List PV) (vf vc:List Value):vf.length=first.length→vc.length=cap.length →
   (∀ (k:Nat) (c:PV) (v:Value),first[k]?=some c→vf[k]?=some v→PRel K w c v)→(∀ (k:Nat) (c:PV) (v:Value),cap[k]?=some c→vc[k]?=some v→PRel K w c v) →
   PRel K w (.fn f first cap) (.func f vf.toArray vc.toArray)
 | tup (cs:List PV) (vs:List Value):vs.length=cs.length→(∀ (k:Nat) (c:PV) (v:Value),cs[k]?=some c→vs[k]?=some v→PRel K w c v) →
   PRel K w (.tup cs) (.tuple vs.toArray)
def PRels (K:KK) (w:World) (ps:List PV) (vs:List Value):Prop :=
 vs.length=ps.length∧∀ (k:Nat) (c:PV) (v:Value),ps[k]?=some c→vs[k]?=some v→PRel K w c v
theorem PRels.nil {K:KK} {w:World}:PRels K w [] []:=⟨rfl,fun k c v h=>by simp at h⟩
theorem PRels.cons {K:KK} {w:World} {p:PV} {v:Value} {ps:List PV} {vs:List Value} (h:PRel K w p v) (hs:PRels K w ps vs):PRels K w (p::ps) (v::vs):=by
 refine ⟨by simp [hs.1],fun k c u hc hu=>?_⟩;cases k with
 | zero=>simp at hc hu;subst hc hu;exact h
 | succ k=>simp at hc hu;exact hs.2 k c u hc hu
theorem PRels.cons_inv {K:KK} {w:World} {p:PV} {ps:List PV} {vs:List Value} (h:PRels K w (p::ps) vs):∃ v vs',vs=v::vs'∧PRel K w p v∧PRels K w ps vs':=by
 obtain ⟨hl,hs⟩:=h;cases vs with
 | nil=>simp at hl
 | cons v vs=>exact ⟨v,vs,rfl,hs 0 p v (by simp) (by simp),by simpa using hl,fun k c u hc hu=>hs (k + 1) c u (by simpa using hc) (by simpa using hu)⟩
theorem PRels.nil_inv {K:KK} {w:World} {vs:List Value} (h:PRels K w [] vs):vs=[]:=List.eq_nil_of_length_eq_zero (by simpa using h.1)
structure Later (K K':KK) (w w':World):Prop where
 sub:∀ b o,K b o→K' b o
 cell:∀ b o,K b o→w'.cell? ⟨b,o,none⟩=w.cell? ⟨b,o,none⟩
theorem Later.refl (K:KK) (w:World):Later K K w w:=⟨fun _ _ h=>h,fun _ _ _=>rfl⟩
theorem Later.trans {K K' K'':KK} {w w' w'':World} (h:Later K K' w w') (h':Later K' K'' w' w''):Later K K'' w w'' :=
 ⟨fun b o hk=>h'.sub b o (h.sub b o hk),fun b o hk=>(h'.cell b o (h.sub b o hk)).trans (h.cell b o hk)⟩
theorem Rows.later {K K':KK} {w w':World} {b o:Nat} {vs:List Value} (h:Later K K' w w') (hr:Rows K w b o vs):Rows K' w' b o vs :=
 fun k v hv=>⟨h.sub _ _ (hr k v hv).1,(h.cell _ _ (hr k v hv).1).trans (hr k v hv).2.1,(hr k v hv).2.2⟩
theorem PRel.later {K K':KK} {w w':World} (h:Later K K' w w') {p:PV} {v:Value} (hp:PRel K w p v):PRel K' w' p v:=by
 induction hp with
 | base v h1=>exact .base v h1
 | agg cs vs hl h1 _ ih=>exact .agg cs vs hl h1 ih
 | nil sz full=>exact .nil sz full
 | emp sz full a=>exact .emp sz full a
 | slc sz es full b o cap vss h0 hc hf hm hm' hr _ ih=>exact .slc sz es full b o cap vss h0 hc hf hm hm' (fun i e he=>⟨(hr i e he).1,(hr i e he).2.1,(hr i e he).2.2.later h⟩) ih
 | ptr p off b o vs hl hr _ ih=>exact .ptr p off b o vs hl (hr.later h) ih
 | fn f first cap vf vc h1 h2 _ _ ih1 ih2=>exact .fn f first cap vf vc h1 h2 ih1 ih2
 | tup cs vs hl _ ih=>exact .tup cs vs hl ih
theorem PRels.later {K K':KK} {w w':World} (h:Later K K' w w') {ps:List PV} {vs:List Value} (hp:PRels K w ps vs):PRels K' w' ps vs :=
 ⟨hp.1,fun k c v hc hv=>(hp.2 k c v hc hv).later h⟩
inductive AV where
 | pv (p:PV)
 | own (i:Nat)
 | box (i off:Nat)
 | ad (i off:Nat)
 | agg (cs:List AV)
 | fn (f:Fn) (first cap:List AV)
 | any
 | any1
 deriving Inhabited
def AV.cells:AV→List AV
 | .agg cs=>cs
 | .pv (.agg cs)=>cs.map .pv
 | p=>[p]
inductive HE where
 | cell (v:AV)
 | row (t:TypeId) (sz:Nat) (es:List PV)
 | dead
 | pin (v:AV) (u:Value)
 | obj (X:Obj→Prop)
 | mrow (t:TypeId) (sz:Nat) (es:List PV)
 deriving Inhabited
abbrev HEnv:=List (Nat × HE)
def HEnv.get:HEnv→Nat→Option HE
 | [],_=>none
 | (i',v)::e,i=>match Nat.beq i' i with|true=>some v|false=>HEnv.get e i
theorem HEnv.get_nil (i:Nat):HEnv.get [] i=none:=rfl
theorem HEnv.get_cons (i':Nat) (v:HE) (e:HEnv) (i:Nat):HEnv.get ((i',v)::e) i=if i'=i then some v else HEnv.get e i:=by
 rw [HEnv.get];cases h:Nat.beq i' i
 ·rw [if_neg (Nat.ne_of_beq_eq_false h)]
 ·rw [if_pos (Nat.eq_of_beq_eq_true h)]
inductive ARel (K:KK) (w:World) (ρ:Nat→Value) (H:HEnv):AV→Value→Prop where
 | pv (p:PV) (v:Value):PRel K w p v→ARel K w ρ H (.pv p) v
 | own (i:Nat):(H.get i).isSome=true→ARel K w ρ H (.own i) (ρ i)
 | box (i off b:Nat):(H.get i).isSome=true→ρ i=.pointer (some ⟨b,0,none⟩)→ARel K w ρ H (.box i off) (.pointer (some ⟨b,off,none⟩))
 | ad (i off b m c:Nat):(H.get i).isSome=true→ρ i=.slice (some ⟨b,0,none⟩) m c→ARel K w ρ H (.ad i off) (.pointer (some ⟨b,off,none⟩))
 | agg (cs:List AV) (vs:List Value):vs.length=cs.length→(∀ v∈vs,v.oneCell'=true)→(∀ (k:Nat) (c:AV) (v:Value),cs[k]?=some c→vs[k]?=some v→ARel K w ρ H c v)→ARel K w ρ H (.agg cs) (.agg vs.toArray)
 | fn (f:Fn) (first cap:List AV) (vf vc:List Value):vf.length=first.length→vc.length=cap.length →
   (∀ (k:Nat) (c:AV) (v:Value),first[k]?=some c→vf[k]?=some v→ARel K w ρ H c v)→(∀ (k:Nat) (c:AV) (v:Value),cap[k]?=some c→vc[k]?=some v→ARel K w ρ H c v) →
   ARel K w ρ H (.fn f first cap) (.func f vf.toArray vc.toArray)
 | any (v:Value):ARel K w ρ H .any v
 | any1 (v:Value):v.cells=#[v]→v.oneCell'=true→ARel K w ρ H .any1 v
def CellsRel (K:KK) (w:World) (sz:Nat) (es:List PV) (xs:List Value):Prop :=
 ∀ (i:Nat) (e:PV),es[i]?=some e→e.cells.length=sz∧∀ (k:Nat) (c:PV),e.cells[k]?=some c→∃ v,xs[i * sz + k]?=some v∧v.oneCell'=true∧PRel K w c v
def HOk (K:KK) (w:World) (B:Nat) (ρ:Nat→Value) (H:HEnv):HE→Value→Prop
 | .cell v,r=>∃ b t arr u,r=.pointer (some ⟨b,0,none⟩)∧B≤b∧w.heap[b]?=some (.cells arr t (0,0))∧ARel K w ρ H v u∧u.cells=arr∧(∀ o,¬ K b o)
 | .row t sz es,r=>∃ xs,w.ownsRow B t sz r es.length xs∧0 < sz∧CellsRel K w sz es xs∧(∀ b,r.ownBlock=some b→∀ o,K b o↔o < es.length * sz)
 | .dead,_=>True
 | .pin v u,_=>ARel K w ρ H v u
 | .mrow t sz es,r=>∃ xs,w.ownsRow B t sz r es.length xs∧0 < sz∧CellsRel K w sz es xs∧(∀ b,r.ownBlock=some b→∀ o,¬ K b o)
 | .obj X,r=>∃ b ob,r=.map (some b)∧B≤b∧w.heap[b]?=some ob∧X ob∧(∀ o,¬ K b o)
def yj:Value→Option Nat
 | .pointer (some a)=>some a.block
 | .slice (some a) _ _=>some a.block
 | .map (some b)=>some b
 | _=>none
def HE.live:HE→Bool
 | .dead=>false
 | .pin _ _=>false
 | _=>true
structure HRel (K:KK) (w:World) (B:Nat) (ρ:Nat→Value) (H:HEnv):Prop where
 ok:∀ (i:Nat) (h:HE),H.get i=some h→HOk K w B ρ H h (ρ i)
 apart:∀ (i j:Nat) (h h':HE) (b:Nat),i≠j→H.get i=some h→H.get j=some h'→h.live=true→h'.live=true→yj (ρ i)=some b→yj (ρ j)=some b→False
structure Base where
 w0:World
 K0:KK
 w1:World
 ds:List Deferred
 wp:World
 pr:Nat→Prop
structure Prot (g:Base) (K:KK) (w:World):Prop where
 same:∀ b,g.pr b→b < w.heap.size∧w.heap[b]?=g.wp.heap[b]?∧∀ o,K b o↔g.K0 b o
 kept:∀ b o,g.K0 b o→w.cell? ⟨b,o,none⟩=g.wp.cell? ⟨b,o,none⟩
def Away (pr:Nat→Prop) (ρ:Nat→Value) (H:HEnv):Prop:=∀ (i:Nat) (h:HE) (b:Nat),H.get i=some h→h.live=true→yj (ρ i)=some b→¬ pr b
structure FS (g:Base) (K:KK) (ρ:Nat→Value) (H:HEnv) (w:World):Prop where
 below:Below g.w0.heap.size g.w0 w
 old:∀ b o,g.K0 b o→K b o
 new:∀ b o,K b o→g.K0 b o∨g.w0.heap.size≤b
 lt:∀ b o,K b o→b < w.heap.size
 others:KeepsOthers g.w1 w
 pt:Prot g K w
 away:Away g.pr ρ H
 heap:HRel K w g.w0.heap.size ρ H
def Plain (g:Base):Prop:=g.w1.heap.size=0∧∀ b o,g.K0 b o→b < g.w0.heap.size
def Base.of (w:World) (K:KK) (w1:World) (ds:List Deferred):Base:=⟨w,K,w1,ds,w,fun _=>False⟩
theorem Prot.grown {g:Base} {K K':KK} {w w':World} {row:Option Nat} (h:Prot g K w) (hold:∀ b o,g.K0 b o→K b o) (hg:w.grownBy w' row) (hl:Later K K' w w') (hrow:∀ b,row=some b→¬ g.pr b) (hK:∀ b o,K' b o→K b o∨row=some b∨w.heap.size≤b):Prot g K' w':=by
 refine ⟨fun b hb=>?_,fun b o h0=>(hl.cell b o (hold b o h0)).trans (h.kept b o h0)⟩;obtain ⟨h1,h2,h3⟩:=h.same b hb;refine ⟨Nat.lt_of_lt_of_le h1 hg.size,(hg.block b h1 (fun e=>hrow b e.symm hb)).trans h2,fun o=>⟨fun hk=>?_,fun h0=>hl.sub b o (hold b o h0)⟩⟩;rcases hK b o hk with hk|hk|hk
 ·exact (h3 o).1 hk
 ·exact absurd hb (hrow b hk)
 ·omega
theorem Prot.lt {g:Base} {K:KK} {w:World} (h:Prot g K w) {b:Nat} (hb:w.heap.size≤b):¬ g.pr b:=fun h1=>by have:=(h.same b h1).1;omega
theorem Away.fresh {pr:Nat→Prop} {ρ:Nat→Value} {H:HEnv} {i:Nat} {e:HE} {r:Value} (h:Away pr ρ H) (hr:∀ b,yj r=some b→¬ pr b):Away pr (fun j=>if j=i then r else ρ j) ((i,e)::H):=by
 intro j x b hj hl hb;rw [HEnv.get_cons] at hj;split at hj
 ·rename_i e1;subst e1;simp only [if_true] at hb;exact hr b hb
 ·rename_i e1;simp only [Ne.symm e1,if_false] at hb;exact h j x b hj hl hb
theorem Away.set {pr:Nat→Prop} {ρ:Nat→Value} {H:HEnv} {i:Nat} {e e0:HE} (h:Away pr ρ H) (hi:H.get i=some e0) (hl0:e0.live=true):Away pr ρ ((i,e)::H):=by
 intro j x b hj hl hb;rw [HEnv.get_cons] at hj;split at hj
 ·rename_i e1;subst e1;exact h i e0 b hi hl0 hb
 ·exact h j x b hj hl hb
theorem Away.none (ρ:Nat→Value) (H:HEnv):Away (fun _=>False) ρ H:=fun _ _ _ _ _ _ h=>h
theorem Prot.base {w:World} {K:KK} {w1:World} {ds:List Deferred}:Prot (Base.of w K w1 ds) K w:=⟨fun _ h=>h.elim,fun _ _ _=>rfl⟩
abbrev Env:=List (Nat × AV)
def Env.get:Env→Nat→Option AV
 | [],_=>none
 | (t',v)::e,t=>match Nat.beq t' t with|true=>some v|false=>Env.get e t
theorem Env.get_nil (t:Nat):Env.get [] t=none:=rfl
theorem Env.get_cons (t':Nat) (v:AV) (e:Env) (t:Nat):Env.get ((t',v)::e) t=if t'=t then some v else Env.get e t:=by
 rw [Env.get];cases h:Nat.beq t' t
 ·rw [if_neg (Nat.ne_of_beq_eq_false h)]
 ·rw [if_pos (Nat.eq_of_beq_eq_true h)]
def EnvR (K:KK) (w:World) (ρ:Nat→Value) (H:HEnv) (env:Env) (tmps:Array Value):Prop :=
 ∀ t av,env.get t=some av→∃ v,tmps[t]?=some v∧ARel K w ρ H av v
structure Inv (n:Nat) (g:Base) (env:Env) (H:HEnv) (a:Act) (w:World):Prop where
 size:a.tmps.size=n
 defers:a.defers=g.ds
 st:∃ K ρ,FS g K ρ H w∧EnvR K w ρ H env a.tmps
abbrev QC:=Exit→Env→HEnv→Prop
structure AW (P:Program) (n:Nat) (g:Base) (c:Code) (env:Env) (H:HEnv) (Q:QC):Prop where
 go:∀ a w,Inv n g env H a w→∀ (r:Option Nat) (d:Nat),c.wpIn (zaz r) d P (fun e a' w'=>∃ env' H',Inv n g env' H' a' w'∧Q e env' H') a w
structure AO (P:Program) (n:Nat) (g:Base) (ops:Array Oper) (l:List Oper) (env:Env) (H:HEnv) (Q:Env→HEnv→Prop):Prop where
 go:∀ a w,Inv n g env H a w→wpList P ops (fun e a' w'=>∃ env' H',Inv n g env' H' a' w'∧e=.normal∧Q env' H') l a w
structure Evo (K K':KK) (w w':World):Prop where
 below:Below w.heap.size w w'
 sub:∀ b o,K b o→K' b o
 new:∀ b o,K' b o→K b o∨w.heap.size≤b
 lt:∀ b o,K' b o→b < w'.heap.size
def Vy (P:Program) (f:FuncId):Prop:=∃ fn,P.funcs[f]?=some fn∧fn.body.isNone=false∧(fn.name == "runtime.NumGoroutine")=false
structure ACall (P:Program) (f:FuncId) (args:List PV) (r:PV):Prop where
 stands:Vy P f
 calls:∀ (K:KK) (w:World) (vs:List Value),(∀ b o,K b o→b < w.heap.size)→PRels K w args vs →
  Calls P f vs.toArray w fun e w'=>∃ v K',e=.returned v∧Evo K K' w w'∧PRel K' w' r v
theorem zws {G:Prop} (hq:G:=by kernel_rfl):G:=hq
theorem zwy62 {G:Prop} (hq:G:=by omega):G:=hq
theorem zwy63 {G:Prop} (hq:G:=by simp):G:=hq
theorem zwy64 {G:Prop} (hq:G:=by simp;omega):G:=hq
theorem zwy65 {G:Prop} (hq:G:=by first|rfl|(simp only [hd,h4];rfl)|(simp only [h4];rfl)|(simp only [hd];rfl)):G:=hq
theorem zwy66 {G:Prop} (hq:G:=by first|rfl|assumption|simp [hC1]):G:=hq
theorem zwy67 {G:Prop} (hq:G:=by decide):G:=hq
theorem zwy68 {G:Prop} (hq:G:=by repeat (first|exact zA|refine aB ?_)):G:=hq
theorem zwy69 {G:Prop} (hq:G:=by rw [hop];simp [Op.operands]):G:=hq
theorem zwy70 {G:Prop} (hq:G:=by rw [hop];simp [Op.operands,Call.operands]):G:=hq
theorem zwy71 {G:Prop} (hq:G:=by repeat (first|exact qh|refine yU rfl ?_|(refine ZF rfl ?_ ?_;· simp))):G:=hq
theorem zwy72 {G:Prop} (hq:G:=by rw [hop];simp [Op.operands,Call.operands];exact .inr (by simpa using hx)):G:=hq
theorem zwy73 {G:Prop} (hq:G:=by first|rfl|assumption|simp [hC1,hC2,hC3]):G:=hq
theorem zwy74 {G:Prop} (hq:G:=by simp [Op.operands]):G:=hq
theorem zwy75 {G:Prop} (hq:G:=by simp only [List.length_append,List.length_take,List.length_replicate,List.length_drop,Int.toNat_natCast];omega):G:=hq
theorem zwy76 {G:Prop} (hq:G:=by first|rfl|assumption|simp [hC1,hC2,hC3,hC10,hC11,hC12]):G:=hq
theorem zwy77 {G:Prop} (hq:G:=by first|rfl|assumption|simp [hC1,hC5]):G:=hq
theorem zwy78 {G:Prop} (hq:G:=by simp [bounds]):G:=hq
theorem zwy79 {G:Prop} (hq:G:=by simpa using hl):G:=hq
theorem zwy80 {G:Prop} (hq:G:=by rw [List.length_map];omega):G:=hq
theorem zwy81 {G:Prop} (hq:G:=by show _ * 8≤_;simp;omega):G:=hq
theorem zwy82 {G:Prop} (hq:G:=by show _ * 1≤_;simp [List.replicate]):G:=hq
theorem zwy83 {G:Prop} (hq:G:=by simpa using hlt):G:=hq
theorem zwy84 {G:Prop} (hq:G:=by simp [List.replicate]):G:=hq
theorem zwy85 {G:Prop} (hq:G:=by rw [hfold];simp only [Nat.add_zero,Array.length_toList,hsz];exact ((hc.take off).append hcr).append (hc.drop _)):G:=hq
theorem zwy86 {G:Prop} (hq:G:=by simpa using ho):G:=hq
theorem zwy87 {G:Prop} (hq:G:=by simp [HEnv.get_nil,HEnv.get_cons]):G:=hq
theorem zwy88 {G:Prop} (hq:G:=by simp [h]):G:=hq
theorem zwy89 {G:Prop} (hq:G:=by first|rfl|assumption|simp [hC3]):G:=hq
theorem zwy90 {G:Prop} (hq:G:=by simp [maxLen];omega):G:=hq
theorem zwy91 {G:Prop} (hq:G:=by rw [←hfs'];exact List.mem_map.2 ⟨f,hf,rfl⟩):G:=hq
theorem zwy92 {G:Prop} (hq:G:=by first|rfl|assumption|simp [hC1,hC2,hC3,hC10,hC11,hC12,hC17,hC18]):G:=hq
theorem zwy93 {G:Prop} (hq:G:=by first|rfl|assumption|simp [hC3,hC4]):G:=hq
theorem zwy94 {G:Prop} (hq:G:=by simp [HEnv.get_cons]):G:=hq
theorem zwy95 {G:Prop} (hq:G:=by first|rfl|assumption|simp [hC1,hC2]):G:=hq
theorem zwy96 {G:Prop} (hq:G:=by rcases hop with hop|hop <;> (rw [hop];simp [Op.operands])):G:=hq
theorem zwy97 {G:Prop} (hq:G:=by simpa using h):G:=hq
theorem zwy98 {G:Prop} (hq:G:=by repeat (first|exact qh|refine yU rfl ?_|(refine ZF rfl ?_ ?_;· first|exact hX|rfl))):G:=hq
theorem zwy99 {G:Prop} (hq:G:=by simpa using h1):G:=hq
theorem zwy100 {G:Prop} (hq:G:=by simpa using hj):G:=hq
theorem zwy101 {G:Prop} (hq:G:=by simp [Act.eval,Act.put]):G:=hq
theorem zwy102 {G:Prop} (hq:G:=by have:=hru.1;simpa using this):G:=hq
theorem zwy103 {G:Prop} (hq:G:=by rw [HEnv.get_cons,if_neg (Ne.symm hne)];exact hb):G:=hq
theorem zwy104 {G:Prop} (hq:G:=by simp [Value.oneCell']):G:=hq
theorem zwy105 {G:Prop} (hq:G:=by show _ * 32≤_;simp;omega):G:=hq
theorem zwy106 {G:Prop} (hq:G:=by rw [e1,hy1];exact hr):G:=hq
theorem zwy107 {G:Prop} (hq:G:=by simp at hp;omega):G:=hq
theorem zwy108 {G:Prop} (hq:G:=by rw [q4];exact hz):G:=hq
theorem zwy109 {G:Prop} (hq:G:=by rw [hr];rfl):G:=hq
theorem zwy110 {G:Prop} (hq:G:=by unfold maxLen;omega):G:=hq
theorem zwy111 {G:Prop} (hq:G:=by simp [bounds,h]):G:=hq
theorem zwy112 {G:Prop} (hq:G:=by simp [yj]):G:=hq
theorem zwy113 {G:Prop} (hq:G:=by simp [hy]):G:=hq
theorem zwy114 {G:Prop} (hq:G:=by rw [hρ];rfl):G:=hq
theorem zwy115 {G:Prop} (hq:G:=by simpa using hi):G:=hq
theorem zwy116 {G:Prop} (hq:G:=by simpa using he):G:=hq
theorem zwy117 {G:Prop} (hq:G:=by simpa using hc):G:=hq
theorem zwy118 {G:Prop} (hq:G:=by first|rfl|assumption|simp [hC3,hC4,hC5]):G:=hq
theorem zwy119 {G:Prop} (hq:G:=by rw [hns];exact n1):G:=hq
theorem zwy120 {G:Prop} (hq:G:=by simp [maxLen]):G:=hq
theorem zwy121 {G:Prop} (hq:G:=by simpa using hN2):G:=hq
inductive TK where
 | agg (fs:List (Nat × Nat × Nat)) (eqok:Bool)
 | arr (len elem:Nat)
 | sl (e:Nat)
 | int (k:IntKind)
 | bool
 | str
 | ptr (e:Nat)
 | map (k e:Nat)
 | scalar
 | oth
 deriving Inhabited
structure TI where
 size:Nat
 bytes:Nat
 zero:Option Value
 k:TK
 deriving Inhabited
def zjA (P:Program) (t:TypeId):Option TypeDesc→TK
 | some (.struct fs)=>.agg (fs.toList.map fun f=>(f.offset,f.type,P.cellsOf f.type)) (!P.stoodInHeld t&&!P.eqGuardType P.depth t&&fs.toList.all fun f=>f.name != "_")
 | some (.array n e)=>.arr n e
 | some (.slice e)=>.sl e
 | some (.int k)=>.int k
 | some .bool=>.bool
 | some .string=>.str
 | some (.pointer e)=>.ptr e
 | some (.map k e)=>.map k e
 | some _=>.scalar
 | none=>.oth
def zwJ (P:Program) (t:TypeId):Option TI :=
 (P.info? t).map fun i=>⟨i.size,i.bytes,i.zero,zjA P t (P.underlying t)⟩
inductive Tab where
 | leaf
 | node (k:Nat) (ti:TI) (l r:Tab)
 deriving Inhabited
def Tab.get:Tab→Nat→Option TI
 | .leaf,_=>none
 | .node k ti l r,t=>match Nat.beq k t with
  | true=>some ti
  | false=>match Nat.blt t k with|true=>l.get t|false=>r.get t
def Tab.list:Tab→List (Nat × TI)
 | .leaf=>[]
 | .node k ti l r=>l.list++(k,ti)::r.list
def yR (P:Program) (tb:Tab):Prop:=∀ (t:Nat) (ti:TI),tb.get t=some ti→zwJ P t=some ti
theorem Tab.mem_list {t:Nat} {ti:TI}:∀ {tb:Tab},tb.get t=some ti→(t,ti)∈tb.list
 | .leaf,h=>by simp [Tab.get] at h
 | .node k tk l r,h=>by
  simp only [Tab.get] at h;simp only [Tab.list,List.mem_append,List.mem_cons];split at h
  ·rename_i hk;simp only [Option.some.injEq] at h;subst h;have:=Nat.eq_of_beq_eq_true hk;subst this;exact .inr (.inl rfl)
  ·split at h
   ·exact .inl (Tab.mem_list h)
   ·exact .inr (.inr (Tab.mem_list h))
theorem zuR {P:Program} {tb:Tab} (h:tb.list.map (fun x=>zwJ P x.1)=tb.list.map fun x=>some x.2):yR P tb:=by
 intro t ti ht;have hm:=Tab.mem_list ht;obtain ⟨i,hi⟩:=List.getElem?_of_mem hm;have:=congrArg (fun l=>l[i]?) h;simpa [List.getElem?_map,hi] using this
def Tab.k (tb:Tab) (t:Nat):TK:=match tb.get t with|some ti=>ti.k|none=>.oth
def Tab.size (tb:Tab) (t:Nat):Nat:=match tb.get t with|some ti=>ti.size|none=>0
section
variable {P:Program} {tb:Tab} (htb:yR P tb)
include htb
theorem ZJ {t:Nat} {ti:TI} (h:tb.get t=some ti):∃ i,P.info? t=some i∧i.size=ti.size∧i.bytes=ti.bytes∧i.zero=ti.zero∧zjA P t (P.underlying t)=ti.k:=by
 have:=htb t ti h;unfold zwJ at this;cases hi:P.info? t with
 | none=>simp [hi] at this
 | some i =>
  simp [hi] at this;subst this;exact ⟨i,rfl,rfl,rfl,rfl,rfl⟩
omit htb in
theorem zxu {t:Nat} (h:tb.k t≠.oth):∃ ti,tb.get t=some ti∧ti.k=tb.k t:=by
 unfold Tab.k at *;cases ht:tb.get t with
 | none=>simp [ht] at h
 | some ti=>exact ⟨ti,rfl,rfl⟩
theorem VX {t:Nat} {k:TK} (h:tb.k t=k) (hk:k≠.oth):∃ d i,P.underlying t=some d∧P.info? t=some i∧i.size=tb.size t∧zjA P t (some d)=k:=by
 subst h;obtain ⟨ti,h1,h2⟩:=zxu hk;obtain ⟨i,h3,h4,h5,h6,h7⟩:=ZJ htb h1;rw [←h2] at hk ⊢;cases hd:P.underlying t with
 | none=>rw [hd] at h7;exact absurd h7.symm hk
 | some d=>exact ⟨d,i,rfl,h3,by simp [Tab.size,h1,h4],by rw [←h7,hd]⟩
theorem qY {t e:Nat} (h:tb.k t=.sl e):P.underlying t=some (.slice e):=by
 obtain ⟨d,i,h1,_,_,h2⟩:=VX htb h zwy63;cases d <;> simp [zjA] at h2;subst h2;exact h1
theorem Xi {t:Nat} {k:IntKind} (h:tb.k t=.int k):P.underlying t=some (.int k):=by
 obtain ⟨d,i,h1,_,_,h2⟩:=VX htb h zwy63;cases d <;> simp [zjA] at h2;subst h2;exact h1
theorem ziS {t:Nat} (h:tb.k t=.bool):P.underlying t=some .bool:=by
 obtain ⟨d,i,h1,_,_,h2⟩:=VX htb h zwy63;cases d <;> simp [zjA] at h2;exact h1
theorem zk1 {t:Nat} (h:tb.k t=.str):P.underlying t=some .string:=by
 obtain ⟨d,i,h1,_,_,h2⟩:=VX htb h zwy63;cases d <;> simp [zjA] at h2;exact h1
theorem zb0 {t:Nat} {fs:List (Nat × Nat × Nat)} {q:Bool} (h:tb.k t=.agg fs q):∃ F,P.underlying t=some (.struct F)∧F.toList.map (fun f=>(f.offset,f.type,P.cellsOf f.type))=fs ∧
  (!P.stoodInHeld t&&!P.eqGuardType P.depth t&&F.toList.all fun f=>f.name != "_")=q:=by
 obtain ⟨d,i,h1,_,_,h2⟩:=VX htb h zwy63;cases d <;> simp only [zjA,TK.agg.injEq,reduceCtorEq] at h2;exact ⟨_,h1,h2⟩
def TK.isAgg:TK→Bool
 | .agg _ _|.arr _ _=>true
 | _=>false
theorem WB {t:Nat} (h:tb.k t≠.oth) (w:World):(isAgg t).run P w=.ok (tb.k t).isAgg w:=by
 obtain ⟨d,i,h1,_,_,h2⟩:=VX htb rfl h;rw [←h2];cases d <;> simp [isAgg,run_underlying h1,zjA,TK.isAgg]
theorem run_sizeOf {t:Nat} (h:tb.k t≠.oth) (w:World):(sizeOf t).run P w=.ok (tb.size t) w:=by
 obtain ⟨d,i,h1,h2,h3,_⟩:=VX htb rfl h;simp [sizeOf,typeInfo,h2,h3]
theorem zql {t n e:Nat} (h:tb.k t=.arr n e):P.underlying t=some (.array n e):=by
 obtain ⟨d,i,h1,_,_,h2⟩:=VX htb h zwy63;cases d <;> simp [zjA] at h2;obtain ⟨rfl,rfl⟩:=h2;exact h1
end
def Env.val (env:Env):Operand→Option AV
 | .tmp t=>env.get t
 | .const v=>if Zm v then some (.pv (.base v)) else none
 | .func f=>some (.pv (.fn (.func f) [] []))
 | .global g=>some (.pv (.base (.pointer (some ⟨g,0,none⟩))))
def PV.notTup:PV→Bool
 | .tup _=>false
 | _=>true
def AV.cellPV (H:HEnv):AV→Option PV
 | .pv p=>if p.notTup then some p else none
 | .own i=>match H.get i with|some (.row _ sz es)=>some (.slc sz es false)|_=>none
 | _=>none
def VQ (H:HEnv):List AV→Option (List PV)
 | []=>some []
 | c::cs=>match c.cellPV H,VQ H cs with|some p,some ps=>some (p::ps)|_,_=>none
def AV.toPV (H:HEnv):AV→Option PV
 | .agg cs=>match VQ H cs with|some ps=>some (.agg ps)|none=>none
 | .fn f first cap=>match VQ H first,VQ H cap with|some a,some b=>some (.fn f a b)|_,_=>none
 | v=>v.cellPV H
def Env.pv (env:Env) (H:HEnv) (x:Operand):Option PV:=match env.val x with|some v=>v.toPV H|none=>none
section
variable {g:Base} {K:KK} {w:World} {ρ:Nat→Value} {H:HEnv}
theorem zbX (hfs:FS g K ρ H w) {av:AV} {v:Value} {p:PV} (h:ARel K w ρ H av v) (hp:av.cellPV H=some p):PRel K w p v:=by
 cases h with
 | pv q v h=>simp only [AV.cellPV] at hp;split at hp <;> simp at hp;subst hp;exact h
 | own i hv =>
  simp only [AV.cellPV] at hp;cases hh:H.get i with
  | none=>simp [hh] at hp
  | some e =>
   cases e with
   | row t sz es =>
    simp only [hh,Option.some.injEq] at hp;subst hp;obtain ⟨xs,hown,hsz,hcr,hK⟩:=hfs.heap.ok i _ hh;generalize ρ i=v at hown hK ⊢;rcases hown.2 with ⟨rfl,hn⟩|⟨b,cap,cur,rfl,hb,hg,hnc,hcm,hcs,htake⟩
    ·have:es=[]:=List.eq_nil_of_length_eq_zero hn;subst this;exact .nil sz false
    ·refine .slc sz es false b 0 cap (fun i=>(xs.drop (i * sz)).take sz) hsz hnc zwy63 zwy62 hcm ?_ ?_
     ·intro i e he;obtain ⟨h1,h2⟩:=hcr i e he;have hi:i < es.length:=by
       rcases Nat.lt_or_ge i es.length with h'|h'
       ·exact h'
       ·rw [List.getElem?_eq_none h'] at he;cases he
      have hlen:(i + 1) * sz≤es.length * sz:=Nat.mul_le_mul_right _ hi;have hlx:=hown.1;refine ⟨h1,by simp;rw [Nat.add_mul] at hlen;omega,?_⟩;intro k u hu;rw [List.getElem?_take] at hu;split at hu
      ·rename_i hk;rw [List.getElem?_drop] at hu;refine ⟨(hK b rfl _).2 (by rw [Nat.add_mul] at hlen;omega),?_⟩;have:=hown.cells (g:=b) rfl (i * sz + k) u hu;rw [Addr.add_lit] at this;obtain ⟨v',hv',ho,_⟩:=h2 k _ (List.getElem?_eq_getElem (show k < e.cells.length by omega));rw [hv'] at hu;cases hu;exact ⟨by simpa using this,ho⟩
      ·cases hu
     ·intro i e k c u he hc hu;obtain ⟨h1,h2⟩:=hcr i e he;obtain ⟨v',hv',_,hr⟩:=h2 k c hc;rw [List.getElem?_take] at hu;split at hu
      ·rw [List.getElem?_drop,hv'] at hu;cases hu;exact hr
      ·cases hu
   | _=>simp [hh] at hp
 | _=>simp [AV.cellPV] at hp
theorem za4 (hfs:FS g K ρ H w):∀ {cs:List AV} {ps:List PV},VQ H cs=some ps→ps.length=cs.length∧∀ (k:Nat) (c:PV) (a:AV) (v:Value),ps[k]?=some c→cs[k]?=some a→ARel K w ρ H a v→PRel K w c v
 | [],ps,h=>by simp [VQ] at h;subst h;exact ⟨rfl,by simp⟩
 | c::cs,ps,h=>by
  simp only [VQ] at h;split at h
  ·rename_i p ps' h1 h2;simp at h;subst h;obtain ⟨hl,hr⟩:=za4 hfs h2;refine ⟨by simp [hl],fun k c' a v hc ha hv=>?_⟩;cases k with
   | zero=>simp at hc ha;subst hc ha;exact zbX hfs hv h1
   | succ k=>simp at hc ha;exact hr k c' a v hc ha hv
  ·cases h
theorem zc1 (hfs:FS g K ρ H w) {av:AV} {v:Value} {p:PV} (h:ARel K w ρ H av v) (hp:av.toPV H=some p):PRel K w p v:=by
 cases h with
 | agg cs vs hl ho hr =>
  simp only [AV.toPV] at hp;split at hp
  ·rename_i ps hps;simp at hp;subst hp;obtain ⟨h1,h2⟩:=za4 hfs hps;refine .agg ps vs zwy62 ho fun k c v hc hv=>?_
   have hk:k < cs.length:=by
    rcases Nat.lt_or_ge k cs.length with h'|h'
    ·exact h'
    ·rw [List.getElem?_eq_none zwy62] at hc;cases hc
   exact h2 k c _ v hc (List.getElem?_eq_getElem hk) (hr k _ v (List.getElem?_eq_getElem hk) hv)
  ·cases hp
 | fn f first cap vf vc hl1 hl2 hr1 hr2 =>
  simp only [AV.toPV] at hp;split at hp
  ·rename_i pa pb hpa hpb;simp at hp;subst hp;obtain ⟨h1,h2⟩:=za4 hfs hpa;obtain ⟨h3,h4⟩:=za4 hfs hpb;refine .fn f pa pb vf vc zwy62 zwy62 (fun k c v hc hv=>?_) (fun k c v hc hv=>?_)
   ·have hk:k < first.length:=by
     rcases Nat.lt_or_ge k first.length with h'|h'
     ·exact h'
     ·rw [List.getElem?_eq_none zwy62] at hc;cases hc
    exact h2 k c _ v hc (List.getElem?_eq_getElem hk) (hr1 k _ v (List.getElem?_eq_getElem hk) hv)
   ·have hk:k < cap.length:=by
     rcases Nat.lt_or_ge k cap.length with h'|h'
     ·exact h'
     ·rw [List.getElem?_eq_none zwy62] at hc;cases hc
    exact h4 k c _ v hc (List.getElem?_eq_getElem hk) (hr2 k _ v (List.getElem?_eq_getElem hk) hv)
  ·cases hp
 | pv q v h=>exact zbX hfs (.pv q v h) hp
 | own i h=>exact zbX hfs (.own i h) hp
 | box i off b h h'=>simp [AV.toPV,AV.cellPV] at hp
 | ad i off b m c h h'=>simp [AV.toPV,AV.cellPV] at hp
 | any v=>simp [AV.toPV,AV.cellPV] at hp
 | any1 v _ _=>simp [AV.toPV,AV.cellPV] at hp
theorem YP {p:PV} {v:Value} (h:PRel K w p v):PRels K w p.cells v.cells.toList:=by
 cases h with
 | agg cs vs hl ho hr=>exact ⟨by simp [PV.cells,Value.cells,hl],fun k c v hc hv=>hr k c v (by simpa [PV.cells] using hc) (by simpa [Value.cells] using hv)⟩
 | base v h1 =>
  cases v <;> first|(simp [Zm] at h1;done)|(exact .cons (.base _ h1) .nil)
 | nil sz full=>exact .cons (.nil sz full) .nil
 | emp sz full a=>exact .cons (.emp sz full a) .nil
 | slc sz es full b o cap vss h0 h1 h2 h3 h4 h5 h6=>exact .cons (.slc sz es full b o cap vss h0 h1 h2 h3 h4 h5 h6) .nil
 | ptr p off b o vs h1 h2 h3=>exact .cons (.ptr p off b o vs h1 h2 h3) .nil
 | fn f first cap vf vc h1 h2 h3 h4=>exact .cons (.fn f first cap vf vc h1 h2 h3 h4) .nil
 | tup cs vs h1 h2=>exact .cons (.tup cs vs h1 h2) .nil
theorem cells_one {p:PV} {v:Value} (h:PRel K w p v) (hn:p.notTup=true):∀ u∈v.cells.toList,u.oneCell'=true:=by
 cases h with
 | agg cs vs hl ho hr=>simpa [Value.cells] using ho
 | base v h1=>intro u hu;cases v <;> first|(simp [Zm] at h1;done)|(simp [Value.cells] at hu;subst hu;rfl)
 | tup cs vs h1 h2=>simp [PV.notTup] at hn
 | _=>intro u hu;simp [Value.cells] at hu;subst hu;rfl
theorem zjK {av:AV} {p:PV} (hp:av.cellPV H=some p):p.notTup=true:=by
 cases av <;> simp only [AV.cellPV] at hp
 ·split at hp
  ·rename_i h;simp at hp;subst hp;exact h
  ·cases hp
 ·split at hp
  ·simp at hp;subst hp;rfl
  ·cases hp
 all_goals cases hp
theorem zcO {av:AV} {p:PV} (hp:av.toPV H=some p):p.notTup=true:=by
 cases av <;> simp only [AV.toPV] at hp <;> first
  | exact zjK hp
  | (split at hp
     ·simp at hp;subst hp;rfl
     ·cases hp)
end
mutual
def PV.lenOk:PV→Prop
 | .slc _ es _=>es.length≤maxLen∧lensOk es
 | .agg cs=>lensOk cs
 | .base v=>Zm v=true
 | .ptr _ _=>True
 | .fn _ _ _=>True
 | .tup _=>True
def lensOk:List PV→Prop
 | []=>True
 | c::cs=>c.lenOk∧lensOk cs
end
theorem zas:∀ (l:List PV),lensOk l↔∀ p∈l,p.lenOk
 | []=>by simp [lensOk]
 | c::cs=>by simp [lensOk,zas cs]
theorem PRel.lenOk {K:KK} {w:World} {p:PV} {v:Value} (h:PRel K w p v):p.lenOk:=by
 induction h with
 | base v h=>exact h
 | agg cs vs hl ho _ ih =>
  rw [PV.lenOk,zas];intro p hp;obtain ⟨k,hk⟩:=List.getElem?_of_mem hp;have hlt:k < vs.length:=by rw [hl];exact (List.getElem?_eq_some_iff.1 hk).1
  exact ih k p _ hk (List.getElem?_eq_getElem hlt)
 | nil sz full=>simp [PV.lenOk,lensOk,maxLen]
 | emp sz full a=>simp [PV.lenOk,lensOk,maxLen]
 | slc sz es full b o cap vss h0 hc hf hm hm' hr _ ih =>
  rw [PV.lenOk,zas];refine ⟨hm,fun e he=>?_⟩;obtain ⟨i,hi⟩:=List.getElem?_of_mem he;obtain ⟨h1,h2,_⟩:=hr i e hi;have hall:∀ c∈e.cells,c.lenOk:=by
   intro c hc;obtain ⟨k,hk⟩:=List.getElem?_of_mem hc;have hlt:k < (vss i).length:=by rw [h2,←h1];exact (List.getElem?_eq_some_iff.1 hk).1
   exact ih i e k c _ hi hk (List.getElem?_eq_getElem hlt)
  cases e with
  | agg cs=>rw [PV.lenOk,zas];exact hall
  | _=>exact hall _ (by simp [PV.cells])
 | ptr=>exact trivial
 | fn=>exact trivial
 | tup=>exact trivial
theorem PRels.lensOk {K:KK} {w:World} {p:List PV} {v:List Value} (h:PRels K w p v):lensOk p:=by
 rw [zas];intro q hq;obtain ⟨k,hk⟩:=List.getElem?_of_mem hq;have hlt:k < v.length:=by rw [h.1];exact (List.getElem?_eq_some_iff.1 hk).1
 exact (h.2 k q _ hk (List.getElem?_eq_getElem hlt)).lenOk
end Go.Cg
