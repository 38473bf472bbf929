/- A part of the walks by abstract values: no statement of its own. -/
import Derived.Test.YtdbgicaoddibdaaGreatT6
import Derived.Maps.Own
import Derived.Maps.Views
import Derived.RangeFuncFrom
import Derived.RangeFuncLeaves
import Derived.RangeFuncWrites
import Derived.Test.YtdbgicaoddibdaaGreatT5
import Derived.Shelf.Abstract
import Derived.OwnWalkIn
import Derived.TacticsInMore
import Derived.LoopNIn
import Derived.LoopIn
set_option linter.unusedVariables false
set_option linter.unusedSimpArgs false
namespace Go.Cg
open Go.RowKit
structure ACallR (P:Program) (f:FuncId) (args:List PV) (e:TypeId) (sz:Nat) (es:List PV):Prop where
 stands:Vy P f
 calls:∀ (K:KK) (w:World) (vs:List Value),(∀ b o,K b o→b < w.heap.size)→PRels K w args vs →
  Calls P f vs.toArray w fun ex w'=>∃ v K' xs,ex=.returned v∧Evo K K' w w'∧w'.ownsRow w.heap.size e sz v es.length xs∧CellsRel K' w' sz es xs∧(∀ b,v.ownBlock=some b→∀ o,K' b o↔o < es.length * sz)
section
variable {P:Program} {tb:Tab} {n:Nat} {g:Base} {H:HEnv} {env:Env} {ops:List Oper} {o:Oper} {rest:List Oper} {Q:Env→HEnv→Prop}
theorem zjU {w:World} {B B':Nat} {e:TypeId} {sz:Nat} {v:Value} {n:Nat} {xs:List Value} (hB:B'≤B) (h:w.ownsRow B e sz v n xs):w.ownsRow B' e sz v n xs:=by
 obtain ⟨h1,h2⟩:=h;refine ⟨h1,h2.imp id ?_⟩;rintro ⟨g,cap,cur,a,b,c⟩;exact ⟨g,cap,cur,a,Nat.le_trans hB b,c⟩
theorem zcG {xs:Array Operand} {ts:Array TypeId} {f:FuncId} {args es:List PV} {e:TypeId} {sz t:Nat} (i:Nat) (hg:guardE ops env o=some true) (hop:o.op=.call { callee:=.value (.func f),args:=xs,argTypes:=ts }) (hargs:pvs env H xs.toList=some args)
  (hc:ACallR P f args e sz es) (h0:0 < sz) (hi:H.get i=none) (hd:o.dst=some t) (ht:Nat.blt t n=true)
  (h:AO P n g ops.toArray rest ((t,.own i)::env) ((i,.row e sz es)::H) Q):AO P n g ops.toArray (o::rest) env H Q:=by
 refine ⟨fun a w hinv=>?_⟩;have hw:=yT hinv hg;obtain ⟨h1,h2,K,ρ,hf,he⟩:=hinv;refine wpList_step fun KK hKK=>?_
 rw [if_pos hw];have hp:=zc7 hf (a:=a) (xs:=xs.toList) (fun x hx av hxx=>qA he hxx) hargs;have hrun:(execOp a.eval o).run P w=.ok (.enter f (xs.toList.map a.eval).toArray) w:=by
  have e:(xs.toList.map a.eval).toArray=xs.map a.eval:=by rw [←Array.toList_map,Array.toArray_toList]
  rw [e];simp [execOp,hop,resolve,Act.eval,Deferred.ofValue,invoke,Ze hc.stands]
 unfold Oper.wp;rw [hrun];simp only [Oper.upon];refine (hc.calls K w _ hf.lt hp).mono ?_;rintro ex w'' ⟨v,K',us,rfl,hev,hown,hcr,hk⟩;have hlow:=zjU hf.below.size hown;refine hKK _ _ (h.go _ _ ⟨qW h1,put_defers h2,K',fun j=>if j=i then v else ρ j,hf.fresh hev hi ⟨us,by simpa using hlow,h0,hcr,by simpa using hk⟩ ?_,?_⟩)
 ·intro b hb;refine (hown.lt b ?_).1;rcases hown.2 with ⟨rfl,_⟩|⟨g,_,_,rfl,_⟩
  ·simp [yj] at hb
  ·simpa [yj,Value.ownBlock] using hb
 ·rw [hd];refine Zo h1 ht (he.keeps (hev.later hf.lt) (Za hi _ _)) ?_;have:=ARel.own (K:=K') (w:=w'') (ρ:=fun j=>if j=i then v else ρ j) (H:=(i,HE.row e sz es)::H) i zwy87;simpa using this
theorem zj3 (htb:yR P tb) {t e d:Nat} {parts:Array (Nat × Operand)} (i:Nat) (hg:guardE ops env o=some true) (hop:o.op=.buildSlice t 0 parts) (hp:parts=#[]) (hk:tb.k t=.sl e) (hke:tb.known e=true) (hsz:Nat.blt 0 (tb.size e)=true) (hi:H.get i=none) (hd:o.dst=some d) (ht:Nat.blt d n=true)
  (h:AO P n g ops.toArray rest ((d,.own i)::env) ((i,.row e (tb.size e) [])::H) Q):AO P n g ops.toArray (o::rest) env H Q:=by
 refine ⟨fun a w hinv=>?_⟩;have hw:=yT hinv hg;obtain ⟨h1,h2,K,ρ,hf,he⟩:=hinv;refine wpList_step fun KK hKK=>?_
 rw [if_pos hw];subst hp;have hko:tb.k e≠.oth:=by intro h;simp [Tab.known,h] at hke
 have hs:=run_sizeOf htb hko w;have hrun:(execOp a.eval o).run P w=.ok (.value (.slice (some ⟨w.heap.size,0,none⟩) 0 0)) (w.alloc (.cells #[] e)):=by
  have e0:Array.range 0=#[]:=Array.eq_empty_of_size_eq_zero zwy63;simp [execOp,hop,Instr.buildSlice,run_underlying (qY htb hk),hs,Instr.fill,newRow,e0]
 unfold Oper.wp;rw [hrun];simp only [Oper.upon];have hev:Evo K K w (w.alloc (.cells #[] e)):=⟨(Below.refl _ _).alloc (Nat.le_refl _) _,fun _ _ h=>h,fun _ _ h=>.inl h,fun b o h=>by have:=hf.lt b o h;simp;omega⟩
 refine hKK _ _ (h.go _ _ ⟨qW h1,put_defers h2,K,fun j=>if j=i then .slice (some ⟨w.heap.size,0,none⟩) 0 0 else ρ j,hf.fresh hev hi ⟨[],⟨by simp,.inr ⟨w.heap.size,0,#[],by simp,hf.below.size,heap_alloc_new w _,Nat.le_refl _,by simp [maxLen],by simp,by simp⟩⟩,Nat.le_of_ble_eq_true hsz,fun i e h=>by simp at h,?_⟩ zwy112,?_⟩)
 ·intro b hb o;simp [Value.ownBlock] at hb;subst hb;refine ⟨fun h=>?_,fun h=>by simp at h⟩;have:=hf.lt _ _ h;omega
 ·rw [hd];refine Zo h1 ht (he.keeps (hev.later hf.lt) (Za hi _ _)) ?_;have:=ARel.own (K:=K) (w:=w.alloc (.cells #[] e)) (ρ:=fun j=>if j=i then .slice (some ⟨w.heap.size,0,none⟩) 0 0 else ρ j) (H:=(i,HE.row e (tb.size e) [])::H) i zwy87;simpa using this
def zxL (t:Nat) (e:TypeId) (sz:Nat) (es:List PV):QC:=fun ex env H=>(ex=.normal∨ex=.ret)∧∃ i,env.get t=some (.own i)∧H.get i=some (.row e sz es)
theorem zeP {fn:Func} {c:Code} {f:FuncId} {args:List PV} {t:Nat} {e:TypeId} {sz:Nat} {es:List PV} (hf:P.funcs[f]?=some fn) (hb:fn.body=some c) (hn:(fn.name == "runtime.NumGoroutine")=false) (hnt:fn.ntmps=n) (hargs:args.length≤n)
  (hrs:fn.results.toList=[.tmp t]) (h:lensOk args→∀ g:Base,Plain g→AW P n g c (zeW 0 args) [] (zxL t e sz es)):ACallR P f args e sz es:=by
 refine ⟨⟨fn,hf,by simp [hb],hn⟩,fun K w vs hl hv=>?_⟩;refine calls_of_wp hf hb ?_;have hlen:vs.length=args.length:=hv.1;refine wp_mono (wpIn_wide.1 ((h hv.lensOk (Base.of w K (bare w) []) ⟨rfl,hl⟩).go _ w ⟨by simp [hnt];omega,rfl,K,fun _=>undef,⟨.refl _ _,fun _ _ h=>h,fun _ _ h=>.inl h,hl,YX _ _,.base,.none _ _,⟨by simp [HEnv.get_nil,HEnv.get_cons],by simp [HEnv.get_nil,HEnv.get_cons]⟩⟩,?_⟩ none 0)) ?_
 ·intro t av hg;obtain ⟨_,p,hp,rfl⟩:=zaf args 0 t av hg;have hlt:t < vs.length:=by rw [hlen];exact (List.getElem?_eq_some_iff.1 hp).1
  refine ⟨vs[t],?_,.pv _ _ (hv.2 t p _ hp (List.getElem?_eq_getElem hlt))⟩;rw [Array.getElem?_append_left zwy83];simp [hlt]
 ·rintro ex a' w' ⟨env1,H',hi,he,i,hgi,hHi⟩;obtain ⟨_,h2,K',ρ',hf',he0⟩:=hi;obtain ⟨v,v1,v2⟩:=he0 t _ hgi;cases v2;obtain ⟨xs,hown,hsz,hcr,hk⟩:=hf'.heap.ok i _ hHi;have hev:Evo K K' w w':=⟨hf'.below,hf'.old,hf'.new,hf'.lt⟩
  have hres:(results fn a'.tmps).run P w'=.ok (ρ' i) w':=by
   unfold results;rw [Array.mapM_eq_mapM_toList,hrs];simp [Array.getD_eq_getD_getElem?,v1]
  rcases he with rfl|rfl
  ·exact ⟨h2,_,hres,_,K',xs,rfl,hev,hown,hcr,hk⟩
  ·exact ⟨h2,_,hres,_,K',xs,rfl,hev,hown,hcr,hk⟩
end
end Go.Cg
namespace Go.Cg
open Go.RowKit Go.Maps Go.WideElems
def yQ (us:Nat→Value):Nat→Env→HEnv
 | _,[]=>[]
 | b,(t,av)::e=>(b,.pin av (us t))::yQ us (b + 1) e
def zhW:Env→Bool
 | []=>true
 | (t,_)::e=>(Env.get e t).isNone&&zhW e
def zcK (b:Nat):HEnv→Bool
 | []=>true
 | (i,_)::e=>Nat.blt i b&&zcK b e
theorem get_append {H G:HEnv} {i:Nat}:HEnv.get (H++G) i=match HEnv.get H i with|some h=>some h|none=>HEnv.get G i:=by
 induction H with
 | nil=>rfl
 | cons x H ih =>
  obtain ⟨j,h⟩:=x;rw [List.cons_append,HEnv.get_cons,HEnv.get_cons];split
  ·rfl
  ·exact ih
theorem zbE {b:Nat}:∀ {H:HEnv},zcK b H=true→∀ i h,H.get i=some h→i < b
 | [],_,i,h,hg=>by simp [HEnv.get_nil] at hg
 | (j,x)::e,hi,i,h,hg=>by
  simp only [zcK,Bool.and_eq_true] at hi;rw [HEnv.get_cons] at hg;split at hg
  ·rename_i e';subst e';exact Nat.le_of_ble_eq_true hi.1
  ·exact zbE hi.2 i h hg
theorem QJ {us:Nat→Value}:∀ {e:Env} {b i:Nat} {h:HE},HEnv.get (yQ us b e) i=some h→b≤i∧∃ t av,(t,av)∈e∧h=.pin av (us t)
 | [],b,i,h,hg=>by simp [yQ,HEnv.get_nil] at hg
 | (t,av)::e,b,i,h,hg=>by
  rw [yQ,HEnv.get_cons] at hg;split at hg
  ·rename_i e';subst e';simp only [Option.some.injEq] at hg;subst hg;exact ⟨Nat.le_refl _,t,av,by simp,rfl⟩
  ·obtain ⟨h1,t',av',h2,h3⟩:=QJ hg;exact ⟨by omega,t',av',by simp [h2],h3⟩
theorem ze3 {us:Nat→Value}:∀ {e:Env} {b:Nat} {t:Nat} {av:AV},(t,av)∈e→∃ i,b≤i∧HEnv.get (yQ us b e) i=some (.pin av (us t))
 | [],b,t,av,h=>by simp at h
 | (t',av')::e,b,t,av,h=>by
  simp only [List.mem_cons,Prod.mk.injEq] at h;rcases h with ⟨rfl,rfl⟩|h
  ·exact ⟨b,Nat.le_refl _,by rw [yQ,HEnv.get_cons,if_pos rfl]⟩
  ·obtain ⟨i,h1,h2⟩:=ze3 (b:=b + 1) h;exact ⟨i,by omega,by rw [yQ,HEnv.get_cons,if_neg zwy62];exact h2⟩
theorem zbQ:∀ {e:Env} {t:Nat} {av:AV},e.get t=some av→(t,av)∈e
 | [],t,av,h=>by simp [Env.get_nil] at h
 | (t',av')::e,t,av,h=>by
  rw [Env.get_cons] at h;split at h
  ·rename_i e';subst e';simp only [Option.some.injEq] at h;subst h;simp
  ·simp [zbQ h]
theorem zcd:∀ {e:Env},zhW e=true→∀ {t:Nat} {av:AV},(t,av)∈e→e.get t=some av
 | [],_,t,av,h=>by simp at h
 | (t',av')::e,hn,t,av,h=>by
  simp only [zhW,Bool.and_eq_true,Option.isNone_iff_eq_none] at hn;rw [Env.get_cons];simp only [List.mem_cons,Prod.mk.injEq] at h;rcases h with ⟨rfl,rfl⟩|h
  ·simp
  ·have:=zcd hn.2 h;split
   ·rename_i e';subst e';rw [hn.1] at this;cases this
   ·exact this
def Yx (K:KK) (w:World) (ρ:Nat→Value) (H:HEnv) (ars:List AV) (vs:List Value):Prop :=
 vs.length=ars.length∧∀ (k:Nat) (c:AV) (v:Value),ars[k]?=some c→vs[k]?=some v→ARel K w ρ H c v
structure ACallH (P:Program) (f:FuncId) (args:List AV) (H H':HEnv):Prop where
 stands:Vy P f
 calls:∀ (g:Base) (K:KK) (ρ:Nat→Value) (w:World) (vs:List Value),Plain g→FS g K ρ H w→Yx K w ρ H args vs →
  Calls P f vs.toArray w fun e w'=>∃ K' ρ',e=.returned (.tuple #[])∧FS g K' ρ' H' w'
def WJ:Nat→List AV→Env
 | _,[]=>[]
 | k,p::ps=>(k,p)::WJ (k + 1) ps
def zxM (H':HEnv):QC:=fun ex _ H=>(ex=.normal∨ex=.ret)∧Yj H H' []
section
variable {P:Program} {tb:Tab} {n:Nat} {g:Base} {K:KK} {w:World} {ρ:Nat→Value} {H H':HEnv} {env:Env} {a:Act} {ops:List Oper} {o:Oper} {rest:List Oper} {Q:Env→HEnv→Prop} {f:FuncId} {args:List AV}
theorem zaH:∀ (ps:List AV) (k t:Nat) (av:AV),(WJ k ps).get t=some av→k≤t∧ps[t - k]?=some av
 | [],k,t,av,h=>by simp [WJ,Env.get_nil] at h
 | p::ps,k,t,av,h=>by
  simp only [WJ,Env.get_cons] at h;split at h
  ·rename_i e;subst e;simp only [Option.some.injEq] at h;exact ⟨Nat.le_refl _,by simp [h]⟩
  ·obtain ⟨h1,h2⟩:=zaH ps (k + 1) t av h;refine ⟨by omega,?_⟩;rw [show t - k=(t - (k + 1)) + 1 by omega];simpa using h2
theorem zl0 {fn:Func} {c:Code} (hf:P.funcs[f]?=some fn) (hb:fn.body=some c) (hn:(fn.name == "runtime.NumGoroutine")=false) (hnt:fn.ntmps=n) (hargs:args.length≤n) (hrs:fn.results=#[])
  (h:∀ g:Base,Plain g→AW P n g c (WJ 0 args) H (zxM H')):ACallH P f args H H':=by
 refine ⟨⟨fn,hf,by simp [hb],hn⟩,fun g0 K ρ w vs hw1 hfs0 hv=>?_⟩;obtain ⟨g,hg0⟩:∃ g:Base,g=⟨g0.w0,g0.K0,g0.w1,[],g0.wp,g0.pr⟩:=⟨_,rfl⟩
 have hfs:FS g K ρ H w:=by subst hg0;exact ⟨hfs0.below,hfs0.old,hfs0.new,hfs0.lt,hfs0.others,⟨hfs0.pt.same,hfs0.pt.kept⟩,hfs0.away,hfs0.heap⟩
 refine calls_of_wp hf hb ?_;have hlen:vs.length=args.length:=hv.1;refine wp_mono (wpIn_wide.1 ((h g (by subst hg0;exact hw1)).go _ w ⟨by simp [hnt];omega,by subst hg0;rfl,K,ρ,hfs,?_⟩ none 0)) ?_
 ·intro t av hg;obtain ⟨_,hp⟩:=zaH args 0 t av hg;have hlt:t < vs.length:=by rw [hlen];exact (List.getElem?_eq_some_iff.1 hp).1
  refine ⟨vs[t],?_,hv.2 t av _ hp (List.getElem?_eq_getElem hlt)⟩;rw [Array.getElem?_append_left zwy83];simp [hlt]
 ·rintro e a' w' ⟨env1,H1,hi,he,hfit⟩;have hi2:Inv n g [] H' a' w':=(hi.sub qh).hsub hfit;obtain ⟨_,h2,K',ρ',hf1,_⟩:=hi2;subst hg0;have hf':FS g0 K' ρ' H' w':=⟨hf1.below,hf1.old,hf1.new,hf1.lt,hf1.others,⟨hf1.pt.same,hf1.pt.kept⟩,hf1.away,hf1.heap⟩
  have hres:(results fn a'.tmps).run P w'=.ok (.tuple #[]) w':=by
   unfold results;rw [hrs,Array.mapM_eq_mapM_toList];rfl
  rcases he with rfl|rfl
  ·exact ⟨h2,_,hres,K',ρ',rfl,hf'⟩
  ·exact ⟨h2,_,hres,K',ρ',rfl,hf'⟩
def avs (env:Env):List Operand→Option (List AV)
 | []=>some []
 | x::xs=>match env.val x,avs env xs with|some v,some vs=>some (v::vs)|_,_=>none
theorem VP (he:EnvR K w ρ H env a.tmps):∀ {xs:List Operand} {ars:List AV},avs env xs=some ars→Yx K w ρ H ars (xs.map a.eval)
 | [],ars,h=>by simp [avs] at h;subst h;exact ⟨rfl,fun k c v h=>by simp at h⟩
 | x::xs,ars,h=>by
  simp only [avs] at h;split at h
  ·rename_i v vs h1 h2;simp only [Option.some.injEq] at h;subst h;obtain ⟨l1,l2⟩:=VP he h2;refine ⟨by simpa using l1,fun k c u hc hu=>?_⟩;cases k with
   | zero=>simp at hc hu;subst hc hu;exact qA he h1
   | succ k=>simp at hc hu;exact l2 k c u hc (by simpa using hu)
  ·cases h
theorem Zn {G:HEnv} (j:Nat) (h:(H.get j).isSome=true):(HEnv.get (H++G) j).isSome=true:=by
 rw [get_append];cases hh:H.get j with
 | none=>simp [hh] at h
 | some x=>rfl
theorem zmc {t d:Tmp} {xs:Array Operand} {ts:Array TypeId} {first cap ars:List AV} (env2:Env) (H':HEnv) (b:Nat) (hw1:Plain g) (hg:guardE ops env o=some true) (hop:o.op=.call { callee:=.value (.tmp t),args:=xs,argTypes:=ts })
  (ht:env.get t=some (.fn (.func f) first cap)) (hargs:avs env xs.toList=some ars) (hs:Sub env env2) (hnd:zhW env2=true) (hb:zcK b H=true) (hb':zcK b H'=true)
  (hfit:(QD H' env2&&hIn H' H')=true) (hd:o.dst=some d) (hdt:Nat.blt d n=true)
  (hc:∀ us,ACallH P f (first++ars++cap) (H++yQ us b env2) (H'++yQ us b env2))
  (h:AO P n g ops.toArray rest ((d,.pv (.tup []))::env2) H' Q):AO P n g ops.toArray (o::rest) env H Q:=by
 refine ⟨fun a w hinv=>?_⟩;have hw:=yT hinv hg;have hinv2:=hinv.sub hs;obtain ⟨h1,h2,K,ρ,hf,he⟩:=hinv;have he2:EnvR K w ρ H env2 a.tmps:=fun t av ht=>he t av (hs t av ht)
 refine wpList_step fun KK hKK=>?_
 rw [if_pos hw];let us:Nat→Value:=fun t=>a.tmps.getD t undef
 have hus:∀ t av,(t,av)∈env2→ARel K w ρ H av (us t):=by
  intro t av hm;obtain ⟨v,v1,v2⟩:=he2 t av (zcd hnd hm);have:us t=v:=by simp [us,Array.getD_eq_getD_getElem?,v1]
  rw [this];exact v2
 have hlat:Later K K w w:=.refl K w;have hk:∀ j,(H.get j).isSome=true→(HEnv.get (H++yQ us b env2) j).isSome=true∧ρ j=ρ j:=fun j hj=>⟨Zn j hj,rfl⟩
 have hfs:FS g K ρ (H++yQ us b env2) w:=by
  have e1:∀ i x,HEnv.get (H++yQ us b env2) i=some x→x.live=true→H.get i=some x:=by
   intro i x hi hl;rw [get_append] at hi;cases hh:H.get i with
   | some z=>rw [hh] at hi;exact hi
   | none =>
    rw [hh] at hi;obtain ⟨_,t,av,hm,rfl⟩:=QJ hi;simp [HE.live] at hl
  refine ⟨hf.below,hf.old,hf.new,hf.lt,hf.others,hf.pt,fun i h bb hi hl=>hf.away i h bb (e1 i h hi hl) hl,?_,?_⟩
  ·intro i e hi;rw [get_append] at hi;cases hh:H.get i with
   | some x=>rw [hh] at hi;simp only [Option.some.injEq] at hi;subst hi;exact (hf.heap.ok i _ hh).keeps (.refl hf.lt) hf.lt hk
   | none =>
    rw [hh] at hi;obtain ⟨_,t,av,hm,rfl⟩:=QJ hi;exact (hus t av hm).keeps hlat hk
  ·intro i j x y bb hij hi hj lx ly bx bby;have e1:∀ i x,HEnv.get (H++yQ us b env2) i=some x→x.live=true→H.get i=some x:=by
    intro i x hi hl;rw [get_append] at hi;cases hh:H.get i with
    | some z=>rw [hh] at hi;exact hi
    | none =>
     rw [hh] at hi;obtain ⟨_,t,av,hm,rfl⟩:=QJ hi;simp [HE.live] at hl
   exact hf.heap.apart i j x y bb hij (e1 i x hi lx) (e1 j y hj ly) lx ly bx bby
 have hfn:=qA he (x:=.tmp t) ht;generalize hfv:a.eval (.tmp t)=fv at hfn;cases hfn with
 | fn _ _ _ vf vc f1 f2 f3 f4 =>
  have hpa:=VP (a:=a) he hargs;have hall:Yx K w ρ (H++yQ us b env2) (first++ars++cap) (vf++xs.toList.map a.eval++vc):=by
   refine ⟨by have:=hpa.1;simp at this;simp [f1,f2,this],fun k c v hc hv=>?_⟩;have:ARel K w ρ H c v:=by
    rw [List.append_assoc,List.getElem?_append] at hc hv;split at hc
    ·rename_i hl;rw [if_pos zwy62] at hv;exact f3 k c v hc hv
    ·rename_i hl;rw [if_neg zwy62] at hv;rw [f1] at hv;rw [List.getElem?_append] at hc hv;have e:(xs.toList.map a.eval).length=ars.length:=hpa.1;split at hc
     ·rename_i hl2;rw [if_pos zwy62] at hv;exact hpa.2 _ c v hc hv
     ·rename_i hl2;rw [if_neg zwy62,e] at hv;exact f4 _ c v hc hv
   exact this.keeps hlat hk
  have hrun:(execOp a.eval o).run P w=.ok (.enter f (vf++xs.toList.map a.eval++vc).toArray) w:=by
   have e:(vf++xs.toList.map a.eval++vc).toArray=vf.toArray++xs.map a.eval++vc.toArray:=by
    rw [show xs.map a.eval=(xs.toList.map a.eval).toArray by rw [←Array.toList_map,Array.toArray_toList]];simp
   rw [e];simp [execOp,hop,resolve,hfv,Deferred.ofValue,invoke,Ze (hc us).stands]
  unfold Oper.wp;rw [hrun];simp only [Oper.upon];refine ((hc us).calls g K ρ w _ hw1 hfs hall).mono fun e w'' ⟨K',ρ',e1,hfs'⟩=>?_
  subst e1;have hinv':Inv n g env2 (H'++yQ us b env2) a w'':=by
   refine ⟨h1,h2,K',ρ',hfs',fun t av ht=>?_⟩;obtain ⟨i,hi1,hi2⟩:=ze3 (us:=us) (b:=b) (zbQ ht);have hno:H'.get i=none:=by
    cases hh:H'.get i with
    | none=>rfl
    | some x=>have:=zbE hb' i x hh;omega
   have hget:HEnv.get (H'++yQ us b env2) i=some (.pin av (us t)):=by rw [get_append,hno];exact hi2
   have hrel:=hfs'.heap.ok i _ hget;obtain ⟨v,v1,_⟩:=he2 t av ht;have:us t=v:=by simp [us,Array.getD_eq_getD_getElem?,v1]
   exact ⟨v,v1,by rw [←this];exact hrel⟩
  have hinv3:Inv n g env2 H' a w'':=hinv'.hsub ⟨fun i x hi=>by rw [get_append,hi],hfit⟩;obtain ⟨q1,q2,K3,ρ3,q3,q4⟩:=hinv3;refine hKK _ _ (h.go _ _ ⟨qW q1,put_defers q2,K3,ρ3,q3,?_⟩);rw [hd];exact Zo q1 hdt q4 (.pv _ _ (.tup [] [] rfl zwy63))
end
end Go.Cg
namespace Go.Cg
open Go.RowKit
def zaZ:HEnv→Bool
 | []=>true
 | (_,.obj _)::_=>false
 | _::e=>zaZ e
theorem zf8:∀ {e:HEnv},zaZ e=true→∀ i h,e.get i=some h→∀ X,h≠.obj X
 | [],_,i,h,hg,_=>by simp [HEnv.get_nil] at hg
 | (j,x)::e,hn,i,h,hg,X=>by
  have hn':zaZ e=true∧∀ X,x≠.obj X:=by
   cases x <;> simp_all [zaZ]
  rw [HEnv.get_cons] at hg;split at hg
  ·simp only [Option.some.injEq] at hg;subst hg;exact hn'.2 X
  ·exact zf8 hn'.1 i h hg X
section
variable {P:Program} {tb:Tab} {n:Nat} {g:Base} {K:KK} {w w':World} {ρ:Nat→Value} {H H':HEnv} {env:Env} {a:Act}
structure NC (B:Nat) (w w':World):Prop where
 row:∃ row,w.grownBy w' row∧∀ r,row=some r→B≤r∧∃ o:Obj,w.heap[r]?=some o∧o.isCells=false
theorem NC.cell {B:Nat} (h:NC B w w') {x:Addr} {v:Value} (hc:w.cell? x=some v):w'.cell? x=some v:=by
 obtain ⟨row,hg,hr⟩:=h.row;exact cell_kept hc hg fun r e=>(hr r e).2
theorem PRel.keepc (h:∀ (x:Addr) (v:Value),w.cell? x=some v→w'.cell? x=some v) {p:PV} {v:Value} (hp:PRel K w p v):PRel K w' p v:=by
 have hrow:∀ {b o:Nat} {vs:List Value},Rows K w b o vs→Rows K w' b o vs:=fun hr k v hv=>⟨(hr k v hv).1,h _ _ (hr k v hv).2.1,(hr k v hv).2.2⟩
 induction hp with
 | base v h1=>exact .base v h1
 | agg cs vs hl h1 _ ih=>exact .agg cs vs hl h1 ih
 | nil sz full=>exact .nil sz full
 | emp sz full a=>exact .emp sz full a
 | slc sz es full b o cap vss h0 hc hf hm hm' hr _ ih=>exact .slc sz es full b o cap vss h0 hc hf hm hm' (fun i e he=>⟨(hr i e he).1,(hr i e he).2.1,hrow (hr i e he).2.2⟩) ih
 | ptr p off b o vs hl hr _ ih=>exact .ptr p off b o vs hl (hrow hr) ih
 | fn f first cap vf vc h1 h2 _ _ ih1 ih2=>exact .fn f first cap vf vc h1 h2 ih1 ih2
 | tup cs vs hl _ ih=>exact .tup cs vs hl ih
theorem PRels.keepc (h:∀ (x:Addr) (v:Value),w.cell? x=some v→w'.cell? x=some v) {ps:List PV} {vs:List Value} (hp:PRels K w ps vs):PRels K w' ps vs :=
 ⟨hp.1,fun k c v hc hv=>(hp.2 k c v hc hv).keepc h⟩
theorem PRel.nc {B:Nat} (h:NC B w w') {p:PV} {v:Value} (hp:PRel K w p v):PRel K w' p v:=hp.keepc fun _ _ hc=>h.cell hc
theorem PRels.nc {B:Nat} (h:NC B w w') {ps:List PV} {vs:List Value} (hp:PRels K w ps vs):PRels K w' ps vs:=hp.keepc fun _ _ hc=>h.cell hc
theorem ARel.nc {B:Nat} (h:NC B w w') {av:AV} {v:Value} (ha:ARel K w ρ H av v):ARel K w' ρ H av v:=by
 induction ha with
 | pv p v hp=>exact .pv p v (hp.nc h)
 | own i hv=>exact .own i hv
 | box i off b hi hb=>exact .box i off b hi hb
 | ad i off b m c hi hb=>exact .ad i off b m c hi hb
 | agg cs vs hl h1 _ ih=>exact .agg cs vs hl h1 ih
 | fn f first cap vf vc h1 h2 _ _ ih1 ih2=>exact .fn f first cap vf vc h1 h2 ih1 ih2
 | any v=>exact .any v
 | any1 v h1 h2=>exact .any1 v h1 h2
theorem NC.block {B:Nat} (h:NC B w w') {b:Nat} {arr:Array Value} {t:TypeId} {x:Nat × Nat} (hb:w.heap[b]?=some (.cells arr t x)):w'.heap[b]?=some (.cells arr t x):=by
 obtain ⟨row,hg,hr⟩:=h.row;have hlt:=(Array.getElem?_eq_some_iff.1 hb).1;rw [hg.block b hlt (fun e=>by
  obtain ⟨_,o,ho,hc⟩:=hr b e.symm;rw [hb] at ho;cases ho;simp [Obj.isCells] at hc)]
 exact hb
theorem HOk.nc {B B0:Nat} (h:NC B0 w w') {e:HE} {r:Value} (hX:∀ X,e≠.obj X) (ho:HOk K w B ρ H e r):HOk K w' B ρ H e r:=by
 cases e with
 | cell v =>
  obtain ⟨b,t,arr,u,rfl,hB,hb,hu,ha,hn⟩:=ho;exact ⟨b,t,arr,u,rfl,hB,h.block hb,hu.nc h,ha,hn⟩
 | row t sz es =>
  obtain ⟨xs,hown,h0,hc,hk⟩:=ho;obtain ⟨row,hg,hr⟩:=h.row;refine ⟨xs,hown.kept hg ?_,h0,fun i e he=>⟨(hc i e he).1,fun k c hkc=>?_⟩,hk⟩
  ·rcases hown.2 with ⟨e,_⟩|⟨b,cap,cur,e,_,hb,_⟩
   ·left;rw [e];rfl
   ·right;rw [e];intro e2;obtain ⟨_,o,ho,hcc⟩:=hr b e2.symm;rw [hb] at ho;cases ho;simp [Obj.isCells] at hcc
  ·obtain ⟨v,v1,v2,v3⟩:=(hc i e he).2 k c hkc;exact ⟨v,v1,v2,v3.nc h⟩
 | mrow t sz es =>
  obtain ⟨xs,hown,h0,hc,hk⟩:=ho;obtain ⟨row,hg,hr⟩:=h.row;refine ⟨xs,hown.kept hg ?_,h0,fun i e he=>⟨(hc i e he).1,fun k c hkc=>?_⟩,hk⟩
  ·rcases hown.2 with ⟨e,_⟩|⟨b,cap,cur,e,_,hb,_⟩
   ·left;rw [e];rfl
   ·right;rw [e];intro e2;obtain ⟨_,o,ho,hcc⟩:=hr b e2.symm;rw [hb] at ho;cases ho;simp [Obj.isCells] at hcc
  ·obtain ⟨v,v1,v2,v3⟩:=(hc i e he).2 k c hkc;exact ⟨v,v1,v2,v3.nc h⟩
 | dead=>trivial
 | pin v u=>exact ARel.nc h ho
 | obj X=>exact (hX X rfl).elim
structure Bare (g:Base):Prop where
 ds:g.ds=[]
 pr:∀ b,¬ g.pr b
 k0:∀ b o,g.K0 b o→b < g.w0.heap.size
theorem FS.nc (hf:FS g K ρ H w) (hpr:∀ b,¬ g.pr b) (hk0:∀ b o,g.K0 b o→b < g.w0.heap.size) (hw1:g.w1.heap.size=0) (hno:zaZ H=true) (h:NC g.w0.heap.size w w'):FS g K ρ H w':=by
 obtain ⟨row,hg,hr⟩:=h.row;have hpt:Prot g K w':=⟨fun b hb=>(hpr b hb).elim,fun b o h0=>by
  rw [←hf.pt.kept b o h0];refine World.cell?_of_block (hg.block b (hf.lt b o (hf.old b o h0)) fun e=>?_);have h1:=(hr b e.symm).1;have h2:=hk0 b o h0;omega⟩
 refine ⟨hf.below.grown hg hf.below.size (fun k e=>(hr k e).1),hf.old,hf.new,fun b o hk=>Nat.lt_of_lt_of_le (hf.lt b o hk) hg.size,⟨by rw [hw1];omega,fun k o hk=>by have:=(Array.getElem?_eq_some_iff.1 hk).1;omega⟩,hpt,hf.away,?_,hf.heap.apart⟩;intro i e hi;exact (hf.heap.ok i e hi).nc h (zf8 hno i e hi)
structure AIter (P:Program) (f:FuncId) (cap:List PV) {α:Type} (encs:α→Array Value) (all:List α):Prop where
 stands:Vy P f
 stops:∀ (K:KK) (w:World) (vc:List Value) (n:Nat),PRels K w cap vc→SeqStopsK Fence.wide n P f vc.toArray encs (fun A B=>(∃ K,PRels K A cap vc)→∃ K,PRels K B cap vc) (fun xs=>xs=all) (fun _=>True) all.length w
def mark (D:Nat):Deferred:={ target:=.collected D,args:=#[] }
structure AW2 (P:Program) (n:Nat) (g:Base) (c:Code) (env:Env) (H:HEnv) (Q:QC):Prop where
 go:∀ a w,Inv n g env H a w→∀ d,2≤d→c.wpIn Fence.wide d P (fun e a' w'=>∃ (g2:Base) (D:Nat),g2.w0=g.w0∧g2.K0=g.K0∧g2.ds=[mark D]∧g.w0.heap.size≤D∧g2.w1.heap[D]?=some (.deferred (some [])) ∧
  ∃ env' H',Inv n g2 env' H' a' w'∧Q e env' H') a w
variable {x y c:Code} {QQ:QC} {ops:List Oper}
def zf2 (next:Env→HEnv→Prop):QC
 | .normal,env,H=>next env H
 | _,_,_=>False
theorem yZ (h:AW P n g x env H (zf2 fun env' H'=>AW2 P n g y env' H' QQ)):AW2 P n g (.seq x y) env H QQ :=
 ⟨fun a w hi d hd=>wpIn_seq (wpIn_mono (h.go a w hi none d) fun e a' w' ⟨env',H',h1,h2⟩=>by
  cases e <;> first
   | exact h2.go a' w' h1 d hd
   | exact h2.elim)⟩
theorem zfb (h:AW2 P n g x env H (zf2 fun env' H'=>∀ g2:Base,AW P n g2 y env' H' QQ)):AW2 P n g (.seq x y) env H QQ :=
 ⟨fun a w hi d hd=>wpIn_seq (wpIn_mono (h.go a w hi d hd) fun e a' w' ⟨g2,D,q1,q2,q3,q4,q5,env',H',h1,h2⟩=>by
  cases e <;> first
   | exact wpIn_mono ((h2 g2).go a' w' h1 none d) (fun e a2 w2 ⟨env2,H2,k1,k2⟩=>⟨g2,D,q1,q2,q3,q4,q5,env2,H2,k1,k2⟩)
   | exact h2.elim)⟩
theorem zc9 {id:Nat} (h:AW2 P n g c env H (zf2 fun env' H'=>QQ .normal env' H')):AW2 P n g (.block id c) env H QQ :=
 ⟨fun a w hi d hd=>wpIn_block (wpIn_mono (h.go a w hi d hd) fun e a' w' ⟨g2,D,q1,q2,q3,q4,q5,env',H',h1,h2⟩=>by
  cases e <;> first
   | exact ⟨g2,D,q1,q2,q3,q4,q5,env',H',h1,h2⟩
   | exact h2.elim)⟩
theorem zaa (htb:yR P tb) {f:FuncId} {args:List PV} {r:PV} {fn:Func} (hf:P.funcs[f]?=some fn) (hb:fn.body=some c) (hn:(fn.name == "runtime.NumGoroutine")=false) (hnt:fn.ntmps=n) (hargs:args.length≤n)
  (rs:List ResultVar) (hrs:fn.results.toList=rs) (h:lensOk args→∀ g:Base,g.w1.heap.size=0→Bare g→AW2 P n g c (zeW 0 args) [] (fun e env H=>zaZ H=true∧zrl tb rs r e env H)):ACall P f args r:=by
 refine ⟨⟨fn,hf,by simp [hb],hn⟩,fun K w vs hl hv=>?_⟩;refine callsIn_wide.1 (callsIn_of_wp_marks (F:=Fence.wide) (n:=2) hf hb trivial ?_);have hlen:vs.length=args.length:=hv.1;refine wpIn_mono ((h hv.lensOk (Base.of w K (bare w) []) rfl ⟨rfl,fun _ h=>h,hl⟩).go _ w ⟨by simp [hnt];omega,rfl,K,fun _=>undef,⟨.refl _ _,fun _ _ h=>h,fun _ _ h=>.inl h,hl,YX _ _,.base,.none _ _,⟨by simp [HEnv.get_nil,HEnv.get_cons],by simp [HEnv.get_nil,HEnv.get_cons]⟩⟩,?_⟩ 2 (Nat.le_refl _)) ?_
 ·intro t av hg;obtain ⟨_,p,hp,rfl⟩:=zaf args 0 t av hg;have hlt:t < vs.length:=by rw [hlen];exact (List.getElem?_eq_some_iff.1 hp).1
  refine ⟨vs[t],?_,.pv _ _ (hv.2 t p _ hp (List.getElem?_eq_getElem hlt))⟩;rw [Array.getElem?_append_left zwy83];simp [hlt]
 ·rintro e a' w' ⟨g2,D,q1,q2,q3,q4,q5,env1,H',hi,hno,he,env',hent,ps,hps,rfl⟩;obtain ⟨_,h2,K',ρ',hf2,he0⟩:=hi;have hD:w'.heap[D]?=some (.deferred (some [])):=hf2.others.same D _ q5 rfl;have hf':FS (Base.of w K (bare w) []) K' ρ' H' w':=by
   have b1:=hf2.below;rw [q1] at b1;have b2:=hf2.old;rw [q2] at b2;have b3:=hf2.new;rw [q1,q2] at b3;have b5:=hf2.heap;rw [q1] at b5;exact ⟨b1,b2,b3,hf2.lt,YX _ _,⟨fun _ h=>h.elim,fun b o h0=>World.cell?_of_block (b1.block b (hl b o h0))⟩,.none _ _,b5⟩
  obtain ⟨w3,hw3⟩:∃ w3,w3=w'.putObj D (.deferred none):=⟨_,rfl⟩
  have hnc:NC w.heap.size w' w3:=⟨some D,by rw [hw3];exact grownBy_putObj' _ _ _,fun r e=>by cases e;exact ⟨q4,_,hD,rfl⟩⟩
  have hf3:=hf'.nc (fun _ h=>h) hl rfl hno hnc;have he':EnvR K' w3 ρ' H' env' a'.tmps:=fun t av ht=>by
   obtain ⟨av0,q1,q2⟩:=hent t av ht;obtain ⟨v,v1,v2⟩:=he0 t av0 q1;exact ⟨v,v1,q2 _ _ _ _ _ (v2.nc hnc)⟩
  obtain ⟨us,hrun,hru⟩:=zae htb hf3 he' hps;have hev:Evo K K' w w3:=⟨hf3.below,hf3.old,hf3.new,hf3.lt⟩
  have hres:(results fn a'.tmps).run P w3=.ok (if hh:us.toArray.size=1 then us.toArray[0] else .tuple us.toArray) w3:=by
   unfold results;rw [Array.mapM_eq_mapM_toList,hrs];simp only [Sem.run_bind,Sem.run_map]
   erw [hrun]
   rfl
  have hval:PRel K' w3 (zC ps) (if hh:us.toArray.size=1 then us.toArray[0] else .tuple us.toArray):=by
   split
   ·rename_i hh;have hl1:=hru.1;have hu:us.length=1:=by simpa using hh
    obtain ⟨u,rfl⟩:=List.length_eq_one_iff.1 hu;obtain ⟨p,rfl⟩:=List.length_eq_one_iff.1 (show ps.length=1 by omega);exact hru.2 0 p u zwy63 zwy63
   ·rename_i hh;simp at hh;have:zC ps=.tup ps:=by
     unfold zC;split
     ·rename_i p;exact absurd zwy102 hh
     ·rfl
    rw [this];exact .tup ps us hru.1 hru.2
  have hds:a'.defers=[mark D]:=h2.trans q3;have hleave:LeavesInM Fence.wide 2 P fn a'.tmps (fun e w'=>∃ v K',e=.returned v∧Evo K K' w w'∧PRel K' w' (zC ps) v) a'.defers .returning w':=by
   rw [hds];refine ⟨by simp,.inl ⟨D,w3,rfl,by rw [hw3];exact run_takeDeferred hD,?_⟩⟩;exact ⟨_,hres,_,K',rfl,hev,hval⟩
  rcases he with rfl|rfl
  ·exact hleave
  ·exact hleave
def ziq (ts:List Nat) (env:Env):Bool:=ts.all fun t=>(env.get t).isNone
theorem zq8 {α:Type} {tf p0 p1 tv:Nat} {id:Nat} {ty:TypeId} {po:String} {af:Array Edge} {body:Code} {fB:FuncId} {cap:List PV} {encs:α→Array Value} {all:List α} (v0 v1:α→Value) (hit:AIter P fB cap encs all)
  (env2:Env) (HH:List α→HEnv) (b:Nat) (hw1:g.w1.heap.size=0) (hbg:Bare g)
  (henc:∀ x,encs x=#[v0 x,v1 x]) (hv1:∀ x,Zm (v1 x)=true)
  (ht:env.get tf=some (.pv (.fn (.func fB) [] cap))) (hs:Sub env env2) (hft:env2.get tf=some (.pv (.fn (.func fB) [] cap))) (hnd:zhW env2=true) (hfr:ziq [p0,p1,tv] env2=true) (hpp:p0 < n∧p1 < n∧tv < n∧p0≠p1)
  (hfit:Yj H (HH []) env2) (hids:∀ pre,zcK b (HH pre)=true) (hno:∀ pre,zaZ (HH pre)=true)
  (hend:(QD (HH all) env2&&hIn (HH all) (HH all))=true)
  (hbody:∀ (g2:Base) (us:Nat→Value) (pre:List α) (x:α),pre.length < all.length→AW P n g2 body ((tv,.pv (.base (v1 x)))::env2) (HH pre++yQ us b env2) (zf2 fun env' H'=>Yj H' (HH (pre++[x])++yQ us b env2) []))
  (h:QQ .normal env2 (HH all)):AW2 P n g (.rangeFunc (.tmp tf) #[p0,p1] (.region id #[{ dst:=some tv,op:=.assign (.tmp p1),type:=ty,pos:=po,after:=af,guard:=none }] false) body) env H QQ:=by
 refine ⟨fun a w hinv d hd=>?_⟩;have hinv2:=(hinv.sub hs).hsub hfit;obtain ⟨h1,h2,K,ρ,hf,he⟩:=hinv2;let us:Nat→Value:=fun t=>a.tmps.getD t undef
 have hus:∀ t av,(t,av)∈env2→ARel K w ρ (HH []) av (us t):=by
  intro t av hm;obtain ⟨v,v1,v2⟩:=he t av (zcd hnd hm);have:us t=v:=by simp [us,Array.getD_eq_getD_getElem?,v1]
  rw [this];exact v2
 have hpins:∀ (pre:List α),zaZ (HH pre++yQ us b env2)=true:=by
  intro pre;have h3:∀ (e:Env) (k:Nat),zaZ (yQ us k e)=true:=by
   intro e;induction e with
   | nil=>intro k;rfl
   | cons x e ih=>intro k;exact ih (k + 1)
  have h4:∀ (A B:HEnv),zaZ A=true→zaZ B=true→zaZ (A++B)=true:=by
   intro A;induction A with
   | nil=>intro B _ hB;exact hB
   | cons x A ih =>
    intro B hA hB;obtain ⟨j,x⟩:=x;cases x <;> simp only [zaZ,List.cons_append] at hA ⊢ <;> first|exact ih B hA hB|cases hA
  exact h4 _ _ (hno pre) (h3 _ _)
 have hfs0:FS g K ρ (HH []++yQ us b env2) w:=by
  have hlat:Later K K w w:=.refl K w;have hk:∀ j,(HEnv.get (HH []) j).isSome=true→(HEnv.get (HH []++yQ us b env2) j).isSome=true∧ρ j=ρ j:=fun j hj=>⟨Zn j hj,rfl⟩
  refine ⟨hf.below,hf.old,hf.new,hf.lt,hf.others,hf.pt,fun i h bb _ _ _=>hbg.pr bb,?_,?_⟩
  ·intro i e hi;rw [get_append] at hi;cases hh:HEnv.get (HH []) i with
   | some x=>rw [hh] at hi;simp only [Option.some.injEq] at hi;subst hi;exact (hf.heap.ok i _ hh).keeps (.refl hf.lt) hf.lt hk
   | none =>
    rw [hh] at hi;obtain ⟨_,t,av,hm,rfl⟩:=QJ hi;exact (hus t av hm).keeps hlat hk
  ·intro i j x y bb hij hi hj lx ly bx bby;have e1:∀ i x,HEnv.get (HH []++yQ us b env2) i=some x→x.live=true→HEnv.get (HH []) i=some x:=by
    intro i x hi hl;rw [get_append] at hi;cases hh:HEnv.get (HH []) i with
    | some z=>rw [hh] at hi;exact hi
    | none =>
     rw [hh] at hi;obtain ⟨_,t,av,hm,rfl⟩:=QJ hi;simp [HE.live] at hl
   exact hf.heap.apart i j x y bb hij (e1 i x hi lx) (e1 j y hj ly) lx ly bx bby
 have hread:∀ {K':KK} {ρ':Nat→Value} {pre:List α} {W:World} {g':Base},FS g' K' ρ' (HH pre++yQ us b env2) W→∀ t av,env2.get t=some av→a.tmps[t]?=some (us t)∧ARel K' W ρ' (HH pre++yQ us b env2) av (us t):=by
  intro K' ρ' pre W g' hf' t av hg;obtain ⟨v,v1,v2⟩:=he t av hg;have hu:us t=v:=by simp [us,Array.getD_eq_getD_getElem?,v1]
  obtain ⟨i,hbi,hgi⟩:=ze3 (us:=us) (b:=b) (zbQ hg);have hn:HEnv.get (HH pre) i=none:=by
   cases hh:HEnv.get (HH pre) i with
   | none=>rfl
   | some z=>have:=zbE (hids pre) i z hh;omega
  have hget:HEnv.get (HH pre++yQ us b env2) i=some (.pin av (us t)):=by rw [get_append,hn];exact hgi
  exact ⟨by rw [hu];exact v1,hf'.heap.ok i _ hget⟩
 have hfn:∃ vc,us tf=.func (.func fB) #[] vc.toArray∧PRels K w cap vc:=by
  have:=(hus tf _ (zbQ hft))
  cases this with
  | pv _ _ hp =>
   generalize us tf=u at hp;cases hp with
   | fn _ _ _ vf vc f1 f2 f3 f4 =>
    have:vf=[]:=List.eq_nil_of_length_eq_zero (by simpa using f1);subst this;exact ⟨vc,rfl,f2,f4⟩
 obtain ⟨vc,hvc,hpc⟩:=hfn;have hev:a.eval (.tmp tf)=.func (.func fB) #[] vc.toArray:=by rw [←hvc];rfl
 have hcapW:∀ {K':KK} {ρ':Nat→Value} {pre:List α} {W:World} {g':Base},FS g' K' ρ' (HH pre++yQ us b env2) W→PRels K' W cap vc:=by
  intro K' ρ' pre W g' hf';have:=(hread hf' tf _ hft).2;rw [hvc] at this;cases this with
  | pv _ _ hp =>
   cases hp with
   | fn _ _ _ vf vc' f1 f2 f3 f4=>exact ⟨f2,f4⟩
 have hseq:=hit.stops K w vc (d - 1) hpc;let a₁:α→Act:=fun x=>{ tmps:=((a.tmps.setIfInBounds p0 (v0 x)).setIfInBounds p1 (v1 x)).setIfInBounds tv (v1 x),defers:=[] }
 let I:List α→World→Prop:=fun pre W=>∃ K ρ,FS g K ρ (HH pre++yQ us b env2) W
 refine wpIn_rangeFunc_ownF (α:=α) (F:=Fence.wide) (n:=d) (w0:=w) (N:=all.length) rfl zwy62 hev trivial (fun args w=>Ze hit.stands args w) hseq
  (fun h1 h2 h=>h2 (h1 h)) (fun W l o o' hl hlo ho _=>fun ⟨K',hK'⟩=>⟨K',hK'.nc (B:=0) ⟨some l,grownBy_putObj' _ _ _,fun r e=>by cases e;exact ⟨Nat.zero_le _,o,hlo,ho⟩⟩⟩) (.refl _ _)
  (fun x=>by rw [henc];rfl) I (fun _ _ _=>False) ?_ (fun _ _ _ _ _ h=>h.elim) ⟨K,ρ,hfs0⟩ a₁ ?_ ?_ ?_ (fun _ _ _ _ _ _ h _=>h.elim)
 ·rintro pre W W' row ⟨K',ρ',hf'⟩ hg hr;exact ⟨K',ρ',hf'.nc hbg.pr hbg.k0 hw1 (hpins pre) ⟨row,hg,fun r e=>⟨Nat.le_trans hf.below.size (hr r e).1,(hr r e).2⟩⟩⟩
 ·intro l x W KK hKK;refine wpIn_region_list ?_;have hK:KK (a₁ x) W:=hKK;show wpListIn _ _ _ _ _ [_] _ _
  refine wpListIn_plain rfl fun K2 hK2=>?_
  refine ⟨fun _ _=>trivial,?_⟩;rw [Oper.semAt_eq _ _ _ (fun c hc=>by cases hc)];have hrun:∀ ρ:Operand→Value,(execOp ρ { dst:=some tv,op:=.assign (.tmp p1),type:=ty,pos:=po,after:=af,guard:=none:Oper }).run P W=.ok (.value (ρ (.tmp p1))) W:=fun ρ=>by simp [execOp]
  rw [hrun];simp only [Oper.uponIn];refine hK2 _ _ ?_;show Exit.then KK _ .normal _ W
  have e1:(({ tmps:=((#[p0,p1]:Array Tmp).zip (encs x)).foldl (fun t (p,v)=>t.setIfInBounds p v) a.tmps,defers:=[] }:Act).put (some tv) (({ tmps:=((#[p0,p1]:Array Tmp).zip (encs x)).foldl (fun t (p,v)=>t.setIfInBounds p v) a.tmps,defers:=[] }:Act).eval (.tmp p1)))=a₁ x:=by
   rw [henc x];have hsz:p1 < (a.tmps.setIfInBounds p0 (v0 x)).size:=by simp;omega
   have hz:((#[p0,p1]:Array Tmp).zip #[v0 x,v1 x]).foldl (fun t (p,v)=>t.setIfInBounds p v) a.tmps=(a.tmps.setIfInBounds p0 (v0 x)).setIfInBounds p1 (v1 x):=by
    have hz0:(#[p0,p1]:Array Tmp).zip #[v0 x,v1 x]=#[(p0,v0 x),(p1,v1 x)]:=Array.ext' (by rw [Array.toList_zip];rfl);rw [hz0];rfl
   rw [hz];simp only [Act.put,Act.eval,a₁];congr 2;simp [Array.getD_eq_getD_getElem?];intro h;omega
  rw [e1];exact hK
 ·rintro l pre x W ⟨K',ρ',hf'⟩ hlen;have hf2:FS ⟨g.w0,g.K0,W,[],g.wp,g.pr⟩ K' ρ' (HH pre++yQ us b env2) W:=⟨hf'.below,hf'.old,hf'.new,hf'.lt,KeepsOthers.refl W,⟨hf'.pt.same,hf'.pt.kept⟩,hf'.away,hf'.heap⟩
  have hinvB:Inv n ⟨g.w0,g.K0,W,[],g.wp,g.pr⟩ ((tv,.pv (.base (v1 x)))::env2) (HH pre++yQ us b env2) (a₁ x) W:=by
   refine ⟨by simp [a₁,h1],rfl,K',ρ',hf2,fun t av hg=>?_⟩;rw [Env.get_cons] at hg;split at hg
   ·rename_i e;subst e;simp only [Option.some.injEq] at hg;subst hg;refine ⟨v1 x,?_,.pv _ _ (.base _ (hv1 x))⟩;show (((a.tmps.setIfInBounds p0 (v0 x)).setIfInBounds p1 (v1 x)).setIfInBounds tv (v1 x))[tv]?=some (v1 x)
    exact Array.getElem?_setIfInBounds_self_of_lt zwy64
   ·rename_i hne;obtain ⟨q1,q2⟩:=hread hf' t av hg;have hfresh:∀ p,p∈[p0,p1,tv]→p≠t:=by
     intro p hp e;subst e;have:=List.all_eq_true.1 hfr p hp;rw [hg] at this;cases this
    refine ⟨us t,?_,q2⟩;show (((a.tmps.setIfInBounds p0 (v0 x)).setIfInBounds p1 (v1 x)).setIfInBounds tv (v1 x))[t]?=_
    rw [Array.getElem?_setIfInBounds_ne (hfresh tv zwy63),Array.getElem?_setIfInBounds_ne (hfresh p1 zwy63),Array.getElem?_setIfInBounds_ne (hfresh p0 zwy63)];exact q1
  refine wpIn_mono ((hbody ⟨g.w0,g.K0,W,[],g.wp,g.pr⟩ us pre x hlen).go (a₁ x) W hinvB (some l) (d - 1 - 1)) ?_;rintro e a' W' ⟨env',H',hi',hq⟩;cases e with
  | normal =>
   obtain ⟨_,_,K2,ρ2,hfe,_⟩:=(hi'.sub qh).hsub (H':=HH (pre++[x])++yQ us b env2) hq;refine ⟨hfe.others,fun _=>⟨K2,hcapW hfe⟩,K2,ρ2,⟨hfe.below,hfe.old,hfe.new,hfe.lt,⟨by rw [hw1];omega,fun k o hk=>by have:=(Array.getElem?_eq_some_iff.1 hk).1;omega⟩,⟨hfe.pt.same,hfe.pt.kept⟩,hfe.away,hfe.heap⟩⟩
  | _=>exact hq.elim
 ·rintro D xs W hD rfl ⟨K',ρ',hf'⟩ hWD;have hend':=hend;simp only [Bool.and_eq_true] at hend';have hfe:FS ⟨g.w0,g.K0,W,[mark D],g.wp,g.pr⟩ K' ρ' (HH xs++yQ us b env2) W:=⟨hf'.below,hf'.old,hf'.new,hf'.lt,KeepsOthers.refl W,⟨hf'.pt.same,hf'.pt.kept⟩,hf'.away,hf'.heap⟩
  have hinvE:Inv n ⟨g.w0,g.K0,W,[mark D],g.wp,g.pr⟩ env2 (HH xs++yQ us b env2) { a with defers:=mark D::a.defers } W:=by
   refine ⟨h1,?_,K',ρ',hfe,fun t av hg=>?_⟩
   ·show mark D::a.defers=[mark D]
    rw [h2,hbg.ds]
   ·obtain ⟨q1,q2⟩:=hread hf' t av hg;exact ⟨us t,q1,q2⟩
  have hsub:HSub (HH xs++yQ us b env2) (HH xs):=fun i h hi=>by rw [get_append,hi]
  exact ⟨⟨g.w0,g.K0,W,[mark D],g.wp,g.pr⟩,D,rfl,rfl,rfl,Nat.le_trans hf.below.size hD,hWD,env2,HH xs,hinvE.hsub ⟨hsub,hend⟩,h⟩
end
end Go.Cg
set_option linter.unusedVariables false
set_option linter.unusedSimpArgs false
namespace Go.Cg
open Go.Proofs Go.RowKit Go.Shelf
set_option maxHeartbeats 20000000
attribute [local go_sem] Oper.semAt_some
def VI (l:List Int) (r:Nat):List (Int × Int):=(List.range (l.length - r)).map fun k=>(((l.length - 1 - k:Nat):Int),l.getD (l.length - 1 - k) 0)
theorem zpC (l:List Int):VI l l.length=[]:=by simp [VI]
theorem zf5 (l:List Int) (r:Nat):(VI l r).length=l.length - r:=by simp [VI]
theorem zo8 {l:List Int} {m:Nat} (h:m < l.length):VI l m=VI l (m + 1)++[((m:Int),l.getD m 0)]:=by
 rw [VI,VI,show l.length - m=(l.length - (m + 1)) + 1 by omega,List.range_succ,List.map_append,List.map_singleton];rw [show l.length - 1 - (l.length - (m + 1))=m by omega]
def zlc (W:World) (v:Value) (l:List Int):Prop :=
 ∃ (Bs o:Nat) (sv:Value),v=.pointer (some ⟨Bs,o,none⟩)∧W.cell? ⟨Bs,o,none⟩=some sv ∧
  ((l=[]∧∃ p,sv=.slice p 0 0)∨∃ b off cap,sv=.slice (some ⟨b,off,none⟩) l.length cap∧∀ j,j < l.length→W.cell? ⟨b,off + j,none⟩=some (.int .i64 (l.getD j 0)))
theorem zdR {K:Cg.KK} {W:World} {l:List Int} {vc:List Value} (h:PRels K W [.ptr (ints l) 0] vc):∃ v,vc=[v]∧zlc W v l:=by
 obtain ⟨v,vs,rfl,r,h2⟩:=h.cons_inv;obtain rfl:=h2.nil_inv;refine ⟨v,rfl,?_⟩;cases r with
 | ptr _ _ b o vs hl hr hc =>
  cases vs with
  | nil=>simp [PV.cells,ints] at hl
  | cons sv vs' =>
   have h0:=hr 0 sv rfl;have hp:=hc 0 (ints l) sv rfl rfl;refine ⟨b,o,sv,by simp,by simpa using h0.2.1,?_⟩;generalize hls:ints l=p at hp;cases hp with
   | nil sz full =>
    simp [ints] at hls;exact .inl ⟨hls.2.1,none,rfl⟩
   | emp sz full a =>
    simp [ints] at hls;exact .inl ⟨hls.2.1,some a,rfl⟩
   | slc sz es full b2 o2 cap vss q0 q1 q2 q3 q4 q5 q6 =>
    simp only [ints,PV.slc.injEq] at hls;obtain ⟨rfl,rfl,_⟩:=hls;refine .inr ⟨b2,o2,cap,by simp,fun j hj=>?_⟩;have he:(l.map pi)[j]?=some (pi l[j]):=by simp [hj]
    obtain ⟨_,e2,e3⟩:=q5 j _ he;have hlt:0 < (vss j).length:=by omega
    have hv:=q6 j _ 0 _ (vss j)[0] he rfl (List.getElem?_eq_getElem hlt);have hcell:=(e3 0 _ (List.getElem?_eq_getElem hlt)).2.1;generalize (vss j)[0]=y at hv hcell;cases hv;rw [List.getD_eq_getElem?_getD,List.getElem?_eq_getElem hj,Option.getD_some];simpa using hcell
   | _=>simp [ints] at hls
set_option maxRecDepth 100000 in
theorem ztf (n:Nat) (rn:Nat) (v:Value) (l:List Int) (hreach:l.length≤1000) (J Jx:List (Int × Int)→World→Prop)
  (hY:∀ pre x W,J pre W→pre.length < l.length→YieldAt Fence.wide (n - 1) Tryz.prog rn #[.int .i64 x.1,.int .i64 x.2] W fun e W' =>
   (e=.returned (.bool true)∧J (pre++[x]) W'∧((∃ K,PRels K W [.ptr (ints l) 0] [v])→∃ K,PRels K W' [.ptr (ints l) 0] [v]))∨(e=.returned (.bool false)∧Jx (pre++[x]) W'))
  (W:World) (hvP:∃ K,PRels K W [.ptr (ints l) 0] [v]) (h0:J [] W) :
  CallsIn Fence.wide n Tryz.prog 164 #[.func (.yield rn) #[] #[],v] W fun e W'=>(∃ u,e=.returned u) ∧
   ((∃ ys,ys=VI l 0∧J ys W')∨(∃ pre,Jx pre W')):=by
 obtain ⟨Bs,o,sv,rfl,hBs,hsv⟩:zlc W v l:=by
  obtain ⟨K,hp⟩:=hvP;obtain ⟨v2,e,hv2⟩:=zdR hp;simp only [List.cons.injEq,and_true] at e;subst e;exact hv2
 obtain ⟨p,cap,hsve⟩:∃ p cap,sv=.slice p l.length cap:=by
  rcases hsv with ⟨rfl,p,rfl⟩|⟨b,off,cap,rfl,_⟩
  ·exact ⟨p,0,rfl⟩
  ·exact ⟨_,cap,rfl⟩
 subst hsve;refine callsIn_of_wp Tryz.func164 rfl trivial ?_ rfl;simp only [Tryz.ntmps164,List.size_toArray,List.length_cons,List.length_nil,Nat.reduceAdd,Nat.reduceSub,Array.replicate_succ,Array.replicate_zero,List.push_toArray,List.append_toArray,List.nil_append,List.cons_append]
 gi_wp2
 gi_loopw [3] (fun i wr=>∃ r:Nat,r≤l.length∧i=.int .i64 ((r:Int) - 1)∧J (VI l r) wr∧∃ K,PRels K wr [.ptr (ints l) 0] [.pointer (some ⟨Bs,o,none⟩)])
  (fun i _=>(RowKit.intOf i + 1).toNat)
 case atStart=>exact ⟨l.length,Nat.le_refl _,by first|rfl|(simp;done)|(congr 1;exact wrap_in zwy62 zwy62),by rw [zpC];exact h0,hvP⟩
 case round =>
  obtain ⟨r,hk,rfl,hJs,hnx⟩:=hrel;clear hsv hBs;obtain ⟨Bs',o',sv,e1,hBs,hsv⟩:zlc wr (.pointer (some ⟨Bs,o,none⟩)) l:=by
   obtain ⟨K,hp⟩:=hnx;obtain ⟨v2,e,hv2⟩:=zdR hp;simp only [List.cons.injEq,and_true] at e;subst e;exact hv2
  simp only [Value.pointer.injEq,Option.some.injEq,Addr.mk.injEq,and_true] at e1;obtain ⟨rfl,rfl⟩:=e1;cases r with
  | zero =>
   gi_wp2
   go_end0
   exact ⟨⟨_,rfl⟩,.inl ⟨_,rfl,hJs⟩⟩
  | succ m =>
   have hm:m < l.length:=by omega
   rcases hsv with ⟨rfl,_⟩|⟨b,off,cap2,rfl,hcs⟩
   ·simp at hm
   ·have hcx:=hcs m hm;obtain ⟨fn,tmps,assign,body,hy,hR⟩:=hY _ ((m:Int),l.getD m 0) wr hJs (by rw [zf5];omega);dsimp only at hy;have hgd:l.getD m 0=l[m]:=by rw [List.getD_eq_getElem?_getD,List.getElem?_eq_getElem hm,Option.getD_some]
    rw [hgd] at hy hcx;rw [show (((m + 1:Nat):Int) - 1)=((m:Nat):Int) by omega]
    gi_wp2
    refine ⟨fun hh=>by simp [Fence.wide] at hh,hR.mono ?_⟩;rintro e W3 (⟨rfl,hJ3,hk3⟩|⟨rfl,hJx3⟩)
    ·gi_wp2
     go_roundw
     case rel=>exact ⟨m,by omega,by first|rfl|(simp;done)|(congr 1;exact wrap_in zwy62 zwy62),by rw [zo8 hm];exact hJ3,hk3 hnx⟩
     case measure=>simp [RowKit.intOf]
    ·gi_wp2
     refine bodyPost_ret (results_none rfl _ _ _) rfl ?_;exact ⟨⟨_,rfl⟩,.inr ⟨_,hJx3⟩⟩
theorem zrG (l:List Int) (hreach:l.length≤1000):AIter Tryz.prog 164 [.ptr (ints l) 0] (fun x:Int × Int=>#[.int .i64 x.1,.int .i64 x.2]) (VI l 0):=by
 refine ⟨⟨_,Tryz.func164,rfl,by kernel_rfl⟩,fun K w vc n hp=>?_⟩;obtain ⟨v,rfl,_⟩:=zdR hp;intro rn J Jx W hW hJ hJx hY h0;have hpW:PRels K W [.ptr (ints l) 0] [v]:=hp.keepc fun x u hx=>by
  obtain ⟨o,ho,_⟩:=cells_of_cell hx;exact (hW.cell (p:=x) (Array.getElem?_eq_some_iff.1 ho).1).trans hx
 rw [show (VI l 0).length=l.length by rw [zf5];omega] at hY;refine (ztf n rn v l hreach J Jx hY W ⟨K,hpW⟩ h0).mono ?_;rintro e W' ⟨h1,h2|⟨pre,h2⟩⟩
 ·exact ⟨h1,.inl h2⟩
 ·exact ⟨h1,.inr ⟨pre,trivial,h2⟩⟩
theorem zjP (l:List Int):ACall Tryz.prog 140 [ints l] (.fn (.func 164) [] [.ptr (ints l) 0]):=by
 refine zi zf Tryz.func140 rfl zws Tryz.ntmps140 zwy63 _ rfl (fun hw gB hgB=>?_)
 repeat' (first|refine sA ?_|refine sC (fun _=>?_) (fun _=>?_)|fail)
 exact retq rfl rfl
end Go.Cg
