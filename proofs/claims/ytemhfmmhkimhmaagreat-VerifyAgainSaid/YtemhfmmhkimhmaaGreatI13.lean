/- A part of the walks by abstract values: no statement of its own. -/
import Derived.Test.YtemhfmmhkimhmaaGreatI3
import Derived.Test.YtemhfmmhkimhmaaGreatI8
import Derived.Test.YtemhfmmhkimhmaaGreatI7
import Derived.Sort.OwnSortedInts
import Derived.Test.YtemhfmmhkimhmaaGreatI10
import Derived.Test.YtemhfmmhkimhmaaGreatI12
import Derived.Laws.Pointers
import Derived.Laws.CopyRow
set_option linter.unusedVariables false
set_option linter.unusedSimpArgs false
namespace Go.Cg
open Go.RowKit
section
variable {P:Program} {n:Nat} {g:Base} {H:HEnv} {env:Env} {c:Code} {QQ:QC} {K:KK} {w:World} {ρ:Nat->Value}
def aggOf:AV->Option (List AV)
 | .agg cs=>some cs
 | .pv (.agg ps)=>some (ps.map .pv)
 | _=>none
theorem ARel.aggOf {v:AV} {cs:List AV} {u:Value} (h:ARel K w ρ H v u) (hc:Cg.aggOf v=some cs):ARel K w ρ H (.agg cs) u:=by
 cases h with
 | pv p v hp =>
  cases hp <;> simp [Cg.aggOf] at hc;rename_i ps vs h1 h2 h3;subst hc;refine .agg _ vs zwy98 h2 fun k c v hc hv=>?_
  simp only [List.getElem?_map,Option.map_eq_some_iff] at hc;obtain ⟨p,hp,rfl⟩:=hc;exact .pv _ _ (h3 k p v hp hv)
 | agg ds vs h1 h2 h3=>simp only [Cg.aggOf,Option.some.injEq] at hc;subst hc;exact .agg _ vs h1 h2 h3
 | _=>simp [Cg.aggOf] at hc
theorem zb4 (b i k:Nat) (e:TypeId) (sz:Nat) {v:AV} {cs:List AV} (hsz:0 < sz) (hb:H.get b=some (.cell v)) (hv:aggOf v=some cs) (hk:cs[k]?=some (.pv (.base (.slice none 0 0)))) (hi:H.get i=none)
  (h:AW P n g c env ((b,.cell (.agg (cs.set k (.own i))))::(i,.row e sz [])::H) QQ):AW P n g c env H QQ:=by
 refine ⟨fun a w hinv=>h.go a w ?_⟩;obtain ⟨h1,h2,K,ρ,hf,he⟩:=hinv;have hev:Evo K K w w:=.refl hf.lt;have hne:b≠i:=by rintro rfl;simp [hi] at hb
 have hf2:FS g K (fun j=>if j=i then .slice none 0 0 else ρ j) ((i,.row e sz [])::H) w:=hf.fresh hev hi ⟨[],World.ownsRow_nil w _ e sz,hsz,fun i e h=>by simp at h,by simp [Value.ownBlock]⟩ zwy113;have hkk:∀ j,(HEnv.get ((i,HE.row e sz [])::H) j).isSome=true->(HEnv.get ((b,.cell (.agg (cs.set k (.own i))))::(i,HE.row e sz [])::H) j).isSome=true/\(fun j=>if j=i then Value.slice none 0 0 else ρ j) j=(fun j=>if j=i then Value.slice none 0 0 else ρ j) j:=by
  intro j hj;refine ⟨?_,rfl⟩;simp only [HEnv.get_nil,HEnv.get_cons] at hj ⊢;split
  ·rfl
  ·exact hj
 have hlat:=hev.later hf.lt;refine ⟨h1,h2,K,fun j=>if j=i then .slice none 0 0 else ρ j,⟨hf2.below,hf2.old,hf2.new,hf2.lt,hf2.others,hf2.pt,hf2.away.set (e0:=.cell v) zwy82 rfl,?_,?_⟩,(he.keeps hlat (Zg hi _ _)).keeps hlat hkk⟩
 ·intro j hh hj;simp only [HEnv.get_nil,HEnv.get_cons] at hj;split at hj
  ·rename_i e';subst e';simp only [Option.some.injEq] at hj;subst hj;have hb2:=(hf2.heap.ok b (.cell v) zwy82).keeps hev hf.lt hkk;obtain ⟨b',t',arr,u,hr,hB,hheap,hu,harr,hn⟩:=hb2;refine ⟨b',t',arr,u,hr,hB,hheap,?_,harr,hn⟩;have hu':=hu.aggOf hv;cases hu' with
   | agg _ vs a1 a2 a3 =>
    refine .agg _ vs (by simpa using a1) a2 fun m c x hc hx=>?_
    rw [List.getElem?_set] at hc;split at hc
    ·rename_i e1;subst e1;split at hc
     ·simp only [Option.some.injEq] at hc;subst hc;have:=a3 k _ x hk hx;cases this with
      | pv _ _ hp =>
       cases hp;have:=ARel.own (K:=K) (w:=w) (ρ:=fun j=>if j=i then .slice none 0 0 else ρ j) (H:=(b,.cell (.agg (cs.set k (.own i))))::(i,HE.row e sz [])::H) i (by simp [HEnv.get_nil,HEnv.get_cons,hne]);simpa using this
     ·cases hc
    ·exact a3 m c x hc hx
  ·exact (hf2.heap.ok j hh zwy104).keeps hev hf.lt hkk
 ·intro j k' hh hh' bb hjk hj hk' hlj hlk hbj hbk;have e1:∀ (j:Nat) (hh:HE),HEnv.get ((b,.cell (.agg (cs.set k (.own i))))::(i,HE.row e sz [])::H) j=some hh->hh.live=true->∃ h0,HEnv.get ((i,HE.row e sz [])::H) j=some h0/\h0.live=true:=by
   intro j hh hj hl;rw [HEnv.get_cons] at hj;split at hj
   ·rename_i e';subst e';refine ⟨.cell v,?_,rfl⟩;simp only [HEnv.get_nil,HEnv.get_cons];rw [if_neg (Ne.symm hne)];exact hb
   ·exact ⟨hh,hj,hl⟩
  obtain ⟨a1,a2,a3⟩:=e1 j hh hj hlj;obtain ⟨b1,b2,b3⟩:=e1 k' hh' hk' hlk;exact hf2.heap.apart j k' a1 b1 bb hjk a2 b2 a3 b3 hbj hbk
end
end Go.Cg
namespace Go.Cg
open Go.RowKit Go.Maps Go.WideElems Go.ChangeMaps Go.MapKept
def MapSet (P:Program) (kt et:TypeId) (met:List Int) (o:Obj):Prop :=
 ∃ es clock,o=.map es clock/\Fit (H:=Unit) P kt (plainElem P et) es clock/\es.size<=met.length /\
  ∀ x,(Lit.int .i64 x).wf=true->(DataW.map ((es.toList.map (rg P kt (plainElem (H:=Unit) P et))).foldr DataW.insert [])).atKey (.int .i64 x) (.lit (.int .i64 0))=.lit (.int .i64 (if x∈met then 1 else 0))
section
variable {P:Program} {tb:Tab} {n:Nat} {g:Base} {K:KK} {w:World} {ρ:Nat->Value} {H:HEnv} {env:Env} {a:Act} {ops:List Oper} {o:Oper} {rest:List Oper} {Q:Env->HEnv->Prop}
theorem zpB (kt et:TypeId):MapSet P kt et [] (.map #[] 0) :=
 ⟨#[],0,rfl,⟨by simp,stamped_empty 0,by simp⟩,Nat.le_refl _,fun x _=>by simp;rfl⟩
theorem zpA {t kt et d:Nat} (i:Nat) (hg:guardE ops env o=some true) (hop:o.op=.makeMap t none) (hi:H.get i=none) (hd:o.dst=some d) (ht:Nat.blt d n=true)
  (h:AO P n g ops.toArray rest ((d,.own i)::env) ((i,.obj (MapSet P kt et []))::H) Q):AO P n g ops.toArray (o::rest) env H Q:=by
 refine ⟨fun a w hinv=>?_⟩;have hw:=qx hinv hg;obtain ⟨h1,h2,K,ρ,hf,he⟩:=hinv;refine wpList_step fun KK hKK=>?_
 rw [if_pos hw];have hrun:(execOp a.eval o).run P w=.ok (.value (.map (some w.heap.size))) (w.alloc (.map #[] 0)):=by
  simp [execOp,hop,run_makeMap]
 unfold Oper.wp;rw [hrun];simp only [Oper.upon];have hev:Evo K K w (w.alloc (.map #[] 0)):=⟨(Below.refl _ _).alloc (Nat.le_refl _) _,fun _ _ h=>h,fun _ _ h=>.inl h,fun b o h=>by have:=hf.lt b o h;simp;omega⟩
 refine hKK _ _ (h.go _ _ ⟨Zy h1,put_defers h2,K,fun j=>if j=i then .map (some w.heap.size) else ρ j,hf.fresh hev hi ⟨w.heap.size,.map #[] 0,rfl,hf.below.size,heap_alloc_new w _,zpB kt et,fun o ho=>by have:=hf.lt _ o ho;omega⟩ zwy113,?_⟩);rw [hd];have:=ARel.own (K:=K) (w:=w.alloc (.map #[] 0)) (ρ:=fun j=>if j=i then .map (some w.heap.size) else ρ j) (H:=(i,HE.obj (MapSet P kt et []))::H) i zwy108;exact Yg h1 ht (he.keeps (hev.later hf.lt) (Zg hi _ _)) (by simpa using this)
theorem zqE {kt et:TypeId} {met:List Int} {b:Nat} {ob:Obj} (hb:w.heap[b]?=some ob) (h:MapSet P kt et met ob) :
  ∃ D:DataW Unit,w.ownsMap P kt (plainElem P et) b met.length D/\∀ x,(Lit.int .i64 x).wf=true->D.atKey (.int .i64 x) (.lit (.int .i64 0))=.lit (.int .i64 (if x∈met then 1 else 0)):=by
 obtain ⟨es,clock,rfl,F,hs,hat⟩:=h;exact ⟨_,⟨es,clock,hb,F,hs,rfl⟩,hat⟩
theorem zql {t kt et:Nat} (htb:yZ P tb) (h:tb.k t=.map kt et):P.underlying t=some (.map kt et):=by
 obtain ⟨d,i,h1,_,_,h2⟩:=zat htb h zwy63;cases d <;> simp [ziu] at h2;obtain ⟨rfl,rfl⟩:=h2;exact h1
theorem zum {t kt et:Nat} {m x:Operand} {i:Nat} {met:List Int} {k:Int} (htb:yZ P tb) (hop:o.op=.lookup t m x false) (hk:tb.k t=.map kt et) (hkt:tb.k kt=.int .i64) (het:tb.k et=.int .i64) (hz:tb.zero et=some (.int .i64 0))
  (hm:env.val m=some (.own i)) (hi:H.get i=some (.obj (MapSet P kt et met))) (hx:env.pv H x=some (.base (.int .i64 k))) (hwf:(Lit.int .i64 k).wf=true) :
  QStep P g H o env (.pv (.base (.int .i64 (if k∈met then 1 else 0)))):=by
 refine ⟨fun K ρ a w hf hv=>?_⟩;have hmr:=hv m zwy68 _ hm;have hxr:=qy hf (hv x zwy68) hx;generalize hmv:a.eval m=mv at hmr;generalize hxv:a.eval x=xv at hxr;cases hxr;obtain ⟨b,ob,hr,hB,hheap,hX,hn⟩:=hf.heap.ok i _ hi;cases hmr with
 | own _ _ =>
  obtain ⟨D,hown,hat⟩:=zqE hheap hX;have hzi:(zeroValue et).run P w=.ok (.int .i64 0) w:=by
   unfold Tab.zero at hz;split at hz
   ·rename_i ti hti;obtain ⟨i,e1,_,_,e4,_⟩:=Ym htb hti;simp [zeroValue,typeInfo,e1,e4,hz]
   ·cases hz
  obtain ⟨c,hrun,hc,hwc⟩:=hown.lookup_int (t:=t) (int_keyed (zas htb hkt)) (zql htb hk) (zas htb het) hzi (keyOf_int_mk (zas htb hkt) hwf);rw [hat k hwf] at hc;simp only [DataW.lit.injEq,Lit.int.injEq,true_and] at hc;subst hc;have:(execOp a.eval o).run P w=.ok (.value (.int .i64 (if k∈met then 1 else 0))) w:=by
   rw [<-hr] at hrun;simp [execOp,hop,hmv,hxv,hrun,Result.andThen]
  rw [this];exact Yq hf (.pv _ _ (.base _ rfl))
theorem zks {t kt et:Nat} {m x:Operand} {i:Nat} {met:List Int} {k c:Int} (hc:(if k∈met then (1:Int) else 0)=c) (htb:yZ P tb) (hop:o.op=.lookup t m x false) (hk:tb.k t=.map kt et) (hkt:tb.k kt=.int .i64) (het:tb.k et=.int .i64) (hz:tb.zero et=some (.int .i64 0))
  (hm:env.val m=some (.own i)) (hi:H.get i=some (.obj (MapSet P kt et met))) (hx:env.pv H x=some (.base (.int .i64 k))) (hwf:(Lit.int .i64 k).wf=true) :
  QStep P g H o env (.pv (.base (.int .i64 c))):=by
 subst hc;exact zum htb hop hk hkt het hz hm hi hx hwf
theorem zv1 {l:List Oper} (env2:Env) (H2:HEnv) (hs:Sub env env2) (hf:Qx H H2 env2) (h:AO P n g ops.toArray l env2 H2 Q):AO P n g ops.toArray l env H Q:=⟨fun a w hi=>h.go a w ((hi.sub hs).hsub hf)⟩
theorem zkT {t kt et:Nat} {m x v:Operand} {i:Nat} {met:List Int} {k:Int} (hw1:g.w1.heap.size=0) (htb:yZ P tb) (hg:guardE ops env o=some true) (hop:o.op=.mapUpdate t m x v) (hk:tb.k t=.map kt et) (hkt:tb.k kt=.int .i64) (het:tb.k et=.int .i64)
  (hm:env.val m=some (.own i)) (hi:H.get i=some (.obj (MapSet P kt et met))) (hx:env.pv H x=some (.base (.int .i64 k))) (hv:env.pv H v=some (.base (.int .i64 1))) (hwf:(Lit.int .i64 k).wf=true) (hlen:met.length < maxLen) (hd:o.dst=none)
  (h:AO P n g ops.toArray rest env ((i,.obj (MapSet P kt et (met++[k])))::H) Q):AO P n g ops.toArray (o::rest) env H Q:=by
 refine ⟨fun a w hinv=>?_⟩;have hw:=qx hinv hg;obtain ⟨h1,h2,K,ρ,hf,he⟩:=hinv;refine wpList_step fun KK hKK=>?_
 rw [if_pos hw];have hmr:=qO he hm;have hxr:=qy (a:=a) hf (x:=x) (fun av hh=>qO he hh) hx;have hvr:=qy (a:=a) hf (x:=v) (fun av hh=>qO he hh) hv;generalize hmv:a.eval m=mv at hmr;generalize hxv:a.eval x=xv at hxr;generalize hvv:a.eval v=vv at hvr;cases hxr;cases hvr;obtain ⟨b,ob,hr,hB,hheap,hX,hnK⟩:=hf.heap.ok i _ hi;cases hmr with
 | own _ _ =>
  obtain ⟨D,hown,hat⟩:=zqE hheap hX;have h1wf:(Lit.int .i64 1).wf=true:=by decide
  obtain ⟨w',hrun,hown',hgrow⟩:=hown.update (t:=t) (int_keyed (zas htb hkt)) (zql htb hk) hlen (val:=.int .i64 1) (keyOf_int_mk (zas htb hkt) hwf) (plainElem_int (zas htb het) h1wf);have hrun':(execOp a.eval o).run P w=.ok .skip w':=by
   rw [<-hr] at hrun;simp [execOp,hop,hmv,hxv,hvv,hrun,Result.andThen]
  have hX':∃ ob',w'.heap[b]?=some ob'/\MapSet P kt et (met++[k]) ob':=by
   obtain ⟨es,clock,hb,F,hs,hD⟩:=hown';refine ⟨_,hb,es,clock,rfl,F,by simpa using hs,fun y hy=>?_⟩;rw [<-hD];by_cases e:y=k
   ·subst e;rw [atKey_put_same hown.isMap (by simp [WideAt.IsKeyLit])];simp
   ·rw [atKey_put_other (by simpa using e),hat y hy];simp [e]
  obtain ⟨ob',hb',hX2⟩:=hX';unfold Oper.wp;rw [hrun'];simp only [Oper.upon];have hlat:Later K K w w':=⟨fun _ _ h=>h,fun b' o hk=>by
   have hne:b'≠b:=by rintro rfl;exact hnK o hk
   exact World.cell?_of_block (hgrow.block b' (hf.lt b' o hk) (by simp [hne]))⟩
  have hkeep:∀ j,(H.get j).isSome=true->(HEnv.get ((i,.obj (MapSet P kt et (met++[k])))::H) j).isSome=true/\ρ j=ρ j:=by
   intro j hj;refine ⟨?_,rfl⟩;simp only [HEnv.get_nil,HEnv.get_cons];split
   ·rfl
   ·exact hj
  have hd':a.put o.dst undef=a:=by rw [hd];rfl
  rw [hd'];refine hKK _ _ (h.go _ _ ⟨h1,h2,K,ρ,⟨hf.below.grown hgrow hf.below.size (fun k hk=>by simp at hk;omega),hf.old,hf.new,fun b o hk=>Nat.lt_of_lt_of_le (hf.lt b o hk) hgrow.size,⟨by rw [hw1];omega,fun k o hk=>by have:=(Array.getElem?_eq_some_iff.1 hk).1;omega⟩,hf.pt.grown hf.old hgrow hlat (fun b2 hb2=>by cases hb2;exact hf.away i _ b hi rfl zwy119) (fun _ _ h=>.inl h),hf.away.set hi rfl,?_,?_⟩,he.keeps hlat hkeep⟩)
  ·intro j e hj;simp only [HEnv.get_nil,HEnv.get_cons] at hj;split at hj
   ·rename_i e';subst e';simp only [Option.some.injEq] at hj;subst hj;exact ⟨b,ob',hr,hB,hb',hX2,hnK⟩
   ·rename_i hne;by_cases hlive:e.live=true
    ·have:=(hf.heap.ok j e hj).grown (f:=id) hgrow hlat (fun b o h=>.inl h) (fun av v h=>h.keeps hlat hkeep) hlive (fun b' hb' e'=>by
      simp at e';subst e';exact hf.heap.apart i j _ e b hne hi hj rfl hlive zwy119 hb')
     cases e <;> exact this
    ·cases e <;> simp [HE.live] at hlive
     ·trivial
     ·exact ARel.keeps hlat hkeep (hf.heap.ok j _ hj)
  ·intro j k2 e e' bb hjk hj hk' hlj hlk hbj hbk;have e1:∀ (j:Nat) (hh:HE),HEnv.get ((i,.obj (MapSet P kt et (met++[k])))::H) j=some hh->hh.live=true->∃ h0,H.get j=some h0/\h0.live=true:=by
    intro j hh hj hl;rw [HEnv.get_cons] at hj;split at hj
    ·rename_i e';subst e';exact ⟨_,hi,rfl⟩
    ·exact ⟨hh,hj,hl⟩
   obtain ⟨a1,a2,a3⟩:=e1 j e hj hlj;obtain ⟨b1,b2,b3⟩:=e1 k2 e' hk' hlk;exact hf.heap.apart j k2 a1 b1 bb hjk a2 b2 a3 b3 hbj hbk
end
end Go.Cg
namespace Go.Cg
open Go.RowKit
def PTells (a b:PV):Prop:=∀ (K:KK) (w:World) (v:Value),PRel K w a v->PRel K w b v
theorem PTells.refl (a:PV):PTells a a:=fun _ _ _ h=>h
def PTL (cs ds:List PV):Prop:=cs.length=ds.length/\∀ (k:Nat) (c d:PV),cs[k]?=some c->ds[k]?=some d->PTells c d
theorem zcx:PTL [] []:=⟨rfl,by simp⟩
theorem qF {c d:PV} {cs ds:List PV} (h:PTells c d) (hs:PTL cs ds):PTL (c::cs) (d::ds):=by
 refine ⟨by simp [hs.1],fun k c' d' hc hd=>?_⟩;cases k with
 | zero=>simp at hc hd;subst hc hd;exact h
 | succ k=>exact hs.2 k c' d' (by simpa using hc) (by simpa using hd)
theorem zbS (sz:Nat) (f:Bool):PTells (.base (.slice none 0 0)) (.slc sz [] f):=fun K w v h=>by cases h;exact .nil sz f
theorem zw5 {cs ds:List PV} (h:PTL cs ds):PTells (.agg cs) (.agg ds):=fun K w v hp=>by
 cases hp with
 | agg _ vs hl ho hr =>
  refine .agg ds vs (by rw [hl,h.1]) ho fun k d v hd hv=>?_
  have hk:k < cs.length:=by
   rcases Nat.lt_or_ge k cs.length with h'|h'
   ·exact h'
   ·rw [List.getElem?_eq_none zwy62] at hv;cases hv
  exact h.2 k _ d (List.getElem?_eq_getElem hk) hd K w v (hr k _ v (List.getElem?_eq_getElem hk) hv)
def PCL (es ds:List PV):Prop:=es.length=ds.length/\∀ (k:Nat) (c d:PV),es[k]?=some c->ds[k]?=some d->PTL c.cells d.cells
theorem zfx:PCL [] []:=⟨rfl,by simp⟩
theorem zbW {c d:PV} {cs ds:List PV} (h:PTL c.cells d.cells) (hs:PCL cs ds):PCL (c::cs) (d::ds):=by
 refine ⟨by simp [hs.1],fun k c' d' hc hd=>?_⟩;cases k with
 | zero=>simp at hc hd;subst hc hd;exact h
 | succ k=>exact hs.2 k c' d' (by simpa using hc) (by simpa using hd)
theorem ziZ {sz:Nat} {es ds:List PV} {f:Bool} (h:PCL es ds):PTells (.slc sz es f) (.slc sz ds false):=fun K w v hp=>by
 obtain ⟨hl,hc⟩:=h;cases hp with
 | nil=>have:ds=[]:=List.eq_nil_of_length_eq_zero (by simpa using hl.symm);subst this;exact .nil sz false
 | emp _ _ a=>have:ds=[]:=List.eq_nil_of_length_eq_zero (by simpa using hl.symm);subst this;exact .emp sz false a
 | slc _ _ _ b o cap vss h0 h1 h2 h3 h4 h5 h6 =>
  rw [hl];have hget:∀ (i:Nat) (d:PV),ds[i]?=some d->∃ e,es[i]?=some e:=fun i d hd=>by
   have:i < es.length:=by
    rcases Nat.lt_or_ge i es.length with h'|h'
    ·exact h'
    ·rw [List.getElem?_eq_none zwy62] at hd;cases hd
   exact ⟨_,List.getElem?_eq_getElem this⟩
  refine .slc sz ds false b o cap vss h0 zwy62 zwy63 zwy62 h4 (fun i d hd=>?_) (fun i d k c v hd hk hv=>?_)
  ·obtain ⟨e,he⟩:=hget i d hd;obtain ⟨a1,a2,a3⟩:=h5 i e he;exact ⟨by rw [<-(hc i e d he hd).1];exact a1,a2,a3⟩
  ·obtain ⟨e,he⟩:=hget i d hd;have hh:=hc i e d he hd;have hk':k < e.cells.length:=by
    rcases Nat.lt_or_ge k e.cells.length with h'|h'
    ·exact h'
    ·rw [List.getElem?_eq_none (by rw [<-hh.1];exact h')] at hk;cases hk
   exact hh.2 k _ c (List.getElem?_eq_getElem hk') hk K w v (h6 i e k _ v he (List.getElem?_eq_getElem hk') hv)
theorem PTells.tells {a b:PV} (h:PTells a b):Tells (.pv a) (.pv b):=fun K w ρ H v hr=>by
 cases hr with|pv _ _ hp=>exact .pv _ _ (h K w v hp)
section
variable {P:Program} {n:Nat} {g:Base} {H:HEnv} {env:Env} {a:Act} {w:World} {ops:List Oper} {Q:Env->HEnv->Prop} {c:Code} {QQ:QC}
theorem zq3 {t:Nat} {x y:AV} (ht:env.get t=some x) (h:Tells x y) (hinv:Inv n g env H a w):Inv n g ((t,y)::env) H a w:=by
 obtain ⟨h1,h2,K,ρ,hf,he⟩:=hinv;refine ⟨h1,h2,K,ρ,hf,fun t' av hg=>?_⟩;rw [Env.get_cons] at hg;split at hg
 ·rename_i e;subst e;simp only [Option.some.injEq] at hg;subst hg;obtain ⟨v,hv,hr⟩:=he _ _ ht;exact ⟨v,hv,h K w ρ H v hr⟩
 ·exact he _ _ hg
theorem zfe {l:List Oper} {x y:PV} (t:Nat) (h:PTells x y) (ht:env.get t=some (.pv x)) (k:AO P n g ops.toArray l ((t,.pv y)::env) H Q):AO P n g ops.toArray l env H Q :=
 ⟨fun a w hi=>k.go a w (zq3 ht h.tells hi)⟩
theorem zpb {t i off:Nat} {p:PV} (hp:p.notTup=true) (ht:env.get t=some (.box i off)) (hi:H.get i=some (.cell (.pv p))) (hinv:Inv n g env H a w):Inv n g ((t,.pv (.ptr p off))::env) ((i,.dead)::H) a w:=by
 obtain ⟨h1,h2,K,ρ,hf,he⟩:=hinv;obtain ⟨b,ty,arr,u,hr,hB,hheap,hu,harr,hn⟩:=hf.heap.ok i _ hi;obtain ⟨K',hK'⟩:∃ K':KK,∀ b' o,K' b' o↔(K b' o\/(b'=b/\o < arr.size)):=⟨fun b' o=>K b' o\/(b'=b/\o < arr.size),fun _ _=>Iff.rfl⟩
 have hlat:Later K K' w w:=⟨fun b o h=>(hK' b o).2 (.inl h),fun _ _ _=>rfl⟩
 have hk:∀ j,(H.get j).isSome=true->(HEnv.get ((i,.dead)::H) j).isSome=true/\ρ j=ρ j:=fun j hj=>by
  refine ⟨?_,rfl⟩;rw [HEnv.get_cons];split
  ·rfl
  ·exact hj
 have hblt:b < w.heap.size:=(Array.getElem?_eq_some_iff.1 hheap).1;have hne:∀ {j:Nat} {h:HE} {b':Nat},i≠j->H.get j=some h->h.live=true->yE (ρ j)=some b'->b'≠b:=fun {j h b'} hij hg hl hb e=>by
  subst e;exact hf.heap.apart i j _ h b' hij hi hg rfl hl zwy119 hb
 refine ⟨h1,h2,K',ρ,⟨hf.below,fun b o h=>(hK' b o).2 (.inl (hf.old b o h)),fun b' o h=>?_,fun b' o h=>?_,hf.others,hf.pt.grown hf.old (row:=some b) ⟨rfl,rfl,rfl,Nat.le_refl _,fun _ _ _=>rfl⟩ hlat (fun b2 hb2=>by cases hb2;exact hf.away i _ b hi rfl zwy119) (fun b2 o h=>(hK' b2 o).1 h |>.elim .inl (fun h=>.inr (.inl (by rw [h.1])))),hf.away.set hi rfl,?_,?_⟩,fun t' av hg=>?_⟩
 ·rcases (hK' b' o).1 h with h|⟨rfl,_⟩
  ·exact hf.new b' o h
  ·exact .inr hB
 ·rcases (hK' b' o).1 h with h|⟨rfl,_⟩
  ·exact hf.lt b' o h
  ·exact hblt
 ·intro j h hg;rw [HEnv.get_cons] at hg;split at hg
  ·simp only [Option.some.injEq] at hg;subst hg;trivial
  ·rename_i hij;have ho:=hf.heap.ok j h hg;cases h with
   | cell v =>
    obtain ⟨b',t',arr',u',hr',hB',hh',hu',ha',hn'⟩:=ho;refine ⟨b',t',arr',u',hr',hB',hh',hu'.keeps hlat hk,ha',fun o ho=>?_⟩;rcases (hK' b' o).1 ho with h|⟨h,_⟩
    ·exact hn' o h
    ·exact hne hij hg rfl (by rw [hr'];rfl) h
   | row t' sz es =>
    obtain ⟨xs,hown,h0,hc,hkk⟩:=ho;refine ⟨xs,hown,h0,fun k e he=>?_,fun b' hb o=>?_⟩
    ·obtain ⟨c1,c2⟩:=hc k e he;exact ⟨c1,fun k c hc=>let ⟨v,h4,h5,h6⟩:=c2 k c hc;⟨v,h4,h5,h6.later hlat⟩⟩
    ·rw [<-hkk b' hb o,hK'];have hb2:yE (ρ j)=some b':=by
      rcases hown.2 with ⟨e,_⟩|⟨b2,cap,cur,e,_⟩
      ·rw [e] at hb;simp [Value.ownBlock] at hb
      ·rw [e] at hb ⊢;simpa [Value.ownBlock,yE] using hb
     exact ⟨fun h=>h.resolve_right fun h=>hne hij hg rfl hb2 h.1,.inl⟩
   | mrow t' sz es =>
    obtain ⟨xs,hown,h0,hc,hkk⟩:=ho;refine ⟨xs,hown,h0,fun k e he=>?_,fun b' hb o ho=>?_⟩
    ·obtain ⟨c1,c2⟩:=hc k e he;exact ⟨c1,fun k c hc=>let ⟨v,h4,h5,h6⟩:=c2 k c hc;⟨v,h4,h5,h6.later hlat⟩⟩
    ·have hb2:yE (ρ j)=some b':=by
      rcases hown.2 with ⟨e,_⟩|⟨b2,cap,cur,e,_⟩
      ·rw [e] at hb;simp [Value.ownBlock] at hb
      ·rw [e] at hb ⊢;simpa [Value.ownBlock,yE] using hb
     rcases (hK' b' o).1 ho with h|⟨h,_⟩
     ·exact hkk b' hb o h
     ·exact hne hij hg rfl hb2 h
   | dead=>trivial
   | pin v u'=>exact ARel.keeps hlat hk ho
   | obj X =>
    obtain ⟨b',ob,hr',hB',hh',hx,hn'⟩:=ho;refine ⟨b',ob,hr',hB',hh',hx,fun o ho=>?_⟩;rcases (hK' b' o).1 ho with h|⟨h,_⟩
    ·exact hn' o h
    ·exact hne hij hg rfl (by rw [hr'];rfl) h
 ·intro j k h h' b' hjk hg hg' hl hl';rw [HEnv.get_cons] at hg hg';split at hg
  ·simp only [Option.some.injEq] at hg;subst hg;simp [HE.live] at hl
  ·split at hg'
   ·simp only [Option.some.injEq] at hg';subst hg';simp [HE.live] at hl'
   ·exact hf.heap.apart j k h h' b' hjk hg hg' hl hl'
 ·rw [Env.get_cons] at hg;split at hg
  ·rename_i e;subst e;simp only [Option.some.injEq] at hg;subst hg;obtain ⟨v,hv,hrv⟩:=he _ _ ht;refine ⟨v,hv,?_⟩;cases hrv with
   | box _ _ b2 _ hr2 =>
    rw [hr] at hr2;simp only [Value.pointer.injEq,Option.some.injEq,Addr.mk.injEq,and_true] at hr2;subst hr2;cases hu with
    | pv _ _ hpr =>
     have hcr:=Qo hpr;rw [harr] at hcr;have:=PRel.ptr (K:=K') (w:=w) p off b 0 arr.toList (hcr.1) (fun k x hx=>?_) (fun k c x hc hx=>(hcr.2 k c x hc hx).later hlat)
     ·exact .pv _ _ (by simpa using this)
     ·have hk:k < arr.size:=by
       rcases Nat.lt_or_ge k arr.size with h'|h'
       ·exact h'
       ·rw [List.getElem?_eq_none (by simpa using h')] at hx;cases hx
      refine ⟨(hK' b (0 + k)).2 (.inr ⟨rfl,by omega⟩),?_,?_⟩
      ·simp only [World.cell?,hheap,Nat.zero_add];simpa using hx
      ·exact cells_one hpr hp x (by rw [harr];exact List.mem_of_getElem? hx)
  ·obtain ⟨v,hv,hrv⟩:=he _ _ hg;exact ⟨v,hv,hrv.keeps hlat hk⟩
theorem zb6 {t i off:Nat} {p:PV} (hp:p.notTup=true) (ht:env.get t=some (.box i off)) (hi:H.get i=some (.cell (.pv p))) (k:AW P n g c ((t,.pv (.ptr p off))::env) ((i,.dead)::H) QQ):AW P n g c env H QQ :=
 ⟨fun a w hinv=>k.go a w (zpb hp ht hi hinv)⟩
end
section
variable {P:Program} {g:Base} {H:HEnv} {env:Env} {tb:Tab} {o:Oper}
theorem zxG {t t':Nat} {x y:Operand} {k ky:IntKind} {m c:Int} (hop:o.op=.binOp .shl t x y t') (hx:env.pv H x=some (.base (.int k m))) (hy:env.pv H y=some (.base (.int ky c))) (h0:0<=c):QStep P g H o env (.pv (.base (.int k (k.wrap (m * 2 ^ (min c.toNat k.bits)))))):=by
 refine ⟨fun K ρ a w hf hv=>?_⟩;have hxr:=qy hf (hv x zwy68) hx;have hyr:=qy hf (hv y zwy68) hy;generalize hxv:a.eval x=xv at hxr;generalize hyv:a.eval y=yv at hyr;cases hxr;cases hyr;have hn:¬ c < 0:=by omega
 have hrun:(execOp a.eval o).run P w=.ok (.value (.int k (k.wrap (m * 2 ^ (min c.toNat k.bits))))) w:=by
  simp [execOp,hop,hxv,hyv,eqGuard,binOp,Op.shift,hn]
 rw [hrun];exact Yq hf (.pv _ _ (.base _ rfl))
theorem zwv {t t':Nat} {x y:Operand} {k ky:IntKind} {m c:Int} (hop:o.op=.binOp .shr t x y t') (hx:env.pv H x=some (.base (.int k m))) (hy:env.pv H y=some (.base (.int ky c))) (h0:0<=c):QStep P g H o env (.pv (.base (.int k (m.fdiv (2 ^ (min c.toNat k.bits)))))):=by
 refine ⟨fun K ρ a w hf hv=>?_⟩;have hxr:=qy hf (hv x zwy68) hx;have hyr:=qy hf (hv y zwy68) hy;generalize hxv:a.eval x=xv at hxr;generalize hyv:a.eval y=yv at hyr;cases hxr;cases hyr;have hn:¬ c < 0:=by omega
 have hrun:(execOp a.eval o).run P w=.ok (.value (.int k (m.fdiv (2 ^ (min c.toNat k.bits))))) w:=by
  simp [execOp,hop,hxv,hyv,eqGuard,binOp,Op.shift,hn]
 rw [hrun];exact Yq hf (.pv _ _ (.base _ rfl))
end
section
variable {P:Program} {g:Base} {H:HEnv} {env:Env} {tb:Tab} {o:Oper}
theorem zxz {x y:Operand} {ts:Array TypeId} {k:IntKind} {m c:Int} (hop:o.op=.call { callee:=.builtin .max,args:=#[x,y],argTypes:=ts }) (hx:env.pv H x=some (.base (.int k m))) (hy:env.pv H y=some (.base (.int k c))):QStep P g H o env (.pv (.base (.int k (max m c)))):=by
 refine ⟨fun K ρ a w hf hv=>?_⟩;have hxr:=qy hf (hv x zwy70) hx;have hyr:=qy hf (hv y zwy70) hy;generalize hxv:a.eval x=xv at hxr;generalize hyv:a.eval y=yv at hyr;cases hxr;cases hyr;have hrun:(execOp a.eval o).run P w=.ok (.value (.int k (max m c))) w:=by
  simp [execOp,hop,resolve,invoke,builtin,Builtin.max_,Builtin.max2,hxv,hyv];first|done|omega|(split <;> simp <;> omega)
 rw [hrun];exact Yq hf (.pv _ _ (.base _ rfl))
theorem zxQ {x y:Operand} {ts:Array TypeId} {k:IntKind} {m c:Int} (hop:o.op=.call { callee:=.builtin .min,args:=#[x,y],argTypes:=ts }) (hx:env.pv H x=some (.base (.int k m))) (hy:env.pv H y=some (.base (.int k c))):QStep P g H o env (.pv (.base (.int k (min m c)))):=by
 refine ⟨fun K ρ a w hf hv=>?_⟩;have hxr:=qy hf (hv x zwy70) hx;have hyr:=qy hf (hv y zwy70) hy;generalize hxv:a.eval x=xv at hxr;generalize hyv:a.eval y=yv at hyr;cases hxr;cases hyr;have hrun:(execOp a.eval o).run P w=.ok (.value (.int k (min m c))) w:=by
  simp [execOp,hop,resolve,invoke,builtin,Builtin.min_,Builtin.min2,hxv,hyv];first|done|omega|(split <;> simp <;> omega)
 rw [hrun];exact Yq hf (.pv _ _ (.base _ rfl))
end
end Go.Cg
namespace Go.Cg
open Go.RowKit Go.Proofs
mutual
def PV.free:PV->Bool
 | .base _=>true
 | .agg cs=>frees cs
 | .slc _ es _=>es.isEmpty
 | .ptr _ _=>false
 | .fn _ a b=>frees a&&frees b
 | .tup cs=>frees cs
def frees:List PV->Bool
 | []=>true
 | c::cs=>c.free&&frees cs
end
theorem XE:∀ {cs:List PV},frees cs=true->∀ (k:Nat) (c:PV),cs[k]?=some c->c.free=true
 | [],_,k,c,h=>by simp at h
 | c::cs,h,k,c',hk=>by
  simp only [frees,Bool.and_eq_true] at h;cases k with
  | zero=>simp at hk;subst hk;exact h.1
  | succ k=>simp at hk;exact XE h.2 k c' hk
mutual
def AV.freeA:AV->Bool
 | .pv p=>p.free
 | .agg cs=>zgh cs
 | .fn _ a b=>zgh a&&zgh b
 | _=>true
def zgh:List AV->Bool
 | []=>true
 | c::cs=>c.freeA&&zgh cs
end
theorem zcF:∀ {cs:List AV},zgh cs=true->∀ (k:Nat) (c:AV),cs[k]?=some c->c.freeA=true
 | [],_,k,c,h=>by simp at h
 | c::cs,h,k,c',hk=>by
  simp only [zgh,Bool.and_eq_true] at h;cases k with
  | zero=>simp at hk;subst hk;exact h.1
  | succ k=>simp at hk;exact zcF h.2 k c' hk
def HE.freeH:HE->Bool
 | .cell v=>v.freeA
 | .pin v _=>v.freeA
 | .row _ _ es=>frees es
 | .mrow _ _ es=>frees es
 | _=>true
def zhK:Env->Bool
 | []=>true
 | (_,v)::e=>v.freeA&&zhK e
def zqj (i:Nat):HEnv->Bool
 | []=>true
 | (j,h)::e=>(Nat.beq i j||h.freeH)&&zqj i e
theorem zgW:∀ {e:Env},zhK e=true->∀ t v,e.get t=some v->v.freeA=true
 | [],_,t,v,h=>by simp [Env.get_nil] at h
 | (t',v')::e,h,t,v,hv=>by
  simp only [zhK,Bool.and_eq_true] at h;rw [Env.get_cons] at hv;split at hv
  ·simp only [Option.some.injEq] at hv;subst hv;exact h.1
  ·exact zgW h.2 t v hv
theorem zkK {i:Nat}:∀ {e:HEnv},zqj i e=true->∀ j h,e.get j=some h->j≠i->h.freeH=true
 | [],_,j,h,hg,_=>by simp [HEnv.get_nil] at hg
 | (k,x)::e,hf,j,h,hg,hne=>by
  simp only [zqj,Bool.and_eq_true,Bool.or_eq_true] at hf;rw [HEnv.get_cons] at hg;split at hg
  ·rename_i e';subst e';simp only [Option.some.injEq] at hg;subst hg;rcases hf.1 with h1|h1
   ·exact (hne (Nat.eq_of_beq_eq_true h1).symm).elim
   ·exact h1
  ·exact zkK hf.2 j h hg hne
section
variable {K K':KK} {w w':World} {ρ:Nat->Value} {H H':HEnv}
theorem PRel.free {p:PV} {v:Value} (h:PRel K w p v):p.free=true->PRel K' w' p v:=by
 induction h with
 | base v h1=>exact fun _=>.base v h1
 | agg cs vs hl h1 _ ih=>exact fun hf=>.agg cs vs hl h1 fun k c v hc hv=>ih k c v hc hv (XE hf k c hc)
 | nil sz full=>exact fun _=>.nil sz full
 | emp sz full a=>exact fun _=>.emp sz full a
 | slc sz es full b o cap vss h0 h1 h2 h3 h4 h5 h6 ih =>
  intro hf;have hes:es=[]:=by simpa [PV.free] using hf
  subst hes;refine .slc sz [] full b o cap vss h0 h1 h2 h3 h4 (fun i e he=>by simp at he) (fun i e k c v he=>by simp at he)
 | ptr p off b o vs hl hr _ ih=>intro hf;simp [PV.free] at hf
 | fn f a b vf vc h1 h2 _ _ ih1 ih2 =>
  intro hf;simp only [PV.free,Bool.and_eq_true] at hf;exact .fn f a b vf vc h1 h2 (fun k c v hc hv=>ih1 k c v hc hv (XE hf.1 k c hc)) (fun k c v hc hv=>ih2 k c v hc hv (XE hf.2 k c hc))
 | tup cs vs hl _ ih=>exact fun hf=>.tup cs vs hl fun k c v hc hv=>ih k c v hc hv (XE hf k c hc)
theorem ARel.free (hk:∀ j,(H.get j).isSome=true->(H'.get j).isSome=true) {av:AV} {v:Value} (h:ARel K w ρ H av v):av.freeA=true->ARel K' w' ρ H' av v:=by
 induction h with
 | pv p v hp=>exact fun hf=>.pv p v (hp.free hf)
 | own j hj=>exact fun _=>.own j (hk j hj)
 | box j off b hj hr=>exact fun _=>.box j off b (hk j hj) hr
 | ad j off b m c hj hr=>exact fun _=>.ad j off b m c (hk j hj) hr
 | agg cs vs h1 h2 _ ih=>exact fun hf=>.agg cs vs h1 h2 fun k c v hc hv=>ih k c v hc hv (zcF hf k c hc)
 | fn f a b vf vc h1 h2 _ _ ih1 ih2 =>
  intro hf;simp only [AV.freeA,Bool.and_eq_true] at hf;exact .fn f a b vf vc h1 h2 (fun k c v hc hv=>ih1 k c v hc hv (zcF hf.1 k c hc)) (fun k c v hc hv=>ih2 k c v hc hv (zcF hf.2 k c hc))
 | any v=>exact fun _=>.any v
 | any1 v h1 h2=>exact fun _=>.any1 v h1 h2
end
def sortL (l:List Int):List Int:=l.mergeSort fun x y=>decide (x<=y)
theorem zgv (l:List Int):(sortL l).length=l.length:=List.length_mergeSort _
theorem zgF {l:List Int} {x:Int}:x∈sortL l↔x∈l:=List.mem_mergeSort
section
variable {n:Nat} {g:Base} {H:HEnv} {env:Env} {ops:List Oper} {o:Oper} {rest:List Oper} {Q:Env->HEnv->Prop}
theorem zuD {w:World} {B:Nat} {v:Value} {l:List Int} (h:w.ownsRow B 3 1 v l.length (l.map (Value.int .i64))) (hl:l.length < 4611686018427387904) :
  Calls Tryz.prog 156 #[v] w fun e w'=>e=.returned (.tuple #[])/\w'.ownsRow B 3 1 v l.length ((sortL l).map (Value.int .i64))/\w.grownBy w' v.ownBlock:=by
 rcases h.2 with ⟨rfl,h0⟩|⟨b,cap,cur,rfl,hb,hheap,h1,h2,h3,h4⟩
 ·have:l=[]:=List.eq_nil_of_length_eq_zero h0;subst this;refine (Tryz.slices_Sort_int_none none 0 w).mono fun e w' ⟨e1,e2⟩=>?_
  subst e2;exact ⟨e1,by simpa [sortL] using h,⟨rfl,rfl,rfl,Nat.le_refl _,fun _ _ _=>rfl⟩⟩
 ·have hlt:b < w.heap.size:=(Array.getElem?_eq_some_iff.1 hheap).1;refine (Tryz.slices_Sort_int b 0 cap l w (holds_of_blockI hheap (by simpa using h4)) hlt hl).mono fun e w' ⟨e1,m,os,e2⟩=>?_
  subst e2;refine ⟨e1,?_,grownBy_sortedI _⟩;exact ownsRow_sortedI (zgv l) hb hheap h1 h2 h3
theorem zvP {d:Tmp} {x:Operand} {ts:Array TypeId} {i:Nat} {l:List Int} (env2:Env) (hpl:Plain g) (hg:guardE ops env o=some true) (hop:o.op=.call { callee:=.value (.func 156),args:=#[x],argTypes:=ts }) (hst:zaY Tryz.prog 156)
  (hx:env.val x=some (.own i)) (hi:H.get i=some (.row 3 1 (l.map pi))) (hl:l.length<=100000) (hs:Sub env env2) (hfe:zhK env2=true) (hfh:zqj i H=true) (hd:o.dst=some d) (hdt:Nat.blt d n=true)
  (h:AO Tryz.prog n g ops.toArray rest ((d,.pv (.tup []))::env2) ((i,.row 3 1 ((sortL l).map pi))::H) Q):AO Tryz.prog n g ops.toArray (o::rest) env H Q:=by
 refine ⟨fun a w hinv=>?_⟩;have hw:=qx hinv hg;obtain ⟨h1,h2,K,ρ,hf,he⟩:=hinv;refine wpList_step fun KK hKK=>?_
 rw [if_pos hw];have hxr:=qO he hx;generalize hxv:a.eval x=xv at hxr;obtain ⟨us,hown,hsz,hcr,hKK'⟩:=hf.heap.ok i _ hi;have hus:us=l.map (Value.int .i64):=by
  apply List.ext_getElem?;intro j;have hlen:=hown.1;simp at hlen;by_cases hj:j < l.length
  ·obtain ⟨_,h3⟩:=hcr j (pi l[j]) (by simp [hj]);obtain ⟨v,h4,_,h5⟩:=h3 0 (pi l[j]) rfl;cases h5;simp only [Nat.mul_one,Nat.add_zero] at h4;rw [h4];simp [hj]
  ·rw [List.getElem?_eq_none zwy62,List.getElem?_eq_none zwy64]
 subst hus;rw [List.length_map] at hown;cases hxr with
 | own _ _ =>
  have hrun:(execOp a.eval o).run Tryz.prog w=.ok (.enter 156 #[ρ i]) w:=by
   simp [execOp,hop,resolve,Act.eval,Deferred.ofValue,invoke,ZL hst];simpa [Act.eval] using hxv
  unfold Oper.wp;rw [hrun];simp only [Oper.upon];refine (zuD hown zwy62).mono fun e w' ⟨e1,hown',hgrow⟩=>?_
  subst e1;have hlow:∀ b,(ρ i).ownBlock=some b->g.w0.heap.size<=b:=fun b hb=>(hown.lt b hb).1
  have hcr2:∀ (j:Nat) (o:Obj),(ρ i).ownBlock=some j->w.heap[j]?=some o->o.isCells=true:=by
   intro j o hj ho;rcases hown.2 with ⟨h,_⟩|⟨b2,cap,cur,h,_,hh,_⟩
   ·rw [h] at hj;simp [Value.ownBlock] at hj
   ·rw [h] at hj;simp only [Value.ownBlock,Option.some.injEq] at hj;subst hj;rw [hh] at ho;cases ho;rfl
  have hsome:∀ j,(H.get j).isSome=true->(HEnv.get ((i,.row 3 1 ((sortL l).map pi))::H) j).isSome=true:=by
   intro j hj;simp only [HEnv.get_cons];split
   ·rfl
   ·exact hj
  have hbo:∀ b,yE (ρ i)=some b↔(ρ i).ownBlock=some b:=by
   intro b;rcases hown.2 with ⟨e,_⟩|⟨_,_,_,e,_⟩ <;> rw [e] <;> simp [yE,Value.ownBlock]
  have hpt:Prot g K w':=⟨fun b hb=>let ⟨p1,p2,p3⟩:=hf.pt.same b hb;⟨Nat.lt_of_lt_of_le p1 hgrow.size,(hgrow.block b p1 (fun e=>hf.away i _ b hi rfl ((hbo b).2 e.symm) hb)).trans p2,p3⟩,fun b o h0=>by
   rw [<-hf.pt.kept b o h0];exact World.cell?_of_block (hgrow.block b (hf.lt b o (hf.old b o h0)) (fun e=>by have:=hlow b e.symm;have:=hpl.2 b o h0;omega))⟩
  refine hKK _ _ (h.go _ _ ⟨Zy h1,put_defers h2,K,ρ,⟨hf.below.grown hgrow hf.below.size hlow,hf.old,hf.new,fun b o hk=>Nat.lt_of_lt_of_le (hf.lt b o hk) hgrow.size,hf.others.trans (KeepsOthers.of_grownBy hgrow hcr2),hpt,hf.away.set hi rfl,?_,?_⟩,?_⟩)
  ·intro j e hj;rw [HEnv.get_cons] at hj;split at hj
   ·rename_i e';subst e';simp only [Option.some.injEq] at hj;subst hj;refine ⟨(sortL l).map (Value.int .i64),by rw [List.length_map,zgv];exact hown',hsz,?_,?_⟩
    ·intro k c hc;rw [List.getElem?_map] at hc;cases hk:(sortL l)[k]? with
     | none=>simp [hk] at hc
     | some y =>
      simp [hk] at hc;subst hc;refine ⟨rfl,fun m c hm=>?_⟩;cases m with
      | zero=>simp [PV.cells] at hm;subst hm;exact ⟨.int .i64 y,by simp [hk],rfl,.base _ rfl⟩
      | succ m=>simp [PV.cells] at hm
    ·intro b hb o';rw [List.length_map,zgv];have:=hKK' b hb o';simpa using this
   ·rename_i hne;have hfree:=zkK hfh j e hj (Ne.symm hne);have hok:=hf.heap.ok j e hj;have hblk:e.live=true->∀ b,yE (ρ j)=some b->(ρ i).ownBlock≠some b:=fun hlive b hb e' =>
     hf.heap.apart i j _ e b hne hi hj rfl hlive ((hbo b).2 e') hb
    cases e with
    | cell v =>
     obtain ⟨b,t,arr,u,r1,r2,r3,r4,r5,r6⟩:=hok;have hlt:b < w.heap.size:=(Array.getElem?_eq_some_iff.1 r3).1;have:=hblk rfl b (by rw [r1];rfl);exact ⟨b,t,arr,u,r1,r2,by rw [hgrow.block b hlt (Ne.symm this)];exact r3,r4.free hsome hfree,r5,r6⟩
    | row t sz es =>
     obtain ⟨xs,r1,r2,r3,r4⟩:=hok;refine ⟨xs,r1.kept hgrow ?_,r2,fun k c hc=>⟨(r3 k c hc).1,fun m q hq=>?_⟩,r4⟩
     ·cases hb:(ρ j).ownBlock with
      | none=>exact .inl rfl
      | some b =>
       refine .inr fun e'=>?_
       have hb2:yE (ρ j)=some b:=by
        rcases r1.2 with ⟨e,_⟩|⟨_,_,_,e,_⟩
        ·rw [e] at hb;simp [Value.ownBlock] at hb
        ·rw [e] at hb ⊢;simpa [yE,Value.ownBlock] using hb
       exact hblk rfl b hb2 e'.symm
     ·obtain ⟨v,v1,v2,v3⟩:=(r3 k c hc).2 m q hq;refine ⟨v,v1,v2,v3.free ?_⟩;have hcf:=XE hfree k c hc;cases c <;> simp only [PV.cells] at hq <;> first
       | exact XE hcf m q hq
       | (cases m with
          | zero=>simp at hq;subst hq;exact hcf
          | succ m=>simp at hq)
    | mrow t sz es =>
     obtain ⟨xs,r1,r2,r3,r4⟩:=hok;refine ⟨xs,r1.kept hgrow ?_,r2,fun k c hc=>⟨(r3 k c hc).1,fun m q hq=>?_⟩,r4⟩
     ·cases hb:(ρ j).ownBlock with
      | none=>exact .inl rfl
      | some b =>
       refine .inr fun e'=>?_
       have hb2:yE (ρ j)=some b:=by
        rcases r1.2 with ⟨e,_⟩|⟨_,_,_,e,_⟩
        ·rw [e] at hb;simp [Value.ownBlock] at hb
        ·rw [e] at hb ⊢;simpa [yE,Value.ownBlock] using hb
       exact hblk rfl b hb2 e'.symm
     ·obtain ⟨v,v1,v2,v3⟩:=(r3 k c hc).2 m q hq;refine ⟨v,v1,v2,v3.free ?_⟩;have hcf:=XE hfree k c hc;cases c <;> simp only [PV.cells] at hq <;> first
       | exact XE hcf m q hq
       | (cases m with
          | zero=>simp at hq;subst hq;exact hcf
          | succ m=>simp at hq)
    | dead=>trivial
    | pin v u=>exact ARel.free hsome hok hfree
    | obj X =>
     obtain ⟨b,ob,r1,r2,r3,r4,r5⟩:=hok;have hlt:b < w.heap.size:=(Array.getElem?_eq_some_iff.1 r3).1;have:=hblk rfl b (by rw [r1];rfl);exact ⟨b,ob,r1,r2,by rw [hgrow.block b hlt (Ne.symm this)];exact r3,r4,r5⟩
  ·intro j k e e' bb hjk hj hk' hlj hlk hbj hbk;have e1:∀ (j:Nat) (hh:HE),HEnv.get ((i,.row 3 1 ((sortL l).map pi))::H) j=some hh->hh.live=true->∃ h0,H.get j=some h0/\h0.live=true:=by
    intro j hh hj hl;rw [HEnv.get_cons] at hj;split at hj
    ·rename_i e';subst e';exact ⟨_,hi,rfl⟩
    ·exact ⟨hh,hj,hl⟩
   obtain ⟨a1,a2,a3⟩:=e1 j e hj hlj;obtain ⟨b1,b2,b3⟩:=e1 k e' hk' hlk;exact hf.heap.apart j k a1 b1 bb hjk a2 b2 a3 b3 hbj hbk
  ·rw [hd];refine Yg h1 hdt (fun t av ht=>?_) (.pv _ _ (.tup [] [] rfl zwy63));obtain ⟨v,v1,v2⟩:=he t av (hs t av ht);exact ⟨v,v1,v2.free hsome (zgW hfe t av ht)⟩
end
end Go.Cg
namespace Go.Cg
open Go.RowKit
section
variable {P:Program} {n:Nat} {g:Base} {H:HEnv} {env:Env} {c:Code} {QQ:QC} {K:KK} {w:World} {ρ:Nat->Value}
theorem zbE (b i k:Nat) (e:TypeId) (sz:Nat) {v:AV} {cs:List AV} (hsz:0 < sz) (hb:H.get b=some (.cell v)) (hv:aggOf v=some cs) (hk:cs[k]?=some (.pv (.base (.slice none 0 0)))) (hi:H.get i=none)
  (h:AW P n g c env ((b,.cell (.agg (cs.set k (.own i))))::(i,.mrow e sz [])::H) QQ):AW P n g c env H QQ:=by
 refine ⟨fun a w hinv=>h.go a w ?_⟩;obtain ⟨h1,h2,K,ρ,hf,he⟩:=hinv;have hev:Evo K K w w:=.refl hf.lt;have hne:b≠i:=by rintro rfl;simp [hi] at hb
 have hf2:FS g K (fun j=>if j=i then .slice none 0 0 else ρ j) ((i,.mrow e sz [])::H) w:=hf.fresh hev hi ⟨[],World.ownsRow_nil w _ e sz,hsz,fun i e h=>by simp at h,by simp [Value.ownBlock]⟩ zwy113;have hkk:∀ j,(HEnv.get ((i,HE.mrow e sz [])::H) j).isSome=true->(HEnv.get ((b,.cell (.agg (cs.set k (.own i))))::(i,HE.mrow e sz [])::H) j).isSome=true/\(fun j=>if j=i then Value.slice none 0 0 else ρ j) j=(fun j=>if j=i then Value.slice none 0 0 else ρ j) j:=by
  intro j hj;refine ⟨?_,rfl⟩;simp only [HEnv.get_nil,HEnv.get_cons] at hj ⊢;split
  ·rfl
  ·exact hj
 have hlat:=hev.later hf.lt;refine ⟨h1,h2,K,fun j=>if j=i then .slice none 0 0 else ρ j,⟨hf2.below,hf2.old,hf2.new,hf2.lt,hf2.others,hf2.pt,hf2.away.set (e0:=.cell v) zwy82 rfl,?_,?_⟩,(he.keeps hlat (Zg hi _ _)).keeps hlat hkk⟩
 ·intro j hh hj;simp only [HEnv.get_nil,HEnv.get_cons] at hj;split at hj
  ·rename_i e';subst e';simp only [Option.some.injEq] at hj;subst hj;have hb2:=(hf2.heap.ok b (.cell v) zwy82).keeps hev hf.lt hkk;obtain ⟨b',t',arr,u,hr,hB,hheap,hu,harr,hn⟩:=hb2;refine ⟨b',t',arr,u,hr,hB,hheap,?_,harr,hn⟩;have hu':=hu.aggOf hv;cases hu' with
   | agg _ vs a1 a2 a3 =>
    refine .agg _ vs (by simpa using a1) a2 fun m c x hc hx=>?_
    rw [List.getElem?_set] at hc;split at hc
    ·rename_i e1;subst e1;split at hc
     ·simp only [Option.some.injEq] at hc;subst hc;have:=a3 k _ x hk hx;cases this with
      | pv _ _ hp =>
       cases hp;have:=ARel.own (K:=K) (w:=w) (ρ:=fun j=>if j=i then .slice none 0 0 else ρ j) (H:=(b,.cell (.agg (cs.set k (.own i))))::(i,HE.mrow e sz [])::H) i (by simp [HEnv.get_nil,HEnv.get_cons,hne]);simpa using this
     ·cases hc
    ·exact a3 m c x hc hx
  ·exact (hf2.heap.ok j hh zwy104).keeps hev hf.lt hkk
 ·intro j k' hh hh' bb hjk hj hk' hlj hlk hbj hbk;have e1:∀ (j:Nat) (hh:HE),HEnv.get ((b,.cell (.agg (cs.set k (.own i))))::(i,HE.mrow e sz [])::H) j=some hh->hh.live=true->∃ h0,HEnv.get ((i,HE.mrow e sz [])::H) j=some h0/\h0.live=true:=by
   intro j hh hj hl;rw [HEnv.get_cons] at hj;split at hj
   ·rename_i e';subst e';refine ⟨.cell v,?_,rfl⟩;simp only [HEnv.get_nil,HEnv.get_cons];rw [if_neg (Ne.symm hne)];exact hb
   ·exact ⟨hh,hj,hl⟩
  obtain ⟨a1,a2,a3⟩:=e1 j hh hj hlj;obtain ⟨b1,b2,b3⟩:=e1 k' hh' hk' hlk;exact hf2.heap.apart j k' a1 b1 bb hjk a2 b2 a3 b3 hbj hbk
end
section
variable {P:Program} {tb:Tab} {g:Base} {H:HEnv} {env:Env} {o:Oper} {K:KK} {w:World} {ρ:Nat->Value}
def AL (K:KK) (w:World) (ρ:Nat->Value) (H:HEnv) (cs:List AV) (vs:List Value):Prop:=vs.length=cs.length/\∀ (k:Nat) (c:AV) (v:Value),cs[k]?=some c->vs[k]?=some v->ARel K w ρ H c v
theorem AL.take {cs:List AV} {vs:List Value} (h:AL K w ρ H cs vs) (n:Nat):AL K w ρ H (cs.take n) (vs.take n) :=
 ⟨by simp [h.1],fun k c v hc hv=>by
  rw [List.getElem?_take] at hc hv;split at hc
  ·rename_i hk;rw [if_pos hk] at hv;exact h.2 k c v hc hv
  ·cases hc⟩
theorem AL.drop {cs:List AV} {vs:List Value} (h:AL K w ρ H cs vs) (n:Nat):AL K w ρ H (cs.drop n) (vs.drop n) :=
 ⟨by simp [h.1],fun k c v hc hv=>by
  rw [List.getElem?_drop] at hc hv;exact h.2 _ c v hc hv⟩
theorem AL.append {cs ds:List AV} {vs us:List Value} (h:AL K w ρ H cs vs) (h':AL K w ρ H ds us):AL K w ρ H (cs++ds) (vs++us) :=
 ⟨by simp [h.1,h'.1],fun k c v hc hv=>by
  rw [List.getElem?_append] at hc hv;rw [h.1] at hv;split at hc
  ·rename_i hk;rw [if_pos hk] at hv;exact h.2 k c v hc hv
  ·rename_i hk;rw [if_neg hk] at hv;exact h'.2 _ c v hc hv⟩
def zns (place:Nat->Option (Nat × Nat)):List AV->List (Nat × AV)->Option (List AV)
 | cells,[]=>some cells
 | cells,(i,p)::r =>
  match place i with
  | none=>none
  | some (off,size)=>if p.flat.length=size/\off + size<=cells.length then zns place (cells.take off++p.flat++cells.drop (off + size)) r else none
def zjg (env:Env):List (Nat × Operand)->Option (List (Nat × AV))
 | []=>some []
 | (i,x)::xs=>match env.val x,zjg env xs with|some p,some ps=>some ((i,p)::ps)|_,_=>none
theorem zkl (place:Nat->Option (Nat × Nat)) (hrow:∀ i,isVal H i=true->(ρ i).cells=#[ρ i]/\(ρ i).oneCell'=true):∀ {ps:List (Nat × AV)} {cells cs:List AV} {vcells:Array Value} {vps:List (Nat × Value)},AL K w ρ H cells vcells.toList->ps.map (·.1)=vps.map (·.1) ->
  AL K w ρ H (ps.map (·.2)) (vps.map (·.2))->(ps.all fun x=>x.2.flat.all (zmw H))=true->zns place cells ps=some cs->∃ r,Instr.fill place vcells vps=some r/\AL K w ρ H cs r.toList
 | [],cells,cs,vcells,vps,hc,hi,hp,_,h=>by
  have:vps=[]:=by simpa using hi.symm
  subst this;simp [zns] at h;subst h;exact ⟨vcells,rfl,hc⟩
 | (i,p)::ps,cells,cs,vcells,vps,hc,hi,hp,ho,h=>by
  cases vps with
  | nil=>simp at hi
  | cons x vps =>
   obtain ⟨j,v⟩:=x;simp at hi;obtain ⟨rfl,hi⟩:=hi;simp only [List.map_cons] at hp;have hpv:=hp.2 0 p v rfl rfl;have hps:AL K w ρ H (ps.map (·.2)) (vps.map (·.2)):=⟨by have:=hp.1;simpa using this,fun k c u h1 h2=>hp.2 (k + 1) c u zwy98 (by simpa using h2)⟩
   simp only [List.all_cons,Bool.and_eq_true] at ho;simp only [zns] at h;split at h
   ·cases h
   ·rename_i off size hpl;split at h
    ·rename_i hle;obtain ⟨f1,f2,f3⟩:=zil hpv ho.1 hrow;have hcr:AL K w ρ H p.flat v.cells.toList:=⟨by simpa using f1,f3⟩
     have hsz:v.cells.size=size:=by rw [<-hle.1,f1]
     have hcs:vcells.size=cells.length:=by rw [<-hc.1];simp
     have hfold:=foldl_set off v.cells.toList 0 vcells zwy64;obtain ⟨r,hr1,hr2⟩:=zkl place hrow (vcells:=(v.cells.toList.zipIdx 0).foldl (fun cs (c:Value × Nat)=>cs.setIfInBounds (off + c.2) c.1) vcells) (vps:=vps) (cells:=cells.take off++p.flat++cells.drop (off + size)) (cs:=cs)
      zwy85 (by simpa using hi) hps ho.2 h
     refine ⟨r,?_,hr2⟩;rw [<-hr1];simp only [Instr.fill,hpl];rw [<-Array.foldl_toList,Array.toList_zipIdx,if_neg zwy64]
    ·cases h
theorem zja {a:Act}:∀ {xs:List (Nat × Operand)} {ps:List (Nat × AV)},(∀ x∈xs,∀ av,env.val x.2=some av->ARel K w ρ H av (a.eval x.2))->zjg env xs=some ps ->
  ps.map (·.1)=xs.map (·.1)/\AL K w ρ H (ps.map (·.2)) (xs.map fun x=>a.eval x.2)
 | [],ps,_,h=>by simp [zjg] at h;subst h;exact ⟨rfl,rfl,fun k c v h=>by simp at h⟩
 | (i,x)::xs,ps,hv,h=>by
  simp only [zjg] at h;split at h
  ·rename_i p qs e1 e2;simp only [Option.some.injEq] at h;subst h;obtain ⟨r1,r2⟩:=zja (fun y hy=>hv y zwy120) e2;refine ⟨by simp [r1],by simp [r2.1],fun k c v hc hvv=>?_⟩;cases k with
   | zero=>simp at hc hvv;subst hc hvv;exact hv (i,x) zwy63 _ e1
   | succ k=>exact r2.2 k c v (by simpa using hc) (by simpa using hvv)
  ·cases h
theorem zaV (htb:yZ P tb) {t:Nat} {parts:Array (Nat × Operand)} {fs:List (Nat × Nat × Nat)} {z:Value} {zs:List PV} {ps:List (Nat × AV)} {cs:List AV} (hop:o.op=.build t parts) (hk:∃ q,tb.k t=.agg fs q) (hz:tb.zero t=some z)
  (hzs:zaw z.cells.toList=some zs) (hps:zjg env parts.toList=some ps) (hone:(ps.all fun x=>x.2.flat.all (zmw H))=true) (hall:(fs.all fun f=>tb.known f.2.1&&tb.size f.2.1==f.2.2)=true)
  (hcs:zns (zf7 fs) (zs.map .pv) ps=some cs):QStep P g H o env (.agg cs):=by
 refine ⟨fun K ρ a w hfs hv=>?_⟩;obtain ⟨q,hk⟩:=hk;obtain ⟨F,hF,hfs',_⟩:=zcy htb hk;obtain ⟨h1,h2⟩:=zja (K:=K) (w:=w) (ρ:=ρ) (H:=H) (a:=a) (xs:=parts.toList) (fun x hx=>hv x.2 (by rw [hop];simp [Op.operands];exact ⟨x.1,by simpa using hx⟩)) hps;have hz0:AL K w ρ H (zs.map .pv) z.cells.toList:=by
  have:=VX (K:=K) (w:=w) hzs;refine ⟨by rw [List.length_map];exact this.1,fun k c v hc hvv=>?_⟩;rw [List.getElem?_map] at hc;cases hk2:zs[k]? with
  | none=>simp [hk2] at hc
  | some p=>simp [hk2] at hc;subst hc;exact .pv _ _ (this.2 k p v hk2 hvv)
 obtain ⟨rr,hr1,hr2⟩:=zkl (K:=K) (w:=w) (ρ:=ρ) (H:=H) _ (row_one hfs) (vcells:=z.cells) (vps:=parts.toList.map fun x=>(x.1,a.eval x.2)) hz0 (by simpa [List.map_map,Function.comp_def] using h1) (by simpa [List.map_map,Function.comp_def] using h2) hone hcs;have hzi:∃ i,P.info? t=some i/\i.zero=some z:=by
  unfold Tab.zero at hz;split at hz
  ·rename_i ti hti;obtain ⟨i,e1,_,_,e4,_⟩:=Ym htb hti;exact ⟨i,e1,by rw [e4];exact hz⟩
  ·cases hz
 obtain ⟨i,hi,hiz⟩:=hzi;have hplaces:∀ (l:List Field),(∀ f∈l,f∈F.toList)->(l.mapM fun f=>(Prod.mk f.offset <$> sizeOf f.type:Sem (Nat × Nat))).run P w=.ok (l.map fun f=>(f.offset,tb.size f.type)) w:=by
  intro l;induction l with
  | nil=>intro _;simp
  | cons f l ih =>
   intro hl;have hf:f∈F.toList:=hl f zwy63;have hall':=List.all_eq_true.1 hall (f.offset,f.type,P.cellsOf f.type) zwy89;simp only [Bool.and_eq_true] at hall';have hko:tb.k f.type≠.oth:=by intro e;simp [Tab.known,e] at hall'
   have hs:=run_sizeOf htb hko w;have ih':=ih (fun f hf=>hl f (by simp [hf]));simp [List.mapM_cons,hs,ih']
 have hpl:=hplaces F.toList (fun f hf=>hf);have hfun:zf7 fs=fun i=>((F.toList.map fun f=>(f.offset,tb.size f.type)).toArray)[i]?:=by
  funext i;rw [<-hfs'];simp only [zf7,List.getElem?_map,List.getElem?_toArray,Array.getElem?_toList];cases hfl:F[i]? with
  | none=>rfl
  | some f =>
   simp only [Option.map_some,Option.some.injEq,Prod.mk.injEq,true_and];have hf:f∈F.toList:=by simpa using Array.mem_of_getElem? hfl
   have hall':=List.all_eq_true.1 hall (f.offset,f.type,P.cellsOf f.type) zwy89;simp only [Bool.and_eq_true,beq_iff_eq] at hall';exact hall'.2.symm
 rw [hfun] at hr1;have:(execOp a.eval o).run P w=.ok (.value (.agg rr)) w:=by
  have hm:(F.mapM fun f=>(do pure (f.offset,<-sizeOf f.type):Sem (Nat × Nat))).run P w=.ok (F.toList.map fun f=>(f.offset,tb.size f.type)).toArray w:=by
   rw [Array.mapM_eq_mapM_toList];simp only [bind_pure_comp,Sem.run_map,hpl,Result.andThen_ok]
  have hp2:(parts.map fun x=>(x.1,a.eval x.2)).toList=parts.toList.map fun x=>(x.1,a.eval x.2):=by simp
  simp only [execOp,hop,Instr.build,Sem.run_bind,zeroValue,typeInfo,run_program,hi,hiz,Result.andThen_ok,Sem.run_pure,run_underlying hF,hm,hp2,hr1]
 rw [this];have hone':∀ v∈rr.toList,v.oneCell'=true:=zit _ hr1 (VN hzs) (by
  intro x hx v hv';obtain ⟨k,hk⟩:=List.getElem?_of_mem hx;have hk2:(parts.toList.map fun x=>a.eval x.2)[k]?=some x.2:=by
   rw [List.getElem?_map] at hk ⊢;cases hpk:parts.toList[k]? with
   | none=>rw [hpk] at hk;simp at hk
   | some y=>rw [hpk] at hk;simp at hk;subst hk;rfl
  have hlt:k < (ps.map (·.2)).length:=by rw [<-h2.1];exact (List.getElem?_eq_some_iff.1 hk2).1
  have hp:=List.getElem?_eq_getElem hlt;have hall1:=List.all_eq_true.1 hone (ps[k]'zwy80) (List.getElem_mem _);exact (zil (h2.2 k _ _ hp hk2) (by simpa using hall1) (row_one hfs)).2.1 v hv')
 exact Yq hfs (by have:=ARel.agg (K:=K) (w:=w) (ρ:=ρ) (H:=H) cs rr.toList hr2.1 hone' hr2.2;simpa using this)
theorem zl (htb:yZ P tb) {ty:Nat} {x:Operand} {i off:Nat} {cs:List AV} {ps:List PV} {q:PV} (hop:o.op=.load ty x) (hx:env.val x=some (.box i off)) (hi:H.get i=some (.cell (.agg cs))) (hps:(cs.drop off).take ps.length=ps.map .pv) (hq:zcY tb ty ps 0=some q):QStep P g H o env (.pv q):=by
 refine ⟨fun K ρ a w hf hv=>?_⟩;have hxr:=hv x zwy68 _ hx;generalize hxv:a.eval x=xv at hxr;obtain ⟨b,t,arr,u,hr,hB,hheap,hu,harr,hn⟩:=hf.heap.ok i _ hi;cases hxr with
 | box _ _ b' hi' hρ =>
  rw [hr] at hρ;simp only [Value.pointer.injEq,Option.some.injEq,Addr.mk.injEq,and_true] at hρ;subst hρ;cases hu with
  | agg _ vs a1 a2 a3 =>
   have hcell:∀ (k:Nat) (v:Value),((vs.drop off).take ps.length)[k]?=some v->w.cell? ⟨b,off + k,none⟩=some v:=by
    intro k v hv;rw [List.getElem?_take] at hv;split at hv
    ·rw [List.getElem?_drop] at hv;simp only [World.cell?,hheap];rw [<-harr];simpa [Value.cells] using hv
    ·cases hv
   have hrels:PRels K w ps ((vs.drop off).take ps.length):=by
    have hl:((cs.drop off).take ps.length).length=ps.length:=by rw [hps,List.length_map]
    refine ⟨by rw [List.length_take,List.length_drop] at hl ⊢;rw [a1];exact hl,fun k c v hc hv=>?_⟩;have hck:((cs.drop off).take ps.length)[k]?=some (.pv c):=by rw [hps,List.getElem?_map,hc];rfl
    rw [List.getElem?_take] at hck hv;split at hck
    ·rename_i hk;rw [if_pos hk,List.getElem?_drop] at hv;rw [List.getElem?_drop] at hck;have:=a3 _ _ _ hck hv;cases this with
     | pv _ _ hp=>exact hp
    ·cases hck
   have hone:∀ v∈(vs.drop off).take ps.length,v.oneCell'=true:=fun v hv=>a2 v (List.mem_of_mem_drop (List.mem_of_mem_take hv))
   obtain ⟨v,hv,hvr⟩:=XG htb (b:=b) (o:=off) hcell hrels hone hq;have hrun:(execOp a.eval o).run P w=.ok (.value v) w:=by
    have hv':(loadVar ty ⟨b,off,none⟩).run P w=.ok v w:=hv;simp [execOp,hop,hxv,Instr.loadAt,Instr.sureAddr,hv']
   rw [hrun];exact Yq hf (.pv _ _ hvr)
theorem aj {ty:Nat} {x:Operand} {i off:Nat} {cs:List AV} {ps:List PV} {q:PV} (htb:yZ P tb:=by exact zf) (hop:o.op=.load ty x:=by exact rfl) (hx:env.val x=some (.box i off):=by exact rfl) (hi:H.get i=some (.cell (.agg cs)):=by exact rfl) (hps:(cs.drop off).take ps.length=ps.map .pv:=by exact rfl) (hq:zcY tb ty ps 0=some q:=by exact rfl):QStep P g H o env (.pv q):=zl htb hop hx hi hps hq
end
section
variable {P:Program} {tb:Tab} {n:Nat} {g:Base} {H:HEnv} {env:Env} {ops:List Oper} {o:Oper} {rest:List Oper} {Q:Env->HEnv->Prop} {QQ:QC} {c:Code} {K:KK} {w:World} {ρ:Nat->Value} {a:Act}
def zkJ:AV->Option Bool
 | .box _ _=>some false
 | .pv (.ptr _ _)=>some false
 | .pv (.base (.pointer none))=>some true
 | _=>none
theorem VG {t rt pe:TypeId} {x:Operand} {av:AV} {b:Bool} (hop:o.op=.binOp .eql t x (.const (.pointer none)) rt) (hu0:P.underlying t=some (.pointer pe)) (hx:env.val x=some av) (hn:zkJ av=some b):QStep P g H o env (.pv (.base (.bool b))):=by
 have hu:P.underlying t=some (.pointer (P.pointee t)):=by rw [hu0,Program.pointee,hu0]
 refine ⟨fun K ρ a w hf hv=>?_⟩;have hxr:=hv x zwy68 _ hx;generalize hxv:a.eval x=xv at hxr;have key:∀ p:Option Addr,xv=.pointer p->p.isNone=b->zjB P K ρ H w (.pv (.base (.bool b))) ((execOp a.eval o).run P w):=by
  rintro p rfl rfl;have h1:=run_eql_pointer_nil (P:=P) w t p hu;have h2:a.eval (.const (.pointer none))=.pointer none:=rfl;have hrun:(execOp a.eval o).run P w=.ok (.value (.bool p.isNone)) w:=by
   simp [execOp,hop,hxv,h2,eqGuard,h1]
  rw [hrun];exact Yq hf (.pv _ _ (.base _ rfl))
 cases hxr with
 | box i off b' hi hb=>simp only [zkJ,Option.some.injEq] at hn;exact key _ rfl (by simpa using hn)
 | pv p v hp =>
  cases hp with
  | ptr=>simp only [zkJ,Option.some.injEq] at hn;exact key _ rfl (by simpa using hn)
  | base v hb =>
   cases xv <;> simp only [zkJ] at hn <;> try cases hn
   rename_i p;cases p with
   | none=>simp only [Option.some.injEq] at hn;exact key _ rfl (by simpa using hn)
   | some ad=>cases hn
  | _=>simp [zkJ] at hn
 | _=>simp [zkJ] at hn
def zx2 (ρ:Nat->Value) (H:HEnv):AV->Option PV
 | .pv p=>some p
 | .own i=>match H.get i with
  | some (.mrow _ sz es)=>some (.slc sz es false)
  | some (.obj _)=>some (.base (ρ i))
  | _=>none
 | _=>none
def cut (sz:Nat) (u:Value) (l h:Nat):Value:=match u with
 | .slice (some a) _ c=>.slice (some ⟨a.block,l * sz,none⟩) (h - l) (c - l)
 | v=>v
theorem zxe (sz:Nat) (u:Value) (l h:Nat) (hu:∃ a n c,u=.slice (some a) n c):Xh (cut sz u l h)=true:=by
 obtain ⟨a,n,c,rfl⟩:=hu;rfl
theorem zgb (htb:yZ P tb) {t e d:Nat} {x:Operand} {lo hi:Option Operand} (i j:Nat) {sz:Nat} {es:List PV} {l h:Int} (hg:guardE ops env o=some true) (hop:o.op=.slice t x lo hi none) (hk:tb.k t=.sl e) (hke:tb.known e=true) (hsz:tb.size e=sz)
  (hx:env.val x=some (.own i)) (hi':H.get i=some (.mrow e sz es)) (hlo:Xb env H 0 lo=some l) (hhi:Xb env H es.length hi=some h) (h0:0<=l) (h1:l<=h) (h2:h<=es.length) (h3:l < es.length) (hj:H.get j=none) (hd:o.dst=some d) (ht:Nat.blt d n=true)
  (k:∀ u,AO P n g ops.toArray rest ((d,.pv (.base (cut sz u l.toNat h.toNat)))::env) ((j,.pin (.own i) u)::H) Q):AO P n g ops.toArray (o::rest) env H Q:=by
 refine ⟨fun a w hinv=>?_⟩;have hw:=qx hinv hg;obtain ⟨g1,g2,K,ρ,hf,he⟩:=hinv;refine wpList_step fun KK hKK=>?_
 rw [if_pos hw];have hxr:=qO he hx;generalize hxv:a.eval x=xv at hxr;have el:=zaJ (a:=a) hf (x:=lo) (fun y hy av hh=>qO he hh) hlo;have eh:=zaJ (a:=a) hf (x:=hi) (fun y hy av hh=>qO he hh) hhi;have hko:tb.k e≠.oth:=by intro h;simp [Tab.known,h] at hke
 have hs:=run_sizeOf htb hko w;have hh0:0<=h:=by omega
 have hlh:l<=((h.toNat:Nat):Int):=by omega
 have bounds:∀ cap:Nat,es.length<=cap->(Instr.sliceBounds true es.length cap (lo.map a.eval) (hi.map a.eval) none).run P w=.ok (l.toNat,h.toNat,cap) w:=by
  intro cap hcap;have hhc:h<=(cap:Int):=by omega
  rcases el with ⟨rfl,rfl⟩|⟨y,k,rfl,hy⟩ <;> rcases eh with ⟨rfl,rfl⟩|⟨z,k',rfl,hz⟩
  ·simp [Instr.sliceBounds]
  ·simp [hz,Instr.sliceBounds,Instr.sliceBound,asIntOf,hhc,hh0]
  ·simp [hy,Instr.sliceBounds,Instr.sliceBound,asIntOf,h0,h1]
  ·simp [hy,hz,Instr.sliceBounds,Instr.sliceBound,asIntOf,h0,hlh,hhc,hh0];intro hc;omega
 obtain ⟨xs,hown,hz0,hcr,hnK⟩:=hf.heap.ok i _ hi';cases hxr with
 | own _ hi0 =>
  rcases hown.2 with ⟨hr,hz⟩|⟨b,cap,cur,hr,hB,hheap,hle,hcap,hsize,htake⟩
  ·omega
  ·have hb:=bounds cap hle;have hrun:(execOp a.eval o).run P w=.ok (.value (cut sz (ρ i) l.toNat h.toNat)) w:=by
    rw [hr];have hne:¬ cap=l.toNat:=by omega
    simp [execOp,hop,hxv,hr,Instr.sliceAt,Instr.slice,run_underlying (Zd htb hk),hb,hs,hsz,Addr.add_lit,cut,hne]
   unfold Oper.wp;rw [hrun];simp only [Oper.upon];have hkk:∀ m,(H.get m).isSome=true->(HEnv.get ((j,.pin (.own i) (ρ i))::H) m).isSome=true/\(fun m=>if m=j then undef else ρ m) m=ρ m:=by
    intro m hm;have hmj:m≠j:=by rintro rfl;rw [hj] at hm;cases hm
    refine ⟨?_,by simp [hmj]⟩;rw [HEnv.get_cons];split <;> first|rfl|exact hm
   have hij:i≠j:=by rintro rfl;rw [hj] at hi';cases hi'
   refine hKK _ _ ((k (ρ i)).go _ _ ⟨Zy g1,put_defers g2,K,ρ,⟨hf.below,hf.old,hf.new,hf.lt,hf.others,hf.pt,?_,?_,?_⟩,?_⟩)
   ·intro m hh bb hm hl hbb;rw [HEnv.get_cons] at hm;split at hm
    ·simp only [Option.some.injEq] at hm;subst hm;simp [HE.live] at hl
    ·exact hf.away m hh bb hm hl hbb
   ·intro m hh hm;have hkk':∀ m,(H.get m).isSome=true->(HEnv.get ((j,.pin (.own i) (ρ i))::H) m).isSome=true/\ρ m=ρ m:=fun m hm=>⟨(hkk m hm).1,rfl⟩
    rw [HEnv.get_cons] at hm;split at hm
    ·simp only [Option.some.injEq] at hm;subst hm;have hold:ARel K w ρ H (.own i) (ρ i):=.own i (by rw [hi'];rfl);exact hold.keeps (.refl K w) hkk'
    ·exact (hf.heap.ok m hh hm).keeps (.refl hf.lt) hf.lt hkk'
   ·intro m m' hh hh' bb hmm hm hm' hl hl' hb1 hb2;have hq:∀ m hh,HEnv.get ((j,.pin (.own i) (ρ i))::H) m=some hh->hh.live=true->H.get m=some hh:=by
     intro m hh hm hl;rw [HEnv.get_cons] at hm;split at hm
     ·simp only [Option.some.injEq] at hm;subst hm;simp [HE.live] at hl
     ·exact hm
    exact hf.heap.apart m m' hh hh' bb hmm (hq m hh hm hl) (hq m' hh' hm' hl') hl hl' hb1 hb2
   ·rw [hd];refine Yg g1 ht (he.keeps (.refl K w) (fun m hm=>⟨(hkk m hm).1,rfl⟩)) (.pv _ _ (.base _ (zxe _ _ _ _ ⟨_,_,_,hr⟩)))
end
section
variable {P:Program} {tb:Tab} {n:Nat} {g:Base} {H:HEnv} {env:Env} {QQ:QC} {c:Code} {K:KK} {w:World} {ρ:Nat->Value}
theorem zdK (hf:FS g K ρ H w) {i t sz:Nat} {es:List PV} (hi:H.get i=some (.row t sz es)) {v:Value} (h:ARel K w ρ H (.own i) v):PRel K w (.slc sz es false) v :=
 zcQ hf h (by simp [AV.cellPV,hi])
theorem zij (b i k:Nat) {t sz:Nat} {es:List PV} {cs:List AV} (hb:H.get b=some (.cell (.agg cs))) (hk:cs[k]?=some (.own i)) (hi:H.get i=some (.row t sz es)) (kk:AW P n g c env ((b,.cell (.agg (cs.set k (.pv (.slc sz es false)))))::H) QQ):AW P n g c env H QQ:=by
 refine ⟨fun a w hinv=>?_⟩;obtain ⟨g1,g2,K,ρ,hf,he⟩:=hinv;have hkk:∀ m,(H.get m).isSome=true->(HEnv.get ((b,.cell (.agg (cs.set k (.pv (.slc sz es false)))))::H) m).isSome=true/\ρ m=ρ m:=by
  intro m hm;refine ⟨?_,rfl⟩;rw [HEnv.get_cons];split <;> first|rfl|exact hm
 have hlv:∀ m x,HEnv.get ((b,.cell (.agg (cs.set k (.pv (.slc sz es false)))))::H) m=some x->x.live=true->∃ h0,H.get m=some h0/\h0.live=true:=by
  intro m x hm hl;rw [HEnv.get_cons] at hm;split at hm
  ·rename_i e;subst e;exact ⟨_,hb,rfl⟩
  ·exact ⟨x,hm,hl⟩
 refine kk.go a w ⟨g1,g2,K,ρ,⟨hf.below,hf.old,hf.new,hf.lt,hf.others,hf.pt,fun m x b2 hm hl hb2=>?_,fun m x hm=>?_,fun m m' x x' b2 hmm hm hm' hl hl'=>?_⟩,he.keeps (.refl K w) hkk⟩
 ·obtain ⟨h0,a1,a2⟩:=hlv m x hm hl;exact hf.away m h0 b2 a1 a2 hb2
 ·rw [HEnv.get_cons] at hm;split at hm
  ·rename_i e;subst e;simp only [Option.some.injEq] at hm;subst hm;obtain ⟨b',t',arr,x',q1,q2,q3,q4,q5,q6⟩:=hf.heap.ok b _ hb;refine ⟨b',t',arr,x',q1,q2,q3,?_,q5,q6⟩;cases q4 with
   | agg _ vs a1 a2 a3 =>
    refine .agg _ vs (by simpa using a1) a2 fun m c v hc hv=>?_
    rw [List.getElem?_set] at hc;split at hc
    ·rename_i e1;subst e1;split at hc
     ·simp only [Option.some.injEq] at hc;subst hc;exact .pv _ _ (zdK hf hi (a3 k _ v hk hv))
     ·cases hc
    ·exact (a3 m c v hc hv).keeps (.refl K w) hkk
  ·exact (hf.heap.ok m x hm).keeps (.refl hf.lt) hf.lt hkk
 ·obtain ⟨h0,a1,a2⟩:=hlv m x hm hl;obtain ⟨h0',c1,c2⟩:=hlv m' x' hm' hl';exact hf.heap.apart m m' h0 h0' b2 hmm a1 c1 a2 c2
end
end Go.Cg
namespace Go.Cg
section
variable {P:Program} {n:Nat} {g:Base} {H:HEnv} {env:Env} {QQ:QC} {c:Code} {Q:Env->HEnv->Prop} {ops:List Oper}
end
end Go.Cg
namespace Go.Cg
open Go.RowKit
section
variable {P:Program} {tb:Tab} {n:Nat} {g:Base} {K:KK} {w:World} {ρ:Nat->Value} {H:HEnv} {env:Env} {a:Act} {ops:List Oper} {o:Oper} {rest:List Oper} {Q:Env->HEnv->Prop}
end
end Go.Cg
