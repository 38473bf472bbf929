/- A part of the walks by abstract values: no statement of its own. -/
import Derived.JoinedOf
import Derived.Test.YtemhfmmhkimhmaaGreatV6
import Derived.Test.YtemhfmmhkimhmaaGreatV8
import Derived.Sort.OwnSortedInts
set_option linter.unusedVariables false
set_option linter.unusedSimpArgs false
namespace Go.Cg
open Go
theorem zrd {P:Program} {f:FuncId} {fn:Func} {s:ChangeSpec} {c:OpenClaim}
  (a1:laidOutB P=true) (a2:mapsRowed P=true) (a3:P.stopsHeard=true) (a4:P.mayEnter=true) (a5:P.liftsFinal=c.lifted) (a6:P.make=some c.make)
  (b1:P.inPlace f=c.inPlace) (b2:P.unfollowed f=c.unfollowed) (b3:P.recurses f=c.recurses) (b4:P.varsNamed f=c.named)
  (rest:(c.wf (OpenSpec.ofChange s)&&fn.params.all (P.readableRec ·)&&namedTie P c.named s.vars &&
   (c.stops==[])&&(P.stops==[])&&(c.knobs==[])&&(P.stopKnobs==[]) &&
   (c.maps==(fn.params.toList++s.plain.varTypes P).any (P.mapsRec ·))&&(c.ifaces==(fn.params.toList++s.plain.varTypes P).any (P.ifacesRec ·))&&(c.mapsOut==P.mapsAmong fn.resultTypes.toList) &&
   (c.loops==(fn.params.toList++s.plain.varTypes P).any (P.loopsFrom ·))&&(c.wideKeys==(fn.params.toList++s.plain.varTypes P++fn.resultTypes.toList).any (P.wideKeysFrom ·)) &&
   s.vars.all (P.varReadable ·)&&fn.resultTypes.all (fun t=>P.readableRec t&&decide (t < P.types.size))&&(c.ifacesOut==fn.resultTypes.toList.any (P.ifacesRec ·))&&(c.loopsOut==fn.resultTypes.toList.any (P.loopsFrom ·))&&(c.plainKeys==P.plainKeys)&&c.shortTexts.isNone&&(c.kinds==(if c.domain.isEmpty then [] else fn.params.toList.map fun t=>match P.underlying t with|some (.int k)=>some k|_=>none))&&(c.pinned==c.pinnedBy) &&
   (c.veiled==(fn.params.toList++s.plain.varTypes P++fn.resultTypes.toList).any (P.veiledRec ·))&&c.veiledFits P fn.params.toList (fn.params.toList++s.plain.varTypes P++fn.resultTypes.toList))=true):joinedFacts P f fn s c=true:=by
 unfold joinedFacts;rw [a1,a2,a3,a4,a5,a6,b1,b2,b3,b4];simp only [Bool.and_eq_true,beq_self_eq_true,and_true,true_and] at rest ⊢;exact rest
end Go.Cg
namespace Go.Cg
open Go.RowKit Go.Maps Go.WideElems Go.ChangeMaps Go.MapKept
def MapSet (P:Program) (kt et:TypeId) (met:List Int) (o:Obj):Prop :=
 ∃ es clock,o=.map es clock/\Fit (H:=Unit) P kt (plainElem P et) es clock/\es.size<=met.length /\
  ∀ x,(Lit.int .i64 x).wf=true->(DataW.map ((es.toList.map (rg P kt (plainElem (H:=Unit) P et))).foldr DataW.insert [])).atKey (.int .i64 x) (.lit (.int .i64 0))=.lit (.int .i64 (if x∈met then 1 else 0))
section
variable {P:Program} {tb:Tab} {n:Nat} {g:Base} {K:KK} {w:World} {ρ:Nat->Value} {H:HEnv} {env:Env} {a:Act} {ops:List Oper} {o:Oper} {rest:List Oper} {Q:Env->HEnv->Prop}
theorem zpB (kt et:TypeId):MapSet P kt et [] (.map #[] 0) :=
 ⟨#[],0,rfl,⟨by simp,stamped_empty 0,by simp⟩,Nat.le_refl _,fun x _=>by simp;rfl⟩
theorem zpH {t kt et d:Nat} (i:Nat) (hg:guardE ops env o=some true) (hop:o.op=.makeMap t none) (hi:H.get i=none) (hd:o.dst=some d) (ht:Nat.blt d n=true)
  (h:AO P n g ops.toArray rest ((d,.own i)::env) ((i,.obj (MapSet P kt et []))::H) Q):AO P n g ops.toArray (o::rest) env H Q:=by
 refine ⟨fun a w hinv=>?_⟩;have hw:=qw hinv hg;obtain ⟨h1,h2,K,ρ,hf,he⟩:=hinv;refine wpList_step fun KK hKK=>?_
 rw [if_pos hw];have hrun:(execOp a.eval o).run P w=.ok (.value (.map (some w.heap.size))) (w.alloc (.map #[] 0)):=by
  simp [execOp,hop,run_makeMap]
 unfold Oper.wp;rw [hrun];simp only [Oper.upon];have hev:Evo K K w (w.alloc (.map #[] 0)):=⟨(Below.refl _ _).alloc (Nat.le_refl _) _,fun _ _ h=>h,fun _ _ h=>.inl h,fun b o h=>by have:=hf.lt b o h;simp;omega⟩
 refine hKK _ _ (h.go _ _ ⟨Zm h1,put_defers h2,K,fun j=>if j=i then .map (some w.heap.size) else ρ j,hf.fresh hev hi ⟨w.heap.size,.map #[] 0,rfl,hf.below.size,heap_alloc_new w _,zpB kt et,fun o ho=>by have:=hf.lt _ o ho;omega⟩ zwy111,?_⟩);rw [hd];have:=ARel.own (K:=K) (w:=w.alloc (.map #[] 0)) (ρ:=fun j=>if j=i then .map (some w.heap.size) else ρ j) (H:=(i,HE.obj (MapSet P kt et []))::H) i (by simp [HEnv.get_cons]);exact Ye h1 ht (he.keeps (hev.later hf.lt) (ZB hi _ _)) (by simpa using this)
theorem zpT {kt et:TypeId} {met:List Int} {b:Nat} {ob:Obj} (hb:w.heap[b]?=some ob) (h:MapSet P kt et met ob) :
  ∃ D:DataW Unit,w.ownsMap P kt (plainElem P et) b met.length D/\∀ x,(Lit.int .i64 x).wf=true->D.atKey (.int .i64 x) (.lit (.int .i64 0))=.lit (.int .i64 (if x∈met then 1 else 0)):=by
 obtain ⟨es,clock,rfl,F,hs,hat⟩:=h;exact ⟨_,⟨es,clock,hb,F,hs,rfl⟩,hat⟩
theorem zqj {t kt et:Nat} (htb:qm P tb) (h:tb.k t=.map kt et):P.underlying t=some (.map kt et):=by
 obtain ⟨d,i,h1,_,_,h2⟩:=zaF htb h zwy63;cases d <;> simp [ziY] at h2;obtain ⟨rfl,rfl⟩:=h2;exact h1
theorem ztL {t kt et:Nat} {m x:Operand} {i:Nat} {met:List Int} {k:Int} (htb:qm P tb) (hop:o.op=.lookup t m x false) (hk:tb.k t=.map kt et) (hkt:tb.k kt=.int .i64) (het:tb.k et=.int .i64) (hz:tb.zero et=some (.int .i64 0))
  (hm:env.val m=some (.own i)) (hi:H.get i=some (.obj (MapSet P kt et met))) (hx:env.pv H x=some (.base (.int .i64 k))) (hwf:(Lit.int .i64 k).wf=true) :
  QStep P g H o env (.pv (.base (.int .i64 (if k∈met then 1 else 0)))):=by
 refine ⟨fun K ρ a w hf hv=>?_⟩;have hmr:=hv m zwy68 _ hm;have hxr:=qA hf (hv x zwy68) hx;generalize hmv:a.eval m=mv at hmr;generalize hxv:a.eval x=xv at hxr;cases hxr;obtain ⟨b,ob,hr,hB,hheap,hX,hn⟩:=hf.heap.ok i _ hi;cases hmr with
 | own _ _ =>
  obtain ⟨D,hown,hat⟩:=zpT hheap hX;have hzi:(zeroValue et).run P w=.ok (.int .i64 0) w:=by
   unfold Tab.zero at hz;split at hz
   ·rename_i ti hti;obtain ⟨i,e1,_,_,e4,_⟩:=Yi htb hti;simp [zeroValue,typeInfo,e1,e4,hz]
   ·cases hz
  obtain ⟨c,hrun,hc,hwc⟩:=hown.lookup_int (t:=t) (int_keyed (zaG htb hkt)) (zqj htb hk) (zaG htb het) hzi (keyOf_int_mk (zaG htb hkt) hwf);rw [hat k hwf] at hc;simp only [DataW.lit.injEq,Lit.int.injEq,true_and] at hc;subst hc;have:(execOp a.eval o).run P w=.ok (.value (.int .i64 (if k∈met then 1 else 0))) w:=by
   rw [<-hr] at hrun;simp [execOp,hop,hmv,hxv,hrun,Result.andThen]
  rw [this];exact Yq hf (.pv _ _ (.base _ rfl))
theorem zj1 {t kt et:Nat} {m x:Operand} {i:Nat} {met:List Int} {k c:Int} (hc:(if k∈met then (1:Int) else 0)=c) (htb:qm P tb) (hop:o.op=.lookup t m x false) (hk:tb.k t=.map kt et) (hkt:tb.k kt=.int .i64) (het:tb.k et=.int .i64) (hz:tb.zero et=some (.int .i64 0))
  (hm:env.val m=some (.own i)) (hi:H.get i=some (.obj (MapSet P kt et met))) (hx:env.pv H x=some (.base (.int .i64 k))) (hwf:(Lit.int .i64 k).wf=true) :
  QStep P g H o env (.pv (.base (.int .i64 c))):=by
 subst hc;exact ztL htb hop hk hkt het hz hm hi hx hwf
theorem zu4 {l:List Oper} (env2:Env) (H2:HEnv) (hs:Sub env env2) (hf:QM H H2 env2) (h:AO P n g ops.toArray l env2 H2 Q):AO P n g ops.toArray l env H Q:=⟨fun a w hi=>h.go a w ((hi.sub hs).hsub hf)⟩
theorem zk4 {t kt et:Nat} {m x v:Operand} {i:Nat} {met:List Int} {k:Int} (hw1:g.w1.heap.size=0) (htb:qm P tb) (hg:guardE ops env o=some true) (hop:o.op=.mapUpdate t m x v) (hk:tb.k t=.map kt et) (hkt:tb.k kt=.int .i64) (het:tb.k et=.int .i64)
  (hm:env.val m=some (.own i)) (hi:H.get i=some (.obj (MapSet P kt et met))) (hx:env.pv H x=some (.base (.int .i64 k))) (hv:env.pv H v=some (.base (.int .i64 1))) (hwf:(Lit.int .i64 k).wf=true) (hlen:met.length < maxLen) (hd:o.dst=none)
  (h:AO P n g ops.toArray rest env ((i,.obj (MapSet P kt et (met++[k])))::H) Q):AO P n g ops.toArray (o::rest) env H Q:=by
 refine ⟨fun a w hinv=>?_⟩;have hw:=qw hinv hg;obtain ⟨h1,h2,K,ρ,hf,he⟩:=hinv;refine wpList_step fun KK hKK=>?_
 rw [if_pos hw];have hmr:=qI he hm;have hxr:=qA (a:=a) hf (x:=x) (fun av hh=>qI he hh) hx;have hvr:=qA (a:=a) hf (x:=v) (fun av hh=>qI he hh) hv;generalize hmv:a.eval m=mv at hmr;generalize hxv:a.eval x=xv at hxr;generalize hvv:a.eval v=vv at hvr;cases hxr;cases hvr;obtain ⟨b,ob,hr,hB,hheap,hX,hnK⟩:=hf.heap.ok i _ hi;cases hmr with
 | own _ _ =>
  obtain ⟨D,hown,hat⟩:=zpT hheap hX;have h1wf:(Lit.int .i64 1).wf=true:=by decide
  obtain ⟨w',hrun,hown',hgrow⟩:=hown.update (t:=t) (int_keyed (zaG htb hkt)) (zqj htb hk) hlen (val:=.int .i64 1) (keyOf_int_mk (zaG htb hkt) hwf) (plainElem_int (zaG htb het) h1wf);have hrun':(execOp a.eval o).run P w=.ok .skip w':=by
   rw [<-hr] at hrun;simp [execOp,hop,hmv,hxv,hvv,hrun,Result.andThen]
  have hX':∃ ob',w'.heap[b]?=some ob'/\MapSet P kt et (met++[k]) ob':=by
   obtain ⟨es,clock,hb,F,hs,hD⟩:=hown';refine ⟨_,hb,es,clock,rfl,F,by simpa using hs,fun y hy=>?_⟩;rw [<-hD];by_cases e:y=k
   ·subst e;rw [atKey_put_same hown.isMap (by simp [WideAt.IsKeyLit])];simp
   ·rw [atKey_put_other (by simpa using e),hat y hy];simp [e]
  obtain ⟨ob',hb',hX2⟩:=hX';unfold Oper.wp;rw [hrun'];simp only [Oper.upon];have hlat:Later K K w w':=⟨fun _ _ h=>h,fun b' o hk=>by
   have hne:b'≠b:=by rintro rfl;exact hnK o hk
   exact World.cell?_of_block (hgrow.block b' (hf.lt b' o hk) (by simp [hne]))⟩
  have hkeep:∀ j,(H.get j).isSome=true->(HEnv.get ((i,.obj (MapSet P kt et (met++[k])))::H) j).isSome=true/\ρ j=ρ j:=by
   intro j hj;refine ⟨?_,rfl⟩;simp only [HEnv.get_nil,HEnv.get_cons];split
   ·rfl
   ·exact hj
  have hd':a.put o.dst undef=a:=by rw [hd];rfl
  rw [hd'];refine hKK _ _ (h.go _ _ ⟨h1,h2,K,ρ,⟨hf.below.grown hgrow hf.below.size (fun k hk=>by simp at hk;omega),hf.old,hf.new,fun b o hk=>Nat.lt_of_lt_of_le (hf.lt b o hk) hgrow.size,⟨by rw [hw1];omega,fun k o hk=>by have:=(Array.getElem?_eq_some_iff.1 hk).1;omega⟩,hf.pt.grown hf.old hgrow hlat (fun b2 hb2=>by cases hb2;exact hf.away i _ b hi rfl zwy121) (fun _ _ h=>.inl h),hf.away.set hi rfl,?_,?_⟩,he.keeps hlat hkeep⟩)
  ·intro j e hj;simp only [HEnv.get_nil,HEnv.get_cons] at hj;split at hj
   ·rename_i e';subst e';simp only [Option.some.injEq] at hj;subst hj;exact ⟨b,ob',hr,hB,hb',hX2,hnK⟩
   ·rename_i hne;by_cases hlive:e.live=true
    ·have:=(hf.heap.ok j e hj).grown (f:=id) hgrow hlat (fun b o h=>.inl h) (fun av v h=>h.keeps hlat hkeep) hlive (fun b' hb' e'=>by
      simp at e';subst e';exact hf.heap.apart i j _ e b hne hi hj rfl hlive zwy121 hb')
     cases e <;> exact this
    ·cases e <;> simp [HE.live] at hlive
     ·trivial
     ·exact ARel.keeps hlat hkeep (hf.heap.ok j _ hj)
  ·intro j k2 e e' bb hjk hj hk' hlj hlk hbj hbk;have e1:∀ (j:Nat) (hh:HE),HEnv.get ((i,.obj (MapSet P kt et (met++[k])))::H) j=some hh->hh.live=true->∃ h0,H.get j=some h0/\h0.live=true:=by
    intro j hh hj hl;rw [HEnv.get_cons] at hj;split at hj
    ·rename_i e';subst e';exact ⟨_,hi,rfl⟩
    ·exact ⟨hh,hj,hl⟩
   obtain ⟨a1,a2,a3⟩:=e1 j e hj hlj;obtain ⟨b1,b2,b3⟩:=e1 k2 e' hk' hlk;exact hf.heap.apart j k2 a1 b1 bb hjk a2 b2 a3 b3 hbj hbk
end
end Go.Cg
namespace Go.Cg
open Go.RowKit
def PTells (a b:PV):Prop:=∀ (K:KK) (w:World) (v:Value),PRel K w a v->PRel K w b v
theorem PTells.refl (a:PV):PTells a a:=fun _ _ _ h=>h
def PTL (cs ds:List PV):Prop:=cs.length=ds.length/\∀ (k:Nat) (c d:PV),cs[k]?=some c->ds[k]?=some d->PTells c d
theorem zbr:PTL [] []:=⟨rfl,by simp⟩
theorem qo {c d:PV} {cs ds:List PV} (h:PTells c d) (hs:PTL cs ds):PTL (c::cs) (d::ds):=by
 refine ⟨by simp [hs.1],fun k c' d' hc hd=>?_⟩;cases k with
 | zero=>simp at hc hd;subst hc hd;exact h
 | succ k=>exact hs.2 k c' d' (by simpa using hc) (by simpa using hd)
theorem za8 (sz:Nat) (f:Bool):PTells (.base (.slice none 0 0)) (.slc sz [] f):=fun K w v h=>by cases h;exact .nil sz f
theorem zwj {cs ds:List PV} (h:PTL cs ds):PTells (.agg cs) (.agg ds):=fun K w v hp=>by
 cases hp with
 | agg _ vs hl ho hr =>
  refine .agg ds vs (by rw [hl,h.1]) ho fun k d v hd hv=>?_
  have hk:k < cs.length:=by
   rcases Nat.lt_or_ge k cs.length with h'|h'
   ·exact h'
   ·rw [List.getElem?_eq_none zwy62] at hv;cases hv
  exact h.2 k _ d (List.getElem?_eq_getElem hk) hd K w v (hr k _ v (List.getElem?_eq_getElem hk) hv)
def PCL (es ds:List PV):Prop:=es.length=ds.length/\∀ (k:Nat) (c d:PV),es[k]?=some c->ds[k]?=some d->PTL c.cells d.cells
theorem zeO:PCL [] []:=⟨rfl,by simp⟩
theorem zcf {c d:PV} {cs ds:List PV} (h:PTL c.cells d.cells) (hs:PCL cs ds):PCL (c::cs) (d::ds):=by
 refine ⟨by simp [hs.1],fun k c' d' hc hd=>?_⟩;cases k with
 | zero=>simp at hc hd;subst hc hd;exact h
 | succ k=>exact hs.2 k c' d' (by simpa using hc) (by simpa using hd)
theorem ziu {sz:Nat} {es ds:List PV} {f:Bool} (h:PCL es ds):PTells (.slc sz es f) (.slc sz ds false):=fun K w v hp=>by
 obtain ⟨hl,hc⟩:=h;cases hp with
 | nil=>have:ds=[]:=List.eq_nil_of_length_eq_zero (by simpa using hl.symm);subst this;exact .nil sz false
 | emp _ _ a=>have:ds=[]:=List.eq_nil_of_length_eq_zero (by simpa using hl.symm);subst this;exact .emp sz false a
 | slc _ _ _ b o cap vss h0 h1 h2 h3 h4 h5 h6 =>
  rw [hl];have hget:∀ (i:Nat) (d:PV),ds[i]?=some d->∃ e,es[i]?=some e:=fun i d hd=>by
   have:i < es.length:=by
    rcases Nat.lt_or_ge i es.length with h'|h'
    ·exact h'
    ·rw [List.getElem?_eq_none zwy62] at hd;cases hd
   exact ⟨_,List.getElem?_eq_getElem this⟩
  refine .slc sz ds false b o cap vss h0 zwy62 zwy63 zwy62 h4 (fun i d hd=>?_) (fun i d k c v hd hk hv=>?_)
  ·obtain ⟨e,he⟩:=hget i d hd;obtain ⟨a1,a2,a3⟩:=h5 i e he;exact ⟨by rw [<-(hc i e d he hd).1];exact a1,a2,a3⟩
  ·obtain ⟨e,he⟩:=hget i d hd;have hh:=hc i e d he hd;have hk':k < e.cells.length:=by
    rcases Nat.lt_or_ge k e.cells.length with h'|h'
    ·exact h'
    ·rw [List.getElem?_eq_none (by rw [<-hh.1];exact h')] at hk;cases hk
   exact hh.2 k _ c (List.getElem?_eq_getElem hk') hk K w v (h6 i e k _ v he (List.getElem?_eq_getElem hk') hv)
theorem PTells.tells {a b:PV} (h:PTells a b):Tells (.pv a) (.pv b):=fun K w ρ H v hr=>by
 cases hr with|pv _ _ hp=>exact .pv _ _ (h K w v hp)
section
variable {P:Program} {n:Nat} {g:Base} {H:HEnv} {env:Env} {a:Act} {w:World} {ops:List Oper} {Q:Env->HEnv->Prop} {c:Code} {QQ:QC}
theorem zqJ {t:Nat} {x y:AV} (ht:env.get t=some x) (h:Tells x y) (hinv:Inv n g env H a w):Inv n g ((t,y)::env) H a w:=by
 obtain ⟨h1,h2,K,ρ,hf,he⟩:=hinv;refine ⟨h1,h2,K,ρ,hf,fun t' av hg=>?_⟩;rw [Env.get_cons] at hg;split at hg
 ·rename_i e;subst e;simp only [Option.some.injEq] at hg;subst hg;obtain ⟨v,hv,hr⟩:=he _ _ ht;exact ⟨v,hv,h K w ρ H v hr⟩
 ·exact he _ _ hg
theorem zeT {l:List Oper} {x y:PV} (t:Nat) (h:PTells x y) (ht:env.get t=some (.pv x)) (k:AO P n g ops.toArray l ((t,.pv y)::env) H Q):AO P n g ops.toArray l env H Q :=
 ⟨fun a w hi=>k.go a w (zqJ ht h.tells hi)⟩
theorem zpn {t i off:Nat} {p:PV} (hp:p.notTup=true) (ht:env.get t=some (.box i off)) (hi:H.get i=some (.cell (.pv p))) (hinv:Inv n g env H a w):Inv n g ((t,.pv (.ptr p off))::env) ((i,.dead)::H) a w:=by
 obtain ⟨h1,h2,K,ρ,hf,he⟩:=hinv;obtain ⟨b,ty,arr,u,hr,hB,hheap,hu,harr,hn⟩:=hf.heap.ok i _ hi;obtain ⟨K',hK'⟩:∃ K':KK,∀ b' o,K' b' o↔(K b' o\/(b'=b/\o < arr.size)):=⟨fun b' o=>K b' o\/(b'=b/\o < arr.size),fun _ _=>Iff.rfl⟩
 have hlat:Later K K' w w:=⟨fun b o h=>(hK' b o).2 (.inl h),fun _ _ _=>rfl⟩
 have hk:∀ j,(H.get j).isSome=true->(HEnv.get ((i,.dead)::H) j).isSome=true/\ρ j=ρ j:=fun j hj=>by
  refine ⟨?_,rfl⟩;rw [HEnv.get_cons];split
  ·rfl
  ·exact hj
 have hblt:b < w.heap.size:=(Array.getElem?_eq_some_iff.1 hheap).1;have hne:∀ {j:Nat} {h:HE} {b':Nat},i≠j->H.get j=some h->h.live=true->yj (ρ j)=some b'->b'≠b:=fun {j h b'} hij hg hl hb e=>by
  subst e;exact hf.heap.apart i j _ h b' hij hi hg rfl hl zwy121 hb
 refine ⟨h1,h2,K',ρ,⟨hf.below,fun b o h=>(hK' b o).2 (.inl (hf.old b o h)),fun b' o h=>?_,fun b' o h=>?_,hf.others,hf.pt.grown hf.old (row:=some b) ⟨rfl,rfl,rfl,Nat.le_refl _,fun _ _ _=>rfl⟩ hlat (fun b2 hb2=>by cases hb2;exact hf.away i _ b hi rfl zwy121) (fun b2 o h=>(hK' b2 o).1 h |>.elim .inl (fun h=>.inr (.inl (by rw [h.1])))),hf.away.set hi rfl,?_,?_⟩,fun t' av hg=>?_⟩
 ·rcases (hK' b' o).1 h with h|⟨rfl,_⟩
  ·exact hf.new b' o h
  ·exact .inr hB
 ·rcases (hK' b' o).1 h with h|⟨rfl,_⟩
  ·exact hf.lt b' o h
  ·exact hblt
 ·intro j h hg;rw [HEnv.get_cons] at hg;split at hg
  ·simp only [Option.some.injEq] at hg;subst hg;trivial
  ·rename_i hij;have ho:=hf.heap.ok j h hg;cases h with
   | cell v =>
    obtain ⟨b',t',arr',u',hr',hB',hh',hu',ha',hn'⟩:=ho;refine ⟨b',t',arr',u',hr',hB',hh',hu'.keeps hlat hk,ha',fun o ho=>?_⟩;rcases (hK' b' o).1 ho with h|⟨h,_⟩
    ·exact hn' o h
    ·exact hne hij hg rfl (by rw [hr'];rfl) h
   | row t' sz es =>
    obtain ⟨xs,hown,h0,hc,hkk⟩:=ho;refine ⟨xs,hown,h0,fun k e he=>?_,fun b' hb o=>?_⟩
    ·obtain ⟨c1,c2⟩:=hc k e he;exact ⟨c1,fun k c hc=>let ⟨v,h4,h5,h6⟩:=c2 k c hc;⟨v,h4,h5,h6.later hlat⟩⟩
    ·rw [<-hkk b' hb o,hK'];have hb2:yj (ρ j)=some b':=by
      rcases hown.2 with ⟨e,_⟩|⟨b2,cap,cur,e,_⟩
      ·rw [e] at hb;simp [Value.ownBlock] at hb
      ·rw [e] at hb ⊢;simpa [Value.ownBlock,yj] using hb
     exact ⟨fun h=>h.resolve_right fun h=>hne hij hg rfl hb2 h.1,.inl⟩
   | mrow t' sz es =>
    obtain ⟨xs,hown,h0,hc,hkk⟩:=ho;refine ⟨xs,hown,h0,fun k e he=>?_,fun b' hb o ho=>?_⟩
    ·obtain ⟨c1,c2⟩:=hc k e he;exact ⟨c1,fun k c hc=>let ⟨v,h4,h5,h6⟩:=c2 k c hc;⟨v,h4,h5,h6.later hlat⟩⟩
    ·have hb2:yj (ρ j)=some b':=by
      rcases hown.2 with ⟨e,_⟩|⟨b2,cap,cur,e,_⟩
      ·rw [e] at hb;simp [Value.ownBlock] at hb
      ·rw [e] at hb ⊢;simpa [Value.ownBlock,yj] using hb
     rcases (hK' b' o).1 ho with h|⟨h,_⟩
     ·exact hkk b' hb o h
     ·exact hne hij hg rfl hb2 h
   | dead=>trivial
   | pin v u'=>exact ARel.keeps hlat hk ho
   | obj X =>
    obtain ⟨b',ob,hr',hB',hh',hx,hn'⟩:=ho;refine ⟨b',ob,hr',hB',hh',hx,fun o ho=>?_⟩;rcases (hK' b' o).1 ho with h|⟨h,_⟩
    ·exact hn' o h
    ·exact hne hij hg rfl (by rw [hr'];rfl) h
 ·intro j k h h' b' hjk hg hg' hl hl';rw [HEnv.get_cons] at hg hg';split at hg
  ·simp only [Option.some.injEq] at hg;subst hg;simp [HE.live] at hl
  ·split at hg'
   ·simp only [Option.some.injEq] at hg';subst hg';simp [HE.live] at hl'
   ·exact hf.heap.apart j k h h' b' hjk hg hg' hl hl'
 ·rw [Env.get_cons] at hg;split at hg
  ·rename_i e;subst e;simp only [Option.some.injEq] at hg;subst hg;obtain ⟨v,hv,hrv⟩:=he _ _ ht;refine ⟨v,hv,?_⟩;cases hrv with
   | box _ _ b2 _ hr2 =>
    rw [hr] at hr2;simp only [Value.pointer.injEq,Option.some.injEq,Addr.mk.injEq,and_true] at hr2;subst hr2;cases hu with
    | pv _ _ hpr =>
     have hcr:=Qn hpr;rw [harr] at hcr;have:=PRel.ptr (K:=K') (w:=w) p off b 0 arr.toList (hcr.1) (fun k x hx=>?_) (fun k c x hc hx=>(hcr.2 k c x hc hx).later hlat)
     ·exact .pv _ _ (by simpa using this)
     ·have hk:k < arr.size:=by
       rcases Nat.lt_or_ge k arr.size with h'|h'
       ·exact h'
       ·rw [List.getElem?_eq_none (by simpa using h')] at hx;cases hx
      refine ⟨(hK' b (0 + k)).2 (.inr ⟨rfl,by omega⟩),?_,?_⟩
      ·simp only [World.cell?,hheap,Nat.zero_add];simpa using hx
      ·exact cells_one hpr hp x (by rw [harr];exact List.mem_of_getElem? hx)
  ·obtain ⟨v,hv,hrv⟩:=he _ _ hg;exact ⟨v,hv,hrv.keeps hlat hk⟩
theorem zce {t i off:Nat} {p:PV} (hp:p.notTup=true) (ht:env.get t=some (.box i off)) (hi:H.get i=some (.cell (.pv p))) (k:AW P n g c ((t,.pv (.ptr p off))::env) ((i,.dead)::H) QQ):AW P n g c env H QQ :=
 ⟨fun a w hinv=>k.go a w (zpn hp ht hi hinv)⟩
end
section
variable {P:Program} {g:Base} {H:HEnv} {env:Env} {tb:Tab} {o:Oper}
theorem zwN {t t':Nat} {x y:Operand} {k ky:IntKind} {m c:Int} (hop:o.op=.binOp .shl t x y t') (hx:env.pv H x=some (.base (.int k m))) (hy:env.pv H y=some (.base (.int ky c))) (h0:0<=c):QStep P g H o env (.pv (.base (.int k (k.wrap (m * 2 ^ (min c.toNat k.bits)))))):=by
 refine ⟨fun K ρ a w hf hv=>?_⟩;have hxr:=qA hf (hv x zwy68) hx;have hyr:=qA hf (hv y zwy68) hy;generalize hxv:a.eval x=xv at hxr;generalize hyv:a.eval y=yv at hyr;cases hxr;cases hyr;have hn:¬ c < 0:=by omega
 have hrun:(execOp a.eval o).run P w=.ok (.value (.int k (k.wrap (m * 2 ^ (min c.toNat k.bits))))) w:=by
  simp [execOp,hop,hxv,hyv,eqGuard,binOp,Op.shift,hn]
 rw [hrun];exact Yq hf (.pv _ _ (.base _ rfl))
theorem zvy {t t':Nat} {x y:Operand} {k ky:IntKind} {m c:Int} (hop:o.op=.binOp .shr t x y t') (hx:env.pv H x=some (.base (.int k m))) (hy:env.pv H y=some (.base (.int ky c))) (h0:0<=c):QStep P g H o env (.pv (.base (.int k (m.fdiv (2 ^ (min c.toNat k.bits)))))):=by
 refine ⟨fun K ρ a w hf hv=>?_⟩;have hxr:=qA hf (hv x zwy68) hx;have hyr:=qA hf (hv y zwy68) hy;generalize hxv:a.eval x=xv at hxr;generalize hyv:a.eval y=yv at hyr;cases hxr;cases hyr;have hn:¬ c < 0:=by omega
 have hrun:(execOp a.eval o).run P w=.ok (.value (.int k (m.fdiv (2 ^ (min c.toNat k.bits))))) w:=by
  simp [execOp,hop,hxv,hyv,eqGuard,binOp,Op.shift,hn]
 rw [hrun];exact Yq hf (.pv _ _ (.base _ rfl))
end
section
variable {P:Program} {g:Base} {H:HEnv} {env:Env} {tb:Tab} {o:Oper}
theorem zwR {x y:Operand} {ts:Array TypeId} {k:IntKind} {m c:Int} (hop:o.op=.call { callee:=.builtin .max,args:=#[x,y],argTypes:=ts }) (hx:env.pv H x=some (.base (.int k m))) (hy:env.pv H y=some (.base (.int k c))):QStep P g H o env (.pv (.base (.int k (max m c)))):=by
 refine ⟨fun K ρ a w hf hv=>?_⟩;have hxr:=qA hf (hv x zwy72) hx;have hyr:=qA hf (hv y zwy72) hy;generalize hxv:a.eval x=xv at hxr;generalize hyv:a.eval y=yv at hyr;cases hxr;cases hyr;have hrun:(execOp a.eval o).run P w=.ok (.value (.int k (max m c))) w:=by
  simp [execOp,hop,resolve,invoke,builtin,Builtin.max_,Builtin.max2,hxv,hyv];first|done|omega|(split <;> simp <;> omega)
 rw [hrun];exact Yq hf (.pv _ _ (.base _ rfl))
theorem zwA {x y:Operand} {ts:Array TypeId} {k:IntKind} {m c:Int} (hop:o.op=.call { callee:=.builtin .min,args:=#[x,y],argTypes:=ts }) (hx:env.pv H x=some (.base (.int k m))) (hy:env.pv H y=some (.base (.int k c))):QStep P g H o env (.pv (.base (.int k (min m c)))):=by
 refine ⟨fun K ρ a w hf hv=>?_⟩;have hxr:=qA hf (hv x zwy72) hx;have hyr:=qA hf (hv y zwy72) hy;generalize hxv:a.eval x=xv at hxr;generalize hyv:a.eval y=yv at hyr;cases hxr;cases hyr;have hrun:(execOp a.eval o).run P w=.ok (.value (.int k (min m c))) w:=by
  simp [execOp,hop,resolve,invoke,builtin,Builtin.min_,Builtin.min2,hxv,hyv];first|done|omega|(split <;> simp <;> omega)
 rw [hrun];exact Yq hf (.pv _ _ (.base _ rfl))
end
end Go.Cg
namespace Go.Cg
open Go.RowKit Go.Proofs
mutual
def PV.free:PV->Bool
 | .base _=>true
 | .agg cs=>frees cs
 | .slc _ es _=>es.isEmpty
 | .ptr _ _=>false
 | .fn _ a b=>frees a&&frees b
 | .tup cs=>frees cs
def frees:List PV->Bool
 | []=>true
 | c::cs=>c.free&&frees cs
end
theorem Xz:∀ {cs:List PV},frees cs=true->∀ (k:Nat) (c:PV),cs[k]?=some c->c.free=true
 | [],_,k,c,h=>by simp at h
 | c::cs,h,k,c',hk=>by
  simp only [frees,Bool.and_eq_true] at h;cases k with
  | zero=>simp at hk;subst hk;exact h.1
  | succ k=>simp at hk;exact Xz h.2 k c' hk
mutual
def AV.freeA:AV->Bool
 | .pv p=>p.free
 | .agg cs=>zgl cs
 | .fn _ a b=>zgl a&&zgl b
 | _=>true
def zgl:List AV->Bool
 | []=>true
 | c::cs=>c.freeA&&zgl cs
end
theorem zcQ:∀ {cs:List AV},zgl cs=true->∀ (k:Nat) (c:AV),cs[k]?=some c->c.freeA=true
 | [],_,k,c,h=>by simp at h
 | c::cs,h,k,c',hk=>by
  simp only [zgl,Bool.and_eq_true] at h;cases k with
  | zero=>simp at hk;subst hk;exact h.1
  | succ k=>simp at hk;exact zcQ h.2 k c' hk
def HE.freeH:HE->Bool
 | .cell v=>v.freeA
 | .pin v _=>v.freeA
 | .row _ _ es=>frees es
 | .mrow _ _ es=>frees es
 | _=>true
def zhD:Env->Bool
 | []=>true
 | (_,v)::e=>v.freeA&&zhD e
def zp7 (i:Nat):HEnv->Bool
 | []=>true
 | (j,h)::e=>(Nat.beq i j||h.freeH)&&zp7 i e
theorem zgI:∀ {e:Env},zhD e=true->∀ t v,e.get t=some v->v.freeA=true
 | [],_,t,v,h=>by simp [Env.get_nil] at h
 | (t',v')::e,h,t,v,hv=>by
  simp only [zhD,Bool.and_eq_true] at h;rw [Env.get_cons] at hv;split at hv
  ·simp only [Option.some.injEq] at hv;subst hv;exact h.1
  ·exact zgI h.2 t v hv
theorem zks {i:Nat}:∀ {e:HEnv},zp7 i e=true->∀ j h,e.get j=some h->j≠i->h.freeH=true
 | [],_,j,h,hg,_=>by simp [HEnv.get_nil] at hg
 | (k,x)::e,hf,j,h,hg,hne=>by
  simp only [zp7,Bool.and_eq_true,Bool.or_eq_true] at hf;rw [HEnv.get_cons] at hg;split at hg
  ·rename_i e';subst e';simp only [Option.some.injEq] at hg;subst hg;rcases hf.1 with h1|h1
   ·exact (hne (Nat.eq_of_beq_eq_true h1).symm).elim
   ·exact h1
  ·exact zks hf.2 j h hg hne
section
variable {K K':KK} {w w':World} {ρ:Nat->Value} {H H':HEnv}
theorem PRel.free {p:PV} {v:Value} (h:PRel K w p v):p.free=true->PRel K' w' p v:=by
 induction h with
 | base v h1=>exact fun _=>.base v h1
 | agg cs vs hl h1 _ ih=>exact fun hf=>.agg cs vs hl h1 fun k c v hc hv=>ih k c v hc hv (Xz hf k c hc)
 | nil sz full=>exact fun _=>.nil sz full
 | emp sz full a=>exact fun _=>.emp sz full a
 | slc sz es full b o cap vss h0 h1 h2 h3 h4 h5 h6 ih =>
  intro hf;have hes:es=[]:=by simpa [PV.free] using hf
  subst hes;refine .slc sz [] full b o cap vss h0 h1 h2 h3 h4 (fun i e he=>by simp at he) (fun i e k c v he=>by simp at he)
 | ptr p off b o vs hl hr _ ih=>intro hf;simp [PV.free] at hf
 | fn f a b vf vc h1 h2 _ _ ih1 ih2 =>
  intro hf;simp only [PV.free,Bool.and_eq_true] at hf;exact .fn f a b vf vc h1 h2 (fun k c v hc hv=>ih1 k c v hc hv (Xz hf.1 k c hc)) (fun k c v hc hv=>ih2 k c v hc hv (Xz hf.2 k c hc))
 | tup cs vs hl _ ih=>exact fun hf=>.tup cs vs hl fun k c v hc hv=>ih k c v hc hv (Xz hf k c hc)
theorem ARel.free (hk:∀ j,(H.get j).isSome=true->(H'.get j).isSome=true) {av:AV} {v:Value} (h:ARel K w ρ H av v):av.freeA=true->ARel K' w' ρ H' av v:=by
 induction h with
 | pv p v hp=>exact fun hf=>.pv p v (hp.free hf)
 | own j hj=>exact fun _=>.own j (hk j hj)
 | box j off b hj hr=>exact fun _=>.box j off b (hk j hj) hr
 | ad j off b m c hj hr=>exact fun _=>.ad j off b m c (hk j hj) hr
 | agg cs vs h1 h2 _ ih=>exact fun hf=>.agg cs vs h1 h2 fun k c v hc hv=>ih k c v hc hv (zcQ hf k c hc)
 | fn f a b vf vc h1 h2 _ _ ih1 ih2 =>
  intro hf;simp only [AV.freeA,Bool.and_eq_true] at hf;exact .fn f a b vf vc h1 h2 (fun k c v hc hv=>ih1 k c v hc hv (zcQ hf.1 k c hc)) (fun k c v hc hv=>ih2 k c v hc hv (zcQ hf.2 k c hc))
 | any v=>exact fun _=>.any v
 | any1 v h1 h2=>exact fun _=>.any1 v h1 h2
end
def sortL (l:List Int):List Int:=l.mergeSort fun x y=>decide (x<=y)
theorem zfL (l:List Int):(sortL l).length=l.length:=List.length_mergeSort _
theorem zgo {l:List Int} {x:Int}:x∈sortL l↔x∈l:=List.mem_mergeSort
section
variable {n:Nat} {g:Base} {H:HEnv} {env:Env} {ops:List Oper} {o:Oper} {rest:List Oper} {Q:Env->HEnv->Prop}
theorem zt3 {w:World} {B:Nat} {v:Value} {l:List Int} (h:w.ownsRow B 3 1 v l.length (l.map (Value.int .i64))) (hl:l.length < 4611686018427387904) :
  Calls Tryz.prog 156 #[v] w fun e w'=>e=.returned (.tuple #[])/\w'.ownsRow B 3 1 v l.length ((sortL l).map (Value.int .i64))/\w.grownBy w' v.ownBlock:=by
 rcases h.2 with ⟨rfl,h0⟩|⟨b,cap,cur,rfl,hb,hheap,h1,h2,h3,h4⟩
 ·have:l=[]:=List.eq_nil_of_length_eq_zero h0;subst this;refine (Tryz.slices_Sort_int_none none 0 w).mono fun e w' ⟨e1,e2⟩=>?_
  subst e2;exact ⟨e1,by simpa [sortL] using h,⟨rfl,rfl,rfl,Nat.le_refl _,fun _ _ _=>rfl⟩⟩
 ·have hlt:b < w.heap.size:=(Array.getElem?_eq_some_iff.1 hheap).1;refine (Tryz.slices_Sort_int b 0 cap l w (holds_of_blockI hheap (by simpa using h4)) hlt hl).mono fun e w' ⟨e1,m,os,e2⟩=>?_
  subst e2;refine ⟨e1,?_,grownBy_sortedI _⟩;exact ownsRow_sortedI (zfL l) hb hheap h1 h2 h3
theorem zu7 {d:Tmp} {x:Operand} {ts:Array TypeId} {i:Nat} {l:List Int} (env2:Env) (hpl:Plain g) (hg:guardE ops env o=some true) (hop:o.op=.call { callee:=.value (.func 156),args:=#[x],argTypes:=ts }) (hst:zbU Tryz.prog 156)
  (hx:env.val x=some (.own i)) (hi:H.get i=some (.row 3 1 (l.map pi))) (hl:l.length<=100000) (hs:Sub env env2) (hfe:zhD env2=true) (hfh:zp7 i H=true) (hd:o.dst=some d) (hdt:Nat.blt d n=true)
  (h:AO Tryz.prog n g ops.toArray rest ((d,.pv (.tup []))::env2) ((i,.row 3 1 ((sortL l).map pi))::H) Q):AO Tryz.prog n g ops.toArray (o::rest) env H Q:=by
 refine ⟨fun a w hinv=>?_⟩;have hw:=qw hinv hg;obtain ⟨h1,h2,K,ρ,hf,he⟩:=hinv;refine wpList_step fun KK hKK=>?_
 rw [if_pos hw];have hxr:=qI he hx;generalize hxv:a.eval x=xv at hxr;obtain ⟨us,hown,hsz,hcr,hKK'⟩:=hf.heap.ok i _ hi;have hus:us=l.map (Value.int .i64):=by
  apply List.ext_getElem?;intro j;have hlen:=hown.1;simp at hlen;by_cases hj:j < l.length
  ·obtain ⟨_,h3⟩:=hcr j (pi l[j]) (by simp [hj]);obtain ⟨v,h4,_,h5⟩:=h3 0 (pi l[j]) rfl;cases h5;simp only [Nat.mul_one,Nat.add_zero] at h4;rw [h4];simp [hj]
  ·rw [List.getElem?_eq_none zwy62,List.getElem?_eq_none zwy64]
 subst hus;rw [List.length_map] at hown;cases hxr with
 | own _ _ =>
  have hrun:(execOp a.eval o).run Tryz.prog w=.ok (.enter 156 #[ρ i]) w:=by
   simp [execOp,hop,resolve,Act.eval,Deferred.ofValue,invoke,ZK hst];simpa [Act.eval] using hxv
  unfold Oper.wp;rw [hrun];simp only [Oper.upon];refine (zt3 hown zwy62).mono fun e w' ⟨e1,hown',hgrow⟩=>?_
  subst e1;have hlow:∀ b,(ρ i).ownBlock=some b->g.w0.heap.size<=b:=fun b hb=>(hown.lt b hb).1
  have hcr2:∀ (j:Nat) (o:Obj),(ρ i).ownBlock=some j->w.heap[j]?=some o->o.isCells=true:=by
   intro j o hj ho;rcases hown.2 with ⟨h,_⟩|⟨b2,cap,cur,h,_,hh,_⟩
   ·rw [h] at hj;simp [Value.ownBlock] at hj
   ·rw [h] at hj;simp only [Value.ownBlock,Option.some.injEq] at hj;subst hj;rw [hh] at ho;cases ho;rfl
  have hsome:∀ j,(H.get j).isSome=true->(HEnv.get ((i,.row 3 1 ((sortL l).map pi))::H) j).isSome=true:=by
   intro j hj;simp only [HEnv.get_cons];split
   ·rfl
   ·exact hj
  have hbo:∀ b,yj (ρ i)=some b↔(ρ i).ownBlock=some b:=by
   intro b;rcases hown.2 with ⟨e,_⟩|⟨_,_,_,e,_⟩ <;> rw [e] <;> simp [yj,Value.ownBlock]
  have hpt:Prot g K w':=⟨fun b hb=>let ⟨p1,p2,p3⟩:=hf.pt.same b hb;⟨Nat.lt_of_lt_of_le p1 hgrow.size,(hgrow.block b p1 (fun e=>hf.away i _ b hi rfl ((hbo b).2 e.symm) hb)).trans p2,p3⟩,fun b o h0=>by
   rw [<-hf.pt.kept b o h0];exact World.cell?_of_block (hgrow.block b (hf.lt b o (hf.old b o h0)) (fun e=>by have:=hlow b e.symm;have:=hpl.2 b o h0;omega))⟩
  refine hKK _ _ (h.go _ _ ⟨Zm h1,put_defers h2,K,ρ,⟨hf.below.grown hgrow hf.below.size hlow,hf.old,hf.new,fun b o hk=>Nat.lt_of_lt_of_le (hf.lt b o hk) hgrow.size,hf.others.trans (KeepsOthers.of_grownBy hgrow hcr2),hpt,hf.away.set hi rfl,?_,?_⟩,?_⟩)
  ·intro j e hj;rw [HEnv.get_cons] at hj;split at hj
   ·rename_i e';subst e';simp only [Option.some.injEq] at hj;subst hj;refine ⟨(sortL l).map (Value.int .i64),by rw [List.length_map,zfL];exact hown',hsz,?_,?_⟩
    ·intro k c hc;rw [List.getElem?_map] at hc;cases hk:(sortL l)[k]? with
     | none=>simp [hk] at hc
     | some y =>
      simp [hk] at hc;subst hc;refine ⟨rfl,fun m c hm=>?_⟩;cases m with
      | zero=>simp [PV.cells] at hm;subst hm;exact ⟨.int .i64 y,by simp [hk],rfl,.base _ rfl⟩
      | succ m=>simp [PV.cells] at hm
    ·intro b hb o';rw [List.length_map,zfL];have:=hKK' b hb o';simpa using this
   ·rename_i hne;have hfree:=zks hfh j e hj (Ne.symm hne);have hok:=hf.heap.ok j e hj;have hblk:e.live=true->∀ b,yj (ρ j)=some b->(ρ i).ownBlock≠some b:=fun hlive b hb e' =>
     hf.heap.apart i j _ e b hne hi hj rfl hlive ((hbo b).2 e') hb
    cases e with
    | cell v =>
     obtain ⟨b,t,arr,u,r1,r2,r3,r4,r5,r6⟩:=hok;have hlt:b < w.heap.size:=(Array.getElem?_eq_some_iff.1 r3).1;have:=hblk rfl b (by rw [r1];rfl);exact ⟨b,t,arr,u,r1,r2,by rw [hgrow.block b hlt (Ne.symm this)];exact r3,r4.free hsome hfree,r5,r6⟩
    | row t sz es =>
     obtain ⟨xs,r1,r2,r3,r4⟩:=hok;refine ⟨xs,r1.kept hgrow ?_,r2,fun k c hc=>⟨(r3 k c hc).1,fun m q hq=>?_⟩,r4⟩
     ·cases hb:(ρ j).ownBlock with
      | none=>exact .inl rfl
      | some b =>
       refine .inr fun e'=>?_
       have hb2:yj (ρ j)=some b:=by
        rcases r1.2 with ⟨e,_⟩|⟨_,_,_,e,_⟩
        ·rw [e] at hb;simp [Value.ownBlock] at hb
        ·rw [e] at hb ⊢;simpa [yj,Value.ownBlock] using hb
       exact hblk rfl b hb2 e'.symm
     ·obtain ⟨v,v1,v2,v3⟩:=(r3 k c hc).2 m q hq;refine ⟨v,v1,v2,v3.free ?_⟩;have hcf:=Xz hfree k c hc;cases c <;> simp only [PV.cells] at hq <;> first
       | exact Xz hcf m q hq
       | (cases m with
          | zero=>simp at hq;subst hq;exact hcf
          | succ m=>simp at hq)
    | mrow t sz es =>
     obtain ⟨xs,r1,r2,r3,r4⟩:=hok;refine ⟨xs,r1.kept hgrow ?_,r2,fun k c hc=>⟨(r3 k c hc).1,fun m q hq=>?_⟩,r4⟩
     ·cases hb:(ρ j).ownBlock with
      | none=>exact .inl rfl
      | some b =>
       refine .inr fun e'=>?_
       have hb2:yj (ρ j)=some b:=by
        rcases r1.2 with ⟨e,_⟩|⟨_,_,_,e,_⟩
        ·rw [e] at hb;simp [Value.ownBlock] at hb
        ·rw [e] at hb ⊢;simpa [yj,Value.ownBlock] using hb
       exact hblk rfl b hb2 e'.symm
     ·obtain ⟨v,v1,v2,v3⟩:=(r3 k c hc).2 m q hq;refine ⟨v,v1,v2,v3.free ?_⟩;have hcf:=Xz hfree k c hc;cases c <;> simp only [PV.cells] at hq <;> first
       | exact Xz hcf m q hq
       | (cases m with
          | zero=>simp at hq;subst hq;exact hcf
          | succ m=>simp at hq)
    | dead=>trivial
    | pin v u=>exact ARel.free hsome hok hfree
    | obj X =>
     obtain ⟨b,ob,r1,r2,r3,r4,r5⟩:=hok;have hlt:b < w.heap.size:=(Array.getElem?_eq_some_iff.1 r3).1;have:=hblk rfl b (by rw [r1];rfl);exact ⟨b,ob,r1,r2,by rw [hgrow.block b hlt (Ne.symm this)];exact r3,r4,r5⟩
  ·intro j k e e' bb hjk hj hk' hlj hlk hbj hbk;have e1:∀ (j:Nat) (hh:HE),HEnv.get ((i,.row 3 1 ((sortL l).map pi))::H) j=some hh->hh.live=true->∃ h0,H.get j=some h0/\h0.live=true:=by
    intro j hh hj hl;rw [HEnv.get_cons] at hj;split at hj
    ·rename_i e';subst e';exact ⟨_,hi,rfl⟩
    ·exact ⟨hh,hj,hl⟩
   obtain ⟨a1,a2,a3⟩:=e1 j e hj hlj;obtain ⟨b1,b2,b3⟩:=e1 k e' hk' hlk;exact hf.heap.apart j k a1 b1 bb hjk a2 b2 a3 b3 hbj hbk
  ·rw [hd];refine Ye h1 hdt (fun t av ht=>?_) (.pv _ _ (.tup [] [] rfl zwy63));obtain ⟨v,v1,v2⟩:=he t av (hs t av ht);exact ⟨v,v1,v2.free hsome (zgI hfe t av ht)⟩
end
end Go.Cg
