/- A part of the walks by abstract values: no statement of its own. -/
import Derived.Test.YtmgdpkcmbnlklaaGreatA6
import Derived.RangeFuncFrom
import Derived.RangeFuncLeaves
import Derived.RangeFuncWrites
import Derived.Test.YtmgdpkcmbnlklaaGreatA4
import Derived.Shelf.Abstract
import Derived.OwnWalkIn
import Derived.TacticsInMore
import Derived.LoopNIn
import Derived.LoopIn
set_option linter.unusedVariables false
set_option linter.unusedSimpArgs false
namespace Go.Cg
theorem BL:(∀ b:Bool,(b&&true)=b)∧(∀ b:Bool,(true&&b)=b)∧(∀ b:Bool,(b&&false)=false)∧(∀ b:Bool,(false&&b)=false)∧(∀ b:Bool,(b||true)=true)∧(∀ b:Bool,(true||b)=true)∧(∀ b:Bool,(b||false)=b)
  ∧ (∀ b:Bool,(false||b)=b)∧((!true)=false)∧((!false)=true):=by simp
theorem drop_cons {α:Type} {l:List α} {k:Nat} (h:k < l.length):l.drop k=l[k]::l.drop (k + 1):=List.drop_eq_getElem_cons h
theorem zev {α:Type} {l:List α} {p:α→Bool} {k:Nat} (h:k < l.length):(l.drop k).all p=(p l[k]&&(l.drop (k + 1)).all p):=by rw [drop_cons h];rfl
theorem zkx {α:Type} {l:List α} {p:α→Bool} {k:Nat} (h:k < l.length):(l.drop k).any p=(p l[k]||(l.drop (k + 1)).any p):=by rw [drop_cons h];rfl
theorem drop_end {α:Type} {l:List α} {k:Nat} (h:l.length≤k):l.drop k=[]:=List.drop_eq_nil_of_le h
theorem ZA:∀ (n:Nat) (l:List Int),l.Nodup→(∀ x∈l,0≤x∧x < n)→l.length≤n
 | 0,l,_,h=>by
  cases l with
  | nil=>simp
  | cons x l=>have:=h x (by simp);omega
 | n + 1,l,hd,h=>by
  by_cases hm:(n:Int)∈l
  ·have h1:=ZA n (l.erase n) (hd.erase _) (fun x hx=>by
    rw [hd.mem_erase_iff] at hx
    have:=h x hx.2
    omega)
   rw [List.length_erase_of_mem hm] at h1
   omega
  ·have:=ZA n l hd (fun x hx=>by
    have:=h x hx
    have hne:x≠n:=by rintro rfl;exact hm hx
    omega)
   omega
end Go.Cg
namespace Go.Cg
open Go.RowKit Go.Maps Go.WideElems Go.ChangeMaps Go.MapKept
def MapSet (P:Program) (kt et:TypeId) (met:List Int) (o:Obj):Prop :=
 ∃ es clock,o=.map es clock∧Fit (H:=Unit) P kt (plainElem P et) es clock∧es.size≤met.length ∧
  ∀ x,(Lit.int .i64 x).wf=true→(DataW.map ((es.toList.map (rg P kt (plainElem (H:=Unit) P et))).foldr DataW.insert [])).atKey (.int .i64 x) (.lit (.int .i64 0))=.lit (.int .i64 (if x∈met then 1 else 0))
section
variable {P:Program} {tb:Tab} {n:Nat} {g:Base} {K:KK} {w:World} {ρ:Nat→Value} {H:HEnv} {env:Env} {a:Act} {ops:List Oper} {o:Oper} {rest:List Oper} {Q:Env→HEnv→Prop}
theorem zil (kt et:TypeId):MapSet P kt et [] (.map #[] 0) :=
 ⟨#[],0,rfl,⟨by simp,stamped_empty 0,by simp⟩,Nat.le_refl _,fun x _=>by simp;rfl⟩
theorem zdW {t kt et d:Nat} (i:Nat) (hg:guardE ops env o=some true) (hop:o.op=.makeMap t none) (hi:H.get i=none) (hd:o.dst=some d) (ht:Nat.blt d n=true)
  (h:AO P n g ops.toArray rest ((d,.own i)::env) ((i,.obj (MapSet P kt et []))::H) Q):AO P n g ops.toArray (o::rest) env H Q:=by
 refine ⟨fun a w hinv=>?_⟩
 have hw:=yh hinv hg
 obtain ⟨h1,h2,K,ρ,hf,he⟩:=hinv
 refine wpList_step fun KK hKK=>?_
 rw [if_pos hw]
 have hrun:(execOp a.eval o).run P w=.ok (.value (.map (some w.heap.size))) (w.alloc (.map #[] 0)):=by
  simp [execOp,hop,run_makeMap]
 unfold Oper.wp
 rw [hrun]
 simp only [Oper.upon]
 have hev:Evo K K w (w.alloc (.map #[] 0)):=⟨(Below.refl _ _).alloc (Nat.le_refl _) _,fun _ _ h=>h,fun _ _ h=>.inl h,fun b o h=>by have:=hf.lt b o h;simp;omega⟩
 refine hKK _ _ (h.go _ _ ⟨yB h1,put_defers h2,K,fun j=>if j=i then .map (some w.heap.size) else ρ j,hf.fresh hev hi ⟨w.heap.size,.map #[] 0,rfl,hf.below.size,heap_alloc_new w _,zil kt et,fun o ho=>by have:=hf.lt _ o ho;omega⟩ (by simp [zq]),?_⟩)
 rw [hd]
 have:=ARel.own (K:=K) (w:=w.alloc (.map #[] 0)) (ρ:=fun j=>if j=i then .map (some w.heap.size) else ρ j) (H:=(i,HE.obj (MapSet P kt et []))::H) i (by simp [HEnv.get_cons])
 exact yY h1 ht (he.keeps (hev.later hf.lt) (yu hi _ _)) (by simpa using this)
theorem ziZ {kt et:TypeId} {met:List Int} {b:Nat} {ob:Obj} (hb:w.heap[b]?=some ob) (h:MapSet P kt et met ob) :
  ∃ D:DataW Unit,w.ownsMap P kt (plainElem P et) b met.length D∧∀ x,(Lit.int .i64 x).wf=true→D.atKey (.int .i64 x) (.lit (.int .i64 0))=.lit (.int .i64 (if x∈met then 1 else 0)):=by
 obtain ⟨es,clock,rfl,F,hs,hat⟩:=h
 exact ⟨_,⟨es,clock,hb,F,hs,rfl⟩,hat⟩
theorem zjc {t kt et:Nat} (htb:yc P tb) (h:tb.k t=.map kt et):P.underlying t=some (.map kt et):=by
 obtain ⟨d,i,h1,_,_,h2⟩:=Qo htb h (by simp)
 cases d <;> simp [zes] at h2
 obtain ⟨rfl,rfl⟩:=h2;exact h1
theorem zkQ {t kt et:Nat} {m x:Operand} {i:Nat} {met:List Int} {k:Int} (htb:yc P tb) (hop:o.op=.lookup t m x false) (hk:tb.k t=.map kt et) (hkt:tb.k kt=.int .i64) (het:tb.k et=.int .i64) (hz:tb.zero et=some (.int .i64 0))
  (hm:env.val m=some (.own i)) (hi:H.get i=some (.obj (MapSet P kt et met))) (hx:env.pv H x=some (.base (.int .i64 k))) (hwf:(Lit.int .i64 k).wf=true) :
  QStep P g H o env (.pv (.base (.int .i64 (if k∈met then 1 else 0)))):=by
 refine ⟨fun K ρ a w hf hv=>?_⟩
 have hmr:=hv m (by rw [hop];simp [Op.operands]) _ hm
 have hxr:=zT hf (hv x (by rw [hop];simp [Op.operands])) hx
 generalize hmv:a.eval m=mv at hmr
 generalize hxv:a.eval x=xv at hxr
 cases hxr
 obtain ⟨b,ob,hr,hB,hheap,hX,hn⟩:=hf.heap.ok i _ hi
 cases hmr with
 | own _ _ =>
  obtain ⟨D,hown,hat⟩:=ziZ hheap hX
  have hzi:(zeroValue et).run P w=.ok (.int .i64 0) w:=by
   unfold Tab.zero at hz
   split at hz
   ·rename_i ti hti
    obtain ⟨i,e1,_,_,e4,_⟩:=yN htb hti
    simp [zeroValue,typeInfo,e1,e4,hz]
   ·cases hz
  obtain ⟨c,hrun,hc,hwc⟩:=hown.lookup_int (t:=t) (int_keyed (Qm htb hkt)) (zjc htb hk) (Qm htb het) hzi (keyOf_int_mk (Qm htb hkt) hwf)
  rw [hat k hwf] at hc
  simp only [DataW.lit.injEq,Lit.int.injEq,true_and] at hc
  subst hc
  have:(execOp a.eval o).run P w=.ok (.value (.int .i64 (if k∈met then 1 else 0))) w:=by
   rw [←hr] at hrun
   simp [execOp,hop,hmv,hxv,hrun,Result.andThen]
  rw [this]
  exact qA hf (.pv _ _ (.base _ rfl))
theorem ze1 {t kt et:Nat} {m x:Operand} {i:Nat} {met:List Int} {k c:Int} (hc:(if k∈met then (1:Int) else 0)=c) (htb:yc P tb) (hop:o.op=.lookup t m x false) (hk:tb.k t=.map kt et) (hkt:tb.k kt=.int .i64) (het:tb.k et=.int .i64) (hz:tb.zero et=some (.int .i64 0))
  (hm:env.val m=some (.own i)) (hi:H.get i=some (.obj (MapSet P kt et met))) (hx:env.pv H x=some (.base (.int .i64 k))) (hwf:(Lit.int .i64 k).wf=true) :
  QStep P g H o env (.pv (.base (.int .i64 c))):=by
 subst hc;exact zkQ htb hop hk hkt het hz hm hi hx hwf
theorem zl6 {l:List Oper} (env2:Env) (H2:HEnv) (hs:Sub env env2) (hf:Xr H H2 env2) (h:AO P n g ops.toArray l env2 H2 Q):AO P n g ops.toArray l env H Q:=⟨fun a w hi=>h.go a w ((hi.sub hs).hsub hf)⟩
theorem zf3 {t kt et:Nat} {m x v:Operand} {i:Nat} {met:List Int} {k:Int} (hw1:g.w1.heap.size=0) (htb:yc P tb) (hg:guardE ops env o=some true) (hop:o.op=.mapUpdate t m x v) (hk:tb.k t=.map kt et) (hkt:tb.k kt=.int .i64) (het:tb.k et=.int .i64)
  (hm:env.val m=some (.own i)) (hi:H.get i=some (.obj (MapSet P kt et met))) (hx:env.pv H x=some (.base (.int .i64 k))) (hv:env.pv H v=some (.base (.int .i64 1))) (hwf:(Lit.int .i64 k).wf=true) (hlen:met.length < maxLen) (hd:o.dst=none)
  (h:AO P n g ops.toArray rest env ((i,.obj (MapSet P kt et (met++[k])))::H) Q):AO P n g ops.toArray (o::rest) env H Q:=by
 refine ⟨fun a w hinv=>?_⟩
 have hw:=yh hinv hg
 obtain ⟨h1,h2,K,ρ,hf,he⟩:=hinv
 refine wpList_step fun KK hKK=>?_
 rw [if_pos hw]
 have hmr:=yA he hm
 have hxr:=zT (a:=a) hf (x:=x) (fun av hh=>yA he hh) hx
 have hvr:=zT (a:=a) hf (x:=v) (fun av hh=>yA he hh) hv
 generalize hmv:a.eval m=mv at hmr
 generalize hxv:a.eval x=xv at hxr
 generalize hvv:a.eval v=vv at hvr
 cases hxr;cases hvr
 obtain ⟨b,ob,hr,hB,hheap,hX,hnK⟩:=hf.heap.ok i _ hi
 cases hmr with
 | own _ _ =>
  obtain ⟨D,hown,hat⟩:=ziZ hheap hX
  have h1wf:(Lit.int .i64 1).wf=true:=by decide
  obtain ⟨w',hrun,hown',hgrow⟩:=hown.update (t:=t) (int_keyed (Qm htb hkt)) (zjc htb hk) hlen (val:=.int .i64 1) (keyOf_int_mk (Qm htb hkt) hwf) (plainElem_int (Qm htb het) h1wf)
  have hrun':(execOp a.eval o).run P w=.ok .skip w':=by
   rw [←hr] at hrun
   simp [execOp,hop,hmv,hxv,hvv,hrun,Result.andThen]
  have hX':∃ ob',w'.heap[b]?=some ob'∧MapSet P kt et (met++[k]) ob':=by
   obtain ⟨es,clock,hb,F,hs,hD⟩:=hown'
   refine ⟨_,hb,es,clock,rfl,F,by simpa using hs,fun y hy=>?_⟩
   rw [←hD]
   by_cases e:y=k
   ·subst e
    rw [atKey_put_same hown.isMap (by simp [WideAt.IsKeyLit])]
    simp
   ·rw [atKey_put_other (by simpa using e),hat y hy]
    simp [e]
  obtain ⟨ob',hb',hX2⟩:=hX'
  unfold Oper.wp
  rw [hrun']
  simp only [Oper.upon]
  have hlat:Later K K w w':=⟨fun _ _ h=>h,fun b' o hk=>by
   have hne:b'≠b:=by rintro rfl;exact hnK o hk
   exact World.cell?_of_block (hgrow.block b' (hf.lt b' o hk) (by simp [hne]))⟩
  have hkeep:∀ j,(H.get j).isSome=true→(HEnv.get ((i,.obj (MapSet P kt et (met++[k])))::H) j).isSome=true∧ρ j=ρ j:=by
   intro j hj
   refine ⟨?_,rfl⟩
   simp only [HEnv.get_nil,HEnv.get_cons]
   split
   ·rfl
   ·exact hj
  have hd':a.put o.dst undef=a:=by rw [hd];rfl
  rw [hd']
  refine hKK _ _ (h.go _ _ ⟨h1,h2,K,ρ,⟨hf.below.grown hgrow hf.below.size (fun k hk=>by simp at hk;omega),hf.old,hf.new,fun b o hk=>Nat.lt_of_lt_of_le (hf.lt b o hk) hgrow.size,⟨by rw [hw1];omega,fun k o hk=>by have:=(Array.getElem?_eq_some_iff.1 hk).1;omega⟩,hf.pt.grown hf.old hgrow hlat (fun b2 hb2=>by cases hb2;exact hf.away i _ b hi rfl (by rw [hr];rfl)) (fun _ _ h=>.inl h),hf.away.set hi rfl,?_,?_⟩,he.keeps hlat hkeep⟩)
  ·intro j e hj
   simp only [HEnv.get_nil,HEnv.get_cons] at hj
   split at hj
   ·rename_i e';subst e'
    simp only [Option.some.injEq] at hj;subst hj
    exact ⟨b,ob',hr,hB,hb',hX2,hnK⟩
   ·rename_i hne
    by_cases hlive:e.live=true
    ·have:=(hf.heap.ok j e hj).grown (f:=id) hgrow hlat (fun b o h=>.inl h) (fun av v h=>h.keeps hlat hkeep) hlive (fun b' hb' e'=>by
      simp at e';subst e'
      exact hf.heap.apart i j _ e b hne hi hj rfl hlive (by rw [hr];rfl) hb')
     cases e <;> exact this
    ·cases e <;> simp [HE.live] at hlive
     ·trivial
     ·exact ARel.keeps hlat hkeep (hf.heap.ok j _ hj)
  ·intro j k2 e e' bb hjk hj hk' hlj hlk hbj hbk
   have e1:∀ (j:Nat) (hh:HE),HEnv.get ((i,.obj (MapSet P kt et (met++[k])))::H) j=some hh→hh.live=true→∃ h0,H.get j=some h0∧h0.live=true:=by
    intro j hh hj hl
    rw [HEnv.get_cons] at hj
    split at hj
    ·rename_i e';subst e';exact ⟨_,hi,rfl⟩
    ·exact ⟨hh,hj,hl⟩
   obtain ⟨a1,a2,a3⟩:=e1 j e hj hlj
   obtain ⟨b1,b2,b3⟩:=e1 k2 e' hk' hlk
   exact hf.heap.apart j k2 a1 b1 bb hjk a2 b2 a3 b3 hbj hbk
end
end Go.Cg
namespace Go.Cg
open Go.RowKit
def PTells (a b:PV):Prop:=∀ (K:KK) (w:World) (v:Value),PRel K w a v→PRel K w b v
theorem PTells.refl (a:PV):PTells a a:=fun _ _ _ h=>h
def PTL (cs ds:List PV):Prop:=cs.length=ds.length∧∀ (k:Nat) (c d:PV),cs[k]?=some c→ds[k]?=some d→PTells c d
theorem zlY:PTL [] []:=⟨rfl,by simp⟩
theorem za6 {c d:PV} {cs ds:List PV} (h:PTells c d) (hs:PTL cs ds):PTL (c::cs) (d::ds):=by
 refine ⟨by simp [hs.1],fun k c' d' hc hd=>?_⟩
 cases k with
 | zero=>simp at hc hd;subst hc hd;exact h
 | succ k=>exact hs.2 k c' d' (by simpa using hc) (by simpa using hd)
theorem Vx (sz:Nat) (f:Bool):PTells (.base (.slice none 0 0)) (.slc sz [] f):=fun K w v h=>by cases h;exact .nil sz f
theorem zmr {cs ds:List PV} (h:PTL cs ds):PTells (.agg cs) (.agg ds):=fun K w v hp=>by
 cases hp with
 | agg _ vs hl ho hr =>
  refine .agg ds vs (by rw [hl,h.1]) ho fun k d v hd hv=>?_
  have hk:k < cs.length:=by
   rcases Nat.lt_or_ge k cs.length with h'|h'
   ·exact h'
   ·rw [List.getElem?_eq_none (by omega)] at hv;cases hv
  exact h.2 k _ d (List.getElem?_eq_getElem hk) hd K w v (hr k _ v (List.getElem?_eq_getElem hk) hv)
theorem PTells.tells {a b:PV} (h:PTells a b):Tells (.pv a) (.pv b):=fun K w ρ H v hr=>by
 cases hr with|pv _ _ hp=>exact .pv _ _ (h K w v hp)
section
variable {P:Program} {n:Nat} {g:Base} {H:HEnv} {env:Env} {a:Act} {w:World} {ops:List Oper} {Q:Env→HEnv→Prop} {c:Code} {QQ:QC}
theorem zkb {t:Nat} {x y:AV} (ht:env.get t=some x) (h:Tells x y) (hinv:Inv n g env H a w):Inv n g ((t,y)::env) H a w:=by
 obtain ⟨h1,h2,K,ρ,hf,he⟩:=hinv
 refine ⟨h1,h2,K,ρ,hf,fun t' av hg=>?_⟩
 rw [Env.get_cons] at hg
 split at hg
 ·rename_i e;subst e
  simp only [Option.some.injEq] at hg;subst hg
  obtain ⟨v,hv,hr⟩:=he _ _ ht
  exact ⟨v,hv,h K w ρ H v hr⟩
 ·exact he _ _ hg
theorem QJ {l:List Oper} {x y:PV} (t:Nat) (h:PTells x y) (ht:env.get t=some (.pv x)) (k:AO P n g ops.toArray l ((t,.pv y)::env) H Q):AO P n g ops.toArray l env H Q :=
 ⟨fun a w hi=>k.go a w (zkb ht h.tells hi)⟩
theorem ziQ {t i off:Nat} {p:PV} (hp:p.notTup=true) (ht:env.get t=some (.box i off)) (hi:H.get i=some (.cell (.pv p))) (hinv:Inv n g env H a w):Inv n g ((t,.pv (.ptr p off))::env) ((i,.dead)::H) a w:=by
 obtain ⟨h1,h2,K,ρ,hf,he⟩:=hinv
 obtain ⟨b,ty,arr,u,hr,hB,hheap,hu,harr,hn⟩:=hf.heap.ok i _ hi
 obtain ⟨K',hK'⟩:∃ K':KK,∀ b' o,K' b' o↔(K b' o∨(b'=b∧o < arr.size)):=⟨fun b' o=>K b' o∨(b'=b∧o < arr.size),fun _ _=>Iff.rfl⟩
 have hlat:Later K K' w w:=⟨fun b o h=>(hK' b o).2 (.inl h),fun _ _ _=>rfl⟩
 have hk:∀ j,(H.get j).isSome=true→(HEnv.get ((i,.dead)::H) j).isSome=true∧ρ j=ρ j:=fun j hj=>by
  refine ⟨?_,rfl⟩
  rw [HEnv.get_cons]
  split
  ·rfl
  ·exact hj
 have hblt:b < w.heap.size:=(Array.getElem?_eq_some_iff.1 hheap).1
 have hne:∀ {j:Nat} {h:HE} {b':Nat},i≠j→H.get j=some h→h.live=true→zq (ρ j)=some b'→b'≠b:=fun {j h b'} hij hg hl hb e=>by
  subst e
  exact hf.heap.apart i j _ h b' hij hi hg rfl hl (by rw [hr];rfl) hb
 refine ⟨h1,h2,K',ρ,⟨hf.below,fun b o h=>(hK' b o).2 (.inl (hf.old b o h)),fun b' o h=>?_,fun b' o h=>?_,hf.others,hf.pt.grown hf.old (row:=some b) ⟨rfl,rfl,rfl,Nat.le_refl _,fun _ _ _=>rfl⟩ hlat (fun b2 hb2=>by cases hb2;exact hf.away i _ b hi rfl (by rw [hr];rfl)) (fun b2 o h=>(hK' b2 o).1 h |>.elim .inl (fun h=>.inr (.inl (by rw [h.1])))),hf.away.set hi rfl,?_,?_⟩,fun t' av hg=>?_⟩
 ·rcases (hK' b' o).1 h with h|⟨rfl,_⟩
  ·exact hf.new b' o h
  ·exact .inr hB
 ·rcases (hK' b' o).1 h with h|⟨rfl,_⟩
  ·exact hf.lt b' o h
  ·exact hblt
 ·intro j h hg
  rw [HEnv.get_cons] at hg
  split at hg
  ·simp only [Option.some.injEq] at hg;subst hg;trivial
  ·rename_i hij
   have ho:=hf.heap.ok j h hg
   cases h with
   | cell v =>
    obtain ⟨b',t',arr',u',hr',hB',hh',hu',ha',hn'⟩:=ho
    refine ⟨b',t',arr',u',hr',hB',hh',hu'.keeps hlat hk,ha',fun o ho=>?_⟩
    rcases (hK' b' o).1 ho with h|⟨h,_⟩
    ·exact hn' o h
    ·exact hne hij hg rfl (by rw [hr'];rfl) h
   | row t' sz es =>
    obtain ⟨xs,hown,h0,hc,hkk⟩:=ho
    refine ⟨xs,hown,h0,fun k e he=>?_,fun b' hb o=>?_⟩
    ·obtain ⟨c1,c2⟩:=hc k e he
     exact ⟨c1,fun k c hc=>let ⟨v,h4,h5,h6⟩:=c2 k c hc;⟨v,h4,h5,h6.later hlat⟩⟩
    ·rw [←hkk b' hb o,hK']
     have hb2:zq (ρ j)=some b':=by
      rcases hown.2 with ⟨e,_⟩|⟨b2,cap,cur,e,_⟩
      ·rw [e] at hb;simp [Value.ownBlock] at hb
      ·rw [e] at hb ⊢;simpa [Value.ownBlock,zq] using hb
     exact ⟨fun h=>h.resolve_right fun h=>hne hij hg rfl hb2 h.1,.inl⟩
   | mrow t' sz es =>
    obtain ⟨xs,hown,h0,hc,hkk⟩:=ho
    refine ⟨xs,hown,h0,fun k e he=>?_,fun b' hb o ho=>?_⟩
    ·obtain ⟨c1,c2⟩:=hc k e he
     exact ⟨c1,fun k c hc=>let ⟨v,h4,h5,h6⟩:=c2 k c hc;⟨v,h4,h5,h6.later hlat⟩⟩
    ·have hb2:zq (ρ j)=some b':=by
      rcases hown.2 with ⟨e,_⟩|⟨b2,cap,cur,e,_⟩
      ·rw [e] at hb;simp [Value.ownBlock] at hb
      ·rw [e] at hb ⊢;simpa [Value.ownBlock,zq] using hb
     rcases (hK' b' o).1 ho with h|⟨h,_⟩
     ·exact hkk b' hb o h
     ·exact hne hij hg rfl hb2 h
   | dead=>trivial
   | pin v u'=>exact ARel.keeps hlat hk ho
   | obj X =>
    obtain ⟨b',ob,hr',hB',hh',hx,hn'⟩:=ho
    refine ⟨b',ob,hr',hB',hh',hx,fun o ho=>?_⟩
    rcases (hK' b' o).1 ho with h|⟨h,_⟩
    ·exact hn' o h
    ·exact hne hij hg rfl (by rw [hr'];rfl) h
 ·intro j k h h' b' hjk hg hg' hl hl'
  rw [HEnv.get_cons] at hg hg'
  split at hg
  ·simp only [Option.some.injEq] at hg;subst hg;simp [HE.live] at hl
  ·split at hg'
   ·simp only [Option.some.injEq] at hg';subst hg';simp [HE.live] at hl'
   ·exact hf.heap.apart j k h h' b' hjk hg hg' hl hl'
 ·rw [Env.get_cons] at hg
  split at hg
  ·rename_i e;subst e
   simp only [Option.some.injEq] at hg;subst hg
   obtain ⟨v,hv,hrv⟩:=he _ _ ht
   refine ⟨v,hv,?_⟩
   cases hrv with
   | box _ _ b2 _ hr2 =>
    rw [hr] at hr2
    simp only [Value.pointer.injEq,Option.some.injEq,Addr.mk.injEq,and_true] at hr2
    subst hr2
    cases hu with
    | pv _ _ hpr =>
     have hcr:=Za hpr
     rw [harr] at hcr
     have:=PRel.ptr (K:=K') (w:=w) p off b 0 arr.toList (hcr.1) (fun k x hx=>?_) (fun k c x hc hx=>(hcr.2 k c x hc hx).later hlat)
     ·exact .pv _ _ (by simpa using this)
     ·have hk:k < arr.size:=by
       rcases Nat.lt_or_ge k arr.size with h'|h'
       ·exact h'
       ·rw [List.getElem?_eq_none (by simpa using h')] at hx;cases hx
      refine ⟨(hK' b (0 + k)).2 (.inr ⟨rfl,by omega⟩),?_,?_⟩
      ·simp only [World.cell?,hheap,Nat.zero_add]
       simpa using hx
      ·exact cells_one hpr hp x (by rw [harr];exact List.mem_of_getElem? hx)
  ·obtain ⟨v,hv,hrv⟩:=he _ _ hg
   exact ⟨v,hv,hrv.keeps hlat hk⟩
theorem XF {t i off:Nat} {p:PV} (hp:p.notTup=true) (ht:env.get t=some (.box i off)) (hi:H.get i=some (.cell (.pv p))) (k:AW P n g c ((t,.pv (.ptr p off))::env) ((i,.dead)::H) QQ):AW P n g c env H QQ :=
 ⟨fun a w hinv=>k.go a w (ziQ hp ht hi hinv)⟩
end
section
variable {P:Program} {g:Base} {H:HEnv} {env:Env} {tb:Tab} {o:Oper}
theorem zmb {t t':Nat} {x y:Operand} {k ky:IntKind} {m c:Int} (hop:o.op=.binOp .shl t x y t') (hx:env.pv H x=some (.base (.int k m))) (hy:env.pv H y=some (.base (.int ky c))) (h0:0≤c):QStep P g H o env (.pv (.base (.int k (k.wrap (m * 2 ^ (min c.toNat k.bits)))))):=by
 refine ⟨fun K ρ a w hf hv=>?_⟩
 have hxr:=zT hf (hv x (by rw [hop];simp [Op.operands])) hx
 have hyr:=zT hf (hv y (by rw [hop];simp [Op.operands])) hy
 generalize hxv:a.eval x=xv at hxr
 generalize hyv:a.eval y=yv at hyr
 cases hxr;cases hyr
 have hn:¬ c < 0:=by omega
 have hrun:(execOp a.eval o).run P w=.ok (.value (.int k (k.wrap (m * 2 ^ (min c.toNat k.bits))))) w:=by
  simp [execOp,hop,hxv,hyv,eqGuard,binOp,Op.shift,hn]
 rw [hrun]
 exact qA hf (.pv _ _ (.base _ rfl))
theorem zmn {t t':Nat} {x y:Operand} {k ky:IntKind} {m c:Int} (hop:o.op=.binOp .shr t x y t') (hx:env.pv H x=some (.base (.int k m))) (hy:env.pv H y=some (.base (.int ky c))) (h0:0≤c):QStep P g H o env (.pv (.base (.int k (m.fdiv (2 ^ (min c.toNat k.bits)))))):=by
 refine ⟨fun K ρ a w hf hv=>?_⟩
 have hxr:=zT hf (hv x (by rw [hop];simp [Op.operands])) hx
 have hyr:=zT hf (hv y (by rw [hop];simp [Op.operands])) hy
 generalize hxv:a.eval x=xv at hxr
 generalize hyv:a.eval y=yv at hyr
 cases hxr;cases hyr
 have hn:¬ c < 0:=by omega
 have hrun:(execOp a.eval o).run P w=.ok (.value (.int k (m.fdiv (2 ^ (min c.toNat k.bits))))) w:=by
  simp [execOp,hop,hxv,hyv,eqGuard,binOp,Op.shift,hn]
 rw [hrun]
 exact qA hf (.pv _ _ (.base _ rfl))
end
section
variable {P:Program} {g:Base} {H:HEnv} {env:Env} {tb:Tab} {o:Oper}
theorem zm9 {x y:Operand} {ts:Array TypeId} {k:IntKind} {m c:Int} (hop:o.op=.call { callee:=.builtin .max,args:=#[x,y],argTypes:=ts }) (hx:env.pv H x=some (.base (.int k m))) (hy:env.pv H y=some (.base (.int k c))):QStep P g H o env (.pv (.base (.int k (max m c)))):=by
 refine ⟨fun K ρ a w hf hv=>?_⟩
 have hxr:=zT hf (hv x (by rw [hop];simp [Op.operands,Call.operands])) hx
 have hyr:=zT hf (hv y (by rw [hop];simp [Op.operands,Call.operands])) hy
 generalize hxv:a.eval x=xv at hxr
 generalize hyv:a.eval y=yv at hyr
 cases hxr;cases hyr
 have hrun:(execOp a.eval o).run P w=.ok (.value (.int k (max m c))) w:=by
  simp [execOp,hop,resolve,invoke,builtin,Builtin.max_,Builtin.max2,hxv,hyv]
  first|done|omega|(split <;> simp <;> omega)
 rw [hrun]
 exact qA hf (.pv _ _ (.base _ rfl))
theorem zm0 {x y:Operand} {ts:Array TypeId} {k:IntKind} {m c:Int} (hop:o.op=.call { callee:=.builtin .min,args:=#[x,y],argTypes:=ts }) (hx:env.pv H x=some (.base (.int k m))) (hy:env.pv H y=some (.base (.int k c))):QStep P g H o env (.pv (.base (.int k (min m c)))):=by
 refine ⟨fun K ρ a w hf hv=>?_⟩
 have hxr:=zT hf (hv x (by rw [hop];simp [Op.operands,Call.operands])) hx
 have hyr:=zT hf (hv y (by rw [hop];simp [Op.operands,Call.operands])) hy
 generalize hxv:a.eval x=xv at hxr
 generalize hyv:a.eval y=yv at hyr
 cases hxr;cases hyr
 have hrun:(execOp a.eval o).run P w=.ok (.value (.int k (min m c))) w:=by
  simp [execOp,hop,resolve,invoke,builtin,Builtin.min_,Builtin.min2,hxv,hyv]
  first|done|omega|(split <;> simp <;> omega)
 rw [hrun]
 exact qA hf (.pv _ _ (.base _ rfl))
end
section
variable {P:Program} {tb:Tab} {n:Nat} {g:Base} {K:KK} {w w':World} {ρ:Nat→Value} {H H':HEnv} {env:Env} {a:Act}
structure NC (B:Nat) (w w':World):Prop where
 row:∃ row,w.grownBy w' row∧∀ r,row=some r→B≤r∧∃ o:Obj,w.heap[r]?=some o∧o.isCells=false
theorem NC.cell {B:Nat} (h:NC B w w') {x:Addr} {v:Value} (hc:w.cell? x=some v):w'.cell? x=some v:=by
 obtain ⟨row,hg,hr⟩:=h.row
 exact cell_kept hc hg fun r e=>(hr r e).2
theorem NC.block {B:Nat} (h:NC B w w') {b:Nat} {arr:Array Value} {t:TypeId} {x:Nat × Nat} (hb:w.heap[b]?=some (.cells arr t x)):w'.heap[b]?=some (.cells arr t x):=by
 obtain ⟨row,hg,hr⟩:=h.row
 have hlt:=(Array.getElem?_eq_some_iff.1 hb).1
 rw [hg.block b hlt (fun e=>by
  obtain ⟨_,o,ho,hc⟩:=hr b e.symm
  rw [hb] at ho;cases ho;simp [Obj.isCells] at hc)]
 exact hb
variable {x y c:Code} {QQ:QC} {ops:List Oper}
end
end Go.Cg
set_option linter.unusedVariables false
set_option linter.unusedSimpArgs false
namespace Go.Cg
open Go.Proofs Go.RowKit Go.Shelf
attribute [local go_sem] Oper.semAt_some
end Go.Cg
