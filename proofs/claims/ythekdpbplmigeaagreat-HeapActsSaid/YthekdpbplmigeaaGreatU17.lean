/- A part of the walks by abstract values: no statement of its own. -/
import Derived.Test.YthekdpbplmigeaaGreatU14
import Derived.Test.YthekdpbplmigeaaGreatU13
namespace Go.Cg
open Go.Proofs
theorem img0_tells : PTells (.agg [nilS, nilS, nilS, pi (-1)]) (imgPV g0) := pt_agg (ptl_cons (pt_nil 4 false) (ptl_cons (pt_nil 7 false) (ptl_cons (pt_nil 12 false) (ptl_cons (.refl _) ptl_nil))))
theorem arr10_len {W : List Int} (h : W.length = 16402) : (arrW W 0 2 3).length = 16402 := by
 have h2 := makeW_len (ws := W) (u := 0) (z := (3 : Int).toNat) (hd := headP (arrT 2)) (l := [IntKind.u64.wrap 3]) (by rw [h]; decide)
 exact h2.trans h
theorem arr10_get {W : List Int} (h : W.length = 16402) : (arrW W 0 2 3)[9]'(by rw [arr10_len h]; omega) = 3 := by
 have h2 : (arrW W 0 2 3)[9]? = some (IntKind.u64.wrap 3) := makeW_get (ws := W) (u := 0) (z := (3 : Int).toNat) (hd := headP (arrT 2)) (x := IntKind.u64.wrap 3) (by rw [h]; decide)
 rw [List.getElem?_eq_getElem (by rw [arr10_len h]; omega)] at h2
 exact Option.some.inj h2
set_option maxHeartbeats 400000 in
theorem wakes20_call : ACall Tryz.prog 13 [] (pb true) := by
 have cN0 := New_call 10 (by decide) (by decide)
 have hl0 := ws0_len 10 7
 generalize ws0 10 7 = W at cN0 hl0
 have hl : W.length = 16402 := hl0
 rw [show (8 + (10 : Int)) = 18 from rfl] at cN0
 have cN := fun (_ : Nat → Value) => cN0
 have cA := fun us => Array_call W 10 0 2 3 (.inl rfl) (by decide) (by decide) (by decide) (by decide) hl us
 obtain ⟨V, hV, hl1, hg1⟩ : ∃ V, arrW W 0 2 3 = V ∧ ∃ h : V.length = 16402, V[9]'(by omega) = 3 := ⟨_, rfl, arr10_len hl, arr10_get hl⟩
 rw [hV, show (8 + ((10 : Nat) : Int)) = 18 from rfl, show ((0 + 1 + 1 + (3 : Int).toNat : Nat) : Int) = 5 from rfl, show ((8 + 0 : Nat) : Int) = 8 from rfl, show ((0 : Nat) : Int) = 0 from rfl] at cA
 have cG := fun mv => Get_call V mv 18 5 9 (by rw [hl1]; omega) (by rw [hl1]; omega)
 rw [hg1, show ((9 : Nat) : Int) = 9 from rfl] at cG
 refine acall_intro tbOK Tryz.func13 rfl (by kernel_rfl) Tryz.ntmps13 (by simp) _ rfl (fun hw gB hgB => ?_)
 repeat' (first | refine ao_tells 2 img0_tells rfl ?_ | refine ao_q (r := .pv (u64 1)) rfl (q_callO (args := fun ρ => [.ptr (memPV W (ρ 8) 18 0) 0, pi 1]) rfl (fun _ => rfl) (fun ρ => Fault_call W (ρ 8) 18 0 1 (by decide) (by decide))) rfl rfl ?_ | refine ao_q (r := .pv (u64 18)) rfl (q_callO (args := fun ρ => [.ptr (memPV W (ρ 8) 18 0) 0]) rfl (fun _ => rfl) (fun ρ => Frames_call W (ρ 8) 18 0)) rfl rfl ?_ | refine ao_q (r := .pv (pi 5)) rfl (q_callO (args := fun ρ => [.ptr (memPV V (ρ 8) 18 5) 0]) rfl (fun _ => rfl) (fun ρ => Used_call V (ρ 8) 18 5)) rfl rfl ?_ | refine ao_q (r := .pv (u64 3)) rfl (q_callO (args := fun ρ => [.ptr (memPV V (ρ 8) 18 5) 0, u64 9]) rfl (fun _ => rfl) (fun ρ => cG (ρ 8))) rfl rfl ?_ | (refine ao_sh_call ?_; first | refine ao_callM [] (memH W 18 0) [] [] [] noLoneH rfl rfl rfl (by repeat (first | exact hsub_nil | refine hsub_cons rfl ?_)) tS rfl rfl rfl cN ?_ | refine ao_callM (memH W 18 0) (memH V 18 5) [] [(1, .box 0 0), (12, .pv (pb true))] [0] noLoneH rfl rfl rfl (by repeat (first | exact hsub_nil | refine hsub_cons rfl ?_)) tS rfl rfl rfl cA ?_) | refine sK ?_ | refine sC (fun _ => ?_) (fun _ => ?_) | fail)
 exact retq rfl rfl
end Go.Cg
namespace Go.Cg
open Go.RowKit
section
variable {P : Program} {tb : Tab} {n : Nat} {g : Base} {H : HEnv} {env : Env} {QQ : QC} {c : Code} {K : KK} {w : World} {ρ : Nat → Value}
theorem row_plain (hf : FS g K ρ H w) {i t sz : Nat} {es : List PV} (hi : H.get i = some (.row t sz es)) {v : Value} (h : ARel K w ρ H (.own i) v) : PRel K w (.slc sz es false) v :=
 cellPV_rel hf h (by simp [AV.cellPV, hi])
theorem aw_plain_field (b i k : Nat) {t sz : Nat} {es : List PV} {cs : List AV} (hb : H.get b = some (.cell (.agg cs))) (hk : cs[k]? = some (.own i)) (hi : H.get i = some (.row t sz es)) (kk : AW P n g c env ((b, .cell (.agg (cs.set k (.pv (.slc sz es false))))) :: H) QQ) : AW P n g c env H QQ := by
 refine ⟨fun a w hinv => ?_⟩
 obtain ⟨g1, g2, K, ρ, hf, he⟩ := hinv
 have hkk : ∀ m, (H.get m).isSome = true → (HEnv.get ((b, .cell (.agg (cs.set k (.pv (.slc sz es false))))) :: H) m).isSome = true ∧ ρ m = ρ m := by
  intro m hm
  refine ⟨?_, rfl⟩
  rw [HEnv.get_cons]; split <;> first | rfl | exact hm
 have hlv : ∀ m x, HEnv.get ((b, .cell (.agg (cs.set k (.pv (.slc sz es false))))) :: H) m = some x → x.live = true → ∃ h0, H.get m = some h0 ∧ h0.live = true := by
  intro m x hm hl
  rw [HEnv.get_cons] at hm
  split at hm
  ·rename_i e; subst e; exact ⟨_, hb, rfl⟩
  ·exact ⟨x, hm, hl⟩
 refine kk.go a w ⟨g1, g2, K, ρ, ⟨hf.below, hf.old, hf.new, hf.lt, hf.others, hf.pt, fun m x b2 hm hl hb2 => ?_, fun m x hm => ?_, fun m m' x x' b2 hmm hm hm' hl hl' => ?_⟩, he.keeps (.refl K w) hkk⟩
 ·obtain ⟨h0, a1, a2⟩ := hlv m x hm hl
  exact hf.away m h0 b2 a1 a2 hb2
 ·rw [HEnv.get_cons] at hm
  split at hm
  ·rename_i e; subst e
   simp only [Option.some.injEq] at hm; subst hm
   obtain ⟨b', t', arr, x', q1, q2, q3, q4, q5, q6⟩ := hf.heap.ok b _ hb
   refine ⟨b', t', arr, x', q1, q2, q3, ?_, q5, q6⟩
   cases q4 with
   | agg _ vs a1 a2 a3 =>
    refine .agg _ vs (by simpa using a1) a2 fun m c v hc hv => ?_
    rw [List.getElem?_set] at hc
    split at hc
    ·rename_i e1; subst e1
     split at hc
     ·simp only [Option.some.injEq] at hc; subst hc
      exact .pv _ _ (row_plain hf hi (a3 k _ v hk hv))
     ·cases hc
    ·exact (a3 m c v hc hv).keeps (.refl K w) hkk
  ·exact (hf.heap.ok m x hm).keeps (.refl hf.lt) hf.lt hkk
 ·obtain ⟨h0, a1, a2⟩ := hlv m x hm hl
  obtain ⟨h0', c1, c2⟩ := hlv m' x' hm' hl'
  exact hf.heap.apart m m' h0 h0' b2 hmm a1 c1 a2 c2
end
end Go.Cg
namespace Go.Cg
open Go.RowKit
section
variable {P : Program} {tb : Tab} {n : Nat} {g : Base} {K : KK} {w : World} {ρ : Nat → Value} {H : HEnv} {env : Env} {a : Act} {ops : List Oper} {o : Oper} {rest : List Oper} {Q : Env → HEnv → Prop}
def TMap (ents : List (PV × Int)) (ob : Obj) : Prop := ∃ es clock, ob = .map es clock ∧ es.size = ents.length ∧ ∀ (i : Nat) (e : MapEntry) (x : PV × Int), es.toList[i]? = some e → ents[i]? = some x → (∀ K w, PRel K w x.1 e.key) ∧ e.val = .int .i64 x.2
def flatP : PV → Bool
 | .agg cs => cs.all fun c => match c with | .base (.int _ _) => true | .base (.bool _) => true | _ => false
 | _ => false
theorem flatP_any {p : PV} {v : Value} (hf : flatP p = true) (h : PRel K w p v) : ∀ K w, PRel K w p v := by
 intro K' w'
 cases h with
 | agg cs vs h1 h2 h3 =>
  refine .agg cs vs h1 h2 fun k c v hc hv => ?_
  have := h3 k c v hc hv
  have hk := List.all_eq_true.1 hf c (List.mem_of_getElem? hc)
  cases c with
  | base u => cases this with | base _ hb => exact .base _ hb
  | _ => simp at hk
 | _ => simp [flatP] at hf
def scalarTK : TK → Bool
 | .int _ => true
 | .bool => true
 | .str => true
 | _ => false
theorem run_checkKey_leaf (htb : TabOK P tb) {t : Nat} (h : scalarTK (tb.k t) = true) (e : Bool) (m : Nat) (v : Value) (w1 : World) : (Instr.checkKey e (m + 1) t v).run P w1 = .ok () w1 := by
 unfold Instr.checkKey
 cases hk : tb.k t <;> simp [hk, scalarTK] at h
 ·simp [Sem.run_bind, run_underlying (tab_int htb hk), Result.andThen_ok]
 ·simp [Sem.run_bind, run_underlying (tab_bool htb hk), Result.andThen_ok]
 ·simp [Sem.run_bind, run_underlying (tab_str htb hk), Result.andThen_ok]
theorem run_checkKey (htb : TabOK P tb) {t : Nat} {fs : List (Nat × Nat × Nat)} {q : Bool} {cs : List PV} {v : Value} (hk : tb.k t = .agg fs q) (hs : (fs.all fun f => scalarTK (tb.k f.2.1)) = true) (hp : (fs.all fun f => (partE tb f.2.1 cs f.1).isSome) = true) (hv : PRel K w (.agg cs) v) (e : Bool) (m : Nat) (w1 : World) :
  (Instr.checkKey e (m + 2) t v).run P w1 = .ok () w1 := by
 obtain ⟨F, hF, hfs, _⟩ := tab_agg htb hk
 cases hv with
 | agg _ vs a1 a2 a3 =>
  have key : ∀ l : List Field, (∀ f ∈ l, scalarTK (tb.k f.type) = true ∧ (partE tb f.type cs f.offset).isSome = true) →
    Sem.run P (forIn l PUnit.unit fun f __s => if f.name ≠ "_" then do
       let __do_lift ← part f.type vs.toArray f.offset
       Instr.checkKey e (m + 1) f.type __do_lift
       pure (ForInStep.yield PUnit.unit)
      else pure (ForInStep.yield PUnit.unit)) w1 = .ok PUnit.unit w1 := by
   intro l
   induction l with
   | nil => intro _; simp
   | cons f l ih =>
    intro hl
    obtain ⟨h1, h2⟩ := hl f (by simp)
    have ih' := ih fun x hx => hl x (by simp [hx])
    obtain ⟨p, hp⟩ := Option.isSome_iff_exists.1 h2
    obtain ⟨u, hu, _⟩ := run_part (K := K) (w := w) htb ⟨a1, a3⟩ a2 hp w1
    have hc := run_checkKey_leaf htb h1 e m u w1
    rw [List.forIn_cons]
    by_cases hn : f.name ≠ "_"
    ·rw [if_pos hn]
     simp only [Sem.run_bind, hu, Result.andThen_ok, hc, Sem.run_pure]
     exact ih'
    ·rw [if_neg hn]
     simp only [Sem.run_bind, Result.andThen_ok, Sem.run_pure]
     exact ih'
  have hall : ∀ f ∈ F.toList, scalarTK (tb.k f.type) = true ∧ (partE tb f.type cs f.offset).isSome = true := by
   intro f hf
   have hm : (f.offset, f.type, P.cellsOf f.type) ∈ fs := by rw [← hfs]; exact List.mem_map.2 ⟨f, hf, rfl⟩
   exact ⟨List.all_eq_true.1 hs _ hm, List.all_eq_true.1 hp _ hm⟩
  unfold Instr.checkKey
  simp only [Sem.run_bind, run_underlying hF, Result.andThen_ok]
  rw [← Array.forIn_toList, key F.toList hall]
  rfl
def findT (tb : Tab) (kt : Nat) (p : PV) : List (PV × Int) → Option (Option Int)
 | [] => some none
 | (q, v) :: r => match eqE tb 8 kt p q with
  | some true => some (some v)
  | some false => findT tb kt p r
  | none => none
theorem run_findKey (htb : TabOK P tb) {kt : Nat} {fs : List (Nat × Nat × Nat)} {q : Bool} {p : PV} {kv : Value} (hk : tb.k kt = .agg fs q) (hkv : PRel K w p kv) (w1 : World) :
  ∀ (es : List MapEntry) (ents : List (PV × Int)) (r : Option Int) (i : Nat), es.length = ents.length → (∀ (i : Nat) (e : MapEntry) (x : PV × Int), es[i]? = some e → ents[i]? = some x → (∀ K w, PRel K w x.1 e.key) ∧ e.val = .int .i64 x.2) → findT tb kt p ents = some r →
   ∃ res, (Instr.findAsking kt kv es i).run P w1 = .ok res w1 ∧ ((r = none ∧ res = none) ∨ ∃ c j, r = some c ∧ res = some (j, .int .i64 c))
 | [], [], r, i, _, _, h => by
  simp only [findT, Option.some.injEq] at h; subst h
  exact ⟨none, by simp [Instr.findAsking], .inl ⟨rfl, rfl⟩⟩
 | [], _ :: _, _, _, hl, _, _ => by simp at hl
 | _ :: _, [], _, _, hl, _, _ => by simp at hl
 | e :: es, (q, c) :: ents, r, i, hl, hr, h => by
  obtain ⟨h1, h2⟩ := hr 0 e (q, c) rfl rfl
  simp only [findT] at h
  split at h
  ·rename_i he
   simp only [Option.some.injEq] at h; subst h
   have := run_eqE (K := K) (w := w) htb 8 kt p q kv e.key true hkv (h1 K w) he 9992 w1
   refine ⟨some (i, e.val), ?_, .inr ⟨c, i, rfl, by rw [h2]⟩⟩
   simp only [Instr.findAsking, Op.equal, Sem.run_bind]
   rw [show Op.maxDepth = 8 + 9992 from rfl, this]
   simp
  ·rename_i he
   have := run_eqE (K := K) (w := w) htb 8 kt p q kv e.key false hkv (h1 K w) he 9992 w1
   obtain ⟨res, r1, r2⟩ := run_findKey htb hk hkv w1 es ents r (i + 1) (by simpa using hl) (fun j e' x h3 h4 => hr (j + 1) e' x (by simpa using h3) (by simpa using h4)) h
   refine ⟨res, ?_, r2⟩
   simp only [Instr.findAsking, Op.equal, Sem.run_bind]
   rw [show Op.maxDepth = 8 + 9992 from rfl, this]
   simpa using r1
  ·cases h
theorem findKey_ask {kt : TypeId} {F : Array Field} {kv : Value} {es : List MapEntry} {w1 : World} (hF : P.underlying kt = some (.struct F)) : (Instr.findKey kt kv es).run P w1 = (Instr.findAsking kt kv es).run P w1 := by
 unfold Instr.findKey
 simp only [Sem.run_bind, run_underlying hF, Result.andThen_ok]
 cases es with
 | nil => simp [Instr.findNow, Instr.findAsking]
 | cons x es => simp [Instr.findNow, Instr.sameNow]
theorem tab_mapT {t kt et : Nat} (htb : TabOK P tb) (h : tb.k t = .map kt et) : P.underlying t = some (.map kt et) := tab_map htb h
theorem q_tlookup {t kt et : Nat} {m x : Operand} {i : Nat} {ents : List (PV × Int)} {cs : List PV} {r : Option Int} {fs : List (Nat × Nat × Nat)} (htb : TabOK P tb) (hop : o.op = .lookup t m x false) (hk : tb.k t = .map kt et) (hkt : tb.k kt = .agg fs true) (hs : (fs.all fun f => scalarTK (tb.k f.2.1)) = true)
  (hp : (fs.all fun f => (partE tb f.2.1 cs f.1).isSome) = true) (hz : tb.zero et = some (.int .i64 0)) (hm : env.val m = some (.own i)) (hi : H.get i = some (.obj (TMap ents))) (hx : env.pv H x = some (.agg cs)) (hf : findT tb kt (.agg cs) ents = some r) :
  QStep P g H o env (.pv (.base (.int .i64 (r.getD 0)))) := by
 refine ⟨fun K ρ a w hfs hv => ?_⟩
 have hmr := hv m (by rw [hop]; simp [Op.operands]) _ hm
 have hxr := opE_pv hfs (hv x (by rw [hop]; simp [Op.operands])) hx
 generalize hmv : a.eval m = mv at hmr
 generalize hxv : a.eval x = xv at hxr
 obtain ⟨b, ob, hr, hB, hheap, ⟨es, clock, rfl, hes, hent⟩, hn⟩ := hfs.heap.ok i _ hi
 cases hmr with
 | own _ _ =>
  obtain ⟨F, hF, _⟩ := tab_agg htb hkt
  have hck : (Instr.checkKey es.isEmpty 10000 kt xv).run P w = .ok () w := run_checkKey htb hkt hs hp hxr es.isEmpty 9998 w
  obtain ⟨res, r1, r2⟩ := run_findKey (K := K) (w := w) htb hkt hxr w es.toList ents r 0 (by simpa using hes) hent hf
  rw [← findKey_ask hF] at r1
  have hzi : (zeroValue et).run P w = .ok (.int .i64 0) w := by
   unfold Tab.zero at hz
   split at hz
   ·rename_i ti hti
    obtain ⟨i, e1, _, _, e4, _⟩ := tab_info htb hti
    simp [zeroValue, typeInfo, e1, e4, hz]
   ·cases hz
  have hgo := run_getObj_map (P := P) w b es clock hheap
  have hrun : (execOp a.eval o).run P w = .ok (.value (.int .i64 (r.getD 0))) w := by
   rcases r2 with ⟨rfl, rfl⟩ | ⟨c, j, rfl, rfl⟩
   ·simp [execOp, hop, hmv, hxv, hr, Instr.lookup, run_underlying (tab_mapT htb hk), hgo, hck, r1, hzi]
   ·simp [execOp, hop, hmv, hxv, hr, Instr.lookup, run_underlying (tab_mapT htb hk), hgo, hck, r1]
  rw [hrun]
  exact qval hfs (.pv _ _ (.base _ rfl))
theorem FS.setObj (hf : FS g K ρ H w) (hw1 : g.w1.heap.size = 0) {i b : Nat} {X X' : Obj → Prop} {ob' : Obj} (hi : H.get i = some (.obj X)) (hr : ρ i = .map (some b)) (hX' : X' ob') : FS g K ρ ((i, .obj X') :: H) (w.putObj b ob') ∧ Later K K w (w.putObj b ob') := by
 obtain ⟨b', ob, hr', hB, hheap, hX, hnK⟩ := hf.heap.ok i _ hi
 rw [hr] at hr'
 simp only [Value.map.injEq, Option.some.injEq] at hr'
 subst hr'
 have hgrow : w.grownBy (w.putObj b ob') (some b) := grownBy_putObj' _ _ _
 have hlt : b < w.heap.size := (Array.getElem?_eq_some_iff.1 hheap).1
 have hb' : (w.putObj b ob').heap[b]? = some ob' := by simp [World.putObj, hlt]
 have hlat : Later K K w (w.putObj b ob') := ⟨fun _ _ h => h, fun b' o hk => by
  have hne : b' ≠ b := by rintro rfl; exact hnK o hk
  exact World.cell?_of_block (hgrow.block b' (hf.lt b' o hk) (by simp [hne]))⟩
 have hkeep : ∀ j, (H.get j).isSome = true → (HEnv.get ((i, .obj X') :: H) j).isSome = true ∧ ρ j = ρ j := by
  intro j hj
  refine ⟨?_, rfl⟩
  rw [HEnv.get_cons]
  split
  ·rfl
  ·exact hj
 refine ⟨⟨hf.below.grown hgrow hf.below.size (fun k hk => by simp at hk; omega), hf.old, hf.new, fun b o hk => Nat.lt_of_lt_of_le (hf.lt b o hk) hgrow.size, ⟨by rw [hw1]; omega, fun k o hk => by have := (Array.getElem?_eq_some_iff.1 hk).1; omega⟩, hf.pt.grown hf.old hgrow hlat (fun b2 hb2 => by cases hb2; exact hf.away i _ b hi rfl (by rw [hr]; rfl)) (fun _ _ h => .inl h), hf.away.set hi rfl, ?_, ?_⟩, hlat⟩
 ·intro j e hj
  rw [HEnv.get_cons] at hj
  split at hj
  ·rename_i e'; subst e'
   simp only [Option.some.injEq] at hj; subst hj
   exact ⟨b, ob', hr, hB, hb', hX', hnK⟩
  ·rename_i hne
   by_cases hlive : e.live = true
   ·have := (hf.heap.ok j e hj).grown (f := id) hgrow hlat (fun b o h => .inl h) (fun av v h => h.keeps hlat hkeep) hlive (fun b' hb' e' => by
     simp at e'; subst e'
     exact hf.heap.apart i j _ e b hne hi hj rfl hlive (by rw [hr]; rfl) hb')
    cases e <;> exact this
   ·cases e <;> simp [HE.live] at hlive
    ·trivial
    ·exact ARel.keeps hlat hkeep (hf.heap.ok j _ hj)
 ·intro j k2 e e' bb hjk hj hk' hlj hlk hbj hbk
  have e1 : ∀ (j : Nat) (hh : HE), HEnv.get ((i, .obj X') :: H) j = some hh → hh.live = true → ∃ h0, H.get j = some h0 ∧ h0.live = true := by
   intro j hh hj hl
   rw [HEnv.get_cons] at hj
   split at hj
   ·rename_i e'; subst e'; exact ⟨_, hi, rfl⟩
   ·exact ⟨hh, hj, hl⟩
  obtain ⟨a1, a2, a3⟩ := e1 j e hj hlj
  obtain ⟨b1, b2, b3⟩ := e1 k2 e' hk' hlk
  exact hf.heap.apart j k2 a1 b1 bb hjk a2 b2 a3 b3 hbj hbk
theorem ao_tmapUpdate {t kt et : Nat} {m x v : Operand} {i : Nat} {ents : List (PV × Int)} {cs : List PV} {c : Int} {fs : List (Nat × Nat × Nat)} (hw1 : g.w1.heap.size = 0) (htb : TabOK P tb) (hg : guardE ops env o = some true) (hop : o.op = .mapUpdate t m x v) (hk : tb.k t = .map kt et) (hkt : tb.k kt = .agg fs true)
  (hs : (fs.all fun f => scalarTK (tb.k f.2.1)) = true) (hp : (fs.all fun f => (partE tb f.2.1 cs f.1).isSome) = true) (hm : env.val m = some (.own i)) (hi : H.get i = some (.obj (TMap ents))) (hx : env.pv H x = some (.agg cs)) (hfl : flatP (.agg cs) = true) (hv : env.pv H v = some (.base (.int .i64 c)))
  (hf : findT tb kt (.agg cs) ents = some none) (hd : o.dst = none)
  (h : AO P n g ops.toArray rest env ((i, .obj (TMap (ents ++ [(.agg cs, c)]))) :: H) Q) : AO P n g ops.toArray (o :: rest) env H Q := by
 refine ⟨fun a w hinv => ?_⟩
 have hw := wanted_of hinv hg
 obtain ⟨h1, h2, K, ρ, hfs, he⟩ := hinv
 refine wpList_step fun KK hKK => ?_
 rw [if_pos hw]
 have hmr := val_rel he hm
 have hxr := opE_pv (a := a) hfs (x := x) (fun av hh => val_rel he hh) hx
 have hvr := opE_pv (a := a) hfs (x := v) (fun av hh => val_rel he hh) hv
 generalize hmv : a.eval m = mv at hmr
 generalize hxv : a.eval x = xv at hxr
 generalize hvv : a.eval v = vv at hvr
 obtain ⟨b, ob, hr, hB, hheap, ⟨es, clock, rfl, hes, hent⟩, hn⟩ := hfs.heap.ok i _ hi
 cases hvr
 cases hmr with
 | own _ _ =>
  obtain ⟨F, hF, _⟩ := tab_agg htb hkt
  have hck : (Instr.checkKey false 10000 kt xv).run P w = .ok () w := run_checkKey htb hkt hs hp hxr false 9998 w
  obtain ⟨res, r1, r2⟩ := run_findKey (K := K) (w := w) htb hkt hxr w es.toList ents none 0 (by simpa using hes) hent hf
  have hres : res = none := by
   rcases r2 with ⟨_, h⟩ | ⟨c, j, h, _⟩
   ·exact h
   ·cases h
  subst hres
  rw [← findKey_ask hF] at r1
  have hgo := run_getObj_map (P := P) w b es clock hheap
  have hso : ∀ ob', (setObj b ob').run P w = .ok () (w.putObj b ob') := fun ob' => by simp [setObj, Sem.run, hheap, World.putObj]
  have hX' : TMap (ents ++ [(.agg cs, c)]) (.map (es.push { key := xv, val := .int .i64 c, born := clock }) (clock + 1)) := by
   refine ⟨_, _, rfl, by simp [hes], fun j e y he' hy => ?_⟩
   rw [Array.toList_push, List.getElem?_append] at he'
   rw [List.getElem?_append] at hy
   have hl : es.toList.length = ents.length := by simpa using hes
   rw [hl] at he'
   split at he'
   ·rename_i hj; rw [if_pos hj] at hy; exact hent j e y he' hy
   ·rename_i hj
    rw [if_neg hj] at hy
    have hj0 : j - ents.length = 0 := by have := (List.getElem?_eq_some_iff.1 he').1; simp at this; omega
    rw [hj0] at he' hy
    simp only [List.getElem?_cons_zero, Option.some.injEq] at he' hy
    subst he' hy
    exact ⟨flatP_any hfl hxr, rfl⟩
  have hrun : (execOp a.eval o).run P w = .ok .skip (w.putObj b (.map (es.push { key := xv, val := .int .i64 c, born := clock }) (clock + 1))) := by
   simp [execOp, hop, hmv, hxv, hvv, hr, Instr.mapUpdate, run_underlying (tab_mapT htb hk), hgo, hck, r1, hso]
  obtain ⟨hfs2, hlat⟩ := FS.setObj hfs hw1 hi hr hX'
  unfold Oper.wp
  rw [hrun]
  simp only [Oper.upon]
  have hd' : a.put o.dst undef = a := by rw [hd]; rfl
  rw [hd']
  exact hKK _ _ (h.go _ _ ⟨h1, h2, K, ρ, hfs2, he.keeps hlat fun j hj => ⟨by rw [HEnv.get_cons]; split <;> first | rfl | exact hj, rfl⟩⟩)
theorem ao_makeTMap {t d : Nat} (i : Nat) (hg : guardE ops env o = some true) (hop : o.op = .makeMap t none) (hi : H.get i = none) (hd : o.dst = some d) (ht : Nat.blt d n = true)
  (h : AO P n g ops.toArray rest ((d, .own i) :: env) ((i, .obj (TMap [])) :: H) Q) : AO P n g ops.toArray (o :: rest) env H Q := by
 refine ⟨fun a w hinv => ?_⟩
 have hw := wanted_of hinv hg
 obtain ⟨h1, h2, K, ρ, hf, he⟩ := hinv
 refine wpList_step fun KK hKK => ?_
 rw [if_pos hw]
 have hrun : (execOp a.eval o).run P w = .ok (.value (.map (some w.heap.size))) (w.alloc (.map #[] 0)) := by
  simp [execOp, hop, run_makeMap]
 unfold Oper.wp
 rw [hrun]
 simp only [Oper.upon]
 have hev : Evo K K w (w.alloc (.map #[] 0)) := ⟨(Below.refl _ _).alloc (Nat.le_refl _) _, fun _ _ h => h, fun _ _ h => .inl h, fun b o h => by have := hf.lt b o h; simp; omega⟩
 refine hKK _ _ (h.go _ _ ⟨put_size h1, put_defers h2, K, fun j => if j = i then .map (some w.heap.size) else ρ j, hf.fresh hev hi ⟨w.heap.size, .map #[] 0, rfl, hf.below.size, heap_alloc_new w _, ⟨#[], 0, rfl, rfl, fun i e x h => by simp at h⟩, fun o ho => by have := hf.lt _ o ho; omega⟩ (by simp [blockOf]), ?_⟩)
 rw [hd]
 have := ARel.own (K := K) (w := w.alloc (.map #[] 0)) (ρ := fun j => if j = i then .map (some w.heap.size) else ρ j) (H := (i, HE.obj (TMap [])) :: H) i (by simp [HEnv.get_cons])
 exact env_put h1 ht (he.keeps (hev.later hf.lt) (fresh_keeps hi _ _)) (by simpa using this)
end
end Go.Cg
namespace Go.Cg
open Go.Proofs
def kindsL (g : Img) (k : Nat) : List Int := (List.range k).map fun t : Nat => kindG g (t : Int)
def objsL (g : Img) (k : Nat) : List (List Ty) := (List.range k).map fun t : Nat => objectA g (t : Int)
def entsL (g : Img) : Nat → List (PV × Int)
 | 0 => []
 | k + 1 => if kindG g (k : Int) == 1 then entsL g k ++ [(tyPV ⟨6, (k : Int), 0, false⟩, ((cellsA g ⟨6, (k : Int), 0, false⟩).length : Int))] else entsL g k
theorem kindsL_snoc (g : Img) (k : Nat) : kindsL g (k + 1) = kindsL g k ++ [kindG g (k : Int)] := by simp [kindsL, List.range_succ]
theorem objsL_snoc (g : Img) (k : Nat) : objsL g (k + 1) = objsL g k ++ [objectA g (k : Int)] := by simp [objsL, List.range_succ]
theorem eqTy (a b : Int) : eqE tb 8 36 (.agg [pi 6, pi a, pi 0, pb false]) (.agg [pi 6, pi b, pi 0, pb false]) = some (a == b) := by
 have : eqE tb 8 36 (.agg [pi 6, pi a, pi 0, pb false]) (.agg [pi 6, pi b, pi 0, pb false]) = some ((6 : Int) == 6 && ((a == b) && ((0 : Int) == 0 && ((false == false) && true)))) := rfl
 rw [this]; simp
theorem find_none (g : Img) (a : Nat) : ∀ k, k ≤ a → findT tb 36 (.agg [pi 6, pi (a : Int), pi 0, pb false]) (entsL g k) = some none
 | 0, _ => rfl
 | k + 1, h => by
  have ih := find_none g a k (by omega)
  rw [entsL]
  split
  ·have key : ∀ (l : List (PV × Int)) (e : PV × Int), findT tb 36 (.agg [pi 6, pi (a : Int), pi 0, pb false]) l = some none → eqE tb 8 36 (.agg [pi 6, pi (a : Int), pi 0, pb false]) e.1 = some false → findT tb 36 (.agg [pi 6, pi (a : Int), pi 0, pb false]) (l ++ [e]) = some none := by
    intro l e hl he
    induction l with
    | nil => simp [findT, he]
    | cons x l ihl =>
     obtain ⟨q, v⟩ := x
     rw [findT] at hl
     rw [List.cons_append, findT]
     split at hl
     ·cases hl
     ·exact ihl hl
     ·cases hl
   refine key _ _ ih ?_
   show eqE tb 8 36 (.agg [pi 6, pi (a : Int), pi 0, pb false]) (.agg [pi 6, pi (k : Int), pi 0, pb false]) = some false
   rw [eqTy]
   simp; omega
  ·exact ih
def wsG (fa N : Nat) : Nat → List Int
 | 0 => List.replicate N 0
 | k + 1 => (wsG fa N k).set (fa + k) (headP ⟨7, ((k + 1 : Nat) : Int), 0, false⟩)
theorem wsG_len (fa N : Nat) : ∀ k, (wsG fa N k).length = N
 | 0 => by simp [wsG]
 | k + 1 => by rw [wsG, List.length_set, wsG_len fa N k]
abbrev objsPV (g : Img) : PV := .slc 1 ((objsL g g.types.length).map tys) false
abbrev kindsPV (g : Img) : PV := .slc 1 ((kindsL g g.types.length).map pi) false
abbrev gH (g : Img) (ws : List Int) (fa hp fr u : Int) : HEnv := [(0, .cell (.agg [.own 7, .pv (objsPV g), .pv (kindsPV g), .own 8, .pv (u64 fa), .pv (u64 hp), .pv (u64 fr), .pv (pi u)])), (7, .mrow 33 1 (ws.map u64)), (8, .obj (TMap (entsL g g.types.length)))]
abbrev gPV (g : Img) (ws : List Int) (mv : Value) (fa hp fr u : Int) : PV := .agg [.slc 1 (ws.map u64) false, objsPV g, kindsPV g, .base mv, u64 fa, u64 hp, u64 fr, pi u]
set_option maxHeartbeats 1000000 in
theorem FaultG_call (g : Img) (ws : List Int) (mv : Value) (fa hp fr u k : Int) (h0 : 0 ≤ fa) (h9 : fa ≤ 10000) (h1 : 1 ≤ k) (h7 : k ≤ 7) : ACall Tryz.prog 57 [.ptr (gPV g ws mv fa hp fr u) 0, pi k] (u64 (fa + k - 1)) := by
 have hd1 : decide (k < 1) = false := decide_eq_false (by omega)
 have hd2 : decide (7 < k) = false := decide_eq_false (by omega)
 refine acall_intro tbOK Tryz.func57 rfl (by kernel_rfl) Tryz.ntmps57 (by simp) _ rfl (fun hw gB hgB => ?_)
 repeat' (first | refine ao_q rfl (q_isnil (b := false) rfl Tryz.underlying31 rfl rfl) rfl rfl ?_ | refine AD.step _ _ _ _ _ rfl (q_isnil (b := false) rfl Tryz.underlying31 rfl rfl) rfl rfl ?_ | refine sK ?_ | refine sC (fun _ => ?_) (fun _ => ?_) | fail)
 exact retq rfl (by
  simp only [retPV]
  rw [wrapU_in (a := k) (by omega) (by omega), wrapU_in (a := fa + k) (by omega) (by omega), wrapU_in (by omega) (by omega)])
theorem tSU2 {P : Prop} (h : P := by repeat (first | exact sub_nil | refine sub_cons rfl ?_ | (refine sub_i rfl ?_ ?_; · (first | omega | (rw [wrap_in (by omega) (by omega)] <;> omega) | (rw [wrapU_in (by omega) (by omega)] <;> omega) | (dsimp only; rw [wrapU_in (by omega) (by omega)] <;> omega) | (simp; done))))) : P := h
set_option maxHeartbeats 8000000 in
theorem NewG_call (g : Img) (hx : OkA g) (hfi : fineR g = true) (w : Int) (h0 : 0 ≤ w) (h1 : w ≤ 4096) : ACallM Tryz.prog 17 [.pv (imgPV g), .pv (pi w)] [] (.box 0 0)
  (gH g (wsG (1 + (staticsA g).length) (8 + (staticsA g).length + w.toNat + 16384) 7) ((1 + (staticsA g).length : Nat) : Int) ((8 + (staticsA g).length : Nat) : Int) ((8 + (staticsA g).length + w.toNat : Nat) : Int) 0) true := by
 have hF := fine_of hfi
 have hN := (formedG_bounds hF.formed).1
 have c0 := CheckL_call g hx
 have c1 := StaticsA_call g hx
 obtain ⟨S, hS⟩ : ∃ S, S = (staticsA g).length := ⟨_, rfl⟩
 have hSb : S ≤ 512 := by
  rw [hS, staticsA, hfi]
  exact statT_le hF _
 have hch : (check12 g).2 = 0 := by rw [fineR] at hfi; simpa using hfi
 have hce : ((check12 g).2 != 0) = false := by rw [hch]; rfl
 have hd1 : decide (w < 0) = false := decide_eq_false (by omega)
 have hd2 : decide (4096 < w) = false := decide_eq_false (by omega)
 refine acallM_intro tbOK Tryz.func17 rfl (by kernel_rfl) Tryz.ntmps17 (by simp) _ rfl (fun gB hw1 => ?_)
 repeat' (first | refine aw_condF rfl hd2 ?_ | (refine shC ?_; first | refine qC c0 ?_) | refine sK ?_ | refine sC (fun _ => ?_) (fun _ => ?_) | fail)
 repeat' (first | refine ao_makeTMap 8 rfl rfl rfl rfl rfl ?_ | refine ao_q rfl (q_buildA tbOK rfl ⟨_, rfl⟩ rfl rfl rfl rfl rfl rfl) rfl rfl ?_ | refine aw_own_nil_field 0 41 1 92 1 (by decide) rfl rfl rfl rfl ?_ | refine aw_own_nil_field 0 42 2 3 1 (by decide) rfl rfl rfl rfl ?_ | (refine ao_sh_box ?_; first | refine ao_boxm 0 rfl rfl rfl rfl rfl rfl ?_) | refine sK ?_ | refine sC (fun _ => ?_) (fun _ => ?_) | fail)
 refine aw_loop (fun k : Nat => [(1, .pv (pi w)), (2, .pv (.ptr (imgPV g) 0)), (7, .box 0 0), (31, .pv (pi g.types.length)), (32, .pv (pi k))])
  (fun k => [(0, .cell (.agg [.pv nilS, .own 41, .own 42, .own 8, .pv (u64 0), .pv (u64 0), .pv (u64 0), .pv (pi 0)])), (41, .row 92 1 ((objsL g k).map tys)), (42, .row 3 1 ((kindsL g k).map pi)), (8, .obj (TMap (entsL g k)))]) (fun k => k ≤ g.types.length) (fun k => g.types.length - k) 0 (by omega) tSU2 ⟨by repeat (first | exact hsub_nil | refine hsub_cons rfl ?_), rfl⟩ ?_
 rintro k hk
 by_cases hlt : k < g.types.length
 ·have hdk : decide ((k : Int) < (g.types.length : Int)) = true := decide_eq_true (by omega)
  have cK := KindP_call g (k : Int)
  rw [kindP_eq hF.formed] at cK
  have cO := ObjectA_call g hx (k : Int)
  have cW := Words_call g hx ⟨6, (k : Int), 0, false⟩
  have hkl : (kindsL g k).length = k := by simp [kindsL]
  have hol : (objsL g k).length = k := by simp [objsL]
  have hex : ((kindsL g k).map pi ++ [pi (kindG g (k : Int))])[((k : Int)).toNat]? = some (pi (kindG g (k : Int))) := by
   rw [Int.toNat_natCast, List.getElem?_append_right (by rw [List.length_map, hkl]; omega), List.length_map, hkl, Nat.sub_self]; rfl
  have hK : (kindsL g k).map pi ++ [pi (kindG g (k : Int))] = (kindsL g (k + 1)).map pi := by rw [kindsL_snoc, List.map_append]; rfl
  have hO : (objsL g k).map tys ++ [tys (objectA g (k : Int))] = (objsL g (k + 1)).map tys := by rw [objsL_snoc, List.map_append]; rfl
  have hbK : (((kindsL g k).map pi).length + [pi (kindG g (k : Int))].length) * 8 ≤ 140737488355328 ∧ ((kindsL g k).map pi).length + [pi (kindG g (k : Int))].length ≤ 140737488355328 := by simp only [List.length_map, hkl, List.length_cons, List.length_nil]; omega
  have hbO : (((objsL g k).map tys).length + [tys (objectA g (k : Int))].length) * 24 ≤ 140737488355328 ∧ ((objsL g k).map tys).length + [tys (objectA g (k : Int))].length ≤ 140737488355328 := by simp only [List.length_map, hol, List.length_cons, List.length_nil]; omega
  by_cases hk1 : kindG g (k : Int) = 1
  ·have hkb : (kindG g (k : Int) == 1) = true := by simp [hk1]
   have hE : entsL g k ++ [(.agg [pi 6, pi (k : Int), pi 0, pb false], ((cellsA g ⟨6, (k : Int), 0, false⟩).length : Int))] = entsL g (k + 1) := by rw [entsL, if_pos hkb]; rfl
   repeat' (first | refine aw_draw_late 9 0 (by kernel_rfl) (by kernel_rfl) rfl rfl rfl rfl rfl rfl rfl (blind_append rfl rfl rfl) (by kernel_rfl) ?_ | refine ao_tmapUpdate (hw1 rfl) tbOK rfl rfl rfl rfl rfl rfl rfl rfl rfl rfl rfl (find_none g k k (Nat.le_refl _)) rfl ?_ | refine aw_draw_tailL 9 8 rfl (by kernel_rfl) (by kernel_rfl) (by kernel_rfl) (by kernel_rfl) (by kernel_rfl) ?_ | (refine shC ?_; first | refine qC cK ?_ | refine qC cO ?_ | refine qC cW ?_) | (refine shX ?_; first | refine qX hex ?_) | (refine ao_sh_bi ?_; first | refine ao_append tbOK rfl rfl rfl rfl rfl rfl rfl (show _ * 8 ≤ _ from hbK.1) hbK.2 rfl rfl ?_ | refine ao_append tbOK rfl rfl rfl rfl rfl rfl rfl (show _ * 24 ≤ _ from hbO.1) hbO.2 rfl rfl ?_) | refine sK ?_ | refine sC (fun _ => ?_) (fun _ => ?_) | fail)
   exact ⟨k + 1, hlt, tD, tSU2, ⟨by repeat (first | exact hsub_nil | refine hsub_cons rfl ?_ | refine hsub_r rfl hO ?_ | refine hsub_r rfl hK ?_ | refine hsub_cons (by rw [← hE]; rfl) ?_), rfl⟩⟩
  ·have hkb : (kindG g (k : Int) == 1) = false := by simp [hk1]
   have hE : entsL g k = entsL g (k + 1) := by rw [entsL, if_neg (by simp [hkb])]
   repeat' (first | refine aw_draw_late 9 0 (by kernel_rfl) (by kernel_rfl) rfl rfl rfl rfl rfl rfl rfl (blind_append rfl rfl rfl) (by kernel_rfl) ?_ | (refine shC ?_; first | refine qC cK ?_ | refine qC cO ?_) | (refine shX ?_; first | refine qX hex ?_) | (refine ao_sh_bi ?_; first | refine ao_append tbOK rfl rfl rfl rfl rfl rfl rfl (show _ * 8 ≤ _ from hbK.1) hbK.2 rfl rfl ?_ | refine ao_append tbOK rfl rfl rfl rfl rfl rfl rfl (show _ * 24 ≤ _ from hbO.1) hbO.2 rfl rfl ?_) | refine sK ?_ | refine sC (fun _ => ?_) (fun _ => ?_) | fail)
   exact ⟨k + 1, hlt, tD, tSU2, ⟨by repeat (first | exact hsub_nil | refine hsub_cons rfl ?_ | refine hsub_r rfl hO ?_ | refine hsub_r rfl hK ?_ | refine hsub_cons (by rw [← hE]; rfl) ?_), rfl⟩⟩
 ·have hk2 : k = g.types.length := by omega
  subst hk2
  have hdk : decide ((g.types.length : Int) < (g.types.length : Int)) = false := decide_eq_false (by omega)
  obtain ⟨N, hN2⟩ : ∃ N, N = 8 + S + w.toNat + 16384 := ⟨_, rfl⟩
  obtain ⟨E1, hE1⟩ : ∃ E, E = IntKind.u64.wrap (1 + IntKind.u64.wrap ((((staticsA g).map tyPV).length : Nat) : Int)) := ⟨_, rfl⟩
  have e1 : E1 = ((1 + S : Nat) : Int) := by rw [hE1, List.length_map, ← hS, wrapU_in (a := (S : Int)) (by omega) (by omega), wrapU_in (by omega) (by omega)]; omega
  obtain ⟨E2, hE2⟩ : ∃ E, E = IntKind.u64.wrap (E1 + 7) := ⟨_, rfl⟩
  have e2 : E2 = ((8 + S : Nat) : Int) := by rw [hE2, e1, wrapU_in (by omega) (by omega)]; omega
  obtain ⟨E3, hE3⟩ : ∃ E, E = IntKind.u64.wrap (E2 + IntKind.u64.wrap w) := ⟨_, rfl⟩
  have e3 : E3 = ((8 + S + w.toNat : Nat) : Int) := by rw [hE3, e2, wrapU_in (a := w) (by omega) (by omega), wrapU_in (by omega) (by omega)]; omega
  have hmi : IntKind.u64.wrap (E3 + 16384) = ((N : Nat) : Int) := by rw [e3, wrapU_in (by omega) (by omega)]; omega
  rw [hE3, hE2, hE1] at hmi
  rw [← hS, ← hN2]
  repeat' (first | refine aw_plain_field 0 41 1 rfl rfl rfl ?_ | refine aw_plain_field 0 42 2 rfl rfl rfl ?_ | refine ao_makeK (m := N) (sz := 1) tbOK 7 rfl rfl rfl rfl rfl hmi rfl rfl (by show 8 * _ ≤ _; omega) (by simp [maxLen]; omega) rfl rfl rfl ?_ | (refine shC ?_; first | refine qC c1 ?_) | refine sK ?_ | refine sC (fun _ => ?_) (fun _ => ?_) | fail)
  refine aw_loop (fun j : Nat => [(7, .box 0 0), (10, .pv (pi ((j + 1 : Nat) : Int)))]) (fun j => gH g (wsG (1 + S) N j) ((1 + S : Nat) : Int) ((8 + S : Nat) : Int) ((8 + S + w.toNat : Nat) : Int) 0) (fun j => j ≤ 7) (fun j => 7 - j) 0 (by omega) tSU2
   ⟨hsub_cons (show some (HE.cell (.agg [.own 7, .pv (objsPV g), .pv (kindsPV g), .own 8, .pv (u64 (IntKind.u64.wrap (1 + IntKind.u64.wrap ((((staticsA g).map tyPV).length : Nat) : Int)))), .pv (u64 (IntKind.u64.wrap (IntKind.u64.wrap (1 + IntKind.u64.wrap ((((staticsA g).map tyPV).length : Nat) : Int)) + 7))), .pv (u64 (IntKind.u64.wrap (IntKind.u64.wrap (IntKind.u64.wrap (1 + IntKind.u64.wrap ((((staticsA g).map tyPV).length : Nat) : Int)) + 7) + IntKind.u64.wrap w))), .pv (pi 0)])) = _ from by
    rw [← hE1, ← hE2, ← hE3, e3, e2, e1]) (hsub_m rfl (by rw [wsG, List.map_replicate]) (hsub_cons rfl hsub_nil)), rfl⟩ ?_
  rintro j hj
  by_cases hlt : j < 7
  ·have hl := wsG_len (1 + S) N j
   have hil : 1 + S + j < ((wsG (1 + S) N j).map u64).length := by rw [List.length_map, hl]; omega
   have hpp : ((wsG (1 + S) N j).map u64)[1 + S + j]? = some (u64 ((wsG (1 + S) N j)[1 + S + j]'(by rw [hl]; omega))) := by rw [List.getElem?_map, List.getElem?_eq_getElem (by rw [hl]; omega)]; rfl
   have hix : ((1 + S : Nat) : Int) + ((j + 1 : Nat) : Int) - 1 = ((1 + S + j : Nat) : Int) := by omega
   repeat' (first | refine aw_draw_tailL 12 11 rfl (by kernel_rfl) (by kernel_rfl) (by kernel_rfl) (by kernel_rfl) (by kernel_rfl) ?_ | refine ao_q (r := .pv (u64 _)) rfl (q_callO (args := fun ρ => [.ptr (gPV g (wsG (1 + S) N j) (ρ 8) ((1 + S : Nat) : Int) ((8 + S : Nat) : Int) ((8 + S + w.toNat : Nat) : Int) 0) 0, pi ((j + 1 : Nat) : Int)]) rfl (fun _ => rfl) (fun ρ => FaultG_call g (wsG (1 + S) N j) (ρ 8) ((1 + S : Nat) : Int) ((8 + S : Nat) : Int) ((8 + S + w.toNat : Nat) : Int) 0 ((j + 1 : Nat) : Int) (by omega) (by omega) (by omega) (by omega))) rfl rfl ?_ | refine AD.step _ _ _ (.pv (u64 _)) _ rfl (q_callO (args := fun ρ => [.ptr (gPV g (wsG (1 + S) N j) (ρ 8) ((1 + S : Nat) : Int) ((8 + S : Nat) : Int) ((8 + S + w.toNat : Nat) : Int) 0) 0, pi ((j + 1 : Nat) : Int)]) rfl (fun _ => rfl) (fun ρ => FaultG_call g (wsG (1 + S) N j) (ρ 8) ((1 + S : Nat) : Int) ((8 + S : Nat) : Int) ((8 + S + w.toNat : Nat) : Int) 0 ((j + 1 : Nat) : Int) (by omega) (by omega) (by omega) (by omega))) rfl rfl ?_ | (refine shC ?_; first | refine qC (Head_call ⟨7, ((j + 1 : Nat) : Int), 0, false⟩) ?_) | (refine shX ?_; first | refine ao_q rfl (q_mindex (k := 1 + S + j) tbOK rfl rfl rfl rfl rfl rfl rfl hix hil) rfl rfl ?_ | refine AD.step _ _ _ _ _ rfl (q_mindex (k := 1 + S + j) tbOK rfl rfl rfl rfl rfl rfl rfl hix hil) rfl rfl ?_) | (refine ao_sh_store ?_; first | refine ao_mstore (k := 1 + S + j) (j := 0) tbOK rfl rfl rfl rfl rfl hpp rfl rfl rfl rfl rfl ?_) | refine sK ?_ | refine sC (fun _ => ?_) (fun _ => ?_) | fail)
   exact ⟨j + 1, hlt, tD, tSU2, ⟨hsub_cons rfl (hsub_m rfl (by rw [wsG, List.map_set]) (hsub_cons rfl hsub_nil)), rfl⟩⟩
  ·have hj2 : j = 7 := by omega
   subst hj2
   repeat' (first | refine sK ?_ | refine sC (fun _ => ?_) (fun _ => ?_) | fail)
   exact ⟨.inr rfl, .inr ⟨4, rfl, rfl, ⟨by repeat (first | exact hsub_nil | refine hsub_cons rfl ?_), rfl⟩⟩⟩
end Go.Cg
namespace Go.Cg
open Go.Proofs
set_option maxHeartbeats 1000000 in
theorem FramesG_call (g : Img) (ws : List Int) (mv : Value) (fa hp fr u : Int) : ACall Tryz.prog 18 [.ptr (gPV g ws mv fa hp fr u) 0] (u64 fr) := by
 refine acall_intro tbOK Tryz.func18 rfl (by kernel_rfl) Tryz.ntmps18 (by simp) _ rfl (fun hw gB hgB => ?_)
 repeat' (first | refine ao_q rfl (q_isnil (b := false) rfl Tryz.underlying31 rfl rfl) rfl rfl ?_ | refine AD.step _ _ _ _ _ rfl (q_isnil (b := false) rfl Tryz.underlying31 rfl rfl) rfl rfl ?_ | refine sA ?_ | refine sC (fun _ => ?_) (fun _ => ?_) | fail)
 exact retq rfl rfl
set_option maxHeartbeats 1000000 in
theorem UsedG_call (g : Img) (ws : List Int) (mv : Value) (fa hp fr u : Int) : ACall Tryz.prog 19 [.ptr (gPV g ws mv fa hp fr u) 0] (pi u) := by
 refine acall_intro tbOK Tryz.func19 rfl (by kernel_rfl) Tryz.ntmps19 (by simp) _ rfl (fun hw gB hgB => ?_)
 repeat' (first | refine ao_q rfl (q_isnil (b := false) rfl Tryz.underlying31 rfl rfl) rfl rfl ?_ | refine AD.step _ _ _ _ _ rfl (q_isnil (b := false) rfl Tryz.underlying31 rfl rfl) rfl rfl ?_ | refine sA ?_ | refine sC (fun _ => ?_) (fun _ => ?_) | fail)
 exact retq rfl rfl
theorem kindsL_len (g : Img) (k : Nat) : (kindsL g k).length = k := by simp [kindsL]
theorem kindG_in {g : Img} {n : Nat} {t : Int} (h0 : 0 ≤ t) (h1 : t < n) : ((kindsL g n).map pi)[t.toNat]? = some (pi (kindG g t)) := by
 rw [List.getElem?_map, kindsL, List.getElem?_map, List.getElem?_range (by omega)]
 simp only [Option.map_some]
 congr 3; omega
theorem typeAt_out {g : Img} {t : Int} (h : t < 0 ∨ (g.types.length : Int) ≤ t) : typeAt g t = none := by
 unfold typeAt
 first | (split <;> first | rfl | omega | (rw [List.getElem?_eq_none (by omega)])) | simp; omega
theorem kindG_out {g : Img} {t : Int} (h : t < 0 ∨ (g.types.length : Int) ≤ t) : kindG g t = -1 := by
 rw [kindG, typeAt_out h]
set_option maxHeartbeats 1000000 in
theorem kindM_call (g : Img) (_hN : g.types.length ≤ 1024) (ws : List Int) (mv : Value) (fa hp fr u t : Int) : ACall Tryz.prog 123 [.ptr (gPV g ws mv fa hp fr u) 0, pi t] (pi (kindG g t)) := by
 by_cases h0 : t < 0
 ·have hd : decide (t < 0) = true := decide_eq_true h0
  rw [kindG_out (.inl h0)]
  refine acall_intro tbOK Tryz.func123 rfl (by kernel_rfl) Tryz.ntmps123 (by simp) _ rfl (fun hw gB hgB => ?_)
  repeat' (first | refine sA ?_ | refine sC (fun _ => ?_) (fun _ => ?_) | fail)
  exact retq rfl rfl
 ·have hd : decide (t < 0) = false := decide_eq_false h0
  by_cases h1 : (g.types.length : Int) ≤ t
  ·have hd1 : decide ((((kindsL g g.types.length).map pi).length : Int) ≤ t) = true := decide_eq_true (by rw [List.length_map, kindsL_len]; exact h1)
   rw [kindG_out (.inr h1)]
   refine acall_intro tbOK Tryz.func123 rfl (by kernel_rfl) Tryz.ntmps123 (by simp) _ rfl (fun hw gB hgB => ?_)
   repeat' (first | refine sA ?_ | refine sC (fun _ => ?_) (fun _ => ?_) | fail)
   exact retq rfl rfl
  ·have hd1 : decide ((((kindsL g g.types.length).map pi).length : Int) ≤ t) = false := decide_eq_false (by rw [List.length_map, kindsL_len]; exact h1)
   have hx := kindG_in (g := g) (n := g.types.length) (t := t) (by omega) (by omega)
   refine acall_intro tbOK Tryz.func123 rfl (by kernel_rfl) Tryz.ntmps123 (by simp) _ rfl (fun hw gB hgB => ?_)
   repeat' (first | (refine shX ?_; first | refine qX hx ?_) | refine sA ?_ | refine sC (fun _ => ?_) (fun _ => ?_) | fail)
   exact retq rfl rfl
theorem findT_app {kt : Nat} {c : PV} {e : PV × Int} : ∀ {l : List (PV × Int)} {r : Option Int}, findT tb kt c l = some r → (r ≠ none ∨ eqE tb 8 kt c e.1 = some false) → findT tb kt c (l ++ [e]) = some r
 | [], r, h, h2 => by
  simp only [findT, Option.some.injEq] at h
  subst h
  rcases h2 with h2 | h2
  ·exact absurd rfl h2
  ·obtain ⟨q, v⟩ := e
   simp only [List.nil_append, findT]
   simp only at h2
   rw [h2]
 | x :: l, r, h, h2 => by
  obtain ⟨q, v⟩ := x
  rw [List.cons_append]
  cases hq : eqE tb 8 kt c q with
  | none => simp [findT, hq] at h
  | some b =>
   cases b
   ·have h' : findT tb kt c l = some r := by simpa [findT, hq] using h
    have := findT_app h' h2
    simpa [findT, hq] using this
   ·have h' : some (some v) = some r := by simpa [findT, hq] using h
    rw [← h']; simp [findT, hq]
theorem findT_got {kt : Nat} {c : PV} {e : PV × Int} : ∀ {l : List (PV × Int)}, findT tb kt c l = some none → eqE tb 8 kt c e.1 = some true → findT tb kt c (l ++ [e]) = some (some e.2)
 | [], _, h2 => by
  obtain ⟨q, v⟩ := e
  simp only [List.nil_append, findT]
  rw [h2]
 | x :: l, h, h2 => by
  obtain ⟨q, v⟩ := x
  rw [List.cons_append]
  cases hq : eqE tb 8 kt c q with
  | none => simp [findT, hq] at h
  | some b =>
   cases b
   ·have h' : findT tb kt c l = some none := by simpa [findT, hq] using h
    have := findT_got h' h2
    simpa [findT, hq] using this
   ·simp [findT, hq] at h
theorem find_at (g : Img) (a : Nat) (hk : kindG g (a : Int) = 1) : ∀ k, a < k → findT tb 36 (.agg [pi 6, pi (a : Int), pi 0, pb false]) (entsL g k) = some (some ((cellsA g ⟨6, (a : Int), 0, false⟩).length : Int))
 | 0, h => absurd h (by omega)
 | k + 1, h => by
  rw [entsL]
  by_cases e : a = k
  ·subst e
   rw [if_pos (by simp [hk])]
   refine findT_got (find_none g a a (Nat.le_refl _)) ?_
   show eqE tb 8 36 (.agg [pi 6, pi (a : Int), pi 0, pb false]) (.agg [pi 6, pi (a : Int), pi 0, pb false]) = some true
   rw [eqTy]; simp
  ·have ih := find_at g a hk k (by omega)
   split
   ·exact findT_app ih (.inl (by simp))
   ·exact ih
end Go.Cg
namespace Go.Cg
open Go.Proofs
def mkW (ws : List Int) (a : Nat) (hd : Int) (l : List Int) (z : Nat) : List Int :=
 let x := ws.set a hd
 let b := x.take (a + 1) ++ l ++ x.drop (a + 1 + l.length)
 b.take (a + 1 + l.length) ++ List.replicate z 0 ++ b.drop (a + 1 + l.length + z)
theorem mkW_len {ws : List Int} {a z : Nat} {hd : Int} {l : List Int} (h : a + 1 + l.length + z ≤ ws.length) : (mkW ws a hd l z).length = ws.length := by
 simp only [mkW, List.length_append, List.length_take, List.length_drop, List.length_set, List.length_replicate]; omega
abbrev lub (l : List Int) (b : Bool) : PV := .slc 1 (l.map u64) b
theorem leftG {h w u : Nat} (hw : w ≤ 4096) (hu : u ≤ w) : IntKind.i64.wrap (IntKind.i64.wrap (IntKind.u64.wrap (((h + w : Nat) : Int) - (h : Int))) - (u : Int)) = (w : Int) - u := by
 rw [wrapU_in (by omega) (by omega), wrap_in (a := ((h + w : Nat) : Int) - (h : Int)) (by omega) (by omega), wrap_in (by omega) (by omega)]; omega
theorem needG {l : List Int} {z : Nat} (hl : l.length ≤ 100) (hz : z ≤ 1000000) : IntKind.i64.wrap (IntKind.i64.wrap (1 + (((l.map u64).length : Nat) : Int)) + (z : Int)) = 1 + (l.length : Int) + z := by
 rw [List.length_map, wrap_in (a := 1 + (l.length : Int)) (by omega) (by omega), wrap_in (by omega) (by omega)]
abbrev gR (g : Img) (ws : List Int) (fa : Int) (h w u : Nat) : HEnv := gH g ws fa (h : Int) ((h + w : Nat) : Int) (u : Int)
set_option maxHeartbeats 2000000 in
theorem makeGNo_call (g : Img) (ws : List Int) (fa : Int) (h w u z : Nat) (t : Ty) (l : List Int) (lb : Bool) (hw : w ≤ 4096) (hu : u ≤ w) (hl : l.length ≤ 100) (hz : z ≤ 1000000) (hno : w < u + 1 + l.length + z) (us : Nat → Value) :
  ACallM Tryz.prog 106 [.box 0 0, .pv (tyPV t), .pv (pi z), .pv (lub l lb)] (gR g ws fa h w u ++ pinB us [0]) (.pv (u64 0)) (gR g ws fa h w u ++ pinB us [0]) := by
 have hL := leftG (h := h) hw hu
 have hN := needG hl hz
 by_cases h1 : (w : Int) - u < z
 ·have hd1 : decide (IntKind.i64.wrap (IntKind.i64.wrap (IntKind.u64.wrap (((h + w : Nat) : Int) - (h : Int))) - (u : Int)) < (z : Int)) = true := decide_eq_true (by rw [hL]; exact h1)
  refine acallM_intro tbOK Tryz.func106 rfl (by kernel_rfl) Tryz.ntmps106 (by simp) _ rfl (fun gB hw1 => ?_)
  repeat' (first | refine sK ?_ | refine sC (fun _ => ?_) (fun _ => ?_) | fail)
  exact ⟨.inr rfl, .inl ⟨_, rfl, rfl, ⟨by repeat (first | exact hsub_nil | refine hsub_cons rfl ?_), rfl⟩⟩⟩
 ·have hd1 : decide (IntKind.i64.wrap (IntKind.i64.wrap (IntKind.u64.wrap (((h + w : Nat) : Int) - (h : Int))) - (u : Int)) < (z : Int)) = false := decide_eq_false (by rw [hL]; exact h1)
  have hd2 : decide (IntKind.i64.wrap (IntKind.i64.wrap (IntKind.u64.wrap (((h + w : Nat) : Int) - (h : Int))) - (u : Int)) < IntKind.i64.wrap (IntKind.i64.wrap (1 + (((l.map u64).length : Nat) : Int)) + (z : Int))) = true := decide_eq_true (by rw [hL, hN]; omega)
  refine acallM_intro tbOK Tryz.func106 rfl (by kernel_rfl) Tryz.ntmps106 (by simp) _ rfl (fun gB hw1 => ?_)
  repeat' (first | refine sK ?_ | refine sC (fun _ => ?_) (fun _ => ?_) | fail)
  exact ⟨.inr rfl, .inl ⟨_, rfl, rfl, ⟨by repeat (first | exact hsub_nil | refine hsub_cons rfl ?_), rfl⟩⟩⟩
set_option maxHeartbeats 2000000 in
theorem makeG_call (g : Img) (ws : List Int) (fa : Int) (h w u z : Nat) (t : Ty) (l : List Int) (lb : Bool) (hh : h ≤ 10000) (hw : w ≤ 4096) (hl : l.length ≤ 100) (hz : z ≤ 1000000) (hyes : u + 1 + l.length + z ≤ w) (hws : ws.length = h + w + 16384) (us : Nat → Value) :
  ACallM Tryz.prog 106 [.box 0 0, .pv (tyPV t), .pv (pi z), .pv (lub l lb)] (gR g ws fa h w u ++ pinB us [0]) (.pv (u64 ((h + u : Nat) : Int))) (gR g (mkW ws (h + u) (headP t) l z) fa h w (u + 1 + l.length + z) ++ pinB us [0]) := by
 have hL := leftG (h := h) hw (show u ≤ w by omega)
 have hN := needG hl hz
 have hd1 : decide (IntKind.i64.wrap (IntKind.i64.wrap (IntKind.u64.wrap (((h + w : Nat) : Int) - (h : Int))) - (u : Int)) < (z : Int)) = false := decide_eq_false (by rw [hL]; omega)
 have hd2 : decide (IntKind.i64.wrap (IntKind.i64.wrap (IntKind.u64.wrap (((h + w : Nat) : Int) - (h : Int))) - (u : Int)) < IntKind.i64.wrap (IntKind.i64.wrap (1 + (((l.map u64).length : Nat) : Int)) + (z : Int))) = false := decide_eq_false (by rw [hL, hN]; omega)
 have hA : IntKind.u64.wrap ((h : Int) + IntKind.u64.wrap (u : Int)) = ((h + u : Nat) : Int) := by rw [wrapU_in (a := (u : Int)) (by omega) (by omega), wrapU_in (by omega) (by omega)]; omega
 have hB : IntKind.u64.wrap (IntKind.u64.wrap ((h : Int) + IntKind.u64.wrap (u : Int)) + 1) = ((h + u + 1 : Nat) : Int) := by rw [hA, wrapU_in (by omega) (by omega)]; omega
 have hC : IntKind.u64.wrap (IntKind.u64.wrap (IntKind.u64.wrap ((h : Int) + IntKind.u64.wrap (u : Int)) + 1) + IntKind.u64.wrap (((l.map u64).length : Nat) : Int)) = ((h + u + 1 + l.length : Nat) : Int) := by
  rw [hB, List.length_map, wrapU_in (a := (l.length : Int)) (by omega) (by omega), wrapU_in (by omega) (by omega)]; omega
 have hD : IntKind.u64.wrap (IntKind.u64.wrap (IntKind.u64.wrap (IntKind.u64.wrap ((h : Int) + IntKind.u64.wrap (u : Int)) + 1) + IntKind.u64.wrap (((l.map u64).length : Nat) : Int)) + IntKind.u64.wrap (z : Int)) = ((h + u + 1 + l.length + z : Nat) : Int) := by
  rw [hC, wrapU_in (a := (z : Int)) (by omega) (by omega), wrapU_in (by omega) (by omega)]; omega
 have hB' : some (IntKind.u64.wrap (IntKind.u64.wrap ((h : Int) + IntKind.u64.wrap (u : Int)) + 1)) = some ((h + u + 1 : Nat) : Int) := by rw [hB]
 have hC' : some (IntKind.u64.wrap (IntKind.u64.wrap (IntKind.u64.wrap ((h : Int) + IntKind.u64.wrap (u : Int)) + 1) + IntKind.u64.wrap (((l.map u64).length : Nat) : Int))) = some ((h + u + 1 + l.length : Nat) : Int) := by rw [hC]
 have hD' : some (IntKind.u64.wrap (IntKind.u64.wrap (IntKind.u64.wrap (IntKind.u64.wrap ((h : Int) + IntKind.u64.wrap (u : Int)) + 1) + IntKind.u64.wrap (((l.map u64).length : Nat) : Int)) + IntKind.u64.wrap (z : Int))) = some ((h + u + 1 + l.length + z : Nat) : Int) := by rw [hD]
 have hE : IntKind.i64.wrap ((u : Int) + IntKind.i64.wrap (IntKind.i64.wrap (1 + (((l.map u64).length : Nat) : Int)) + (z : Int))) = ((u + 1 + l.length + z : Nat) : Int) := by rw [hN, wrap_in (by omega) (by omega)]; omega
 have hil : h + u < (ws.map u64).length := by rw [List.length_map]; omega
 have hpp : (ws.map u64)[h + u]? = some (u64 (ws[h + u]'(by omega))) := by rw [List.getElem?_map, List.getElem?_eq_getElem (by omega)]; rfl
 refine acallM_intro tbOK Tryz.func106 rfl (by kernel_rfl) Tryz.ntmps106 (by simp) _ rfl (fun gB hw1 => ?_)
 repeat' (first | refine aw_draw_tailL 9 8 rfl (by kernel_rfl) (by kernel_rfl) (by kernel_rfl) (by kernel_rfl) (by kernel_rfl) ?_ | refine ao_mslice tbOK 7 20 rfl rfl rfl rfl rfl rfl rfl hB' rfl (by omega) (by simp only [List.length_set, List.length_map]; omega) (by omega) (by simp only [List.length_set, List.length_map]; omega) rfl rfl rfl (fun uu => ?_) | refine ao_mslice tbOK 7 21 rfl rfl rfl rfl rfl rfl rfl hC' hD' (by omega) (by omega) (by simp only [List.length_append, List.length_take, List.length_drop, List.length_set, List.length_map]; omega) (by simp only [List.length_append, List.length_take, List.length_drop, List.length_set, List.length_map]; omega) rfl rfl rfl (fun uu => ?_) | (refine shC ?_; first | refine qC (Head_call t) ?_) | (refine shX ?_; first | refine ao_q rfl (q_mindex (k := h + u) tbOK rfl rfl rfl rfl rfl rfl rfl hA hil) rfl rfl ?_ | refine AD.step _ _ _ _ _ rfl (q_mindex (k := h + u) tbOK rfl rfl rfl rfl rfl rfl rfl hA hil) rfl rfl ?_) | (refine ao_sh_store ?_; first | refine ao_mstore (k := h + u) (j := 0) tbOK rfl rfl rfl rfl rfl hpp rfl rfl rfl rfl rfl ?_) | (refine ao_sh_bi ?_; first | refine ao_mcopy (i := 7) (j := 20) tbOK rfl rfl rfl rfl rfl rfl rfl rfl rfl (by simp only [List.length_set, List.length_map]; omega) (by simp only [List.length_set, List.length_map]; omega) (by simp only [List.length_set, List.length_map]; omega) rfl rfl ?_ | refine ao_mclear (i := 7) (j := 21) (zv := .int .u64 0) (z := u64 0) tbOK rfl rfl rfl rfl rfl rfl (by omega) (by simp only [List.length_append, List.length_take, List.length_drop, List.length_set, List.length_map]; omega) rfl rfl rfl rfl ?_) | refine sK ?_ | refine sC (fun _ => ?_) (fun _ => ?_) | fail)
 refine ⟨.inr rfl, .inl ⟨_, rfl, ?_, ?_⟩⟩
 ·show AV.pv _ = AV.pv (u64 (IntKind.u64.wrap ((h : Int) + IntKind.u64.wrap (u : Int))))
  rw [hA]
 ·refine ⟨hsub_cons (show some (HE.cell (.agg [.own 7, .pv (objsPV g), .pv (kindsPV g), .own 8, .pv (u64 fa), .pv (u64 (h : Int)), .pv (u64 ((h + w : Nat) : Int)), .pv (pi (IntKind.i64.wrap ((u : Int) + IntKind.i64.wrap (IntKind.i64.wrap (1 + (((l.map u64).length : Nat) : Int)) + (z : Int)))))])) = _ from by rw [hE]) (hsub_m rfl ?_ (by repeat (first | exact hsub_nil | refine hsub_cons rfl ?_))), rfl⟩
  have e1 : ((h + u + 1 + l.length + z : Nat) : Int).toNat - ((h + u + 1 + l.length : Nat) : Int).toNat = z := by omega
  rw [e1]
  simp only [mkW, List.map_append, List.map_take, List.map_drop, List.map_set, List.map_replicate, List.length_map, Int.toNat_natCast]
structure GM (g : Img) (ws : List Int) (h w u : Nat) : Prop where
 fine : fineR g = true
 hh : h ≤ 10000
 hp : 0 < h
 hw : w ≤ 4096
 hu : u ≤ w
 len : ws.length = h + w + 16384
abbrev Giv := Int × List Int × Nat
def giveG (h w : Nat) (ws : List Int) (u : Nat) (t : Ty) (l : List Int) (z : Nat) : Giv := if u + 1 + l.length + z ≤ w then (((h + u : Nat) : Int), mkW ws (h + u) (headP t) l z, u + 1 + l.length + z) else (0, ws, u)
theorem giveG_ok {g : Img} {ws : List Int} {h w u : Nat} (hm : GM g ws h w u) (t : Ty) (l : List Int) (z : Nat) : GM g (giveG h w ws u t l z).2.1 h w (giveG h w ws u t l z).2.2 := by
 rw [giveG]
 split
 ·rename_i h1
  have h2 := hm.len
  exact ⟨hm.fine, hm.hh, hm.hp, hm.hw, h1, by rw [mkW_len (by omega), hm.len]⟩
 ·exact hm
theorem giveG_call {g : Img} {ws : List Int} {h w u : Nat} (hm : GM g ws h w u) (fa : Int) (z : Nat) (t : Ty) (l : List Int) (lb : Bool) (hl : l.length ≤ 100) (hz : z ≤ 1000000) (us : Nat → Value) :
  ACallM Tryz.prog 106 [.box 0 0, .pv (tyPV t), .pv (pi z), .pv (lub l lb)] (gR g ws fa h w u ++ pinB us [0]) (.pv (u64 (giveG h w ws u t l z).1)) (gR g (giveG h w ws u t l z).2.1 fa h w (giveG h w ws u t l z).2.2 ++ pinB us [0]) := by
 rw [giveG]
 split
 ·rename_i h1; exact makeG_call g ws fa h w u z t l lb hm.hh hm.hw hl hz h1 hm.len us
 ·rename_i h1; exact makeGNo_call g ws fa h w u z t l lb hm.hw hm.hu hl hz (by omega) us
end Go.Cg
namespace Go.Cg
open Go.Proofs
structure Ac where
 kind : Int
 n : Int
 t : Ty
 a : Int
 x : Int
 l : List Int
 deriving Inhabited
def acPV (c : Ac) : PV := .agg [pi c.kind, pi c.n, pi c.t.kind, pi c.t.index, pi c.t.dims, pb c.t.ref, u64 c.a, u64 c.x, .slc 1 (c.l.map u64) false]
def acts (l : List Ac) : PV := .slc 9 (l.map acPV) false
theorem type0 : typeP 0 = ⟨0, 0, 0, false⟩ := by decide +kernel
set_option maxHeartbeats 1000000 in
theorem KindN_call (a : Int) : ACall Tryz.prog 33 [nilP, u64 a] (tyPV ⟨0, 0, 0, false⟩) := by
 have c1 := Type_call 0
 rw [type0] at c1
 refine acall_intro tbOK Tryz.func33 rfl (by kernel_rfl) Tryz.ntmps33 (by simp) _ rfl (fun hw gB hgB => ?_)
 repeat' (first | (refine shC ?_; first | refine qC (GetN_call a) ?_ | refine qC c1 ?_) | refine sA ?_ | refine sC (fun _ => ?_) (fun _ => ?_) | fail)
 all_goals exact retq rfl rfl
theorem q_notnil {P : Program} {g : Base} {H : HEnv} {env : Env} {o : Oper} {t rt pe : TypeId} {x : Operand} (hop : o.op = .binOp .neq t x (.const (.pointer none)) rt) (hu0 : P.underlying t = some (.pointer pe)) (hx : env.val x = some (.pv (.base (.pointer none)))) : QStep P g H o env (.pv (.base (.bool false))) := by
 have hu : P.underlying t = some (.pointer (P.pointee t)) := by rw [hu0, Program.pointee, hu0]
 refine ⟨fun K ρ a w hf hv => ?_⟩
 have hxr := hv x (by rw [hop]; simp [Op.operands]) _ hx
 generalize hxv : a.eval x = xv at hxr
 cases hxr with
 | pv p v hp =>
  cases hp
  have h1 := run_neq_pointer_nil (P := P) w t none hu
  have h2 : a.eval (.const (.pointer none)) = .pointer none := rfl
  have hrun : (execOp a.eval o).run P w = .ok (.value (.bool false)) w := by
   simp [execOp, hop, hxv, h2, eqGuard, h1]
  rw [hrun]
  exact qval hf (.pv _ _ (.base _ rfl))
set_option maxHeartbeats 1000000 in
theorem PutN_call (a x : Int) : ACall Tryz.prog 70 [nilP, u64 a, u64 x] (.tup []) := by
 refine acall_intro tbOK Tryz.func70 rfl (by kernel_rfl) Tryz.ntmps70 (by simp) _ rfl (fun hw gB hgB => ?_)
 repeat' (first | refine ao_q rfl (q_notnil rfl Tryz.underlying31 rfl) rfl rfl ?_ | refine sA ?_ | refine sC (fun _ => ?_) (fun _ => ?_) | fail)
 exact retn rfl rfl
set_option maxHeartbeats 2000000 in
theorem doN_call (c : Ac) : ACall Tryz.prog 20 [nilP, acPV c] (u64 0) := by
 refine acall_intro tbOK Tryz.func20 rfl (by kernel_rfl) Tryz.ntmps20 (by simp) _ rfl (fun hw gB hgB => ?_)
 repeat' (first | (refine shC ?_; first | refine qC (ObjectN_call c.t.index) ?_ | refine qC (ArrayN_call c.t c.n) ?_ | refine qC (BoxN_call c.t (c.l.map u64)) ?_ | refine qC (DelegateN_call c.t.index c.a c.n) ?_ | refine qC (PutN_call c.a c.x) ?_ | refine qC (GetN_call c.a) ?_) | refine sA ?_ | refine sC (fun _ => ?_) (fun _ => ?_) | fail)
 all_goals exact retq rfl rfl
end Go.Cg
namespace Go.Cg
open Go.Proofs
theorem giveG0_call {g : Img} {ws : List Int} {h w u : Nat} (hm : GM g ws h w u) (fa : Int) (z : Nat) (t : Ty) (hz : z ≤ 1000000) (us : Nat → Value) :
  ACallM Tryz.prog 106 [.box 0 0, .pv (tyPV t), .pv (pi z), .pv nilS] (gR g ws fa h w u ++ pinB us [0]) (.pv (u64 (giveG h w ws u t [] z).1)) (gR g (giveG h w ws u t [] z).2.1 fa h w (giveG h w ws u t [] z).2.2 ++ pinB us [0]) := by
 refine (giveG_call hm fa z t [] false (by simp) hz us).tells rfl ?_
 intro k c c' hc hc'
 match k, hc, hc' with
 | 0, hc, hc' => left; cases hc; cases hc'; rfl
 | 1, hc, hc' => left; cases hc; cases hc'; rfl
 | 2, hc, hc' => left; cases hc; cases hc'; rfl
 | 3, hc, hc' => right; cases hc; cases hc'; exact ⟨_, _, rfl, rfl, pt_nil 1 false⟩
 | k + 4, hc, hc' => cases hc
theorem OkA_len {g : Img} (hf : fineR g = true) : g.types.length ≤ 1024 := Nat.le_trans (formedG_bounds (fine_of hf).formed).1 (by decide)
theorem objectA_le {g : Img} (hf : fineR g = true) (t : Int) : (objectA g t).length ≤ 512 := by
 have hF := fine_of hf
 rw [objectA, hf]
 by_cases hk : kindG g t = 0
 ·have e : (true && kindG g t == 0) = true := by simp [hk]
  rw [if_pos e]
  exact objT_le hF t
 ·have e : (true && kindG g t == 0) = false := by simp [hk]
  rw [if_neg (by rw [e]; decide)]
  exact Nat.zero_le _
theorem objsL_in {g : Img} {n : Nat} {t : Int} (h0 : 0 ≤ t) (h1 : t < n) : ((objsL g n).map tys)[t.toNat]? = some (tys (objectA g t)) := by
 rw [List.getElem?_map, objsL, List.getElem?_map, List.getElem?_range (by omega)]
 simp only [Option.map_some]
 congr 3; omega
theorem kindG_there {g : Img} {t k : Int} (h : kindG g t = k) (hk : k ≠ -1) : 0 ≤ t ∧ t < (g.types.length : Int) := by
 by_cases hc : t < 0 ∨ (g.types.length : Int) ≤ t
 ·rw [kindG_out hc] at h; exact absurd h.symm hk
 ·omega
def objM (g : Img) (h w : Nat) (ws : List Int) (u : Nat) (t : Int) : Giv := if kindG g t = 0 then giveG h w ws u ⟨5, t, 0, false⟩ [] (objectA g t).length else (0, ws, u)
def delM (g : Img) (h w : Nat) (ws : List Int) (u : Nat) (t this m : Int) : Giv := if kindG g t = 3 then giveG h w ws u ⟨5, t, 0, false⟩ [this, IntKind.u64.wrap m] 0 else (0, ws, u)
set_option maxHeartbeats 2000000 in
theorem ObjectG_call {g : Img} {ws : List Int} {h w u : Nat} (hm : GM g ws h w u) (fa t : Int) (us : Nat → Value) :
  ACallM Tryz.prog 67 [.box 0 0, .pv (pi t)] (gR g ws fa h w u ++ pinB us [0]) (.pv (u64 (objM g h w ws u t).1)) (gR g (objM g h w ws u t).2.1 fa h w (objM g h w ws u t).2.2 ++ pinB us [0]) := by
 have hN := OkA_len hm.fine
 have cK := fun mv => kindM_call g hN ws mv fa (h : Int) ((h + w : Nat) : Int) (u : Int) t
 rw [objM]
 by_cases hk : kindG g t = 0
 ·rw [if_pos hk]
  have hb : (kindG g t != 0) = false := by simp [hk]
  obtain ⟨t0, t1⟩ := kindG_there hk (by decide)
  have hx := objsL_in (g := g) (n := g.types.length) t0 t1
  have hle := objectA_le hm.fine t
  have cM := fun us' => giveG0_call hm fa (objectA g t).length ⟨5, t, 0, false⟩ (by omega) us'
  rw [show (((objectA g t).length : Nat) : Int) = ((((objectA g t).map tyPV).length : Nat) : Int) by rw [List.length_map]] at cM
  refine acallM_intro tbOK Tryz.func67 rfl (by kernel_rfl) Tryz.ntmps67 (by simp) _ rfl (fun gB hw1 => ?_)
  repeat' (first | refine ao_q rfl (q_isnil (b := false) rfl Tryz.underlying31 rfl rfl) rfl rfl ?_ | refine AD.step _ _ _ _ _ rfl (q_isnil (b := false) rfl Tryz.underlying31 rfl rfl) rfl rfl ?_ | refine ao_q (r := .pv (pi (kindG g t))) rfl (q_callO (args := fun ρ => [.ptr (gPV g ws (ρ 8) fa (h : Int) ((h + w : Nat) : Int) (u : Int)) 0, pi t]) rfl (fun _ => rfl) (fun ρ => cK (ρ 8))) rfl rfl ?_ | refine AD.step _ _ _ (.pv (pi (kindG g t))) _ rfl (q_callO (args := fun ρ => [.ptr (gPV g ws (ρ 8) fa (h : Int) ((h + w : Nat) : Int) (u : Int)) 0, pi t]) rfl (fun _ => rfl) (fun ρ => cK (ρ 8))) rfl rfl ?_ | (refine shX ?_; first | refine ao_q rfl (q_index tbOK rfl rfl rfl rfl rfl rfl t0 hx) rfl rfl ?_ | refine AD.step _ _ _ _ _ rfl (q_index tbOK rfl rfl rfl rfl rfl rfl t0 hx) rfl rfl ?_) | (refine ao_sh_call ?_; first | (refine ao_callM (gR g ws fa h w u) (gR g (giveG h w ws u ⟨5, t, 0, false⟩ [] (objectA g t).length).2.1 fa h w (giveG h w ws u ⟨5, t, 0, false⟩ [] (objectA g t).length).2.2) [(1000, .pin (.own 0) (us 0))] [] [0] noLoneH rfl rfl rfl ?_ tS rfl rfl rfl cM ?_; · (repeat (first | exact hsub_nil | refine hsub_cons rfl ?_)))) | refine sK ?_ | refine sC (fun _ => ?_) (fun _ => ?_) | fail)
  exact ⟨.inr rfl, .inl ⟨_, rfl, rfl, ⟨by repeat (first | exact hsub_nil | refine hsub_cons rfl ?_), rfl⟩⟩⟩
 ·rw [if_neg hk]
  have hb : (kindG g t != 0) = true := by simp [hk]
  refine acallM_intro tbOK Tryz.func67 rfl (by kernel_rfl) Tryz.ntmps67 (by simp) _ rfl (fun gB hw1 => ?_)
  repeat' (first | refine ao_q rfl (q_isnil (b := false) rfl Tryz.underlying31 rfl rfl) rfl rfl ?_ | refine AD.step _ _ _ _ _ rfl (q_isnil (b := false) rfl Tryz.underlying31 rfl rfl) rfl rfl ?_ | refine ao_q (r := .pv (pi (kindG g t))) rfl (q_callO (args := fun ρ => [.ptr (gPV g ws (ρ 8) fa (h : Int) ((h + w : Nat) : Int) (u : Int)) 0, pi t]) rfl (fun _ => rfl) (fun ρ => cK (ρ 8))) rfl rfl ?_ | refine AD.step _ _ _ (.pv (pi (kindG g t))) _ rfl (q_callO (args := fun ρ => [.ptr (gPV g ws (ρ 8) fa (h : Int) ((h + w : Nat) : Int) (u : Int)) 0, pi t]) rfl (fun _ => rfl) (fun ρ => cK (ρ 8))) rfl rfl ?_ | refine sK ?_ | refine sC (fun _ => ?_) (fun _ => ?_) | fail)
  exact ⟨.inr rfl, .inl ⟨_, rfl, rfl, ⟨by repeat (first | exact hsub_nil | refine hsub_cons rfl ?_), rfl⟩⟩⟩
set_option maxHeartbeats 2000000 in
theorem DelegateG_call {g : Img} {ws : List Int} {h w u : Nat} (hm : GM g ws h w u) (fa t this m : Int) (us : Nat → Value) :
  ACallM Tryz.prog 69 [.box 0 0, .pv (pi t), .pv (u64 this), .pv (pi m)] (gR g ws fa h w u ++ pinB us [0]) (.pv (u64 (delM g h w ws u t this m).1)) (gR g (delM g h w ws u t this m).2.1 fa h w (delM g h w ws u t this m).2.2 ++ pinB us [0]) := by
 have hN := OkA_len hm.fine
 have cK := fun mv => kindM_call g hN ws mv fa (h : Int) ((h + w : Nat) : Int) (u : Int) t
 rw [delM]
 by_cases hk : kindG g t = 3
 ·rw [if_pos hk]
  have hb : (kindG g t != 3) = false := by simp [hk]
  have cM := fun us' => giveG_call hm fa 0 ⟨5, t, 0, false⟩ [this, IntKind.u64.wrap m] true (by simp) (by omega) us'
  refine acallM_intro tbOK Tryz.func69 rfl (by kernel_rfl) Tryz.ntmps69 (by simp) _ rfl (fun gB hw1 => ?_)
  repeat' (first | refine ao_q rfl (q_isnil (b := false) rfl Tryz.underlying31 rfl rfl) rfl rfl ?_ | refine AD.step _ _ _ _ _ rfl (q_isnil (b := false) rfl Tryz.underlying31 rfl rfl) rfl rfl ?_ | refine ao_q (r := .pv (pi (kindG g t))) rfl (q_callO (args := fun ρ => [.ptr (gPV g ws (ρ 8) fa (h : Int) ((h + w : Nat) : Int) (u : Int)) 0, pi t]) rfl (fun _ => rfl) (fun ρ => cK (ρ 8))) rfl rfl ?_ | refine AD.step _ _ _ (.pv (pi (kindG g t))) _ rfl (q_callO (args := fun ρ => [.ptr (gPV g ws (ρ 8) fa (h : Int) ((h + w : Nat) : Int) (u : Int)) 0, pi t]) rfl (fun _ => rfl) (fun ρ => cK (ρ 8))) rfl rfl ?_ | (refine ao_sh_call ?_; first | (refine ao_callM (gR g ws fa h w u) (gR g (giveG h w ws u ⟨5, t, 0, false⟩ [this, IntKind.u64.wrap m] 0).2.1 fa h w (giveG h w ws u ⟨5, t, 0, false⟩ [this, IntKind.u64.wrap m] 0).2.2) [(1000, .pin (.own 0) (us 0))] [] [0] noLoneH rfl rfl rfl ?_ tS rfl rfl rfl cM ?_; · (repeat (first | exact hsub_nil | refine hsub_cons rfl ?_)))) | refine sK ?_ | refine sC (fun _ => ?_) (fun _ => ?_) | fail)
  exact ⟨.inr rfl, .inl ⟨_, rfl, rfl, ⟨by repeat (first | exact hsub_nil | refine hsub_cons rfl ?_), rfl⟩⟩⟩
 ·rw [if_neg hk]
  have hb : (kindG g t != 3) = true := by simp [hk]
  refine acallM_intro tbOK Tryz.func69 rfl (by kernel_rfl) Tryz.ntmps69 (by simp) _ rfl (fun gB hw1 => ?_)
  repeat' (first | refine ao_q rfl (q_isnil (b := false) rfl Tryz.underlying31 rfl rfl) rfl rfl ?_ | refine AD.step _ _ _ _ _ rfl (q_isnil (b := false) rfl Tryz.underlying31 rfl rfl) rfl rfl ?_ | refine ao_q (r := .pv (pi (kindG g t))) rfl (q_callO (args := fun ρ => [.ptr (gPV g ws (ρ 8) fa (h : Int) ((h + w : Nat) : Int) (u : Int)) 0, pi t]) rfl (fun _ => rfl) (fun ρ => cK (ρ 8))) rfl rfl ?_ | refine AD.step _ _ _ (.pv (pi (kindG g t))) _ rfl (q_callO (args := fun ρ => [.ptr (gPV g ws (ρ 8) fa (h : Int) ((h + w : Nat) : Int) (u : Int)) 0, pi t]) rfl (fun _ => rfl) (fun ρ => cK (ρ 8))) rfl rfl ?_ | refine sK ?_ | refine sC (fun _ => ?_) (fun _ => ?_) | fail)
  exact ⟨.inr rfl, .inl ⟨_, rfl, rfl, ⟨by repeat (first | exact hsub_nil | refine hsub_cons rfl ?_), rfl⟩⟩⟩
end Go.Cg
namespace Go.Cg
open Go.Proofs
def plainG (g : Img) (t : Ty) : Bool :=
 if t.kind == 2 || t.kind == 3 || t.kind == 4 then t.index == 0
 else if t.kind == 7 then decide (0 ≤ t.index) && decide (t.index ≤ 7)
 else if t.kind == 5 then decide (0 ≤ kindG g t.index) && kindG g t.index != 1
 else if t.kind == 6 then kindG g t.index == 1
 else false
def sizeG (g : Img) (t : Ty) : Nat :=
 if t.ref || decide (t.dims < 0) || decide (3 < t.dims) || !plainG g t then 0
 else if t.kind == 6 && t.dims == 0 then (cellsA g t).length else 1
theorem cellsA_le {g : Img} (hf : fineR g = true) (t : Ty) : (cellsA g t).length ≤ 8 := by
 cases hu : usedR g t
 ·rw [cellsA_no (by rw [hu]; simp)]; simp
 ·rw [cellsA_yes hf hu]; exact (fine_of hf).used_le hu
theorem sizeG_le {g : Img} (hf : fineR g = true) (t : Ty) : sizeG g t ≤ 8 := by
 have h := cellsA_le hf t
 rw [sizeG]
 split
 ·omega
 ·split
  ·exact h
  ·omega
section
variable {g : Img} {k i d : Int}
theorem sz_ref : sizeG g ⟨k, i, d, true⟩ = 0 := by simp [sizeG]
theorem sz_neg {r : Bool} (h : d < 0) : sizeG g ⟨k, i, d, r⟩ = 0 := by simp [sizeG, h]
theorem sz_big {r : Bool} (h : 3 < d) : sizeG g ⟨k, i, d, r⟩ = 0 := by simp [sizeG, h]
theorem sz_not {r : Bool} (h : plainG g ⟨k, i, d, r⟩ = false) : sizeG g ⟨k, i, d, r⟩ = 0 := by simp [sizeG, h]
theorem sz_one (h0 : ¬d < 0) (h1 : ¬3 < d) (h : plainG g ⟨k, i, d, false⟩ = true) (h6 : ¬(k = 6 ∧ d = 0)) : sizeG g ⟨k, i, d, false⟩ = 1 := by
 have e : (k == 6 && d == 0) = false := by
  rw [Bool.eq_false_iff]; intro hh
  rw [Bool.and_eq_true, beq_iff_eq, beq_iff_eq] at hh
  exact h6 hh
 simp [sizeG, h, h0, h1]
 simp at e
 exact fun a b => absurd b (e a)
theorem sz_val (h : kindG g i = 1) : sizeG g ⟨6, i, 0, false⟩ = (cellsA g ⟨6, i, 0, false⟩).length := by simp [sizeG, plainG, h]
end
set_option maxHeartbeats 4000000 in
theorem sizeM_call (g : Img) (hN : g.types.length ≤ 32) (ws : List Int) (fa hp fr u : Int) (t : Ty) (us : Nat → Value) :
  ACallM Tryz.prog 105 [.box 0 0, .pv (tyPV t)] (gH g ws fa hp fr u ++ pinB us [0]) (.pv (pi (sizeG g t))) (gH g ws fa hp fr u ++ pinB us [0]) := by
 obtain ⟨k, i, d, r⟩ := t
 have cK := fun mv => kindM_call g (by omega) ws mv fa hp fr u i
 cases r
 ·by_cases hd0 : d < 0
  ·have e0 : decide (d < 0) = true := decide_eq_true hd0
   rw [sz_neg hd0]
   refine acallM_intro tbOK Tryz.func105 rfl (by kernel_rfl) Tryz.ntmps105 (by simp) _ rfl (fun gB hw1 => ?_)
   repeat' (first | (refine ao_sh_box ?_; first | refine ao_boxm 1 rfl rfl rfl rfl rfl rfl ?_) | refine sK ?_ | refine sC (fun _ => ?_) (fun _ => ?_) | fail)
   exact ⟨.inr rfl, .inl ⟨_, rfl, rfl, ⟨by repeat (first | exact hsub_nil | refine hsub_cons rfl ?_), rfl⟩⟩⟩
  ·have e0 : decide (d < 0) = false := decide_eq_false hd0
   by_cases hd3 : 3 < d
   ·have e1 : decide (3 < d) = true := decide_eq_true hd3
    rw [sz_big hd3]
    refine acallM_intro tbOK Tryz.func105 rfl (by kernel_rfl) Tryz.ntmps105 (by simp) _ rfl (fun gB hw1 => ?_)
    repeat' (first | (refine ao_sh_box ?_; first | refine ao_boxm 1 rfl rfl rfl rfl rfl rfl ?_) | refine sK ?_ | refine sC (fun _ => ?_) (fun _ => ?_) | fail)
    exact ⟨.inr rfl, .inl ⟨_, rfl, rfl, ⟨by repeat (first | exact hsub_nil | refine hsub_cons rfl ?_), rfl⟩⟩⟩
   ·have e1 : decide (3 < d) = false := decide_eq_false hd3
    by_cases h234 : k = 2 ∨ k = 3 ∨ k = 4
    ·have hpl : plainG g ⟨k, i, d, false⟩ = (i == 0) := by rcases h234 with rfl | rfl | rfl <;> rfl
     have h6 : ¬(k = 6 ∧ d = 0) := by omega
     cases hi : (i == 0)
     ·have hn : (!(i == 0)) = true := by rw [hi]; rfl
      rw [sz_not (hpl.trans hi)]
      rcases h234 with rfl | rfl | rfl
      ·refine acallM_intro tbOK Tryz.func105 rfl (by kernel_rfl) Tryz.ntmps105 (by simp) _ rfl (fun gB hw1 => ?_)
       repeat' (first | (refine ao_sh_box ?_; first | refine ao_boxm 1 rfl rfl rfl rfl rfl rfl ?_) | refine sK ?_ | refine sC (fun _ => ?_) (fun _ => ?_) | fail)
       exact ⟨.inr rfl, .inl ⟨_, rfl, rfl, ⟨by repeat (first | exact hsub_nil | refine hsub_cons rfl ?_), rfl⟩⟩⟩
      ·refine acallM_intro tbOK Tryz.func105 rfl (by kernel_rfl) Tryz.ntmps105 (by simp) _ rfl (fun gB hw1 => ?_)
       repeat' (first | (refine ao_sh_box ?_; first | refine ao_boxm 1 rfl rfl rfl rfl rfl rfl ?_) | refine sK ?_ | refine sC (fun _ => ?_) (fun _ => ?_) | fail)
       exact ⟨.inr rfl, .inl ⟨_, rfl, rfl, ⟨by repeat (first | exact hsub_nil | refine hsub_cons rfl ?_), rfl⟩⟩⟩
      ·refine acallM_intro tbOK Tryz.func105 rfl (by kernel_rfl) Tryz.ntmps105 (by simp) _ rfl (fun gB hw1 => ?_)
       repeat' (first | (refine ao_sh_box ?_; first | refine ao_boxm 1 rfl rfl rfl rfl rfl rfl ?_) | refine sK ?_ | refine sC (fun _ => ?_) (fun _ => ?_) | fail)
       exact ⟨.inr rfl, .inl ⟨_, rfl, rfl, ⟨by repeat (first | exact hsub_nil | refine hsub_cons rfl ?_), rfl⟩⟩⟩
     ·have hn : (!(i == 0)) = false := by rw [hi]; rfl
      rw [sz_one hd0 hd3 (hpl.trans hi) h6]
      rcases h234 with rfl | rfl | rfl
      ·refine acallM_intro tbOK Tryz.func105 rfl (by kernel_rfl) Tryz.ntmps105 (by simp) _ rfl (fun gB hw1 => ?_)
       repeat' (first | (refine ao_sh_box ?_; first | refine ao_boxm 1 rfl rfl rfl rfl rfl rfl ?_) | refine sK ?_ | refine sC (fun _ => ?_) (fun _ => ?_) | fail)
       exact ⟨.inr rfl, .inl ⟨_, rfl, rfl, ⟨by repeat (first | exact hsub_nil | refine hsub_cons rfl ?_), rfl⟩⟩⟩
      ·refine acallM_intro tbOK Tryz.func105 rfl (by kernel_rfl) Tryz.ntmps105 (by simp) _ rfl (fun gB hw1 => ?_)
       repeat' (first | (refine ao_sh_box ?_; first | refine ao_boxm 1 rfl rfl rfl rfl rfl rfl ?_) | refine sK ?_ | refine sC (fun _ => ?_) (fun _ => ?_) | fail)
       exact ⟨.inr rfl, .inl ⟨_, rfl, rfl, ⟨by repeat (first | exact hsub_nil | refine hsub_cons rfl ?_), rfl⟩⟩⟩
      ·refine acallM_intro tbOK Tryz.func105 rfl (by kernel_rfl) Tryz.ntmps105 (by simp) _ rfl (fun gB hw1 => ?_)
       repeat' (first | (refine ao_sh_box ?_; first | refine ao_boxm 1 rfl rfl rfl rfl rfl rfl ?_) | refine sK ?_ | refine sC (fun _ => ?_) (fun _ => ?_) | fail)
       exact ⟨.inr rfl, .inl ⟨_, rfl, rfl, ⟨by repeat (first | exact hsub_nil | refine hsub_cons rfl ?_), rfl⟩⟩⟩
    ·by_cases h7 : k = 7
     ·subst h7
      have hpl : plainG g ⟨7, i, d, false⟩ = (decide (0 ≤ i) && decide (i ≤ 7)) := rfl
      by_cases hi0 : 0 ≤ i
      ·have f0 : decide (0 ≤ i) = true := decide_eq_true hi0
       cases f1 : decide (i ≤ 7)
       ·have hn : (!(decide (i ≤ 7))) = true := by rw [f1]; rfl
        rw [sz_not (hpl.trans (by rw [f0, f1]; rfl))]
        refine acallM_intro tbOK Tryz.func105 rfl (by kernel_rfl) Tryz.ntmps105 (by simp) _ rfl (fun gB hw1 => ?_)
        repeat' (first | (refine ao_sh_box ?_; first | refine ao_boxm 1 rfl rfl rfl rfl rfl rfl ?_) | refine sK ?_ | refine sC (fun _ => ?_) (fun _ => ?_) | fail)
        exact ⟨.inr rfl, .inl ⟨_, rfl, rfl, ⟨by repeat (first | exact hsub_nil | refine hsub_cons rfl ?_), rfl⟩⟩⟩
       ·have hn : (!(decide (i ≤ 7))) = false := by rw [f1]; rfl
        rw [sz_one hd0 hd3 (hpl.trans (by rw [f0, f1]; rfl)) (by omega)]
        refine acallM_intro tbOK Tryz.func105 rfl (by kernel_rfl) Tryz.ntmps105 (by simp) _ rfl (fun gB hw1 => ?_)
        repeat' (first | (refine ao_sh_box ?_; first | refine ao_boxm 1 rfl rfl rfl rfl rfl rfl ?_) | refine sK ?_ | refine sC (fun _ => ?_) (fun _ => ?_) | fail)
        exact ⟨.inr rfl, .inl ⟨_, rfl, rfl, ⟨by repeat (first | exact hsub_nil | refine hsub_cons rfl ?_), rfl⟩⟩⟩
      ·have f0 : decide (0 ≤ i) = false := decide_eq_false hi0
       rw [sz_not (hpl.trans (by rw [f0]; rfl))]
       refine acallM_intro tbOK Tryz.func105 rfl (by kernel_rfl) Tryz.ntmps105 (by simp) _ rfl (fun gB hw1 => ?_)
       repeat' (first | (refine ao_sh_box ?_; first | refine ao_boxm 1 rfl rfl rfl rfl rfl rfl ?_) | refine sK ?_ | refine sC (fun _ => ?_) (fun _ => ?_) | fail)
       exact ⟨.inr rfl, .inl ⟨_, rfl, rfl, ⟨by repeat (first | exact hsub_nil | refine hsub_cons rfl ?_), rfl⟩⟩⟩
     ·by_cases h5 : k = 5
      ·subst h5
       have hpl : plainG g ⟨5, i, d, false⟩ = (decide (0 ≤ kindG g i) && kindG g i != 1) := rfl
       by_cases hi0 : 0 ≤ kindG g i
       ·have f0 : decide (0 ≤ kindG g i) = true := decide_eq_true hi0
        cases f1 : (kindG g i != 1)
        ·have hn : (!(kindG g i != 1)) = true := by rw [f1]; rfl
         rw [sz_not (hpl.trans (by rw [f0, f1]; rfl))]
         refine acallM_intro tbOK Tryz.func105 rfl (by kernel_rfl) Tryz.ntmps105 (by simp) _ rfl (fun gB hw1 => ?_)
         repeat' (first | refine ao_q (r := .pv (pi (kindG g i))) rfl (q_callO (args := fun ρ => [.ptr (gPV g ws (ρ 8) fa hp fr u) 0, pi i]) rfl (fun _ => rfl) (fun ρ => cK (ρ 8))) rfl rfl ?_ | refine AD.step _ _ _ (.pv (pi (kindG g i))) _ rfl (q_callO (args := fun ρ => [.ptr (gPV g ws (ρ 8) fa hp fr u) 0, pi i]) rfl (fun _ => rfl) (fun ρ => cK (ρ 8))) rfl rfl ?_ | (refine ao_sh_box ?_; first | refine ao_boxm 1 rfl rfl rfl rfl rfl rfl ?_) | refine sK ?_ | refine sC (fun _ => ?_) (fun _ => ?_) | fail)
         exact ⟨.inr rfl, .inl ⟨_, rfl, rfl, ⟨by repeat (first | exact hsub_nil | refine hsub_cons rfl ?_), rfl⟩⟩⟩
        ·have hn : (!(kindG g i != 1)) = false := by rw [f1]; rfl
         rw [sz_one hd0 hd3 (hpl.trans (by rw [f0, f1]; rfl)) (by omega)]
         refine acallM_intro tbOK Tryz.func105 rfl (by kernel_rfl) Tryz.ntmps105 (by simp) _ rfl (fun gB hw1 => ?_)
         repeat' (first | refine ao_q (r := .pv (pi (kindG g i))) rfl (q_callO (args := fun ρ => [.ptr (gPV g ws (ρ 8) fa hp fr u) 0, pi i]) rfl (fun _ => rfl) (fun ρ => cK (ρ 8))) rfl rfl ?_ | refine AD.step _ _ _ (.pv (pi (kindG g i))) _ rfl (q_callO (args := fun ρ => [.ptr (gPV g ws (ρ 8) fa hp fr u) 0, pi i]) rfl (fun _ => rfl) (fun ρ => cK (ρ 8))) rfl rfl ?_ | (refine ao_sh_box ?_; first | refine ao_boxm 1 rfl rfl rfl rfl rfl rfl ?_) | refine sK ?_ | refine sC (fun _ => ?_) (fun _ => ?_) | fail)
         exact ⟨.inr rfl, .inl ⟨_, rfl, rfl, ⟨by repeat (first | exact hsub_nil | refine hsub_cons rfl ?_), rfl⟩⟩⟩
       ·have f0 : decide (0 ≤ kindG g i) = false := decide_eq_false hi0
        rw [sz_not (hpl.trans (by rw [f0]; rfl))]
        refine acallM_intro tbOK Tryz.func105 rfl (by kernel_rfl) Tryz.ntmps105 (by simp) _ rfl (fun gB hw1 => ?_)
        repeat' (first | refine ao_q (r := .pv (pi (kindG g i))) rfl (q_callO (args := fun ρ => [.ptr (gPV g ws (ρ 8) fa hp fr u) 0, pi i]) rfl (fun _ => rfl) (fun ρ => cK (ρ 8))) rfl rfl ?_ | refine AD.step _ _ _ (.pv (pi (kindG g i))) _ rfl (q_callO (args := fun ρ => [.ptr (gPV g ws (ρ 8) fa hp fr u) 0, pi i]) rfl (fun _ => rfl) (fun ρ => cK (ρ 8))) rfl rfl ?_ | (refine ao_sh_box ?_; first | refine ao_boxm 1 rfl rfl rfl rfl rfl rfl ?_) | refine sK ?_ | refine sC (fun _ => ?_) (fun _ => ?_) | fail)
        exact ⟨.inr rfl, .inl ⟨_, rfl, rfl, ⟨by repeat (first | exact hsub_nil | refine hsub_cons rfl ?_), rfl⟩⟩⟩
      ·by_cases h6 : k = 6
       ·subst h6
        have hpl : plainG g ⟨6, i, d, false⟩ = (kindG g i == 1) := rfl
        cases f1 : (kindG g i == 1)
        ·have hn : (!(kindG g i == 1)) = true := by rw [f1]; rfl
         rw [sz_not (hpl.trans f1)]
         refine acallM_intro tbOK Tryz.func105 rfl (by kernel_rfl) Tryz.ntmps105 (by simp) _ rfl (fun gB hw1 => ?_)
         repeat' (first | refine ao_q (r := .pv (pi (kindG g i))) rfl (q_callO (args := fun ρ => [.ptr (gPV g ws (ρ 8) fa hp fr u) 0, pi i]) rfl (fun _ => rfl) (fun ρ => cK (ρ 8))) rfl rfl ?_ | refine AD.step _ _ _ (.pv (pi (kindG g i))) _ rfl (q_callO (args := fun ρ => [.ptr (gPV g ws (ρ 8) fa hp fr u) 0, pi i]) rfl (fun _ => rfl) (fun ρ => cK (ρ 8))) rfl rfl ?_ | (refine ao_sh_box ?_; first | refine ao_boxm 1 rfl rfl rfl rfl rfl rfl ?_) | refine sK ?_ | refine sC (fun _ => ?_) (fun _ => ?_) | fail)
         exact ⟨.inr rfl, .inl ⟨_, rfl, rfl, ⟨by repeat (first | exact hsub_nil | refine hsub_cons rfl ?_), rfl⟩⟩⟩
        ·have hn : (!(kindG g i == 1)) = false := by rw [f1]; rfl
         by_cases hd : d = 0
         ·subst hd
          have hk1 : kindG g i = 1 := beq_iff_eq.1 f1
          obtain ⟨h0, h1⟩ := kindG_there hk1 (by decide)
          rw [sz_val hk1]
          obtain ⟨a, rfl⟩ : ∃ a : Nat, i = (a : Int) := ⟨i.toNat, by omega⟩
          have hfd := find_at g a hk1 g.types.length (by omega)
          refine acallM_intro tbOK Tryz.func105 rfl (by kernel_rfl) Tryz.ntmps105 (by simp) _ rfl (fun gB hw1 => ?_)
          repeat' (first | refine ao_q (r := .pv (pi (kindG g (a : Int)))) rfl (q_callO (args := fun ρ => [.ptr (gPV g ws (ρ 8) fa hp fr u) 0, pi (a : Int)]) rfl (fun _ => rfl) (fun ρ => cK (ρ 8))) rfl rfl ?_ | refine AD.step _ _ _ (.pv (pi (kindG g (a : Int)))) _ rfl (q_callO (args := fun ρ => [.ptr (gPV g ws (ρ 8) fa hp fr u) 0, pi (a : Int)]) rfl (fun _ => rfl) (fun ρ => cK (ρ 8))) rfl rfl ?_ | refine AD.step _ _ _ _ _ rfl (q_tlookup tbOK rfl rfl rfl rfl rfl rfl rfl rfl rfl hfd) rfl rfl ?_ | (refine ao_sh_box ?_; first | refine ao_boxm 1 rfl rfl rfl rfl rfl rfl ?_) | refine sK ?_ | refine sC (fun _ => ?_) (fun _ => ?_) | fail)
          exact ⟨.inr rfl, .inl ⟨_, rfl, rfl, ⟨by repeat (first | exact hsub_nil | refine hsub_cons rfl ?_), rfl⟩⟩⟩
         ·have hdb : (d == 0) = false := by simp [hd]
          rw [sz_one hd0 hd3 (hpl.trans f1) (by omega)]
          refine acallM_intro tbOK Tryz.func105 rfl (by kernel_rfl) Tryz.ntmps105 (by simp) _ rfl (fun gB hw1 => ?_)
          repeat' (first | refine ao_q (r := .pv (pi (kindG g i))) rfl (q_callO (args := fun ρ => [.ptr (gPV g ws (ρ 8) fa hp fr u) 0, pi i]) rfl (fun _ => rfl) (fun ρ => cK (ρ 8))) rfl rfl ?_ | refine AD.step _ _ _ (.pv (pi (kindG g i))) _ rfl (q_callO (args := fun ρ => [.ptr (gPV g ws (ρ 8) fa hp fr u) 0, pi i]) rfl (fun _ => rfl) (fun ρ => cK (ρ 8))) rfl rfl ?_ | (refine ao_sh_box ?_; first | refine ao_boxm 1 rfl rfl rfl rfl rfl rfl ?_) | refine sK ?_ | refine sC (fun _ => ?_) (fun _ => ?_) | fail)
          exact ⟨.inr rfl, .inl ⟨_, rfl, rfl, ⟨by repeat (first | exact hsub_nil | refine hsub_cons rfl ?_), rfl⟩⟩⟩
       ·have hpl : plainG g ⟨k, i, d, false⟩ = false := by
         have a2 : (k == 2) = false := by simp; omega
         have a3 : (k == 3) = false := by simp; omega
         have a4 : (k == 4) = false := by simp; omega
         have a5 : (k == 5) = false := by simp; omega
         have a6 : (k == 6) = false := by simp; omega
         have a7 : (k == 7) = false := by simp; omega
         simp [plainG, a2, a3, a4, a5, a6, a7]
        have a2 : (k == 2) = false := by simp; omega
        have a3 : (k == 3) = false := by simp; omega
        have a4 : (k == 4) = false := by simp; omega
        have a5 : (k == 5) = false := by simp; omega
        have a6 : (k == 6) = false := by simp; omega
        have a7 : (k == 7) = false := by simp; omega
        rw [sz_not hpl]
        refine acallM_intro tbOK Tryz.func105 rfl (by kernel_rfl) Tryz.ntmps105 (by simp) _ rfl (fun gB hw1 => ?_)
        repeat' (first | (refine ao_sh_box ?_; first | refine ao_boxm 1 rfl rfl rfl rfl rfl rfl ?_) | refine sK ?_ | refine sC (fun _ => ?_) (fun _ => ?_) | fail)
        exact ⟨.inr rfl, .inl ⟨_, rfl, rfl, ⟨by repeat (first | exact hsub_nil | refine hsub_cons rfl ?_), rfl⟩⟩⟩
 ·rw [sz_ref]
  refine acallM_intro tbOK Tryz.func105 rfl (by kernel_rfl) Tryz.ntmps105 (by simp) _ rfl (fun gB hw1 => ?_)
  repeat' (first | (refine ao_sh_box ?_; first | refine ao_boxm 1 rfl rfl rfl rfl rfl rfl ?_) | refine sK ?_ | refine sC (fun _ => ?_) (fun _ => ?_) | fail)
  exact ⟨.inr rfl, .inl ⟨_, rfl, rfl, ⟨by repeat (first | exact hsub_nil | refine hsub_cons rfl ?_), rfl⟩⟩⟩
end Go.Cg
