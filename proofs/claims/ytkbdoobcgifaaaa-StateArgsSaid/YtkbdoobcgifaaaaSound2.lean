/- 'opE' tells what the machine does: operation by operation. -/
import Derived.Test.YtkbdoobcgifaaaaSound
namespace Go.Cg
open Go.RowKit

section
variable {P : Program} {tb : Tab} {g : Base} {K : KK} {w : World} {ρ : Nat → Value} {H : HEnv} {env : Env} {a : Act}

theorem qval {r : AV} {v : Value} (hfs : FS g K ρ H w) (h : ARel K w ρ H r v) : QRes P K ρ H w r (.ok (.value v) w) := ⟨K, .refl hfs.lt, h⟩

theorem fin_app {α : Type} {x : Sem α} {f : α → Sem Next} {v : α} (h : x.run P w = .ok v w) : (x >>= f).run P w = (f v).run P w := by simp [h]

theorem pv_notTup {x : Operand} {p : PV} (h : env.pv H x = some p) : p.notTup = true := by
  unfold Env.pv at h
  split at h
  · exact toPV_notTup h
  · cases h

theorem opE_sound (htb : TabOK P tb) {o : Oper} {r : AV} (h : opE tb H env o = some r) : QStep P g H o env r := by
  refine ⟨fun K ρ a w hfs hv => ?_⟩
  unfold opE at h
  obtain ⟨dst, op, ty, pos, after, guard⟩ := o
  dsimp only at h hv
  cases op with
  | move x => exact qval hfs (hv x (by simp [Op.operands]) r h)
  | assign x => exact qval hfs (hv x (by simp [Op.operands]) r h)
  | pick c x y =>
    dsimp only at h
    split at h
    · rename_i hc
      have := hv c (by simp [Op.operands]) _ hc
      generalize hcv : a.eval c = vc at this
      cases this with | pv _ _ hp => cases hp; simp [execOp, hcv, asBool]; exact qval hfs (hv x (by simp [Op.operands]) r h)
    · rename_i hc
      have := hv c (by simp [Op.operands]) _ hc
      generalize hcv : a.eval c = vc at this
      cases this with | pv _ _ hp => cases hp; simp [execOp, hcv, asBool]; exact qval hfs (hv y (by simp [Op.operands]) r h)
    · cases h
  | box t x =>
    dsimp only at h
    split at h
    · rename_i p hp
      simp only [Option.some.injEq] at h; subst h
      have hpr := opE_pv hfs (hv x (by simp [Op.operands])) hp
      have hcr := cells_rel hpr
      have hrun : (execOp a.eval { dst, op := .box t x, type := ty, pos, after, guard }).run P w = .ok (.value (.pointer (some ⟨w.heap.size, 0, none⟩))) (w.alloc (.cells (a.eval x).cells t)) := by
        simp [execOp, Instr.box, newVar, newRow]
      rw [hrun]
      have hev := evo_alloc hfs.lt (a.eval x).cells t (a.eval x).cells.size
      refine ⟨_, hev, .pv _ _ (.ptr p 0 w.heap.size 0 (a.eval x).cells.toList hcr.1 (rows_alloc _ _ _ (Nat.le_refl _) (cells_one hpr (pv_notTup hp))) fun k c v hc hv => (hcr.2 k c v hc hv).later (hev.later hfs.lt))⟩
    · cases h
  | load t x =>
    dsimp only at h
    split at h
    · rename_i p off hx
      split at h
      · rename_i q hq
        simp only [Option.some.injEq] at h; subst h
        have := hv x (by simp [Op.operands]) _ hx
        cases this with
        | pv _ _ hp =>
          obtain ⟨u, h1, h2⟩ := run_loadVar_ptr htb hp hq
          simp only [execOp]
          rw [fin_app h1]
          exact qval hfs (.pv _ _ h2)
      · cases h
    · rename_i i off hx
      split at h
      · rename_i c hc
        obtain ⟨u, h1, h2⟩ := run_loadVar_box htb hfs (hv x (by simp [Op.operands]) _ hx) hc h
        simp only [execOp]
        rw [fin_app h1]
        exact qval hfs h2
      · cases h
    · cases h
  | fieldAddr t x f =>
    dsimp only at h
    split at h
    · rename_i fs q hk
      split at h
      · rename_i o' ft s hf
        cases hs : fieldOk tb ft s with
        | false => simp [hs] at h
        | true =>
          simp only [hs] at h
          simp only [fieldOk, Bool.and_eq_true, bne_iff_ne, beq_iff_eq] at hs
          obtain ⟨F, hF, hfs', _⟩ := tab_agg htb hk
          have hf' : ∃ fl : Field, F[f]? = some fl ∧ fl.offset = o' ∧ fl.type = ft := by
            rw [← hfs', List.getElem?_map, Array.getElem?_toList] at hf
            cases hfl : F[f]? with
            | none => simp [hfl] at hf
            | some fl => simp [hfl] at hf; exact ⟨fl, rfl, hf.1, hf.2.1⟩
          obtain ⟨fl, hfl, rfl, rfl⟩ := hf'
          have hko : tb.k fl.type ≠ .oth := by intro e; simp [Tab.known, e] at hs
          have hsz := run_sizeOf htb hko w
          have hne : tb.size fl.type ≠ 0 := by omega
          have run : ∀ b off, a.eval x = .pointer (some ⟨b, off, none⟩) → (execOp a.eval { dst, op := .fieldAddr t x f, type := ty, pos, after, guard }).run P w = .ok (.value (.pointer (some ⟨b, off + fl.offset, none⟩))) w := by
            intro b off hx
            simp [execOp, Instr.fieldAt, run_underlying hF, hfl, hx, Instr.sureAddr, fieldPlace, hsz, hne, Addr.add_lit]
          split at h
          · rename_i p off _ hx
            simp only [Option.some.injEq] at h; subst h
            have := hv x (by simp [Op.operands]) _ hx
            generalize hxv : a.eval x = vx at this
            cases this with
            | pv _ _ hp =>
              cases hp with
              | ptr _ _ b o vs h1 h2 h3 =>
                rw [run _ _ hxv]
                refine qval hfs (.pv _ _ ?_)
                rw [Nat.add_assoc]
                exact .ptr p (off + fl.offset) b o vs h1 h2 h3
          · rename_i i off _ hx
            simp only [Option.some.injEq] at h; subst h
            have := hv x (by simp [Op.operands]) _ hx
            generalize hxv : a.eval x = vx at this
            cases this with
            | box _ _ b hi hb =>
              rw [run _ _ hxv]
              exact qval hfs (.box _ _ b hi hb)
          · cases h
      · cases h
    · cases h
  | field t x f =>
    dsimp only at h
    split at h
    · rename_i fs q hk
      split at h
      · rename_i o' ft s hf
        split at h
        · rename_i cs hx
          split at h
          · rename_i p hp
            simp only [Option.some.injEq] at h; subst h
            obtain ⟨F, hF, hfs', _⟩ := tab_agg htb hk
            have hf' : ∃ fl : Field, F[f]? = some fl ∧ fl.offset = o' ∧ fl.type = ft := by
              rw [← hfs', List.getElem?_map, Array.getElem?_toList] at hf
              cases hfl : F[f]? with
              | none => simp [hfl] at hf
              | some fl => simp [hfl] at hf; exact ⟨fl, rfl, hf.1, hf.2.1⟩
            obtain ⟨fl, hfl, rfl, rfl⟩ := hf'
            have := opE_pv hfs (hv x (by simp [Op.operands])) hx
            generalize hxv : a.eval x = vx at this
            cases this with
            | agg _ vs h1 ho h2 =>
              obtain ⟨v, h3, h4⟩ := run_part htb (P := P) ⟨h1, h2⟩ ho hp w
              have : (execOp a.eval { dst, op := .field t x f, type := ty, pos, after, guard }).run P w = .ok (.value v) w := by
                simp [execOp, Instr.field, run_underlying hF, hfl, hxv, asAgg, h3]
              rw [this]
              exact qval hfs (.pv _ _ h4)
          · cases h
        · cases h
      · cases h
    · cases h
  | binOp op t x y t' =>
    dsimp only at h
    split at h
    · rename_i p q hp hq
      split at h
      · rename_i v hb
        simp only [Option.some.injEq] at h; subst h
        obtain ⟨h1, h2⟩ := run_binE htb (opE_pv hfs (hv x (by simp [Op.operands])) hp) (opE_pv hfs (hv y (by simp [Op.operands])) hq) hb x y w
        simp only [execOp]
        rw [fin_app h1]
        exact qval hfs (.pv _ _ (.base v h2))
      · cases h
    · cases h
  | unOp op t x =>
    dsimp only at h
    split at h
    · rename_i b hx
      simp only [Option.some.injEq] at h; subst h
      have := hv x (by simp [Op.operands]) _ hx
      generalize hxv : a.eval x = vx at this
      cases this with
      | pv _ _ hp =>
        cases hp
        have : (execOp a.eval { dst, op := .unOp .not t x, type := ty, pos, after, guard }).run P w = .ok (.value (.bool (!b))) w := by simp [execOp, hxv, Op.unary]
        rw [this]
        exact qval hfs (.pv _ _ (.base _ rfl))
    · rename_i k n hx
      simp only [Option.some.injEq] at h; subst h
      have := hv x (by simp [Op.operands]) _ hx
      generalize hxv : a.eval x = vx at this
      cases this with
      | pv _ _ hp =>
        cases hp
        have : (execOp a.eval { dst, op := .unOp .neg t x, type := ty, pos, after, guard }).run P w = .ok (.value (.int k (k.wrap (0 - n)))) w := by simp [execOp, hxv, Op.unary, Op.intArith]
        rw [this]
        exact qval hfs (.pv _ _ (.base _ rfl))
    · cases h
  | convert s d x =>
    dsimp only at h
    split at h
    · rename_i ks k' k n hs hd hx
      simp only [Option.some.injEq] at h; subst h
      have := hv x (by simp [Op.operands]) _ hx
      generalize hxv : a.eval x = vx at this
      cases this with
      | pv _ _ hp =>
        cases hp
        have : (execOp a.eval { dst, op := .convert s d x, type := ty, pos, after, guard }).run P w = .ok (.value (.int k' (k'.wrap n))) w := by
          simp [execOp, hxv, convert, run_underlying (tab_int htb hd), run_underlying (tab_int htb hs), Conv.intToInt]
        rw [this]
        exact qval hfs (.pv _ _ (.base _ rfl))
    · cases h
  | extract x i =>
    dsimp only at h
    split at h
    · rename_i vs hx
      split at h
      · rename_i p hp
        simp only [Option.some.injEq] at h; subst h
        have := hv x (by simp [Op.operands]) _ hx
        generalize hxv : a.eval x = vx at this
        cases this with
        | pv _ _ hpp =>
          cases hpp with
          | tup _ us h1 h2 =>
            have hlt : i < us.length := by
              rw [h1]
              rcases Nat.lt_or_ge i vs.length with h' | h'
              · exact h'
              · rw [List.getElem?_eq_none h'] at hp; cases hp
            have : (execOp a.eval { dst, op := .extract x i, type := ty, pos, after, guard }).run P w = .ok (.value us[i]) w := by
              simp [execOp, hxv, Instr.extract, hlt]
            rw [this]
            exact qval hfs (.pv _ _ (h2 i p _ hp (List.getElem?_eq_getElem hlt)))
      · cases h
    · cases h
  | makeFunc fn first cap =>
    dsimp only at h
    have hrun : (execOp a.eval { dst, op := .makeFunc fn first cap, type := ty, pos, after, guard }).run P w = .ok (.value (.func fn (first.toList.map a.eval).toArray (cap.toList.map a.eval).toArray)) w := by
      have e : ∀ xs : Array Operand, (xs.toList.map a.eval).toArray = xs.map a.eval := fun xs => by rw [← Array.toList_map, Array.toArray_toList]
      rw [e, e]; rfl
    rw [hrun]
    split at h
    · rename_i va vb ha hb
      obtain ⟨h1, h2⟩ := vals_rel (fun x hx => hv x (by simp [Op.operands] at hx ⊢; exact .inl hx)) ha
      obtain ⟨h3, h4⟩ := vals_rel (fun x hx => hv x (by simp [Op.operands] at hx ⊢; exact .inr hx)) hb
      have hfn : ARel K w ρ H (.fn fn va vb) (.func fn (first.toList.map a.eval).toArray (cap.toList.map a.eval).toArray) := .fn fn va vb _ _ h1 h3 h2 h4
      split at h
      · rename_i pa pb hpa hpb
        simp only [Option.some.injEq] at h; subst h
        exact qval hfs (.pv _ _ (toPV_rel hfs hfn (by simp [AV.toPV, hpa, hpb])))
      · simp only [Option.some.injEq] at h; subst h
        exact qval hfs hfn
    · cases h
  | call c =>
    obtain ⟨callee, args, argTypes⟩ := c
    dsimp only at h
    split at h
    · rename_i x t hargs htypes
      split at h
      · rename_i p hp
        split at h
        · rename_i n hn
          simp only [Option.some.injEq] at h; subst h
          have hargs' : args = #[x] := by rw [← Array.toArray_toList (xs := args), hargs]
          have htypes' : argTypes = #[t] := by rw [← Array.toArray_toList (xs := argTypes), htypes]
          subst hargs' htypes'
          have hpr := opE_pv hfs (hv x (by simp [Op.operands, Call.operands])) hp
          generalize hxv : a.eval x = vx at hpr
          have : (execOp a.eval { dst, op := .call { callee := .builtin .len, args := #[x], argTypes := #[t] }, type := ty, pos, after, guard }).run P w = .ok (.value (.int .i64 n)) w := by
            unfold lenE at hn
            split at hn
            · rename_i e s es f hk
              simp only [Option.some.injEq] at hn; subst hn
              cases hpr <;> simp [execOp, resolve, invoke, builtin, hxv, Builtin.len_, run_underlying (tab_sl htb hk), goInt]
            · rename_i e sl n' cap hk
              simp only [Option.some.injEq] at hn; subst hn
              cases hpr; simp [execOp, resolve, invoke, builtin, hxv, Builtin.len_, run_underlying (tab_sl htb hk), goInt]
            · rename_i s hk
              simp only [Option.some.injEq] at hn; subst hn
              cases hpr; simp [execOp, resolve, invoke, builtin, hxv, Builtin.len_, run_underlying (tab_str htb hk), goInt]
            · cases hn
          rw [this]
          exact qval hfs (.pv _ _ (.base _ rfl))
        · cases h
      · cases h
    · cases h
  | nilCheck x =>
    dsimp only at h
    split at h
    · rename_i p off hx
      simp only [Option.some.injEq] at h; subst h
      have := hv x (by simp [Op.operands]) _ hx
      generalize hxv : a.eval x = vx at this
      cases this with
      | pv _ _ hp =>
        have hp' := hp
        cases hp
        have : (execOp a.eval { dst, op := .nilCheck x, type := ty, pos, after, guard }).run P w = .ok (.value (a.eval x)) w := by simp [execOp, hxv]
        rw [this, hxv]
        exact qval hfs (.pv _ _ hp')
    · rename_i i off hx
      simp only [Option.some.injEq] at h; subst h
      have := hv x (by simp [Op.operands]) _ hx
      generalize hxv : a.eval x = vx at this
      have h2 := this
      cases this
      have : (execOp a.eval { dst, op := .nilCheck x, type := ty, pos, after, guard }).run P w = .ok (.value (a.eval x)) w := by simp [execOp, hxv]
      rw [this, hxv]
      exact qval hfs h2
    · rename_i f va vb hx
      simp only [Option.some.injEq] at h; subst h
      have := hv x (by simp [Op.operands]) _ hx
      generalize hxv : a.eval x = vx at this
      cases this with
      | pv _ _ hp =>
        have hp' := hp
        cases hp
        have : (execOp a.eval { dst, op := .nilCheck x, type := ty, pos, after, guard }).run P w = .ok (.value (a.eval x)) w := by simp [execOp, hxv]
        rw [this, hxv]
        exact qval hfs (.pv _ _ hp')
    · rename_i f va vb hx
      simp only [Option.some.injEq] at h; subst h
      have := hv x (by simp [Op.operands]) _ hx
      generalize hxv : a.eval x = vx at this
      have h2 := this
      cases this
      have : (execOp a.eval { dst, op := .nilCheck x, type := ty, pos, after, guard }).run P w = .ok (.value (a.eval x)) w := by simp [execOp, hxv]
      rw [this, hxv]
      exact qval hfs h2
    · cases h
  | build t parts =>
    dsimp only at h
    split at h
    · rename_i fs q z hk hz
      split at h
      · cases h
      · rename_i hsz
        split at h
        · rename_i zs ps hzs hps
          split at h
          · rename_i hall
            split at h
            · rename_i cs hcs
              simp only [Option.some.injEq] at h; subst h
              obtain ⟨F, hF, hfs', _⟩ := tab_agg htb hk
              obtain ⟨h1, h2⟩ := idxPvs_rel (a := a) hfs (xs := parts.toList) (fun x hx => hv x.2 (by simp [Op.operands]; exact ⟨x.1, by simpa using hx⟩)) hps
              obtain ⟨rr, hr1, hr2⟩ := fill_rel (K := K) (w := w) _ (vcells := z.cells) (vps := parts.toList.map fun x => (x.1, a.eval x.2)) (zeroPVs_rel hzs) (by simpa [List.map_map, Function.comp_def] using h1) (by simpa [List.map_map, Function.comp_def] using h2) hcs
              have hzi : ∃ i, P.info? t = some i ∧ i.zero = some z := by
                unfold Tab.zero at hz
                split at hz
                · rename_i ti hti
                  obtain ⟨i, e1, _, _, e4, _⟩ := tab_info htb hti
                  exact ⟨i, e1, by rw [e4]; exact hz⟩
                · cases hz
              obtain ⟨i, hi, hiz⟩ := hzi
              have hplaces : ∀ (l : List Field), (∀ f ∈ l, f ∈ F.toList) → (l.mapM fun f => (Prod.mk f.offset <$> sizeOf f.type : Sem (Nat × Nat))).run P w = .ok (l.map fun f => (f.offset, tb.size f.type)) w := by
                intro l
                induction l with
                | nil => intro _; simp
                | cons f l ih =>
                  intro hl
                  have hf : f ∈ F.toList := hl f (by simp)
                  have hall' := List.all_eq_true.1 hall (f.offset, f.type, P.cellsOf f.type) (by rw [← hfs']; exact List.mem_map.2 ⟨f, hf, rfl⟩)
                  simp only [Bool.and_eq_true] at hall'
                  have hko : tb.k f.type ≠ .oth := by intro e; simp [Tab.known, e] at hall'
                  have hs := run_sizeOf htb hko w
                  have ih' := ih (fun f hf => hl f (by simp [hf]))
                  simp [List.mapM_cons, hs, ih']
              have hpl := hplaces F.toList (fun f hf => hf)
              have hfun : placeE fs = fun i => ((F.toList.map fun f => (f.offset, tb.size f.type)).toArray)[i]? := by
                funext i
                rw [← hfs']
                simp only [placeE, List.getElem?_map, List.getElem?_toArray, Array.getElem?_toList]
                cases hfl : F[i]? with
                | none => rfl
                | some f =>
                  simp only [Option.map_some, Option.some.injEq, Prod.mk.injEq, true_and]
                  have hf : f ∈ F.toList := by simpa using Array.mem_of_getElem? hfl
                  have hall' := List.all_eq_true.1 hall (f.offset, f.type, P.cellsOf f.type) (by rw [← hfs']; exact List.mem_map.2 ⟨f, hf, rfl⟩)
                  simp only [Bool.and_eq_true, beq_iff_eq] at hall'
                  exact hall'.2.symm
              rw [hfun] at hr1
              have : (execOp a.eval { dst, op := .build t parts, type := ty, pos, after, guard }).run P w = .ok (.value (.agg rr)) w := by
                have hm : (F.mapM fun f => (do pure (f.offset, ← sizeOf f.type) : Sem (Nat × Nat))).run P w = .ok (F.toList.map fun f => (f.offset, tb.size f.type)).toArray w := by
                  rw [Array.mapM_eq_mapM_toList]
                  simp only [bind_pure_comp, Sem.run_map, hpl, Result.andThen_ok]
                have hp2 : (parts.map fun x => (x.1, a.eval x.2)).toList = parts.toList.map fun x => (x.1, a.eval x.2) := by simp
                simp only [execOp, Instr.build, Sem.run_bind, zeroValue, typeInfo, run_program, hi, hiz, Result.andThen_ok, Sem.run_pure, run_underlying hF, hm, hp2, hr1]
              rw [this]
              have hone : ∀ v ∈ rr.toList, v.oneCell' = true := fill_one _ hr1 (zeroPVs_one hzs) (by
                intro x hx v hv'
                obtain ⟨k, hk⟩ := List.getElem?_of_mem hx
                have hk2 : (parts.toList.map fun x => a.eval x.2)[k]? = some x.2 := by
                  rw [List.getElem?_map] at hk ⊢
                  cases hpk : parts.toList[k]? with
                  | none => rw [hpk] at hk; simp at hk
                  | some y => rw [hpk] at hk; simp at hk; subst hk; rfl
                have hlt : k < (ps.map (·.2)).length := by rw [← h2.1]; exact (List.getElem?_eq_some_iff.1 hk2).1
                have hp := List.getElem?_eq_getElem hlt
                refine cells_one (h2.2 k _ _ hp hk2) ?_ v hv'
                simp only [List.getElem_map]
                exact idxPvs_notTup hps _ (List.getElem_mem _))
              exact qval hfs (.pv _ _ (by have := PRel.agg (K := K) (w := w) cs rr.toList hr2.1 hone hr2.2; simpa using this))
            · cases h
          · cases h
        · cases h
    · cases h
  | buildSlice t len parts =>
    dsimp only at h
    split at h
    · rename_i e hk
      split at h
      · rename_i xs hxs
        split at h
        · rename_i ps hps
          split at h
          · rename_i hc
            simp only [Option.some.injEq] at h; subst h
            obtain ⟨hl, hpos, hsm, hsz, hz, hall⟩ := hc
            have hseq : ∀ (l : List (Nat × Operand)) (k : Nat) (ys : List Operand), seqParts k l = some ys → l = (ys.zipIdx k).map fun x => (x.2, x.1) := by
              intro l
              induction l with
              | nil => intro k ys h; simp [seqParts] at h; subst h; rfl
              | cons x l ih =>
                intro k ys h
                obtain ⟨i, x⟩ := x
                simp only [seqParts] at h
                split at h
                · rename_i hik
                  split at h
                  · rename_i l' hl'
                    simp only [Option.some.injEq] at h; subst h hik
                    rw [ih _ _ hl']
                    simp [List.zipIdx_cons]
                  · cases h
                · cases h
            have hparts := hseq parts.toList 0 xs hxs
            have hvx : ValOn K w ρ H env a xs := fun x hx => hv x (by
              simp only [Op.operands, hparts, List.map_map]
              have : (List.map ((fun x : Nat × Operand => x.2) ∘ fun x : Operand × Nat => (x.2, x.1)) (xs.zipIdx 0)) = xs := by
                rw [show ((fun x : Nat × Operand => x.2) ∘ fun x : Operand × Nat => (x.2, x.1)) = Prod.fst from rfl]
                simp
              rw [this]; simpa using hx)
            have hr := pvs_rel hfs hvx hps
            have hzi : ∃ i z, P.info? e = some i ∧ i.size = tb.size e ∧ i.zero = some z := by
              obtain ⟨z, hz⟩ := Option.isSome_iff_exists.1 hz
              unfold Tab.zero at hz
              split at hz
              · rename_i ti hti
                obtain ⟨i, e1, e2, _, e4, _⟩ := tab_info htb hti
                exact ⟨i, z, e1, by simp [Tab.size, hti, e2], by rw [e4]; exact hz⟩
              · cases hz
            obtain ⟨ie, z, hie, his, hiz⟩ := hzi
            have hcell : ∀ v ∈ xs.map a.eval, v.cells.size = ie.size := by
              intro v hv
              obtain ⟨k, hk⟩ := List.getElem?_of_mem hv
              have hlt : k < ps.length := by rw [← hr.1]; exact (List.getElem?_eq_some_iff.1 hk).1
              have hp := List.getElem?_eq_getElem hlt
              have h1 := cells_rel (hr.2 k _ v hp hk)
              have h2 := List.all_eq_true.1 hall ps[k] (List.getElem_mem hlt)
              simp only [beq_iff_eq] at h2
              have h3 := h1.1
              simp only [Array.length_toList] at h3
              omega
            have hlen : (xs.map a.eval).length = len := by rw [hr.1, hl]
            have hfill := Great.fill_whole (s := ie.size) (by omega) (xs.map a.eval) ((Array.range (len * ie.size)).map (z.cells[· % z.cells.size]!)) hcell (by simp only [Array.size_map, Array.size_range, hlen])
            have hrun := run_buildSlice (P := P) w t e len (parts.map fun x => (x.1, a.eval x.2)) _ ie z (tab_sl htb hk) hie hiz (by rw [his]; omega) (by rw [his]; have := Nat.mul_pos hpos hsz; omega) (by
              have e1 : (parts.map fun x => (x.1, a.eval x.2)).toList = ((xs.map a.eval).zipIdx 0).map fun x => (x.2, x.1) := by
                rw [Array.toList_map, hparts, List.zipIdx_map, List.map_map, List.map_map]; rfl
              rw [e1]
              exact hfill)
            have : (execOp a.eval { dst, op := .buildSlice t len parts, type := ty, pos, after, guard }).run P w = .ok (.value (.slice (some ⟨w.heap.size, 0, none⟩) len len)) (w.alloc (.cells ((xs.map a.eval).flatMap fun v => v.cells.toList).toArray e)) := by
              simp only [execOp]
              rw [Sem.run_bind]
              have e2 : (parts.map fun (i, x) => (i, a.eval x)) = parts.map fun x => (x.1, a.eval x.2) := rfl
              rw [e2, hrun]; rfl
            rw [this]
            generalize hfl : ((xs.map a.eval).flatMap fun v => v.cells.toList) = flat
            have hev := evo_alloc hfs.lt flat.toArray e flat.length
            have hone : ∀ v ∈ flat.toArray.toList, v.oneCell' = true := by
              intro v hv'
              simp only at hv'
              rw [← hfl] at hv'
              obtain ⟨u, hu, hvu⟩ := List.mem_flatMap.1 hv'
              obtain ⟨k, hk⟩ := List.getElem?_of_mem hu
              have hlt : k < ps.length := by rw [← hr.1]; exact (List.getElem?_eq_some_iff.1 hk).1
              exact cells_one (hr.2 k _ u (List.getElem?_eq_getElem hlt) hk) (pvs_notTup hps _ (List.getElem_mem _)) v hvu
            have hrow := rows_alloc (K := K) (w := w) flat.toArray e flat.length (by simp) hone
            subst hl
            refine ⟨_, hev, .pv _ _ (.slc (tb.size e) ps true w.heap.size 0 ps.length (fun i => (((xs.map a.eval)[i]?).getD undef).cells.toList) hsz (Nat.le_refl _) (fun _ => rfl) ?_ ?_ ?_ ?_)⟩
            · have := Nat.le_mul_of_pos_right ps.length hsz; unfold maxLen; omega
            · have := Nat.le_mul_of_pos_right ps.length hsz; unfold maxLen; omega
            · intro i p hp
              have hlt : i < (xs.map a.eval).length := by rw [hlen]; exact (List.getElem?_eq_some_iff.1 hp).1
              have hx := List.getElem?_eq_getElem hlt
              have hcs := hcell _ (List.getElem_mem hlt)
              have hpc := List.all_eq_true.1 hall p (List.mem_of_getElem? hp)
              simp only [beq_iff_eq] at hpc
              refine ⟨hpc, by rw [hx]; simp only [Option.getD_some, Array.length_toList]; omega, ?_⟩
              rw [hx]
              intro k v hv
              simp only [Option.getD_some] at hv
              have hk : k < tb.size e := by
                have := (List.getElem?_eq_some_iff.1 hv).1
                simp only [Array.length_toList] at this; omega
              have hg := Great.flat_get (s := ie.size) (by omega) (xs.map a.eval) hcell (i * ie.size + k)
              have e3 : (i * ie.size + k) / ie.size = i := by rw [Nat.mul_comm, Nat.mul_add_div (by omega), Nat.div_eq_of_lt (by omega)]; rfl
              have e4 : (i * ie.size + k) % ie.size = k := by rw [Nat.mul_comm, Nat.mul_add_mod, Nat.mod_eq_of_lt (by omega)]
              rw [e3, e4, hx, hfl] at hg
              simp only [Option.bind_some] at hg
              have hv' : flat[i * ie.size + k]? = some v := by rw [hg, ← hv]; simp
              have := hrow (i * ie.size + k) v (by simpa using hv')
              rw [his] at this
              rw [Nat.zero_add] at this ⊢
              exact this
            · intro i p k c v hp hc hv
              have hlt : i < (xs.map a.eval).length := by rw [hlen]; exact (List.getElem?_eq_some_iff.1 hp).1
              have hx := List.getElem?_eq_getElem hlt
              rw [hx] at hv
              simp only [Option.getD_some] at hv
              exact ((cells_rel (hr.2 i p _ hp hx)).2 k c v hc hv).later (hev.later hfs.lt)
          · cases h
        · cases h
      · cases h
    · cases h
  | _ => cases h
end
end Go.Cg
