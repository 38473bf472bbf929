/- Operations, carried out on abstract values; what they come to in memory. -/
import Derived.Test.YtkbdoobcgifaaaaCore
namespace Go.Cg
open Go.RowKit

/-! ## What is known of the program's types -/
inductive TK where
  | agg (fs : List (Nat × Nat × Nat)) (eqok : Bool)
  | arr (len elem : Nat)
  | sl (e : Nat)
  | int (k : IntKind)
  | bool
  | str
  | ptr (e : Nat)
  | map (k e : Nat)
  | scalar
  | oth
  deriving Inhabited

structure TI where
  size : Nat
  bytes : Nat
  zero : Option Value
  k : TK
  deriving Inhabited

def tkOf (P : Program) (t : TypeId) : Option TypeDesc → TK
  | some (.struct fs) => .agg (fs.toList.map fun f => (f.offset, f.type, P.cellsOf f.type)) (!P.stoodInHeld t && !P.eqGuardType P.depth t && fs.toList.all fun f => f.name != "_")
  | some (.array n e) => .arr n e
  | some (.slice e) => .sl e
  | some (.int k) => .int k
  | some .bool => .bool
  | some .string => .str
  | some (.pointer e) => .ptr e
  | some (.map k e) => .map k e
  | some _ => .scalar
  | none => .oth

def tiOf (P : Program) (t : TypeId) : Option TI :=
  (P.info? t).map fun i => ⟨i.size, i.bytes, i.zero, tkOf P t (P.underlying t)⟩

/-- A table, as a tree: found by its number. -/
inductive Tab where
  | leaf
  | node (k : Nat) (ti : TI) (l r : Tab)
  deriving Inhabited

def Tab.get : Tab → Nat → Option TI
  | .leaf, _ => none
  | .node k ti l r, t => match Nat.beq k t with
    | true => some ti
    | false => match Nat.blt t k with | true => l.get t | false => r.get t

def Tab.list : Tab → List (Nat × TI)
  | .leaf => []
  | .node k ti l r => l.list ++ (k, ti) :: r.list

def TabOK (P : Program) (tb : Tab) : Prop := ∀ (t : Nat) (ti : TI), tb.get t = some ti → tiOf P t = some ti

theorem Tab.mem_list {t : Nat} {ti : TI} : ∀ {tb : Tab}, tb.get t = some ti → (t, ti) ∈ tb.list
  | .leaf, h => by simp [Tab.get] at h
  | .node k tk l r, h => by
    simp only [Tab.get] at h
    simp only [Tab.list, List.mem_append, List.mem_cons]
    split at h
    · rename_i hk
      simp only [Option.some.injEq] at h; subst h
      have := Nat.eq_of_beq_eq_true hk; subst this
      exact .inr (.inl rfl)
    · split at h
      · exact .inl (Tab.mem_list h)
      · exact .inr (.inr (Tab.mem_list h))

theorem tabOK_of {P : Program} {tb : Tab} (h : tb.list.map (fun x => tiOf P x.1) = tb.list.map fun x => some x.2) : TabOK P tb := by
  intro t ti ht
  have hm := Tab.mem_list ht
  obtain ⟨i, hi⟩ := List.getElem?_of_mem hm
  have := congrArg (fun l => l[i]?) h
  simpa [List.getElem?_map, hi] using this

def Tab.k (tb : Tab) (t : Nat) : TK := match tb.get t with | some ti => ti.k | none => .oth
def Tab.size (tb : Tab) (t : Nat) : Nat := match tb.get t with | some ti => ti.size | none => 0

section
variable {P : Program} {tb : Tab} (htb : TabOK P tb)
include htb

theorem tab_info {t : Nat} {ti : TI} (h : tb.get t = some ti) : ∃ i, P.info? t = some i ∧ i.size = ti.size ∧ i.bytes = ti.bytes ∧ i.zero = ti.zero ∧ tkOf P t (P.underlying t) = ti.k := by
  have := htb t ti h
  unfold tiOf at this
  cases hi : P.info? t with
  | none => simp [hi] at this
  | some i =>
    simp [hi] at this
    subst this
    exact ⟨i, rfl, rfl, rfl, rfl, rfl⟩

omit htb in
theorem tab_k {t : Nat} (h : tb.k t ≠ .oth) : ∃ ti, tb.get t = some ti ∧ ti.k = tb.k t := by
  unfold Tab.k at *
  cases ht : tb.get t with
  | none => simp [ht] at h
  | some ti => exact ⟨ti, rfl, rfl⟩

theorem tab_und {t : Nat} {k : TK} (h : tb.k t = k) (hk : k ≠ .oth) : ∃ d i, P.underlying t = some d ∧ P.info? t = some i ∧ i.size = tb.size t ∧ tkOf P t (some d) = k := by
  subst h
  obtain ⟨ti, h1, h2⟩ := tab_k hk
  obtain ⟨i, h3, h4, h5, h6, h7⟩ := tab_info htb h1
  rw [← h2] at hk ⊢
  cases hd : P.underlying t with
  | none => rw [hd] at h7; exact absurd h7.symm hk
  | some d => exact ⟨d, i, rfl, h3, by simp [Tab.size, h1, h4], by rw [← h7, hd]⟩

theorem tab_sl {t e : Nat} (h : tb.k t = .sl e) : P.underlying t = some (.slice e) := by
  obtain ⟨d, i, h1, _, _, h2⟩ := tab_und htb h (by simp)
  cases d <;> simp [tkOf] at h2
  subst h2; exact h1
theorem tab_int {t : Nat} {k : IntKind} (h : tb.k t = .int k) : P.underlying t = some (.int k) := by
  obtain ⟨d, i, h1, _, _, h2⟩ := tab_und htb h (by simp)
  cases d <;> simp [tkOf] at h2
  subst h2; exact h1
theorem tab_bool {t : Nat} (h : tb.k t = .bool) : P.underlying t = some .bool := by
  obtain ⟨d, i, h1, _, _, h2⟩ := tab_und htb h (by simp)
  cases d <;> simp [tkOf] at h2
  exact h1
theorem tab_str {t : Nat} (h : tb.k t = .str) : P.underlying t = some .string := by
  obtain ⟨d, i, h1, _, _, h2⟩ := tab_und htb h (by simp)
  cases d <;> simp [tkOf] at h2
  exact h1
theorem tab_agg {t : Nat} {fs : List (Nat × Nat × Nat)} {q : Bool} (h : tb.k t = .agg fs q) : ∃ F, P.underlying t = some (.struct F) ∧ F.toList.map (fun f => (f.offset, f.type, P.cellsOf f.type)) = fs ∧
    (!P.stoodInHeld t && !P.eqGuardType P.depth t && F.toList.all fun f => f.name != "_") = q := by
  obtain ⟨d, i, h1, _, _, h2⟩ := tab_und htb h (by simp)
  cases d <;> simp only [tkOf, TK.agg.injEq, reduceCtorEq] at h2
  exact ⟨_, h1, h2⟩
/-- Whether a type's values are of several cells. -/
def TK.isAgg : TK → Bool
  | .agg _ _ | .arr _ _ => true
  | _ => false
theorem run_isAgg {t : Nat} (h : tb.k t ≠ .oth) (w : World) : (isAgg t).run P w = .ok (tb.k t).isAgg w := by
  obtain ⟨d, i, h1, _, _, h2⟩ := tab_und htb rfl h
  rw [← h2]
  cases d <;> simp [isAgg, run_underlying h1, tkOf, TK.isAgg]
theorem run_sizeOf {t : Nat} (h : tb.k t ≠ .oth) (w : World) : (sizeOf t).run P w = .ok (tb.size t) w := by
  obtain ⟨d, i, h1, h2, h3, _⟩ := tab_und htb rfl h
  simp [sizeOf, typeInfo, h2, h3]
theorem tab_arr {t n e : Nat} (h : tb.k t = .arr n e) : P.underlying t = some (.array n e) := by
  obtain ⟨d, i, h1, _, _, h2⟩ := tab_und htb h (by simp)
  cases d <;> simp [tkOf] at h2
  obtain ⟨rfl, rfl⟩ := h2; exact h1
theorem tab_size {t : Nat} (h : 0 < tb.size t) : ∃ i, P.info? t = some i ∧ i.size = tb.size t := by
  unfold Tab.size at *
  cases ht : tb.get t with
  | none => simp [ht] at h
  | some ti =>
    obtain ⟨i, h3, h4, _⟩ := tab_info htb ht
    exact ⟨i, h3, h4⟩
end

/-! ## Reading operands -/
def Env.val (env : Env) : Operand → Option AV
  | .tmp t => env.get t
  | .const v => if baseOk v then some (.pv (.base v)) else none
  | .func f => some (.pv (.fn (.func f) [] []))
  | .global g => some (.pv (.base (.pointer (some ⟨g, 0, none⟩))))

def PV.notTup : PV → Bool
  | .tup _ => false
  | _ => true

def AV.cellPV (H : HEnv) : AV → Option PV
  | .pv p => if p.notTup then some p else none
  | .own i => match H.get i with | some (.row _ sz es) => some (.slc sz es false) | _ => none
  | _ => none

def cellPVs (H : HEnv) : List AV → Option (List PV)
  | [] => some []
  | c :: cs => match c.cellPV H, cellPVs H cs with | some p, some ps => some (p :: ps) | _, _ => none

def AV.toPV (H : HEnv) : AV → Option PV
  | .agg cs => match cellPVs H cs with | some ps => some (.agg ps) | none => none
  | .fn f first cap => match cellPVs H first, cellPVs H cap with | some a, some b => some (.fn f a b) | _, _ => none
  | v => v.cellPV H

def Env.pv (env : Env) (H : HEnv) (x : Operand) : Option PV := match env.val x with | some v => v.toPV H | none => none

section
variable {g : Base} {K : KK} {w : World} {ρ : Nat → Value} {H : HEnv}

theorem cellPV_rel (hfs : FS g K ρ H w) {av : AV} {v : Value} {p : PV} (h : ARel K w ρ H av v) (hp : av.cellPV H = some p) : PRel K w p v := by
  cases h with
  | pv q v h => simp only [AV.cellPV] at hp; split at hp <;> simp at hp; subst hp; exact h
  | own i hv =>
    simp only [AV.cellPV] at hp
    cases hh : H.get i with
    | none => simp [hh] at hp
    | some e =>
      cases e with
      | row t sz es =>
        simp only [hh, Option.some.injEq] at hp
        subst hp
        obtain ⟨xs, hown, hsz, hcr, hK⟩ := hfs.heap.ok i _ hh
        generalize ρ i = v at hown hK ⊢
        rcases hown.2 with ⟨rfl, hn⟩ | ⟨b, cap, cur, rfl, hb, hg, hnc, hcm, hcs, htake⟩
        · have : es = [] := List.eq_nil_of_length_eq_zero hn
          subst this; exact .nil sz false
        · refine .slc sz es false b 0 cap (fun i => (xs.drop (i * sz)).take sz) hsz hnc (by simp) (by omega) hcm ?_ ?_
          · intro i e he
            obtain ⟨h1, h2⟩ := hcr i e he
            have hi : i < es.length := by
              rcases Nat.lt_or_ge i es.length with h' | h'
              · exact h'
              · rw [List.getElem?_eq_none h'] at he; cases he
            have hlen : (i + 1) * sz ≤ es.length * sz := Nat.mul_le_mul_right _ hi
            have hlx := hown.1
            refine ⟨h1, by simp; rw [Nat.add_mul] at hlen; omega, ?_⟩
            intro k u hu
            rw [List.getElem?_take] at hu
            split at hu
            · rename_i hk
              rw [List.getElem?_drop] at hu
              refine ⟨(hK b rfl _).2 (by rw [Nat.add_mul] at hlen; omega), ?_⟩
              have := hown.cells (g := b) rfl (i * sz + k) u hu
              rw [Addr.add_lit] at this
              obtain ⟨v', hv', ho, _⟩ := h2 k _ (List.getElem?_eq_getElem (show k < e.cells.length by omega))
              rw [hv'] at hu; cases hu
              exact ⟨by simpa using this, ho⟩
            · cases hu
          · intro i e k c u he hc hu
            obtain ⟨h1, h2⟩ := hcr i e he
            obtain ⟨v', hv', _, hr⟩ := h2 k c hc
            rw [List.getElem?_take] at hu
            split at hu
            · rw [List.getElem?_drop, hv'] at hu
              cases hu; exact hr
            · cases hu
      | _ => simp [hh] at hp
  | _ => simp [AV.cellPV] at hp

theorem cellPVs_rel (hfs : FS g K ρ H w) : ∀ {cs : List AV} {ps : List PV}, cellPVs H cs = some ps → ps.length = cs.length ∧ ∀ (k : Nat) (c : PV) (a : AV) (v : Value), ps[k]? = some c → cs[k]? = some a → ARel K w ρ H a v → PRel K w c v
  | [], ps, h => by simp [cellPVs] at h; subst h; exact ⟨rfl, by simp⟩
  | c :: cs, ps, h => by
    simp only [cellPVs] at h
    split at h
    · rename_i p ps' h1 h2
      simp at h; subst h
      obtain ⟨hl, hr⟩ := cellPVs_rel hfs h2
      refine ⟨by simp [hl], fun k c' a v hc ha hv => ?_⟩
      cases k with
      | zero => simp at hc ha; subst hc ha; exact cellPV_rel hfs hv h1
      | succ k => simp at hc ha; exact hr k c' a v hc ha hv
    · cases h

theorem toPV_rel (hfs : FS g K ρ H w) {av : AV} {v : Value} {p : PV} (h : ARel K w ρ H av v) (hp : av.toPV H = some p) : PRel K w p v := by
  cases h with
  | agg cs vs hl ho hr =>
    simp only [AV.toPV] at hp
    split at hp
    · rename_i ps hps
      simp at hp; subst hp
      obtain ⟨h1, h2⟩ := cellPVs_rel hfs hps
      refine .agg ps vs (by omega) ho fun k c v hc hv => ?_
      have hk : k < cs.length := by
        rcases Nat.lt_or_ge k cs.length with h' | h'
        · exact h'
        · rw [List.getElem?_eq_none (by omega)] at hc; cases hc
      exact h2 k c _ v hc (List.getElem?_eq_getElem hk) (hr k _ v (List.getElem?_eq_getElem hk) hv)
    · cases hp
  | fn f first cap vf vc hl1 hl2 hr1 hr2 =>
    simp only [AV.toPV] at hp
    split at hp
    · rename_i pa pb hpa hpb
      simp at hp; subst hp
      obtain ⟨h1, h2⟩ := cellPVs_rel hfs hpa
      obtain ⟨h3, h4⟩ := cellPVs_rel hfs hpb
      refine .fn f pa pb vf vc (by omega) (by omega) (fun k c v hc hv => ?_) (fun k c v hc hv => ?_)
      · have hk : k < first.length := by
          rcases Nat.lt_or_ge k first.length with h' | h'
          · exact h'
          · rw [List.getElem?_eq_none (by omega)] at hc; cases hc
        exact h2 k c _ v hc (List.getElem?_eq_getElem hk) (hr1 k _ v (List.getElem?_eq_getElem hk) hv)
      · have hk : k < cap.length := by
          rcases Nat.lt_or_ge k cap.length with h' | h'
          · exact h'
          · rw [List.getElem?_eq_none (by omega)] at hc; cases hc
        exact h4 k c _ v hc (List.getElem?_eq_getElem hk) (hr2 k _ v (List.getElem?_eq_getElem hk) hv)
    · cases hp
  | pv q v h => exact cellPV_rel hfs (.pv q v h) hp
  | own i h => exact cellPV_rel hfs (.own i h) hp
  | box i off b h h' => simp [AV.toPV, AV.cellPV] at hp
  | any v => simp [AV.toPV, AV.cellPV] at hp
  | any1 v _ _ => simp [AV.toPV, AV.cellPV] at hp

theorem cells_rel {p : PV} {v : Value} (h : PRel K w p v) : PRels K w p.cells v.cells.toList := by
  cases h with
  | agg cs vs hl ho hr => exact ⟨by simp [PV.cells, Value.cells, hl], fun k c v hc hv => hr k c v (by simpa [PV.cells] using hc) (by simpa [Value.cells] using hv)⟩
  | base v h1 =>
    cases v <;> first | (simp [baseOk] at h1; done) | (exact .cons (.base _ h1) .nil)
  | nil sz full => exact .cons (.nil sz full) .nil
  | emp sz full a => exact .cons (.emp sz full a) .nil
  | slc sz es full b o cap vss h0 h1 h2 h3 h4 h5 h6 => exact .cons (.slc sz es full b o cap vss h0 h1 h2 h3 h4 h5 h6) .nil
  | ptr p off b o vs h1 h2 h3 => exact .cons (.ptr p off b o vs h1 h2 h3) .nil
  | fn f first cap vf vc h1 h2 h3 h4 => exact .cons (.fn f first cap vf vc h1 h2 h3 h4) .nil
  | tup cs vs h1 h2 => exact .cons (.tup cs vs h1 h2) .nil

theorem cells_one {p : PV} {v : Value} (h : PRel K w p v) (hn : p.notTup = true) : ∀ u ∈ v.cells.toList, u.oneCell' = true := by
  cases h with
  | agg cs vs hl ho hr => simpa [Value.cells] using ho
  | base v h1 => intro u hu; cases v <;> first | (simp [baseOk] at h1; done) | (simp [Value.cells] at hu; subst hu; rfl)
  | tup cs vs h1 h2 => simp [PV.notTup] at hn
  | _ => intro u hu; simp [Value.cells] at hu; subst hu; rfl

theorem cellPV_notTup {av : AV} {p : PV} (hp : av.cellPV H = some p) : p.notTup = true := by
  cases av <;> simp only [AV.cellPV] at hp
  · split at hp
    · rename_i h; simp at hp; subst hp; exact h
    · cases hp
  · split at hp
    · simp at hp; subst hp; rfl
    · cases hp
  all_goals cases hp

theorem toPV_notTup {av : AV} {p : PV} (hp : av.toPV H = some p) : p.notTup = true := by
  cases av <;> simp only [AV.toPV] at hp <;> first
    | exact cellPV_notTup hp
    | (split at hp
       · simp at hp; subst hp; rfl
       · cases hp)
end

mutual
/-- No list in it is longer than the reach. -/
def PV.lenOk : PV → Prop
  | .slc _ es _ => es.length ≤ maxLen ∧ lensOk es
  | .agg cs => lensOk cs
  | .base v => baseOk v = true
  | .ptr _ _ => True
  | .fn _ _ _ => True
  | .tup _ => True
def lensOk : List PV → Prop
  | [] => True
  | c :: cs => c.lenOk ∧ lensOk cs
end

theorem lensOk_iff : ∀ (l : List PV), lensOk l ↔ ∀ p ∈ l, p.lenOk
  | [] => by simp [lensOk]
  | c :: cs => by simp [lensOk, lensOk_iff cs]

theorem PRel.lenOk {K : KK} {w : World} {p : PV} {v : Value} (h : PRel K w p v) : p.lenOk := by
  induction h with
  | base v h => exact h
  | agg cs vs hl ho _ ih =>
    rw [PV.lenOk, lensOk_iff]
    intro p hp
    obtain ⟨k, hk⟩ := List.getElem?_of_mem hp
    have hlt : k < vs.length := by rw [hl]; exact (List.getElem?_eq_some_iff.1 hk).1
    exact ih k p _ hk (List.getElem?_eq_getElem hlt)
  | nil sz full => simp [PV.lenOk, lensOk, maxLen]
  | emp sz full a => simp [PV.lenOk, lensOk, maxLen]
  | slc sz es full b o cap vss h0 hc hf hm hm' hr _ ih =>
    rw [PV.lenOk, lensOk_iff]
    refine ⟨hm, fun e he => ?_⟩
    obtain ⟨i, hi⟩ := List.getElem?_of_mem he
    obtain ⟨h1, h2, _⟩ := hr i e hi
    have hall : ∀ c ∈ e.cells, c.lenOk := by
      intro c hc
      obtain ⟨k, hk⟩ := List.getElem?_of_mem hc
      have hlt : k < (vss i).length := by rw [h2, ← h1]; exact (List.getElem?_eq_some_iff.1 hk).1
      exact ih i e k c _ hi hk (List.getElem?_eq_getElem hlt)
    cases e with
    | agg cs => rw [PV.lenOk, lensOk_iff]; exact hall
    | _ => exact hall _ (by simp [PV.cells])
  | ptr => exact trivial
  | fn => exact trivial
  | tup => exact trivial

theorem PRels.lensOk {K : KK} {w : World} {p : List PV} {v : List Value} (h : PRels K w p v) : lensOk p := by
  rw [lensOk_iff]
  intro q hq
  obtain ⟨k, hk⟩ := List.getElem?_of_mem hq
  have hlt : k < v.length := by rw [h.1]; exact (List.getElem?_eq_some_iff.1 hk).1
  exact (h.2 k q _ hk (List.getElem?_eq_getElem hlt)).lenOk

end Go.Cg
