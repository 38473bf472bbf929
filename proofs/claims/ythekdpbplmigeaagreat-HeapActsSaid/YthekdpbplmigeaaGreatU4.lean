/- A part of the walks by abstract values: no statement of its own. -/
import Derived.Test.YthekdpbplmigeaaGreatU3
import Derived.Test.YthekdpbplmigeaaGreatU2
import Derived.Test.YthekdpbplmigeaaGreatProg
import Derived.KernelRfl
namespace Go.Cg
structure Ty where
 kind : Int
 index : Int
 dims : Int
 ref : Bool
 deriving DecidableEq, Inhabited
structure TD where
 name : ByteArray
 flags : Int
 ext : Int
 faces : List Int
 deriving Inhabited
structure Fd where
 name : ByteArray
 owner : Int
 ty : Ty
 static : Bool
 deriving Inhabited
structure Ins where
 op : Int
 arg : Int
 t : Ty
 deriving Inhabited, DecidableEq
structure Cl where
 kind : Int
 tf : Int
 tt : Int
 hf : Int
 ht : Int
 filter : Int
 t : Ty
 deriving Inhabited, DecidableEq
structure Me where
 name : ByteArray
 owner : Int
 flags : Int
 params : List Ty
 ret : Ty
 locals : List Ty
 max : Int
 code : List Ins
 clauses : List Cl
 deriving Inhabited
structure Img where
 types : List TD
 fields : List Fd
 methods : List Me
 entry : Int
 deriving Inhabited
abbrev pi (n : Int) : PV := .base (.int .i64 n)
abbrev pb (b : Bool) : PV := .base (.bool b)
abbrev ps (s : ByteArray) : PV := .base (.string s)
def ints (l : List Int) : PV := .slc 1 (l.map pi) false
def tyPV (t : Ty) : PV := .agg [pi t.kind, pi t.index, pi t.dims, pb t.ref]
def tys (l : List Ty) : PV := .slc 4 (l.map tyPV) false
def tdPV (t : TD) : PV := .agg [ps t.name, pi t.flags, pi t.ext, ints t.faces]
def fdPV (f : Fd) : PV := .agg [ps f.name, pi f.owner, pi f.ty.kind, pi f.ty.index, pi f.ty.dims, pb f.ty.ref, pb f.static]
def insPV (x : Ins) : PV := .agg [pi x.op, pi x.arg, pi x.t.kind, pi x.t.index, pi x.t.dims, pb x.t.ref]
def clPV (c : Cl) : PV := .agg [pi c.kind, pi c.tf, pi c.tt, pi c.hf, pi c.ht, pi c.filter, pi c.t.kind, pi c.t.index, pi c.t.dims, pb c.t.ref]
def mePV (m : Me) : PV := .agg [ps m.name, pi m.owner, pi m.flags, tys m.params, pi m.ret.kind, pi m.ret.index, pi m.ret.dims, pb m.ret.ref, tys m.locals, pi m.max, .slc 6 (m.code.map insPV) false, .slc 10 (m.clauses.map clPV) false]
def imgPV (g : Img) : PV := .agg [.slc 4 (g.types.map tdPV) false, .slc 7 (g.fields.map fdPV) false, .slc 12 (g.methods.map mePV) false, pi g.entry]
theorem wrap_in {a : Int} (h1 : -9223372036854775808 ≤ a) (h2 : a ≤ 9223372036854775807) : IntKind.i64.wrap a = a := by
 unfold IntKind.wrap
 simp only [IntKind.bits, IntKind.signed]
 simp
 split <;> omega
theorem sub_i {env env' : Env} {t : Nat} {k : IntKind} {a b : Int} (h : env.get t = some (.pv (.base (.int k a)))) (e : a = b) (hs : Sub env env') : Sub env ((t, .pv (.base (.int k b))) :: env') := sub_cons (by rw [h, e]) hs
theorem sub_v {env env' : Env} {t : Nat} {a b : AV} (h : env.get t = some a) (e : a = b) (hs : Sub env env') : Sub env ((t, b) :: env') := sub_cons (by rw [h, e]) hs
theorem aw_condT {P : Program} {n : Nat} {g : Base} {x y : Code} {env : Env} {H : HEnv} {QQ : QC} {t : Nat} {b : Bool} (hc : env.get t = some (.pv (.base (.bool b)))) (hb : b = true) (h : AW P n g x env H QQ) : AW P n g (.cond (.tmp t) x y) env H QQ := by subst hb; exact aw_cond_true hc h
theorem aw_condF {P : Program} {n : Nat} {g : Base} {x y : Code} {env : Env} {H : HEnv} {QQ : QC} {t : Nat} {b : Bool} (hc : env.get t = some (.pv (.base (.bool b)))) (hb : b = false) (h : AW P n g y env H QQ) : AW P n g (.cond (.tmp t) x y) env H QQ := by subst hb; exact aw_cond_false hc h
theorem ao_caseB {P : Program} {n : Nat} {g : Base} {ops l : List Oper} {Q : Env → HEnv → Prop} {o : Oper} {env : Env} {H : HEnv} {t : Nat} {b : Bool} (c : Bool) (_ : guardVar ops o = some t) (hb : env.get t = some (.pv (.base (.bool b)))) (hc : b = c)
  (h : AO P n g ops.toArray (o :: l) ((t, .pv (.base (.bool c))) :: env) H Q) : AO P n g ops.toArray (o :: l) env H Q := ⟨fun a w hi => h.go a w (inv_bool hi hb hc)⟩
theorem ad_caseB {P : Program} {n : Nat} {g : Base} {H : HEnv} {ops l : List Oper} {Q : Env → Prop} {o : Oper} {t : Nat} {env : Env} {b : Bool} (c : Bool) (_ : guardVar ops o = some t) (hb : env.get t = some (.pv (.base (.bool b)))) (hc : b = c)
  (h : AD P n g H ops Q (o :: l) ((t, .pv (.base (.bool c))) :: env)) : AD P n g H ops Q (o :: l) env := by
 subst hc
 refine .case _ _ _ _ hb (fun e => ?_) (fun e => ?_) <;> (subst e; exact h)
theorem ao_sh_call {P : Program} {n : Nat} {g : Base} {ops : Array Oper} {rest : List Oper} {env : Env} {H : HEnv} {Q : Env → HEnv → Prop} {d : Option Tmp} {ty : TypeId} {po : String} {af : Array Edge} {gu : Option (Nat × Bool)} {f : Operand} {xs : Array Operand} {ts : Array TypeId} (h : AO P n g ops (⟨d, .call ⟨.value f, xs, ts⟩, ty, po, af, gu⟩ :: rest) env H Q) : AO P n g ops (⟨d, .call ⟨.value f, xs, ts⟩, ty, po, af, gu⟩ :: rest) env H Q := h
theorem ad_sh_call {P : Program} {n : Nat} {g : Base} {ops rest : List Oper} {env : Env} {H : HEnv} {Q : Env → Prop} {d : Option Tmp} {ty : TypeId} {po : String} {af : Array Edge} {gu : Option (Nat × Bool)} {f : Operand} {xs : Array Operand} {ts : Array TypeId} (h : AD P n g H ops Q (⟨d, .call ⟨.value f, xs, ts⟩, ty, po, af, gu⟩ :: rest) env) : AD P n g H ops Q (⟨d, .call ⟨.value f, xs, ts⟩, ty, po, af, gu⟩ :: rest) env := h
theorem ao_sh_bi {P : Program} {n : Nat} {g : Base} {ops : Array Oper} {rest : List Oper} {env : Env} {H : HEnv} {Q : Env → HEnv → Prop} {d : Option Tmp} {ty : TypeId} {po : String} {af : Array Edge} {gu : Option (Nat × Bool)} {b : Builtin} {xs : Array Operand} {ts : Array TypeId} (h : AO P n g ops (⟨d, .call ⟨.builtin b, xs, ts⟩, ty, po, af, gu⟩ :: rest) env H Q) : AO P n g ops (⟨d, .call ⟨.builtin b, xs, ts⟩, ty, po, af, gu⟩ :: rest) env H Q := h
theorem ad_sh_bi {P : Program} {n : Nat} {g : Base} {ops rest : List Oper} {env : Env} {H : HEnv} {Q : Env → Prop} {d : Option Tmp} {ty : TypeId} {po : String} {af : Array Edge} {gu : Option (Nat × Bool)} {b : Builtin} {xs : Array Operand} {ts : Array TypeId} (h : AD P n g H ops Q (⟨d, .call ⟨.builtin b, xs, ts⟩, ty, po, af, gu⟩ :: rest) env) : AD P n g H ops Q (⟨d, .call ⟨.builtin b, xs, ts⟩, ty, po, af, gu⟩ :: rest) env := h
theorem ao_sh_ix {P : Program} {n : Nat} {g : Base} {ops : Array Oper} {rest : List Oper} {env : Env} {H : HEnv} {Q : Env → HEnv → Prop} {d : Option Tmp} {ty : TypeId} {po : String} {af : Array Edge} {gu : Option (Nat × Bool)} {u : TypeId} {x i : Operand} (h : AO P n g ops (⟨d, .indexAddr u x i, ty, po, af, gu⟩ :: rest) env H Q) : AO P n g ops (⟨d, .indexAddr u x i, ty, po, af, gu⟩ :: rest) env H Q := h
theorem ad_sh_ix {P : Program} {n : Nat} {g : Base} {ops rest : List Oper} {env : Env} {H : HEnv} {Q : Env → Prop} {d : Option Tmp} {ty : TypeId} {po : String} {af : Array Edge} {gu : Option (Nat × Bool)} {u : TypeId} {x i : Operand} (h : AD P n g H ops Q (⟨d, .indexAddr u x i, ty, po, af, gu⟩ :: rest) env) : AD P n g H ops Q (⟨d, .indexAddr u x i, ty, po, af, gu⟩ :: rest) env := h
theorem ao_sh_index {P : Program} {n : Nat} {g : Base} {ops : Array Oper} {rest : List Oper} {env : Env} {H : HEnv} {Q : Env → HEnv → Prop} {d : Option Tmp} {ty : TypeId} {po : String} {af : Array Edge} {gu : Option (Nat × Bool)} {u : TypeId} {x i : Operand} (h : AO P n g ops (⟨d, .index u x i, ty, po, af, gu⟩ :: rest) env H Q) : AO P n g ops (⟨d, .index u x i, ty, po, af, gu⟩ :: rest) env H Q := h
theorem ad_sh_index {P : Program} {n : Nat} {g : Base} {ops rest : List Oper} {env : Env} {H : HEnv} {Q : Env → Prop} {d : Option Tmp} {ty : TypeId} {po : String} {af : Array Edge} {gu : Option (Nat × Bool)} {u : TypeId} {x i : Operand} (h : AD P n g H ops Q (⟨d, .index u x i, ty, po, af, gu⟩ :: rest) env) : AD P n g H ops Q (⟨d, .index u x i, ty, po, af, gu⟩ :: rest) env := h
theorem ao_sh_slice {P : Program} {n : Nat} {g : Base} {ops : Array Oper} {rest : List Oper} {env : Env} {H : HEnv} {Q : Env → HEnv → Prop} {d : Option Tmp} {ty : TypeId} {po : String} {af : Array Edge} {gu : Option (Nat × Bool)} {u : TypeId} {x : Operand} {i j k : Option Operand} (h : AO P n g ops (⟨d, .slice u x i j k, ty, po, af, gu⟩ :: rest) env H Q) : AO P n g ops (⟨d, .slice u x i j k, ty, po, af, gu⟩ :: rest) env H Q := h
theorem ad_sh_slice {P : Program} {n : Nat} {g : Base} {ops rest : List Oper} {env : Env} {H : HEnv} {Q : Env → Prop} {d : Option Tmp} {ty : TypeId} {po : String} {af : Array Edge} {gu : Option (Nat × Bool)} {u : TypeId} {x : Operand} {i j k : Option Operand} (h : AD P n g H ops Q (⟨d, .slice u x i j k, ty, po, af, gu⟩ :: rest) env) : AD P n g H ops Q (⟨d, .slice u x i j k, ty, po, af, gu⟩ :: rest) env := h
theorem ao_sh_store {P : Program} {n : Nat} {g : Base} {ops : Array Oper} {rest : List Oper} {env : Env} {H : HEnv} {Q : Env → HEnv → Prop} {d : Option Tmp} {ty : TypeId} {po : String} {af : Array Edge} {gu : Option (Nat × Bool)} {u : TypeId} {x y : Operand} (h : AO P n g ops (⟨d, .store u x y, ty, po, af, gu⟩ :: rest) env H Q) : AO P n g ops (⟨d, .store u x y, ty, po, af, gu⟩ :: rest) env H Q := h
theorem ad_sh_store {P : Program} {n : Nat} {g : Base} {ops rest : List Oper} {env : Env} {H : HEnv} {Q : Env → Prop} {d : Option Tmp} {ty : TypeId} {po : String} {af : Array Edge} {gu : Option (Nat × Bool)} {u : TypeId} {x y : Operand} (h : AD P n g H ops Q (⟨d, .store u x y, ty, po, af, gu⟩ :: rest) env) : AD P n g H ops Q (⟨d, .store u x y, ty, po, af, gu⟩ :: rest) env := h
theorem ao_sh_alloc {P : Program} {n : Nat} {g : Base} {ops : Array Oper} {rest : List Oper} {env : Env} {H : HEnv} {Q : Env → HEnv → Prop} {d : Option Tmp} {ty : TypeId} {po : String} {af : Array Edge} {gu : Option (Nat × Bool)} {u : TypeId} (h : AO P n g ops (⟨d, .alloc u, ty, po, af, gu⟩ :: rest) env H Q) : AO P n g ops (⟨d, .alloc u, ty, po, af, gu⟩ :: rest) env H Q := h
theorem ad_sh_alloc {P : Program} {n : Nat} {g : Base} {ops rest : List Oper} {env : Env} {H : HEnv} {Q : Env → Prop} {d : Option Tmp} {ty : TypeId} {po : String} {af : Array Edge} {gu : Option (Nat × Bool)} {u : TypeId} (h : AD P n g H ops Q (⟨d, .alloc u, ty, po, af, gu⟩ :: rest) env) : AD P n g H ops Q (⟨d, .alloc u, ty, po, af, gu⟩ :: rest) env := h
theorem ao_sh_box {P : Program} {n : Nat} {g : Base} {ops : Array Oper} {rest : List Oper} {env : Env} {H : HEnv} {Q : Env → HEnv → Prop} {d : Option Tmp} {ty : TypeId} {po : String} {af : Array Edge} {gu : Option (Nat × Bool)} {u : TypeId} {x : Operand} (h : AO P n g ops (⟨d, .box u x, ty, po, af, gu⟩ :: rest) env H Q) : AO P n g ops (⟨d, .box u x, ty, po, af, gu⟩ :: rest) env H Q := h
theorem ad_sh_box {P : Program} {n : Nat} {g : Base} {ops rest : List Oper} {env : Env} {H : HEnv} {Q : Env → Prop} {d : Option Tmp} {ty : TypeId} {po : String} {af : Array Edge} {gu : Option (Nat × Bool)} {u : TypeId} {x : Operand} (h : AD P n g H ops Q (⟨d, .box u x, ty, po, af, gu⟩ :: rest) env) : AD P n g H ops Q (⟨d, .box u x, ty, po, af, gu⟩ :: rest) env := h
theorem ao_id {P : Program} {n : Nat} {g : Base} {ops : Array Oper} {l : List Oper} {env : Env} {H : HEnv} {Q : Env → HEnv → Prop} (h : AO P n g ops l env H Q) : AO P n g ops l env H Q := h
theorem ad_id {P : Program} {n : Nat} {g : Base} {ops l : List Oper} {env : Env} {H : HEnv} {Q : Env → Prop} (h : AD P n g H ops Q l env) : AD P n g H ops Q l env := h
theorem aw_sh_cond {P : Program} {n : Nat} {g : Base} {c : Operand} {x y : Code} {env : Env} {H : HEnv} {QQ : QC} (h : AW P n g (.cond c x y) env H QQ) : AW P n g (.cond c x y) env H QQ := h
theorem aw_id {P : Program} {n : Nat} {g : Base} {c : Code} {env : Env} {H : HEnv} {QQ : QC} (h : AW P n g c env H QQ) : AW P n g c env H QQ := h
def cutQ (env2 : Env) (H2 : HEnv) (QQ : QC) : QC
 | .normal, env', H' => Sub env' env2 ∧ HFit H' H2 env2
 | e, env', H' => QQ e env' H'
theorem aw_cut {P : Program} {n : Nat} {g : Base} {x y : Code} {env : Env} {H : HEnv} {QQ : QC} (env2 : Env) (H2 : HEnv) (h1 : AW P n g x env H (cutQ env2 H2 QQ)) (h2 : AW P n g y env2 H2 QQ) : AW P n g (.seq x y) env H QQ :=
 aw_seq (h1.mono fun e env' H' hq => by
  cases e <;> first
   | exact ⟨fun a w hi => h2.go a w ((hi.sub hq.1).hsub hq.2)⟩
   | exact hq)
theorem sub_b {env env' : Env} {t : Nat} {a b : Bool} (h : env.get t = some (.pv (.base (.bool a)))) (e : a = b) (hs : Sub env env') : Sub env ((t, .pv (.base (.bool b))) :: env') := sub_cons (by rw [h, e]) hs
theorem retq {tb : Tab} {rs : List ResultVar} {r : PV} {env : Env} {H : HEnv} {ps : List PV} (h : resEs tb H env rs = some ps) (hr : retPV ps = r) : RetQ tb rs r .ret env H := ⟨.inr rfl, env, .refl env, ps, h, hr⟩
theorem retn {tb : Tab} {rs : List ResultVar} {r : PV} {env : Env} {H : HEnv} {ps : List PV} (h : resEs tb H env rs = some ps) (hr : retPV ps = r) : RetQ tb rs r .normal env H := ⟨.inl rfl, env, .refl env, ps, h, hr⟩
theorem retq_w {tb : Tab} {rs : List ResultVar} {r : PV} {env : Env} {H : HEnv} {ps : List PV} {t : Nat} {a b : AV} (he : env.get t = some a) (ht : Tells a b) (h : resEs tb H ((t, b) :: env) rs = some ps) (hr : retPV ps = r) : RetQ tb rs r .ret env H := ⟨.inr rfl, _, .one he ht, ps, h, hr⟩
theorem ad_case {P : Program} {n : Nat} {g : Base} {H : HEnv} {ops l : List Oper} {Q : Env → Prop} {o : Oper} {t : Nat} {env : Env} {b : Bool} (_ : guardVar ops o = some t) (hb : env.get t = some (.pv (.base (.bool b))))
  (h1 : b = true → AD P n g H ops Q (o :: l) ((t, .pv (.base (.bool true))) :: env)) (h2 : b = false → AD P n g H ops Q (o :: l) ((t, .pv (.base (.bool false))) :: env)) : AD P n g H ops Q (o :: l) env := .case _ _ _ _ hb h1 h2
theorem tyEq_iff (a b : Ty) : (a.kind == b.kind && (a.index == b.index && (a.dims == b.dims && (a.ref == b.ref && true)))) = decide (a = b) := by
 obtain ⟨a1, a2, a3, a4⟩ := a; obtain ⟨b1, b2, b3, b4⟩ := b
 simp [Ty.mk.injEq, Bool.beq_eq_decide_eq, ← Bool.decide_and]
theorem sA {Q P : Prop} (k : Q) (h : Q → P := by
  intro k
  first
  | (refine ao_sh_store ?_; first | exact ao_store tbOK rfl rfl rfl rfl rfl rfl rfl rfl rfl k)
  | (refine ao_sh_alloc ?_; first | exact ao_alloc tbOK 0 rfl rfl rfl rfl rfl rfl rfl k | exact ao_alloc tbOK 1 rfl rfl rfl rfl rfl rfl rfl k | exact ao_alloc tbOK 2 rfl rfl rfl rfl rfl rfl rfl k | exact ao_alloc tbOK 3 rfl rfl rfl rfl rfl rfl rfl k | exact ao_alloc tbOK 4 rfl rfl rfl rfl rfl rfl rfl k | exact ao_alloc tbOK 5 rfl rfl rfl rfl rfl rfl rfl k)
  | (refine ao_id ?_; first | exact ao_step tbOK rfl rfl rfl rfl k | exact ao_nil k | exact ao_skip rfl rfl rfl k | (refine ao_caseB true rfl rfl ?_ k; (assumption)) | (refine ao_caseB false rfl rfl ?_ k; (assumption)))
  | (refine ad_id ?_; first | exact AD.step _ _ _ _ _ rfl (opE_sound tbOK rfl) rfl rfl k | exact AD.nil _ k | exact AD.skip _ _ _ _ rfl rfl rfl k | (refine ad_caseB true rfl rfl ?_ k; (assumption)) | (refine ad_caseB false rfl rfl ?_ k; (assumption)))
  | exact aw_seq k | exact aw_region k | exact aw_block k
  | (refine aw_sh_cond ?_; first | exact aw_cond_true rfl k | exact aw_cond_false rfl k | (refine aw_condT rfl ?_ k; (assumption)) | (refine aw_condF rfl ?_ k; (assumption)))
  | exact aw_skip k | exact aw_exit k | exact aw_ret k | exact aw_draw (by kernel_rfl) (by kernel_rfl) k | fail) : P := h k
theorem sK {Q P : Prop} (k : Q) (h : Q → P := by
  intro k
  first
  | (refine ao_sh_store ?_; first | exact ao_store tbOK rfl rfl rfl rfl rfl rfl rfl rfl rfl k)
  | (refine ao_sh_alloc ?_; first | exact ao_alloc tbOK 0 rfl rfl rfl rfl rfl rfl rfl k | exact ao_alloc tbOK 1 rfl rfl rfl rfl rfl rfl rfl k | exact ao_alloc tbOK 2 rfl rfl rfl rfl rfl rfl rfl k | exact ao_alloc tbOK 3 rfl rfl rfl rfl rfl rfl rfl k | exact ao_alloc tbOK 4 rfl rfl rfl rfl rfl rfl rfl k | exact ao_alloc tbOK 5 rfl rfl rfl rfl rfl rfl rfl k)
  | (refine ao_id ?_; first | exact ao_step tbOK rfl rfl rfl rfl k | exact ao_nil k | exact ao_skip rfl rfl rfl k | (refine ao_caseB true rfl rfl ?_ k; (first | assumption | (simp <;> omega))) | (refine ao_caseB false rfl rfl ?_ k; (first | assumption | (simp <;> omega))))
  | (refine ad_id ?_; first | exact AD.step _ _ _ _ _ rfl (opE_sound tbOK rfl) rfl rfl k | exact AD.nil _ k | exact AD.skip _ _ _ _ rfl rfl rfl k | (refine ad_caseB true rfl rfl ?_ k; (first | assumption | (simp <;> omega))) | (refine ad_caseB false rfl rfl ?_ k; (first | assumption | (simp <;> omega))))
  | exact aw_seq k | exact aw_region k | exact aw_block k
  | (refine aw_sh_cond ?_; first | exact aw_cond_true rfl k | exact aw_cond_false rfl k | (refine aw_condT rfl ?_ k; (first | assumption | (simp <;> omega))) | (refine aw_condF rfl ?_ k; (first | assumption | (simp <;> omega))))
  | exact aw_skip k | exact aw_exit k | exact aw_ret k | exact aw_draw (by kernel_rfl) (by kernel_rfl) k | fail) : P := h k
theorem sC {P A B C D : Prop} (x : A → B) (y : C → D) (h : (A → B) → (C → D) → P := by
  intro x y; first | exact ao_case rfl rfl x y | exact ad_case rfl rfl x y | exact aw_cond rfl x y | fail) : P := h x y
theorem shC {Q P : Prop} (k : Q) (h : Q → P := by intro k; first | exact ao_sh_call k | exact ad_sh_call k | fail) : P := h k
theorem shX {Q P : Prop} (k : Q) (h : Q → P := by intro k; first | exact ao_sh_ix k | exact ad_sh_ix k | fail) : P := h k
theorem shI {Q P : Prop} (k : Q) (h : Q → P := by intro k; first | exact ao_sh_index k | exact ad_sh_index k | fail) : P := h k
theorem qC {Q P C : Prop} (c : C) (k : Q) (h : C → Q → P := by intro c k; first | exact ao_q rfl (q_call rfl rfl c) rfl rfl k | exact AD.step _ _ _ _ _ rfl (q_call rfl rfl c) rfl rfl k | fail) : P := h c k
theorem qV {Q P C : Prop} (c : C) (k : Q) (h : C → Q → P := by intro c k; first | exact ao_q rfl (q_callv rfl rfl rfl c) rfl rfl k | exact AD.step _ _ _ _ _ rfl (q_callv rfl rfl rfl c) rfl rfl k | fail) : P := h c k
theorem qX {Q P E : Prop} (e : E) (k : Q) (h : E → Q → P := by intro he k; first | exact ao_q rfl (q_index tbOK rfl rfl rfl rfl rfl rfl (by omega) he) rfl rfl k | exact AD.step _ _ _ _ _ rfl (q_index tbOK rfl rfl rfl rfl rfl rfl (by omega) he) rfl rfl k | fail) : P := h e k
theorem tS {P : Prop} (h : P := by repeat (first | exact sub_nil | refine sub_cons rfl ?_ | (refine sub_i rfl ?_ ?_; · (first | (rw [wrap_in (by omega) (by omega)] <;> omega) | (dsimp only; rw [wrap_in (by omega) (by omega)] <;> omega) | (simp; done))))) : P := h
theorem tH {A : Prop} {α : Type} {x y : α} (h : A := by repeat (first | exact hsub_nil | refine hsub_cons rfl ?_)) (e : x = y := by rfl) : A ∧ x = y := ⟨h, e⟩
theorem tD {P : Prop} (h : P := by dsimp only; omega) : P := h
end Go.Cg
namespace Go.Cg
open Go.Proofs
def tb : Tab := .node 169 ⟨1, 8, some (.nilFunc), .scalar⟩
 (.node 84 ⟨1, 8, some (.int .i64 0), .int .i64⟩
  (.node 42 ⟨1, 8, some (.nilFunc), .scalar⟩
   (.node 21 ⟨1, 4, some (.int .i32 0), .int .i32⟩
    (.node 10 ⟨1, 16, some (.string ByteArray.empty), .str⟩
     (.node 5 ⟨1, 1, some (.int .u8 0), .int .u8⟩
      (.node 2 ⟨1, 8, some (.int .i64 0), .int .i64⟩
       (.node 1 ⟨1, 8, some (.nilFunc), .scalar⟩
        (.node 0 ⟨1, 0, some (.tuple #[]), .scalar⟩
         (.leaf)
         (.leaf))
        (.leaf))
       (.node 4 ⟨1, 1, some (.bool false), .bool⟩
        (.node 3 ⟨1, 8, some (.int .i64 0), .int .i64⟩
         (.leaf)
         (.leaf))
        (.leaf)))
      (.node 8 ⟨4, 24, some (.agg #[.int .i64 0, .int .i64 0, .bool false, .int .u8 0]), .agg [(0, 2, 1), (1, 3, 1), (2, 4, 1), (3, 6, 1)] true⟩
       (.node 7 ⟨4, 24, some (.agg #[.int .i64 0, .int .i64 0, .bool false, .int .u8 0]), .agg [(0, 2, 1), (1, 3, 1), (2, 4, 1), (3, 6, 1)] true⟩
        (.node 6 ⟨1, 1, some (.int .u8 0), .int .u8⟩
         (.leaf)
         (.leaf))
        (.leaf))
       (.node 9 ⟨1, 16, some (.string ByteArray.empty), .str⟩
        (.leaf)
        (.leaf))))
     (.node 16 ⟨1, 8, some (.pointer none), .ptr 328⟩
      (.node 13 ⟨2, 24, some (.agg #[.string ByteArray.empty, .int .u64 0]), .agg [(0, 9, 1), (1, 12, 1)] false⟩
       (.node 12 ⟨1, 8, some (.int .u64 0), .int .u64⟩
        (.node 11 ⟨1, 16, some (.string ByteArray.empty), .str⟩
         (.leaf)
         (.leaf))
        (.leaf))
       (.node 15 ⟨1, 8, some (.pointer none), .ptr 325⟩
        (.node 14 ⟨2, 24, some (.agg #[.string ByteArray.empty, .int .u64 0]), .agg [(0, 9, 1), (1, 12, 1)] false⟩
         (.leaf)
         (.leaf))
        (.leaf)))
      (.node 19 ⟨1, 8, some (.agg #[.pointer none]), .agg [(0, 17, 1)] false⟩
       (.node 18 ⟨1, 8, some (.agg #[.pointer none]), .agg [(0, 17, 1)] false⟩
        (.node 17 ⟨1, 8, some (.pointer none), .ptr 336⟩
         (.leaf)
         (.leaf))
        (.leaf))
       (.node 20 ⟨1, 16, some (.nilIface), .scalar⟩
        (.leaf)
        (.leaf)))))
    (.node 32 ⟨1, 8, some (.nilFunc), .scalar⟩
     (.node 27 ⟨1, 24, some (.slice none 0 0), .sl 39⟩
      (.node 24 ⟨1, 24, some (.slice none 0 0), .sl 105⟩
       (.node 23 ⟨1, 24, some (.slice none 0 0), .sl 167⟩
        (.node 22 ⟨1, 24, some (.slice none 0 0), .sl 113⟩
         (.leaf)
         (.leaf))
        (.leaf))
       (.node 26 ⟨4, 80, some (.agg #[.slice none 0 0, .slice none 0 0, .slice none 0 0, .int .i64 0]), .agg [(0, 22, 1), (1, 23, 1), (2, 24, 1), (3, 3, 1)] true⟩
        (.node 25 ⟨4, 80, some (.agg #[.slice none 0 0, .slice none 0 0, .slice none 0 0, .int .i64 0]), .agg [(0, 22, 1), (1, 23, 1), (2, 24, 1), (3, 3, 1)] true⟩
         (.leaf)
         (.leaf))
        (.leaf)))
      (.node 30 ⟨1, 8, some (.nilFunc), .scalar⟩
       (.node 29 ⟨1, 8, some (.nilFunc), .scalar⟩
        (.node 28 ⟨1, 8, some (.nilFunc), .scalar⟩
         (.leaf)
         (.leaf))
        (.leaf))
       (.node 31 ⟨1, 8, some (.pointer none), .ptr 121⟩
        (.leaf)
        (.leaf))))
     (.node 37 ⟨1, 24, some (.slice none 0 0), .sl 33⟩
      (.node 35 ⟨4, 32, some (.agg #[.int .i64 0, .int .i64 0, .int .i64 0, .bool false]), .agg [(0, 3, 1), (1, 3, 1), (2, 3, 1), (3, 4, 1)] true⟩
       (.node 34 ⟨1, 8, some (.nilFunc), .scalar⟩
        (.node 33 ⟨1, 8, some (.int .u64 0), .int .u64⟩
         (.leaf)
         (.leaf))
        (.leaf))
       (.node 36 ⟨4, 32, some (.agg #[.int .i64 0, .int .i64 0, .int .i64 0, .bool false]), .agg [(0, 3, 1), (1, 3, 1), (2, 3, 1), (3, 4, 1)] true⟩
        (.leaf)
        (.leaf)))
      (.node 40 ⟨1, 8, some (.nilFunc), .scalar⟩
       (.node 39 ⟨9, 88, some (.agg #[.int .i64 0, .int .i64 0, .int .i64 0, .int .i64 0, .int .i64 0, .bool false, .int .u64 0, .int .u64 0, .slice none 0 0]), .agg [(0, 3, 1), (1, 3, 1), (2, 36, 4), (6, 33, 1), (7, 33, 1), (8, 37, 1)] true⟩
        (.node 38 ⟨9, 88, some (.agg #[.int .i64 0, .int .i64 0, .int .i64 0, .int .i64 0, .int .i64 0, .bool false, .int .u64 0, .int .u64 0, .slice none 0 0]), .agg [(0, 3, 1), (1, 3, 1), (2, 36, 4), (6, 33, 1), (7, 33, 1), (8, 37, 1)] true⟩
         (.leaf)
         (.leaf))
        (.leaf))
       (.node 41 ⟨1, 8, some (.nilFunc), .scalar⟩
        (.leaf)
        (.leaf))))))
   (.node 63 ⟨1, 24, some (.slice none 0 0), .sl 141⟩
    (.node 53 ⟨1, 24, some (.slice none 0 0), .sl 138⟩
     (.node 48 ⟨1, 8, some (.nilFunc), .scalar⟩
      (.node 45 ⟨1, 8, some (.nilFunc), .scalar⟩
       (.node 44 ⟨1, 8, some (.pointer none), .ptr 132⟩
        (.node 43 ⟨1, 24, some (.slice none 0 0), .sl 5⟩
         (.leaf)
         (.leaf))
        (.leaf))
       (.node 47 ⟨1, 8, some (.nilFunc), .scalar⟩
        (.node 46 ⟨1, 8, some (.nilFunc), .scalar⟩
         (.leaf)
         (.leaf))
        (.leaf)))
      (.node 51 ⟨1, 8, some (.nilFunc), .scalar⟩
       (.node 50 ⟨1, 8, some (.pointer none), .ptr 55⟩
        (.node 49 ⟨1, 8, some (.nilFunc), .scalar⟩
         (.leaf)
         (.leaf))
        (.leaf))
       (.node 52 ⟨1, 8, some (.nilFunc), .scalar⟩
        (.leaf)
        (.leaf))))
     (.node 58 ⟨1, 8, some (.nilFunc), .scalar⟩
      (.node 56 ⟨1, 8, some (.nilFunc), .scalar⟩
       (.node 55 ⟨9, 136, some (.agg #[.slice none 0 0, .slice none 0 0, .slice none 0 0, .int .i64 0, .slice none 0 0, .int .i64 0, .int .i64 0, .int .i64 0, .int .i64 0]), .agg [(0, 26, 4), (4, 53, 1), (5, 3, 1), (6, 3, 1), (7, 3, 1), (8, 3, 1)] true⟩
        (.node 54 ⟨9, 136, some (.agg #[.slice none 0 0, .slice none 0 0, .slice none 0 0, .int .i64 0, .slice none 0 0, .int .i64 0, .int .i64 0, .int .i64 0, .int .i64 0]), .agg [(0, 26, 4), (4, 53, 1), (5, 3, 1), (6, 3, 1), (7, 3, 1), (8, 3, 1)] true⟩
         (.leaf)
         (.leaf))
        (.leaf))
       (.node 57 ⟨1, 8, some (.nilFunc), .scalar⟩
        (.leaf)
        (.leaf)))
      (.node 61 ⟨1, 8, some (.nilFunc), .scalar⟩
       (.node 60 ⟨1, 24, some (.slice none 0 0), .sl 67⟩
        (.node 59 ⟨1, 8, some (.nilFunc), .scalar⟩
         (.leaf)
         (.leaf))
        (.leaf))
       (.node 62 ⟨1, 8, some (.pointer none), .ptr 65⟩
        (.leaf)
        (.leaf)))))
    (.node 74 ⟨1, 8, some (.nilFunc), .scalar⟩
     (.node 69 ⟨1, 8, some (.nilFunc), .scalar⟩
      (.node 66 ⟨5, 56, some (.agg #[.int .i64 0, .int .i64 0, .int .i64 0, .int .u64 0, .slice none 0 0]), .agg [(0, 3, 1), (1, 3, 1), (2, 3, 1), (3, 33, 1), (4, 37, 1)] true⟩
       (.node 65 ⟨2, 32, some (.agg #[.int .i64 0, .slice none 0 0]), .agg [(0, 3, 1), (1, 63, 1)] true⟩
        (.node 64 ⟨2, 32, some (.agg #[.int .i64 0, .slice none 0 0]), .agg [(0, 3, 1), (1, 63, 1)] true⟩
         (.leaf)
         (.leaf))
        (.leaf))
       (.node 68 ⟨1, 8, some (.nilFunc), .scalar⟩
        (.node 67 ⟨5, 56, some (.agg #[.int .i64 0, .int .i64 0, .int .i64 0, .int .u64 0, .slice none 0 0]), .agg [(0, 3, 1), (1, 3, 1), (2, 3, 1), (3, 33, 1), (4, 37, 1)] true⟩
         (.leaf)
         (.leaf))
        (.leaf)))
      (.node 72 ⟨1, 8, some (.nilFunc), .scalar⟩
       (.node 71 ⟨1, 8, some (.nilFunc), .scalar⟩
        (.node 70 ⟨1, 8, some (.nilFunc), .scalar⟩
         (.leaf)
         (.leaf))
        (.leaf))
       (.node 73 ⟨1, 8, some (.nilFunc), .scalar⟩
        (.leaf)
        (.leaf))))
     (.node 79 ⟨1, 8, some (.nilFunc), .scalar⟩
      (.node 77 ⟨4, 48, some (.agg #[.int .i64 0, .int .i64 0, .int .u64 0, .slice none 0 0]), .agg [(0, 3, 1), (1, 3, 1), (2, 33, 1), (3, 37, 1)] true⟩
       (.node 76 ⟨1, 8, some (.nilFunc), .scalar⟩
        (.node 75 ⟨1, 8, some (.nilFunc), .scalar⟩
         (.leaf)
         (.leaf))
        (.leaf))
       (.node 78 ⟨4, 48, some (.agg #[.int .i64 0, .int .i64 0, .int .u64 0, .slice none 0 0]), .agg [(0, 3, 1), (1, 3, 1), (2, 33, 1), (3, 37, 1)] true⟩
        (.leaf)
        (.leaf)))
      (.node 82 ⟨3, 56, some (.agg #[.slice none 0 0, .slice none 0 0, .int .i64 0]), .agg [(0, 81, 1), (1, 81, 1), (2, 3, 1)] true⟩
       (.node 81 ⟨1, 24, some (.slice none 0 0), .sl 3⟩
        (.node 80 ⟨1, 8, some (.nilFunc), .scalar⟩
         (.leaf)
         (.leaf))
        (.leaf))
       (.node 83 ⟨3, 56, some (.agg #[.slice none 0 0, .slice none 0 0, .int .i64 0]), .agg [(0, 81, 1), (1, 81, 1), (2, 3, 1)] true⟩
        (.leaf)
        (.leaf)))))))
  (.node 127 ⟨1, 8, some (.nilFunc), .scalar⟩
   (.node 106 ⟨1, 8, some (.nilFunc), .scalar⟩
    (.node 95 ⟨1, 8, some (.nilFunc), .scalar⟩
     (.node 90 ⟨2, 16, some (.agg #[.int .i64 0, .int .i64 0]), .agg [(0, 3, 1), (1, 3, 1)] true⟩
      (.node 87 ⟨1, 8, some (.nilFunc), .scalar⟩
       (.node 86 ⟨1, 8, some (.nilFunc), .scalar⟩
        (.node 85 ⟨1, 0, some (.tuple #[.agg #[.slice none 0 0, .slice none 0 0, .int .i64 0], .int .i64 0]), .scalar⟩
         (.leaf)
         (.leaf))
        (.leaf))
       (.node 89 ⟨1, 8, some (.nilFunc), .scalar⟩
        (.node 88 ⟨1, 8, some (.nilFunc), .scalar⟩
         (.leaf)
         (.leaf))
        (.leaf)))
      (.node 93 ⟨2, 48, some (.agg #[.slice none 0 0, .slice none 0 0]), .arr 2 92⟩
       (.node 92 ⟨1, 24, some (.slice none 0 0), .sl 36⟩
        (.node 91 ⟨2, 16, some (.agg #[.int .i64 0, .int .i64 0]), .agg [(0, 3, 1), (1, 3, 1)] true⟩
         (.leaf)
         (.leaf))
        (.leaf))
       (.node 94 ⟨1, 8, some (.nilFunc), .scalar⟩
        (.leaf)
        (.leaf))))
     (.node 101 ⟨1, 8, some (.nilFunc), .scalar⟩
      (.node 98 ⟨1, 8, some (.nilFunc), .scalar⟩
       (.node 97 ⟨1, 8, some (.pointer none), .ptr 158⟩
        (.node 96 ⟨1, 8, some (.nilFunc), .scalar⟩
         (.leaf)
         (.leaf))
        (.leaf))
       (.node 100 ⟨1, 8, some (.nilFunc), .scalar⟩
        (.node 99 ⟨1, 0, some (.tuple #[.slice none 0 0, .int .i64 0]), .scalar⟩
         (.leaf)
         (.leaf))
        (.leaf)))
      (.node 104 ⟨12, 168, some (.agg #[.string ByteArray.empty, .int .i64 0, .int .i64 0, .slice none 0 0, .int .i64 0, .int .i64 0, .int .i64 0, .bool false, .slice none 0 0, .int .i64 0, .slice none 0 0, .slice none 0 0]), .agg [(0, 9, 1), (1, 3, 1), (2, 3, 1), (3, 92, 1), (4, 36, 4), (8, 92, 1), (9, 3, 1), (10, 102, 1), (11, 103, 1)] true⟩
       (.node 103 ⟨1, 24, some (.slice none 0 0), .sl 194⟩
        (.node 102 ⟨1, 24, some (.slice none 0 0), .sl 108⟩
         (.leaf)
         (.leaf))
        (.leaf))
       (.node 105 ⟨12, 168, some (.agg #[.string ByteArray.empty, .int .i64 0, .int .i64 0, .slice none 0 0, .int .i64 0, .int .i64 0, .int .i64 0, .bool false, .slice none 0 0, .int .i64 0, .slice none 0 0, .slice none 0 0]), .agg [(0, 9, 1), (1, 3, 1), (2, 3, 1), (3, 92, 1), (4, 36, 4), (8, 92, 1), (9, 3, 1), (10, 102, 1), (11, 103, 1)] true⟩
        (.leaf)
        (.leaf)))))
    (.node 117 ⟨1, 8, some (.nilFunc), .scalar⟩
     (.node 112 ⟨4, 56, some (.agg #[.string ByteArray.empty, .int .i64 0, .int .i64 0, .slice none 0 0]), .agg [(0, 9, 1), (1, 3, 1), (2, 3, 1), (3, 81, 1)] true⟩
      (.node 109 ⟨1, 8, some (.nilFunc), .scalar⟩
       (.node 108 ⟨6, 48, some (.agg #[.int .i64 0, .int .i64 0, .int .i64 0, .int .i64 0, .int .i64 0, .bool false]), .agg [(0, 3, 1), (1, 2, 1), (2, 36, 4)] true⟩
        (.node 107 ⟨6, 48, some (.agg #[.int .i64 0, .int .i64 0, .int .i64 0, .int .i64 0, .int .i64 0, .bool false]), .agg [(0, 3, 1), (1, 2, 1), (2, 36, 4)] true⟩
         (.leaf)
         (.leaf))
        (.leaf))
       (.node 111 ⟨1, 8, some (.nilFunc), .scalar⟩
        (.node 110 ⟨1, 8, some (.nilFunc), .scalar⟩
         (.leaf)
         (.leaf))
        (.leaf)))
      (.node 115 ⟨1, 8, some (.nilFunc), .scalar⟩
       (.node 114 ⟨1, 0, some (.tuple #[.int .i64 0, .int .i64 0]), .scalar⟩
        (.node 113 ⟨4, 56, some (.agg #[.string ByteArray.empty, .int .i64 0, .int .i64 0, .slice none 0 0]), .agg [(0, 9, 1), (1, 3, 1), (2, 3, 1), (3, 81, 1)] true⟩
         (.leaf)
         (.leaf))
        (.leaf))
       (.node 116 ⟨1, 0, some (.tuple #[.int .i64 0, .int .i64 0]), .scalar⟩
        (.leaf)
        (.leaf))))
     (.node 122 ⟨1, 8, some (.nilFunc), .scalar⟩
      (.node 120 ⟨8, 112, some (.agg #[.slice none 0 0, .slice none 0 0, .slice none 0 0, .map none, .int .u64 0, .int .u64 0, .int .u64 0, .int .i64 0]), .agg [(0, 37, 1), (1, 119, 1), (2, 81, 1), (3, 118, 1), (4, 33, 1), (5, 33, 1), (6, 33, 1), (7, 3, 1)] true⟩
       (.node 119 ⟨1, 24, some (.slice none 0 0), .sl 92⟩
        (.node 118 ⟨1, 8, some (.map none), .map 36 3⟩
         (.leaf)
         (.leaf))
        (.leaf))
       (.node 121 ⟨8, 112, some (.agg #[.slice none 0 0, .slice none 0 0, .slice none 0 0, .map none, .int .u64 0, .int .u64 0, .int .u64 0, .int .i64 0]), .agg [(0, 37, 1), (1, 119, 1), (2, 81, 1), (3, 118, 1), (4, 33, 1), (5, 33, 1), (6, 33, 1), (7, 3, 1)] true⟩
        (.leaf)
        (.leaf)))
      (.node 125 ⟨1, 8, some (.nilFunc), .scalar⟩
       (.node 124 ⟨1, 8, some (.nilFunc), .scalar⟩
        (.node 123 ⟨1, 8, some (.nilFunc), .scalar⟩
         (.leaf)
         (.leaf))
        (.leaf))
       (.node 126 ⟨1, 8, some (.nilFunc), .scalar⟩
        (.leaf)
        (.leaf))))))
   (.node 148 ⟨1, 8, some (.nilFunc), .scalar⟩
    (.node 138 ⟨5, 40, some (.agg #[.int .u64 0, .int .i64 0, .int .i64 0, .int .i64 0, .bool false]), .agg [(0, 33, 1), (1, 36, 4)] true⟩
     (.node 133 ⟨1, 8, some (.nilFunc), .scalar⟩
      (.node 130 ⟨1, 24, some (.slice none 0 0), .sl 135⟩
       (.node 129 ⟨1, 8, some (.nilFunc), .scalar⟩
        (.node 128 ⟨1, 8, some (.nilFunc), .scalar⟩
         (.leaf)
         (.leaf))
        (.leaf))
       (.node 132 ⟨3, 40, some (.agg #[.pointer none, .int .i64 0, .slice none 0 0]), .agg [(0, 31, 1), (1, 3, 1), (2, 130, 1)] true⟩
        (.node 131 ⟨3, 40, some (.agg #[.pointer none, .int .i64 0, .slice none 0 0]), .agg [(0, 31, 1), (1, 3, 1), (2, 130, 1)] true⟩
         (.leaf)
         (.leaf))
        (.leaf)))
      (.node 136 ⟨1, 8, some (.nilFunc), .scalar⟩
       (.node 135 ⟨5, 40, some (.agg #[.int .i64 0, .int .i64 0, .int .u64 0, .int .u64 0, .int .i64 0]), .agg [(0, 3, 1), (1, 3, 1), (2, 33, 1), (3, 33, 1), (4, 3, 1)] true⟩
        (.node 134 ⟨5, 40, some (.agg #[.int .i64 0, .int .i64 0, .int .u64 0, .int .u64 0, .int .i64 0]), .agg [(0, 3, 1), (1, 3, 1), (2, 33, 1), (3, 33, 1), (4, 3, 1)] true⟩
         (.leaf)
         (.leaf))
        (.leaf))
       (.node 137 ⟨5, 40, some (.agg #[.int .u64 0, .int .i64 0, .int .i64 0, .int .i64 0, .bool false]), .agg [(0, 33, 1), (1, 36, 4)] true⟩
        (.leaf)
        (.leaf))))
     (.node 143 ⟨1, 8, some (.nilFunc), .scalar⟩
      (.node 141 ⟨5, 72, some (.agg #[.int .i64 0, .int .i64 0, .int .i64 0, .slice none 0 0, .slice none 0 0]), .agg [(0, 3, 1), (1, 3, 1), (2, 3, 1), (3, 37, 1), (4, 37, 1)] true⟩
       (.node 140 ⟨5, 72, some (.agg #[.int .i64 0, .int .i64 0, .int .i64 0, .slice none 0 0, .slice none 0 0]), .agg [(0, 3, 1), (1, 3, 1), (2, 3, 1), (3, 37, 1), (4, 37, 1)] true⟩
        (.node 139 ⟨1, 8, some (.nilFunc), .scalar⟩
         (.leaf)
         (.leaf))
        (.leaf))
       (.node 142 ⟨1, 8, some (.pointer none), .ptr 135⟩
        (.leaf)
        (.leaf)))
      (.node 146 ⟨2, 16, some (.agg #[.int .i64 0, .int .i64 0]), .agg [(0, 3, 1), (1, 3, 1)] true⟩
       (.node 145 ⟨2, 16, some (.agg #[.int .i64 0, .int .i64 0]), .agg [(0, 3, 1), (1, 3, 1)] true⟩
        (.node 144 ⟨1, 8, some (.nilFunc), .scalar⟩
         (.leaf)
         (.leaf))
        (.leaf))
       (.node 147 ⟨1, 0, some (.tuple #[.agg #[.int .i64 0, .int .i64 0], .int .i64 0]), .scalar⟩
        (.leaf)
        (.leaf)))))
    (.node 159 ⟨1, 8, some (.int .i64 0), .int .i64⟩
     (.node 154 ⟨1, 8, some (.nilFunc), .scalar⟩
      (.node 151 ⟨1, 0, some (.tuple #[.agg #[.int .i64 0, .int .i64 0], .int .i64 0]), .scalar⟩
       (.node 150 ⟨1, 8, some (.nilFunc), .scalar⟩
        (.node 149 ⟨1, 8, some (.nilFunc), .scalar⟩
         (.leaf)
         (.leaf))
        (.leaf))
       (.node 153 ⟨1, 8, some (.nilFunc), .scalar⟩
        (.node 152 ⟨1, 8, some (.nilFunc), .scalar⟩
         (.leaf)
         (.leaf))
        (.leaf)))
      (.node 157 ⟨4, 80, some (.agg #[.slice none 0 0, .slice none 0 0, .slice none 0 0, .int .i64 0]), .agg [(0, 26, 4)] true⟩
       (.node 156 ⟨1, 8, some (.nilFunc), .scalar⟩
        (.node 155 ⟨1, 8, some (.nilFunc), .scalar⟩
         (.leaf)
         (.leaf))
        (.leaf))
       (.node 158 ⟨4, 80, some (.agg #[.slice none 0 0, .slice none 0 0, .slice none 0 0, .int .i64 0]), .agg [(0, 26, 4)] true⟩
        (.leaf)
        (.leaf))))
     (.node 164 ⟨1, 8, some (.nilFunc), .scalar⟩
      (.node 162 ⟨24, 344, some (.agg #[.slice none 0 0, .slice none 0 0, .slice none 0 0, .int .i64 0, .string ByteArray.empty, .int .i64 0, .int .i64 0, .slice none 0 0, .int .i64 0, .int .i64 0, .int .i64 0, .bool false, .slice none 0 0, .int .i64 0, .slice none 0 0, .slice none 0 0, .slice none 0 0, .int .i64 0, .int .i64 0, .int .i64 0, .int .i64 0, .int .i64 0, .bool false, .slice none 0 0]), .agg [(0, 26, 4), (4, 105, 12), (16, 92, 1), (17, 108, 6), (23, 92, 1)] true⟩
       (.node 161 ⟨1, 8, some (.pointer none), .ptr 163⟩
        (.node 160 ⟨1, 0, some (.tuple #[.int .i64 0, .bool false]), .scalar⟩
         (.leaf)
         (.leaf))
        (.leaf))
       (.node 163 ⟨24, 344, some (.agg #[.slice none 0 0, .slice none 0 0, .slice none 0 0, .int .i64 0, .string ByteArray.empty, .int .i64 0, .int .i64 0, .slice none 0 0, .int .i64 0, .int .i64 0, .int .i64 0, .bool false, .slice none 0 0, .int .i64 0, .slice none 0 0, .slice none 0 0, .slice none 0 0, .int .i64 0, .int .i64 0, .int .i64 0, .int .i64 0, .int .i64 0, .bool false, .slice none 0 0]), .agg [(0, 26, 4), (4, 105, 12), (16, 92, 1), (17, 108, 6), (23, 92, 1)] true⟩
        (.leaf)
        (.leaf)))
      (.node 167 ⟨7, 64, some (.agg #[.string ByteArray.empty, .int .i64 0, .int .i64 0, .int .i64 0, .int .i64 0, .bool false, .bool false]), .agg [(0, 9, 1), (1, 3, 1), (2, 36, 4), (6, 4, 1)] true⟩
       (.node 166 ⟨7, 64, some (.agg #[.string ByteArray.empty, .int .i64 0, .int .i64 0, .int .i64 0, .int .i64 0, .bool false, .bool false]), .agg [(0, 9, 1), (1, 3, 1), (2, 36, 4), (6, 4, 1)] true⟩
        (.node 165 ⟨1, 8, some (.nilFunc), .scalar⟩
         (.leaf)
         (.leaf))
        (.leaf))
       (.node 168 ⟨1, 8, some (.nilFunc), .scalar⟩
        (.leaf)
        (.leaf))))))))
 (.node 254 ⟨1, 8, some (.nilFunc), .scalar⟩
  (.node 212 ⟨1, 8, some (.nilFunc), .scalar⟩
   (.node 191 ⟨1, 8, some (.nilFunc), .scalar⟩
    (.node 180 ⟨1, 8, some (.nilFunc), .scalar⟩
     (.node 175 ⟨1, 8, some (.nilFunc), .scalar⟩
      (.node 172 ⟨1, 8, some (.nilFunc), .scalar⟩
       (.node 171 ⟨1, 8, some (.nilFunc), .scalar⟩
        (.node 170 ⟨1, 8, some (.nilFunc), .scalar⟩
         (.leaf)
         (.leaf))
        (.leaf))
       (.node 174 ⟨1, 8, some (.nilFunc), .scalar⟩
        (.node 173 ⟨1, 8, some (.int .u64 0), .int .u64⟩
         (.leaf)
         (.leaf))
        (.leaf)))
      (.node 178 ⟨1, 8, some (.nilFunc), .scalar⟩
       (.node 177 ⟨1, 8, some (.nilFunc), .scalar⟩
        (.node 176 ⟨1, 8, some (.nilFunc), .scalar⟩
         (.leaf)
         (.leaf))
        (.leaf))
       (.node 179 ⟨1, 8, some (.nilFunc), .scalar⟩
        (.leaf)
        (.leaf))))
     (.node 186 ⟨1, 8, some (.nilFunc), .scalar⟩
      (.node 183 ⟨1, 8, some (.nilFunc), .scalar⟩
       (.node 182 ⟨1, 8, some (.nilFunc), .scalar⟩
        (.node 181 ⟨1, 0, some (.tuple #[.agg #[.int .i64 0, .int .i64 0, .int .i64 0, .bool false], .bool false]), .scalar⟩
         (.leaf)
         (.leaf))
        (.leaf))
       (.node 185 ⟨1, 8, some (.nilFunc), .scalar⟩
        (.node 184 ⟨1, 8, some (.nilFunc), .scalar⟩
         (.leaf)
         (.leaf))
        (.leaf)))
      (.node 189 ⟨1, 8, some (.pointer none), .ptr 105⟩
       (.node 188 ⟨1, 8, some (.nilFunc), .scalar⟩
        (.node 187 ⟨1, 8, some (.nilFunc), .scalar⟩
         (.leaf)
         (.leaf))
        (.leaf))
       (.node 190 ⟨1, 8, some (.nilFunc), .scalar⟩
        (.leaf)
        (.leaf)))))
    (.node 202 ⟨3, 32, some (.agg #[.string ByteArray.empty, .int .i64 0, .int .i64 0]), .agg [(0, 9, 1), (1, 3, 1), (2, 3, 1)] true⟩
     (.node 197 ⟨1, 8, some (.nilFunc), .scalar⟩
      (.node 194 ⟨10, 80, some (.agg #[.int .i64 0, .int .i64 0, .int .i64 0, .int .i64 0, .int .i64 0, .int .i64 0, .int .i64 0, .int .i64 0, .int .i64 0, .bool false]), .agg [(0, 3, 1), (1, 3, 1), (2, 3, 1), (3, 3, 1), (4, 3, 1), (5, 3, 1), (6, 36, 4)] true⟩
       (.node 193 ⟨10, 80, some (.agg #[.int .i64 0, .int .i64 0, .int .i64 0, .int .i64 0, .int .i64 0, .int .i64 0, .int .i64 0, .int .i64 0, .int .i64 0, .bool false]), .agg [(0, 3, 1), (1, 3, 1), (2, 3, 1), (3, 3, 1), (4, 3, 1), (5, 3, 1), (6, 36, 4)] true⟩
        (.node 192 ⟨1, 8, some (.nilFunc), .scalar⟩
         (.leaf)
         (.leaf))
        (.leaf))
       (.node 196 ⟨1, 8, some (.nilFunc), .scalar⟩
        (.node 195 ⟨1, 8, some (.nilFunc), .scalar⟩
         (.leaf)
         (.leaf))
        (.leaf)))
      (.node 200 ⟨1, 8, some (.nilFunc), .scalar⟩
       (.node 199 ⟨1, 8, some (.nilFunc), .scalar⟩
        (.node 198 ⟨1, 8, some (.nilFunc), .scalar⟩
         (.leaf)
         (.leaf))
        (.leaf))
       (.node 201 ⟨1, 8, some (.nilFunc), .scalar⟩
        (.leaf)
        (.leaf))))
     (.node 207 ⟨1, 8, some (.nilFunc), .scalar⟩
      (.node 205 ⟨1, 8, some (.nilFunc), .scalar⟩
       (.node 204 ⟨1, 0, some (.tuple #[.agg #[.string ByteArray.empty, .int .i64 0, .int .i64 0], .int .i64 0]), .scalar⟩
        (.node 203 ⟨3, 32, some (.agg #[.string ByteArray.empty, .int .i64 0, .int .i64 0]), .agg [(0, 9, 1), (1, 3, 1), (2, 3, 1)] true⟩
         (.leaf)
         (.leaf))
        (.leaf))
       (.node 206 ⟨1, 8, some (.nilFunc), .scalar⟩
        (.leaf)
        (.leaf)))
      (.node 210 ⟨1, 8, some (.nilFunc), .scalar⟩
       (.node 209 ⟨1, 0, some (.tuple #[.agg #[.string ByteArray.empty, .int .i64 0, .int .i64 0], .int .i64 0]), .scalar⟩
        (.node 208 ⟨1, 8, some (.nilFunc), .scalar⟩
         (.leaf)
         (.leaf))
        (.leaf))
       (.node 211 ⟨1, 8, some (.nilFunc), .scalar⟩
        (.leaf)
        (.leaf))))))
   (.node 233 ⟨1, 8, some (.nilFunc), .scalar⟩
    (.node 223 ⟨1, 8, some (.nilFunc), .scalar⟩
     (.node 218 ⟨1, 8, some (.nilFunc), .scalar⟩
      (.node 215 ⟨1, 8, some (.nilFunc), .scalar⟩
       (.node 214 ⟨1, 8, some (.nilFunc), .scalar⟩
        (.node 213 ⟨1, 8, some (.nilFunc), .scalar⟩
         (.leaf)
         (.leaf))
        (.leaf))
       (.node 217 ⟨1, 8, some (.nilFunc), .scalar⟩
        (.node 216 ⟨1, 8, some (.nilFunc), .scalar⟩
         (.leaf)
         (.leaf))
        (.leaf)))
      (.node 221 ⟨1, 8, some (.nilFunc), .scalar⟩
       (.node 220 ⟨1, 8, some (.nilFunc), .scalar⟩
        (.node 219 ⟨1, 8, some (.nilFunc), .scalar⟩
         (.leaf)
         (.leaf))
        (.leaf))
       (.node 222 ⟨4, 32, some (.agg #[.int .i64 0, .int .i64 0, .int .i64 0, .bool false]), .agg [(0, 3, 1), (1, 3, 1), (2, 3, 1), (3, 4, 1)] true⟩
        (.leaf)
        (.leaf))))
     (.node 228 ⟨1, 24, some (.agg #[.slice none 0 0]), .agg [(0, 81, 1)] true⟩
      (.node 226 ⟨1, 8, some (.nilFunc), .scalar⟩
       (.node 225 ⟨1, 8, some (.nilFunc), .scalar⟩
        (.node 224 ⟨1, 8, some (.nilFunc), .scalar⟩
         (.leaf)
         (.leaf))
        (.leaf))
       (.node 227 ⟨1, 8, some (.pointer none), .ptr 229⟩
        (.leaf)
        (.leaf)))
      (.node 231 ⟨5, 88, some (.agg #[.pointer none, .slice none 0 0, .slice none 0 0, .slice none 0 0, .int .i64 0]), .agg [(0, 227, 1), (1, 26, 4)] true⟩
       (.node 230 ⟨5, 88, some (.agg #[.pointer none, .slice none 0 0, .slice none 0 0, .slice none 0 0, .int .i64 0]), .agg [(0, 227, 1), (1, 26, 4)] true⟩
        (.node 229 ⟨1, 24, some (.agg #[.slice none 0 0]), .agg [(0, 81, 1)] true⟩
         (.leaf)
         (.leaf))
        (.leaf))
       (.node 232 ⟨1, 8, some (.nilFunc), .scalar⟩
        (.leaf)
        (.leaf)))))
    (.node 244 ⟨1, 8, some (.nilFunc), .scalar⟩
     (.node 239 ⟨1, 8, some (.nilFunc), .scalar⟩
      (.node 236 ⟨1, 8, some (.nilFunc), .scalar⟩
       (.node 235 ⟨1, 8, some (.nilFunc), .scalar⟩
        (.node 234 ⟨1, 8, some (.nilFunc), .scalar⟩
         (.leaf)
         (.leaf))
        (.leaf))
       (.node 238 ⟨1, 8, some (.nilFunc), .scalar⟩
        (.node 237 ⟨1, 0, some (.tuple #[.slice none 0 0, .slice none 0 0, .int .i64 0]), .scalar⟩
         (.leaf)
         (.leaf))
        (.leaf)))
      (.node 242 ⟨1, 8, some (.nilFunc), .scalar⟩
       (.node 241 ⟨1, 8, some (.nilFunc), .scalar⟩
        (.node 240 ⟨1, 8, some (.nilFunc), .scalar⟩
         (.leaf)
         (.leaf))
        (.leaf))
       (.node 243 ⟨1, 8, some (.nilFunc), .scalar⟩
        (.leaf)
        (.leaf))))
     (.node 249 ⟨1, 8, some (.nilFunc), .scalar⟩
      (.node 247 ⟨1, 8, some (.nilFunc), .scalar⟩
       (.node 246 ⟨1, 8, some (.map none), .map 3 3⟩
        (.node 245 ⟨1, 8, some (.nilFunc), .scalar⟩
         (.leaf)
         (.leaf))
        (.leaf))
       (.node 248 ⟨1, 8, some (.nilFunc), .scalar⟩
        (.leaf)
        (.leaf)))
      (.node 252 ⟨1, 8, some (.nilFunc), .scalar⟩
       (.node 251 ⟨1, 8, some (.nilFunc), .scalar⟩
        (.node 250 ⟨1, 8, some (.nilFunc), .scalar⟩
         (.leaf)
         (.leaf))
        (.leaf))
       (.node 253 ⟨1, 8, some (.nilFunc), .scalar⟩
        (.leaf)
        (.leaf)))))))
  (.node 296 ⟨2, 16, some (.agg #[.int .i64 0, .int .i64 0]), .agg [(0, 3, 1), (1, 3, 1)] true⟩
   (.node 275 ⟨1, 8, some (.nilFunc), .scalar⟩
    (.node 265 ⟨1, 8, some (.nilFunc), .scalar⟩
     (.node 260 ⟨1, 8, some (.nilFunc), .scalar⟩
      (.node 257 ⟨1, 8, some (.nilFunc), .scalar⟩
       (.node 256 ⟨1, 0, some (.tuple #[.slice none 0 0, .int .i64 0]), .scalar⟩
        (.node 255 ⟨1, 8, some (.nilFunc), .scalar⟩
         (.leaf)
         (.leaf))
        (.leaf))
       (.node 259 ⟨1, 8, some (.nilFunc), .scalar⟩
        (.node 258 ⟨1, 8, some (.nilFunc), .scalar⟩
         (.leaf)
         (.leaf))
        (.leaf)))
      (.node 263 ⟨1, 8, some (.nilFunc), .scalar⟩
       (.node 262 ⟨1, 8, some (.nilFunc), .scalar⟩
        (.node 261 ⟨1, 8, some (.nilFunc), .scalar⟩
         (.leaf)
         (.leaf))
        (.leaf))
       (.node 264 ⟨1, 8, some (.nilFunc), .scalar⟩
        (.leaf)
        (.leaf))))
     (.node 270 ⟨1, 8, some (.nilFunc), .scalar⟩
      (.node 268 ⟨1, 8, some (.nilFunc), .scalar⟩
       (.node 267 ⟨1, 0, some (.tuple #[.int .i64 0, .int .i64 0]), .scalar⟩
        (.node 266 ⟨1, 8, some (.int .i64 0), .int .i64⟩
         (.leaf)
         (.leaf))
        (.leaf))
       (.node 269 ⟨1, 8, some (.nilFunc), .scalar⟩
        (.leaf)
        (.leaf)))
      (.node 273 ⟨1, 8, some (.nilFunc), .scalar⟩
       (.node 272 ⟨1, 8, some (.nilFunc), .scalar⟩
        (.node 271 ⟨1, 0, some (.tuple #[.int .i64 0, .bool false]), .scalar⟩
         (.leaf)
         (.leaf))
        (.leaf))
       (.node 274 ⟨1, 4, some (.int .u32 0), .int .u32⟩
        (.leaf)
        (.leaf)))))
    (.node 286 ⟨1, 8, some (.nilFunc), .scalar⟩
     (.node 281 ⟨1, 8, some (.nilFunc), .scalar⟩
      (.node 278 ⟨1, 8, some (.nilFunc), .scalar⟩
       (.node 277 ⟨1, 8, some (.nilFunc), .scalar⟩
        (.node 276 ⟨1, 0, some (.tuple #[.int .i64 0, .int .i64 0]), .scalar⟩
         (.leaf)
         (.leaf))
        (.leaf))
       (.node 280 ⟨1, 8, some (.nilFunc), .scalar⟩
        (.node 279 ⟨1, 8, some (.nilFunc), .scalar⟩
         (.leaf)
         (.leaf))
        (.leaf)))
      (.node 284 ⟨1, 8, some (.nilFunc), .scalar⟩
       (.node 283 ⟨1, 8, some (.nilFunc), .scalar⟩
        (.node 282 ⟨1, 8, some (.nilFunc), .scalar⟩
         (.leaf)
         (.leaf))
        (.leaf))
       (.node 285 ⟨1, 8, some (.int .u64 0), .int .u64⟩
        (.leaf)
        (.leaf))))
     (.node 291 ⟨1, 8, some (.nilFunc), .scalar⟩
      (.node 289 ⟨1, 8, some (.nilFunc), .scalar⟩
       (.node 288 ⟨1, 8, some (.pointer none), .ptr 3⟩
        (.node 287 ⟨1, 8, some (.nilFunc), .scalar⟩
         (.leaf)
         (.leaf))
        (.leaf))
       (.node 290 ⟨1, 8, some (.nilFunc), .scalar⟩
        (.leaf)
        (.leaf)))
      (.node 294 ⟨1, 8, some (.nilFunc), .scalar⟩
       (.node 293 ⟨1, 8, some (.nilFunc), .scalar⟩
        (.node 292 ⟨1, 8, some (.nilFunc), .scalar⟩
         (.leaf)
         (.leaf))
        (.leaf))
       (.node 295 ⟨1, 8, some (.nilFunc), .scalar⟩
        (.leaf)
        (.leaf))))))
   (.node 317 ⟨1, 8, some (.nilFunc), .scalar⟩
    (.node 307 ⟨1, 8, some (.nilFunc), .scalar⟩
     (.node 302 ⟨2, 16, some (.agg #[.int .i64 0, .int .i64 0]), .agg [(0, 3, 1), (1, 3, 1)] true⟩
      (.node 299 ⟨1, 24, some (.slice none 0 0), .sl 304⟩
       (.node 298 ⟨1, 8, some (.nilFunc), .scalar⟩
        (.node 297 ⟨2, 16, some (.agg #[.int .i64 0, .int .i64 0]), .agg [(0, 3, 1), (1, 3, 1)] true⟩
         (.leaf)
         (.leaf))
        (.leaf))
       (.node 301 ⟨2, 16, some (.agg #[.int .i64 0, .int .i64 0]), .agg [(0, 3, 1), (1, 3, 1)] true⟩
        (.node 300 ⟨1, 8, some (.nilFunc), .scalar⟩
         (.leaf)
         (.leaf))
        (.leaf)))
      (.node 305 ⟨1, 8, some (.nilFunc), .scalar⟩
       (.node 304 ⟨4, 32, some (.agg #[.int .i64 0, .int .i64 0, .int .i64 0, .int .i64 0]), .agg [(0, 302, 2), (2, 297, 2)] true⟩
        (.node 303 ⟨4, 32, some (.agg #[.int .i64 0, .int .i64 0, .int .i64 0, .int .i64 0]), .agg [(0, 302, 2), (2, 297, 2)] true⟩
         (.leaf)
         (.leaf))
        (.leaf))
       (.node 306 ⟨1, 8, some (.nilFunc), .scalar⟩
        (.leaf)
        (.leaf))))
     (.node 312 ⟨1, 8, some (.nilFunc), .scalar⟩
      (.node 310 ⟨1, 8, some (.nilFunc), .scalar⟩
       (.node 309 ⟨1, 8, some (.pointer none), .ptr 285⟩
        (.node 308 ⟨1, 8, some (.nilFunc), .scalar⟩
         (.leaf)
         (.leaf))
        (.leaf))
       (.node 311 ⟨1, 8, some (.nilFunc), .scalar⟩
        (.leaf)
        (.leaf)))
      (.node 315 ⟨5, 20, some (.agg #[.int .u32 0, .int .u32 0, .int .u32 0, .int .u32 0, .int .u32 0]), .arr 5 274⟩
       (.node 314 ⟨1, 8, some (.nilFunc), .scalar⟩
        (.node 313 ⟨1, 0, some (.tuple #[.int .u64 0, .int .u64 0]), .scalar⟩
         (.leaf)
         (.leaf))
        (.leaf))
       (.node 316 ⟨1, 8, some (.nilFunc), .scalar⟩
        (.leaf)
        (.leaf)))))
    (.node 328 ⟨0, 0, some (.agg #[]), .agg [(0, 326, 0)] false⟩
     (.node 323 ⟨1, 8, some (.nilFunc), .scalar⟩
      (.node 320 ⟨1, 8, some (.nilFunc), .scalar⟩
       (.node 319 ⟨1, 0, some (.tuple #[.int .u32 0, .int .u32 0]), .scalar⟩
        (.node 318 ⟨1, 8, some (.nilFunc), .scalar⟩
         (.leaf)
         (.leaf))
        (.leaf))
       (.node 322 ⟨1, 8, some (.nilFunc), .scalar⟩
        (.node 321 ⟨1, 0, some (.tuple #[.int .u64 0, .int .u64 0]), .scalar⟩
         (.leaf)
         (.leaf))
        (.leaf)))
      (.node 326 ⟨0, 0, some (.agg #[]), .arr 0 16⟩
       (.node 325 ⟨4, 40, some (.agg #[.pointer none, .pointer none, .pointer none, .string ByteArray.empty]), .agg [(0, 17, 1), (1, 17, 1), (2, 17, 1), (3, 9, 1)] false⟩
        (.node 324 ⟨4, 40, some (.agg #[.pointer none, .pointer none, .pointer none, .string ByteArray.empty]), .agg [(0, 17, 1), (1, 17, 1), (2, 17, 1), (3, 9, 1)] false⟩
         (.leaf)
         (.leaf))
        (.leaf))
       (.node 327 ⟨0, 0, some (.agg #[]), .agg [(0, 326, 0)] false⟩
        (.leaf)
        (.leaf))))
     (.node 333 ⟨1, 4, some (.int .i32 0), .int .i32⟩
      (.node 331 ⟨1, 8, some (.nilFunc), .scalar⟩
       (.node 330 ⟨1, 1, some (.int .u8 0), .int .u8⟩
        (.node 329 ⟨1, 1, some (.int .u8 0), .int .u8⟩
         (.leaf)
         (.leaf))
        (.leaf))
       (.node 332 ⟨1, 8, some (.pointer none), .ptr 5⟩
        (.leaf)
        (.leaf)))
      (.node 336 ⟨11, 48, some (.agg #[.int .u64 0, .int .u64 0, .int .u32 0, .int .u8 0, .int .u8 0, .int .u8 0, .int .u8 0, .nilFunc, .pointer none, .int .i32 0, .int .i32 0]), .agg [(0, 12, 1), (1, 12, 1), (2, 274, 1), (3, 329, 1), (4, 5, 1), (5, 5, 1), (6, 330, 1), (7, 331, 1), (8, 332, 1), (9, 333, 1), (10, 334, 1)] false⟩
       (.node 335 ⟨11, 48, some (.agg #[.int .u64 0, .int .u64 0, .int .u32 0, .int .u8 0, .int .u8 0, .int .u8 0, .int .u8 0, .nilFunc, .pointer none, .int .i32 0, .int .i32 0]), .agg [(0, 12, 1), (1, 12, 1), (2, 274, 1), (3, 329, 1), (4, 5, 1), (5, 5, 1), (6, 330, 1), (7, 331, 1), (8, 332, 1), (9, 333, 1), (10, 334, 1)] false⟩
        (.node 334 ⟨1, 4, some (.int .i32 0), .int .i32⟩
         (.leaf)
         (.leaf))
        (.leaf))
       (.node 337 ⟨1, 8, some (.pointer none), .scalar⟩
        (.leaf)
        (.leaf))))))))
theorem tbOK : TabOK Tryz.prog tb := tabOK_of (by kernel_rfl)
end Go.Cg
namespace Go.Cg
open Go.Proofs
def object (t : Ty) : Bool := !t.ref && (decide (0 < t.dims) || t.kind == 4 || t.kind == 5 || t.kind == 7 || t.kind == 8)
set_option maxHeartbeats 1000000 in
theorem Object_call (t : Ty) : ACall Tryz.prog 205 [tyPV t] (pb (object t)) := by
 refine acall_intro tbOK Tryz.func205 rfl (by kernel_rfl) Tryz.ntmps205 (by simp) _ rfl (fun hw gB hgB => ?_)
 repeat' (first | refine sA ?_ | refine sC (fun _ => ?_) (fun _ => ?_) | fail)
 all_goals (first | refine retq rfl ?_ | refine retn rfl ?_)
 all_goals (first | (simp_all [retPV, object]; done) | (simp_all [retPV, object]; omega))
def there (g : Img) (t : Int) : Bool := decide (0 ≤ t) && decide (t < g.types.length)
set_option maxHeartbeats 1000000 in
theorem There_call (g : Img) (t : Int) : ACall Tryz.prog 167 [imgPV g, pi t] (pb (there g t)) := by
 refine acall_intro tbOK Tryz.func167 rfl (by kernel_rfl) Tryz.ntmps167 (by simp) _ rfl (fun hw gB hgB => ?_)
 repeat' (first | refine sA ?_ | refine sC (fun _ => ?_) (fun _ => ?_) | fail)
 all_goals (first | refine retq rfl ?_ | refine retn rfl ?_)
 all_goals (first | (simp_all [retPV, there]; done) | (simp_all [retPV, there]; omega))
set_option maxHeartbeats 1000000 in
theorem there_call (g : Img) (t : Int) : ACall Tryz.prog 117 [imgPV g, pi t] (pb (there g t)) := by
 refine acall_intro tbOK Tryz.func117 rfl (by kernel_rfl) Tryz.ntmps117 (by simp) _ rfl (fun hw gB hgB => ?_)
 repeat' (first | refine sA ?_ | refine sC (fun _ => ?_) (fun _ => ?_) | fail)
 all_goals (first | refine retq rfl ?_ | refine retn rfl ?_)
 all_goals (first | (simp_all [retPV, there]; done) | (simp_all [retPV, there]; omega))
def bit (f k : Int) : Bool := f.tdiv k % 2 == 1
def plain (t : Ty) (k : Int) : Bool := t.kind == k && t.dims == 0 && !t.ref
set_option maxHeartbeats 1000000 in
theorem plain_call (t : Ty) (k : Int) : ACall Tryz.prog 247 [tyPV t, pi k] (pb (plain t k)) := by
 refine acall_intro tbOK Tryz.func247 rfl (by kernel_rfl) Tryz.ntmps247 (by simp) _ rfl (fun hw gB hgB => ?_)
 repeat' (first | refine sA ?_ | refine sC (fun _ => ?_) (fun _ => ?_) | fail)
 all_goals (first | refine retq rfl ?_ | refine retn rfl ?_)
 all_goals (first | (simp_all [retPV, plain]; done) | (simp_all [retPV, plain]; omega))
set_option maxHeartbeats 1000000 in
theorem fault_call : ACall Tryz.prog 249 [] (tyPV ⟨7, 0, 0, false⟩) := by
 refine acall_intro tbOK Tryz.func249 rfl (by kernel_rfl) Tryz.ntmps249 (by simp) _ rfl (fun hw gB hgB => ?_)
 repeat' (first | refine sA ?_ | refine sC (fun _ => ?_) (fun _ => ?_) | fail)
 exact retq rfl rfl
def nul (t : Ty) : Bool := t.kind == 8 || t.kind == 4
end Go.Cg
namespace Go.Cg
open Go.Proofs
theorem ints_len {l : List Int} (h : (ints l).lenOk) : l.length ≤ 9223372036854775807 := by
 simp [ints, PV.lenOk, maxLen] at h; exact h.1
theorem ints_get {l : List Int} {k : Nat} (h : k < l.length) : (l.map pi)[k]? = some (pi l[k]) := by simp [h]
theorem tys_get {l : List Ty} {k : Nat} (h : k < l.length) : (l.map tyPV)[k]? = some (tyPV l[k]) := by simp [h]
theorem take_mem_succ {α : Type} [DecidableEq α] {l : List α} {k : Nat} {n : α} (h : k < l.length) (hno : n ∉ l.take k) (hne : ¬ l[k] = n) : n ∉ l.take (k + 1) := by
 rw [List.take_succ_eq_append_getElem h]
 simp only [List.mem_append, List.mem_singleton, not_or]
 exact ⟨hno, fun e => hne e.symm⟩
set_option maxHeartbeats 1000000 in
theorem Has_call (l : List Int) (n : Int) : ACall Tryz.prog 112 [ints l, pi n] (pb (decide (n ∈ l))) := by
 refine acall_intro tbOK Tryz.func112 rfl (by kernel_rfl) Tryz.ntmps112 (by simp) _ rfl (fun hw gB hgB => ?_)
 have hl := ints_len hw.1
 repeat' (first | refine sA ?_ | refine sC (fun _ => ?_) (fun _ => ?_) | fail)
 refine aw_loop (fun k : Nat => [(0, .pv (ints l)), (1, .pv (pi n)), (5, .pv (pi k))]) (fun _ => []) (fun k => k ≤ l.length ∧ n ∉ l.take k) (fun k => l.length - k) 0 ⟨by simp, by simp⟩ (tS) tH ?_
 rintro k ⟨hk, hno⟩
 by_cases hlt : k < l.length
 ·have he := ints_get hlt
  repeat' (first | (refine shX ?_; first | refine qX he ?_) | refine sK ?_ | refine sC (fun _ => ?_) (fun _ => ?_) | fail)
  ·rename_i h
   refine retq rfl ?_
   have : n ∈ l := by have := List.getElem_mem hlt; simp at h; rwa [h] at this
   simp [retPV, this]
  ·rename_i h
   simp at h
   exact ⟨k + 1, ⟨by omega, take_mem_succ hlt hno h⟩, tD, tS, tH⟩
 ·repeat' (first | refine sK ?_ | refine sC (fun _ => ?_) (fun _ => ?_) | fail)
  refine retq rfl ?_
  have : n ∉ l := by rw [List.take_of_length_le (by omega)] at hno; exact hno
  simp [retPV, this]
def idx (l : List Int) (v : Int) : Int := if v ∈ l then (l.findIdx (· == v) : Nat) else -1
set_option maxHeartbeats 1000000 in
theorem Index_call (l : List Int) (n : Int) : ACall Tryz.prog 268 [ints l, pi n] (pi (idx l n)) := by
 refine acall_intro tbOK Tryz.func268 rfl (by kernel_rfl) Tryz.ntmps268 (by simp) _ rfl (fun hw gB hgB => ?_)
 have hl := ints_len hw.1
 repeat' (first | refine sA ?_ | refine sC (fun _ => ?_) (fun _ => ?_) | fail)
 refine aw_loop (fun k : Nat => [(0, .pv (ints l)), (1, .pv (pi n)), (7, .pv (pi l.length)), (8, .pv (pi k))]) (fun _ => []) (fun k => k ≤ l.length ∧ n ∉ l.take k) (fun k => l.length - k) 0 ⟨by simp, by simp⟩ (by repeat (first | exact sub_nil | refine sub_cons rfl ?_ | (refine sub_i rfl ?_ ?_; · simp))) tH ?_
 rintro k ⟨hk, hno⟩
 by_cases hlt : k < l.length
 ·have he := ints_get hlt
  repeat' (first | (refine shX ?_; first | refine qX he ?_) | refine sK ?_ | refine sC (fun _ => ?_) (fun _ => ?_) | fail)
  ·rename_i h
   refine retq rfl ?_
   simp at h
   have hm : n ∈ l := by have := List.getElem_mem hlt; rwa [← h] at this
   have hi : l.findIdx (· == n) = k := by
    rw [List.findIdx_eq hlt]
    refine ⟨by simp [h], fun j hj => ?_⟩
    simp only [beq_eq_false_iff_ne]
    intro e
    refine hno ?_
    rw [← e, List.mem_take_iff_getElem]
    exact ⟨j, by omega, rfl⟩
   simp [retPV, idx, hm, hi]
  ·rename_i h
   simp at h
   exact ⟨k + 1, ⟨by omega, take_mem_succ hlt hno (fun e => h e.symm)⟩, tD, tS, tH⟩
 ·repeat' (first | refine sK ?_ | refine sC (fun _ => ?_) (fun _ => ?_) | fail)
  refine retq rfl ?_
  have : n ∉ l := by rw [List.take_of_length_le (by omega)] at hno; exact hno
  simp [retPV, idx, this]
set_option maxHeartbeats 1000000 in
theorem Contains_call (l : List Int) (n : Int) : ACall Tryz.prog 227 [ints l, pi n] (pb (decide (n ∈ l))) := by
 refine acall_intro tbOK Tryz.func227 rfl (by kernel_rfl) Tryz.ntmps227 (by simp) _ rfl (fun hw gB hgB => ?_)
 repeat' (first | (refine shC ?_; first | refine qC (Index_call _ _) ?_) | refine sA ?_ | refine sC (fun _ => ?_) (fun _ => ?_) | fail)
 refine retq rfl ?_
 by_cases h : n ∈ l <;> simp [retPV, idx, h]
end Go.Cg
namespace Go.Cg
open Go.Proofs
theorem tys_len {l : List Ty} (h : (tys l).lenOk) : l.length ≤ 9223372036854775807 := by
 simp [tys, PV.lenOk, maxLen] at h; exact h.1
theorem take_eq_succ {α : Type} {a b : List α} {k : Nat} (ha : k < a.length) (hb : k < b.length) (h : a.take k = b.take k) (e : a[k] = b[k]) : a.take (k + 1) = b.take (k + 1) := by
 rw [List.take_succ_eq_append_getElem ha, List.take_succ_eq_append_getElem hb, h, e]
set_option maxHeartbeats 1000000 in
theorem SameTypes_call (a b : List Ty) : ACall Tryz.prog 56 [tys a, tys b] (pb (decide (a = b))) := by
 refine acall_intro tbOK Tryz.func56 rfl (by kernel_rfl) Tryz.ntmps56 (by simp) _ rfl (fun hw gB hgB => ?_)
 have hl := tys_len hw.1
 by_cases hlen : a.length = b.length
 ·repeat' (first | refine sK ?_ | refine sC (fun _ => ?_) (fun _ => ?_) | fail)
  refine aw_loop (fun k : Nat => [(0, .pv (tys a)), (1, .pv (tys b)), (5, .pv (pi k))]) (fun _ => []) (fun k => k ≤ a.length ∧ a.take k = b.take k) (fun k => a.length - k) 0 ⟨by simp, by simp⟩ (tS) tH ?_
  rintro k ⟨hk, hno⟩
  by_cases hlt : k < a.length
  ·have he := tys_get hlt
   have hltb : k < b.length := by omega
   have he' := tys_get hltb
   repeat' (first | (refine shX ?_; first | refine qX he ?_ | refine qX he' ?_) | refine sK ?_ | refine sC (fun _ => ?_) (fun _ => ?_) | fail)
   ·rename_i h
    refine retq rfl ?_
    have : a ≠ b := by
     rintro rfl
     simp at h
    simp [retPV, this]
   ·rename_i h
    have e : a[k] = b[k] := by
     simp only [Bool.not_eq_false'] at h
     rw [tyEq_iff] at h
     simpa using h
    exact ⟨k + 1, ⟨by omega, take_eq_succ hlt hltb hno e⟩, tD, tS, tH⟩
  ·repeat' (first | refine sK ?_ | refine sC (fun _ => ?_) (fun _ => ?_) | fail)
   refine retq rfl ?_
   rw [List.take_of_length_le (by omega), List.take_of_length_le (by omega)] at hno
   simp [retPV, hno]
 ·repeat' (first | refine sK ?_ | refine sC (fun _ => ?_) (fun _ => ?_) | fail)
  refine retq rfl ?_
  have : a ≠ b := by rintro rfl; exact hlen rfl
  simp [retPV, this]
def plainT (t : Ty) : Bool :=
 if decide (t.dims < 0) || decide (3 < t.dims) || decide (t.index < 0) then false
 else if t.kind == 1 then t.dims == 0 && !t.ref && t.index == 0
 else if t.kind == 2 || t.kind == 3 || t.kind == 4 then t.index == 0
 else if t.kind == 5 || t.kind == 6 then decide (t.index < 32)
 else if t.kind == 7 then decide (t.index ≤ 7)
 else false
set_option maxHeartbeats 1000000 in
theorem Plain_call (t : Ty) : ACall Tryz.prog 101 [tyPV t] (pb (plainT t)) := by
 refine acall_intro tbOK Tryz.func101 rfl (by kernel_rfl) Tryz.ntmps101 (by simp) _ rfl (fun hw gB hgB => ?_)
 repeat' (first | refine sA ?_ | refine sC (fun _ => ?_) (fun _ => ?_) | fail)
 all_goals (first | refine retq rfl ?_ | refine retn rfl ?_)
 all_goals (first | (simp_all [retPV, plainT]; done) | (simp_all [retPV, plainT]; omega))
def whereT (t : Ty) (place : Int) : Bool :=
 if !plainT t then false
 else if place == 1 then t.kind != 1 && !t.ref
 else if place == 2 then t.kind != 1
 else if place == 3 then !t.ref
 else true
set_option maxHeartbeats 1000000 in
theorem Where_call (t : Ty) (p : Int) : ACall Tryz.prog 176 [tyPV t, pi p] (pb (whereT t p)) := by
 refine acall_intro tbOK Tryz.func176 rfl (by kernel_rfl) Tryz.ntmps176 (by simp) _ rfl (fun hw gB hgB => ?_)
 repeat' (first | (refine shC ?_; first | refine qC (Plain_call _) ?_) | refine sA ?_ | refine sC (fun _ => ?_) (fun _ => ?_) | fail)
 all_goals (first | refine retq rfl ?_ | refine retn rfl ?_)
 all_goals (first | (simp_all [retPV, whereT]; done) | (simp_all [retPV, whereT]; omega))
def ownT (t : Ty) (n : Int) : Bool := (t.kind != 5 && t.kind != 6) || decide (t.index < n)
set_option maxHeartbeats 1000000 in
theorem Own_call (t : Ty) (n : Int) : ACall Tryz.prog 279 [tyPV t, pi n] (pb (ownT t n)) := by
 refine acall_intro tbOK Tryz.func279 rfl (by kernel_rfl) Tryz.ntmps279 (by simp) _ rfl (fun hw gB hgB => ?_)
 repeat' (first | refine sA ?_ | refine sC (fun _ => ?_) (fun _ => ?_) | fail)
 all_goals (first | refine retq rfl ?_ | refine retn rfl ?_)
 all_goals (first | (simp_all [retPV, ownT]; done) | (simp_all [retPV, ownT]; omega))
def mayT (t : Ty) (p n : Int) : Bool := whereT t p && ownT t n
set_option maxHeartbeats 1000000 in
theorem May_call (t : Ty) (p n : Int) : ACall Tryz.prog 252 [tyPV t, pi p, pi n] (pb (mayT t p n)) := by
 refine acall_intro tbOK Tryz.func252 rfl (by kernel_rfl) Tryz.ntmps252 (by simp) _ rfl (fun hw gB hgB => ?_)
 repeat' (first | (refine shC ?_; first | refine qC (Where_call _ _) ?_ | refine qC (Own_call _ _) ?_) | refine sA ?_ | refine sC (fun _ => ?_) (fun _ => ?_) | fail)
 all_goals (first | refine retq rfl ?_ | refine retn rfl ?_)
 all_goals (first | (simp_all [retPV, mayT]; done) | (simp_all [retPV, mayT]; omega))
end Go.Cg
namespace Go.Cg
theorem BL : (∀ b : Bool, (b && true) = b) ∧ (∀ b : Bool, (true && b) = b) ∧ (∀ b : Bool, (b && false) = false) ∧ (∀ b : Bool, (false && b) = false) ∧ (∀ b : Bool, (b || true) = true) ∧ (∀ b : Bool, (true || b) = true) ∧ (∀ b : Bool, (b || false) = b)
  ∧ (∀ b : Bool, (false || b) = b) ∧ ((!true) = false) ∧ ((!false) = true) := by simp
theorem drop_cons {α : Type} {l : List α} {k : Nat} (h : k < l.length) : l.drop k = l[k] :: l.drop (k + 1) := List.drop_eq_getElem_cons h
theorem drop_all {α : Type} {l : List α} {p : α → Bool} {k : Nat} (h : k < l.length) : (l.drop k).all p = (p l[k] && (l.drop (k + 1)).all p) := by rw [drop_cons h]; rfl
theorem drop_any {α : Type} {l : List α} {p : α → Bool} {k : Nat} (h : k < l.length) : (l.drop k).any p = (p l[k] || (l.drop (k + 1)).any p) := by rw [drop_cons h]; rfl
theorem drop_end {α : Type} {l : List α} {k : Nat} (h : l.length ≤ k) : l.drop k = [] := List.drop_eq_nil_of_le h
end Go.Cg
namespace Go.Cg
open Go.Proofs
def okCh (b : UInt8) : Bool := !(decide ((b.toNat : Int) < 33) || decide (126 < (b.toNat : Int)))
def fineS (s : ByteArray) : Bool := s.data.toList.all okCh && (decide (0 < (s.size : Int)) && decide ((s.size : Int) ≤ 24))
theorem str_len {s : ByteArray} (h : (ps s).lenOk) : s.size ≤ 9223372036854775807 := by
 simp [PV.lenOk, baseOk, maxLen] at h; exact of_decide_eq_true h
theorem str_get {s : ByteArray} {k : Nat} (h : k < s.size) : s[((k : Int)).toNat]? = some (s.data.toList[k]'(by simpa using h)) := by
 simp only [Int.toNat_natCast]
 rw [getElem?_pos s k h]
 simp [ByteArray.getElem_eq_getElem_data]
set_option maxHeartbeats 1000000 in
theorem Fine_call (s : ByteArray) : ACall Tryz.prog 251 [ps s] (pb (fineS s)) := by
 refine acall_intro tbOK Tryz.func251 rfl (by kernel_rfl) Tryz.ntmps251 (by simp) _ rfl (fun hw gB hgB => ?_)
 have hl := str_len hw.1
 repeat' (first | refine sA ?_ | refine sC (fun _ => ?_) (fun _ => ?_) | fail)
 refine aw_loop (fun k : Nat => [(0, .pv (ps s)), (3, .pv (pi k))]) (fun _ => []) (fun k => k ≤ s.size ∧ s.data.toList.all okCh = (s.data.toList.drop k).all okCh) (fun k => s.size - k) 0 ⟨by simp, by simp⟩ (tS) tH ?_
 rintro k ⟨hk, hr⟩
 by_cases hlt : k < s.size
 ·have hb := str_get hlt
  rw [drop_all (by simpa using hlt)] at hr
  repeat' (first | (refine shI ?_; first | refine ao_q rfl (q_strix tbOK rfl rfl rfl rfl (by omega) hb) rfl rfl ?_ | refine AD.step _ _ _ _ _ rfl (q_strix tbOK rfl rfl rfl rfl (by omega) hb) rfl rfl ?_) | refine sK ?_ | refine sC (fun _ => ?_) (fun _ => ?_) | fail)
  all_goals first
   | exact ⟨k + 1, ⟨by omega, by simp_all [okCh]⟩, tD, tS, tH⟩
   | (refine retq rfl ?_; simp_all [retPV, fineS, okCh]; done)
 ·rw [drop_end (by simp; omega)] at hr
  repeat' (first | refine sK ?_ | refine sC (fun _ => ?_) (fun _ => ?_) | fail)
  all_goals (refine retq rfl ?_; simp_all [retPV, fineS]; done)
def most06 (o : Int) : Int × Int :=
 if o == 1 then (2147483647, -2147483648) else if o == 2 then (9223372036854775807, -9223372036854775808) else if o == 3 then (11, 0) else if o == 4 then (6, 0) else if o == 5 then (159, 0)
 else if o == 6 || o == 7 then (63, 0) else (0, 0)
set_option maxHeartbeats 1000000 in
theorem Most_call (o : Int) : ACall Tryz.prog 319 [pi o] (.tup [pi (most06 o).1, pi (most06 o).2]) := by
 refine acall_intro tbOK Tryz.func319 rfl (by kernel_rfl) Tryz.ntmps319 (by simp) _ rfl (fun hw gB hgB => ?_)
 repeat' (first | refine sA ?_ | refine sC (fun _ => ?_) (fun _ => ?_) | fail)
 all_goals (refine retq rfl ?_)
 all_goals (simp_all [retPV, most06])
end Go.Cg
namespace Go.Cg
open Go.Proofs
def names06 : ByteArray := { data := ((([110, 111, 112, 32, 108, 100, 97, 114, 103, 32, 115, 116, 97, 114, 103, 32, 108, 100, 97, 114, 103, 97, 32, 108, 100, 108, 111, 99, 32, 115, 116, 108, 111, 99, 32, 108, 100, 108, 111, 99, 97, 32, 108, 100, 99, 52, 32, 108, 100, 99, 56, 32, 108, 100].append [110, 117, 108, 108, 32, 100, 117, 112, 32, 112, 111, 112, 32, 97, 100, 100, 32, 115, 117, 98, 32, 109, 117, 108, 32, 100, 105, 118, 32, 114, 101, 109, 32, 97, 110, 100, 32, 111, 114, 32, 120, 111, 114, 32, 115, 104, 108, 32, 115, 104, 114, 32, 110, 101]).append ([103, 32, 110, 111, 116, 32, 97, 100, 100, 111, 118, 102, 32, 115, 117, 98, 111, 118, 102, 32, 109, 117, 108, 111, 118, 102, 32, 99, 111, 110, 118, 52, 32, 99, 111, 110, 118, 56, 32, 99, 111, 110, 118, 111, 118, 102, 52, 32, 99, 101, 113, 32, 99, 103].append [116, 32, 99, 108, 116, 32, 98, 114, 32, 98, 114, 116, 114, 117, 101, 32, 98, 114, 102, 97, 108, 115, 101, 32, 98, 101, 113, 32, 98, 103, 101, 32, 98, 103, 116, 32, 98, 108, 101, 32, 98, 108, 116, 32, 98, 110, 101, 32, 99, 97, 108, 108, 32, 99])).append (([97, 108, 108, 118, 105, 114, 116, 32, 110, 101, 119, 111, 98, 106, 32, 114, 101, 116, 32, 116, 97, 105, 108, 32, 108, 100, 102, 108, 100, 32, 115, 116, 102, 108, 100, 32, 108, 100, 102, 108, 100, 97, 32, 108, 100, 115, 102, 108, 100, 32, 115, 116, 115, 102].append [108, 100, 32, 108, 100, 115, 102, 108, 100, 97, 32, 108, 100, 111, 98, 106, 32, 115, 116, 111, 98, 106, 32, 105, 110, 105, 116, 111, 98, 106, 32, 110, 101, 119, 97, 114, 114, 32, 108, 100, 108, 101, 110, 32, 108, 100, 101, 108, 101, 109, 32, 115, 116, 101]).append ([108, 101, 109, 32, 108, 100, 101, 108, 101, 109, 97, 32, 98, 111, 120, 32, 117, 110, 98, 111, 120, 32, 117, 110, 98, 111, 120, 97, 110, 121, 32, 99, 97, 115, 116, 99, 108, 97, 115, 115, 32, 105, 115, 105, 110, 115, 116, 32, 108, 100, 102, 116, 110, 32].append [110, 101, 119, 100, 101, 108, 32, 116, 104, 114, 111, 119, 32, 114, 101, 116, 104, 114, 111, 119, 32, 108, 101, 97, 118, 101, 32, 101, 110, 100, 102, 105, 110, 97, 108, 108, 121, 32, 101, 110, 100, 102, 105, 108, 116, 101, 114, 32, 105, 110, 32, 111, 117, 116, 32]))).toArray }
def operands06 : ByteArray := { data := ([48, 52, 52, 52, 51, 51, 51, 49, 50, 48, 48, 48, 48, 48, 48, 48, 48, 48, 48, 48, 48, 48, 48, 48, 48, 48, 48, 48, 48, 48, 48, 48, 48, 53, 53, 53, 53].append [53, 53, 53, 53, 53, 54, 54, 54, 48, 48, 55, 55, 55, 55, 55, 55, 56, 56, 56, 56, 48, 56, 56, 56, 56, 56, 56, 56, 56, 54, 56, 48, 48, 53, 48, 48, 48, 48]).toArray }
def flows06 : ByteArray := { data := ([48, 48, 48, 48, 48, 48, 48, 48, 48, 48, 48, 48, 48, 48, 48, 48, 48, 48, 48, 48, 48, 48, 48, 48, 48, 48, 48, 48, 48, 48, 48, 48, 48, 49, 50, 50, 50].append [50, 50, 50, 50, 50, 48, 48, 48, 51, 48, 48, 48, 48, 48, 48, 48, 48, 48, 48, 48, 48, 48, 48, 48, 48, 48, 48, 48, 48, 48, 48, 51, 51, 52, 53, 53, 48, 48]).toArray }
theorem names06_size : names06.size = 433 := by kernel_rfl
theorem operands06_size : operands06.size = 75 := by kernel_rfl
theorem flows06_size : flows06.size = 75 := by kernel_rfl
def nameGo (op : Int) : Nat → Nat → Nat → Nat → ByteArray
 | 0, _, _, _ => ByteArray.empty
 | m + 1, i, n, from_ => if i < 433 then
   (if ((names06.data.toList.getD i 0).toNat : Int) == 32 then (if (n : Int) == op then names06.extract from_ i else nameGo op m (i + 1) (n + 1) (i + 1)) else nameGo op m (i + 1) n from_) else ByteArray.empty
def name06 (op : Int) : ByteArray := nameGo op 434 0 1 0
set_option maxRecDepth 100000 in
theorem Name_call (op : Int) : ACall Tryz.prog 241 [pi op] (ps (name06 op)) := by
 refine acall_intro tbOK Tryz.func241 rfl (by kernel_rfl) Tryz.ntmps241 (by simp) _ rfl (fun hw gB hgB => ?_)
 repeat' (first | refine sA ?_ | refine sC (fun _ => ?_) (fun _ => ?_) | fail)
 refine aw_loop (fun x : Nat × Nat × Nat => [(0, .pv (pi op)), (5, .pv (pi x.1)), (3, .pv (pi x.2.1)), (4, .pv (pi x.2.2))]) (fun _ => []) (fun x => x.1 ≤ 433 ∧ x.2.1 ≤ x.1 + 1 ∧ x.2.2 ≤ x.1 ∧ nameGo op (434 - x.1) x.1 x.2.1 x.2.2 = name06 op) (fun x => 433 - x.1) (0, 1, 0) ⟨by simp, by simp, by simp, rfl⟩ (tS) tH ?_
 rintro ⟨k, n, f⟩ ⟨hk, hn, hf, hr⟩
 simp only at hk hn hf hr
 rw [show 434 - k = (433 - k) + 1 by omega, nameGo] at hr
 by_cases hlt : k < 433
 ·have hsz : k < names06.size := by rw [names06_size]; exact hlt
  have hb := str_get hsz
  have hg : names06.data.toList.getD k 0 = names06.data.toList[k]'(by simpa using hsz) := by rw [List.getD_eq_getElem?_getD, List.getElem?_eq_getElem (by simpa using hsz)]; rfl
  rw [if_pos hlt, hg] at hr
  generalize names06.data.toList[k]'(by simpa using hsz) = b at hb hr
  clear hg
  repeat' (first | refine ao_q rfl (q_slice_str (s := names06) (l := f) (h := k) tbOK rfl rfl rfl rfl rfl (by omega) (by omega) (by rw [names06_size]; omega)) rfl rfl ?_ | (refine shI ?_; first | refine ao_q rfl (q_strix tbOK rfl rfl rfl rfl (by omega) hb) rfl rfl ?_ | refine AD.step _ _ _ _ _ rfl (q_strix tbOK rfl rfl rfl rfl (by omega) hb) rfl rfl ?_) | refine sK ?_ | refine sC (fun _ => ?_) (fun _ => ?_) | fail)
  ·refine retq rfl ?_; simp_all [retPV]
  ·have hr2 : nameGo op (433 - k) (k + 1) (n + 1) (k + 1) = name06 op := by simp_all
   exact ⟨(k + 1, n + 1, k + 1), ⟨by simp; omega, by simp; omega, by simp, by simp only; rw [show 434 - (k + 1) = 433 - k by omega]; exact hr2⟩, tD, tS, tH⟩
  ·have hr2 : nameGo op (433 - k) (k + 1) n f = name06 op := by simp_all
   exact ⟨(k + 1, n, f), ⟨by simp; omega, by simp; omega, by simp; omega, by simp only; rw [show 434 - (k + 1) = 433 - k by omega]; exact hr2⟩, tD, tS, tH⟩
 ·rw [if_neg hlt] at hr
  repeat' (first | refine sK ?_ | refine sC (fun _ => ?_) (fun _ => ?_) | fail)
  rw [← hr]
  exact retq rfl rfl
def digit (s : ByteArray) (op : Int) : Int := IntKind.i64.wrap (IntKind.u8.wrap (((s.data.toList.getD (op - 1).toNat 0).toNat : Int) - 48))
def operand06 (op : Int) : Int := digit operands06 op
def flow06 (op : Int) : Int := digit flows06 op
def infoPV (s : ByteArray) (o f : Int) : PV := .agg [ps s, pi o, pi f]
set_option maxHeartbeats 1000000 in
theorem OfBad_call (op : Int) (h : op < 1 ∨ 75 < op) : ACall Tryz.prog 189 [pi op] (.tup [infoPV ByteArray.empty 0 0, pi 3]) := by
 refine acall_intro tbOK Tryz.func189 rfl (by kernel_rfl) Tryz.ntmps189 (by simp) _ rfl (fun hw gB hgB => ?_)
 by_cases h1 : op < 1
 ·repeat' (first | refine sK ?_ | refine sC (fun _ => ?_) (fun _ => ?_) | fail)
  all_goals exact retq rfl rfl
 ·have h2 : 75 < op := by omega
  repeat' (first | refine sK ?_ | refine sC (fun _ => ?_) (fun _ => ?_) | fail)
  all_goals exact retq rfl rfl
set_option maxHeartbeats 1000000 in
theorem Of_call (op : Int) (h1 : 1 ≤ op) (h2 : op ≤ 75) : ACall Tryz.prog 189 [pi op] (.tup [infoPV (name06 op) (operand06 op) (flow06 op), pi 0]) := by
 refine acall_intro tbOK Tryz.func189 rfl (by kernel_rfl) Tryz.ntmps189 (by simp) _ rfl (fun hw gB hgB => ?_)
 have hk1 : (op - 1).toNat < operands06.size := by rw [operands06_size]; omega
 have hk2 : (op - 1).toNat < flows06.size := by rw [flows06_size]; omega
 have hw1 : IntKind.i64.wrap (op - 1) = (((op - 1).toNat : Nat) : Int) := by rw [wrap_in (by omega) (by omega)]; omega
 have hb1 := str_get hk1
 have hb2 := str_get hk2
 rw [← hw1] at hb1 hb2
 repeat' (first | refine aw_draw_tail 13 (by kernel_rfl) (by kernel_rfl) (by kernel_rfl) (by decide) ?_ | (refine shC ?_; first | refine qC (Name_call op) ?_) | (refine shI ?_; first | refine ao_q rfl (q_strix tbOK rfl rfl rfl rfl (by omega) hb1) rfl rfl ?_ | refine AD.step _ _ _ _ _ rfl (q_strix tbOK rfl rfl rfl rfl (by omega) hb1) rfl rfl ?_ | refine ao_q rfl (q_strix tbOK rfl rfl rfl rfl (by omega) hb2) rfl rfl ?_ | refine AD.step _ _ _ _ _ rfl (q_strix tbOK rfl rfl rfl rfl (by omega) hb2) rfl rfl ?_) | refine sK ?_ | refine sC (fun _ => ?_) (fun _ => ?_) | fail)
 refine retq rfl ?_
 have e1 : ∀ (s : ByteArray) (h : (op - 1).toNat < s.data.toList.length), s.data.toList.getD (op - 1).toNat 0 = s.data.toList[(op - 1).toNat] := fun s h => by rw [List.getD_eq_getElem?_getD, List.getElem?_eq_getElem h]; rfl
 rw [operand06, flow06, digit, digit, e1 _ (by simpa using hk1), e1 _ (by simpa using hk2)]
 rfl
def ty0 : Ty := ⟨0, 0, 0, false⟩
def fits06 (x : Ins) : Int :=
 if x.op < 1 ∨ 75 < x.op then 3
 else if (most06 (operand06 x.op)).1 < x.arg ∨ x.arg < (most06 (operand06 x.op)).2 then 17
 else if operand06 x.op ≠ 8 ∧ x.t ≠ ty0 then 17
 else if operand06 x.op = 8 ∧ whereT x.t 1 = false then 17
 else 0
set_option maxHeartbeats 1000000 in
theorem Fits06_call (x : Ins) : ACall Tryz.prog 292 [insPV x] (pi (fits06 x)) := by
 refine acall_intro tbOK Tryz.func292 rfl (by kernel_rfl) Tryz.ntmps292 (by simp) _ rfl (fun hw gB hgB => ?_)
 by_cases hop : x.op < 1 ∨ 75 < x.op
 ·repeat' (first | (refine shC ?_; first | refine qC (OfBad_call _ hop) ?_) | refine sA ?_ | refine sC (fun _ => ?_) (fun _ => ?_) | fail)
  exact retq rfl (by simp [retPV, fits06, hop])
 ·have hty := tyEq_iff x.t ty0
  simp only [ty0] at hty
  repeat' (first | (refine shC ?_; first | refine ao_q rfl (q_call rfl rfl (Of_call _ (by omega) (by omega))) rfl rfl ?_ | refine AD.step _ _ _ _ _ rfl (q_call rfl rfl (Of_call _ (by omega) (by omega))) rfl rfl ?_ | refine qC (Most_call _) ?_ | refine qC (Where_call _ _) ?_) | refine sA ?_ | refine sC (fun _ => ?_) (fun _ => ?_) | fail)
  all_goals refine retq rfl ?_
  all_goals simp only [fits06, ty0, if_neg hop]
  all_goals simp_all [retPV]
  all_goals (rename_i h)
  ·exact of_decide_eq_false h
  ·rw [if_neg (by omega), if_pos (of_decide_eq_true h)]
end Go.Cg
namespace Go.Cg
open Go.Proofs
def bounds (c : Cl) (part : Int) : Int × Int :=
 if part == 1 then (c.tf, c.tt) else if part == 2 then (c.hf, c.ht) else if c.kind == 2 then (c.filter, c.hf) else (0, 0)
set_option maxHeartbeats 1000000 in
theorem Bounds_call (c : Cl) (p : Int) : ACall Tryz.prog 354 [clPV c, pi p] (.tup [pi (bounds c p).1, pi (bounds c p).2]) := by
 refine acall_intro tbOK Tryz.func354 rfl (by kernel_rfl) Tryz.ntmps354 (by simp) _ rfl (fun hw gB hgB => ?_)
 repeat' (first | refine sA ?_ | refine sC (fun _ => ?_) (fun _ => ?_) | fail)
 all_goals (refine retq rfl ?_)
 all_goals (simp_all [bounds, retPV])
def meet (a : Cl) (p : Int) (b : Cl) (q : Int) : Bool :=
 decide ((bounds a p).1 < (bounds b q).2) && decide ((bounds b q).1 < (bounds a p).2) && decide ((bounds a p).1 < (bounds a p).2) && decide ((bounds b q).1 < (bounds b q).2)
set_option maxHeartbeats 1000000 in
theorem meet_call (a : Cl) (p : Int) (b : Cl) (q : Int) : ACall Tryz.prog 353 [clPV a, pi p, clPV b, pi q] (pb (meet a p b q)) := by
 refine acall_intro tbOK Tryz.func353 rfl (by kernel_rfl) Tryz.ntmps353 (by simp) _ rfl (fun hw gB hgB => ?_)
 repeat' (first | (refine shC ?_; first | refine qC (Bounds_call a p) ?_ | refine qC (Bounds_call b q) ?_) | refine sA ?_ | refine sC (fun _ => ?_) (fun _ => ?_) | fail)
 all_goals (first | refine retq rfl ?_ | refine retn rfl ?_)
 all_goals (first | (simp_all [retPV, meet]; done) | (simp_all [retPV, meet]; omega))
def within (a : Cl) (p : Int) (b : Cl) (q : Int) : Bool :=
 if (bounds a p).1 == 0 && (bounds a p).2 == 0 then true
 else decide ((bounds b q).1 ≤ (bounds a p).1) && decide ((bounds a p).2 ≤ (bounds b q).2) && (decide ((bounds b q).1 < (bounds a p).1) || decide ((bounds a p).2 < (bounds b q).2))
set_option maxHeartbeats 1000000 in
theorem within_call (a : Cl) (p : Int) (b : Cl) (q : Int) : ACall Tryz.prog 355 [clPV a, pi p, clPV b, pi q] (pb (within a p b q)) := by
 refine acall_intro tbOK Tryz.func355 rfl (by kernel_rfl) Tryz.ntmps355 (by simp) _ rfl (fun hw gB hgB => ?_)
 repeat' (first | (refine shC ?_; first | refine qC (Bounds_call a p) ?_ | refine qC (Bounds_call b q) ?_) | refine sA ?_ | refine sC (fun _ => ?_) (fun _ => ?_) | fail)
 all_goals (first | refine retq rfl ?_ | refine retn rfl ?_)
 all_goals (first | (simp_all [retPV, within]; done) | (simp_all [retPV, within]; omega))
end Go.Cg
