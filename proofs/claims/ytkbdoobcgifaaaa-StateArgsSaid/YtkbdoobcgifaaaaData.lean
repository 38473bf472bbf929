/- The data of the program's types. -/
import Derived.Test.YtkbdoobcgifaaaaSlices
namespace Go.Cg

structure Ty where
  kind : Int
  index : Int
  dims : Int
  ref : Bool
  deriving DecidableEq, Inhabited

structure TD where
  name : ByteArray
  flags : Int
  ext : Int
  faces : List Int
  deriving Inhabited

structure Fd where
  name : ByteArray
  owner : Int
  ty : Ty
  static : Bool
  deriving Inhabited

structure Ins where
  op : Int
  arg : Int
  t : Ty
  deriving Inhabited, DecidableEq

structure Cl where
  kind : Int
  tf : Int
  tt : Int
  hf : Int
  ht : Int
  filter : Int
  t : Ty
  deriving Inhabited, DecidableEq

structure Me where
  name : ByteArray
  owner : Int
  flags : Int
  params : List Ty
  ret : Ty
  locals : List Ty
  max : Int
  code : List Ins
  clauses : List Cl
  deriving Inhabited

structure Img where
  types : List TD
  fields : List Fd
  methods : List Me
  entry : Int
  deriving Inhabited

abbrev pi (n : Int) : PV := .base (.int .i64 n)
abbrev pb (b : Bool) : PV := .base (.bool b)
abbrev ps (s : ByteArray) : PV := .base (.string s)
def ints (l : List Int) : PV := .slc 1 (l.map pi) false
def tyPV (t : Ty) : PV := .agg [pi t.kind, pi t.index, pi t.dims, pb t.ref]
def tys (l : List Ty) : PV := .slc 4 (l.map tyPV) false
def tdPV (t : TD) : PV := .agg [ps t.name, pi t.flags, pi t.ext, ints t.faces]
def fdPV (f : Fd) : PV := .agg [ps f.name, pi f.owner, pi f.ty.kind, pi f.ty.index, pi f.ty.dims, pb f.ty.ref, pb f.static]
def insPV (x : Ins) : PV := .agg [pi x.op, pi x.arg, pi x.t.kind, pi x.t.index, pi x.t.dims, pb x.t.ref]
def clPV (c : Cl) : PV := .agg [pi c.kind, pi c.tf, pi c.tt, pi c.hf, pi c.ht, pi c.filter, pi c.t.kind, pi c.t.index, pi c.t.dims, pb c.t.ref]
def mePV (m : Me) : PV := .agg [ps m.name, pi m.owner, pi m.flags, tys m.params, pi m.ret.kind, pi m.ret.index, pi m.ret.dims, pb m.ret.ref, tys m.locals, pi m.max, .slc 6 (m.code.map insPV) false, .slc 10 (m.clauses.map clPV) false]
def imgPV (g : Img) : PV := .agg [.slc 4 (g.types.map tdPV) false, .slc 7 (g.fields.map fdPV) false, .slc 12 (g.methods.map mePV) false, pi g.entry]

theorem wrap_in {a : Int} (h1 : -9223372036854775808 ≤ a) (h2 : a ≤ 9223372036854775807) : IntKind.i64.wrap a = a := by
  unfold IntKind.wrap
  simp only [IntKind.bits, IntKind.signed]
  simp
  split <;> omega
theorem sub_i {env env' : Env} {t : Nat} {k : IntKind} {a b : Int} (h : env.get t = some (.pv (.base (.int k a)))) (e : a = b) (hs : Sub env env') : Sub env ((t, .pv (.base (.int k b))) :: env') := sub_cons (by rw [h, e]) hs
theorem sub_v {env env' : Env} {t : Nat} {a b : AV} (h : env.get t = some a) (e : a = b) (hs : Sub env env') : Sub env ((t, b) :: env') := sub_cons (by rw [h, e]) hs
theorem aw_condT {P : Program} {n : Nat} {g : Base} {x y : Code} {env : Env} {H : HEnv} {QQ : QC} {t : Nat} {b : Bool} (hc : env.get t = some (.pv (.base (.bool b)))) (hb : b = true) (h : AW P n g x env H QQ) : AW P n g (.cond (.tmp t) x y) env H QQ := by subst hb; exact aw_cond_true hc h
theorem aw_condF {P : Program} {n : Nat} {g : Base} {x y : Code} {env : Env} {H : HEnv} {QQ : QC} {t : Nat} {b : Bool} (hc : env.get t = some (.pv (.base (.bool b)))) (hb : b = false) (h : AW P n g y env H QQ) : AW P n g (.cond (.tmp t) x y) env H QQ := by subst hb; exact aw_cond_false hc h
theorem ao_caseB {P : Program} {n : Nat} {g : Base} {ops l : List Oper} {Q : Env → HEnv → Prop} {o : Oper} {env : Env} {H : HEnv} {t : Nat} {b : Bool} (c : Bool) (_ : guardVar ops o = some t) (hb : env.get t = some (.pv (.base (.bool b)))) (hc : b = c)
    (h : AO P n g ops.toArray (o :: l) ((t, .pv (.base (.bool c))) :: env) H Q) : AO P n g ops.toArray (o :: l) env H Q := ⟨fun a w hi => h.go a w (inv_bool hi hb hc)⟩
theorem ad_caseB {P : Program} {n : Nat} {g : Base} {H : HEnv} {ops l : List Oper} {Q : Env → Prop} {o : Oper} {t : Nat} {env : Env} {b : Bool} (c : Bool) (_ : guardVar ops o = some t) (hb : env.get t = some (.pv (.base (.bool b)))) (hc : b = c)
    (h : AD P n g H ops Q (o :: l) ((t, .pv (.base (.bool c))) :: env)) : AD P n g H ops Q (o :: l) env := by
  subst hc
  refine .case _ _ _ _ hb (fun e => ?_) (fun e => ?_) <;> (subst e; exact h)

theorem ao_sh_call {P : Program} {n : Nat} {g : Base} {ops : Array Oper} {rest : List Oper} {env : Env} {H : HEnv} {Q : Env → HEnv → Prop} {d : Option Tmp} {ty : TypeId} {po : String} {af : Array Edge} {gu : Option (Nat × Bool)} {f : Operand} {xs : Array Operand} {ts : Array TypeId} (h : AO P n g ops (⟨d, .call ⟨.value f, xs, ts⟩, ty, po, af, gu⟩ :: rest) env H Q) : AO P n g ops (⟨d, .call ⟨.value f, xs, ts⟩, ty, po, af, gu⟩ :: rest) env H Q := h
theorem ad_sh_call {P : Program} {n : Nat} {g : Base} {ops rest : List Oper} {env : Env} {H : HEnv} {Q : Env → Prop} {d : Option Tmp} {ty : TypeId} {po : String} {af : Array Edge} {gu : Option (Nat × Bool)} {f : Operand} {xs : Array Operand} {ts : Array TypeId} (h : AD P n g H ops Q (⟨d, .call ⟨.value f, xs, ts⟩, ty, po, af, gu⟩ :: rest) env) : AD P n g H ops Q (⟨d, .call ⟨.value f, xs, ts⟩, ty, po, af, gu⟩ :: rest) env := h
theorem ao_sh_bi {P : Program} {n : Nat} {g : Base} {ops : Array Oper} {rest : List Oper} {env : Env} {H : HEnv} {Q : Env → HEnv → Prop} {d : Option Tmp} {ty : TypeId} {po : String} {af : Array Edge} {gu : Option (Nat × Bool)} {b : Builtin} {xs : Array Operand} {ts : Array TypeId} (h : AO P n g ops (⟨d, .call ⟨.builtin b, xs, ts⟩, ty, po, af, gu⟩ :: rest) env H Q) : AO P n g ops (⟨d, .call ⟨.builtin b, xs, ts⟩, ty, po, af, gu⟩ :: rest) env H Q := h
theorem ad_sh_bi {P : Program} {n : Nat} {g : Base} {ops rest : List Oper} {env : Env} {H : HEnv} {Q : Env → Prop} {d : Option Tmp} {ty : TypeId} {po : String} {af : Array Edge} {gu : Option (Nat × Bool)} {b : Builtin} {xs : Array Operand} {ts : Array TypeId} (h : AD P n g H ops Q (⟨d, .call ⟨.builtin b, xs, ts⟩, ty, po, af, gu⟩ :: rest) env) : AD P n g H ops Q (⟨d, .call ⟨.builtin b, xs, ts⟩, ty, po, af, gu⟩ :: rest) env := h
theorem ao_sh_ix {P : Program} {n : Nat} {g : Base} {ops : Array Oper} {rest : List Oper} {env : Env} {H : HEnv} {Q : Env → HEnv → Prop} {d : Option Tmp} {ty : TypeId} {po : String} {af : Array Edge} {gu : Option (Nat × Bool)} {u : TypeId} {x i : Operand} (h : AO P n g ops (⟨d, .indexAddr u x i, ty, po, af, gu⟩ :: rest) env H Q) : AO P n g ops (⟨d, .indexAddr u x i, ty, po, af, gu⟩ :: rest) env H Q := h
theorem ad_sh_ix {P : Program} {n : Nat} {g : Base} {ops rest : List Oper} {env : Env} {H : HEnv} {Q : Env → Prop} {d : Option Tmp} {ty : TypeId} {po : String} {af : Array Edge} {gu : Option (Nat × Bool)} {u : TypeId} {x i : Operand} (h : AD P n g H ops Q (⟨d, .indexAddr u x i, ty, po, af, gu⟩ :: rest) env) : AD P n g H ops Q (⟨d, .indexAddr u x i, ty, po, af, gu⟩ :: rest) env := h
theorem ao_sh_index {P : Program} {n : Nat} {g : Base} {ops : Array Oper} {rest : List Oper} {env : Env} {H : HEnv} {Q : Env → HEnv → Prop} {d : Option Tmp} {ty : TypeId} {po : String} {af : Array Edge} {gu : Option (Nat × Bool)} {u : TypeId} {x i : Operand} (h : AO P n g ops (⟨d, .index u x i, ty, po, af, gu⟩ :: rest) env H Q) : AO P n g ops (⟨d, .index u x i, ty, po, af, gu⟩ :: rest) env H Q := h
theorem ad_sh_index {P : Program} {n : Nat} {g : Base} {ops rest : List Oper} {env : Env} {H : HEnv} {Q : Env → Prop} {d : Option Tmp} {ty : TypeId} {po : String} {af : Array Edge} {gu : Option (Nat × Bool)} {u : TypeId} {x i : Operand} (h : AD P n g H ops Q (⟨d, .index u x i, ty, po, af, gu⟩ :: rest) env) : AD P n g H ops Q (⟨d, .index u x i, ty, po, af, gu⟩ :: rest) env := h
theorem ao_sh_slice {P : Program} {n : Nat} {g : Base} {ops : Array Oper} {rest : List Oper} {env : Env} {H : HEnv} {Q : Env → HEnv → Prop} {d : Option Tmp} {ty : TypeId} {po : String} {af : Array Edge} {gu : Option (Nat × Bool)} {u : TypeId} {x : Operand} {i j k : Option Operand} (h : AO P n g ops (⟨d, .slice u x i j k, ty, po, af, gu⟩ :: rest) env H Q) : AO P n g ops (⟨d, .slice u x i j k, ty, po, af, gu⟩ :: rest) env H Q := h
theorem ad_sh_slice {P : Program} {n : Nat} {g : Base} {ops rest : List Oper} {env : Env} {H : HEnv} {Q : Env → Prop} {d : Option Tmp} {ty : TypeId} {po : String} {af : Array Edge} {gu : Option (Nat × Bool)} {u : TypeId} {x : Operand} {i j k : Option Operand} (h : AD P n g H ops Q (⟨d, .slice u x i j k, ty, po, af, gu⟩ :: rest) env) : AD P n g H ops Q (⟨d, .slice u x i j k, ty, po, af, gu⟩ :: rest) env := h
theorem ao_sh_store {P : Program} {n : Nat} {g : Base} {ops : Array Oper} {rest : List Oper} {env : Env} {H : HEnv} {Q : Env → HEnv → Prop} {d : Option Tmp} {ty : TypeId} {po : String} {af : Array Edge} {gu : Option (Nat × Bool)} {u : TypeId} {x y : Operand} (h : AO P n g ops (⟨d, .store u x y, ty, po, af, gu⟩ :: rest) env H Q) : AO P n g ops (⟨d, .store u x y, ty, po, af, gu⟩ :: rest) env H Q := h
theorem ad_sh_store {P : Program} {n : Nat} {g : Base} {ops rest : List Oper} {env : Env} {H : HEnv} {Q : Env → Prop} {d : Option Tmp} {ty : TypeId} {po : String} {af : Array Edge} {gu : Option (Nat × Bool)} {u : TypeId} {x y : Operand} (h : AD P n g H ops Q (⟨d, .store u x y, ty, po, af, gu⟩ :: rest) env) : AD P n g H ops Q (⟨d, .store u x y, ty, po, af, gu⟩ :: rest) env := h
theorem ao_sh_alloc {P : Program} {n : Nat} {g : Base} {ops : Array Oper} {rest : List Oper} {env : Env} {H : HEnv} {Q : Env → HEnv → Prop} {d : Option Tmp} {ty : TypeId} {po : String} {af : Array Edge} {gu : Option (Nat × Bool)} {u : TypeId} (h : AO P n g ops (⟨d, .alloc u, ty, po, af, gu⟩ :: rest) env H Q) : AO P n g ops (⟨d, .alloc u, ty, po, af, gu⟩ :: rest) env H Q := h
theorem ad_sh_alloc {P : Program} {n : Nat} {g : Base} {ops rest : List Oper} {env : Env} {H : HEnv} {Q : Env → Prop} {d : Option Tmp} {ty : TypeId} {po : String} {af : Array Edge} {gu : Option (Nat × Bool)} {u : TypeId} (h : AD P n g H ops Q (⟨d, .alloc u, ty, po, af, gu⟩ :: rest) env) : AD P n g H ops Q (⟨d, .alloc u, ty, po, af, gu⟩ :: rest) env := h
theorem ao_sh_box {P : Program} {n : Nat} {g : Base} {ops : Array Oper} {rest : List Oper} {env : Env} {H : HEnv} {Q : Env → HEnv → Prop} {d : Option Tmp} {ty : TypeId} {po : String} {af : Array Edge} {gu : Option (Nat × Bool)} {u : TypeId} {x : Operand} (h : AO P n g ops (⟨d, .box u x, ty, po, af, gu⟩ :: rest) env H Q) : AO P n g ops (⟨d, .box u x, ty, po, af, gu⟩ :: rest) env H Q := h
theorem ad_sh_box {P : Program} {n : Nat} {g : Base} {ops rest : List Oper} {env : Env} {H : HEnv} {Q : Env → Prop} {d : Option Tmp} {ty : TypeId} {po : String} {af : Array Edge} {gu : Option (Nat × Bool)} {u : TypeId} {x : Operand} (h : AD P n g H ops Q (⟨d, .box u x, ty, po, af, gu⟩ :: rest) env) : AD P n g H ops Q (⟨d, .box u x, ty, po, af, gu⟩ :: rest) env := h
theorem ao_id {P : Program} {n : Nat} {g : Base} {ops : Array Oper} {l : List Oper} {env : Env} {H : HEnv} {Q : Env → HEnv → Prop} (h : AO P n g ops l env H Q) : AO P n g ops l env H Q := h
theorem ad_id {P : Program} {n : Nat} {g : Base} {ops l : List Oper} {env : Env} {H : HEnv} {Q : Env → Prop} (h : AD P n g H ops Q l env) : AD P n g H ops Q l env := h
theorem aw_sh_cond {P : Program} {n : Nat} {g : Base} {c : Operand} {x y : Code} {env : Env} {H : HEnv} {QQ : QC} (h : AW P n g (.cond c x y) env H QQ) : AW P n g (.cond c x y) env H QQ := h
theorem aw_id {P : Program} {n : Nat} {g : Base} {c : Code} {env : Env} {H : HEnv} {QQ : QC} (h : AW P n g c env H QQ) : AW P n g c env H QQ := h

/-- The ways meet again: the frame is told anew behind the first part. -/
def cutQ (env2 : Env) (H2 : HEnv) (QQ : QC) : QC
  | .normal, env', H' => Sub env' env2 ∧ HFit H' H2 env2
  | e, env', H' => QQ e env' H'
theorem aw_cut {P : Program} {n : Nat} {g : Base} {x y : Code} {env : Env} {H : HEnv} {QQ : QC} (env2 : Env) (H2 : HEnv) (h1 : AW P n g x env H (cutQ env2 H2 QQ)) (h2 : AW P n g y env2 H2 QQ) : AW P n g (.seq x y) env H QQ :=
  aw_seq (h1.mono fun e env' H' hq => by
    cases e <;> first
      | exact ⟨fun a w hi => h2.go a w ((hi.sub hq.1).hsub hq.2)⟩
      | exact hq)
theorem sub_b {env env' : Env} {t : Nat} {a b : Bool} (h : env.get t = some (.pv (.base (.bool a)))) (e : a = b) (hs : Sub env env') : Sub env ((t, .pv (.base (.bool b))) :: env') := sub_cons (by rw [h, e]) hs

theorem retq {tb : Tab} {rs : List ResultVar} {r : PV} {env : Env} {H : HEnv} {ps : List PV} (h : resEs tb H env rs = some ps) (hr : retPV ps = r) : RetQ tb rs r .ret env H := ⟨.inr rfl, env, .refl env, ps, h, hr⟩
theorem retn {tb : Tab} {rs : List ResultVar} {r : PV} {env : Env} {H : HEnv} {ps : List PV} (h : resEs tb H env rs = some ps) (hr : retPV ps = r) : RetQ tb rs r .normal env H := ⟨.inl rfl, env, .refl env, ps, h, hr⟩
/-- A slot told in a weaker way, and then the end. -/
theorem retq_w {tb : Tab} {rs : List ResultVar} {r : PV} {env : Env} {H : HEnv} {ps : List PV} {t : Nat} {a b : AV} (he : env.get t = some a) (ht : Tells a b) (h : resEs tb H ((t, b) :: env) rs = some ps) (hr : retPV ps = r) : RetQ tb rs r .ret env H := ⟨.inr rfl, _, .one he ht, ps, h, hr⟩
theorem ad_case {P : Program} {n : Nat} {g : Base} {H : HEnv} {ops l : List Oper} {Q : Env → Prop} {o : Oper} {t : Nat} {env : Env} {b : Bool} (_ : guardVar ops o = some t) (hb : env.get t = some (.pv (.base (.bool b))))
    (h1 : b = true → AD P n g H ops Q (o :: l) ((t, .pv (.base (.bool true))) :: env)) (h2 : b = false → AD P n g H ops Q (o :: l) ((t, .pv (.base (.bool false))) :: env)) : AD P n g H ops Q (o :: l) env := .case _ _ _ _ hb h1 h2

theorem tyEq_iff (a b : Ty) : (a.kind == b.kind && (a.index == b.index && (a.dims == b.dims && (a.ref == b.ref && true)))) = decide (a = b) := by
  obtain ⟨a1, a2, a3, a4⟩ := a; obtain ⟨b1, b2, b3, b4⟩ := b
  simp [Ty.mk.injEq, Bool.beq_eq_decide_eq, ← Bool.decide_and]
end Go.Cg
