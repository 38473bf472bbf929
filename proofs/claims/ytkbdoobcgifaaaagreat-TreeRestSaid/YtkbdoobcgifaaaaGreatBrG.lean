/- A part of the walks by abstract values: no statement of its own. -/
import Derived.Test.YtkbdoobcgifaaaaGreatBridge
import Derived.Test.YtkbdoobcgifaaaaGreatTab
import Derived.Test.YtkbdoobcgifaaaaGreatRows
namespace Go.Cg
open Go.RowKit Go.Proofs

def okTy (t : Ty) : Prop := (Lit.int .i64 t.kind).wf = true ∧ (Lit.int .i64 t.index).wf = true ∧ (Lit.int .i64 t.dims).wf = true
def okTys (l : List Ty) : Prop := ∀ t ∈ l, okTy t
def okTD (t : TD) : Prop := (Lit.int .i64 t.flags).wf = true ∧ (Lit.int .i64 t.ext).wf = true ∧ ∀ f ∈ t.faces, (Lit.int .i64 f).wf = true
def okFd (f : Fd) : Prop := (Lit.int .i64 f.owner).wf = true ∧ okTy f.ty
def okIns (x : Ins) : Prop := (Lit.int .i64 x.op).wf = true ∧ (Lit.int .i64 x.arg).wf = true ∧ okTy x.t
def okCl (c : Cl) : Prop := (Lit.int .i64 c.kind).wf = true ∧ (Lit.int .i64 c.tf).wf = true ∧ (Lit.int .i64 c.tt).wf = true ∧ (Lit.int .i64 c.hf).wf = true ∧ (Lit.int .i64 c.ht).wf = true ∧ (Lit.int .i64 c.filter).wf = true ∧ okTy c.t
def okMe (m : Me) : Prop := (Lit.int .i64 m.owner).wf = true ∧ (Lit.int .i64 m.flags).wf = true ∧ okTys m.params ∧ okTy m.ret ∧ okTys m.locals ∧ (Lit.int .i64 m.max).wf = true ∧ (∀ x ∈ m.code, okIns x) ∧ ∀ c ∈ m.clauses, okCl c
def okImg (g : Img) : Prop := (∀ t ∈ g.types, okTD t) ∧ (∀ f ∈ g.fields, okFd f) ∧ (∀ m ∈ g.methods, okMe m) ∧ (Lit.int .i64 g.entry).wf = true
def arrPV (l : Ty × Ty × Ty) : PV := .agg ((tyPV l.1).cells ++ ((tyPV l.2.1).cells ++ (tyPV l.2.2).cells))
def okArr (l : Ty × Ty × Ty) : Prop := okTy l.1 ∧ okTy l.2.1 ∧ okTy l.2.2
def okU8 (n : Int) : Prop := (Lit.int .u8 n).wf = true

section
variable {H : Type} {enc : TypeId × Value → H} {w : World}
theorem rdInt : Rd enc Tryz.prog w 3 1 (fun ps => ∃ n, (Lit.int .i64 n).wf = true ∧ ps = [.base (.int .i64 n)]) := rd_int Tryz.underlying3 (by kernel_rfl)
theorem rdInt64 : Rd enc Tryz.prog w 2 1 (fun ps => ∃ n, (Lit.int .i64 n).wf = true ∧ ps = [.base (.int .i64 n)]) := rd_int Tryz.underlying2 (by kernel_rfl)
theorem rdBool : Rd enc Tryz.prog w 4 1 (fun ps => ∃ b, ps = [.base (.bool b)]) := rd_bool Tryz.underlying4 (by kernel_rfl)
theorem rdStr : Rd enc Tryz.prog w 9 1 (fun ps => ∃ s : ByteArray, s.size ≤ maxLen ∧ ps = [.base (.string s)]) := rd_string Tryz.underlying9 (by kernel_rfl)
theorem rdTy : Rd enc Tryz.prog w 44 4 (fun ps => ∃ t : Ty, okTy t ∧ ps = (tyPV t).cells) := by
  refine (rd_struct Tryz.underlying44 (by kernel_rfl) (fits_cons rfl rdInt (fits_cons rfl rdInt (fits_cons rfl rdInt (fits_cons rfl rdBool fits_nil))))).mono ?_
  rintro _ ⟨_, _, ⟨a, ha, rfl⟩, ⟨_, _, ⟨b, hb, rfl⟩, ⟨_, _, ⟨c, hc, rfl⟩, ⟨_, _, ⟨d, rfl⟩, rfl, rfl⟩, rfl⟩, rfl⟩, rfl⟩
  exact ⟨⟨a, b, c, d⟩, ⟨ha, hb, hc⟩, rfl⟩
theorem rdTys : Rd enc Tryz.prog w 42 1 (fun ps => ∃ l : List Ty, okTys l ∧ ps = [tys l]) := rd_slice Tryz.underlying42 (by kernel_rfl) (by decide) rdTy
theorem rdInts : Rd enc Tryz.prog w 31 1 (fun ps => ∃ l : List Int, (∀ n ∈ l, (Lit.int .i64 n).wf = true) ∧ ps = [ints l]) :=
  rd_slice (f := pi) Tryz.underlying31 (by kernel_rfl) (by decide) rdInt
theorem rdTD : Rd enc Tryz.prog w 34 4 (fun ps => ∃ t : TD, okTD t ∧ ps = (tdPV t).cells) := by
  refine (rd_struct Tryz.underlying34 (by kernel_rfl) (fits_cons rfl rdStr (fits_cons rfl rdInt (fits_cons rfl rdInt (fits_cons rfl rdInts fits_nil))))).mono ?_
  rintro _ ⟨_, _, ⟨a, ha, rfl⟩, ⟨_, _, ⟨b, hb, rfl⟩, ⟨_, _, ⟨c, hc, rfl⟩, ⟨_, _, ⟨d, hd, rfl⟩, rfl, rfl⟩, rfl⟩, rfl⟩, rfl⟩
  exact ⟨⟨a, b, c, d⟩, ⟨hb, hc, hd⟩, rfl⟩
theorem rdFd : Rd enc Tryz.prog w 64 7 (fun ps => ∃ t : Fd, okFd t ∧ ps = (fdPV t).cells) := by
  refine (rd_struct Tryz.underlying64 (by kernel_rfl) (fits_cons rfl rdStr (fits_cons rfl rdInt (fits_cons rfl rdTy (fits_cons rfl rdBool fits_nil))))).mono ?_
  rintro _ ⟨_, _, ⟨a, ha, rfl⟩, ⟨_, _, ⟨b, hb, rfl⟩, ⟨_, _, ⟨c, hc, rfl⟩, ⟨_, _, ⟨d, rfl⟩, rfl, rfl⟩, rfl⟩, rfl⟩, rfl⟩
  exact ⟨⟨a, b, c, d⟩, ⟨hb, hc⟩, rfl⟩
theorem rdIns : Rd enc Tryz.prog w 99 6 (fun ps => ∃ t : Ins, okIns t ∧ ps = (insPV t).cells) := by
  refine (rd_struct Tryz.underlying99 (by kernel_rfl) (fits_cons rfl rdInt (fits_cons rfl rdInt64 (fits_cons rfl rdTy fits_nil)))).mono ?_
  rintro _ ⟨_, _, ⟨a, ha, rfl⟩, ⟨_, _, ⟨b, hb, rfl⟩, ⟨_, _, ⟨c, hc, rfl⟩, rfl, rfl⟩, rfl⟩, rfl⟩
  exact ⟨⟨a, b, c⟩, ⟨ha, hb, hc⟩, rfl⟩
theorem rdCl : Rd enc Tryz.prog w 104 10 (fun ps => ∃ t : Cl, okCl t ∧ ps = (clPV t).cells) := by
  refine (rd_struct Tryz.underlying104 (by kernel_rfl) (fits_cons rfl rdInt (fits_cons rfl rdInt (fits_cons rfl rdInt (fits_cons rfl rdInt (fits_cons rfl rdInt (fits_cons rfl rdInt (fits_cons rfl rdTy fits_nil)))))))).mono ?_
  rintro _ ⟨_, _, ⟨a, ha, rfl⟩, ⟨_, _, ⟨b, hb, rfl⟩, ⟨_, _, ⟨c, hc, rfl⟩, ⟨_, _, ⟨d, hd, rfl⟩, ⟨_, _, ⟨e, he, rfl⟩, ⟨_, _, ⟨f, hf, rfl⟩, ⟨_, _, ⟨t, ht, rfl⟩, rfl, rfl⟩, rfl⟩, rfl⟩, rfl⟩, rfl⟩, rfl⟩, rfl⟩
  exact ⟨⟨a, b, c, d, e, f, t⟩, ⟨ha, hb, hc, hd, he, hf, ht⟩, rfl⟩
theorem rdCode : Rd enc Tryz.prog w 45 1 (fun ps => ∃ l : List Ins, (∀ x ∈ l, okIns x) ∧ ps = [.slc 6 (l.map insPV) false]) := rd_slice Tryz.underlying45 (by kernel_rfl) (by decide) rdIns
theorem rdCls : Rd enc Tryz.prog w 46 1 (fun ps => ∃ l : List Cl, (∀ x ∈ l, okCl x) ∧ ps = [.slc 10 (l.map clPV) false]) := rd_slice Tryz.underlying46 (by kernel_rfl) (by decide) rdCl
theorem rdMe : Rd enc Tryz.prog w 48 12 (fun ps => ∃ t : Me, okMe t ∧ ps = (mePV t).cells) := by
  refine (rd_struct Tryz.underlying48 (by kernel_rfl) (fits_cons rfl rdStr (fits_cons rfl rdInt (fits_cons rfl rdInt (fits_cons rfl rdTys (fits_cons rfl rdTy (fits_cons rfl rdTys (fits_cons rfl rdInt (fits_cons rfl rdCode (fits_cons rfl rdCls fits_nil)))))))))).mono ?_
  rintro _ ⟨_, _, ⟨a, ha, rfl⟩, ⟨_, _, ⟨b, hb, rfl⟩, ⟨_, _, ⟨c, hc, rfl⟩, ⟨_, _, ⟨d, hd, rfl⟩, ⟨_, _, ⟨e, he, rfl⟩, ⟨_, _, ⟨f, hf, rfl⟩, ⟨_, _, ⟨t, ht, rfl⟩, ⟨_, _, ⟨x, hx, rfl⟩, ⟨_, _, ⟨y, hy, rfl⟩, rfl, rfl⟩, rfl⟩, rfl⟩, rfl⟩, rfl⟩, rfl⟩, rfl⟩, rfl⟩, rfl⟩
  exact ⟨⟨a, b, c, d, e, f, t, x, y⟩, ⟨hb, hc, hd, he, hf, ht, hx, hy⟩, rfl⟩
theorem rdTDs : Rd enc Tryz.prog w 22 1 (fun ps => ∃ l : List TD, (∀ x ∈ l, okTD x) ∧ ps = [.slc 4 (l.map tdPV) false]) := rd_slice Tryz.underlying22 (by kernel_rfl) (by decide) rdTD
theorem rdFds : Rd enc Tryz.prog w 23 1 (fun ps => ∃ l : List Fd, (∀ x ∈ l, okFd x) ∧ ps = [.slc 7 (l.map fdPV) false]) := rd_slice Tryz.underlying23 (by kernel_rfl) (by decide) rdFd
theorem rdMes : Rd enc Tryz.prog w 24 1 (fun ps => ∃ l : List Me, (∀ x ∈ l, okMe x) ∧ ps = [.slc 12 (l.map mePV) false]) := rd_slice Tryz.underlying24 (by kernel_rfl) (by decide) rdMe
theorem rdImg : Rd enc Tryz.prog w 26 4 (fun ps => ∃ t : Img, okImg t ∧ ps = (imgPV t).cells) := by
  refine (rd_struct Tryz.underlying26 (by kernel_rfl) (fits_cons rfl rdTDs (fits_cons rfl rdFds (fits_cons rfl rdMes (fits_cons rfl rdInt fits_nil))))).mono ?_
  rintro _ ⟨_, _, ⟨a, ha, rfl⟩, ⟨_, _, ⟨b, hb, rfl⟩, ⟨_, _, ⟨c, hc, rfl⟩, ⟨_, _, ⟨d, hd, rfl⟩, rfl, rfl⟩, rfl⟩, rfl⟩, rfl⟩
  exact ⟨⟨a, b, c, d⟩, ⟨ha, hb, hc, hd⟩, rfl⟩
end
theorem own : ownKnob Tryz.prog.godebug = none := by kernel_rfl
theorem laidOut : laidOutB Tryz.prog = true := by kernel_rfl
end Go.Cg
