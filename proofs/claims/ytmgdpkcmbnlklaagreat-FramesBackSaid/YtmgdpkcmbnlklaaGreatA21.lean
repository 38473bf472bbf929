/- A part of the walks by abstract values: no statement of its own. -/
import Derived.Test.YtmgdpkcmbnlklaaGreatA9
import Derived.Test.YtmgdpkcmbnlklaaGreatA17
import Derived.Test.YtmgdpkcmbnlklaaGreatChecked
set_option linter.unusedVariables false
set_option linter.unusedSimpArgs false
namespace Go.Cg
open Go.RowKit Go.Proofs
def zcC (n:Int):Prop:=(Lit.int .i64 n).wf=true
theorem ziY {H:Type} {enc:TypeId × Value→H} {w:World}:Rd enc Tryz.prog w 3 1 (fun ps=>∃ n,zcC n∧ps=[.base (.int .i64 n)]):=Yw
theorem zmZ {n:Int} (h:zcC n) : -9223372036854775808≤n∧n≤9223372036854775807:=by
 simp [zcC,Lit.wf,IntKind.has,IntKind.min,IntKind.max,IntKind.bits,IntKind.signed] at h;omega
theorem zmP {g:Img} (h:zmm g):∀ m∈g.methods,∀ x∈m.code,za9 x:=fun m hm x hx=>by
 have:=((h.2.2.1 m hm).2.2.2.2.2.2.1 x hx).2.1
 simp [Lit.wf,IntKind.has,IntKind.min,IntKind.max,IntKind.bits,IntKind.signed] at this
 exact ⟨by omega,by omega⟩
end Go.Cg
namespace Go.Cg
open Go Go.Proofs
theorem zjv:laidOutB Tryz.checked.prog=true:=by kernel_rfl
theorem zjD:mapsRowed Tryz.checked.prog=true:=by kernel_rfl
theorem zht:Tryz.checked.prog.stopsHeard=true:=by kernel_rfl
theorem zhr:Tryz.checked.prog.mayEnter=true:=by kernel_rfl
theorem zgK:Tryz.checked.prog.liftsFinal=false:=by kernel_rfl
theorem zjx:Tryz.checked.prog.make=some .cut:=by kernel_rfl
end Go.Cg
namespace Go.Cg
open Go.RowKit Go.Proofs
def zda (n:Int):Prop:=(Lit.int .u64 n).wf=true
def zml (n:Int):Prop:=(Lit.int .u16 n).wf=true
def znh (l:List Int):Prop:=∀ n∈l,zl9 n
theorem znc {n:Int} (h:zda n):0≤n∧n≤18446744073709551615:=by
 simp [zda,Lit.wf,IntKind.has,IntKind.min,IntKind.max,IntKind.bits,IntKind.signed] at h;omega
theorem zmQ {n:Int} (h:zml n):0≤n∧n≤65535:=by
 simp [zml,Lit.wf,IntKind.has,IntKind.min,IntKind.max,IntKind.bits,IntKind.signed] at h;omega
section
variable {H:Type} {enc:TypeId × Value→H} {w:World}
theorem zma:Rd enc Tryz.prog w 33 1 (fun ps=>∃ n,zda n∧ps=[.base (.int .u64 n)]):=zfZ Tryz.underlying33 (by kernel_rfl)
theorem zkK:Rd enc Tryz.prog w 34 1 (fun ps=>∃ l:List Int,(∀ n∈l,zda n)∧ps=[.slc 1 (l.map fun n=>.base (.int .u64 n)) false]) :=
 ZT (f:=fun n=>.base (.int .u64 n)) Tryz.underlying34 (by kernel_rfl) (by decide) zma
theorem znt:Rd enc Tryz.prog w 132 1 (fun ps=>∃ l:List Int,znh l∧ps=[.slc 1 (l.map fun n=>.base (.int .u8 n)) false]) :=
 ZT (f:=fun n=>.base (.int .u8 n)) Tryz.underlying132 (by kernel_rfl) (by decide) znr
end
end Go.Cg
