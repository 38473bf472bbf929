/- A part of the walks by abstract values: no statement of its own. -/
import Derived.Test.YtdngpcmllgnbjaaGreatN9
import Derived.Test.YtdngpcmllgnbjaaGreatN5
import Derived.Test.YtdngpcmllgnbjaaGreatRows
import Derived.Test.YtdngpcmllgnbjaaGreatN19
import Derived.Test.YtdngpcmllgnbjaaGreatChecked
set_option linter.unusedVariables false
set_option linter.unusedSimpArgs false
namespace Go.Cg
open Go.RowKit Go.Proofs
def zg8 (t:Ty):Prop:=(Lit.int .i64 t.kind).wf=true∧(Lit.int .i64 t.index).wf=true∧(Lit.int .i64 t.dims).wf=true
def zni (l:List Ty):Prop:=∀ t∈l,zg8 t
def zpL (t:TD):Prop:=(Lit.int .i64 t.flags).wf=true∧(Lit.int .i64 t.ext).wf=true∧∀ f∈t.faces,(Lit.int .i64 f).wf=true
def zpU (f:Fd):Prop:=(Lit.int .i64 f.owner).wf=true∧zg8 f.ty
def zoa (x:Ins):Prop:=(Lit.int .i64 x.op).wf=true∧(Lit.int .i64 x.arg).wf=true∧zg8 x.t
def zp6 (c:Cl):Prop:=(Lit.int .i64 c.kind).wf=true∧(Lit.int .i64 c.tf).wf=true∧(Lit.int .i64 c.tt).wf=true∧(Lit.int .i64 c.hf).wf=true∧(Lit.int .i64 c.ht).wf=true∧(Lit.int .i64 c.filter).wf=true∧zg8 c.t
def zpO (m:Me):Prop:=(Lit.int .i64 m.owner).wf=true∧(Lit.int .i64 m.flags).wf=true∧zni m.params∧zg8 m.ret∧zni m.locals∧(Lit.int .i64 m.max).wf=true∧(∀ x∈m.code,zoa x)∧∀ c∈m.clauses,zp6 c
def zpE (g:Img):Prop:=(∀ t∈g.types,zpL t)∧(∀ f∈g.fields,zpU f)∧(∀ m∈g.methods,zpO m)∧(Lit.int .i64 g.entry).wf=true
def zqO (l:Ty × Ty × Ty):PV:=.agg ((yA l.1).cells++((yA l.2.1).cells++(yA l.2.2).cells))
def zqQ (l:Ty × Ty × Ty):Prop:=zg8 l.1∧zg8 l.2.1∧zg8 l.2.2
def zp3 (n:Int):Prop:=(Lit.int .u8 n).wf=true
section
variable {H:Type} {enc:TypeId × Value→H} {w:World}
theorem Qb:Rd enc Tryz.prog w 3 1 (fun ps=>∃ n,(Lit.int .i64 n).wf=true∧ps=[.base (.int .i64 n)]):=zht Tryz.underlying3 (by kernel_rfl)
theorem zoW:Rd enc Tryz.prog w 2 1 (fun ps=>∃ n,(Lit.int .i64 n).wf=true∧ps=[.base (.int .i64 n)]):=zht Tryz.underlying2 (by kernel_rfl)
theorem rdBool:Rd enc Tryz.prog w 4 1 (fun ps=>∃ b,ps=[.base (.bool b)]):=zo9 Tryz.underlying4 (by kernel_rfl)
theorem rdStr:Rd enc Tryz.prog w 9 1 (fun ps=>∃ s:ByteArray,s.size≤maxLen∧ps=[.base (.string s)]):=zmi Tryz.underlying9 (by kernel_rfl)
theorem znf:Rd enc Tryz.prog w 44 4 (fun ps=>∃ t:Ty,zg8 t∧ps=(yA t).cells):=by
 refine (Qm Tryz.underlying44 (by kernel_rfl) (zN rfl Qb (zN rfl Qb (zN rfl Qb (zN rfl rdBool XU))))).mono ?_
 rintro _ ⟨_,_,⟨a,ha,rfl⟩,⟨_,_,⟨b,hb,rfl⟩,⟨_,_,⟨c,hc,rfl⟩,⟨_,_,⟨d,rfl⟩,rfl,rfl⟩,rfl⟩,rfl⟩,rfl⟩
 exact ⟨⟨a,b,c,d⟩,⟨ha,hb,hc⟩,rfl⟩
theorem zpD:Rd enc Tryz.prog w 65 1 (fun ps=>∃ l:List Ty,zni l∧ps=[tys l]):=XQ Tryz.underlying65 (by kernel_rfl) (by decide) znf
theorem zpI:Rd enc Tryz.prog w 59 1 (fun ps=>∃ l:List Int,(∀ n∈l,(Lit.int .i64 n).wf=true)∧ps=[ints l]) :=
 XQ (f:=pi) Tryz.underlying59 (by kernel_rfl) (by decide) Qb
theorem zqD:Rd enc Tryz.prog w 61 4 (fun ps=>∃ t:TD,zpL t∧ps=(qx t).cells):=by
 refine (Qm Tryz.underlying61 (by kernel_rfl) (zN rfl rdStr (zN rfl Qb (zN rfl Qb (zN rfl zpI XU))))).mono ?_
 rintro _ ⟨_,_,⟨a,ha,rfl⟩,⟨_,_,⟨b,hb,rfl⟩,⟨_,_,⟨c,hc,rfl⟩,⟨_,_,⟨d,hd,rfl⟩,rfl,rfl⟩,rfl⟩,rfl⟩,rfl⟩
 exact ⟨⟨a,b,c,d⟩,⟨hb,hc,hd⟩,rfl⟩
theorem zqF:Rd enc Tryz.prog w 237 7 (fun ps=>∃ t:Fd,zpU t∧ps=(Zc t).cells):=by
 refine (Qm Tryz.underlying237 (by kernel_rfl) (zN rfl rdStr (zN rfl Qb (zN rfl znf (zN rfl rdBool XU))))).mono ?_
 rintro _ ⟨_,_,⟨a,ha,rfl⟩,⟨_,_,⟨b,hb,rfl⟩,⟨_,_,⟨c,hc,rfl⟩,⟨_,_,⟨d,rfl⟩,rfl,rfl⟩,rfl⟩,rfl⟩,rfl⟩
 exact ⟨⟨a,b,c,d⟩,⟨hb,hc⟩,rfl⟩
theorem zqb:Rd enc Tryz.prog w 63 6 (fun ps=>∃ t:Ins,zoa t∧ps=(yT t).cells):=by
 refine (Qm Tryz.underlying63 (by kernel_rfl) (zN rfl Qb (zN rfl zoW (zN rfl znf XU)))).mono ?_
 rintro _ ⟨_,_,⟨a,ha,rfl⟩,⟨_,_,⟨b,hb,rfl⟩,⟨_,_,⟨c,hc,rfl⟩,rfl,rfl⟩,rfl⟩,rfl⟩
 exact ⟨⟨a,b,c⟩,⟨ha,hb,hc⟩,rfl⟩
theorem zqJ:Rd enc Tryz.prog w 181 10 (fun ps=>∃ t:Cl,zp6 t∧ps=(Yr t).cells):=by
 refine (Qm Tryz.underlying181 (by kernel_rfl) (zN rfl Qb (zN rfl Qb (zN rfl Qb (zN rfl Qb (zN rfl Qb (zN rfl Qb (zN rfl znf XU)))))))).mono ?_
 rintro _ ⟨_,_,⟨a,ha,rfl⟩,⟨_,_,⟨b,hb,rfl⟩,⟨_,_,⟨c,hc,rfl⟩,⟨_,_,⟨d,hd,rfl⟩,⟨_,_,⟨e,he,rfl⟩,⟨_,_,⟨f,hf,rfl⟩,⟨_,_,⟨t,ht,rfl⟩,rfl,rfl⟩,rfl⟩,rfl⟩,rfl⟩,rfl⟩,rfl⟩,rfl⟩
 exact ⟨⟨a,b,c,d,e,f,t⟩,⟨ha,hb,hc,hd,he,hf,ht⟩,rfl⟩
theorem zpV:Rd enc Tryz.prog w 64 1 (fun ps=>∃ l:List Ins,(∀ x∈l,zoa x)∧ps=[.slc 6 (l.map yT) false]):=XQ Tryz.underlying64 (by kernel_rfl) (by decide) zqb
theorem zqw:Rd enc Tryz.prog w 66 1 (fun ps=>∃ l:List Cl,(∀ x∈l,zp6 x)∧ps=[.slc 10 (l.map Yr) false]):=XQ Tryz.underlying66 (by kernel_rfl) (by decide) zqJ
theorem zqA:Rd enc Tryz.prog w 68 12 (fun ps=>∃ t:Me,zpO t∧ps=(zM t).cells):=by
 refine (Qm Tryz.underlying68 (by kernel_rfl) (zN rfl rdStr (zN rfl Qb (zN rfl Qb (zN rfl zpD (zN rfl znf (zN rfl zpD (zN rfl Qb (zN rfl zpV (zN rfl zqw XU)))))))))).mono ?_
 rintro _ ⟨_,_,⟨a,ha,rfl⟩,⟨_,_,⟨b,hb,rfl⟩,⟨_,_,⟨c,hc,rfl⟩,⟨_,_,⟨d,hd,rfl⟩,⟨_,_,⟨e,he,rfl⟩,⟨_,_,⟨f,hf,rfl⟩,⟨_,_,⟨t,ht,rfl⟩,⟨_,_,⟨x,hx,rfl⟩,⟨_,_,⟨y,hy,rfl⟩,rfl,rfl⟩,rfl⟩,rfl⟩,rfl⟩,rfl⟩,rfl⟩,rfl⟩,rfl⟩,rfl⟩
 exact ⟨⟨a,b,c,d,e,f,t,x,y⟩,⟨hb,hc,hd,he,hf,ht,hx,hy⟩,rfl⟩
theorem zqs:Rd enc Tryz.prog w 22 1 (fun ps=>∃ l:List TD,(∀ x∈l,zpL x)∧ps=[.slc 4 (l.map qx) false]):=XQ Tryz.underlying22 (by kernel_rfl) (by decide) zqD
theorem zqo:Rd enc Tryz.prog w 23 1 (fun ps=>∃ l:List Fd,(∀ x∈l,zpU x)∧ps=[.slc 7 (l.map Zc) false]):=XQ Tryz.underlying23 (by kernel_rfl) (by decide) zqF
theorem zqf:Rd enc Tryz.prog w 24 1 (fun ps=>∃ l:List Me,(∀ x∈l,zpO x)∧ps=[.slc 12 (l.map zM) false]):=XQ Tryz.underlying24 (by kernel_rfl) (by decide) zqA
theorem zqN:Rd enc Tryz.prog w 26 4 (fun ps=>∃ t:Img,zpE t∧ps=(zu t).cells):=by
 refine (Qm Tryz.underlying26 (by kernel_rfl) (zN rfl zqs (zN rfl zqo (zN rfl zqf (zN rfl Qb XU))))).mono ?_
 rintro _ ⟨_,_,⟨a,ha,rfl⟩,⟨_,_,⟨b,hb,rfl⟩,⟨_,_,⟨c,hc,rfl⟩,⟨_,_,⟨d,hd,rfl⟩,rfl,rfl⟩,rfl⟩,rfl⟩,rfl⟩
 exact ⟨⟨a,b,c,d⟩,⟨ha,hb,hc,hd⟩,rfl⟩
end
theorem own:ownKnob Tryz.prog.godebug=none:=by kernel_rfl
theorem laidOut:laidOutB Tryz.prog=true:=by kernel_rfl
theorem zqR {H:Type} {enc:TypeId × Value→H} {w:World}:Rd enc Tryz.prog w 5 1 (fun ps=>∃ n,zp3 n∧ps=[.base (.int .u8 n)]):=zht Tryz.underlying5 (by kernel_rfl)
theorem zqy {n:Int} (h:zp3 n):0≤n∧n≤255:=by
 simp [zp3,Lit.wf,IntKind.has,IntKind.min,IntKind.max,IntKind.bits,IntKind.signed] at h;omega
def znb (n:Int):Prop:=(Lit.int .i64 n).wf=true
theorem zqP {H:Type} {enc:TypeId × Value→H} {w:World}:Rd enc Tryz.prog w 3 1 (fun ps=>∃ n,znb n∧ps=[.base (.int .i64 n)]):=Qb
theorem zqa {n:Int} (h:znb n) : -9223372036854775808≤n∧n≤9223372036854775807:=by
 simp [znb,Lit.wf,IntKind.has,IntKind.min,IntKind.max,IntKind.bits,IntKind.signed] at h;omega
theorem zp8 {g:Img} (h:zpE g):∀ m∈g.methods,∀ x∈m.code,zco x:=fun m hm x hx=>by
 have:=((h.2.2.1 m hm).2.2.2.2.2.2.1 x hx).2.1
 simp [Lit.wf,IntKind.has,IntKind.min,IntKind.max,IntKind.bits,IntKind.signed] at this
 exact ⟨by omega,by omega⟩
def zpN (n:Int):Prop:=(Lit.int .i8 n).wf=true
theorem zqL {H:Type} {enc:TypeId × Value→H} {w:World}:Rd enc Tryz.prog w 39 1 (fun ps=>∃ n,zpN n∧ps=[.base (.int .i8 n)]):=zht Tryz.underlying39 (by kernel_rfl)
end Go.Cg
namespace Go.Cg
open Go Go.Proofs
theorem zoT:laidOutB Tryz.checked.prog=true:=by kernel_rfl
theorem zpk:mapsRowed Tryz.checked.prog=true:=by kernel_rfl
theorem znw:Tryz.checked.prog.stopsHeard=true:=by kernel_rfl
theorem zob:Tryz.checked.prog.mayEnter=true:=by kernel_rfl
theorem zoJ:Tryz.checked.prog.liftsFinal=false:=by kernel_rfl
theorem zo8:Tryz.checked.prog.make=some .cut:=by kernel_rfl
end Go.Cg
