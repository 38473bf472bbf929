/- A part of the walks by abstract values: no statement of its own. -/
import Derived.Test.YtdngpcmllgnbjaaGreatE13
import Derived.Test.YtdngpcmllgnbjaaGreatE8
import Derived.Test.YtdngpcmllgnbjaaGreatE9
import Derived.Deep.RegionLaw
import Derived.Test.YtdngpcmllgnbjaaGreatE7
import Derived.Test.YtdngpcmllgnbjaaGreatRows
import Derived.Test.YtdngpcmllgnbjaaGreatE14
import Derived.Test.YtdngpcmllgnbjaaGreatE18
import Derived.Test.YtdngpcmllgnbjaaGreatChecked
set_option linter.unusedVariables false
set_option linter.unusedSimpArgs false
namespace Go.Cg
section
variable {P:Program} {n:Nat} {g:Base} {H:HEnv} {env:Env} {QQ:QC} {c:Code} {Q:Env→HEnv→Prop} {ops:List Oper}
end
end Go.Cg
set_option linter.unusedVariables false
set_option linter.unusedSimpArgs false
namespace Go.Cg
open Go.Proofs Go.Shelf Go.RowKit Go.Lib
set_option maxHeartbeats 4000000 in
set_option maxRecDepth 100000 in
theorem zlj (v:Int) (ad:Addr) (c:Nat) (w:World) (hv:w.cell? ad=some (.int .u8 v)):Calls Tryz.prog 470 #[.slice (some ad) 1 c,.int .i64 0] w fun e w' =>
  e=.returned (.slice (some ⟨w.heap.size,0,none⟩) 0 0)∧w'.heap[w.heap.size]?=some (.cells #[] 5 (0,0))∧Below w.heap.size w w':=by
 obtain ⟨i0,hi0,hz0,hs0,hb0⟩:=info5
 have h1:=zgA 0 (by decide)
 have hmk:∀ w:World,(Instr.makeSlice 455 (.int .i64 0) (.int .i64 0)).run Tryz.prog w=.ok (.slice (some ⟨w.heap.size,0,none⟩) 0 0) (w.alloc (.cells #[] 5)):=fun w=>by
  have:=run_makeSlice (P:=Tryz.prog) w 455 5 i0 (.int .u8 0) Tryz.underlying455 hi0 hz0 .i64 .i64 0 0 (by omega) (by omega) (by simp [hs0]) (by simp [hb0]) (by omega)
  rw [hs0] at this
  have e:madeCells (Value.int .u8 0).cells (Int.toNat 0 * 1)=#[]:=by simp [madeCells]
  rw [e] at this
  exact this
 have hsz:(Tryz.prog.info? 5).map (·.size)=some 1:=by rw [hi0];simp [hs0]
 go_enter Tryz.func470,Tryz.ntmps470
 go_wp2_with (first|(refine (h1 _).mono ?_;rintro e w2 ⟨rfl,hw2⟩;rw [hw2];clear hw2 w2)|(refine wpList_copy_splice rfl _ _ _ _ rfl 5 Tryz.underlying455 hsz _ _ _ _ _ _ rfl rfl w.heap.size 0 [] 5 ?_ [] (by rfl) (fun h=>by simp at h) (by simp) (by simp) w.heap.size w ?_ (Nat.le_refl _) ?_))
 ·exact heap_alloc_new w _
 ·exact (Below.refl _ _).alloc (Nat.le_refl _) _
 ·intro w2 hh hb
  go_wp2
  refine wp_loop_once ?_
  go_wp2
  go_ret
  exact ⟨rfl,by simpa [splice] using (show _=_ from hh),hb⟩
theorem zcD {K:Cg.KK} {w w':World} (hl:∀ b o,K b o→b < w.heap.size) {t:TypeId} (l:List Int) (hb:Below w.heap.size w w') (hh:w'.heap[w.heap.size]?=some (.cells (l.map fun n=>Value.int .u8 n).toArray t (0,0))) (hlen:l.length≤maxLen) :
  ∃ K',Evo K K' w w'∧PRel K' w' (.slc 1 (l.map fun n=>.base (.int .u8 n)) false) (.slice (some ⟨w.heap.size,0,none⟩) l.length l.length):=by
 have hlt:w.heap.size < w'.heap.size:=(Array.getElem?_eq_some_iff.1 hh).1
 refine ⟨zaV K w l.length,⟨hb,fun b o h=>.inl h,fun b o h=>h.imp id (fun ⟨h1,_⟩=>by omega),fun b o h=>?_⟩,?_⟩
 ·rcases h with h|⟨h,_⟩
  ·have:=hl b o h;omega
  ·omega
 ·have hcell:∀ (k:Nat) (v:Value),(l.map fun n=>Value.int .u8 n)[k]?=some v→w'.cell? ⟨w.heap.size,k,none⟩=some v:=by
   intro k v hv
   simp only [World.cell?,hh]
   simpa using hv
  have:=PRel.slc (K:=zaV K w l.length) (w:=w') 1 (l.map fun n=>.base (.int .u8 n)) false w.heap.size 0 l.length (fun i=>[Value.int .u8 (l.getD i 0)]) (by omega) (by simp) (by simp) (by simpa using hlen) hlen
   (fun i e he=>by
    rw [List.getElem?_map] at he
    cases hi:l[i]? with
    | none=>simp [hi] at he
    | some n =>
     simp [hi] at he;subst he
     refine ⟨rfl,rfl,fun k v hv=>?_⟩
     cases k with
     | zero =>
      simp [List.getD_eq_getElem?_getD,hi] at hv;subst hv
      refine ⟨.inr ⟨rfl,by have:=(List.getElem?_eq_some_iff.1 hi).1;omega⟩,?_,rfl⟩
      have:=hcell i (.int .u8 n) (by simp [hi])
      simpa using this
     | succ k=>simp at hv)
   (fun i e k c v he hc hv=>by
    rw [List.getElem?_map] at he
    cases hi:l[i]? with
    | none=>simp [hi] at he
    | some n =>
     simp [hi] at he;subst he
     cases k with
     | zero =>
      simp [PV.cells] at hc;subst hc
      simp [List.getD_eq_getElem?_getD,hi] at hv;subst hv
      exact .base _ rfl
     | succ k=>simp [PV.cells] at hc)
  simpa using this
theorem zb9 (v d:Int) (h0:0≤d) (h1:d≤3):ACall Tryz.prog 470 [.slc 1 [.base (.int .u8 v)] true,pi d] (.slc 1 ((List.replicate d.toNat v).map fun n=>.base (.int .u8 n)) false):=by
 refine ⟨⟨_,Tryz.func470,rfl,by kernel_rfl⟩,fun K w vs hl hv=>?_⟩
 obtain ⟨v0,vs0,rfl,r0,hv0⟩:=hv.cons_inv
 obtain ⟨v1,vs1,rfl,r1,hv1⟩:=hv0.cons_inv
 obtain rfl:=hv1.nil_inv
 cases r1
 cases r0 with
 | slc _ _ _ b o cap vss q0 q1 q2 q3 q4 q5 q6 =>
  obtain ⟨_,e2,e3⟩:=q5 0 _ rfl
  have hvs:vss 0=[Value.int .u8 v]:=by
   cases hx:vss 0 with
   | nil=>rw [hx] at e2;simp at e2
   | cons x xs =>
    rw [hx] at e2
    have:xs=[]:=List.eq_nil_of_length_eq_zero (by simpa using e2)
    subst this
    have:=q6 0 _ 0 _ x rfl rfl (by rw [hx];rfl)
    cases this;rfl
  have hc:w.cell? ⟨b,o,none⟩=some (.int .u8 v):=by
   have:=(e3 0 (.int .u8 v) (by rw [hvs];rfl)).2.1
   simpa using this
  have hd:d=0∨d=1∨d=2∨d=3:=by omega
  rcases hd with rfl|rfl|rfl|rfl
  ·refine (zlj v _ cap w hc).mono ?_
   rintro e w' ⟨rfl,hh,hb⟩
   obtain ⟨K',g1,g2⟩:=zcD hl [] hb hh (by simp)
   exact ⟨_,K',rfl,g1,g2⟩
  ·refine (zno v _ cap w hc).mono ?_
   rintro e w' ⟨rfl,hh,hb⟩
   obtain ⟨K',g1,g2⟩:=zcD hl [v] hb hh (by simp [maxLen])
   exact ⟨_,K',rfl,g1,g2⟩
  ·refine (zmn v _ cap w hc).mono ?_
   rintro e w' ⟨rfl,hh,hb⟩
   obtain ⟨K',g1,g2⟩:=zcD hl [v,v] hb hh (by simp [maxLen])
   exact ⟨_,K',rfl,g1,g2⟩
  ·refine (zmh v _ cap w hc).mono ?_
   rintro e w' ⟨rfl,hh,hb⟩
   obtain ⟨K',g1,g2⟩:=zcD hl [v,v,v] hb hh (by simp [maxLen])
   exact ⟨_,K',rfl,g1,g2⟩
end Go.Cg
namespace Go.Cg
open Go.RowKit Go.Proofs
def zkO (t:Ty):Prop:=(Lit.int .i64 t.kind).wf=true∧(Lit.int .i64 t.index).wf=true∧(Lit.int .i64 t.dims).wf=true
def ztl (l:List Ty):Prop:=∀ t∈l,zkO t
def zvc (t:TD):Prop:=(Lit.int .i64 t.flags).wf=true∧(Lit.int .i64 t.ext).wf=true∧∀ f∈t.faces,(Lit.int .i64 f).wf=true
def zvg (f:Fd):Prop:=(Lit.int .i64 f.owner).wf=true∧zkO f.ty
def zst (x:Ins):Prop:=(Lit.int .i64 x.op).wf=true∧(Lit.int .i64 x.arg).wf=true∧zkO x.t
def zvi (c:Cl):Prop:=(Lit.int .i64 c.kind).wf=true∧(Lit.int .i64 c.tf).wf=true∧(Lit.int .i64 c.tt).wf=true∧(Lit.int .i64 c.hf).wf=true∧(Lit.int .i64 c.ht).wf=true∧(Lit.int .i64 c.filter).wf=true∧zkO c.t
def zuQ (m:Me):Prop:=(Lit.int .i64 m.owner).wf=true∧(Lit.int .i64 m.flags).wf=true∧ztl m.params∧zkO m.ret∧ztl m.locals∧(Lit.int .i64 m.max).wf=true∧(∀ x∈m.code,zst x)∧∀ c∈m.clauses,zvi c
def zuB (g:Img):Prop:=(∀ t∈g.types,zvc t)∧(∀ f∈g.fields,zvg f)∧(∀ m∈g.methods,zuQ m)∧(Lit.int .i64 g.entry).wf=true
def zv5 (l:Ty × Ty × Ty):PV:=.agg ((yK l.1).cells++((yK l.2.1).cells++(yK l.2.2).cells))
def zv6 (l:Ty × Ty × Ty):Prop:=zkO l.1∧zkO l.2.1∧zkO l.2.2
def zuZ (n:Int):Prop:=(Lit.int .u8 n).wf=true
section
variable {H:Type} {enc:TypeId × Value→H} {w:World}
theorem QY:Rd enc Tryz.prog w 3 1 (fun ps=>∃ n,(Lit.int .i64 n).wf=true∧ps=[.base (.int .i64 n)]):=zj8 Tryz.underlying3 (by kernel_rfl)
theorem ztL:Rd enc Tryz.prog w 2 1 (fun ps=>∃ n,(Lit.int .i64 n).wf=true∧ps=[.base (.int .i64 n)]):=zj8 Tryz.underlying2 (by kernel_rfl)
theorem rdBool:Rd enc Tryz.prog w 4 1 (fun ps=>∃ b,ps=[.base (.bool b)]):=zuh Tryz.underlying4 (by kernel_rfl)
theorem rdStr:Rd enc Tryz.prog w 9 1 (fun ps=>∃ s:ByteArray,s.size≤maxLen∧ps=[.base (.string s)]):=zrd Tryz.underlying9 (by kernel_rfl)
theorem zrk:Rd enc Tryz.prog w 44 4 (fun ps=>∃ t:Ty,zkO t∧ps=(yK t).cells):=by
 refine (Xn Tryz.underlying44 (by kernel_rfl) (zW rfl QY (zW rfl QY (zW rfl QY (zW rfl rdBool Vm))))).mono ?_
 rintro _ ⟨_,_,⟨a,ha,rfl⟩,⟨_,_,⟨b,hb,rfl⟩,⟨_,_,⟨c,hc,rfl⟩,⟨_,_,⟨d,rfl⟩,rfl,rfl⟩,rfl⟩,rfl⟩,rfl⟩
 exact ⟨⟨a,b,c,d⟩,⟨ha,hb,hc⟩,rfl⟩
theorem zux:Rd enc Tryz.prog w 65 1 (fun ps=>∃ l:List Ty,ztl l∧ps=[tys l]):=Vu Tryz.underlying65 (by kernel_rfl) (by decide) zrk
theorem zuX:Rd enc Tryz.prog w 59 1 (fun ps=>∃ l:List Int,(∀ n∈l,(Lit.int .i64 n).wf=true)∧ps=[ints l]) :=
 Vu (f:=pi) Tryz.underlying59 (by kernel_rfl) (by decide) QY
theorem zvT:Rd enc Tryz.prog w 61 4 (fun ps=>∃ t:TD,zvc t∧ps=(qU t).cells):=by
 refine (Xn Tryz.underlying61 (by kernel_rfl) (zW rfl rdStr (zW rfl QY (zW rfl QY (zW rfl zuX Vm))))).mono ?_
 rintro _ ⟨_,_,⟨a,ha,rfl⟩,⟨_,_,⟨b,hb,rfl⟩,⟨_,_,⟨c,hc,rfl⟩,⟨_,_,⟨d,hd,rfl⟩,rfl,rfl⟩,rfl⟩,rfl⟩,rfl⟩
 exact ⟨⟨a,b,c,d⟩,⟨hb,hc,hd⟩,rfl⟩
theorem zv0:Rd enc Tryz.prog w 237 7 (fun ps=>∃ t:Fd,zvg t∧ps=(ZI t).cells):=by
 refine (Xn Tryz.underlying237 (by kernel_rfl) (zW rfl rdStr (zW rfl QY (zW rfl zrk (zW rfl rdBool Vm))))).mono ?_
 rintro _ ⟨_,_,⟨a,ha,rfl⟩,⟨_,_,⟨b,hb,rfl⟩,⟨_,_,⟨c,hc,rfl⟩,⟨_,_,⟨d,rfl⟩,rfl,rfl⟩,rfl⟩,rfl⟩,rfl⟩
 exact ⟨⟨a,b,c,d⟩,⟨hb,hc⟩,rfl⟩
theorem zvu:Rd enc Tryz.prog w 63 6 (fun ps=>∃ t:Ins,zst t∧ps=(yR t).cells):=by
 refine (Xn Tryz.underlying63 (by kernel_rfl) (zW rfl QY (zW rfl ztL (zW rfl zrk Vm)))).mono ?_
 rintro _ ⟨_,_,⟨a,ha,rfl⟩,⟨_,_,⟨b,hb,rfl⟩,⟨_,_,⟨c,hc,rfl⟩,rfl,rfl⟩,rfl⟩,rfl⟩
 exact ⟨⟨a,b,c⟩,⟨ha,hb,hc⟩,rfl⟩
theorem zvN:Rd enc Tryz.prog w 181 10 (fun ps=>∃ t:Cl,zvi t∧ps=(ZJ t).cells):=by
 refine (Xn Tryz.underlying181 (by kernel_rfl) (zW rfl QY (zW rfl QY (zW rfl QY (zW rfl QY (zW rfl QY (zW rfl QY (zW rfl zrk Vm)))))))).mono ?_
 rintro _ ⟨_,_,⟨a,ha,rfl⟩,⟨_,_,⟨b,hb,rfl⟩,⟨_,_,⟨c,hc,rfl⟩,⟨_,_,⟨d,hd,rfl⟩,⟨_,_,⟨e,he,rfl⟩,⟨_,_,⟨f,hf,rfl⟩,⟨_,_,⟨t,ht,rfl⟩,rfl,rfl⟩,rfl⟩,rfl⟩,rfl⟩,rfl⟩,rfl⟩,rfl⟩
 exact ⟨⟨a,b,c,d,e,f,t⟩,⟨ha,hb,hc,hd,he,hf,ht⟩,rfl⟩
theorem zuK:Rd enc Tryz.prog w 64 1 (fun ps=>∃ l:List Ins,(∀ x∈l,zst x)∧ps=[.slc 6 (l.map yR) false]):=Vu Tryz.underlying64 (by kernel_rfl) (by decide) zvu
theorem zvy:Rd enc Tryz.prog w 66 1 (fun ps=>∃ l:List Cl,(∀ x∈l,zvi x)∧ps=[.slc 10 (l.map ZJ) false]):=Vu Tryz.underlying66 (by kernel_rfl) (by decide) zvN
theorem zvW:Rd enc Tryz.prog w 68 12 (fun ps=>∃ t:Me,zuQ t∧ps=(zG t).cells):=by
 refine (Xn Tryz.underlying68 (by kernel_rfl) (zW rfl rdStr (zW rfl QY (zW rfl QY (zW rfl zux (zW rfl zrk (zW rfl zux (zW rfl QY (zW rfl zuK (zW rfl zvy Vm)))))))))).mono ?_
 rintro _ ⟨_,_,⟨a,ha,rfl⟩,⟨_,_,⟨b,hb,rfl⟩,⟨_,_,⟨c,hc,rfl⟩,⟨_,_,⟨d,hd,rfl⟩,⟨_,_,⟨e,he,rfl⟩,⟨_,_,⟨f,hf,rfl⟩,⟨_,_,⟨t,ht,rfl⟩,⟨_,_,⟨x,hx,rfl⟩,⟨_,_,⟨y,hy,rfl⟩,rfl,rfl⟩,rfl⟩,rfl⟩,rfl⟩,rfl⟩,rfl⟩,rfl⟩,rfl⟩,rfl⟩
 exact ⟨⟨a,b,c,d,e,f,t,x,y⟩,⟨hb,hc,hd,he,hf,ht,hx,hy⟩,rfl⟩
theorem zvE:Rd enc Tryz.prog w 22 1 (fun ps=>∃ l:List TD,(∀ x∈l,zvc x)∧ps=[.slc 4 (l.map qU) false]):=Vu Tryz.underlying22 (by kernel_rfl) (by decide) zvT
theorem zvB:Rd enc Tryz.prog w 23 1 (fun ps=>∃ l:List Fd,(∀ x∈l,zvg x)∧ps=[.slc 7 (l.map ZI) false]):=Vu Tryz.underlying23 (by kernel_rfl) (by decide) zv0
theorem zvw:Rd enc Tryz.prog w 24 1 (fun ps=>∃ l:List Me,(∀ x∈l,zuQ x)∧ps=[.slc 12 (l.map zG) false]):=Vu Tryz.underlying24 (by kernel_rfl) (by decide) zvW
theorem zv3:Rd enc Tryz.prog w 26 4 (fun ps=>∃ t:Img,zuB t∧ps=(zx t).cells):=by
 refine (Xn Tryz.underlying26 (by kernel_rfl) (zW rfl zvE (zW rfl zvB (zW rfl zvw (zW rfl QY Vm))))).mono ?_
 rintro _ ⟨_,_,⟨a,ha,rfl⟩,⟨_,_,⟨b,hb,rfl⟩,⟨_,_,⟨c,hc,rfl⟩,⟨_,_,⟨d,hd,rfl⟩,rfl,rfl⟩,rfl⟩,rfl⟩,rfl⟩
 exact ⟨⟨a,b,c,d⟩,⟨ha,hb,hc,hd⟩,rfl⟩
end
theorem own:ownKnob Tryz.prog.godebug=none:=by kernel_rfl
theorem laidOut:laidOutB Tryz.prog=true:=by kernel_rfl
theorem zv7 {H:Type} {enc:TypeId × Value→H} {w:World}:Rd enc Tryz.prog w 5 1 (fun ps=>∃ n,zuZ n∧ps=[.base (.int .u8 n)]):=zj8 Tryz.underlying5 (by kernel_rfl)
theorem zvI {n:Int} (h:zuZ n):0≤n∧n≤255:=by
 simp [zuZ,Lit.wf,IntKind.has,IntKind.min,IntKind.max,IntKind.bits,IntKind.signed] at h;omega
def zu4 (n:Int):Prop:=(Lit.int .i8 n).wf=true
theorem zvK {H:Type} {enc:TypeId × Value→H} {w:World}:Rd enc Tryz.prog w 39 1 (fun ps=>∃ n,zu4 n∧ps=[.base (.int .i8 n)]):=zj8 Tryz.underlying39 (by kernel_rfl)
end Go.Cg
namespace Go.Cg
open Go.RowKit
section
variable {P:Program} {tb:Tab} {n:Nat} {g:Base} {K:KK} {w:World} {ρ:Nat→Value} {H:HEnv} {env:Env} {a:Act} {ops:List Oper} {o:Oper} {rest:List Oper} {Q:Env→HEnv→Prop} {QQ:QC} {c:Code}
theorem ziH {sz:Nat} (hz:0 < sz) {es ps:List PV} {xs vs:List Value} {off:Nat} (h:CellsRel K w sz es xs) (hp:CellsRel K w sz ps vs) (hx:xs.length=es.length * sz) (hv:vs.length=ps.length * sz) (ho:off + ps.length≤es.length) :
  CellsRel K w sz (es.take off++ps++es.drop (off + ps.length)) (xs.take (off * sz)++vs++xs.drop (off * sz + vs.length)):=by
 have hmul:off * sz + vs.length=(off + ps.length) * sz:=by rw [hv,Nat.add_mul]
 have hle:(off + ps.length) * sz≤xs.length:=by rw [hx];exact Nat.mul_le_mul_right sz ho
 intro i e he
 rw [Yr ho] at he
 split at he
 ·rename_i h1
  obtain ⟨c1,c2⟩:=h i e he
  refine ⟨c1,fun k c hc=>?_⟩
  have hk:k < sz:=by have:=(List.getElem?_eq_some_iff.1 hc).1;omega
  obtain ⟨v,v1,v2,v3⟩:=c2 k c hc
  have hlt:i * sz + k < off * sz:=by
   have:=Nat.mul_le_mul_right sz (show i + 1≤off by omega)
   rw [Nat.add_mul] at this;omega
  exact ⟨v,by rw [Yr (by omega),if_pos hlt];exact v1,v2,v3⟩
 ·split at he
  ·rename_i h1 h2
   obtain ⟨c1,c2⟩:=hp (i - off) e he
   refine ⟨c1,fun k c hc=>?_⟩
   have hk:k < sz:=by have:=(List.getElem?_eq_some_iff.1 hc).1;omega
   obtain ⟨v,v1,v2,v3⟩:=c2 k c hc
   have e1:(i - off) * sz + off * sz=i * sz:=by rw [←Nat.add_mul];congr 1;omega
   have hlt:i * sz + k < off * sz + vs.length:=by
    have:=Nat.mul_le_mul_right sz (show i + 1≤off + ps.length by omega)
    rw [Nat.add_mul] at this;omega
   exact ⟨v,by rw [Yr (by omega),if_neg (by omega),if_pos hlt,show i * sz + k - off * sz=(i - off) * sz + k by omega];exact v1,v2,v3⟩
  ·rename_i h1 h2
   obtain ⟨c1,c2⟩:=h i e he
   refine ⟨c1,fun k c hc=>?_⟩
   obtain ⟨v,v1,v2,v3⟩:=c2 k c hc
   have hge:off * sz + vs.length≤i * sz:=by rw [hmul];exact Nat.mul_le_mul_right sz (by omega)
   exact ⟨v,by rw [Yr (by omega),if_neg (by omega),if_neg (by omega)];exact v1,v2,v3⟩
theorem FS.spliceZ (hf:FS g K ρ H w) {i e b cap off sz:Nat} {es ps:List PV} {cur:Array Value} {vs:List Value} (hi:H.get i=some (.mrow e sz es)) (hρ:ρ i=.slice (some ⟨b,0,none⟩) es.length cap) (hheap:w.heap[b]?=some (.cells cur e (0,0)))
  (hp:CellsRel K w sz ps vs) (hv:vs.length=ps.length * sz) (ho:off + ps.length≤es.length) {arr:Array Value} (harr:arr=(cur.toList.take (off * sz)++vs++cur.toList.drop (off * sz + vs.length)).toArray) :
  FS g K ρ ((i,.mrow e sz (es.take off++ps++es.drop (off + ps.length)))::H) (w.setRow b arr)∧Later K K w (w.setRow b arr):=by
 obtain ⟨xs,hown,h0,hcr,hnK⟩:=hf.heap.ok i _ hi
 rcases hown.2 with ⟨hr,_⟩|⟨b',cap',cur',hr,hB,hheap',hec,hcap,hsize,htake⟩
 ·rw [hρ] at hr;simp at hr
 ·rw [hρ] at hr
  simp only [Value.slice.injEq,Option.some.injEq,Addr.mk.injEq,and_true,true_and] at hr
  obtain ⟨rfl,rfl⟩:=hr
  rw [hheap] at hheap'
  simp only [Option.some.injEq,Obj.cells.injEq,and_true] at hheap'
  subst hheap'
  have hlen:(es.take off++ps++es.drop (off + ps.length)).length=es.length:=by rw [List.length_append,List.length_append,List.length_take,List.length_drop];omega
  have hgrow:w.grownBy (w.setRow b arr) (some b):=⟨rfl,rfl,rfl,by simp,fun k _ hk=>setRow_other w b k _ (fun e=>hk (by simp [e]))⟩
  have hnKb:∀ o,¬ K b o:=hnK b (by rw [hρ];rfl)
  have hlat:Later K K w (w.setRow b arr):=⟨fun _ _ h=>h,fun b' o hk=>by
   have:b'≠b:=by rintro rfl;exact hnKb o hk
   exact cell_setRow_other w b _ ⟨b',o,none⟩ this⟩
  have hxl:xs.length=es.length * sz:=hown.1
  have hmul:off * sz + vs.length=(off + ps.length) * sz:=by rw [hv,Nat.add_mul]
  have hle:off * sz + vs.length≤es.length * sz:=by rw [hmul];exact Nat.mul_le_mul_right sz ho
  have hec':es.length * sz≤cur.size:=by rw [hsize];exact Nat.mul_le_mul_right sz hec
  have hkeep:∀ j,(H.get j).isSome=true→(HEnv.get ((i,.mrow e sz (es.take off++ps++es.drop (off + ps.length)))::H) j).isSome=true∧ρ j=ρ j:=by
   intro j hj
   refine ⟨?_,rfl⟩
   rw [HEnv.get_cons]
   split
   ·rfl
   ·exact hj
  refine ⟨⟨hf.below.grown hgrow hf.below.size (fun k hk=>by simp at hk;omega),hf.old,hf.new,fun b o hk=>by have:=hf.lt b o hk;simpa using this,hf.others.trans (zdr hheap hgrow),hf.pt.grown hf.old hgrow hlat (fun b2 hb2=>by cases hb2;exact hf.away i _ b hi rfl (by rw [hρ];rfl)) (fun _ _ h=>.inl h),hf.away.set hi rfl,?_,?_⟩,hlat⟩
  ·intro j' e' hj
   rw [HEnv.get_cons] at hj
   split at hj
   ·rename_i e1;subst e1
    simp only [Option.some.injEq] at hj;subst hj
    refine ⟨xs.take (off * sz)++vs++xs.drop (off * sz + vs.length),⟨?_,.inr ⟨b,cap,arr,by rw [hρ,hlen],hB,setRow_heap w b cur _ e _ hheap,by rw [hlen];exact hec,hcap,?_,?_⟩⟩,h0,?_,fun b' hb'=>hnK b' hb'⟩
    ·rw [hlen,List.length_append,List.length_append,List.length_take,List.length_drop];omega
    ·rw [←hsize,harr,List.size_toArray,List.length_append,List.length_append,List.length_take,List.length_drop,Array.length_toList];omega
    ·rw [hlen,harr,←htake]
     have h9:cur.toList.length=cur.size:=by simp
     exact zfI (by omega) (by omega)
    ·have:=ziH (off:=off) h0 hcr hp hxl hv ho
     intro i1 e1 he1
     obtain ⟨c1,c2⟩:=this i1 e1 he1
     exact ⟨c1,fun k c hc=>let ⟨v,v1,v2,v3⟩:=c2 k c hc;⟨v,v1,v2,v3.later hlat⟩⟩
   ·rename_i hne
    by_cases hlive:e'.live=true
    ·have:=(hf.heap.ok j' e' hj).grown (f:=id) hgrow hlat (fun b o h=>.inl h) (fun av v h=>h.keeps hlat hkeep) hlive (fun b' hb' e'=>by
      simp at e';subst e'
      exact hf.heap.apart i j' _ _ b hne hi hj rfl hlive (by rw [hρ];rfl) hb')
     cases e' <;> exact this
    ·cases e' <;> simp [HE.live] at hlive
     ·trivial
     ·exact ARel.keeps hlat hkeep (hf.heap.ok j' _ hj)
  ·intro j' k' e1 e2 bb hjk hj hk' hlj hlk hbj hbk
   have f1:∀ (j:Nat) (hh:HE),HEnv.get ((i,.mrow e sz (es.take off++ps++es.drop (off + ps.length)))::H) j=some hh→hh.live=true→∃ h0,H.get j=some h0∧h0.live=true:=by
    intro j hh hj hl
    rw [HEnv.get_cons] at hj
    split at hj
    ·rename_i e';subst e';exact ⟨_,hi,rfl⟩
    ·exact ⟨hh,hj,hl⟩
   obtain ⟨a1,a2,a3⟩:=f1 j' e1 hj hlj
   obtain ⟨b1,b2,b3⟩:=f1 k' e2 hk' hlk
   exact hf.heap.apart j' k' a1 b1 bb hjk a2 b2 a3 b3 hbj hbk
theorem zsh (sz:Nat) {b n c l h:Nat}:cut sz (.slice (some ⟨b,0,none⟩) n c) l h=.slice (some ⟨b,l * sz,none⟩) (h - l) (c - l):=rfl
theorem zie (hf:FS g K ρ H w) {i j e sz:Nat} {u:Value} {es:List PV} (hi:H.get i=some (.mrow e sz es)) (hj:H.get j=some (.pin (.own i) u)) (h0:0 < es.length):u=ρ i∧∃ b cap,ρ i=.slice (some ⟨b,0,none⟩) es.length cap∧es.length≤cap:=by
 have hu:u=ρ i:=by
  have h9:ARel K w ρ H (.own i) u:=hf.heap.ok j _ hj
  cases h9;rfl
 refine ⟨hu,?_⟩
 obtain ⟨xs,hown,_,_,_⟩:=hf.heap.ok i _ hi
 rcases hown.2 with ⟨_,hz⟩|⟨b,cap,cur,hr,_,_,hle,_,_,_⟩
 ·omega
 ·exact ⟨b,cap,hr,hle⟩
theorem YP (htb:yA P tb) {t e:Nat} {x y:Operand} {i j l h sz:Nat} {u:Value} {es:List PV} {kk:IntKind} {m:Int} (k:Nat) (hop:o.op=.indexAddr t x y) (hx:env.val x=some (.pv (.base (cut sz u l h)))) (hj:H.get j=some (.pin (.own i) u)) (hi:H.get i=some (.mrow e sz es))
  (hk:tb.k t=.sl e) (hke:tb.known e=true) (hsz:tb.size e=sz) (hy:env.pv H y=some (.base (.int kk m))) (hm:m=(k:Nat)) (hlt:l + k < h) (hh:h≤es.length):QStep P g H o env (.ad i ((l + k) * sz)):=by
 refine ⟨fun K ρ a w hf hv=>?_⟩
 have hxr:=hv x (by rw [hop];simp [Op.operands]) _ hx
 have hyr:=yH (a:=a) hf (x:=y) (hv y (by rw [hop];simp [Op.operands])) hy
 generalize hxv:a.eval x=xv at hxr
 generalize hyv:a.eval y=yv at hyr
 obtain ⟨rfl,b,cap,hr,hcap⟩:=zie hf hi hj (by omega)
 subst hm
 cases hyr
 cases hxr with
 | pv _ _ hpr =>
  rw [hr,zsh] at hpr
  cases hpr
  have hko:tb.k e≠.oth:=by intro h;simp [Tab.known,h] at hke
  have hs:=run_sizeOf htb hko w
  have hrun:(execOp a.eval o).run P w=.ok (.value (.pointer (some ⟨b,(l + k) * sz,none⟩))) w:=by
   have e1:l * sz + k * sz=(l + k) * sz:=by rw [Nat.add_mul]
   have hk2:k < h - l:=by omega
   simp [execOp,hop,hxv,hyv,Instr.indexAt,asIntOf,run_underlying (yS htb hk),hs,hsz,Addr.add_lit,e1,hk2]
  rw [hrun]
  exact Zm hf (.ad i ((l + k) * sz) b es.length cap (by rw [hi];rfl) hr)
theorem zha (htb:yA P tb) {ty e:Nat} {x:Operand} {i j l h sz:Nat} {u:Value} {es:List PV} (hop:o.op=.call { callee:=.builtin .len,args:=#[x],argTypes:=#[ty] }) (hx:env.val x=some (.pv (.base (cut sz u l h)))) (hj:H.get j=some (.pin (.own i) u)) (hi:H.get i=some (.mrow e sz es)) (hk:tb.k ty=.sl e) (h0:0 < es.length):QStep P g H o env (.pv (.base (.int .i64 ((h - l:Nat):Int)))):=by
 refine ⟨fun K ρ a w hf hv=>?_⟩
 have hxr:=hv x (by rw [hop];simp [Op.operands,Call.operands]) _ hx
 generalize hxv:a.eval x=xv at hxr
 obtain ⟨rfl,b,cap,hr,hcap⟩:=zie hf hi hj h0
 cases hxr with
 | pv _ _ hpr =>
  rw [hr,zsh] at hpr
  cases hpr
  have hrun:(execOp a.eval o).run P w=.ok (.value (.int .i64 ((h - l:Nat):Int))) w:=by
   simp [execOp,hop,hxv,resolve,invoke,builtin,Builtin.len_,run_underlying (yS htb hk),goInt]
  rw [hrun]
  exact Zm hf (.pv _ _ (.base _ rfl))
theorem zsZ {sz:Nat} {es:List PV} {full:Bool} {b o cap h:Nat} (hh:h≤es.length) (hp:PRel K w (.slc sz es full) (.slice (some ⟨b,o,none⟩) es.length cap)):PRel K w (.slc sz (es.take h) false) (.slice (some ⟨b,o,none⟩) h cap):=by
 have hl:(es.take h).length=h:=by rw [List.length_take];omega
 generalize hes:es=es' at hp
 generalize hn:es'.length=m at hp
 have sub:∀ {i:Nat} {e:PV},(es.take h)[i]?=some e→es[i]?=some e:=fun {i e} hi=>by
  rw [List.getElem?_take] at hi
  split at hi
  ·exact hi
  ·cases hi
 cases hp with
 | emp =>
  have:es=[]:=hes
  subst this
  simp at hl;subst hl
  exact .emp sz false _
 | slc _ _ _ _ _ _ vss h0 h1 h2 h3 h4 h5 h6 =>
  subst hes
  have:=PRel.slc (K:=K) (w:=w) sz (es.take h) false b o cap vss h0 (by omega) (by simp) (by omega) h4 (fun i e hi=>h5 i e (sub hi)) (fun i e k c v hi=>h6 i e k c v (sub hi))
  rwa [hl] at this
theorem zq3 {t i j e sz h:Nat} {u:Value} {es:List PV} {a:Act} {w:World} (ht:env.get t=some (.pv (.base (cut sz u 0 h)))) (hi:H.get i=some (.row e sz es)) (hj:H.get j=some (.pin (.own i) u)) (hh:h≤es.length) (h0:0 < es.length) (hinv:Inv n g env H a w):Inv n g ((t,.pv (.slc sz (es.take h) false))::env) H a w:=by
 obtain ⟨g1,g2,K,ρ,hf,he⟩:=hinv
 refine ⟨g1,g2,K,ρ,hf,fun t' av hg=>?_⟩
 rw [Env.get_cons] at hg
 split at hg
 ·rename_i e1;subst e1
  simp only [Option.some.injEq] at hg;subst hg
  obtain ⟨v,h1,h2⟩:=he _ _ ht
  refine ⟨v,h1,.pv _ _ ?_⟩
  have hu:u=ρ i:=by
   have h9:ARel K w ρ H (.own i) u:=hf.heap.ok j _ hj
   cases h9;rfl
  have hrow:=ze2 hf hi (.own i (by rw [hi];rfl))
  obtain ⟨xs,hown,_,_,_⟩:=hf.heap.ok i _ hi
  cases h2 with
  | pv _ _ hp =>
   rcases hown.2 with ⟨_,hz⟩|⟨b,cap,cur,hr,_,_,hle,_,_,_⟩
   ·omega
   ·rw [hu,hr] at hp
    rw [hr] at hrow
    cases hp
    have:=zsZ hh hrow
    simpa [cut] using this
 ·exact he t' av hg
theorem zoK (htb:yA P tb) {t e sz:Nat} {x:Operand} {i j l h:Nat} {u:Value} {es:List PV} {z:PV} {zv:Value} (hg:guardE ops env o=some true) (hop:o.op=.call { callee:=.builtin .clear,args:=#[x],argTypes:=#[t] }) (hk:tb.k t=.sl e)
  (hx:env.val x=some (.pv (.base (cut sz u l h)))) (hj:H.get j=some (.pin (.own i) u)) (hi:H.get i=some (.mrow e sz es)) (hlh:l≤h) (hh:h≤es.length) (h0:0 < es.length)
  (hz:tb.zero e=some zv) (hzz:zce zv=some z) (hzc:zv.cells.size=sz) (hd:o.dst=none)
  (k:AO P n g ops.toArray rest env ((i,.mrow e sz (es.take l++List.replicate (h - l) z++es.drop (l + (h - l))))::H) Q):AO P n g ops.toArray (o::rest) env H Q:=by
 refine ⟨fun a w hinv=>?_⟩
 have hw:=yB hinv hg
 obtain ⟨g1,g2,K,ρ,hf,he⟩:=hinv
 refine wpList_step fun KK hKK=>?_
 rw [if_pos hw]
 have hxr:=yL he hx
 generalize hxv:a.eval x=xv at hxr
 have hu:u=ρ i:=by
  have h9:ARel K w ρ H (.own i) u:=hf.heap.ok j _ hj
  generalize hru:ρ i=ri
  cases h9 with
  | own _ _=>exact hru
 subst hu
 obtain ⟨xs,hown,hs0,hcr,hnK⟩:=hf.heap.ok i _ hi
 have hzi:(zeroValue e).run P w=.ok zv w:=by
  have hz':=hz
  unfold Tab.zero at hz'
  split at hz'
  ·rename_i ti hti
   obtain ⟨tin,e1,_,_,e4,_⟩:=Zg htb hti
   simp [zeroValue,typeInfo,e1,e4,hz']
  ·cases hz'
 obtain ⟨hzr,hznt⟩:=zc0 (K:=K) (w:=w) hzz
 have hzcr:=ZM hzr
 have hzo:=cells_one hzr hznt
 have hzl:z.cells.length=sz:=by rw [←hzcr.1,←hzc];simp
 have hlen:(Builtin.zeroCells zv.cells (h - l)).toList.length=(h - l) * sz:=by simp [Builtin.zeroCells,hzc]
 have hget:∀ m,m < (h - l) * sz→(Builtin.zeroCells zv.cells (h - l)).toList[m]?=zv.cells[m % sz]?:=by
  intro m hm
  have hm2:m % sz < zv.cells.size:=by rw [hzc];exact Nat.mod_lt _ hs0
  simp only [Builtin.zeroCells,Array.toList_map,List.getElem?_map,hzc]
  rw [Array.toList_range,List.getElem?_range hm]
  simp [Array.getElem?_eq_getElem hm2,getElem!_pos zv.cells (m % sz) hm2]
 have hone:∀ v∈(Builtin.zeroCells zv.cells (h - l)).toList,v.oneCell'=true:=by
  intro v hv
  obtain ⟨m,hm⟩:=List.getElem?_of_mem hv
  have hlt:=(List.getElem?_eq_some_iff.1 hm).1
  rw [hlen] at hlt
  rw [hget m hlt] at hm
  exact hzo v (Array.mem_toList_iff.2 (Array.mem_of_getElem? hm))
 have hrep:CellsRel K w sz (List.replicate (h - l) z) (Builtin.zeroCells zv.cells (h - l)).toList:=by
  intro m p hm
  have hml:m < h - l:=by have:=(List.getElem?_eq_some_iff.1 hm).1;simpa using this
  have hpz:p=z:=by rw [List.getElem?_replicate,if_pos hml] at hm;simpa using hm.symm
  subst hpz
  refine ⟨hzl,fun q c hc=>?_⟩
  have hq:q < sz:=by have:=(List.getElem?_eq_some_iff.1 hc).1;omega
  have hlt:m * sz + q < (h - l) * sz:=by
   have:=Nat.mul_le_mul_right sz (show m + 1≤h - l by omega)
   rw [Nat.add_mul] at this;omega
  have hq2:q < zv.cells.size:=by omega
  refine ⟨zv.cells[q],?_,hzo _ (Array.mem_toList_iff.2 (Array.getElem_mem hq2)),hzcr.2 q c _ hc (by simp [hq2])⟩
  rw [hget _ hlt,Nat.add_comm,Nat.add_mul_mod_self_right,Nat.mod_eq_of_lt hq]
  simp [hq2]
 cases hxr with
 | pv _ _ hpr =>
  cases hpr
  rcases hown.2 with ⟨hr,hz0⟩|⟨b,cap,cur,hr,hB,hheap,hle,hcap,hsize,htake⟩
  ·omega
  ·obtain ⟨arr,harr⟩:∃ arr,arr=(cur.toList.take (l * sz)++(Builtin.zeroCells zv.cells (h - l)).toList++cur.toList.drop (l * sz + (Builtin.zeroCells zv.cells (h - l)).toList.length)).toArray:=⟨_,rfl⟩
   obtain ⟨hfs2,hlat⟩:=FS.spliceZ hf hi hr hheap hrep (by rw [hlen,List.length_replicate]) (by rw [List.length_replicate];omega) harr
   rw [List.length_replicate] at hfs2
   have hfit:l * sz + (Builtin.zeroCells zv.cells (h - l)).toList.length≤cur.size:=by
    rw [hlen,←Nat.add_mul,hsize];exact Nat.mul_le_mul_right sz (by omega)
   have hst:=run_storeCells_at P b (l * sz) e (Builtin.zeroCells zv.cells (h - l)).toList 0 cur w hheap (by omega) hone
   simp only [Nat.add_zero] at hst
   rw [←harr] at hst
   have hrun:(execOp a.eval o).run P w=.ok (.value (.tuple #[])) (w.setRow b arr):=by
    by_cases hz0:h - l=0
    ·have harr2:arr=cur:=by
      have:(Builtin.zeroCells zv.cells (h - l)).toList=[]:=List.eq_nil_of_length_eq_zero (by rw [hlen,hz0,Nat.zero_mul])
      rw [harr,this];simp
     have hset:w.setRow b cur=w:=setRow_self w b cur e (0,0) hheap
     rw [harr2,hset]
     simp [execOp,hop,hxv,hr,resolve,invoke,builtin,Builtin.clear_,run_underlying (yS htb hk),cut,hz0]
    ·obtain ⟨m,hm⟩:∃ m,h - l=m + 1:=⟨h - l - 1,by omega⟩
     rw [hm] at hst
     simp [execOp,hop,hxv,hr,resolve,invoke,builtin,Builtin.clear_,run_underlying (yS htb hk),cut,hm,hzi,hst]
   unfold Oper.wp
   rw [hrun]
   simp only [Oper.upon]
   have hd':a.put o.dst (.tuple #[])=a:=by rw [hd];rfl
   rw [hd']
   refine hKK _ _ (k.go _ _ ⟨g1,g2,K,ρ,hfs2,he.keeps hlat fun m hm=>⟨by rw [HEnv.get_cons];split <;> first|rfl|exact hm,rfl⟩⟩)
end
end Go.Cg
namespace Go.Cg
open Go.RowKit Go.Proofs
def zsV (n:Int):Prop:=(Lit.int .i64 n).wf=true
theorem zv4 {H:Type} {enc:TypeId × Value→H} {w:World}:Rd enc Tryz.prog w 3 1 (fun ps=>∃ n,zsV n∧ps=[.base (.int .i64 n)]):=QY
theorem zvs {n:Int} (h:zsV n) : -9223372036854775808≤n∧n≤9223372036854775807:=by
 simp [zsV,Lit.wf,IntKind.has,IntKind.min,IntKind.max,IntKind.bits,IntKind.signed] at h;omega
theorem zvk {g:Img} (h:zuB g):∀ m∈g.methods,∀ x∈m.code,zd0 x:=fun m hm x hx=>by
 have:=((h.2.2.1 m hm).2.2.2.2.2.2.1 x hx).2.1
 simp [Lit.wf,IntKind.has,IntKind.min,IntKind.max,IntKind.bits,IntKind.signed] at this
 exact ⟨by omega,by omega⟩
end Go.Cg
namespace Go.Cg
open Go Go.Proofs
theorem zus:laidOutB Tryz.checked.prog=true:=by kernel_rfl
theorem zt2:mapsRowed Tryz.checked.prog=true:=by kernel_rfl
theorem zro:Tryz.checked.prog.stopsHeard=true:=by kernel_rfl
theorem zsK:Tryz.checked.prog.mayEnter=true:=by kernel_rfl
theorem zta:Tryz.checked.prog.liftsFinal=false:=by kernel_rfl
theorem ztv:Tryz.checked.prog.make=some .cut:=by kernel_rfl
end Go.Cg
