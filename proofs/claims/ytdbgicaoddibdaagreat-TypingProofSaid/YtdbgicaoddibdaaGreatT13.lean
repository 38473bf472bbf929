/- A part of the walks by abstract values: no statement of its own. -/
import Derived.Test.YtdbgicaoddibdaaGreatT5
import Derived.Test.YtdbgicaoddibdaaGreatT7
import Derived.Shelf.RegionOpenPlain
import Derived.WalkKit
import Derived.Lib.Walk
import Derived.Lib.SliceRun
import Derived.Lib.AppendZerosOnto
import Derived.Laws.CopyOwn
import Derived.OwnWalk
import Derived.Deep.RegionLaw
set_option linter.unusedVariables false
set_option linter.unusedSimpArgs false
set_option linter.unusedVariables false
set_option linter.unusedSimpArgs false
namespace Go.Cg
open Go.Proofs Go.Shelf Go.RowKit Go.Lib
set_option maxHeartbeats 20000000
theorem zrh (d:Int) (hd:d=0∨d=1∨d=2∨d=3) (w:World):Calls Tryz.prog 279 #[.int .u64 1,.int .u64 d] w fun e w'=>e=.returned (.tuple #[.int .u64 0,.int .u64 d])∧w'=w:=by
 rcases hd with rfl|rfl|rfl|rfl
 all_goals
  go_enter Tryz.func279,Tryz.ntmps279
  go_wp2
  go_ret2
  exact ⟨by kernel_rfl,rfl⟩
theorem zhH (d:Int) (hd:d=0∨d=1∨d=2∨d=3) (w:World):Calls Tryz.prog 270 #[.int .u64 1,.int .u64 d] w fun e w'=>e=.returned (.tuple #[.int .u64 0,.int .u64 d])∧w'=w:=by
 have h1:=zrh d hd
 go_enter Tryz.func270,Tryz.ntmps270
 go_wp2_with (refine (h1 _).mono ?_;rintro e w' ⟨rfl,rfl⟩)
 go_ret2
 exact ⟨rfl,rfl⟩
theorem info5:∃ i,Tryz.prog.info? 5=some i∧i.zero=some (.int .u8 0)∧i.size=1∧i.bytes=1:=by
 obtain ⟨i,h1,h2,h3,h4,_⟩:=ZJ (t:=5) zf rfl;exact ⟨i,h1,h4,h2,h3⟩
theorem Addr.add_zero' (a:Addr):a.add 0=a:=by cases a;rfl
theorem zaK {w:World} {a:Addr} {v:Value} (o:Obj) (h:w.cell? a=some v):(w.alloc o).cell? a=some v:=by
 have hlt:a.block < w.heap.size:=by
  unfold World.cell? at h;split at h
  ·rename_i hb;exact (Array.getElem?_eq_some_iff.1 hb).1
  ·cases h
 have hb:Below w.heap.size w (w.alloc o):=(Below.refl _ _).alloc (Nat.le_refl _) _;unfold World.cell? at h ⊢;rw [hb.block _ hlt];exact h
set_option maxRecDepth 100000 in
theorem znD (v:Int) (ad:Addr) (c:Nat) (w:World) (hv:w.cell? ad=some (.int .u8 v)):Calls Tryz.prog 257 #[.slice (some ad) 1 c,.int .i64 1] w fun e w' =>
  e=.returned (.slice (some ⟨w.heap.size,0,none⟩) 1 1)∧w'.heap[w.heap.size]?=some (.cells #[.int .u8 v] 5 (0,0))∧Below w.heap.size w w':=by
 obtain ⟨i0,hi0,hz0,hs0,hb0⟩:=info5;have h1:=zhH 1 zwy67;have hmk:∀ w:World,(Instr.makeSlice 248 (.int .i64 1) (.int .i64 1)).run Tryz.prog w=.ok (.slice (some ⟨w.heap.size,0,none⟩) 1 1) (w.alloc (.cells #[.int .u8 0] 5)):=fun w=>by
  have:=run_makeSlice (P:=Tryz.prog) w 248 5 i0 (.int .u8 0) Tryz.underlying248 hi0 hz0 .i64 .i64 1 1 zwy62 zwy62 (by simp [hs0]) (by simp [hb0]) zwy62;rw [hs0] at this;have e:madeCells (Value.int .u8 0).cells (Int.toNat 1 * 1)=#[.int .u8 0]:=by simp [madeCells,Value.cells,Array.range];rfl
  rw [e] at this;exact this
 have hsz:(Tryz.prog.info? 5).map (·.size)=some 1:=by rw [hi0];simp [hs0]
 go_enter Tryz.func257,Tryz.ntmps257
 go_wp2_with (first|(refine (h1 _).mono ?_;rintro e w2 ⟨rfl,hw2⟩;rw [hw2];clear hw2 w2)|(refine wpList_copy_splice rfl _ _ _ _ rfl 5 Tryz.underlying248 hsz _ _ _ _ _ _ rfl rfl w.heap.size 0 [.int .u8 0] 5 ?_ [.int .u8 v] (by rfl) ?_ zwy63 zwy104 w.heap.size w ?_ (Nat.le_refl _) ?_))
 ·exact heap_alloc_new w _
 ·intro j u hj;cases j with
  | zero =>
   simp at hj;subst hj;rw [Addr.add_zero',zaK _ hv]
  | succ j=>simp at hj
 ·exact (Below.refl _ _).alloc (Nat.le_refl _) _
 ·intro w2 hh hb
  go_wp2
  refine wp_loop_once ?_
  go_wp2
  go_ret
  exact ⟨rfl,by simpa [splice] using (show _=_ from hh),hb⟩
end Go.Cg
set_option linter.unusedVariables false
set_option linter.unusedSimpArgs false
namespace Go.Cg
open Go.Proofs Go.Shelf Go.RowKit Go.Lib
set_option maxHeartbeats 4000000 in
set_option maxRecDepth 100000 in
theorem zmK (v:Int) (ad:Addr) (c:Nat) (w:World) (hv:w.cell? ad=some (.int .u8 v)):Calls Tryz.prog 257 #[.slice (some ad) 1 c,.int .i64 2] w fun e w' =>
  e=.returned (.slice (some ⟨w.heap.size,0,none⟩) 2 2)∧w'.heap[w.heap.size]?=some (.cells #[.int .u8 v,.int .u8 v] 5 (0,0))∧Below w.heap.size w w':=by
 obtain ⟨i0,hi0,hz0,hs0,hb0⟩:=info5;have h1:=zhH 2 zwy67;have hmk:∀ w:World,(Instr.makeSlice 248 (.int .i64 2) (.int .i64 2)).run Tryz.prog w=.ok (.slice (some ⟨w.heap.size,0,none⟩) 2 2) (w.alloc (.cells #[.int .u8 0,.int .u8 0] 5)):=fun w=>by
  have:=run_makeSlice (P:=Tryz.prog) w 248 5 i0 (.int .u8 0) Tryz.underlying248 hi0 hz0 .i64 .i64 2 2 zwy62 zwy62 (by simp [hs0]) (by simp [hb0]) zwy62;rw [hs0] at this;have e:madeCells (Value.int .u8 0).cells (Int.toNat 2 * 1)=#[.int .u8 0,.int .u8 0]:=by simp [madeCells,Value.cells,Array.range];rfl
  rw [e] at this;exact this
 have hsz:(Tryz.prog.info? 5).map (·.size)=some 1:=by rw [hi0];simp [hs0]
 go_enter Tryz.func257,Tryz.ntmps257
 go_wp2_with (first|(refine (h1 _).mono ?_;rintro e w2 ⟨rfl,hw2⟩;rw [hw2];clear hw2 w2)|(refine wpList_copy_splice rfl _ _ _ _ rfl 5 Tryz.underlying248 hsz _ _ _ _ _ _ rfl rfl w.heap.size 0 [.int .u8 0,.int .u8 0] 5 ?_ [.int .u8 v] (by rfl) ?_ zwy63 zwy104 w.heap.size w ?_ (Nat.le_refl _) ?_))
 ·exact heap_alloc_new w _
 ·intro j u hj;cases j with
  | zero =>
   simp at hj;subst hj;rw [Addr.add_zero',zaK _ hv]
  | succ j=>simp at hj
 ·exact (Below.refl _ _).alloc (Nat.le_refl _) _
 ·intro w2 hh hb;have hh':w2.heap[w.heap.size]?=some (.cells #[.int .u8 v,.int .u8 0] 5 (0,0)):=by simpa [splice] using (show _=_ from hh)
  go_wp2
  refine wp_loop_rounds 2 ?_;unfold Code.rounds
  go_wp2
  have hsrc:∀ j u,([.int .u8 v]:List Value)[j]?=some u→w2.cell? ((⟨w.heap.size,0,none⟩:Addr).add j)=some u:=by
   intro j u hj;cases j with
   | zero=>simp at hj;subst hj;rw [Addr.add_zero'];simp [World.cell?,hh']
   | succ j=>simp at hj
  go_region_law (refine step_copy_splice rfl (.tmp 41) (.tmp 44) 248 248 rfl 5 Tryz.underlying248 hsz (some ⟨w.heap.size,1,none⟩) (some ⟨w.heap.size,0,none⟩) 1 1 1 2 zwy101 zwy101 w.heap.size 1 [.int .u8 v,.int .u8 0] 5 hh' [.int .u8 v] (by rfl) (fun _=>⟨rfl,_,rfl,hsrc⟩) zwy63 zwy104 w.heap.size w hb.drew (Nat.le_refl _) ?_;intro w3 hh3 hb3)
  go_wp2
  rw [rounds_succ]
  go_wp2
  go_ret
  exact ⟨rfl,by simpa [splice] using (show _=_ from hh3),hb3⟩
end Go.Cg
set_option linter.unusedVariables false
set_option linter.unusedSimpArgs false
namespace Go.Cg
open Go.Proofs Go.Shelf Go.RowKit Go.Lib
set_option maxHeartbeats 4000000 in
set_option maxRecDepth 100000 in
theorem zma (v:Int) (ad:Addr) (c:Nat) (w:World) (hv:w.cell? ad=some (.int .u8 v)):Calls Tryz.prog 257 #[.slice (some ad) 1 c,.int .i64 3] w fun e w' =>
  e=.returned (.slice (some ⟨w.heap.size,0,none⟩) 3 3)∧w'.heap[w.heap.size]?=some (.cells #[.int .u8 v,.int .u8 v,.int .u8 v] 5 (0,0))∧Below w.heap.size w w':=by
 obtain ⟨i0,hi0,hz0,hs0,hb0⟩:=info5;have h1:=zhH 3 zwy67;have hmk:∀ w:World,(Instr.makeSlice 248 (.int .i64 3) (.int .i64 3)).run Tryz.prog w=.ok (.slice (some ⟨w.heap.size,0,none⟩) 3 3) (w.alloc (.cells #[.int .u8 0,.int .u8 0,.int .u8 0] 5)):=fun w=>by
  have:=run_makeSlice (P:=Tryz.prog) w 248 5 i0 (.int .u8 0) Tryz.underlying248 hi0 hz0 .i64 .i64 3 3 zwy62 zwy62 (by simp [hs0]) (by simp [hb0]) zwy62;rw [hs0] at this;have e:madeCells (Value.int .u8 0).cells (Int.toNat 3 * 1)=#[.int .u8 0,.int .u8 0,.int .u8 0]:=by simp [madeCells,Value.cells,Array.range];rfl
  rw [e] at this;exact this
 have hsz:(Tryz.prog.info? 5).map (·.size)=some 1:=by rw [hi0];simp [hs0]
 go_enter Tryz.func257,Tryz.ntmps257
 go_wp2_with (first|(refine (h1 _).mono ?_;rintro e w2 ⟨rfl,hw2⟩;rw [hw2];clear hw2 w2)|(refine wpList_copy_splice rfl _ _ _ _ rfl 5 Tryz.underlying248 hsz _ _ _ _ _ _ rfl rfl w.heap.size 0 [.int .u8 0,.int .u8 0,.int .u8 0] 5 ?_ [.int .u8 v] (by rfl) ?_ zwy63 zwy104 w.heap.size w ?_ (Nat.le_refl _) ?_))
 ·exact heap_alloc_new w _
 ·intro j u hj;cases j with
  | zero =>
   simp at hj;subst hj;rw [Addr.add_zero',zaK _ hv]
  | succ j=>simp at hj
 ·exact (Below.refl _ _).alloc (Nat.le_refl _) _
 ·intro w2 hh hb;have hh':w2.heap[w.heap.size]?=some (.cells #[.int .u8 v,.int .u8 0,.int .u8 0] 5 (0,0)):=by simpa [splice] using (show _=_ from hh)
  go_wp2
  refine wp_loop_rounds 3 ?_;unfold Code.rounds
  go_wp2
  have hsrc:∀ j u,([.int .u8 v]:List Value)[j]?=some u→w2.cell? ((⟨w.heap.size,0,none⟩:Addr).add j)=some u:=by
   intro j u hj;cases j with
   | zero=>simp at hj;subst hj;rw [Addr.add_zero'];simp [World.cell?,hh']
   | succ j=>simp at hj
  go_region_law (refine step_copy_splice rfl (.tmp 41) (.tmp 44) 248 248 rfl 5 Tryz.underlying248 hsz (some ⟨w.heap.size,1,none⟩) (some ⟨w.heap.size,0,none⟩) 2 2 1 3 zwy101 zwy101 w.heap.size 1 [.int .u8 v,.int .u8 0,.int .u8 0] 5 hh' [.int .u8 v] (by rfl) (fun _=>⟨rfl,_,rfl,hsrc⟩) zwy63 zwy104 w.heap.size w hb.drew (Nat.le_refl _) ?_;intro w3 hh3 hb3)
  have hh3':w3.heap[w.heap.size]?=some (.cells #[.int .u8 v,.int .u8 v,.int .u8 0] 5 (0,0)):=by simpa [splice] using (show _=_ from hh3)
  go_wp2
  rw [rounds_succ]
  go_wp2
  have hsrc3:∀ j u,([.int .u8 v]:List Value)[j]?=some u→w3.cell? ((⟨w.heap.size,0,none⟩:Addr).add j)=some u:=by
   intro j u hj;cases j with
   | zero=>simp at hj;subst hj;rw [Addr.add_zero'];simp [World.cell?,hh3']
   | succ j=>simp at hj
  go_region_law (refine step_copy_splice rfl (.tmp 41) (.tmp 44) 248 248 rfl 5 Tryz.underlying248 hsz (some ⟨w.heap.size,2,none⟩) (some ⟨w.heap.size,0,none⟩) 1 1 2 3 zwy101 zwy101 w.heap.size 2 [.int .u8 v,.int .u8 v,.int .u8 0] 5 hh3' [.int .u8 v] (by rfl) (fun _=>⟨rfl,_,rfl,hsrc3⟩) zwy63 zwy104 w.heap.size w hb3.drew (Nat.le_refl _) ?_;intro w4 hh4 hb4)
  go_wp2
  rw [rounds_succ]
  go_wp2
  go_ret
  exact ⟨rfl,by simpa [splice] using (show _=_ from hh4),hb4⟩
end Go.Cg
