/- A part of the walks by abstract values: no statement of its own. -/
import Derived.Shelf.Sort.Plain
import Derived.Shelf.Slices.In.SortNone
import Derived.Test.YtmgdpkcmbnlklaaGreatProg
import Derived.Test.YtmgdpkcmbnlklaaGreatA4
import Derived.Test.YtmgdpkcmbnlklaaGreatA6
import Derived.Shelf.RegionOpenPlain
import Derived.WalkKit
import Derived.Lib.Walk
import Derived.Lib.SliceRun
import Derived.Lib.AppendZerosOnto
import Derived.Laws.CopyOwn
import Derived.OwnWalk
import Derived.Deep.RegionLaw
import Derived.Test.YtmgdpkcmbnlklaaGreatA7
import Derived.Sort.OwnSortedInts
set_option linter.unusedVariables false
set_option linter.unusedSimpArgs false
namespace Go.Proofs
open Go.Shelf
def Tryz.lays189_ren:Go.Shelf.Ren:=⟨fun|189=>98|125=>116|257=>115|128=>135|129=>136|294=>126|295=>127|296=>128|297=>129|298=>130|299=>131|216=>132|300=>133|301=>134|328=>153|329=>154|330=>155|331=>156|332=>157|215=>158|343=>168|n=>n,fun|28=>79|3=>3|46=>100|0=>0|51=>169|53=>33|4=>4|183=>162|182=>161|131=>166|5=>5|9=>9|218=>190|222=>193|228=>202|229=>203|n=>n,fun|n=>n⟩
theorem Tryz.lays189:Go.Proofs.Lays.n189 Tryz.prog Tryz.lays189_ren:={
 mixed:=by kernel_rfl
 f125:=Tryz.func116.trans (congrArg some (by kernel_rfl))
 f128:=Tryz.func135.trans (congrArg some (by kernel_rfl))
 f129:=Tryz.func136.trans (congrArg some (by kernel_rfl))
 f189:=Tryz.func98.trans (congrArg some (by kernel_rfl))
 f215:=Tryz.func158.trans (congrArg some (by kernel_rfl))
 f216:=Tryz.func132.trans (congrArg some (by kernel_rfl))
 f257:=Tryz.func115.trans (congrArg some (by kernel_rfl))
 f294:=Tryz.func126.trans (congrArg some (by kernel_rfl))
 f295:=Tryz.func127.trans (congrArg some (by kernel_rfl))
 f296:=Tryz.func128.trans (congrArg some (by kernel_rfl))
 f297:=Tryz.func129.trans (congrArg some (by kernel_rfl))
 f298:=Tryz.func130.trans (congrArg some (by kernel_rfl))
 f299:=Tryz.func131.trans (congrArg some (by kernel_rfl))
 f300:=Tryz.func133.trans (congrArg some (by kernel_rfl))
 f301:=Tryz.func134.trans (congrArg some (by kernel_rfl))
 f328:=Tryz.func153.trans (congrArg some (by kernel_rfl))
 f329:=Tryz.func154.trans (congrArg some (by kernel_rfl))
 f330:=Tryz.func155.trans (congrArg some (by kernel_rfl))
 f331:=Tryz.func156.trans (congrArg some (by kernel_rfl))
 f332:=Tryz.func157.trans (congrArg some (by kernel_rfl))
 f343:=Tryz.func168.trans (congrArg some (by kernel_rfl))
 t0:=Tryz.underlying0
 a0:=Tryz.isAgg0
 z0:=Tryz.sizeOf0
 v0:=Tryz.zeroValue0
 t3:=Tryz.underlying3
 a3:=Tryz.isAgg3
 z3:=Tryz.sizeOf3
 v3:=Tryz.zeroValue3
 t4:=Tryz.underlying4
 a4:=Tryz.isAgg4
 z4:=Tryz.sizeOf4
 v4:=Tryz.zeroValue4
 t5:=Tryz.underlying5
 a5:=Tryz.isAgg5
 z5:=Tryz.sizeOf5
 v5:=Tryz.zeroValue5
 t9:=Tryz.underlying9
 a9:=Tryz.isAgg9
 z9:=Tryz.sizeOf9
 v9:=Tryz.zeroValue9
 t28:=Tryz.underlying79
 a28:=Tryz.isAgg79
 z28:=Tryz.sizeOf79
 v28:=Tryz.zeroValue79
 t46:=Tryz.underlying100
 a46:=Tryz.isAgg100
 z46:=Tryz.sizeOf100
 v46:=Tryz.zeroValue100
 t51:=Tryz.underlying169
 a51:=Tryz.isAgg169
 z51:=Tryz.sizeOf169
 v51:=Tryz.zeroValue169
 t53:=Tryz.underlying33
 a53:=Tryz.isAgg33
 z53:=Tryz.sizeOf33
 v53:=Tryz.zeroValue33
 t131:=Tryz.underlying166
 a131:=Tryz.isAgg166
 z131:=Tryz.sizeOf166
 v131:=Tryz.zeroValue166
 t182:=Tryz.underlying161
 a182:=Tryz.isAgg161
 z182:=Tryz.sizeOf161
 v182:=Tryz.zeroValue161
 t183:=Tryz.underlying162
 a183:=Tryz.isAgg162
 z183:=Tryz.sizeOf162
 v183:=Tryz.zeroValue162
 t218:=Tryz.underlying190
 a218:=Tryz.isAgg190
 z218:=Tryz.sizeOf190
 v218:=Tryz.zeroValue190
 t222:=Tryz.underlying193
 a222:=Tryz.isAgg193
 z222:=Tryz.sizeOf193
 v222:=Tryz.zeroValue193
 t228:=Tryz.underlying202
 a228:=Tryz.isAgg202
 z228:=Tryz.sizeOf202
 v228:=Tryz.zeroValue202
 t229:=Tryz.underlying203
 a229:=Tryz.isAgg203
 z229:=Tryz.sizeOf203
 v229:=Tryz.zeroValue203 }
open Go.Sort Go.RowKit in
theorem Tryz.slices_Sort_int (blk off cap:Nat) (zs:List Int) (w:World) (hH:Holds (Value.int .i64) w blk off zs.toArray) (hblk:blk < w.heap.size) (hsz:zs.length < 4611686018427387904) :
  Calls Tryz.prog 98 #[.slice (some ⟨blk,off,none⟩) zs.length cap] w fun e w' =>
   e=.returned (.tuple #[])∧∃ n os,w'=grow (putRow (Value.int .i64) (Sort.ahead w n) blk off (zs.mergeSort fun x y=>decide (x≤y)).toArray) os:=Any.slices_Sort_int Tryz.lays189 blk off cap zs w hH hblk hsz
open Go.RowKit Go.Sort in
theorem Tryz.slices_Sort_int_none (p:Option Addr) (cap:Nat) (w:World) :
  Calls Tryz.prog 98 #[.slice p 0 cap] w fun e w'=>e=.returned (.tuple #[])∧w'=w:=Any.slices_Sort_int_none Tryz.lays189 p cap w
end Go.Proofs
set_option linter.unusedVariables false
set_option linter.unusedSimpArgs false
namespace Go.Cg
open Go.Proofs Go.Shelf Go.RowKit Go.Lib
set_option maxHeartbeats 20000000
theorem zjH (d:Int) (hd:d=0∨d=1∨d=2∨d=3) (w:World):Calls Tryz.prog 170 #[.int .u64 1,.int .u64 d] w fun e w'=>e=.returned (.tuple #[.int .u64 0,.int .u64 d])∧w'=w:=by
 rcases hd with rfl|rfl|rfl|rfl
 all_goals
  go_enter Tryz.func170,Tryz.ntmps170
  go_wp2
  go_ret2
  exact ⟨by kernel_rfl,rfl⟩
theorem zc5 (d:Int) (hd:d=0∨d=1∨d=2∨d=3) (w:World):Calls Tryz.prog 159 #[.int .u64 1,.int .u64 d] w fun e w'=>e=.returned (.tuple #[.int .u64 0,.int .u64 d])∧w'=w:=by
 have h1:=zjH d hd
 go_enter Tryz.func159,Tryz.ntmps159
 go_wp2_with (refine (h1 _).mono ?_;rintro e w' ⟨rfl,rfl⟩)
 go_ret2
 exact ⟨rfl,rfl⟩
theorem info5:∃ i,Tryz.prog.info? 5=some i∧i.zero=some (.int .u8 0)∧i.size=1∧i.bytes=1:=by
 obtain ⟨i,h1,h2,h3,h4,_⟩:=yN (t:=5) zk rfl
 exact ⟨i,h1,h4,h2,h3⟩
theorem Addr.add_zero' (a:Addr):a.add 0=a:=by cases a;rfl
theorem QO {w:World} {a:Addr} {v:Value} (o:Obj) (h:w.cell? a=some v):(w.alloc o).cell? a=some v:=by
 have hlt:a.block < w.heap.size:=by
  unfold World.cell? at h
  split at h
  ·rename_i hb;exact (Array.getElem?_eq_some_iff.1 hb).1
  ·cases h
 have hb:Below w.heap.size w (w.alloc o):=(Below.refl _ _).alloc (Nat.le_refl _) _
 unfold World.cell? at h ⊢
 rw [hb.block _ hlt];exact h
set_option maxRecDepth 100000 in
theorem zhW (v:Int) (ad:Addr) (c:Nat) (w:World) (hv:w.cell? ad=some (.int .u8 v)):Calls Tryz.prog 138 #[.slice (some ad) 1 c,.int .i64 1] w fun e w' =>
  e=.returned (.slice (some ⟨w.heap.size,0,none⟩) 1 1)∧w'.heap[w.heap.size]?=some (.cells #[.int .u8 v] 5 (0,0))∧Below w.heap.size w w':=by
 obtain ⟨i0,hi0,hz0,hs0,hb0⟩:=info5
 have h1:=zc5 1 (by decide)
 have hmk:∀ w:World,(Instr.makeSlice 132 (.int .i64 1) (.int .i64 1)).run Tryz.prog w=.ok (.slice (some ⟨w.heap.size,0,none⟩) 1 1) (w.alloc (.cells #[.int .u8 0] 5)):=fun w=>by
  have:=run_makeSlice (P:=Tryz.prog) w 132 5 i0 (.int .u8 0) Tryz.underlying132 hi0 hz0 .i64 .i64 1 1 (by omega) (by omega) (by simp [hs0]) (by simp [hb0]) (by omega)
  rw [hs0] at this
  have e:madeCells (Value.int .u8 0).cells (Int.toNat 1 * 1)=#[.int .u8 0]:=by simp [madeCells,Value.cells,Array.range];rfl
  rw [e] at this
  exact this
 have hsz:(Tryz.prog.info? 5).map (·.size)=some 1:=by rw [hi0];simp [hs0]
 go_enter Tryz.func138,Tryz.ntmps138
 go_wp2_with (first|(refine (h1 _).mono ?_;rintro e w2 ⟨rfl,hw2⟩;rw [hw2];clear hw2 w2)|(refine wpList_copy_splice rfl _ _ _ _ rfl 5 Tryz.underlying132 hsz _ _ _ _ _ _ rfl rfl w.heap.size 0 [.int .u8 0] 5 ?_ [.int .u8 v] (by rfl) ?_ (by simp) (by simp [Value.oneCell']) w.heap.size w ?_ (Nat.le_refl _) ?_))
 ·exact heap_alloc_new w _
 ·intro j u hj
  cases j with
  | zero =>
   simp at hj;subst hj
   rw [Addr.add_zero',QO _ hv]
  | succ j=>simp at hj
 ·exact (Below.refl _ _).alloc (Nat.le_refl _) _
 ·intro w2 hh hb
  go_wp2
  refine wp_loop_once ?_
  go_wp2
  go_ret
  exact ⟨rfl,by simpa [splice] using (show _=_ from hh),hb⟩
end Go.Cg
set_option linter.unusedVariables false
set_option linter.unusedSimpArgs false
namespace Go.Cg
open Go.Proofs Go.Shelf Go.RowKit Go.Lib
set_option maxHeartbeats 4000000 in
set_option maxRecDepth 100000 in
theorem zhD (v:Int) (ad:Addr) (c:Nat) (w:World) (hv:w.cell? ad=some (.int .u8 v)):Calls Tryz.prog 138 #[.slice (some ad) 1 c,.int .i64 2] w fun e w' =>
  e=.returned (.slice (some ⟨w.heap.size,0,none⟩) 2 2)∧w'.heap[w.heap.size]?=some (.cells #[.int .u8 v,.int .u8 v] 5 (0,0))∧Below w.heap.size w w':=by
 obtain ⟨i0,hi0,hz0,hs0,hb0⟩:=info5
 have h1:=zc5 2 (by decide)
 have hmk:∀ w:World,(Instr.makeSlice 132 (.int .i64 2) (.int .i64 2)).run Tryz.prog w=.ok (.slice (some ⟨w.heap.size,0,none⟩) 2 2) (w.alloc (.cells #[.int .u8 0,.int .u8 0] 5)):=fun w=>by
  have:=run_makeSlice (P:=Tryz.prog) w 132 5 i0 (.int .u8 0) Tryz.underlying132 hi0 hz0 .i64 .i64 2 2 (by omega) (by omega) (by simp [hs0]) (by simp [hb0]) (by omega)
  rw [hs0] at this
  have e:madeCells (Value.int .u8 0).cells (Int.toNat 2 * 1)=#[.int .u8 0,.int .u8 0]:=by simp [madeCells,Value.cells,Array.range];rfl
  rw [e] at this
  exact this
 have hsz:(Tryz.prog.info? 5).map (·.size)=some 1:=by rw [hi0];simp [hs0]
 go_enter Tryz.func138,Tryz.ntmps138
 go_wp2_with (first|(refine (h1 _).mono ?_;rintro e w2 ⟨rfl,hw2⟩;rw [hw2];clear hw2 w2)|(refine wpList_copy_splice rfl _ _ _ _ rfl 5 Tryz.underlying132 hsz _ _ _ _ _ _ rfl rfl w.heap.size 0 [.int .u8 0,.int .u8 0] 5 ?_ [.int .u8 v] (by rfl) ?_ (by simp) (by simp [Value.oneCell']) w.heap.size w ?_ (Nat.le_refl _) ?_))
 ·exact heap_alloc_new w _
 ·intro j u hj
  cases j with
  | zero =>
   simp at hj;subst hj
   rw [Addr.add_zero',QO _ hv]
  | succ j=>simp at hj
 ·exact (Below.refl _ _).alloc (Nat.le_refl _) _
 ·intro w2 hh hb
  have hh':w2.heap[w.heap.size]?=some (.cells #[.int .u8 v,.int .u8 0] 5 (0,0)):=by simpa [splice] using (show _=_ from hh)
  go_wp2
  refine wp_loop_rounds 2 ?_
  unfold Code.rounds
  go_wp2
  have hsrc:∀ j u,([.int .u8 v]:List Value)[j]?=some u→w2.cell? ((⟨w.heap.size,0,none⟩:Addr).add j)=some u:=by
   intro j u hj
   cases j with
   | zero=>simp at hj;subst hj;rw [Addr.add_zero'];simp [World.cell?,hh']
   | succ j=>simp at hj
  go_region_law (refine step_copy_splice rfl (.tmp 41) (.tmp 44) 132 132 rfl 5 Tryz.underlying132 hsz (some ⟨w.heap.size,1,none⟩) (some ⟨w.heap.size,0,none⟩) 1 1 1 2 (by simp [Act.eval,Act.put]) (by simp [Act.eval,Act.put]) w.heap.size 1 [.int .u8 v,.int .u8 0] 5 hh' [.int .u8 v] (by rfl) (fun _=>⟨rfl,_,rfl,hsrc⟩) (by simp) (by simp [Value.oneCell']) w.heap.size w hb.drew (Nat.le_refl _) ?_;intro w3 hh3 hb3)
  go_wp2
  rw [rounds_succ]
  go_wp2
  go_ret
  exact ⟨rfl,by simpa [splice] using (show _=_ from hh3),hb3⟩
end Go.Cg
set_option linter.unusedVariables false
set_option linter.unusedSimpArgs false
namespace Go.Cg
open Go.Proofs Go.Shelf Go.RowKit Go.Lib
set_option maxHeartbeats 4000000 in
set_option maxRecDepth 100000 in
theorem zgC (v:Int) (ad:Addr) (c:Nat) (w:World) (hv:w.cell? ad=some (.int .u8 v)):Calls Tryz.prog 138 #[.slice (some ad) 1 c,.int .i64 3] w fun e w' =>
  e=.returned (.slice (some ⟨w.heap.size,0,none⟩) 3 3)∧w'.heap[w.heap.size]?=some (.cells #[.int .u8 v,.int .u8 v,.int .u8 v] 5 (0,0))∧Below w.heap.size w w':=by
 obtain ⟨i0,hi0,hz0,hs0,hb0⟩:=info5
 have h1:=zc5 3 (by decide)
 have hmk:∀ w:World,(Instr.makeSlice 132 (.int .i64 3) (.int .i64 3)).run Tryz.prog w=.ok (.slice (some ⟨w.heap.size,0,none⟩) 3 3) (w.alloc (.cells #[.int .u8 0,.int .u8 0,.int .u8 0] 5)):=fun w=>by
  have:=run_makeSlice (P:=Tryz.prog) w 132 5 i0 (.int .u8 0) Tryz.underlying132 hi0 hz0 .i64 .i64 3 3 (by omega) (by omega) (by simp [hs0]) (by simp [hb0]) (by omega)
  rw [hs0] at this
  have e:madeCells (Value.int .u8 0).cells (Int.toNat 3 * 1)=#[.int .u8 0,.int .u8 0,.int .u8 0]:=by simp [madeCells,Value.cells,Array.range];rfl
  rw [e] at this
  exact this
 have hsz:(Tryz.prog.info? 5).map (·.size)=some 1:=by rw [hi0];simp [hs0]
 go_enter Tryz.func138,Tryz.ntmps138
 go_wp2_with (first|(refine (h1 _).mono ?_;rintro e w2 ⟨rfl,hw2⟩;rw [hw2];clear hw2 w2)|(refine wpList_copy_splice rfl _ _ _ _ rfl 5 Tryz.underlying132 hsz _ _ _ _ _ _ rfl rfl w.heap.size 0 [.int .u8 0,.int .u8 0,.int .u8 0] 5 ?_ [.int .u8 v] (by rfl) ?_ (by simp) (by simp [Value.oneCell']) w.heap.size w ?_ (Nat.le_refl _) ?_))
 ·exact heap_alloc_new w _
 ·intro j u hj
  cases j with
  | zero =>
   simp at hj;subst hj
   rw [Addr.add_zero',QO _ hv]
  | succ j=>simp at hj
 ·exact (Below.refl _ _).alloc (Nat.le_refl _) _
 ·intro w2 hh hb
  have hh':w2.heap[w.heap.size]?=some (.cells #[.int .u8 v,.int .u8 0,.int .u8 0] 5 (0,0)):=by simpa [splice] using (show _=_ from hh)
  go_wp2
  refine wp_loop_rounds 3 ?_
  unfold Code.rounds
  go_wp2
  have hsrc:∀ j u,([.int .u8 v]:List Value)[j]?=some u→w2.cell? ((⟨w.heap.size,0,none⟩:Addr).add j)=some u:=by
   intro j u hj
   cases j with
   | zero=>simp at hj;subst hj;rw [Addr.add_zero'];simp [World.cell?,hh']
   | succ j=>simp at hj
  go_region_law (refine step_copy_splice rfl (.tmp 41) (.tmp 44) 132 132 rfl 5 Tryz.underlying132 hsz (some ⟨w.heap.size,1,none⟩) (some ⟨w.heap.size,0,none⟩) 2 2 1 3 (by simp [Act.eval,Act.put]) (by simp [Act.eval,Act.put]) w.heap.size 1 [.int .u8 v,.int .u8 0,.int .u8 0] 5 hh' [.int .u8 v] (by rfl) (fun _=>⟨rfl,_,rfl,hsrc⟩) (by simp) (by simp [Value.oneCell']) w.heap.size w hb.drew (Nat.le_refl _) ?_;intro w3 hh3 hb3)
  have hh3':w3.heap[w.heap.size]?=some (.cells #[.int .u8 v,.int .u8 v,.int .u8 0] 5 (0,0)):=by simpa [splice] using (show _=_ from hh3)
  go_wp2
  rw [rounds_succ]
  go_wp2
  have hsrc3:∀ j u,([.int .u8 v]:List Value)[j]?=some u→w3.cell? ((⟨w.heap.size,0,none⟩:Addr).add j)=some u:=by
   intro j u hj
   cases j with
   | zero=>simp at hj;subst hj;rw [Addr.add_zero'];simp [World.cell?,hh3']
   | succ j=>simp at hj
  go_region_law (refine step_copy_splice rfl (.tmp 41) (.tmp 44) 132 132 rfl 5 Tryz.underlying132 hsz (some ⟨w.heap.size,2,none⟩) (some ⟨w.heap.size,0,none⟩) 1 1 2 3 (by simp [Act.eval,Act.put]) (by simp [Act.eval,Act.put]) w.heap.size 2 [.int .u8 v,.int .u8 v,.int .u8 0] 5 hh3' [.int .u8 v] (by rfl) (fun _=>⟨rfl,_,rfl,hsrc3⟩) (by simp) (by simp [Value.oneCell']) w.heap.size w hb3.drew (Nat.le_refl _) ?_;intro w4 hh4 hb4)
  go_wp2
  rw [rounds_succ]
  go_wp2
  go_ret
  exact ⟨rfl,by simpa [splice] using (show _=_ from hh4),hb4⟩
end Go.Cg
set_option linter.unusedVariables false
set_option linter.unusedSimpArgs false
namespace Go.Cg
open Go.Proofs Go.Shelf Go.RowKit Go.Lib
set_option maxHeartbeats 4000000 in
set_option maxRecDepth 100000 in
theorem zhs (v:Int) (ad:Addr) (c:Nat) (w:World) (hv:w.cell? ad=some (.int .u8 v)):Calls Tryz.prog 138 #[.slice (some ad) 1 c,.int .i64 0] w fun e w' =>
  e=.returned (.slice (some ⟨w.heap.size,0,none⟩) 0 0)∧w'.heap[w.heap.size]?=some (.cells #[] 5 (0,0))∧Below w.heap.size w w':=by
 obtain ⟨i0,hi0,hz0,hs0,hb0⟩:=info5
 have h1:=zc5 0 (by decide)
 have hmk:∀ w:World,(Instr.makeSlice 132 (.int .i64 0) (.int .i64 0)).run Tryz.prog w=.ok (.slice (some ⟨w.heap.size,0,none⟩) 0 0) (w.alloc (.cells #[] 5)):=fun w=>by
  have:=run_makeSlice (P:=Tryz.prog) w 132 5 i0 (.int .u8 0) Tryz.underlying132 hi0 hz0 .i64 .i64 0 0 (by omega) (by omega) (by simp [hs0]) (by simp [hb0]) (by omega)
  rw [hs0] at this
  have e:madeCells (Value.int .u8 0).cells (Int.toNat 0 * 1)=#[]:=by simp [madeCells]
  rw [e] at this
  exact this
 have hsz:(Tryz.prog.info? 5).map (·.size)=some 1:=by rw [hi0];simp [hs0]
 go_enter Tryz.func138,Tryz.ntmps138
 go_wp2_with (first|(refine (h1 _).mono ?_;rintro e w2 ⟨rfl,hw2⟩;rw [hw2];clear hw2 w2)|(refine wpList_copy_splice rfl _ _ _ _ rfl 5 Tryz.underlying132 hsz _ _ _ _ _ _ rfl rfl w.heap.size 0 [] 5 ?_ [] (by rfl) (fun h=>by simp at h) (by simp) (by simp) w.heap.size w ?_ (Nat.le_refl _) ?_))
 ·exact heap_alloc_new w _
 ·exact (Below.refl _ _).alloc (Nat.le_refl _) _
 ·intro w2 hh hb
  go_wp2
  refine wp_loop_once ?_
  go_wp2
  go_ret
  exact ⟨rfl,by simpa [splice] using (show _=_ from hh),hb⟩
theorem zac {K:Cg.KK} {w w':World} (hl:∀ b o,K b o→b < w.heap.size) {t:TypeId} (l:List Int) (hb:Below w.heap.size w w') (hh:w'.heap[w.heap.size]?=some (.cells (l.map fun n=>Value.int .u8 n).toArray t (0,0))) (hlen:l.length≤maxLen) :
  ∃ K',Evo K K' w w'∧PRel K' w' (.slc 1 (l.map fun n=>.base (.int .u8 n)) false) (.slice (some ⟨w.heap.size,0,none⟩) l.length l.length):=by
 have hlt:w.heap.size < w'.heap.size:=(Array.getElem?_eq_some_iff.1 hh).1
 refine ⟨Wj K w l.length,⟨hb,fun b o h=>.inl h,fun b o h=>h.imp id (fun ⟨h1,_⟩=>by omega),fun b o h=>?_⟩,?_⟩
 ·rcases h with h|⟨h,_⟩
  ·have:=hl b o h;omega
  ·omega
 ·have hcell:∀ (k:Nat) (v:Value),(l.map fun n=>Value.int .u8 n)[k]?=some v→w'.cell? ⟨w.heap.size,k,none⟩=some v:=by
   intro k v hv
   simp only [World.cell?,hh]
   simpa using hv
  have:=PRel.slc (K:=Wj K w l.length) (w:=w') 1 (l.map fun n=>.base (.int .u8 n)) false w.heap.size 0 l.length (fun i=>[Value.int .u8 (l.getD i 0)]) (by omega) (by simp) (by simp) (by simpa using hlen) hlen
   (fun i e he=>by
    rw [List.getElem?_map] at he
    cases hi:l[i]? with
    | none=>simp [hi] at he
    | some n =>
     simp [hi] at he;subst he
     refine ⟨rfl,rfl,fun k v hv=>?_⟩
     cases k with
     | zero =>
      simp [List.getD_eq_getElem?_getD,hi] at hv;subst hv
      refine ⟨.inr ⟨rfl,by have:=(List.getElem?_eq_some_iff.1 hi).1;omega⟩,?_,rfl⟩
      have:=hcell i (.int .u8 n) (by simp [hi])
      simpa using this
     | succ k=>simp at hv)
   (fun i e k c v he hc hv=>by
    rw [List.getElem?_map] at he
    cases hi:l[i]? with
    | none=>simp [hi] at he
    | some n =>
     simp [hi] at he;subst he
     cases k with
     | zero =>
      simp [PV.cells] at hc;subst hc
      simp [List.getD_eq_getElem?_getD,hi] at hv;subst hv
      exact .base _ rfl
     | succ k=>simp [PV.cells] at hc)
  simpa using this
theorem WZ (v d:Int) (h0:0≤d) (h1:d≤3):ACall Tryz.prog 138 [.slc 1 [.base (.int .u8 v)] true,pi d] (.slc 1 ((List.replicate d.toNat v).map fun n=>.base (.int .u8 n)) false):=by
 refine ⟨⟨_,Tryz.func138,rfl,by kernel_rfl⟩,fun K w vs hl hv=>?_⟩
 obtain ⟨v0,vs0,rfl,r0,hv0⟩:=hv.cons_inv
 obtain ⟨v1,vs1,rfl,r1,hv1⟩:=hv0.cons_inv
 obtain rfl:=hv1.nil_inv
 cases r1
 cases r0 with
 | slc _ _ _ b o cap vss q0 q1 q2 q3 q4 q5 q6 =>
  obtain ⟨_,e2,e3⟩:=q5 0 _ rfl
  have hvs:vss 0=[Value.int .u8 v]:=by
   cases hx:vss 0 with
   | nil=>rw [hx] at e2;simp at e2
   | cons x xs =>
    rw [hx] at e2
    have:xs=[]:=List.eq_nil_of_length_eq_zero (by simpa using e2)
    subst this
    have:=q6 0 _ 0 _ x rfl rfl (by rw [hx];rfl)
    cases this;rfl
  have hc:w.cell? ⟨b,o,none⟩=some (.int .u8 v):=by
   have:=(e3 0 (.int .u8 v) (by rw [hvs];rfl)).2.1
   simpa using this
  have hd:d=0∨d=1∨d=2∨d=3:=by omega
  rcases hd with rfl|rfl|rfl|rfl
  ·refine (zhs v _ cap w hc).mono ?_
   rintro e w' ⟨rfl,hh,hb⟩
   obtain ⟨K',g1,g2⟩:=zac hl [] hb hh (by simp)
   exact ⟨_,K',rfl,g1,g2⟩
  ·refine (zhW v _ cap w hc).mono ?_
   rintro e w' ⟨rfl,hh,hb⟩
   obtain ⟨K',g1,g2⟩:=zac hl [v] hb hh (by simp [maxLen])
   exact ⟨_,K',rfl,g1,g2⟩
  ·refine (zhD v _ cap w hc).mono ?_
   rintro e w' ⟨rfl,hh,hb⟩
   obtain ⟨K',g1,g2⟩:=zac hl [v,v] hb hh (by simp [maxLen])
   exact ⟨_,K',rfl,g1,g2⟩
  ·refine (zgC v _ cap w hc).mono ?_
   rintro e w' ⟨rfl,hh,hb⟩
   obtain ⟨K',g1,g2⟩:=zac hl [v,v,v] hb hh (by simp [maxLen])
   exact ⟨_,K',rfl,g1,g2⟩
end Go.Cg
/- slices.Sort,of a row of the call's own. -/
namespace Go.Cg
open Go.RowKit Go.Proofs

mutual
/-- Values that bear no address. -/
def PV.free:PV→Bool
  | .base _=>true
  | .agg cs=>frees cs
  | .slc _ es _=>es.isEmpty
  | .ptr _ _=>false
  | .fn _ a b=>frees a&&frees b
  | .tup cs=>frees cs
def frees:List PV→Bool
  | []=>true
  | c::cs=>c.free&&frees cs
end
theorem ZJ:∀ {cs:List PV},frees cs=true→∀ (k:Nat) (c:PV),cs[k]?=some c→c.free=true
  | [],_,k,c,h=>by simp at h
  | c::cs,h,k,c',hk=>by
    simp only [frees,Bool.and_eq_true] at h
    cases k with
    | zero=>simp at hk;subst hk;exact h.1
    | succ k=>simp at hk;exact ZJ h.2 k c' hk
mutual
def AV.freeA:AV→Bool
  | .pv p=>p.free
  | .agg cs=>zbQ cs
  | .fn _ a b=>zbQ a&&zbQ b
  | _=>true
def zbQ:List AV→Bool
  | []=>true
  | c::cs=>c.freeA&&zbQ cs
end
theorem WC:∀ {cs:List AV},zbQ cs=true→∀ (k:Nat) (c:AV),cs[k]?=some c→c.freeA=true
  | [],_,k,c,h=>by simp at h
  | c::cs,h,k,c',hk=>by
    simp only [zbQ,Bool.and_eq_true] at h
    cases k with
    | zero=>simp at hk;subst hk;exact h.1
    | succ k=>simp at hk;exact WC h.2 k c' hk
def HE.freeH:HE→Bool
  | .cell v=>v.freeA
  | .pin v _=>v.freeA
  | .row _ _ es=>frees es
  | .mrow _ _ es=>frees es
  | _=>true
def zc8:Env→Bool
  | []=>true
  | (_,v)::e=>v.freeA&&zc8 e
def zjE (i:Nat):HEnv→Bool
  | []=>true
  | (j,h)::e=>(Nat.beq i j||h.freeH)&&zjE i e
theorem zct:∀ {e:Env},zc8 e=true→∀ t v,e.get t=some v→v.freeA=true
  | [],_,t,v,h=>by simp [Env.get_nil] at h
  | (t',v')::e,h,t,v,hv=>by
    simp only [zc8,Bool.and_eq_true] at h
    rw [Env.get_cons] at hv
    split at hv
    · simp only [Option.some.injEq] at hv;subst hv;exact h.1
    · exact zct h.2 t v hv
theorem zfe {i:Nat}:∀ {e:HEnv},zjE i e=true→∀ j h,e.get j=some h→j≠i→h.freeH=true
  | [],_,j,h,hg,_=>by simp [HEnv.get_nil] at hg
  | (k,x)::e,hf,j,h,hg,hne=>by
    simp only [zjE,Bool.and_eq_true,Bool.or_eq_true] at hf
    rw [HEnv.get_cons] at hg
    split at hg
    · rename_i e';subst e'
      simp only [Option.some.injEq] at hg;subst hg
      rcases hf.1 with h1|h1
      · exact (hne (Nat.eq_of_beq_eq_true h1).symm).elim
      · exact h1
    · exact zfe hf.2 j h hg hne

section
variable {K K':KK} {w w':World} {ρ:Nat→Value} {H H':HEnv}
theorem PRel.free {p:PV} {v:Value} (h:PRel K w p v):p.free=true→PRel K' w' p v:=by
  induction h with
  | base v h1=>exact fun _=>.base v h1
  | agg cs vs hl h1 _ ih=>exact fun hf=>.agg cs vs hl h1 fun k c v hc hv=>ih k c v hc hv (ZJ hf k c hc)
  | nil sz full=>exact fun _=>.nil sz full
  | emp sz full a=>exact fun _=>.emp sz full a
  | slc sz es full b o cap vss h0 h1 h2 h3 h4 h5 h6 ih =>
    intro hf
    have hes:es=[]:=by simpa [PV.free] using hf
    subst hes
    refine .slc sz [] full b o cap vss h0 h1 h2 h3 h4 (fun i e he=>by simp at he) (fun i e k c v he=>by simp at he)
  | ptr p off b o vs hl hr _ ih=>intro hf;simp [PV.free] at hf
  | fn f a b vf vc h1 h2 _ _ ih1 ih2 =>
    intro hf
    simp only [PV.free,Bool.and_eq_true] at hf
    exact .fn f a b vf vc h1 h2 (fun k c v hc hv=>ih1 k c v hc hv (ZJ hf.1 k c hc)) (fun k c v hc hv=>ih2 k c v hc hv (ZJ hf.2 k c hc))
  | tup cs vs hl _ ih=>exact fun hf=>.tup cs vs hl fun k c v hc hv=>ih k c v hc hv (ZJ hf k c hc)
theorem ARel.free (hk:∀ j,(H.get j).isSome=true→(H'.get j).isSome=true) {av:AV} {v:Value} (h:ARel K w ρ H av v):av.freeA=true→ARel K' w' ρ H' av v:=by
  induction h with
  | pv p v hp=>exact fun hf=>.pv p v (hp.free hf)
  | own j hj=>exact fun _=>.own j (hk j hj)
  | box j off b hj hr=>exact fun _=>.box j off b (hk j hj) hr
  | ad j off b m c hj hr=>exact fun _=>.ad j off b m c (hk j hj) hr
  | agg cs vs h1 h2 _ ih=>exact fun hf=>.agg cs vs h1 h2 fun k c v hc hv=>ih k c v hc hv (WC hf k c hc)
  | fn f a b vf vc h1 h2 _ _ ih1 ih2 =>
    intro hf
    simp only [AV.freeA,Bool.and_eq_true] at hf
    exact .fn f a b vf vc h1 h2 (fun k c v hc hv=>ih1 k c v hc hv (WC hf.1 k c hc)) (fun k c v hc hv=>ih2 k c v hc hv (WC hf.2 k c hc))
  | any v=>exact fun _=>.any v
  | any1 v h1 h2=>exact fun _=>.any1 v h1 h2
end

def sortL (l:List Int):List Int:=l.mergeSort fun x y=>decide (x≤y)
theorem zb9 (l:List Int):(sortL l).length=l.length:=List.length_mergeSort _
theorem zfl {l:List Int} {x:Int}:x∈sortL l↔x∈l:=List.mem_mergeSort

section
variable {n:Nat} {g:Base} {H:HEnv} {env:Env} {ops:List Oper} {o:Oper} {rest:List Oper} {Q:Env→HEnv→Prop}
theorem zk2 {w:World} {B:Nat} {v:Value} {l:List Int} (h:w.ownsRow B 3 1 v l.length (l.map (Value.int .i64))) (hl:l.length < 4611686018427387904) :
    Calls Tryz.prog 98 #[v] w fun e w'=>e=.returned (.tuple #[])∧w'.ownsRow B 3 1 v l.length ((sortL l).map (Value.int .i64))∧w.grownBy w' v.ownBlock:=by
  rcases h.2 with ⟨rfl,h0⟩|⟨b,cap,cur,rfl,hb,hheap,h1,h2,h3,h4⟩
  · have:l=[]:=List.eq_nil_of_length_eq_zero h0
    subst this
    refine (Tryz.slices_Sort_int_none none 0 w).mono fun e w' ⟨e1,e2⟩=>?_
    subst e2
    exact ⟨e1,by simpa [sortL] using h,⟨rfl,rfl,rfl,Nat.le_refl _,fun _ _ _=>rfl⟩⟩
  · have hlt:b < w.heap.size:=(Array.getElem?_eq_some_iff.1 hheap).1
    refine (Tryz.slices_Sort_int b 0 cap l w (holds_of_blockI hheap (by simpa using h4)) hlt hl).mono fun e w' ⟨e1,m,os,e2⟩=>?_
    subst e2
    refine ⟨e1,?_,grownBy_sortedI _⟩
    exact ownsRow_sortedI (zb9 l) hb hheap h1 h2 h3

/-- slices.Sort,of a row of the call's own: the frame is told anew. -/
theorem zlW {d:Tmp} {x:Operand} {ts:Array TypeId} {i:Nat} {l:List Int} (env2:Env) (hpl:Plain g) (hg:guardE ops env o=some true) (hop:o.op=.call { callee:=.value (.func 98),args:=#[x],argTypes:=ts }) (hst:Ve Tryz.prog 98)
    (hx:env.val x=some (.own i)) (hi:H.get i=some (.row 3 1 (l.map pi))) (hl:l.length≤100000) (hs:Sub env env2) (hfe:zc8 env2=true) (hfh:zjE i H=true) (hd:o.dst=some d) (hdt:Nat.blt d n=true)
    (h:AO Tryz.prog n g ops.toArray rest ((d,.pv (.tup []))::env2) ((i,.row 3 1 ((sortL l).map pi))::H) Q):AO Tryz.prog n g ops.toArray (o::rest) env H Q:=by
  refine ⟨fun a w hinv=>?_⟩
  have hw:=yh hinv hg
  obtain ⟨h1,h2,K,ρ,hf,he⟩:=hinv
  refine wpList_step fun KK hKK=>?_
  rw [if_pos hw]
  have hxr:=yA he hx
  generalize hxv:a.eval x=xv at hxr
  obtain ⟨us,hown,hsz,hcr,hKK'⟩:=hf.heap.ok i _ hi
  have hus:us=l.map (Value.int .i64):=by
    apply List.ext_getElem?
    intro j
    have hlen:=hown.1
    simp at hlen
    by_cases hj:j < l.length
    · obtain ⟨_,h3⟩:=hcr j (pi l[j]) (by simp [hj])
      obtain ⟨v,h4,_,h5⟩:=h3 0 (pi l[j]) rfl
      cases h5
      simp only [Nat.mul_one,Nat.add_zero] at h4
      rw [h4];simp [hj]
    · rw [List.getElem?_eq_none (by omega),List.getElem?_eq_none (by simp;omega)]
  subst hus
  rw [List.length_map] at hown
  cases hxr with
  | own _ _ =>
    have hrun:(execOp a.eval o).run Tryz.prog w=.ok (.enter 98 #[ρ i]) w:=by
      simp [execOp,hop,resolve,Act.eval,Deferred.ofValue,invoke,Zd hst]
      simpa [Act.eval] using hxv
    unfold Oper.wp
    rw [hrun]
    simp only [Oper.upon]
    refine (zk2 hown (by omega)).mono fun e w' ⟨e1,hown',hgrow⟩=>?_
    subst e1
    have hlow:∀ b,(ρ i).ownBlock=some b→g.w0.heap.size≤b:=fun b hb=>(hown.lt b hb).1
    have hcr2:∀ (j:Nat) (o:Obj),(ρ i).ownBlock=some j→w.heap[j]?=some o→o.isCells=true:=by
      intro j o hj ho
      rcases hown.2 with ⟨h,_⟩|⟨b2,cap,cur,h,_,hh,_⟩
      · rw [h] at hj;simp [Value.ownBlock] at hj
      · rw [h] at hj
        simp only [Value.ownBlock,Option.some.injEq] at hj
        subst hj
        rw [hh] at ho;cases ho;rfl
    have hsome:∀ j,(H.get j).isSome=true→(HEnv.get ((i,.row 3 1 ((sortL l).map pi))::H) j).isSome=true:=by
      intro j hj
      simp only [HEnv.get_cons]
      split
      · rfl
      · exact hj
    have hbo:∀ b,zq (ρ i)=some b↔(ρ i).ownBlock=some b:=by
      intro b
      rcases hown.2 with ⟨e,_⟩|⟨_,_,_,e,_⟩ <;> rw [e] <;> simp [zq,Value.ownBlock]
    have hpt:Prot g K w':=⟨fun b hb=>let ⟨p1,p2,p3⟩:=hf.pt.same b hb;⟨Nat.lt_of_lt_of_le p1 hgrow.size,(hgrow.block b p1 (fun e=>hf.away i _ b hi rfl ((hbo b).2 e.symm) hb)).trans p2,p3⟩,fun b o h0=>by
      rw [←hf.pt.kept b o h0]
      exact World.cell?_of_block (hgrow.block b (hf.lt b o (hf.old b o h0)) (fun e=>by have:=hlow b e.symm;have:=hpl.2 b o h0;omega))⟩
    refine hKK _ _ (h.go _ _ ⟨yB h1,put_defers h2,K,ρ,⟨hf.below.grown hgrow hf.below.size hlow,hf.old,hf.new,fun b o hk=>Nat.lt_of_lt_of_le (hf.lt b o hk) hgrow.size,hf.others.trans (KeepsOthers.of_grownBy hgrow hcr2),hpt,hf.away.set hi rfl,?_,?_⟩,?_⟩)
    · intro j e hj
      rw [HEnv.get_cons] at hj
      split at hj
      · rename_i e';subst e'
        simp only [Option.some.injEq] at hj;subst hj
        refine ⟨(sortL l).map (Value.int .i64),by rw [List.length_map,zb9];exact hown',hsz,?_,?_⟩
        · intro k c hc
          rw [List.getElem?_map] at hc
          cases hk:(sortL l)[k]? with
          | none=>simp [hk] at hc
          | some y =>
            simp [hk] at hc;subst hc
            refine ⟨rfl,fun m c hm=>?_⟩
            cases m with
            | zero=>simp [PV.cells] at hm;subst hm;exact ⟨.int .i64 y,by simp [hk],rfl,.base _ rfl⟩
            | succ m=>simp [PV.cells] at hm
        · intro b hb o'
          rw [List.length_map,zb9]
          have:=hKK' b hb o'
          simpa using this
      · rename_i hne
        have hfree:=zfe hfh j e hj (Ne.symm hne)
        have hok:=hf.heap.ok j e hj
        have hblk:e.live=true→∀ b,zq (ρ j)=some b→(ρ i).ownBlock≠some b:=fun hlive b hb e' =>
          hf.heap.apart i j _ e b hne hi hj rfl hlive ((hbo b).2 e') hb
        cases e with
        | cell v =>
          obtain ⟨b,t,arr,u,r1,r2,r3,r4,r5,r6⟩:=hok
          have hlt:b < w.heap.size:=(Array.getElem?_eq_some_iff.1 r3).1
          have:=hblk rfl b (by rw [r1];rfl)
          exact ⟨b,t,arr,u,r1,r2,by rw [hgrow.block b hlt (Ne.symm this)];exact r3,r4.free hsome hfree,r5,r6⟩
        | row t sz es =>
          obtain ⟨xs,r1,r2,r3,r4⟩:=hok
          refine ⟨xs,r1.kept hgrow ?_,r2,fun k c hc=>⟨(r3 k c hc).1,fun m q hq=>?_⟩,r4⟩
          · cases hb:(ρ j).ownBlock with
            | none=>exact .inl rfl
            | some b =>
              refine .inr fun e'=>?_
              have hb2:zq (ρ j)=some b:=by
                rcases r1.2 with ⟨e,_⟩|⟨_,_,_,e,_⟩
                · rw [e] at hb;simp [Value.ownBlock] at hb
                · rw [e] at hb ⊢;simpa [zq,Value.ownBlock] using hb
              exact hblk rfl b hb2 e'.symm
          · obtain ⟨v,v1,v2,v3⟩:=(r3 k c hc).2 m q hq
            refine ⟨v,v1,v2,v3.free ?_⟩
            have hcf:=ZJ hfree k c hc
            cases c <;> simp only [PV.cells] at hq <;> first
              | exact ZJ hcf m q hq
              | (cases m with
                 | zero=>simp at hq;subst hq;exact hcf
                 | succ m=>simp at hq)
        | mrow t sz es =>
          obtain ⟨xs,r1,r2,r3,r4⟩:=hok
          refine ⟨xs,r1.kept hgrow ?_,r2,fun k c hc=>⟨(r3 k c hc).1,fun m q hq=>?_⟩,r4⟩
          · cases hb:(ρ j).ownBlock with
            | none=>exact .inl rfl
            | some b =>
              refine .inr fun e'=>?_
              have hb2:zq (ρ j)=some b:=by
                rcases r1.2 with ⟨e,_⟩|⟨_,_,_,e,_⟩
                · rw [e] at hb;simp [Value.ownBlock] at hb
                · rw [e] at hb ⊢;simpa [zq,Value.ownBlock] using hb
              exact hblk rfl b hb2 e'.symm
          · obtain ⟨v,v1,v2,v3⟩:=(r3 k c hc).2 m q hq
            refine ⟨v,v1,v2,v3.free ?_⟩
            have hcf:=ZJ hfree k c hc
            cases c <;> simp only [PV.cells] at hq <;> first
              | exact ZJ hcf m q hq
              | (cases m with
                 | zero=>simp at hq;subst hq;exact hcf
                 | succ m=>simp at hq)
        | dead=>trivial
        | pin v u=>exact ARel.free hsome hok hfree
        | obj X =>
          obtain ⟨b,ob,r1,r2,r3,r4,r5⟩:=hok
          have hlt:b < w.heap.size:=(Array.getElem?_eq_some_iff.1 r3).1
          have:=hblk rfl b (by rw [r1];rfl)
          exact ⟨b,ob,r1,r2,by rw [hgrow.block b hlt (Ne.symm this)];exact r3,r4,r5⟩
    · intro j k e e' bb hjk hj hk' hlj hlk hbj hbk
      have e1:∀ (j:Nat) (hh:HE),HEnv.get ((i,.row 3 1 ((sortL l).map pi))::H) j=some hh→hh.live=true→∃ h0,H.get j=some h0∧h0.live=true:=by
        intro j hh hj hl
        rw [HEnv.get_cons] at hj
        split at hj
        · rename_i e';subst e';exact ⟨_,hi,rfl⟩
        · exact ⟨hh,hj,hl⟩
      obtain ⟨a1,a2,a3⟩:=e1 j e hj hlj
      obtain ⟨b1,b2,b3⟩:=e1 k e' hk' hlk
      exact hf.heap.apart j k a1 b1 bb hjk a2 b2 a3 b3 hbj hbk
    · rw [hd]
      refine yY h1 hdt (fun t av ht=>?_) (.pv _ _ (.tup [] [] rfl (by simp)))
      obtain ⟨v,v1,v2⟩:=he t av (hs t av ht)
      exact ⟨v,v1,v2.free hsome (zct hfe t av ht)⟩
end
end Go.Cg
