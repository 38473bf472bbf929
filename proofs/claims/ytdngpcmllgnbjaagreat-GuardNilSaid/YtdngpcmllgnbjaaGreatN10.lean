/- A part of the walks by abstract values: no statement of its own. -/
import Derived.Test.YtdngpcmllgnbjaaGreatN3
import Derived.Test.YtdngpcmllgnbjaaGreatN5
import Derived.Test.YtdngpcmllgnbjaaGreatN6
import Derived.Shelf.RegionOpenPlain
import Derived.WalkKit
import Derived.Lib.Walk
import Derived.Lib.SliceRun
import Derived.Lib.AppendZerosOnto
import Derived.Laws.CopyOwn
import Derived.OwnWalk
import Derived.Deep.RegionLaw
import Derived.Test.YtdngpcmllgnbjaaGreatN9
import Derived.Test.YtdngpcmllgnbjaaGreatN7
import Derived.Test.YtdngpcmllgnbjaaGreatN8
import Derived.Laws.Pointers
import Derived.Laws.CopyRow
set_option linter.unusedVariables false
set_option linter.unusedSimpArgs false
namespace Go.Cg
open Go.RowKit
section
variable {P:Program} {n:Nat} {g:Base} {H:HEnv} {env:Env} {c:Code} {QQ:QC} {K:KK} {w:World} {ρ:Nat→Value}
def aggOf:AV→Option (List AV)
 | .agg cs=>some cs
 | .pv (.agg ps)=>some (ps.map .pv)
 | _=>none
theorem ARel.aggOf {v:AV} {cs:List AV} {u:Value} (h:ARel K w ρ H v u) (hc:Cg.aggOf v=some cs):ARel K w ρ H (.agg cs) u:=by
 cases h with
 | pv p v hp =>
  cases hp <;> simp [Cg.aggOf] at hc
  rename_i ps vs h1 h2 h3
  subst hc
  refine .agg _ vs (by simpa using h1) h2 fun k c v hc hv=>?_
  simp only [List.getElem?_map,Option.map_eq_some_iff] at hc
  obtain ⟨p,hp,rfl⟩:=hc
  exact .pv _ _ (h3 k p v hp hv)
 | agg ds vs h1 h2 h3=>simp only [Cg.aggOf,Option.some.injEq] at hc;subst hc;exact .agg _ vs h1 h2 h3
 | _=>simp [Cg.aggOf] at hc
theorem Yn (b i k:Nat) (e:TypeId) (sz:Nat) {v:AV} {cs:List AV} (hsz:0 < sz) (hb:H.get b=some (.cell v)) (hv:aggOf v=some cs) (hk:cs[k]?=some (.pv (.base (.slice none 0 0)))) (hi:H.get i=none)
  (h:AW P n g c env ((b,.cell (.agg (cs.set k (.own i))))::(i,.row e sz [])::H) QQ):AW P n g c env H QQ:=by
 refine ⟨fun a w hinv=>h.go a w ?_⟩
 obtain ⟨h1,h2,K,ρ,hf,he⟩:=hinv
 have hev:Evo K K w w:=.refl hf.lt
 have hne:b≠i:=by rintro rfl;simp [hi] at hb
 have hf2:FS g K (fun j=>if j=i then .slice none 0 0 else ρ j) ((i,.row e sz [])::H) w:=hf.fresh hev hi ⟨[],World.ownsRow_nil w _ e sz,hsz,fun i e h=>by simp at h,by simp [Value.ownBlock]⟩ (by simp [zo])
 have hkk:∀ j,(HEnv.get ((i,HE.row e sz [])::H) j).isSome=true→(HEnv.get ((b,.cell (.agg (cs.set k (.own i))))::(i,HE.row e sz [])::H) j).isSome=true∧(fun j=>if j=i then Value.slice none 0 0 else ρ j) j=(fun j=>if j=i then Value.slice none 0 0 else ρ j) j:=by
  intro j hj
  refine ⟨?_,rfl⟩
  simp only [HEnv.get_nil,HEnv.get_cons] at hj ⊢
  split
  ·rfl
  ·exact hj
 have hlat:=hev.later hf.lt
 refine ⟨h1,h2,K,fun j=>if j=i then .slice none 0 0 else ρ j,⟨hf2.below,hf2.old,hf2.new,hf2.lt,hf2.others,hf2.pt,hf2.away.set (e0:=.cell v) (by rw [HEnv.get_cons,if_neg (Ne.symm hne)];exact hb) rfl,?_,?_⟩,(he.keeps hlat (yG hi _ _)).keeps hlat hkk⟩
 ·intro j hh hj
  simp only [HEnv.get_nil,HEnv.get_cons] at hj
  split at hj
  ·rename_i e';subst e'
   simp only [Option.some.injEq] at hj;subst hj
   have hb2:=(hf2.heap.ok b (.cell v) (by rw [HEnv.get_cons,if_neg (Ne.symm hne)];exact hb)).keeps hev hf.lt hkk
   obtain ⟨b',t',arr,u,hr,hB,hheap,hu,harr,hn⟩:=hb2
   refine ⟨b',t',arr,u,hr,hB,hheap,?_,harr,hn⟩
   have hu':=hu.aggOf hv
   cases hu' with
   | agg _ vs a1 a2 a3 =>
    refine .agg _ vs (by simpa using a1) a2 fun m c x hc hx=>?_
    rw [List.getElem?_set] at hc
    split at hc
    ·rename_i e1;subst e1
     split at hc
     ·simp only [Option.some.injEq] at hc;subst hc
      have:=a3 k _ x hk hx
      cases this with
      | pv _ _ hp =>
       cases hp
       have:=ARel.own (K:=K) (w:=w) (ρ:=fun j=>if j=i then .slice none 0 0 else ρ j) (H:=(b,.cell (.agg (cs.set k (.own i))))::(i,HE.row e sz [])::H) i (by simp [HEnv.get_nil,HEnv.get_cons,hne])
       simpa using this
     ·cases hc
    ·exact a3 m c x hc hx
  ·exact (hf2.heap.ok j hh (by simpa only [HEnv.get_nil,HEnv.get_cons] using hj)).keeps hev hf.lt hkk
 ·intro j k' hh hh' bb hjk hj hk' hlj hlk hbj hbk
  have e1:∀ (j:Nat) (hh:HE),HEnv.get ((b,.cell (.agg (cs.set k (.own i))))::(i,HE.row e sz [])::H) j=some hh→hh.live=true→∃ h0,HEnv.get ((i,HE.row e sz [])::H) j=some h0∧h0.live=true:=by
   intro j hh hj hl
   rw [HEnv.get_cons] at hj
   split at hj
   ·rename_i e';subst e'
    refine ⟨.cell v,?_,rfl⟩
    simp only [HEnv.get_nil,HEnv.get_cons];rw [if_neg (Ne.symm hne)];exact hb
   ·exact ⟨hh,hj,hl⟩
  obtain ⟨a1,a2,a3⟩:=e1 j hh hj hlj
  obtain ⟨b1,b2,b3⟩:=e1 k' hh' hk' hlk
  exact hf2.heap.apart j k' a1 b1 bb hjk a2 b2 a3 b3 hbj hbk
end
end Go.Cg
set_option linter.unusedVariables false
set_option linter.unusedSimpArgs false
namespace Go.Cg
open Go.Proofs Go.Shelf Go.RowKit Go.Lib
set_option maxHeartbeats 20000000
theorem zl3 (d:Int) (hd:d=0∨d=1∨d=2∨d=3) (w:World):Calls Tryz.prog 364 #[.int .u64 1,.int .u64 d] w fun e w'=>e=.returned (.tuple #[.int .u64 0,.int .u64 d])∧w'=w:=by
 rcases hd with rfl|rfl|rfl|rfl
 all_goals
  go_enter Tryz.func364,Tryz.ntmps364
  go_wp2
  go_ret2
  exact ⟨by kernel_rfl,rfl⟩
theorem zef (d:Int) (hd:d=0∨d=1∨d=2∨d=3) (w:World):Calls Tryz.prog 366 #[.int .u64 1,.int .u64 d] w fun e w'=>e=.returned (.tuple #[.int .u64 0,.int .u64 d])∧w'=w:=by
 have h1:=zl3 d hd
 go_enter Tryz.func366,Tryz.ntmps366
 go_wp2_with (refine (h1 _).mono ?_;rintro e w' ⟨rfl,rfl⟩)
 go_ret2
 exact ⟨rfl,rfl⟩
theorem info5:∃ i,Tryz.prog.info? 5=some i∧i.zero=some (.int .u8 0)∧i.size=1∧i.bytes=1:=by
 obtain ⟨i,h1,h2,h3,h4,_⟩:=qF (t:=5) zh rfl
 exact ⟨i,h1,h4,h2,h3⟩
theorem Addr.add_zero' (a:Addr):a.add 0=a:=by cases a;rfl
theorem Wh {w:World} {a:Addr} {v:Value} (o:Obj) (h:w.cell? a=some v):(w.alloc o).cell? a=some v:=by
 have hlt:a.block < w.heap.size:=by
  unfold World.cell? at h
  split at h
  ·rename_i hb;exact (Array.getElem?_eq_some_iff.1 hb).1
  ·cases h
 have hb:Below w.heap.size w (w.alloc o):=(Below.refl _ _).alloc (Nat.le_refl _) _
 unfold World.cell? at h ⊢
 rw [hb.block _ hlt];exact h
set_option maxRecDepth 100000 in
theorem zji (v:Int) (ad:Addr) (c:Nat) (w:World) (hv:w.cell? ad=some (.int .u8 v)):Calls Tryz.prog 470 #[.slice (some ad) 1 c,.int .i64 1] w fun e w' =>
  e=.returned (.slice (some ⟨w.heap.size,0,none⟩) 1 1)∧w'.heap[w.heap.size]?=some (.cells #[.int .u8 v] 5 (0,0))∧Below w.heap.size w w':=by
 obtain ⟨i0,hi0,hz0,hs0,hb0⟩:=info5
 have h1:=zef 1 (by decide)
 have hmk:∀ w:World,(Instr.makeSlice 455 (.int .i64 1) (.int .i64 1)).run Tryz.prog w=.ok (.slice (some ⟨w.heap.size,0,none⟩) 1 1) (w.alloc (.cells #[.int .u8 0] 5)):=fun w=>by
  have:=run_makeSlice (P:=Tryz.prog) w 455 5 i0 (.int .u8 0) Tryz.underlying455 hi0 hz0 .i64 .i64 1 1 (by omega) (by omega) (by simp [hs0]) (by simp [hb0]) (by omega)
  rw [hs0] at this
  have e:madeCells (Value.int .u8 0).cells (Int.toNat 1 * 1)=#[.int .u8 0]:=by simp [madeCells,Value.cells,Array.range];rfl
  rw [e] at this
  exact this
 have hsz:(Tryz.prog.info? 5).map (·.size)=some 1:=by rw [hi0];simp [hs0]
 go_enter Tryz.func470,Tryz.ntmps470
 go_wp2_with (first|(refine (h1 _).mono ?_;rintro e w2 ⟨rfl,hw2⟩;rw [hw2];clear hw2 w2)|(refine wpList_copy_splice rfl _ _ _ _ rfl 5 Tryz.underlying455 hsz _ _ _ _ _ _ rfl rfl w.heap.size 0 [.int .u8 0] 5 ?_ [.int .u8 v] (by rfl) ?_ (by simp) (by simp [Value.oneCell']) w.heap.size w ?_ (Nat.le_refl _) ?_))
 ·exact heap_alloc_new w _
 ·intro j u hj
  cases j with
  | zero =>
   simp at hj;subst hj
   rw [Addr.add_zero',Wh _ hv]
  | succ j=>simp at hj
 ·exact (Below.refl _ _).alloc (Nat.le_refl _) _
 ·intro w2 hh hb
  go_wp2
  refine wp_loop_once ?_
  go_wp2
  go_ret
  exact ⟨rfl,by simpa [splice] using (show _=_ from hh),hb⟩
end Go.Cg
set_option linter.unusedVariables false
set_option linter.unusedSimpArgs false
namespace Go.Cg
open Go.Proofs Go.Shelf Go.RowKit Go.Lib
set_option maxHeartbeats 4000000 in
set_option maxRecDepth 100000 in
theorem ziQ (v:Int) (ad:Addr) (c:Nat) (w:World) (hv:w.cell? ad=some (.int .u8 v)):Calls Tryz.prog 470 #[.slice (some ad) 1 c,.int .i64 2] w fun e w' =>
  e=.returned (.slice (some ⟨w.heap.size,0,none⟩) 2 2)∧w'.heap[w.heap.size]?=some (.cells #[.int .u8 v,.int .u8 v] 5 (0,0))∧Below w.heap.size w w':=by
 obtain ⟨i0,hi0,hz0,hs0,hb0⟩:=info5
 have h1:=zef 2 (by decide)
 have hmk:∀ w:World,(Instr.makeSlice 455 (.int .i64 2) (.int .i64 2)).run Tryz.prog w=.ok (.slice (some ⟨w.heap.size,0,none⟩) 2 2) (w.alloc (.cells #[.int .u8 0,.int .u8 0] 5)):=fun w=>by
  have:=run_makeSlice (P:=Tryz.prog) w 455 5 i0 (.int .u8 0) Tryz.underlying455 hi0 hz0 .i64 .i64 2 2 (by omega) (by omega) (by simp [hs0]) (by simp [hb0]) (by omega)
  rw [hs0] at this
  have e:madeCells (Value.int .u8 0).cells (Int.toNat 2 * 1)=#[.int .u8 0,.int .u8 0]:=by simp [madeCells,Value.cells,Array.range];rfl
  rw [e] at this
  exact this
 have hsz:(Tryz.prog.info? 5).map (·.size)=some 1:=by rw [hi0];simp [hs0]
 go_enter Tryz.func470,Tryz.ntmps470
 go_wp2_with (first|(refine (h1 _).mono ?_;rintro e w2 ⟨rfl,hw2⟩;rw [hw2];clear hw2 w2)|(refine wpList_copy_splice rfl _ _ _ _ rfl 5 Tryz.underlying455 hsz _ _ _ _ _ _ rfl rfl w.heap.size 0 [.int .u8 0,.int .u8 0] 5 ?_ [.int .u8 v] (by rfl) ?_ (by simp) (by simp [Value.oneCell']) w.heap.size w ?_ (Nat.le_refl _) ?_))
 ·exact heap_alloc_new w _
 ·intro j u hj
  cases j with
  | zero =>
   simp at hj;subst hj
   rw [Addr.add_zero',Wh _ hv]
  | succ j=>simp at hj
 ·exact (Below.refl _ _).alloc (Nat.le_refl _) _
 ·intro w2 hh hb
  have hh':w2.heap[w.heap.size]?=some (.cells #[.int .u8 v,.int .u8 0] 5 (0,0)):=by simpa [splice] using (show _=_ from hh)
  go_wp2
  refine wp_loop_rounds 2 ?_
  unfold Code.rounds
  go_wp2
  have hsrc:∀ j u,([.int .u8 v]:List Value)[j]?=some u→w2.cell? ((⟨w.heap.size,0,none⟩:Addr).add j)=some u:=by
   intro j u hj
   cases j with
   | zero=>simp at hj;subst hj;rw [Addr.add_zero'];simp [World.cell?,hh']
   | succ j=>simp at hj
  go_region_law (refine step_copy_splice rfl (.tmp 41) (.tmp 44) 455 455 rfl 5 Tryz.underlying455 hsz (some ⟨w.heap.size,1,none⟩) (some ⟨w.heap.size,0,none⟩) 1 1 1 2 (by simp [Act.eval,Act.put]) (by simp [Act.eval,Act.put]) w.heap.size 1 [.int .u8 v,.int .u8 0] 5 hh' [.int .u8 v] (by rfl) (fun _=>⟨rfl,_,rfl,hsrc⟩) (by simp) (by simp [Value.oneCell']) w.heap.size w hb.drew (Nat.le_refl _) ?_;intro w3 hh3 hb3)
  go_wp2
  rw [rounds_succ]
  go_wp2
  go_ret
  exact ⟨rfl,by simpa [splice] using (show _=_ from hh3),hb3⟩
end Go.Cg
set_option linter.unusedVariables false
set_option linter.unusedSimpArgs false
namespace Go.Cg
open Go.Proofs Go.Shelf Go.RowKit Go.Lib
set_option maxHeartbeats 4000000 in
set_option maxRecDepth 100000 in
theorem zjX (v:Int) (ad:Addr) (c:Nat) (w:World) (hv:w.cell? ad=some (.int .u8 v)):Calls Tryz.prog 470 #[.slice (some ad) 1 c,.int .i64 3] w fun e w' =>
  e=.returned (.slice (some ⟨w.heap.size,0,none⟩) 3 3)∧w'.heap[w.heap.size]?=some (.cells #[.int .u8 v,.int .u8 v,.int .u8 v] 5 (0,0))∧Below w.heap.size w w':=by
 obtain ⟨i0,hi0,hz0,hs0,hb0⟩:=info5
 have h1:=zef 3 (by decide)
 have hmk:∀ w:World,(Instr.makeSlice 455 (.int .i64 3) (.int .i64 3)).run Tryz.prog w=.ok (.slice (some ⟨w.heap.size,0,none⟩) 3 3) (w.alloc (.cells #[.int .u8 0,.int .u8 0,.int .u8 0] 5)):=fun w=>by
  have:=run_makeSlice (P:=Tryz.prog) w 455 5 i0 (.int .u8 0) Tryz.underlying455 hi0 hz0 .i64 .i64 3 3 (by omega) (by omega) (by simp [hs0]) (by simp [hb0]) (by omega)
  rw [hs0] at this
  have e:madeCells (Value.int .u8 0).cells (Int.toNat 3 * 1)=#[.int .u8 0,.int .u8 0,.int .u8 0]:=by simp [madeCells,Value.cells,Array.range];rfl
  rw [e] at this
  exact this
 have hsz:(Tryz.prog.info? 5).map (·.size)=some 1:=by rw [hi0];simp [hs0]
 go_enter Tryz.func470,Tryz.ntmps470
 go_wp2_with (first|(refine (h1 _).mono ?_;rintro e w2 ⟨rfl,hw2⟩;rw [hw2];clear hw2 w2)|(refine wpList_copy_splice rfl _ _ _ _ rfl 5 Tryz.underlying455 hsz _ _ _ _ _ _ rfl rfl w.heap.size 0 [.int .u8 0,.int .u8 0,.int .u8 0] 5 ?_ [.int .u8 v] (by rfl) ?_ (by simp) (by simp [Value.oneCell']) w.heap.size w ?_ (Nat.le_refl _) ?_))
 ·exact heap_alloc_new w _
 ·intro j u hj
  cases j with
  | zero =>
   simp at hj;subst hj
   rw [Addr.add_zero',Wh _ hv]
  | succ j=>simp at hj
 ·exact (Below.refl _ _).alloc (Nat.le_refl _) _
 ·intro w2 hh hb
  have hh':w2.heap[w.heap.size]?=some (.cells #[.int .u8 v,.int .u8 0,.int .u8 0] 5 (0,0)):=by simpa [splice] using (show _=_ from hh)
  go_wp2
  refine wp_loop_rounds 3 ?_
  unfold Code.rounds
  go_wp2
  have hsrc:∀ j u,([.int .u8 v]:List Value)[j]?=some u→w2.cell? ((⟨w.heap.size,0,none⟩:Addr).add j)=some u:=by
   intro j u hj
   cases j with
   | zero=>simp at hj;subst hj;rw [Addr.add_zero'];simp [World.cell?,hh']
   | succ j=>simp at hj
  go_region_law (refine step_copy_splice rfl (.tmp 41) (.tmp 44) 455 455 rfl 5 Tryz.underlying455 hsz (some ⟨w.heap.size,1,none⟩) (some ⟨w.heap.size,0,none⟩) 2 2 1 3 (by simp [Act.eval,Act.put]) (by simp [Act.eval,Act.put]) w.heap.size 1 [.int .u8 v,.int .u8 0,.int .u8 0] 5 hh' [.int .u8 v] (by rfl) (fun _=>⟨rfl,_,rfl,hsrc⟩) (by simp) (by simp [Value.oneCell']) w.heap.size w hb.drew (Nat.le_refl _) ?_;intro w3 hh3 hb3)
  have hh3':w3.heap[w.heap.size]?=some (.cells #[.int .u8 v,.int .u8 v,.int .u8 0] 5 (0,0)):=by simpa [splice] using (show _=_ from hh3)
  go_wp2
  rw [rounds_succ]
  go_wp2
  have hsrc3:∀ j u,([.int .u8 v]:List Value)[j]?=some u→w3.cell? ((⟨w.heap.size,0,none⟩:Addr).add j)=some u:=by
   intro j u hj
   cases j with
   | zero=>simp at hj;subst hj;rw [Addr.add_zero'];simp [World.cell?,hh3']
   | succ j=>simp at hj
  go_region_law (refine step_copy_splice rfl (.tmp 41) (.tmp 44) 455 455 rfl 5 Tryz.underlying455 hsz (some ⟨w.heap.size,2,none⟩) (some ⟨w.heap.size,0,none⟩) 1 1 2 3 (by simp [Act.eval,Act.put]) (by simp [Act.eval,Act.put]) w.heap.size 2 [.int .u8 v,.int .u8 v,.int .u8 0] 5 hh3' [.int .u8 v] (by rfl) (fun _=>⟨rfl,_,rfl,hsrc3⟩) (by simp) (by simp [Value.oneCell']) w.heap.size w hb3.drew (Nat.le_refl _) ?_;intro w4 hh4 hb4)
  go_wp2
  rw [rounds_succ]
  go_wp2
  go_ret
  exact ⟨rfl,by simpa [splice] using (show _=_ from hh4),hb4⟩
end Go.Cg
set_option linter.unusedVariables false
set_option linter.unusedSimpArgs false
namespace Go.Cg
open Go.Proofs Go.Shelf Go.RowKit Go.Lib
set_option maxHeartbeats 4000000 in
set_option maxRecDepth 100000 in
theorem zi5 (v:Int) (ad:Addr) (c:Nat) (w:World) (hv:w.cell? ad=some (.int .u8 v)):Calls Tryz.prog 470 #[.slice (some ad) 1 c,.int .i64 0] w fun e w' =>
  e=.returned (.slice (some ⟨w.heap.size,0,none⟩) 0 0)∧w'.heap[w.heap.size]?=some (.cells #[] 5 (0,0))∧Below w.heap.size w w':=by
 obtain ⟨i0,hi0,hz0,hs0,hb0⟩:=info5
 have h1:=zef 0 (by decide)
 have hmk:∀ w:World,(Instr.makeSlice 455 (.int .i64 0) (.int .i64 0)).run Tryz.prog w=.ok (.slice (some ⟨w.heap.size,0,none⟩) 0 0) (w.alloc (.cells #[] 5)):=fun w=>by
  have:=run_makeSlice (P:=Tryz.prog) w 455 5 i0 (.int .u8 0) Tryz.underlying455 hi0 hz0 .i64 .i64 0 0 (by omega) (by omega) (by simp [hs0]) (by simp [hb0]) (by omega)
  rw [hs0] at this
  have e:madeCells (Value.int .u8 0).cells (Int.toNat 0 * 1)=#[]:=by simp [madeCells]
  rw [e] at this
  exact this
 have hsz:(Tryz.prog.info? 5).map (·.size)=some 1:=by rw [hi0];simp [hs0]
 go_enter Tryz.func470,Tryz.ntmps470
 go_wp2_with (first|(refine (h1 _).mono ?_;rintro e w2 ⟨rfl,hw2⟩;rw [hw2];clear hw2 w2)|(refine wpList_copy_splice rfl _ _ _ _ rfl 5 Tryz.underlying455 hsz _ _ _ _ _ _ rfl rfl w.heap.size 0 [] 5 ?_ [] (by rfl) (fun h=>by simp at h) (by simp) (by simp) w.heap.size w ?_ (Nat.le_refl _) ?_))
 ·exact heap_alloc_new w _
 ·exact (Below.refl _ _).alloc (Nat.le_refl _) _
 ·intro w2 hh hb
  go_wp2
  refine wp_loop_once ?_
  go_wp2
  go_ret
  exact ⟨rfl,by simpa [splice] using (show _=_ from hh),hb⟩
theorem zbg {K:Cg.KK} {w w':World} (hl:∀ b o,K b o→b < w.heap.size) {t:TypeId} (l:List Int) (hb:Below w.heap.size w w') (hh:w'.heap[w.heap.size]?=some (.cells (l.map fun n=>Value.int .u8 n).toArray t (0,0))) (hlen:l.length≤maxLen) :
  ∃ K',Evo K K' w w'∧PRel K' w' (.slc 1 (l.map fun n=>.base (.int .u8 n)) false) (.slice (some ⟨w.heap.size,0,none⟩) l.length l.length):=by
 have hlt:w.heap.size < w'.heap.size:=(Array.getElem?_eq_some_iff.1 hh).1
 refine ⟨VG K w l.length,⟨hb,fun b o h=>.inl h,fun b o h=>h.imp id (fun ⟨h1,_⟩=>by omega),fun b o h=>?_⟩,?_⟩
 ·rcases h with h|⟨h,_⟩
  ·have:=hl b o h;omega
  ·omega
 ·have hcell:∀ (k:Nat) (v:Value),(l.map fun n=>Value.int .u8 n)[k]?=some v→w'.cell? ⟨w.heap.size,k,none⟩=some v:=by
   intro k v hv
   simp only [World.cell?,hh]
   simpa using hv
  have:=PRel.slc (K:=VG K w l.length) (w:=w') 1 (l.map fun n=>.base (.int .u8 n)) false w.heap.size 0 l.length (fun i=>[Value.int .u8 (l.getD i 0)]) (by omega) (by simp) (by simp) (by simpa using hlen) hlen
   (fun i e he=>by
    rw [List.getElem?_map] at he
    cases hi:l[i]? with
    | none=>simp [hi] at he
    | some n =>
     simp [hi] at he;subst he
     refine ⟨rfl,rfl,fun k v hv=>?_⟩
     cases k with
     | zero =>
      simp [List.getD_eq_getElem?_getD,hi] at hv;subst hv
      refine ⟨.inr ⟨rfl,by have:=(List.getElem?_eq_some_iff.1 hi).1;omega⟩,?_,rfl⟩
      have:=hcell i (.int .u8 n) (by simp [hi])
      simpa using this
     | succ k=>simp at hv)
   (fun i e k c v he hc hv=>by
    rw [List.getElem?_map] at he
    cases hi:l[i]? with
    | none=>simp [hi] at he
    | some n =>
     simp [hi] at he;subst he
     cases k with
     | zero =>
      simp [PV.cells] at hc;subst hc
      simp [List.getD_eq_getElem?_getD,hi] at hv;subst hv
      exact .base _ rfl
     | succ k=>simp [PV.cells] at hc)
  simpa using this
theorem zat (v d:Int) (h0:0≤d) (h1:d≤3):ACall Tryz.prog 470 [.slc 1 [.base (.int .u8 v)] true,pi d] (.slc 1 ((List.replicate d.toNat v).map fun n=>.base (.int .u8 n)) false):=by
 refine ⟨⟨_,Tryz.func470,rfl,by kernel_rfl⟩,fun K w vs hl hv=>?_⟩
 obtain ⟨v0,vs0,rfl,r0,hv0⟩:=hv.cons_inv
 obtain ⟨v1,vs1,rfl,r1,hv1⟩:=hv0.cons_inv
 obtain rfl:=hv1.nil_inv
 cases r1
 cases r0 with
 | slc _ _ _ b o cap vss q0 q1 q2 q3 q4 q5 q6 =>
  obtain ⟨_,e2,e3⟩:=q5 0 _ rfl
  have hvs:vss 0=[Value.int .u8 v]:=by
   cases hx:vss 0 with
   | nil=>rw [hx] at e2;simp at e2
   | cons x xs =>
    rw [hx] at e2
    have:xs=[]:=List.eq_nil_of_length_eq_zero (by simpa using e2)
    subst this
    have:=q6 0 _ 0 _ x rfl rfl (by rw [hx];rfl)
    cases this;rfl
  have hc:w.cell? ⟨b,o,none⟩=some (.int .u8 v):=by
   have:=(e3 0 (.int .u8 v) (by rw [hvs];rfl)).2.1
   simpa using this
  have hd:d=0∨d=1∨d=2∨d=3:=by omega
  rcases hd with rfl|rfl|rfl|rfl
  ·refine (zi5 v _ cap w hc).mono ?_
   rintro e w' ⟨rfl,hh,hb⟩
   obtain ⟨K',g1,g2⟩:=zbg hl [] hb hh (by simp)
   exact ⟨_,K',rfl,g1,g2⟩
  ·refine (zji v _ cap w hc).mono ?_
   rintro e w' ⟨rfl,hh,hb⟩
   obtain ⟨K',g1,g2⟩:=zbg hl [v] hb hh (by simp [maxLen])
   exact ⟨_,K',rfl,g1,g2⟩
  ·refine (ziQ v _ cap w hc).mono ?_
   rintro e w' ⟨rfl,hh,hb⟩
   obtain ⟨K',g1,g2⟩:=zbg hl [v,v] hb hh (by simp [maxLen])
   exact ⟨_,K',rfl,g1,g2⟩
  ·refine (zjX v _ cap w hc).mono ?_
   rintro e w' ⟨rfl,hh,hb⟩
   obtain ⟨K',g1,g2⟩:=zbg hl [v,v,v] hb hh (by simp [maxLen])
   exact ⟨_,K',rfl,g1,g2⟩
end Go.Cg
namespace Go.Cg
open Go.RowKit
section
variable {P:Program} {n:Nat} {g:Base} {H:HEnv} {env:Env} {c:Code} {QQ:QC} {K:KK} {w:World} {ρ:Nat→Value}
theorem Wv (b i k:Nat) (e:TypeId) (sz:Nat) {v:AV} {cs:List AV} (hsz:0 < sz) (hb:H.get b=some (.cell v)) (hv:aggOf v=some cs) (hk:cs[k]?=some (.pv (.base (.slice none 0 0)))) (hi:H.get i=none)
  (h:AW P n g c env ((b,.cell (.agg (cs.set k (.own i))))::(i,.mrow e sz [])::H) QQ):AW P n g c env H QQ:=by
 refine ⟨fun a w hinv=>h.go a w ?_⟩
 obtain ⟨h1,h2,K,ρ,hf,he⟩:=hinv
 have hev:Evo K K w w:=.refl hf.lt
 have hne:b≠i:=by rintro rfl;simp [hi] at hb
 have hf2:FS g K (fun j=>if j=i then .slice none 0 0 else ρ j) ((i,.mrow e sz [])::H) w:=hf.fresh hev hi ⟨[],World.ownsRow_nil w _ e sz,hsz,fun i e h=>by simp at h,by simp [Value.ownBlock]⟩ (by simp [zo])
 have hkk:∀ j,(HEnv.get ((i,HE.mrow e sz [])::H) j).isSome=true→(HEnv.get ((b,.cell (.agg (cs.set k (.own i))))::(i,HE.mrow e sz [])::H) j).isSome=true∧(fun j=>if j=i then Value.slice none 0 0 else ρ j) j=(fun j=>if j=i then Value.slice none 0 0 else ρ j) j:=by
  intro j hj
  refine ⟨?_,rfl⟩
  simp only [HEnv.get_nil,HEnv.get_cons] at hj ⊢
  split
  ·rfl
  ·exact hj
 have hlat:=hev.later hf.lt
 refine ⟨h1,h2,K,fun j=>if j=i then .slice none 0 0 else ρ j,⟨hf2.below,hf2.old,hf2.new,hf2.lt,hf2.others,hf2.pt,hf2.away.set (e0:=.cell v) (by rw [HEnv.get_cons,if_neg (Ne.symm hne)];exact hb) rfl,?_,?_⟩,(he.keeps hlat (yG hi _ _)).keeps hlat hkk⟩
 ·intro j hh hj
  simp only [HEnv.get_nil,HEnv.get_cons] at hj
  split at hj
  ·rename_i e';subst e'
   simp only [Option.some.injEq] at hj;subst hj
   have hb2:=(hf2.heap.ok b (.cell v) (by rw [HEnv.get_cons,if_neg (Ne.symm hne)];exact hb)).keeps hev hf.lt hkk
   obtain ⟨b',t',arr,u,hr,hB,hheap,hu,harr,hn⟩:=hb2
   refine ⟨b',t',arr,u,hr,hB,hheap,?_,harr,hn⟩
   have hu':=hu.aggOf hv
   cases hu' with
   | agg _ vs a1 a2 a3 =>
    refine .agg _ vs (by simpa using a1) a2 fun m c x hc hx=>?_
    rw [List.getElem?_set] at hc
    split at hc
    ·rename_i e1;subst e1
     split at hc
     ·simp only [Option.some.injEq] at hc;subst hc
      have:=a3 k _ x hk hx
      cases this with
      | pv _ _ hp =>
       cases hp
       have:=ARel.own (K:=K) (w:=w) (ρ:=fun j=>if j=i then .slice none 0 0 else ρ j) (H:=(b,.cell (.agg (cs.set k (.own i))))::(i,HE.mrow e sz [])::H) i (by simp [HEnv.get_nil,HEnv.get_cons,hne])
       simpa using this
     ·cases hc
    ·exact a3 m c x hc hx
  ·exact (hf2.heap.ok j hh (by simpa only [HEnv.get_nil,HEnv.get_cons] using hj)).keeps hev hf.lt hkk
 ·intro j k' hh hh' bb hjk hj hk' hlj hlk hbj hbk
  have e1:∀ (j:Nat) (hh:HE),HEnv.get ((b,.cell (.agg (cs.set k (.own i))))::(i,HE.mrow e sz [])::H) j=some hh→hh.live=true→∃ h0,HEnv.get ((i,HE.mrow e sz [])::H) j=some h0∧h0.live=true:=by
   intro j hh hj hl
   rw [HEnv.get_cons] at hj
   split at hj
   ·rename_i e';subst e'
    refine ⟨.cell v,?_,rfl⟩
    simp only [HEnv.get_nil,HEnv.get_cons];rw [if_neg (Ne.symm hne)];exact hb
   ·exact ⟨hh,hj,hl⟩
  obtain ⟨a1,a2,a3⟩:=e1 j hh hj hlj
  obtain ⟨b1,b2,b3⟩:=e1 k' hh' hk' hlk
  exact hf2.heap.apart j k' a1 b1 bb hjk a2 b2 a3 b3 hbj hbk
end
section
variable {P:Program} {tb:Tab} {g:Base} {H:HEnv} {env:Env} {o:Oper} {K:KK} {w:World} {ρ:Nat→Value}
def AL (K:KK) (w:World) (ρ:Nat→Value) (H:HEnv) (cs:List AV) (vs:List Value):Prop:=vs.length=cs.length∧∀ (k:Nat) (c:AV) (v:Value),cs[k]?=some c→vs[k]?=some v→ARel K w ρ H c v
theorem AL.take {cs:List AV} {vs:List Value} (h:AL K w ρ H cs vs) (n:Nat):AL K w ρ H (cs.take n) (vs.take n) :=
 ⟨by simp [h.1],fun k c v hc hv=>by
  rw [List.getElem?_take] at hc hv
  split at hc
  ·rename_i hk;rw [if_pos hk] at hv;exact h.2 k c v hc hv
  ·cases hc⟩
theorem AL.drop {cs:List AV} {vs:List Value} (h:AL K w ρ H cs vs) (n:Nat):AL K w ρ H (cs.drop n) (vs.drop n) :=
 ⟨by simp [h.1],fun k c v hc hv=>by
  rw [List.getElem?_drop] at hc hv
  exact h.2 _ c v hc hv⟩
theorem AL.append {cs ds:List AV} {vs us:List Value} (h:AL K w ρ H cs vs) (h':AL K w ρ H ds us):AL K w ρ H (cs++ds) (vs++us) :=
 ⟨by simp [h.1,h'.1],fun k c v hc hv=>by
  rw [List.getElem?_append] at hc hv
  rw [h.1] at hv
  split at hc
  ·rename_i hk;rw [if_pos hk] at hv;exact h.2 k c v hc hv
  ·rename_i hk;rw [if_neg hk] at hv;exact h'.2 _ c v hc hv⟩
def ziW (place:Nat→Option (Nat × Nat)):List AV→List (Nat × AV)→Option (List AV)
 | cells,[]=>some cells
 | cells,(i,p)::r =>
  match place i with
  | none=>none
  | some (off,size)=>if p.flat.length=size∧off + size≤cells.length then ziW place (cells.take off++p.flat++cells.drop (off + size)) r else none
def zet (env:Env):List (Nat × Operand)→Option (List (Nat × AV))
 | []=>some []
 | (i,x)::xs=>match env.val x,zet env xs with|some p,some ps=>some ((i,p)::ps)|_,_=>none
theorem zgK (place:Nat→Option (Nat × Nat)) (hrow:∀ i,isVal H i=true→(ρ i).cells=#[ρ i]∧(ρ i).oneCell'=true):∀ {ps:List (Nat × AV)} {cells cs:List AV} {vcells:Array Value} {vps:List (Nat × Value)},AL K w ρ H cells vcells.toList→ps.map (·.1)=vps.map (·.1) →
  AL K w ρ H (ps.map (·.2)) (vps.map (·.2))→(ps.all fun x=>x.2.flat.all (zgc H))=true→ziW place cells ps=some cs→∃ r,Instr.fill place vcells vps=some r∧AL K w ρ H cs r.toList
 | [],cells,cs,vcells,vps,hc,hi,hp,_,h=>by
  have:vps=[]:=by simpa using hi.symm
  subst this
  simp [ziW] at h;subst h
  exact ⟨vcells,rfl,hc⟩
 | (i,p)::ps,cells,cs,vcells,vps,hc,hi,hp,ho,h=>by
  cases vps with
  | nil=>simp at hi
  | cons x vps =>
   obtain ⟨j,v⟩:=x
   simp at hi
   obtain ⟨rfl,hi⟩:=hi
   simp only [List.map_cons] at hp
   have hpv:=hp.2 0 p v rfl rfl
   have hps:AL K w ρ H (ps.map (·.2)) (vps.map (·.2)):=⟨by have:=hp.1;simpa using this,fun k c u h1 h2=>hp.2 (k + 1) c u (by simpa using h1) (by simpa using h2)⟩
   simp only [List.all_cons,Bool.and_eq_true] at ho
   simp only [ziW] at h
   split at h
   ·cases h
   ·rename_i off size hpl
    split at h
    ·rename_i hle
     obtain ⟨f1,f2,f3⟩:=zaV hpv ho.1 hrow
     have hcr:AL K w ρ H p.flat v.cells.toList:=⟨by simpa using f1,f3⟩
     have hsz:v.cells.size=size:=by rw [←hle.1,f1]
     have hcs:vcells.size=cells.length:=by rw [←hc.1];simp
     have hfold:=foldl_set off v.cells.toList 0 vcells (by simp;omega)
     obtain ⟨r,hr1,hr2⟩:=zgK place hrow (vcells:=(v.cells.toList.zipIdx 0).foldl (fun cs (c:Value × Nat)=>cs.setIfInBounds (off + c.2) c.1) vcells) (vps:=vps) (cells:=cells.take off++p.flat++cells.drop (off + size)) (cs:=cs)
      (by rw [hfold];simp only [Nat.add_zero,Array.length_toList,hsz];exact ((hc.take off).append hcr).append (hc.drop _)) (by simpa using hi) hps ho.2 h
     refine ⟨r,?_,hr2⟩
     rw [←hr1]
     simp only [Instr.fill,hpl]
     rw [←Array.foldl_toList,Array.toList_zipIdx,if_neg (by simp;omega)]
    ·cases h
theorem zfb {a:Act}:∀ {xs:List (Nat × Operand)} {ps:List (Nat × AV)},(∀ x∈xs,∀ av,env.val x.2=some av→ARel K w ρ H av (a.eval x.2))→zet env xs=some ps →
  ps.map (·.1)=xs.map (·.1)∧AL K w ρ H (ps.map (·.2)) (xs.map fun x=>a.eval x.2)
 | [],ps,_,h=>by simp [zet] at h;subst h;exact ⟨rfl,rfl,fun k c v h=>by simp at h⟩
 | (i,x)::xs,ps,hv,h=>by
  simp only [zet] at h
  split at h
  ·rename_i p qs e1 e2
   simp only [Option.some.injEq] at h;subst h
   obtain ⟨r1,r2⟩:=zfb (fun y hy=>hv y (by simp [hy])) e2
   refine ⟨by simp [r1],by simp [r2.1],fun k c v hc hvv=>?_⟩
   cases k with
   | zero=>simp at hc hvv;subst hc hvv;exact hv (i,x) (by simp) _ e1
   | succ k=>exact r2.2 k c v (by simpa using hc) (by simpa using hvv)
  ·cases h
theorem zaF (htb:zX P tb) {t:Nat} {parts:Array (Nat × Operand)} {fs:List (Nat × Nat × Nat)} {z:Value} {zs:List PV} {ps:List (Nat × AV)} {cs:List AV} (hop:o.op=.build t parts) (hk:∃ q,tb.k t=.agg fs q) (hz:tb.zero t=some z)
  (hzs:Xv z.cells.toList=some zs) (hps:zet env parts.toList=some ps) (hone:(ps.all fun x=>x.2.flat.all (zgc H))=true) (hall:(fs.all fun f=>tb.known f.2.1&&tb.size f.2.1==f.2.2)=true)
  (hcs:ziW (zc1 fs) (zs.map .pv) ps=some cs):QStep P g H o env (.agg cs):=by
 refine ⟨fun K ρ a w hfs hv=>?_⟩
 obtain ⟨q,hk⟩:=hk
 obtain ⟨F,hF,hfs',_⟩:=Xl htb hk
 obtain ⟨h1,h2⟩:=zfb (K:=K) (w:=w) (ρ:=ρ) (H:=H) (a:=a) (xs:=parts.toList) (fun x hx=>hv x.2 (by rw [hop];simp [Op.operands];exact ⟨x.1,by simpa using hx⟩)) hps
 have hz0:AL K w ρ H (zs.map .pv) z.cells.toList:=by
  have:=QO (K:=K) (w:=w) hzs
  refine ⟨by rw [List.length_map];exact this.1,fun k c v hc hvv=>?_⟩
  rw [List.getElem?_map] at hc
  cases hk2:zs[k]? with
  | none=>simp [hk2] at hc
  | some p=>simp [hk2] at hc;subst hc;exact .pv _ _ (this.2 k p v hk2 hvv)
 obtain ⟨rr,hr1,hr2⟩:=zgK (K:=K) (w:=w) (ρ:=ρ) (H:=H) _ (row_one hfs) (vcells:=z.cells) (vps:=parts.toList.map fun x=>(x.1,a.eval x.2)) hz0 (by simpa [List.map_map,Function.comp_def] using h1) (by simpa [List.map_map,Function.comp_def] using h2) hone hcs
 have hzi:∃ i,P.info? t=some i∧i.zero=some z:=by
  unfold Tab.zero at hz
  split at hz
  ·rename_i ti hti
   obtain ⟨i,e1,_,_,e4,_⟩:=qF htb hti
   exact ⟨i,e1,by rw [e4];exact hz⟩
  ·cases hz
 obtain ⟨i,hi,hiz⟩:=hzi
 have hplaces:∀ (l:List Field),(∀ f∈l,f∈F.toList)→(l.mapM fun f=>(Prod.mk f.offset <$> sizeOf f.type:Sem (Nat × Nat))).run P w=.ok (l.map fun f=>(f.offset,tb.size f.type)) w:=by
  intro l
  induction l with
  | nil=>intro _;simp
  | cons f l ih =>
   intro hl
   have hf:f∈F.toList:=hl f (by simp)
   have hall':=List.all_eq_true.1 hall (f.offset,f.type,P.cellsOf f.type) (by rw [←hfs'];exact List.mem_map.2 ⟨f,hf,rfl⟩)
   simp only [Bool.and_eq_true] at hall'
   have hko:tb.k f.type≠.oth:=by intro e;simp [Tab.known,e] at hall'
   have hs:=run_sizeOf htb hko w
   have ih':=ih (fun f hf=>hl f (by simp [hf]))
   simp [List.mapM_cons,hs,ih']
 have hpl:=hplaces F.toList (fun f hf=>hf)
 have hfun:zc1 fs=fun i=>((F.toList.map fun f=>(f.offset,tb.size f.type)).toArray)[i]?:=by
  funext i
  rw [←hfs']
  simp only [zc1,List.getElem?_map,List.getElem?_toArray,Array.getElem?_toList]
  cases hfl:F[i]? with
  | none=>rfl
  | some f =>
   simp only [Option.map_some,Option.some.injEq,Prod.mk.injEq,true_and]
   have hf:f∈F.toList:=by simpa using Array.mem_of_getElem? hfl
   have hall':=List.all_eq_true.1 hall (f.offset,f.type,P.cellsOf f.type) (by rw [←hfs'];exact List.mem_map.2 ⟨f,hf,rfl⟩)
   simp only [Bool.and_eq_true,beq_iff_eq] at hall'
   exact hall'.2.symm
 rw [hfun] at hr1
 have:(execOp a.eval o).run P w=.ok (.value (.agg rr)) w:=by
  have hm:(F.mapM fun f=>(do pure (f.offset,←sizeOf f.type):Sem (Nat × Nat))).run P w=.ok (F.toList.map fun f=>(f.offset,tb.size f.type)).toArray w:=by
   rw [Array.mapM_eq_mapM_toList]
   simp only [bind_pure_comp,Sem.run_map,hpl,Result.andThen_ok]
  have hp2:(parts.map fun x=>(x.1,a.eval x.2)).toList=parts.toList.map fun x=>(x.1,a.eval x.2):=by simp
  simp only [execOp,hop,Instr.build,Sem.run_bind,zeroValue,typeInfo,run_program,hi,hiz,Result.andThen_ok,Sem.run_pure,run_underlying hF,hm,hp2,hr1]
 rw [this]
 have hone':∀ v∈rr.toList,v.oneCell'=true:=zfc _ hr1 (QY hzs) (by
  intro x hx v hv'
  obtain ⟨k,hk⟩:=List.getElem?_of_mem hx
  have hk2:(parts.toList.map fun x=>a.eval x.2)[k]?=some x.2:=by
   rw [List.getElem?_map] at hk ⊢
   cases hpk:parts.toList[k]? with
   | none=>rw [hpk] at hk;simp at hk
   | some y=>rw [hpk] at hk;simp at hk;subst hk;rfl
  have hlt:k < (ps.map (·.2)).length:=by rw [←h2.1];exact (List.getElem?_eq_some_iff.1 hk2).1
  have hp:=List.getElem?_eq_getElem hlt
  have hall1:=List.all_eq_true.1 hone (ps[k]'(by simpa using hlt)) (List.getElem_mem _)
  exact (zaV (h2.2 k _ _ hp hk2) (by simpa using hall1) (row_one hfs)).2.1 v hv')
 exact qH hfs (by have:=ARel.agg (K:=K) (w:=w) (ρ:=ρ) (H:=H) cs rr.toList hr2.1 hone' hr2.2;simpa using this)
theorem ZT (htb:zX P tb) {ty:Nat} {x:Operand} {i off:Nat} {cs:List AV} {ps:List PV} {q:PV} (hop:o.op=.load ty x) (hx:env.val x=some (.box i off)) (hi:H.get i=some (.cell (.agg cs))) (hps:(cs.drop off).take ps.length=ps.map .pv) (hq:Xg tb ty ps 0=some q):QStep P g H o env (.pv q):=by
 refine ⟨fun K ρ a w hf hv=>?_⟩
 have hxr:=hv x (by rw [hop];simp [Op.operands]) _ hx
 generalize hxv:a.eval x=xv at hxr
 obtain ⟨b,t,arr,u,hr,hB,hheap,hu,harr,hn⟩:=hf.heap.ok i _ hi
 cases hxr with
 | box _ _ b' hi' hρ =>
  rw [hr] at hρ
  simp only [Value.pointer.injEq,Option.some.injEq,Addr.mk.injEq,and_true] at hρ
  subst hρ
  cases hu with
  | agg _ vs a1 a2 a3 =>
   have hcell:∀ (k:Nat) (v:Value),((vs.drop off).take ps.length)[k]?=some v→w.cell? ⟨b,off + k,none⟩=some v:=by
    intro k v hv
    rw [List.getElem?_take] at hv
    split at hv
    ·rw [List.getElem?_drop] at hv
     simp only [World.cell?,hheap]
     rw [←harr]
     simpa [Value.cells] using hv
    ·cases hv
   have hrels:PRels K w ps ((vs.drop off).take ps.length):=by
    have hl:((cs.drop off).take ps.length).length=ps.length:=by rw [hps,List.length_map]
    refine ⟨by rw [List.length_take,List.length_drop] at hl ⊢;rw [a1];exact hl,fun k c v hc hv=>?_⟩
    have hck:((cs.drop off).take ps.length)[k]?=some (.pv c):=by rw [hps,List.getElem?_map,hc];rfl
    rw [List.getElem?_take] at hck hv
    split at hck
    ·rename_i hk
     rw [if_pos hk,List.getElem?_drop] at hv
     rw [List.getElem?_drop] at hck
     have:=a3 _ _ _ hck hv
     cases this with
     | pv _ _ hp=>exact hp
    ·cases hck
   have hone:∀ v∈(vs.drop off).take ps.length,v.oneCell'=true:=fun v hv=>a2 v (List.mem_of_mem_drop (List.mem_of_mem_take hv))
   obtain ⟨v,hv,hvr⟩:=Yk htb (b:=b) (o:=off) hcell hrels hone hq
   have hrun:(execOp a.eval o).run P w=.ok (.value v) w:=by
    have hv':(loadVar ty ⟨b,off,none⟩).run P w=.ok v w:=hv
    simp [execOp,hop,hxv,Instr.loadAt,Instr.sureAddr,hv']
   rw [hrun]
   exact qH hf (.pv _ _ hvr)
end
section
variable {P:Program} {tb:Tab} {n:Nat} {g:Base} {H:HEnv} {env:Env} {ops:List Oper} {o:Oper} {rest:List Oper} {Q:Env→HEnv→Prop} {QQ:QC} {c:Code} {K:KK} {w:World} {ρ:Nat→Value} {a:Act}
def zgG:AV→Option Bool
 | .box _ _=>some false
 | .pv (.ptr _ _)=>some false
 | .pv (.base (.pointer none))=>some true
 | _=>none
theorem yK {t rt pe:TypeId} {x:Operand} {av:AV} {b:Bool} (hop:o.op=.binOp .eql t x (.const (.pointer none)) rt) (hu0:P.underlying t=some (.pointer pe)) (hx:env.val x=some av) (hn:zgG av=some b):QStep P g H o env (.pv (.base (.bool b))):=by
 have hu:P.underlying t=some (.pointer (P.pointee t)):=by rw [hu0,Program.pointee,hu0]
 refine ⟨fun K ρ a w hf hv=>?_⟩
 have hxr:=hv x (by rw [hop];simp [Op.operands]) _ hx
 generalize hxv:a.eval x=xv at hxr
 have key:∀ p:Option Addr,xv=.pointer p→p.isNone=b→zc7 P K ρ H w (.pv (.base (.bool b))) ((execOp a.eval o).run P w):=by
  rintro p rfl rfl
  have h1:=run_eql_pointer_nil (P:=P) w t p hu
  have h2:a.eval (.const (.pointer none))=.pointer none:=rfl
  have hrun:(execOp a.eval o).run P w=.ok (.value (.bool p.isNone)) w:=by
   simp [execOp,hop,hxv,h2,eqGuard,h1]
  rw [hrun]
  exact qH hf (.pv _ _ (.base _ rfl))
 cases hxr with
 | box i off b' hi hb=>simp only [zgG,Option.some.injEq] at hn;exact key _ rfl (by simpa using hn)
 | pv p v hp =>
  cases hp with
  | ptr=>simp only [zgG,Option.some.injEq] at hn;exact key _ rfl (by simpa using hn)
  | base v hb =>
   cases xv <;> simp only [zgG] at hn <;> try cases hn
   rename_i p
   cases p with
   | none=>simp only [Option.some.injEq] at hn;exact key _ rfl (by simpa using hn)
   | some ad=>cases hn
  | _=>simp [zgG] at hn
 | _=>simp [zgG] at hn
def zcF (ρ:Nat→Value) (H:HEnv):AV→Option PV
 | .pv p=>some p
 | .own i=>match H.get i with
  | some (.mrow _ sz es)=>some (.slc sz es false)
  | some (.obj _)=>some (.base (ρ i))
  | _=>none
 | _=>none
def zjF (ρ:Nat→Value) (H:HEnv):List AV→Option (List PV)
 | []=>some []
 | x::xs=>match zcF ρ H x,zjF ρ H xs with|some p,some ps=>some (p::ps)|_,_=>none
def ziG (ρ:Nat→Value) (H:HEnv):AV→Option PV
 | .box i off=>match H.get i with
  | some (.cell v)=>if v.flat.all (zgc H) then match zjF ρ H v.flat with|some cs=>some (.ptr (.agg cs) off)|none=>none else none
  | _=>none
 | av=>zcF ρ H av
def zib (ρ:Nat→Value) (env:Env) (H:HEnv):List Operand→Option (List PV)
 | []=>some []
 | x::xs=>match env.val x,zib ρ env H xs with
  | some av,some ps=>match ziG ρ H av with|some p=>some (p::ps)|none=>none
  | _,_=>none
def zaC (K:KK) (ρ:Nat→Value) (H:HEnv):KK:=fun b o=>K b o∨(∃ i t sz es,H.get i=some (.mrow t sz es)∧(ρ i).ownBlock=some b∧o < es.length * sz)∨∃ i v,H.get i=some (.cell v)∧zo (ρ i)=some b
theorem zfE:Later K (zaC K ρ H) w w:=⟨fun _ _ h=>.inl h,fun _ _ _=>rfl⟩
theorem zlA (hf:FS g K ρ H w):∀ b o,zaC K ρ H b o→b < w.heap.size:=by
 rintro b o (h|⟨i,t,sz,es,hi,hb,_⟩|⟨i,v,hi,hb⟩)
 ·exact hf.lt b o h
 ·obtain ⟨us,hown,_⟩:=hf.heap.ok i _ hi
  exact (hown.lt b hb).2
 ·exact ((hf.heap.ok i _ hi).block_lt rfl hb).2
theorem zdn (hf:FS g K ρ H w) {av:AV} {v:Value} (h:ARel K w ρ H av v) {p:PV} (hp:zcF ρ H av=some p):PRel (zaC K ρ H) w p v:=by
 cases h with
 | pv p' v h=>simp only [zcF,Option.some.injEq] at hp;subst hp;exact h.later zfE
 | own i hi0 =>
  simp only [zcF] at hp
  split at hp
  ·rename_i t sz es hi
   simp only [Option.some.injEq] at hp;subst hp
   obtain ⟨xs,hown,h0,hcr,hnK⟩:=hf.heap.ok i _ hi
   rcases hown.2 with ⟨hr,hz⟩|⟨b,cap,cur,hr,hB,hheap,hle,hcap,hsize,htake⟩
   ·rw [hr]
    have:es=[]:=List.eq_nil_of_length_eq_zero hz
    subst this;exact .nil sz false
   ·by_cases hes:es=[]
    ·subst hes
     rw [hr]
     exact .slc sz [] false b 0 cap (fun _=>[]) h0 (Nat.zero_le _) (by simp) (by simp [maxLen]) hcap (fun i e he=>by simp at he) (fun i e k c v he=>by simp at he)
    ·have hown':=hown
     rw [hr] at hown' ⊢
     have hxl:xs.length=es.length * sz:=hown.1
     refine .slc sz es false b 0 cap (fun i=>(xs.drop (i * sz)).take sz) h0 hle (by simp) (by omega) hcap (fun k e he=>?_) (fun k e m c v he hc hvv=>?_)
     ·obtain ⟨c1,c2⟩:=hcr k e he
      have hk:k < es.length:=(List.getElem?_eq_some_iff.1 he).1
      have hle2:k * sz + sz≤es.length * sz:=by rw [←Nat.succ_mul];exact Nat.mul_le_mul_right _ hk
      refine ⟨c1,by rw [List.length_take,List.length_drop];omega,fun m v hm=>?_⟩
      rw [List.getElem?_take] at hm
      split at hm
      ·rename_i hms
       rw [List.getElem?_drop] at hm
       obtain ⟨u,u1,u2,_⟩:=c2 m e.cells[m] (List.getElem?_eq_getElem (by omega))
       rw [u1,Option.some.injEq] at hm;subst hm
       exact ⟨.inr (.inl ⟨i,t,sz,es,hi,by rw [hr];rfl,by omega⟩),by rw [Nat.zero_add,hown'.cellAt _ (by omega)];exact u1,u2⟩
      ·cases hm
     ·obtain ⟨c1,c2⟩:=hcr k e he
      obtain ⟨u,u1,u2,u3⟩:=c2 m c hc
      rw [List.getElem?_take] at hvv
      split at hvv
      ·rw [List.getElem?_drop,u1,Option.some.injEq] at hvv
       subst hvv;exact u3.later zfE
      ·cases hvv
  ·rename_i X hi
   simp only [Option.some.injEq] at hp;subst hp
   obtain ⟨b,ob,hr,_⟩:=hf.heap.ok i _ hi
   exact .base _ (by rw [hr];rfl)
  ·cases hp
 | _=>simp [zcF] at hp
theorem zgw (hf:FS g K ρ H w):∀ {avs:List AV} {ps:List PV} {vs:List Value},vs.length=avs.length→(∀ (k:Nat) (c:AV) (v:Value),avs[k]?=some c→vs[k]?=some v→ARel K w ρ H c v)→zjF ρ H avs=some ps→PRels (zaC K ρ H) w ps vs
 | [],ps,vs,hl,_,h=>by
  simp only [zjF,Option.some.injEq] at h;subst h
  have:vs=[]:=List.eq_nil_of_length_eq_zero (by simpa using hl)
  subst this;exact .nil
 | x::xs,ps,vs,hl,hr,h=>by
  cases vs with
  | nil=>simp at hl
  | cons v vs =>
   simp only [zjF] at h
   split at h
   ·rename_i p qs e1 e2
    simp only [Option.some.injEq] at h;subst h
    exact .cons (zdn hf (hr 0 x v rfl rfl) e1) (zgw hf (by simpa using hl) (fun k c v hc hv=>hr (k + 1) c v (by simpa using hc) (by simpa using hv)) e2)
   ·cases h
theorem zgh (hf:FS g K ρ H w) {av:AV} {v:Value} (h:ARel K w ρ H av v) {p:PV} (hp:ziG ρ H av=some p):PRel (zaC K ρ H) w p v:=by
 by_cases hb:∃ i off,av=.box i off
 ·obtain ⟨i,off,rfl⟩:=hb
  simp only [ziG] at hp
  split at hp
  ·rename_i u hi
   split at hp
   ·rename_i hone
    split at hp
    ·rename_i cs hcs
     simp only [Option.some.injEq] at hp;subst hp
     obtain ⟨b,t,arr,x,hr,hB,hheap,hx,harr,hn⟩:=hf.heap.ok i _ hi
     obtain ⟨f1,f2,f3⟩:=zaV hx hone (row_one hf)
     have hps:=zgw hf (by simpa using f1) f3 hcs
     cases h with
     | box _ _ b' hi' hρ =>
      rw [hr] at hρ
      simp only [Value.pointer.injEq,Option.some.injEq,Addr.mk.injEq,and_true] at hρ
      subst hρ
      have:=PRel.ptr (K:=zaC K ρ H) (w:=w) (.agg cs) off b 0 x.cells.toList hps.1 (fun k v hk=>⟨.inr (.inr ⟨i,u,hi,by rw [hr];rfl⟩),by
       simp only [World.cell?,hheap,Nat.zero_add];rw [←harr];simpa using hk,f2 v (List.mem_of_getElem? hk)⟩) hps.2
      simpa using this
    ·cases hp
   ·cases hp
  ·cases hp
 ·have:ziG ρ H av=zcF ρ H av:=by
   cases av <;> first|rfl|(exact absurd ⟨_,_,rfl⟩ hb)
  rw [this] at hp
  exact zdn hf h hp
theorem zgE (hf:FS g K ρ H w):∀ {xs:List Operand} {ps:List PV},(∀ x∈xs,∀ av,env.val x=some av→ARel K w ρ H av (a.eval x))→zib ρ env H xs=some ps→PRels (zaC K ρ H) w ps (xs.map a.eval)
 | [],ps,_,h=>by simp [zib] at h;subst h;exact .nil
 | x::xs,ps,hv,h=>by
  simp only [zib] at h
  split at h
  ·rename_i av qs e1 e2
   split at h
   ·rename_i p e3
    simp only [Option.some.injEq] at h;subst h
    exact .cons (zgh hf (hv x (by simp) _ e1) e3) (zgE hf (fun y hy=>hv y (by simp [hy])) e2)
   ·cases h
  ·cases h
theorem zed {xs:Array Operand} {ts:Array TypeId} {f:FuncId} {args:(Nat→Value)→List PV} {r:Value} (hop:o.op=.call { callee:=.value (.func f),args:=xs,argTypes:=ts }) (hargs:∀ ρ,zib ρ env H xs.toList=some (args ρ))
  (hc:∀ ρ,ACall P f (args ρ) (.base r)):QStep P g H o env (.pv (.base r)):=by
 refine ⟨fun K ρ a w hf hv=>?_⟩
 have hp:=zgE hf (a:=a) (xs:=xs.toList) (fun x hx=>hv x (by rw [hop];simp [Op.operands,Call.operands];exact .inr (by simpa using hx))) (hargs ρ)
 have:(execOp a.eval o).run P w=.ok (.enter f (xs.toList.map a.eval).toArray) w:=by
  have e:(xs.toList.map a.eval).toArray=xs.map a.eval:=by rw [←Array.toList_map,Array.toArray_toList]
  rw [e]
  simp [execOp,hop,resolve,Act.eval,Deferred.ofValue,invoke,qj (hc ρ).stands]
 rw [this]
 refine ⟨rfl,((hc ρ).calls _ w _ (zlA hf) hp).mono fun e w'' ⟨v,K',h1,h2,h3⟩=>?_⟩
 cases h3 with
 | base _ hb=>exact ⟨_,K,h1,⟨h2.below,fun _ _ h=>h,fun _ _ h=>.inl h,fun b o h=>Nat.lt_of_lt_of_le (hf.lt b o h) h2.below.size⟩,.pv _ _ (.base _ hb)⟩
def cut (sz:Nat) (u:Value) (l h:Nat):Value:=match u with
 | .slice (some a) _ c=>.slice (some ⟨a.block,l * sz,none⟩) (h - l) (c - l)
 | v=>v
theorem znR (sz:Nat) (u:Value) (l h:Nat) (hu:∃ a n c,u=.slice (some a) n c):Yc (cut sz u l h)=true:=by
 obtain ⟨a,n,c,rfl⟩:=hu;rfl
theorem zaY (htb:zX P tb) {t e d:Nat} {x:Operand} {lo hi:Option Operand} (i j:Nat) {sz:Nat} {es:List PV} {l h:Int} (hg:guardE ops env o=some true) (hop:o.op=.slice t x lo hi none) (hk:tb.k t=.sl e) (hke:tb.known e=true) (hsz:tb.size e=sz)
  (hx:env.val x=some (.own i)) (hi':H.get i=some (.mrow e sz es)) (hlo:YU env H 0 lo=some l) (hhi:YU env H es.length hi=some h) (h0:0≤l) (h1:l≤h) (h2:h≤es.length) (h3:l < es.length) (hj:H.get j=none) (hd:o.dst=some d) (ht:Nat.blt d n=true)
  (k:∀ u,AO P n g ops.toArray rest ((d,.pv (.base (cut sz u l.toNat h.toNat)))::env) ((j,.pin (.own i) u)::H) Q):AO P n g ops.toArray (o::rest) env H Q:=by
 refine ⟨fun a w hinv=>?_⟩
 have hw:=yh hinv hg
 obtain ⟨g1,g2,K,ρ,hf,he⟩:=hinv
 refine wpList_step fun KK hKK=>?_
 rw [if_pos hw]
 have hxr:=yt he hx
 generalize hxv:a.eval x=xv at hxr
 have el:=Qj (a:=a) hf (x:=lo) (fun y hy av hh=>yt he hh) hlo
 have eh:=Qj (a:=a) hf (x:=hi) (fun y hy av hh=>yt he hh) hhi
 have hko:tb.k e≠.oth:=by intro h;simp [Tab.known,h] at hke
 have hs:=run_sizeOf htb hko w
 have hh0:0≤h:=by omega
 have hlh:l≤((h.toNat:Nat):Int):=by omega
 have bounds:∀ cap:Nat,es.length≤cap→(Instr.sliceBounds true es.length cap (lo.map a.eval) (hi.map a.eval) none).run P w=.ok (l.toNat,h.toNat,cap) w:=by
  intro cap hcap
  have hhc:h≤(cap:Int):=by omega
  rcases el with ⟨rfl,rfl⟩|⟨y,k,rfl,hy⟩ <;> rcases eh with ⟨rfl,rfl⟩|⟨z,k',rfl,hz⟩
  ·simp [Instr.sliceBounds]
  ·simp [hz,Instr.sliceBounds,Instr.sliceBound,asIntOf,hhc,hh0]
  ·simp [hy,Instr.sliceBounds,Instr.sliceBound,asIntOf,h0,h1]
  ·simp [hy,hz,Instr.sliceBounds,Instr.sliceBound,asIntOf,h0,hlh,hhc,hh0]
   intro hc;omega
 obtain ⟨xs,hown,hz0,hcr,hnK⟩:=hf.heap.ok i _ hi'
 cases hxr with
 | own _ hi0 =>
  rcases hown.2 with ⟨hr,hz⟩|⟨b,cap,cur,hr,hB,hheap,hle,hcap,hsize,htake⟩
  ·omega
  ·have hb:=bounds cap hle
   have hrun:(execOp a.eval o).run P w=.ok (.value (cut sz (ρ i) l.toNat h.toNat)) w:=by
    rw [hr]
    have hne:¬ cap=l.toNat:=by omega
    simp [execOp,hop,hxv,hr,Instr.sliceAt,Instr.slice,run_underlying (yD htb hk),hb,hs,hsz,Addr.add_lit,cut,hne]
   unfold Oper.wp
   rw [hrun]
   simp only [Oper.upon]
   have hkk:∀ m,(H.get m).isSome=true→(HEnv.get ((j,.pin (.own i) (ρ i))::H) m).isSome=true∧(fun m=>if m=j then undef else ρ m) m=ρ m:=by
    intro m hm
    have hmj:m≠j:=by rintro rfl;rw [hj] at hm;cases hm
    refine ⟨?_,by simp [hmj]⟩
    rw [HEnv.get_cons];split <;> first|rfl|exact hm
   have hij:i≠j:=by rintro rfl;rw [hj] at hi';cases hi'
   refine hKK _ _ ((k (ρ i)).go _ _ ⟨yJ g1,put_defers g2,K,ρ,⟨hf.below,hf.old,hf.new,hf.lt,hf.others,hf.pt,?_,?_,?_⟩,?_⟩)
   ·intro m hh bb hm hl hbb
    rw [HEnv.get_cons] at hm
    split at hm
    ·simp only [Option.some.injEq] at hm;subst hm;simp [HE.live] at hl
    ·exact hf.away m hh bb hm hl hbb
   ·intro m hh hm
    have hkk':∀ m,(H.get m).isSome=true→(HEnv.get ((j,.pin (.own i) (ρ i))::H) m).isSome=true∧ρ m=ρ m:=fun m hm=>⟨(hkk m hm).1,rfl⟩
    rw [HEnv.get_cons] at hm
    split at hm
    ·simp only [Option.some.injEq] at hm;subst hm
     have hold:ARel K w ρ H (.own i) (ρ i):=.own i (by rw [hi'];rfl)
     exact hold.keeps (.refl K w) hkk'
    ·exact (hf.heap.ok m hh hm).keeps (.refl hf.lt) hf.lt hkk'
   ·intro m m' hh hh' bb hmm hm hm' hl hl' hb1 hb2
    have hq:∀ m hh,HEnv.get ((j,.pin (.own i) (ρ i))::H) m=some hh→hh.live=true→H.get m=some hh:=by
     intro m hh hm hl
     rw [HEnv.get_cons] at hm
     split at hm
     ·simp only [Option.some.injEq] at hm;subst hm;simp [HE.live] at hl
     ·exact hm
    exact hf.heap.apart m m' hh hh' bb hmm (hq m hh hm hl) (hq m' hh' hm' hl') hl hl' hb1 hb2
   ·rw [hd]
    refine qg g1 ht (he.keeps (.refl K w) (fun m hm=>⟨(hkk m hm).1,rfl⟩)) (.pv _ _ (.base _ (znR _ _ _ _ ⟨_,_,_,hr⟩)))
theorem ziB (htb:zX P tb) {ty e d m:Nat} {x y:Operand} {sz:Nat} {z:PV} {mi:Int} {kl kc:IntKind} (i:Nat) (hg:guardE ops env o=some true) (hop:o.op=.makeSlice ty x y) (hk:tb.k ty=.sl e) (hx:env.pv H x=some (.base (.int kl mi))) (hy:env.pv H y=some (.base (.int kc mi))) (hmi:mi=((m:Nat):Int))
  (hz:(match tb.zero e with|some v=>zbA v|none=>none)=some z) (hzz:(match tb.get e with|some ti=>(match ti.zero with|some zv=>ti.size==sz&&zv.cells.size==sz&&Nat.blt 0 sz|none=>false)|none=>false)=true)
  (hb:(match tb.get e with|some ti=>ti.bytes|none=>0) * m≤281474976710656) (hm:m≤maxLen) (hi:H.get i=none) (hd:o.dst=some d) (ht:Nat.blt d n=true)
  (h:AO P n g ops.toArray rest ((d,.own i)::env) ((i,.mrow e sz (List.replicate m z))::H) Q):AO P n g ops.toArray (o::rest) env H Q:=by
 refine ⟨fun a w hinv=>?_⟩
 have hw:=yh hinv hg
 obtain ⟨h1,h2,K,ρ,hf,he⟩:=hinv
 refine wpList_step fun KK hKK=>?_
 rw [if_pos hw]
 subst hmi
 cases hti:tb.get e with
 | none=>simp [hti] at hzz
 | some ti =>
  cases hzv:ti.zero with
  | none=>simp [hti,hzv] at hzz
  | some zv =>
   simp only [hti,hzv,Bool.and_eq_true,beq_iff_eq] at hzz hb
   obtain ⟨⟨z1,z2⟩,z3⟩:=hzz
   have hsz:0 < sz:=Nat.le_of_ble_eq_true z3
   obtain ⟨tin,q1,q2,q3,q4,_⟩:=qF htb hti
   have hzp:zbA zv=some z:=by
    have:tb.zero e=some zv:=by unfold Tab.zero;rw [hti];exact hzv
    rw [this] at hz;exact hz
   have hxr:=zZ (a:=a) hf (x:=x) (fun av hh=>yt he hh) hx
   have hyr:=zZ (a:=a) hf (x:=y) (fun av hh=>yt he hh) hy
   generalize hxv:a.eval x=xv at hxr
   generalize hyv:a.eval y=yv at hyr
   cases hxr;cases hyr
   obtain ⟨w',r1,r2,r3⟩:=run_make_full w g.w0.heap.size ty e tin zv sz (yD htb hk) q1 (by rw [q4];exact hzv) (by omega) kl kc m (by rw [q3];exact hb) hm hf.below.size
   have hrun:(execOp a.eval o).run P w=.ok (.value (.slice (some ⟨w.heap.size,0,none⟩) m m)) w':=by
    simp [execOp,hop,hxv,hyv,r1]
   unfold Oper.wp
   rw [hrun]
   simp only [Oper.upon]
   have hev:Evo K K w w':=⟨⟨r3.os,r3.tape,r3.output,r3.size,fun k hk=>r3.block k hk (by simp)⟩,fun _ _ h=>h,fun _ _ h=>.inl h,fun b o h=>Nat.lt_of_lt_of_le (hf.lt b o h) r3.size⟩
   obtain ⟨hzr,hznt⟩:=zbV (K:=K) (w:=w') hzp
   have hzc:=Zh hzr
   have hzo:=cells_one hzr hznt
   have hzl:zv.cells.toList.length=sz:=by simpa using z2
   refine hKK _ _ (h.go _ _ ⟨yJ h1,put_defers h2,K,fun j=>if j=i then .slice (some ⟨w.heap.size,0,none⟩) m m else ρ j,hf.fresh hev hi ⟨(madeCells zv.cells (m * sz)).toList,by rw [List.length_replicate];exact r2,hsz,?_,?_⟩ (by simp [zo]),?_⟩)
   ·intro i1 e1 he1
    have hi1:i1 < m:=by have:=(List.getElem?_eq_some_iff.1 he1).1;simpa using this
    have e2:e1=z:=by rw [List.getElem?_replicate,if_pos hi1] at he1;simpa using he1.symm
    subst e2
    have hl:e1.cells.length=sz:=by rw [←hzl,hzc.1]
    refine ⟨hl,fun k c' hc'=>?_⟩
    have hk:k < sz:=by rw [←hl];exact (List.getElem?_eq_some_iff.1 hc').1
    have hkz:k < zv.cells.size:=by omega
    have hu:zv.cells.toList[k]?=some zv.cells[k]:=by simp [hkz]
    refine ⟨zv.cells[k],?_,hzo _ (List.mem_of_getElem? hu),hzc.2 k c' _ hc' hu⟩
    have hlt:i1 * sz + k < m * sz:=by
     have:i1 * sz + sz≤m * sz:=by rw [←Nat.succ_mul];exact Nat.mul_le_mul_right _ hi1
     omega
    have hmod:(i1 * sz + k) % zv.cells.size=k:=by rw [z2,Nat.add_comm,Nat.add_mul_mod_self_right];exact Nat.mod_eq_of_lt hk
    simp [madeCells,hlt,hmod,hkz]
   ·intro b hb o ho
    simp [Value.ownBlock] at hb
    subst hb
    have:=hf.lt _ _ ho
    omega
   ·rw [hd]
    refine qg h1 ht (he.keeps (hev.later hf.lt) (yG hi _ _)) ?_
    have:=ARel.own (K:=K) (w:=w') (ρ:=fun j=>if j=i then .slice (some ⟨w.heap.size,0,none⟩) m m else ρ j) (H:=(i,HE.mrow e sz (List.replicate m z))::H) i (by simp [HEnv.get_cons])
    simpa using this
end
section
variable {P:Program} {tb:Tab} {n:Nat} {g:Base} {H:HEnv} {env:Env} {QQ:QC} {c:Code} {K:KK} {w:World} {ρ:Nat→Value}
theorem zdl (hf:FS g K ρ H w) {i t sz:Nat} {es:List PV} (hi:H.get i=some (.row t sz es)) {v:Value} (h:ARel K w ρ H (.own i) v):PRel K w (.slc sz es false) v :=
 Vy hf h (by simp [AV.cellPV,hi])
theorem zaK (b i k:Nat) {t sz:Nat} {es:List PV} {cs:List AV} (hb:H.get b=some (.cell (.agg cs))) (hk:cs[k]?=some (.own i)) (hi:H.get i=some (.row t sz es)) (kk:AW P n g c env ((b,.cell (.agg (cs.set k (.pv (.slc sz es false)))))::H) QQ):AW P n g c env H QQ:=by
 refine ⟨fun a w hinv=>?_⟩
 obtain ⟨g1,g2,K,ρ,hf,he⟩:=hinv
 have hkk:∀ m,(H.get m).isSome=true→(HEnv.get ((b,.cell (.agg (cs.set k (.pv (.slc sz es false)))))::H) m).isSome=true∧ρ m=ρ m:=by
  intro m hm
  refine ⟨?_,rfl⟩
  rw [HEnv.get_cons];split <;> first|rfl|exact hm
 have hlv:∀ m x,HEnv.get ((b,.cell (.agg (cs.set k (.pv (.slc sz es false)))))::H) m=some x→x.live=true→∃ h0,H.get m=some h0∧h0.live=true:=by
  intro m x hm hl
  rw [HEnv.get_cons] at hm
  split at hm
  ·rename_i e;subst e;exact ⟨_,hb,rfl⟩
  ·exact ⟨x,hm,hl⟩
 refine kk.go a w ⟨g1,g2,K,ρ,⟨hf.below,hf.old,hf.new,hf.lt,hf.others,hf.pt,fun m x b2 hm hl hb2=>?_,fun m x hm=>?_,fun m m' x x' b2 hmm hm hm' hl hl'=>?_⟩,he.keeps (.refl K w) hkk⟩
 ·obtain ⟨h0,a1,a2⟩:=hlv m x hm hl
  exact hf.away m h0 b2 a1 a2 hb2
 ·rw [HEnv.get_cons] at hm
  split at hm
  ·rename_i e;subst e
   simp only [Option.some.injEq] at hm;subst hm
   obtain ⟨b',t',arr,x',q1,q2,q3,q4,q5,q6⟩:=hf.heap.ok b _ hb
   refine ⟨b',t',arr,x',q1,q2,q3,?_,q5,q6⟩
   cases q4 with
   | agg _ vs a1 a2 a3 =>
    refine .agg _ vs (by simpa using a1) a2 fun m c v hc hv=>?_
    rw [List.getElem?_set] at hc
    split at hc
    ·rename_i e1;subst e1
     split at hc
     ·simp only [Option.some.injEq] at hc;subst hc
      exact .pv _ _ (zdl hf hi (a3 k _ v hk hv))
     ·cases hc
    ·exact (a3 m c v hc hv).keeps (.refl K w) hkk
  ·exact (hf.heap.ok m x hm).keeps (.refl hf.lt) hf.lt hkk
 ·obtain ⟨h0,a1,a2⟩:=hlv m x hm hl
  obtain ⟨h0',c1,c2⟩:=hlv m' x' hm' hl'
  exact hf.heap.apart m m' h0 h0' b2 hmm a1 c1 a2 c2
end
end Go.Cg
namespace Go.Cg
section
variable {P:Program} {n:Nat} {g:Base} {H:HEnv} {env:Env} {QQ:QC} {c:Code} {Q:Env→HEnv→Prop} {ops:List Oper}
end
end Go.Cg
