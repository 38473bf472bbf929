/- A part of the walks by abstract values: no statement of its own. -/
import Derived.Test.YtemhfmmhkimhmaaGreatV5
import Derived.Test.YtemhfmmhkimhmaaGreatV6
import Derived.Shelf.RegionOpenPlain
import Derived.WalkKit
import Derived.Lib.Walk
import Derived.Lib.SliceRun
import Derived.Lib.AppendZerosOnto
import Derived.Laws.CopyOwn
import Derived.OwnWalk
import Derived.Deep.RegionLaw
set_option linter.unusedVariables false
set_option linter.unusedSimpArgs false
namespace Go.Cg
theorem BL:(∀ b:Bool,(b&&true)=b)/\(∀ b:Bool,(true&&b)=b)/\(∀ b:Bool,(b&&false)=false)/\(∀ b:Bool,(false&&b)=false)/\(∀ b:Bool,(b||true)=true)/\(∀ b:Bool,(true||b)=true)/\(∀ b:Bool,(b||false)=b)
  /\ (∀ b:Bool,(false||b)=b)/\((!true)=false)/\((!false)=true):=by simp
theorem drop_cons {α:Type} {l:List α} {k:Nat} (h:k < l.length):l.drop k=l[k]::l.drop (k + 1):=List.drop_eq_getElem_cons h
theorem YI {α:Type} {l:List α} {p:α->Bool} {k:Nat} (h:k < l.length):(l.drop k).all p=(p l[k]&&(l.drop (k + 1)).all p):=by rw [drop_cons h];rfl
theorem VR {α:Type} {l:List α} {p:α->Bool} {k:Nat} (h:k < l.length):(l.drop k).any p=(p l[k]||(l.drop (k + 1)).any p):=by rw [drop_cons h];rfl
theorem drop_end {α:Type} {l:List α} {k:Nat} (h:l.length<=k):l.drop k=[]:=List.drop_eq_nil_of_le h
theorem ZC:∀ (n:Nat) (l:List Int),l.Nodup->(∀ x∈l,0<=x/\x < n)->l.length<=n
 | 0,l,_,h=>by
  cases l with
  | nil=>simp
  | cons x l=>have:=h x (by simp);omega
 | n + 1,l,hd,h=>by
  by_cases hm:(n:Int)∈l
  ·have h1:=ZC n (l.erase n) (hd.erase _) (fun x hx=>by
    rw [hd.mem_erase_iff] at hx;have:=h x hx.2;omega)
   rw [List.length_erase_of_mem hm] at h1;omega
  ·have:=ZC n l hd (fun x hx=>by
    have:=h x hx;have hne:x≠n:=by rintro rfl;exact hm hx
    omega)
   omega
end Go.Cg
set_option linter.unusedVariables false
set_option linter.unusedSimpArgs false
namespace Go.Cg
open Go.Proofs Go.Shelf Go.RowKit Go.Lib
set_option maxHeartbeats 20000000
theorem zrz (d:Int) (hd:d=0\/d=1\/d=2\/d=3) (w:World):Calls Tryz.prog 316 #[.int .u64 1,.int .u64 d] w fun e w'=>e=.returned (.tuple #[.int .u64 0,.int .u64 d])/\w'=w:=by
 rcases hd with rfl|rfl|rfl|rfl
 all_goals
  go_enter Tryz.func316,Tryz.ntmps316
  go_wp2
  go_ret2
  exact ⟨by kernel_rfl,rfl⟩
theorem zhJ (d:Int) (hd:d=0\/d=1\/d=2\/d=3) (w:World):Calls Tryz.prog 307 #[.int .u64 1,.int .u64 d] w fun e w'=>e=.returned (.tuple #[.int .u64 0,.int .u64 d])/\w'=w:=by
 have h1:=zrz d hd
 go_enter Tryz.func307,Tryz.ntmps307
 go_wp2_with (refine (h1 _).mono ?_;rintro e w' ⟨rfl,rfl⟩)
 go_ret2
 exact ⟨rfl,rfl⟩
theorem info5:∃ i,Tryz.prog.info? 5=some i/\i.zero=some (.int .u8 0)/\i.size=1/\i.bytes=1:=by
 obtain ⟨i,h1,h2,h3,h4,_⟩:=Yi (t:=5) zf rfl;exact ⟨i,h1,h4,h2,h3⟩
theorem Addr.add_zero' (a:Addr):a.add 0=a:=by cases a;rfl
theorem za3 {w:World} {a:Addr} {v:Value} (o:Obj) (h:w.cell? a=some v):(w.alloc o).cell? a=some v:=by
 have hlt:a.block < w.heap.size:=by
  unfold World.cell? at h;split at h
  ·rename_i hb;exact (Array.getElem?_eq_some_iff.1 hb).1
  ·cases h
 have hb:Below w.heap.size w (w.alloc o):=(Below.refl _ _).alloc (Nat.le_refl _) _;unfold World.cell? at h ⊢;rw [hb.block _ hlt];exact h
set_option maxRecDepth 100000 in
theorem zme (v:Int) (ad:Addr) (c:Nat) (w:World) (hv:w.cell? ad=some (.int .u8 v)):Calls Tryz.prog 291 #[.slice (some ad) 1 c,.int .i64 1] w fun e w' =>
  e=.returned (.slice (some ⟨w.heap.size,0,none⟩) 1 1)/\w'.heap[w.heap.size]?=some (.cells #[.int .u8 v] 5 (0,0))/\Below w.heap.size w w':=by
 obtain ⟨i0,hi0,hz0,hs0,hb0⟩:=info5;have h1:=zhJ 1 zwy69;have hmk:∀ w:World,(Instr.makeSlice 233 (.int .i64 1) (.int .i64 1)).run Tryz.prog w=.ok (.slice (some ⟨w.heap.size,0,none⟩) 1 1) (w.alloc (.cells #[.int .u8 0] 5)):=fun w=>by
  have:=run_makeSlice (P:=Tryz.prog) w 233 5 i0 (.int .u8 0) Tryz.underlying233 hi0 hz0 .i64 .i64 1 1 zwy62 zwy62 (by simp [hs0]) (by simp [hb0]) zwy62;rw [hs0] at this;have e:madeCells (Value.int .u8 0).cells (Int.toNat 1 * 1)=#[.int .u8 0]:=by simp [madeCells,Value.cells,Array.range];rfl
  rw [e] at this;exact this
 have hsz:(Tryz.prog.info? 5).map (·.size)=some 1:=by rw [hi0];simp [hs0]
 go_enter Tryz.func291,Tryz.ntmps291
 go_wp2_with (first|(refine (h1 _).mono ?_;rintro e w2 ⟨rfl,hw2⟩;rw [hw2];clear hw2 w2)|(refine wpList_copy_splice rfl _ _ _ _ rfl 5 Tryz.underlying233 hsz _ _ _ _ _ _ rfl rfl w.heap.size 0 [.int .u8 0] 5 ?_ [.int .u8 v] (by rfl) ?_ zwy63 zwy106 w.heap.size w ?_ (Nat.le_refl _) ?_))
 ·exact heap_alloc_new w _
 ·intro j u hj;cases j with
  | zero =>
   simp at hj;subst hj;rw [Addr.add_zero',za3 _ hv]
  | succ j=>simp at hj
 ·exact (Below.refl _ _).alloc (Nat.le_refl _) _
 ·intro w2 hh hb
  go_wp2
  refine wp_loop_once ?_
  go_wp2
  go_ret
  exact ⟨rfl,by simpa [splice] using (show _=_ from hh),hb⟩
end Go.Cg
set_option linter.unusedVariables false
set_option linter.unusedSimpArgs false
namespace Go.Cg
open Go.Proofs Go.Shelf Go.RowKit Go.Lib
set_option maxHeartbeats 4000000 in
set_option maxRecDepth 100000 in
theorem znp (v:Int) (ad:Addr) (c:Nat) (w:World) (hv:w.cell? ad=some (.int .u8 v)):Calls Tryz.prog 291 #[.slice (some ad) 1 c,.int .i64 2] w fun e w' =>
  e=.returned (.slice (some ⟨w.heap.size,0,none⟩) 2 2)/\w'.heap[w.heap.size]?=some (.cells #[.int .u8 v,.int .u8 v] 5 (0,0))/\Below w.heap.size w w':=by
 obtain ⟨i0,hi0,hz0,hs0,hb0⟩:=info5;have h1:=zhJ 2 zwy69;have hmk:∀ w:World,(Instr.makeSlice 233 (.int .i64 2) (.int .i64 2)).run Tryz.prog w=.ok (.slice (some ⟨w.heap.size,0,none⟩) 2 2) (w.alloc (.cells #[.int .u8 0,.int .u8 0] 5)):=fun w=>by
  have:=run_makeSlice (P:=Tryz.prog) w 233 5 i0 (.int .u8 0) Tryz.underlying233 hi0 hz0 .i64 .i64 2 2 zwy62 zwy62 (by simp [hs0]) (by simp [hb0]) zwy62;rw [hs0] at this;have e:madeCells (Value.int .u8 0).cells (Int.toNat 2 * 1)=#[.int .u8 0,.int .u8 0]:=by simp [madeCells,Value.cells,Array.range];rfl
  rw [e] at this;exact this
 have hsz:(Tryz.prog.info? 5).map (·.size)=some 1:=by rw [hi0];simp [hs0]
 go_enter Tryz.func291,Tryz.ntmps291
 go_wp2_with (first|(refine (h1 _).mono ?_;rintro e w2 ⟨rfl,hw2⟩;rw [hw2];clear hw2 w2)|(refine wpList_copy_splice rfl _ _ _ _ rfl 5 Tryz.underlying233 hsz _ _ _ _ _ _ rfl rfl w.heap.size 0 [.int .u8 0,.int .u8 0] 5 ?_ [.int .u8 v] (by rfl) ?_ zwy63 zwy106 w.heap.size w ?_ (Nat.le_refl _) ?_))
 ·exact heap_alloc_new w _
 ·intro j u hj;cases j with
  | zero =>
   simp at hj;subst hj;rw [Addr.add_zero',za3 _ hv]
  | succ j=>simp at hj
 ·exact (Below.refl _ _).alloc (Nat.le_refl _) _
 ·intro w2 hh hb;have hh':w2.heap[w.heap.size]?=some (.cells #[.int .u8 v,.int .u8 0] 5 (0,0)):=by simpa [splice] using (show _=_ from hh)
  go_wp2
  refine wp_loop_rounds 2 ?_;unfold Code.rounds
  go_wp2
  have hsrc:∀ j u,([.int .u8 v]:List Value)[j]?=some u->w2.cell? ((⟨w.heap.size,0,none⟩:Addr).add j)=some u:=by
   intro j u hj;cases j with
   | zero=>simp at hj;subst hj;rw [Addr.add_zero'];simp [World.cell?,hh']
   | succ j=>simp at hj
  go_region_law (refine step_copy_splice rfl (.tmp 41) (.tmp 44) 233 233 rfl 5 Tryz.underlying233 hsz (some ⟨w.heap.size,1,none⟩) (some ⟨w.heap.size,0,none⟩) 1 1 1 2 zwy100 zwy100 w.heap.size 1 [.int .u8 v,.int .u8 0] 5 hh' [.int .u8 v] (by rfl) (fun _=>⟨rfl,_,rfl,hsrc⟩) zwy63 zwy106 w.heap.size w hb.drew (Nat.le_refl _) ?_;intro w3 hh3 hb3)
  go_wp2
  rw [rounds_succ]
  go_wp2
  go_ret
  exact ⟨rfl,by simpa [splice] using (show _=_ from hh3),hb3⟩
end Go.Cg
set_option linter.unusedVariables false
set_option linter.unusedSimpArgs false
namespace Go.Cg
open Go.Proofs Go.Shelf Go.RowKit Go.Lib
set_option maxHeartbeats 4000000 in
set_option maxRecDepth 100000 in
theorem zmN (v:Int) (ad:Addr) (c:Nat) (w:World) (hv:w.cell? ad=some (.int .u8 v)):Calls Tryz.prog 291 #[.slice (some ad) 1 c,.int .i64 3] w fun e w' =>
  e=.returned (.slice (some ⟨w.heap.size,0,none⟩) 3 3)/\w'.heap[w.heap.size]?=some (.cells #[.int .u8 v,.int .u8 v,.int .u8 v] 5 (0,0))/\Below w.heap.size w w':=by
 obtain ⟨i0,hi0,hz0,hs0,hb0⟩:=info5;have h1:=zhJ 3 zwy69;have hmk:∀ w:World,(Instr.makeSlice 233 (.int .i64 3) (.int .i64 3)).run Tryz.prog w=.ok (.slice (some ⟨w.heap.size,0,none⟩) 3 3) (w.alloc (.cells #[.int .u8 0,.int .u8 0,.int .u8 0] 5)):=fun w=>by
  have:=run_makeSlice (P:=Tryz.prog) w 233 5 i0 (.int .u8 0) Tryz.underlying233 hi0 hz0 .i64 .i64 3 3 zwy62 zwy62 (by simp [hs0]) (by simp [hb0]) zwy62;rw [hs0] at this;have e:madeCells (Value.int .u8 0).cells (Int.toNat 3 * 1)=#[.int .u8 0,.int .u8 0,.int .u8 0]:=by simp [madeCells,Value.cells,Array.range];rfl
  rw [e] at this;exact this
 have hsz:(Tryz.prog.info? 5).map (·.size)=some 1:=by rw [hi0];simp [hs0]
 go_enter Tryz.func291,Tryz.ntmps291
 go_wp2_with (first|(refine (h1 _).mono ?_;rintro e w2 ⟨rfl,hw2⟩;rw [hw2];clear hw2 w2)|(refine wpList_copy_splice rfl _ _ _ _ rfl 5 Tryz.underlying233 hsz _ _ _ _ _ _ rfl rfl w.heap.size 0 [.int .u8 0,.int .u8 0,.int .u8 0] 5 ?_ [.int .u8 v] (by rfl) ?_ zwy63 zwy106 w.heap.size w ?_ (Nat.le_refl _) ?_))
 ·exact heap_alloc_new w _
 ·intro j u hj;cases j with
  | zero =>
   simp at hj;subst hj;rw [Addr.add_zero',za3 _ hv]
  | succ j=>simp at hj
 ·exact (Below.refl _ _).alloc (Nat.le_refl _) _
 ·intro w2 hh hb;have hh':w2.heap[w.heap.size]?=some (.cells #[.int .u8 v,.int .u8 0,.int .u8 0] 5 (0,0)):=by simpa [splice] using (show _=_ from hh)
  go_wp2
  refine wp_loop_rounds 3 ?_;unfold Code.rounds
  go_wp2
  have hsrc:∀ j u,([.int .u8 v]:List Value)[j]?=some u->w2.cell? ((⟨w.heap.size,0,none⟩:Addr).add j)=some u:=by
   intro j u hj;cases j with
   | zero=>simp at hj;subst hj;rw [Addr.add_zero'];simp [World.cell?,hh']
   | succ j=>simp at hj
  go_region_law (refine step_copy_splice rfl (.tmp 41) (.tmp 44) 233 233 rfl 5 Tryz.underlying233 hsz (some ⟨w.heap.size,1,none⟩) (some ⟨w.heap.size,0,none⟩) 2 2 1 3 zwy100 zwy100 w.heap.size 1 [.int .u8 v,.int .u8 0,.int .u8 0] 5 hh' [.int .u8 v] (by rfl) (fun _=>⟨rfl,_,rfl,hsrc⟩) zwy63 zwy106 w.heap.size w hb.drew (Nat.le_refl _) ?_;intro w3 hh3 hb3)
  have hh3':w3.heap[w.heap.size]?=some (.cells #[.int .u8 v,.int .u8 v,.int .u8 0] 5 (0,0)):=by simpa [splice] using (show _=_ from hh3)
  go_wp2
  rw [rounds_succ]
  go_wp2
  have hsrc3:∀ j u,([.int .u8 v]:List Value)[j]?=some u->w3.cell? ((⟨w.heap.size,0,none⟩:Addr).add j)=some u:=by
   intro j u hj;cases j with
   | zero=>simp at hj;subst hj;rw [Addr.add_zero'];simp [World.cell?,hh3']
   | succ j=>simp at hj
  go_region_law (refine step_copy_splice rfl (.tmp 41) (.tmp 44) 233 233 rfl 5 Tryz.underlying233 hsz (some ⟨w.heap.size,2,none⟩) (some ⟨w.heap.size,0,none⟩) 1 1 2 3 zwy100 zwy100 w.heap.size 2 [.int .u8 v,.int .u8 v,.int .u8 0] 5 hh3' [.int .u8 v] (by rfl) (fun _=>⟨rfl,_,rfl,hsrc3⟩) zwy63 zwy106 w.heap.size w hb3.drew (Nat.le_refl _) ?_;intro w4 hh4 hb4)
  go_wp2
  rw [rounds_succ]
  go_wp2
  go_ret
  exact ⟨rfl,by simpa [splice] using (show _=_ from hh4),hb4⟩
end Go.Cg
set_option linter.unusedVariables false
set_option linter.unusedSimpArgs false
namespace Go.Cg
open Go.Proofs Go.Shelf Go.RowKit Go.Lib
set_option maxHeartbeats 4000000 in
set_option maxRecDepth 100000 in
theorem zof (v:Int) (ad:Addr) (c:Nat) (w:World) (hv:w.cell? ad=some (.int .u8 v)):Calls Tryz.prog 291 #[.slice (some ad) 1 c,.int .i64 0] w fun e w' =>
  e=.returned (.slice (some ⟨w.heap.size,0,none⟩) 0 0)/\w'.heap[w.heap.size]?=some (.cells #[] 5 (0,0))/\Below w.heap.size w w':=by
 obtain ⟨i0,hi0,hz0,hs0,hb0⟩:=info5;have h1:=zhJ 0 zwy69;have hmk:∀ w:World,(Instr.makeSlice 233 (.int .i64 0) (.int .i64 0)).run Tryz.prog w=.ok (.slice (some ⟨w.heap.size,0,none⟩) 0 0) (w.alloc (.cells #[] 5)):=fun w=>by
  have:=run_makeSlice (P:=Tryz.prog) w 233 5 i0 (.int .u8 0) Tryz.underlying233 hi0 hz0 .i64 .i64 0 0 zwy62 zwy62 (by simp [hs0]) (by simp [hb0]) zwy62;rw [hs0] at this;have e:madeCells (Value.int .u8 0).cells (Int.toNat 0 * 1)=#[]:=by simp [madeCells]
  rw [e] at this;exact this
 have hsz:(Tryz.prog.info? 5).map (·.size)=some 1:=by rw [hi0];simp [hs0]
 go_enter Tryz.func291,Tryz.ntmps291
 go_wp2_with (first|(refine (h1 _).mono ?_;rintro e w2 ⟨rfl,hw2⟩;rw [hw2];clear hw2 w2)|(refine wpList_copy_splice rfl _ _ _ _ rfl 5 Tryz.underlying233 hsz _ _ _ _ _ _ rfl rfl w.heap.size 0 [] 5 ?_ [] (by rfl) (fun h=>by simp at h) zwy63 zwy63 w.heap.size w ?_ (Nat.le_refl _) ?_))
 ·exact heap_alloc_new w _
 ·exact (Below.refl _ _).alloc (Nat.le_refl _) _
 ·intro w2 hh hb
  go_wp2
  refine wp_loop_once ?_
  go_wp2
  go_ret
  exact ⟨rfl,by simpa [splice] using (show _=_ from hh),hb⟩
theorem zdL {K:Cg.KK} {w w':World} (hl:∀ b o,K b o->b < w.heap.size) {t:TypeId} (l:List Int) (hb:Below w.heap.size w w') (hh:w'.heap[w.heap.size]?=some (.cells (l.map fun n=>Value.int .u8 n).toArray t (0,0))) (hlen:l.length<=maxLen) :
  ∃ K',Evo K K' w w'/\PRel K' w' (.slc 1 (l.map fun n=>.base (.int .u8 n)) false) (.slice (some ⟨w.heap.size,0,none⟩) l.length l.length):=by
 have hlt:w.heap.size < w'.heap.size:=(Array.getElem?_eq_some_iff.1 hh).1;refine ⟨zcF K w l.length,⟨hb,fun b o h=>.inl h,fun b o h=>h.imp id (fun ⟨h1,_⟩=>by omega),fun b o h=>?_⟩,?_⟩
 ·rcases h with h|⟨h,_⟩
  ·have:=hl b o h;omega
  ·omega
 ·have hcell:∀ (k:Nat) (v:Value),(l.map fun n=>Value.int .u8 n)[k]?=some v->w'.cell? ⟨w.heap.size,k,none⟩=some v:=by
   intro k v hv;simp only [World.cell?,hh];simpa using hv
  have:=PRel.slc (K:=zcF K w l.length) (w:=w') 1 (l.map fun n=>.base (.int .u8 n)) false w.heap.size 0 l.length (fun i=>[Value.int .u8 (l.getD i 0)]) zwy62 zwy63 zwy63 (by simpa using hlen) hlen
   (fun i e he=>by
    rw [List.getElem?_map] at he;cases hi:l[i]? with
    | none=>simp [hi] at he
    | some n =>
     simp [hi] at he;subst he;refine ⟨rfl,rfl,fun k v hv=>?_⟩;cases k with
     | zero =>
      simp [List.getD_eq_getElem?_getD,hi] at hv;subst hv;refine ⟨.inr ⟨rfl,by have:=(List.getElem?_eq_some_iff.1 hi).1;omega⟩,?_,rfl⟩;have:=hcell i (.int .u8 n) (by simp [hi]);simpa using this
     | succ k=>simp at hv)
   (fun i e k c v he hc hv=>by
    rw [List.getElem?_map] at he;cases hi:l[i]? with
    | none=>simp [hi] at he
    | some n =>
     simp [hi] at he;subst he;cases k with
     | zero =>
      simp [PV.cells] at hc;subst hc;simp [List.getD_eq_getElem?_getD,hi] at hv;subst hv;exact .base _ rfl
     | succ k=>simp [PV.cells] at hc)
  simpa using this
theorem zdB (v d:Int) (h0:0<=d) (h1:d<=3):ACall Tryz.prog 291 [.slc 1 [.base (.int .u8 v)] true,pi d] (.slc 1 ((List.replicate d.toNat v).map fun n=>.base (.int .u8 n)) false):=by
 refine ⟨⟨_,Tryz.func291,rfl,by kernel_rfl⟩,fun K w vs hl hv=>?_⟩;obtain ⟨v0,vs0,rfl,r0,hv0⟩:=hv.cons_inv;obtain ⟨v1,vs1,rfl,r1,hv1⟩:=hv0.cons_inv;obtain rfl:=hv1.nil_inv;cases r1;cases r0 with
 | slc _ _ _ b o cap vss q0 q1 q2 q3 q4 q5 q6 =>
  obtain ⟨_,e2,e3⟩:=q5 0 _ rfl;have hvs:vss 0=[Value.int .u8 v]:=by
   cases hx:vss 0 with
   | nil=>rw [hx] at e2;simp at e2
   | cons x xs =>
    rw [hx] at e2;have:xs=[]:=List.eq_nil_of_length_eq_zero (by simpa using e2);subst this;have:=q6 0 _ 0 _ x rfl rfl (by rw [hx];rfl);cases this;rfl
  have hc:w.cell? ⟨b,o,none⟩=some (.int .u8 v):=by
   have:=(e3 0 (.int .u8 v) (by rw [hvs];rfl)).2.1;simpa using this
  have hd:d=0\/d=1\/d=2\/d=3:=by omega
  rcases hd with rfl|rfl|rfl|rfl
  ·refine (zof v _ cap w hc).mono ?_;rintro e w' ⟨rfl,hh,hb⟩;obtain ⟨K',g1,g2⟩:=zdL hl [] hb hh zwy63;exact ⟨_,K',rfl,g1,g2⟩
  ·refine (zme v _ cap w hc).mono ?_;rintro e w' ⟨rfl,hh,hb⟩;obtain ⟨K',g1,g2⟩:=zdL hl [v] hb hh (by simp [maxLen]);exact ⟨_,K',rfl,g1,g2⟩
  ·refine (znp v _ cap w hc).mono ?_;rintro e w' ⟨rfl,hh,hb⟩;obtain ⟨K',g1,g2⟩:=zdL hl [v,v] hb hh (by simp [maxLen]);exact ⟨_,K',rfl,g1,g2⟩
  ·refine (zmN v _ cap w hc).mono ?_;rintro e w' ⟨rfl,hh,hb⟩;obtain ⟨K',g1,g2⟩:=zdL hl [v,v,v] hb hh (by simp [maxLen]);exact ⟨_,K',rfl,g1,g2⟩
end Go.Cg
