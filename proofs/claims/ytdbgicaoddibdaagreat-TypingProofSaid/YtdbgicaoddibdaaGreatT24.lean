/- A part of the walks by abstract values: no statement of its own. -/
import Derived.Test.YtdbgicaoddibdaaGreatT6
import Derived.Test.YtdbgicaoddibdaaGreatT13
import Derived.Deep.RegionLaw
import Derived.Test.YtdbgicaoddibdaaGreatT16
import Derived.Test.YtdbgicaoddibdaaGreatT4
import Derived.Test.YtdbgicaoddibdaaGreatT21
import Derived.Test.YtdbgicaoddibdaaGreatT12
import Derived.Test.YtdbgicaoddibdaaGreatT20
set_option linter.unusedVariables false
set_option linter.unusedSimpArgs false
namespace Go.Cg
open Go.RowKit
section
variable {P:Program} {tb:Tab} {g:Base} {H:HEnv} {env:Env} {o:Oper}
theorem znV {t e len:Nat} {x i:Operand} {cs:List PV} {k:IntKind} {m:Int} {p:PV} (j:Nat) (htb:yR P tb) (hop:o.op=.index t x i) (hk:tb.k t=.arr len e) (hke:tb.known e=true)
  (hx:env.pv H x=some (.agg cs)) (hi:env.pv H i=some (.base (.int k m))) (hm:m=(j:Int)) (hj:Nat.blt j len=true) (hp:zcl tb e cs (j * tb.size e)=some p):QStep P g H o env (.pv p):=by
 subst hm;refine ⟨fun K ρ a w hf hv=>?_⟩;have hxr:=qc hf (hv x zwy69) hx;have hir:=qc hf (hv i zwy69) hi;generalize hxv:a.eval x=xv at hxr;generalize hiv:a.eval i=iv at hir;cases hir;have hlt:j < len:=Nat.le_of_ble_eq_true hj;have hko:tb.k e≠.oth:=by intro h;simp [Tab.known,h] at hke
 cases hxr with
 | agg _ vs h1 ho h2 =>
  obtain ⟨v,h3,h4⟩:=zcz htb (P:=P) ⟨h1,h2⟩ ho hp w;have hs:=run_sizeOf htb hko w;have:(execOp a.eval o).run P w=.ok (.value v) w:=by
   simp [execOp,hop,hxv,hiv,Instr.index,asIntOf,run_underlying (zql htb hk),hs,h3,hlt]
  rw [this];exact ZP hf (.pv _ _ h4)
end
end Go.Cg
set_option linter.unusedVariables false
set_option linter.unusedSimpArgs false
namespace Go.Cg
open Go.Proofs Go.Shelf Go.RowKit Go.Lib
set_option maxHeartbeats 4000000 in
set_option maxRecDepth 100000 in
theorem zmG (v:Int) (ad:Addr) (c:Nat) (w:World) (hv:w.cell? ad=some (.int .u8 v)):Calls Tryz.prog 257 #[.slice (some ad) 1 c,.int .i64 0] w fun e w' =>
  e=.returned (.slice (some ⟨w.heap.size,0,none⟩) 0 0)∧w'.heap[w.heap.size]?=some (.cells #[] 5 (0,0))∧Below w.heap.size w w':=by
 obtain ⟨i0,hi0,hz0,hs0,hb0⟩:=info5;have h1:=zhH 0 zwy67;have hmk:∀ w:World,(Instr.makeSlice 248 (.int .i64 0) (.int .i64 0)).run Tryz.prog w=.ok (.slice (some ⟨w.heap.size,0,none⟩) 0 0) (w.alloc (.cells #[] 5)):=fun w=>by
  have:=run_makeSlice (P:=Tryz.prog) w 248 5 i0 (.int .u8 0) Tryz.underlying248 hi0 hz0 .i64 .i64 0 0 zwy62 zwy62 (by simp [hs0]) (by simp [hb0]) zwy62;rw [hs0] at this;have e:madeCells (Value.int .u8 0).cells (Int.toNat 0 * 1)=#[]:=by simp [madeCells]
  rw [e] at this;exact this
 have hsz:(Tryz.prog.info? 5).map (·.size)=some 1:=by rw [hi0];simp [hs0]
 go_enter Tryz.func257,Tryz.ntmps257
 go_wp2_with (first|(refine (h1 _).mono ?_;rintro e w2 ⟨rfl,hw2⟩;rw [hw2];clear hw2 w2)|(refine wpList_copy_splice rfl _ _ _ _ rfl 5 Tryz.underlying248 hsz _ _ _ _ _ _ rfl rfl w.heap.size 0 [] 5 ?_ [] (by rfl) (fun h=>by simp at h) zwy63 zwy63 w.heap.size w ?_ (Nat.le_refl _) ?_))
 ·exact heap_alloc_new w _
 ·exact (Below.refl _ _).alloc (Nat.le_refl _) _
 ·intro w2 hh hb
  go_wp2
  refine wp_loop_once ?_
  go_wp2
  go_ret
  exact ⟨rfl,by simpa [splice] using (show _=_ from hh),hb⟩
theorem zdy {K:Cg.KK} {w w':World} (hl:∀ b o,K b o→b < w.heap.size) {t:TypeId} (l:List Int) (hb:Below w.heap.size w w') (hh:w'.heap[w.heap.size]?=some (.cells (l.map fun n=>Value.int .u8 n).toArray t (0,0))) (hlen:l.length≤maxLen) :
  ∃ K',Evo K K' w w'∧PRel K' w' (.slc 1 (l.map fun n=>.base (.int .u8 n)) false) (.slice (some ⟨w.heap.size,0,none⟩) l.length l.length):=by
 have hlt:w.heap.size < w'.heap.size:=(Array.getElem?_eq_some_iff.1 hh).1;refine ⟨zce K w l.length,⟨hb,fun b o h=>.inl h,fun b o h=>h.imp id (fun ⟨h1,_⟩=>by omega),fun b o h=>?_⟩,?_⟩
 ·rcases h with h|⟨h,_⟩
  ·have:=hl b o h;omega
  ·omega
 ·have hcell:∀ (k:Nat) (v:Value),(l.map fun n=>Value.int .u8 n)[k]?=some v→w'.cell? ⟨w.heap.size,k,none⟩=some v:=by
   intro k v hv;simp only [World.cell?,hh];simpa using hv
  have:=PRel.slc (K:=zce K w l.length) (w:=w') 1 (l.map fun n=>.base (.int .u8 n)) false w.heap.size 0 l.length (fun i=>[Value.int .u8 (l.getD i 0)]) zwy62 zwy63 zwy63 (by simpa using hlen) hlen
   (fun i e he=>by
    rw [List.getElem?_map] at he;cases hi:l[i]? with
    | none=>simp [hi] at he
    | some n =>
     simp [hi] at he;subst he;refine ⟨rfl,rfl,fun k v hv=>?_⟩;cases k with
     | zero =>
      simp [List.getD_eq_getElem?_getD,hi] at hv;subst hv;refine ⟨.inr ⟨rfl,by have:=(List.getElem?_eq_some_iff.1 hi).1;omega⟩,?_,rfl⟩;have:=hcell i (.int .u8 n) (by simp [hi]);simpa using this
     | succ k=>simp at hv)
   (fun i e k c v he hc hv=>by
    rw [List.getElem?_map] at he;cases hi:l[i]? with
    | none=>simp [hi] at he
    | some n =>
     simp [hi] at he;subst he;cases k with
     | zero =>
      simp [PV.cells] at hc;subst hc;simp [List.getD_eq_getElem?_getD,hi] at hv;subst hv;exact .base _ rfl
     | succ k=>simp [PV.cells] at hc)
  simpa using this
theorem zc2 (v d:Int) (h0:0≤d) (h1:d≤3):ACall Tryz.prog 257 [.slc 1 [.base (.int .u8 v)] true,pi d] (.slc 1 ((List.replicate d.toNat v).map fun n=>.base (.int .u8 n)) false):=by
 refine ⟨⟨_,Tryz.func257,rfl,by kernel_rfl⟩,fun K w vs hl hv=>?_⟩;obtain ⟨v0,vs0,rfl,r0,hv0⟩:=hv.cons_inv;obtain ⟨v1,vs1,rfl,r1,hv1⟩:=hv0.cons_inv;obtain rfl:=hv1.nil_inv;cases r1;cases r0 with
 | slc _ _ _ b o cap vss q0 q1 q2 q3 q4 q5 q6 =>
  obtain ⟨_,e2,e3⟩:=q5 0 _ rfl;have hvs:vss 0=[Value.int .u8 v]:=by
   cases hx:vss 0 with
   | nil=>rw [hx] at e2;simp at e2
   | cons x xs =>
    rw [hx] at e2;have:xs=[]:=List.eq_nil_of_length_eq_zero (by simpa using e2);subst this;have:=q6 0 _ 0 _ x rfl rfl (by rw [hx];rfl);cases this;rfl
  have hc:w.cell? ⟨b,o,none⟩=some (.int .u8 v):=by
   have:=(e3 0 (.int .u8 v) (by rw [hvs];rfl)).2.1;simpa using this
  have hd:d=0∨d=1∨d=2∨d=3:=by omega
  rcases hd with rfl|rfl|rfl|rfl
  ·refine (zmG v _ cap w hc).mono ?_;rintro e w' ⟨rfl,hh,hb⟩;obtain ⟨K',g1,g2⟩:=zdy hl [] hb hh zwy63;exact ⟨_,K',rfl,g1,g2⟩
  ·refine (znD v _ cap w hc).mono ?_;rintro e w' ⟨rfl,hh,hb⟩;obtain ⟨K',g1,g2⟩:=zdy hl [v] hb hh zwy120;exact ⟨_,K',rfl,g1,g2⟩
  ·refine (zmK v _ cap w hc).mono ?_;rintro e w' ⟨rfl,hh,hb⟩;obtain ⟨K',g1,g2⟩:=zdy hl [v,v] hb hh zwy120;exact ⟨_,K',rfl,g1,g2⟩
  ·refine (zma v _ cap w hc).mono ?_;rintro e w' ⟨rfl,hh,hb⟩;obtain ⟨K',g1,g2⟩:=zdy hl [v,v,v] hb hh zwy120;exact ⟨_,K',rfl,g1,g2⟩
end Go.Cg
namespace Go.Cg
open Go.RowKit
theorem zhb {P:Program} {tb:Tab} {g:Base} {H:HEnv} {env:Env} {o:Oper} {t e len:Nat} {parts:Array (Nat × Operand)} {z:Value} {cells:Array Value} (vs:List (Nat × Value)) (htb:yR P tb) (hop:o.op=.build t parts) (hk:tb.k t=.arr len e) (hke:tb.known e=true) (hz:tb.zero t=some z)
  (hp:parts.toList=vs.map fun x=>(x.1,.const x.2)) (hf:Instr.fill (fun i=>some (i * tb.size e,tb.size e)) z.cells vs=some cells) (hok:cells.toList.all Zm=true):QStep P g H o env (.pv (.agg (cells.toList.map .base))):=by
 refine ⟨fun K ρ a w hfs hv=>?_⟩;have hko:tb.k e≠.oth:=by intro h;simp [Tab.known,h] at hke
 have hs:=run_sizeOf htb hko w;have hzi:∃ i,P.info? t=some i∧i.zero=some z:=by
  unfold Tab.zero at hz;split at hz
  ·rename_i ti hti;obtain ⟨i,e1,_,_,e4,_⟩:=ZJ htb hti;exact ⟨i,e1,by rw [e4];exact hz⟩
  ·cases hz
 obtain ⟨i,hi,hiz⟩:=hzi;have hp2:(parts.map fun x=>(x.1,a.eval x.2)).toList=vs:=by
  rw [Array.toList_map,hp,List.map_map]
  conv=>rhs;rw [←List.map_id vs]
  apply List.map_congr_left;intro x _;rfl
 have hrun:(execOp a.eval o).run P w=.ok (.value (.agg cells)) w:=by
  simp only [execOp,hop,Instr.build,Sem.run_bind,zeroValue,typeInfo,run_program,hi,hiz,Result.andThen_ok,Sem.run_pure,run_underlying (zql htb hk),hs,hp2,hf]
 rw [hrun];have hone:=List.all_eq_true.1 hok;refine ZP hfs (.pv _ _ ?_);have:=PRel.agg (K:=K) (w:=w) (cells.toList.map .base) cells.toList zwy63 (fun v hv=>zi0 (hone v hv)) (fun k c v hc hv=>by
  rw [List.getElem?_map] at hc;rw [hv] at hc;simp at hc;subst hc;exact .base v (hone v (List.mem_of_getElem? hv)))
 simpa using this
section
variable {P:Program} {n:Nat} {g:Base} {H:HEnv} {env:Env} {c:Code} {QQ:QC} {ops l:List Oper} {Q:Env→HEnv→Prop}
theorem zj9 (t j:Nat) {i off:Nat} (hg:env.get t=some (.box i off)) (_:H.get j=none) (k:∀ u,AO P n g ops.toArray l ((t,.pv (.base u))::env) ((j,.pin (.box i off) u)::H) Q):AO P n g ops.toArray l env H Q:=by
 refine ⟨fun a w hinv=>?_⟩;obtain ⟨g1,g2,K,ρ,hf,he⟩:=hinv;obtain ⟨u,u1,u2⟩:=he _ _ hg;have hkk:∀ m,(H.get m).isSome=true→(HEnv.get ((j,.pin (.box i off) u)::H) m).isSome=true∧ρ m=ρ m:=by
  intro m hm;refine ⟨?_,rfl⟩;rw [HEnv.get_cons];split <;> first|rfl|exact hm
 have hlive:∀ m hh,HEnv.get ((j,.pin (.box i off) u)::H) m=some hh→hh.live=true→H.get m=some hh:=by
  intro m hh hm hl;rw [HEnv.get_cons] at hm;split at hm
  ·simp only [Option.some.injEq] at hm;subst hm;simp [HE.live] at hl
  ·exact hm
 have hb:Zm u=true:=by cases u2;rfl
 have he2:EnvR K w ρ ((j,.pin (.box i off) u)::H) env a.tmps:=he.keeps (.refl K w) hkk;refine (k u).go a w ⟨g1,g2,K,ρ,⟨hf.below,hf.old,hf.new,hf.lt,hf.others,hf.pt,fun m hh bb hm hl hb=>hf.away m hh bb (hlive m hh hm hl) hl hb,fun m hh hm=>?_,fun m m' hh hh' bb hmm hm hm' hl hl'=>hf.heap.apart m m' hh hh' bb hmm (hlive m hh hm hl) (hlive m' hh' hm' hl') hl hl'⟩,fun t' av' h'=>?_⟩
 ·rw [HEnv.get_cons] at hm;split at hm
  ·simp only [Option.some.injEq] at hm;subst hm;exact u2.keeps (.refl K w) hkk
  ·exact (hf.heap.ok m hh hm).keeps (.refl hf.lt) hf.lt hkk
 ·rw [Env.get_cons] at h';split at h'
  ·rename_i e;subst e;simp only [Option.some.injEq] at h';subst h';exact ⟨u,u1,.pv _ _ (.base _ hb)⟩
  ·exact he2 t' av' h'
end
theorem zgk {P:Program} {tb:Tab} {g:Base} {H:HEnv} {env:Env} {o:Oper} {ty e:TypeId} {x y:Operand} {sz:Nat} {es:List PV} {full full':Bool} (htb:yR P tb) (hop:o.op=.call { callee:=.builtin .append,args:=#[x,y],argTypes:=#[ty,ty] }) (hk:tb.k ty=.sl e)
  (hx:env.pv H x=some (.slc sz es full)) (hy:env.pv H y=some (.slc sz [] full')) (hke:tb.known e=true):QStep P g H o env (.pv (.slc sz es full)):=by
 refine ⟨fun K ρ a w hf hv=>?_⟩;have hyr:=qc hf (hv y zwy70) hy;have hxr:=qc hf (hv x zwy70) hx;obtain ⟨news,n1,n2,n3,n4,n5⟩:=Wj hyr;obtain ⟨us,m1,m2,m3,m4,m5⟩:=Wj hxr;have hnews:news=[]:=List.eq_nil_of_length_eq_zero (by simpa using n1);have hko:tb.k e≠.oth:=by intro h;simp [Tab.known,h] at hke
 have hs:=run_sizeOf (P:=P) htb hko;have hrun:(Builtin.append_ #[ty,ty] o.type #[a.eval x,a.eval y]).run P w=.ok (a.eval x) w:=by
  rcases n2 with ⟨hy0,_⟩|⟨ad',c',hy1,hy2,_,hxc⟩
  ·rcases m2 with ⟨e1,_⟩|⟨ad1,c1,e1,_,_,hle⟩
   ·rw [e1,hy0];simp [Builtin.append_,run_underlying (qY htb hk),hs,Builtin.lenOf,Builtin.firstCells]
   ·rw [e1,hy0];simp [Builtin.append_,run_underlying (qY htb hk),hs,Builtin.lenOf,Builtin.firstCells,hle,storeCells]
  ·rcases m2 with ⟨e1,_⟩|⟨ad1,c1,e1,_,_,hle⟩
   ·rw [e1,hy1];simp [Builtin.append_,run_underlying (qY htb hk),hs,Builtin.lenOf,Builtin.firstCells,loadCells,loadCellsFrom]
   ·rw [e1,hy1];simp [Builtin.append_,run_underlying (qY htb hk),hs,Builtin.lenOf,Builtin.firstCells,hle,storeCells,loadCells,loadCellsFrom]
 have:(execOp a.eval o).run P w=.ok (.value (a.eval x)) w:=by
  simp [execOp,hop,resolve,invoke,builtin,hrun]
 rw [this];exact ZP hf (.pv _ _ hxr)
end Go.Cg
namespace Go.Cg
open Go.Proofs
set_option maxHeartbeats 20000000
def u8s (l:List Int):PV:=.slc 1 (l.map fun n=>.base (.int .u8 n)) false
theorem zwk6 {G:Prop} (h:G:=by repeat' (first|refine sK ?_|refine sC (fun _=>?_) (fun _=>?_)|exact retq rfl (by simp [zC,h])|fail)):G:=h
theorem zsA (n:Int) (h0:0≤n) (h1:n≤128):ACall Tryz.prog 271 [pi n] (pi (if n < 128 then 1 else 2)):=by
 refine zi zf Tryz.func271 rfl zws Tryz.ntmps271 zwy63 _ rfl (fun hw gB hgB=>?_);by_cases h:n < 128
 ·exact zwk6
 ·exact zwk6
theorem zsI (r:Int) (h0:1≤r) (h1:r≤32):ACall Tryz.prog 258 [pi 0,pi r] (.tup [pi (4 * r),pi 0]):=by
 refine zi zf Tryz.func258 rfl zws Tryz.ntmps258 zwy63 _ rfl (fun hw gB hgB=>?_);have hfin:∀ n:Fin 33,IntKind.i64.wrap ((BitVec.ofInt IntKind.i64.bits (IntKind.i64.wrap ((n.val:Int) * 2 ^ (min (Int.toNat 2) IntKind.i64.bits))) ||| BitVec.ofInt IntKind.i64.bits 0).toNat:Int)=4 * (n.val:Int):=by decide +kernel
 have hr:=hfin ⟨r.toNat,by omega⟩;simp only [Int.toNat_of_nonneg (show 0≤r by omega)] at hr
 repeat' (first|refine zy rfl (zxn rfl rfl rfl zwy67) rfl rfl ?_|refine sK ?_|refine sC (fun _=>?_) (fun _=>?_)|fail)
 exact retq rfl (by simp only [zC,hr])
theorem zhf (l:List Int) (hne:l≠[]) (hb:l.length≤100000):ACallR Tryz.prog 272 [u8s l] 5 1 (l.map fun n=>.base (.int .u8 n)):=by
 refine zeP (t:=2) Tryz.func272 rfl zws Tryz.ntmps272 zwy63 rfl (fun hw gB hgB=>?_)
 repeat' (first|refine XY zf rfl rfl rfl rfl rfl rfl rfl (fun bb hbb=>?_)|refine zy rfl (QH zf rfl rfl rfl rfl rfl) rfl rfl ?_|(refine yC ?_;first|refine WW 0 zf rfl rfl rfl (.inl rfl) rfl (by have:=List.length_pos_iff.2 hne;simpa using this) rfl (by show _ * 1≤_;simp;omega) zwy64 rfl rfl rfl ?_)|refine sA ?_|refine sC (fun _=>?_) (fun _=>?_)|fail)
 ·rename_i hx;exact (hne (by simpa using hbb hx)).elim
 ·exact ⟨.inr rfl,0,rfl,rfl⟩
def byteOf (X i:Int):Int:=IntKind.u8.wrap (X.fdiv (2 ^ (min (IntKind.i64.wrap (8 * i)).toNat IntKind.u32.bits)))
def bytesOf (X:Int) (k:Nat):List Int:=(List.range k).map fun m=>byteOf X ((k:Int) - 1 - (m:Nat))
abbrev u8c (n:Int):PV:=.base (.int .u8 n)
theorem zeK {X:Int} {k m:Nat} (h:m < k):(bytesOf X k).take (m + 1)=(bytesOf X k).take m++[byteOf X ((k:Int) - 1 - (m:Nat))]:=by
 have hl:m < (bytesOf X k).length:=by simpa [bytesOf] using h
 rw [List.take_succ_eq_append_getElem hl];simp [bytesOf]
theorem zg1 {X:Int} {k:Nat}:(bytesOf X k).take k=bytesOf X k:=List.take_of_length_le (by simp [bytesOf])
theorem zwk7 {G:Prop} (h:G:=by repeat' (first|(have:=b0;refine zy rfl (zwp rfl rfl rfl hs0) rfl rfl ?_)|(have:=b0;refine yC ?_;first|refine qI zf rfl rfl rfl rfl rfl rfl rfl (by show _ * 1≤_;simp [bytesOf];omega) (by simp [bytesOf];omega) rfl rfl ?_)|refine sK ?_|refine sC (fun _=>?_) (fun _=>?_)|(have:=b0;exact ⟨m + 1,hlt,tD,by repeat (first|exact qh|refine yU rfl ?_|(refine ZF rfl ?_ ?_;· (rw [wrap_in zwy62 zwy62];omega))),⟨Yk rfl (by rw [zeK hlt];simp [byteOf]) zA,rfl⟩⟩)|(have:=b1;exact retq rfl (by rw [zg1];rfl))|fail)):G:=h
theorem zkv (l:List Int) (hne:l≠[]) (hb:l.length≤1000) (n:Int) (h0:0≤n) (h1:n≤128):∃ bs:List Int,ACall Tryz.prog 259 [u8s l,pi n] (.tup [u8s (l++bs),pi 0]):=by
 have c1:=zsA n h0 zwy62;by_cases hn:n < 128
 ·rw [if_pos hn] at c1;obtain ⟨X,hX⟩:∃ X,IntKind.u32.wrap ((BitVec.ofInt IntKind.u32.bits (IntKind.u32.wrap n) ||| BitVec.ofInt IntKind.u32.bits 0).toNat:Int)=X:=⟨_,rfl⟩
  refine ⟨bytesOf X 1,?_⟩;refine zi zf Tryz.func259 rfl zws Tryz.ntmps259 zwy63 _ rfl (fun hw gB hgB=>?_)
  repeat' (first|refine zy rfl (zhb [(2,.int .u32 32768),(4,.int .u32 3221225472)] zf rfl rfl rfl rfl rfl rfl rfl) rfl rfl ?_|refine zy rfl (znV 1 zf rfl rfl rfl rfl rfl rfl rfl rfl) rfl rfl ?_|refine zcG 0 rfl rfl rfl (zhf l hne zwy62) zwy67 rfl rfl rfl ?_|(refine shC ?_;first|refine qC c1 ?_)|refine sK ?_|refine sC (fun _=>?_) (fun _=>?_)|fail)
  refine zW (fun m:Nat=>[(7,.pv (.base (.int .u32 X))),(8,.own 0),(9,.pv (pi (((1:Nat):Int) - 1 - (m:Nat))))]) (fun m=>[(0,.row 5 1 ((l++(bytesOf X 1).take m).map u8c))]) (fun m=>m≤1) (fun m=>1 - m) 0 zwy62 zwy98 ⟨Yk rfl zwy63 zA,rfl⟩ ?_;rintro m hm;by_cases hlt:m < 1
  ·have hs0:0≤IntKind.i64.wrap (8 * (((1:Nat):Int) - 1 - (m:Nat))):=by rw [wrap_in zwy62 zwy62];omega
   have b0:=();exact zwk7
  ·have:m=1:=by omega
   subst this;have b1:=();exact zwk7
 ·rw [if_neg hn] at c1;obtain rfl:n=128:=by omega
  obtain ⟨X,hX⟩:∃ X,IntKind.u32.wrap ((BitVec.ofInt IntKind.u32.bits (IntKind.u32.wrap 128) ||| BitVec.ofInt IntKind.u32.bits 32768).toNat:Int)=X:=⟨_,rfl⟩
  refine ⟨bytesOf X 2,?_⟩;refine zi zf Tryz.func259 rfl zws Tryz.ntmps259 zwy63 _ rfl (fun hw gB hgB=>?_)
  repeat' (first|refine zy rfl (zhb [(2,.int .u32 32768),(4,.int .u32 3221225472)] zf rfl rfl rfl rfl rfl rfl rfl) rfl rfl ?_|refine zy rfl (znV 2 zf rfl rfl rfl rfl rfl rfl rfl rfl) rfl rfl ?_|refine zcG 0 rfl rfl rfl (zhf l hne zwy62) zwy67 rfl rfl rfl ?_|(refine shC ?_;first|refine qC c1 ?_)|refine sK ?_|refine sC (fun _=>?_) (fun _=>?_)|fail)
  refine zW (fun m:Nat=>[(7,.pv (.base (.int .u32 X))),(8,.own 0),(9,.pv (pi (((2:Nat):Int) - 1 - (m:Nat))))]) (fun m=>[(0,.row 5 1 ((l++(bytesOf X 2).take m).map u8c))]) (fun m=>m≤2) (fun m=>2 - m) 0 zwy62 zwy98 ⟨Yk rfl zwy63 zA,rfl⟩ ?_;rintro m hm;by_cases hlt:m < 2
  ·have hs0:0≤IntKind.i64.wrap (8 * (((2:Nat):Int) - 1 - (m:Nat))):=by rw [wrap_in zwy62 zwy62];omega
   have hge:decide (0≤((2:Nat):Int) - 1 - (m:Nat))=true:=by simp;omega
   have b0:=();exact zwk7
  ·have:m=2:=by omega
   subst this;have b1:=();exact zwk7
set_option maxHeartbeats 20000000
abbrev zlp (l:List Int):PV:=.slc 1 (l.map fun n=>.base (.int .u8 n)) true
theorem zfG (k b i d:Int) (hk:k=2∧b=8∨k=3∧b=10∨k=4∧b=28) (hd:d=0∨d=1∨d=2∨d=3):ACall Tryz.prog 251 [zlp [6],yJ ⟨k,i,d,false⟩] (u8s (6::(List.replicate d.toNat 29++[b]))):=by
 have c1:=zc2 29 d zwy62 zwy62;rcases hd with rfl|rfl|rfl|rfl
 all_goals rcases hk with ⟨rfl,rfl⟩|⟨rfl,rfl⟩|⟨rfl,rfl⟩
 all_goals
  refine zi zf Tryz.func251 rfl zws Tryz.ntmps251 zwy63 _ rfl (fun hw gB hgB=>?_)
  repeat' (first|(refine shC ?_;first|refine qC c1 ?_)|(refine yC ?_;first|refine zy rfl (zgk zf rfl rfl rfl rfl rfl) rfl rfl ?_|refine qI zf rfl rfl rfl rfl rfl rfl rfl zwy82 zwy84 rfl rfl ?_|refine WW 0 zf rfl rfl rfl (.inl rfl) rfl zwy84 rfl zwy82 zwy84 rfl rfl rfl ?_)|refine sA ?_|refine sC (fun _=>?_) (fun _=>?_)|fail)
  exact retq rfl rfl
theorem zrL (i d:Int) (hi0:0≤i) (hi1:i≤7) (hd:d=0∨d=1∨d=2∨d=3):∃ bs:List Int,ACall Tryz.prog 251 [zlp [6],yJ ⟨7,i,d,false⟩] (u8s bs):=by
 have c1:=zc2 29 d zwy62 zwy62;obtain ⟨bs,cp⟩:=zkv (6::(List.replicate d.toNat 29++[19])) zwy63 zwy64 i hi0 zwy62;refine ⟨6::(List.replicate d.toNat 29++[19])++bs,?_⟩;have hneg:decide (i < 0)=false:=by simp;omega
 rcases hd with rfl|rfl|rfl|rfl
 all_goals
  refine zi zf Tryz.func251 rfl zws Tryz.ntmps251 zwy63 _ rfl (fun hw gB hgB=>?_)
  repeat' (first|(refine shC ?_;first|refine qC c1 ?_|refine qC cp ?_)|(refine yC ?_;first|refine zy rfl (zgk zf rfl rfl rfl rfl rfl) rfl rfl ?_|refine qI zf rfl rfl rfl rfl rfl rfl rfl zwy82 zwy84 rfl rfl ?_|refine WW 0 zf rfl rfl rfl (.inl rfl) rfl zwy84 rfl zwy82 zwy84 rfl rfl rfl ?_)|refine sK ?_|refine sC (fun _=>?_) (fun _=>?_)|fail)
  exact retq rfl rfl
theorem zkk (k b i d:Int) (hk:k=5∧b=18∨k=6∧b=17) (hi0:0≤i) (hi1:i≤31) (hd:d=0∨d=1∨d=2∨d=3):∃ bs:List Int,ACall Tryz.prog 251 [zlp [6],yJ ⟨k,i,d,false⟩] (u8s bs):=by
 have c1:=zc2 29 d zwy62 zwy62;obtain ⟨bs,cp⟩:=zkv (6::(List.replicate d.toNat 29++[b])) zwy63 zwy64 (4 * (i + 1)) zwy62 zwy62;have hw:IntKind.i64.wrap (i + 1)=i + 1:=wrap_in zwy62 zwy62;have cc:=zsI (i + 1) zwy62 zwy62;rw [←hw] at cc;have hneg:decide (4 * IntKind.i64.wrap (i + 1) < 0)=false:=by rw [hw];simp;omega
 rw [show 4 * (i + 1)=4 * IntKind.i64.wrap (i + 1) by rw [hw]] at cp;refine ⟨6::(List.replicate d.toNat 29++[b])++bs,?_⟩;rcases hd with rfl|rfl|rfl|rfl
 all_goals rcases hk with ⟨rfl,rfl⟩|⟨rfl,rfl⟩
 all_goals
  refine zi zf Tryz.func251 rfl zws Tryz.ntmps251 zwy63 _ rfl (fun hw gB hgB=>?_)
  repeat' (first|(refine shC ?_;first|refine qC c1 ?_|refine qC cp ?_|refine qC cc ?_)|(refine yC ?_;first|refine zy rfl (zgk zf rfl rfl rfl rfl rfl) rfl rfl ?_|refine qI zf rfl rfl rfl rfl rfl rfl rfl zwy82 zwy84 rfl rfl ?_|refine WW 0 zf rfl rfl rfl (.inl rfl) rfl zwy84 rfl zwy82 zwy84 rfl rfl rfl ?_)|refine sK ?_|refine sC (fun _=>?_) (fun _=>?_)|fail)
  exact retq rfl rfl
set_option maxHeartbeats 20000000
def eqF (p:Ty→Ty→Bool) (a b:List Ty):Bool:=decide (a.length=b.length)&&(List.range a.length).all fun i=>p (a.getD i default) (b.getD i default)
theorem zjf (a b:List Ty) (p:Ty→Ty→Bool) (f:FuncId) (first cap:List PV) (hp:∀ x y,ACall Tryz.prog f (first++[yJ x,yJ y]++cap) (pb (p x y))) :
  ACall Tryz.prog 37 [tys a,tys b,.fn (.func f) first cap] (pb (eqF p a b)):=by
 refine zi zf Tryz.func37 rfl zws Tryz.ntmps37 zwy63 _ rfl (fun hw gB hgB=>?_);have hla:=zdz hw.1;have hlb:=zdz hw.2.1;by_cases hlen:a.length=b.length
 ·repeat' (first|refine sK ?_|refine sC (fun _=>?_) (fun _=>?_)|fail)
  refine zW (fun k:Nat=>[(1,.pv (tys b)),(2,.pv (.fn (.func f) first cap)),(15,.pv (tys a)),(16,.pv (pi a.length)),(17,.pv (pi k))]) (fun _=>[]) (fun k=>k≤a.length∧eqF p a b=((List.range a.length).drop k).all fun i=>p (a.getD i default) (b.getD i default)) (fun k=>a.length - k) 0 ⟨by simp,by simp [eqF,hlen]⟩ (tS) tH ?_;rintro k ⟨hk,hr⟩;by_cases hlt:k < a.length
  ·have hltb:k < b.length:=by omega
   have he:=zdf hlt;have heb:=zdf hltb;rw [YS hlt,zT hlt,zT hltb] at hr
   repeat' (first|(refine shC ?_;first|refine qV ((hp _ _)) ?_)|(refine shX ?_;first|refine qX he ?_|refine qX heb ?_)|refine sK ?_|refine sC (fun _=>?_) (fun _=>?_)|fail)
   all_goals first|(refine ay ?_;first|(simp only [zC,BL,List.length_map] at *;simp only [*,BL,List.length_map];done)|(simp_all [zC];done)|(simp_all [zC];omega)|(simp_all [zC];intros;omega))|(refine ⟨k + 1,⟨by omega,?_⟩,tD,tS,tH⟩;first|(simp only [BL,List.length_map] at *;simp only [*,BL,List.length_map];done)|(simp_all [];done)|(simp_all [];omega)|(simp_all [];intros;omega))|(trace "LEND";trace_state)
  ·rw [drop_end zwy64] at hr
   repeat' (first|refine sK ?_|refine sC (fun _=>?_) (fun _=>?_)|fail)
   all_goals first|(refine ay ?_;first|(simp only [zC,BL,List.length_map] at *;simp only [*,BL,List.length_map];done)|(simp_all [zC];done)|(simp_all [zC];omega)|(simp_all [zC];intros;omega))|(refine zbf rfl ?_;first|(simp only [zC,BL,List.length_map] at *;simp only [*,BL,List.length_map];done)|(simp_all [zC];done)|(simp_all [zC];omega)|(simp_all [zC];intros;omega))|skip
 ·repeat' (first|refine sK ?_|refine sC (fun _=>?_) (fun _=>?_)|fail)
  exact retq rfl (by simp [zC,eqF,hlen])
theorem znM (g:Img) (hF:Fm g) (x y:Ty):ACall Tryz.prog 38 [yJ x,yJ y,.ptr (zO g) 0] (pb (ZO g x y)):=by
 refine zi zf Tryz.func38 rfl zws Tryz.ntmps38 zwy63 _ rfl (fun hw gB hgB=>?_)
 repeat' (first|(refine shC ?_;first|refine qC (XF g x y hF) ?_)|refine sA ?_|refine sC (fun _=>?_) (fun _=>?_)|fail)
 exact retq rfl rfl
def Zl (g:Img) (a b:List Ty):Bool:=eqF (ZO g) a b
theorem XE (g:Img) (a b:List Ty) (hF:Fm g):ACall Tryz.prog 16 [zO g,tys a,tys b] (pb (Zl g a b)):=by
 refine zi zf Tryz.func16 rfl zws Tryz.ntmps16 zwy63 _ rfl (fun hw gB hgB=>?_);have c1:=zjf a b (ZO g) 38 [] [.ptr (zO g) 0] (znM g hF)
 repeat' (first|(refine shC ?_;first|refine qC c1 ?_)|refine sA ?_|refine sC (fun _=>?_) (fun _=>?_)|fail)
 exact retq rfl rfl
def zcq (g:Img):List Ty→List Ty→List Ty→List Ty × Int
 | x::a,y::b,out=>if (ZE g x y).2 != 0 then ([],(ZE g x y).2) else zcq g a b (out++[(ZE g x y).1])
 | [],_,out=>(out,0)
 | _,[],out=>(out,0)
def Zp (g:Img) (a b:List Ty):List Ty × Int:=if a.length≠b.length then ([],9) else zcq g a b []
theorem zlF (g:Img) (a b:List Ty) (hF:Fm g) (hal:a.length≤1000):ACall Tryz.prog 111 [zO g,tys a,tys b] (.tup [tys (Zp g a b).1,pi (Zp g a b).2]):=by
 refine zi zf Tryz.func111 rfl zws Tryz.ntmps111 zwy63 _ rfl (fun hw gB hgB=>?_);have hlb:=zdz hw.2.2.1;by_cases hlen:a.length=b.length
 ·rw [show Zp g a b=zcq g a b [] by simp [Zp,hlen]]
  repeat' (first|refine YF (t:=8) 0 40 4 zwy67 rfl rfl ?_|refine sK ?_|refine sC (fun _=>?_) (fun _=>?_)|fail)
  refine zW (fun x:Nat × List Ty=>[(1,.pv (tys a)),(2,.pv (tys b)),(3,.pv (.ptr (zO g) 0)),(8,.own 0),(18,.pv (pi a.length)),(19,.pv (pi x.1))]) (fun x=>[(0,.row 40 4 (x.2.map yJ))])
   (fun x=>x.1≤a.length∧x.2.length=x.1∧zcq g (a.drop x.1) (b.drop x.1) x.2=zcq g a b []) (fun x=>a.length - x.1) (0,[]) ⟨by simp,by simp,rfl⟩ (tS) ⟨aB zA,rfl⟩ ?_
  rintro ⟨k,out⟩ ⟨hk,hol,hr⟩;simp only at hk hol hr;by_cases hlt:k < a.length
  ·have hltb:k < b.length:=by omega
   have he:=zdf hlt;have heb:=zdf hltb;rw [drop_cons hlt,drop_cons hltb,zcq] at hr;have c1:=zni g a[k] b[k] hF;generalize ZE g a[k] b[k]=m at c1 hr;obtain ⟨mt,me⟩:=m;simp only at c1 hr;by_cases hme:me=0
   ·subst hme;simp only [bne_self_eq_false,Bool.false_eq_true,if_false] at hr
    repeat' (first|refine zN 1 13 0 zf rfl zws zws zws rfl rfl rfl rfl rfl rfl rfl rfl rfl rfl rfl rfl rfl rfl (fun _=>rfl) rfl rfl rfl ?_|refine ⟨_,_,rfl,rfl,rfl,?_⟩|(refine shC ?_;first|refine qC c1 ?_)|(refine shX ?_;first|refine qX he ?_|refine qX heb ?_)|(refine yC ?_;first|refine qI zf rfl rfl rfl rfl rfl rfl rfl zwy105 zwy64 rfl rfl ?_)|refine sK ?_|refine sC (fun _=>?_) (fun _=>?_)|fail)
    refine ⟨(k + 1,out++[mt]),⟨hlt,by simp [hol],hr⟩,tD,tS,⟨Yk rfl zwy63 zA,rfl⟩⟩
   ·have hne:(me != 0)=true:=by simp [hme]
    rw [hne] at hr
    repeat' (first|refine zN 1 13 0 zf rfl zws zws zws rfl rfl rfl rfl rfl rfl rfl rfl rfl rfl rfl rfl rfl rfl (fun _=>rfl) rfl rfl rfl ?_|refine ⟨_,_,rfl,rfl,rfl,?_⟩|(refine shC ?_;first|refine qC c1 ?_)|(refine shX ?_;first|refine qX he ?_|refine qX heb ?_)|refine sK ?_|refine sC (fun _=>?_) (fun _=>?_)|fail)
    rw [←hr];exact zbl (t:=6) (ps:=[tys [],pi me]) rfl (Qy 4 false) rfl rfl
  ·rw [drop_end zwy62,zcq] at hr
   repeat' (first|refine sK ?_|refine sC (fun _=>?_) (fun _=>?_)|fail)
   rw [←hr];exact retq rfl rfl
 ·repeat' (first|refine sK ?_|refine sC (fun _=>?_) (fun _=>?_)|fail)
  rw [show Zp g a b=([],9) by simp [Zp,hlen]];exact zbl (t:=6) (ps:=[tys [],pi 9]) rfl (Qy 4 false) rfl rfl
theorem znW (a:Ty):tyB a a=true:=by simp [tyB]
theorem zuu {a b:Ty} (h:tyB a b=true):a=b:=by
 have:=Vo a b;simp only [tyB] at h;rw [h] at this;simpa using this.symm
theorem zdg (g:Img) (a:Ty):ZO g a a=true:=by simp [ZO,znW]
theorem zaY {g:Img} {a:Ty} (h:object a=true):ZO g a ⟨4,0,0,false⟩=true:=by
 have h2:object ⟨4,0,0,false⟩=true:=by decide
 have h3:plain ⟨4,0,0,false⟩ 4=true:=by decide
 unfold ZO;split
 ·rfl
 ·rw [h,h2,h3];simp
theorem zd5 {g:Img} {a:Ty} (h:plain a 7=true):ZO g a ⟨7,0,0,false⟩=true:=by
 have hk:a.kind=7∧a.dims=0∧a.ref=false:=by simpa [plain,and_assoc] using h
 have ho:object a=true:=by simp [object,hk.1,hk.2.2]
 have h2:object ⟨7,0,0,false⟩=true:=by decide
 have h4:plain a 8=false:=by simp [plain,hk.1]
 have h5:plain a 5=false:=by simp [plain,hk.1]
 have h6:plain ⟨7,0,0,false⟩ 4=false:=by decide
 unfold ZO;split
 ·rfl
 ·rw [ho,h2,h4,h5,h6,h,znW];rfl
theorem QV {a:Ty} (h:plain a 5=true):object a=true:=by
 have hk:a.kind=5∧a.dims=0∧a.ref=false:=by simpa [plain,and_assoc] using h
 simp [object,hk.1,hk.2.2]
theorem zd9 {g:Img} {a:Ty} {t:Int} (h:plain a 5=true) (hb:XG g a.index t=true):ZO g a ⟨5,t,0,false⟩=true:=by
 have ho:=QV h;have hk:a.kind=5∧a.dims=0∧a.ref=false:=by simpa [plain,and_assoc] using h
 have h2:object ⟨5,t,0,false⟩=true:=by simp [object]
 have h4:plain a 8=false:=by simp [plain,hk.1]
 have h6:plain ⟨5,t,0,false⟩ 4=false:=by simp [plain]
 have h7:plain ⟨5,t,0,false⟩ 5=true:=by simp [plain]
 unfold ZO;split
 ·rfl
 ·rw [ho,h2,h4,h6,h,h7];simpa using hb
theorem zfl {g:Img} {a:Ty} (h:zbT g a=true):plain a 5=true:=by
 simp only [zbT,Bool.and_eq_true] at h;exact h.1
theorem znr {g:Img} {a b:Ty} (h:(ZE g a b).2=0):ZO g a (ZE g a b).1=true∧ZO g b (ZE g a b).1=true:=by
 unfold ZE at h ⊢;by_cases h1:ZO g b a=true
 ·rw [if_pos h1];exact ⟨zdg g a,h1⟩
 rw [if_neg h1] at h ⊢;by_cases h2:ZO g a b=true
 ·rw [if_pos h2];exact ⟨h2,zdg g b⟩
 rw [if_neg h2] at h ⊢;by_cases h3:(!object a||!object b)=true
 ·rw [if_pos h3] at h;simp at h
 rw [if_neg h3] at h ⊢;simp only [Bool.or_eq_true,Bool.not_eq_true',not_or,Bool.not_eq_false] at h3;by_cases h4:(plain a 7&&plain b 7)=true
 ·rw [if_pos h4];simp only [Bool.and_eq_true] at h4;exact ⟨zd5 h4.1,zd5 h4.2⟩
 rw [if_neg h4] at h ⊢;by_cases h5:(zbT g a&&zbT g b)=true
 ·rw [if_pos h5];simp only [Bool.and_eq_true] at h5;have ha:=zfl h5.1;have hb:=zfl h5.2;simp only [zfc];cases hf:(up g a.index).find? (fun t=>decide (t∈up g b.index)) with
  | none=>exact ⟨zaY (QV ha),zaY (QV hb)⟩
  | some t =>
   have m1:=List.mem_of_find?_eq_some hf;have m2:=List.find?_some hf;exact ⟨zd9 ha (by simp [XG,m1]),zd9 hb (by simp only [XG];simp at m2;simp [m2])⟩
 ·rw [if_neg h5];exact ⟨zaY h3.1,zaY h3.2⟩
theorem zlN {p:Ty→Ty→Bool} {a b:List Ty}:eqF p a b=true↔a.length=b.length∧∀ i (h:i < a.length) (h2:i < b.length),p a[i] b[i]=true:=by
 unfold eqF;simp only [Bool.and_eq_true,decide_eq_true_eq,List.all_eq_true,List.mem_range];constructor
 ·rintro ⟨h1,h2⟩;refine ⟨h1,fun i h h3=>?_⟩;have:=h2 i h
  rwa [zT h,zT h3] at this
 ·rintro ⟨h1,h2⟩;refine ⟨h1,fun i h=>?_⟩;rw [zT h,zT (h1 ▸ h)];exact h2 i h _
theorem zkq {g:Img}:∀ (a b out:List Ty),a.length=b.length →
  ((zcq g a b out).2=0→∃ l,(zcq g a b out).1=out++l∧l.length=a.length∧∀ i (h:i < a.length) (h2:i < b.length) (h3:i < l.length),(ZE g a[i] b[i]).2=0∧l[i]=(ZE g a[i] b[i]).1)
  ∧ ((zcq g a b out).2≠0→∃ i,∃ (h:i < a.length) (h2:i < b.length),(ZE g a[i] b[i]).2≠0)
 | [],b,out,hl=>by
  refine ⟨fun _=>⟨[],by simp [zcq],rfl,fun i h=>by simp at h⟩,fun h=>?_⟩;simp [zcq] at h
 | x::a,[],out,hl=>by simp at hl
 | x::a,y::b,out,hl=>by
  simp only [zcq];by_cases hm:(ZE g x y).2=0
  ·rw [hm];simp only [bne_self_eq_false,Bool.false_eq_true,if_false];obtain ⟨h1,h2⟩:=zkq a b (out++[(ZE g x y).1]) zwy79;refine ⟨fun h=>?_,fun h=>?_⟩
   ·obtain ⟨l,l1,l2,l3⟩:=h1 h;refine ⟨(ZE g x y).1::l,by rw [l1];simp,by simp [l2],fun i hi hi2 hi3=>?_⟩;cases i with
    | zero=>exact ⟨hm,rfl⟩
    | succ i=>exact l3 i zwy115 (by simpa using hi2) (by simpa using hi3)
   ·obtain ⟨i,i1,i2,i3⟩:=h2 h;exact ⟨i + 1,by simpa using i1,by simpa using i2,i3⟩
  ·have hne:((ZE g x y).2 != 0)=true:=by simp [hm]
   rw [hne];simp only [if_true];exact ⟨fun h=>(hm h).elim,fun _=>⟨0,by simp,by simp,hm⟩⟩
theorem zoA {g:Img} {a b:List Ty} (h:(Zp g a b).2=0):a.length=b.length:=by
 unfold Zp at h;by_cases hl:a.length=b.length
 ·exact hl
 ·rw [if_pos hl] at h;simp at h
theorem zrt {g:Img} {a b:List Ty} (h:(Zp g a b).2=0):Zl g a (Zp g a b).1=true∧Zl g b (Zp g a b).1=true:=by
 have hl:=zoA h;have e:Zp g a b=zcq g a b []:=by simp [Zp,hl]
 rw [e] at h ⊢;obtain ⟨l,l1,l2,l3⟩:=(zkq a b [] hl).1 h;rw [List.nil_append] at l1;rw [l1];refine ⟨zlN.2 ⟨l2.symm,fun i h1 h2=>?_⟩,zlN.2 ⟨by omega,fun i h1 h2=>?_⟩⟩
 ·obtain ⟨q1,q2⟩:=l3 i h1 zwy62 h2;rw [q2];exact (znr q1).1
 ·obtain ⟨q1,q2⟩:=l3 i zwy62 h1 h2;rw [q2];exact (znr q1).2
end Go.Cg
