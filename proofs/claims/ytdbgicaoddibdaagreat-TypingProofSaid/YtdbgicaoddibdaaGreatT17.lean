/- A part of the walks by abstract values: no statement of its own. -/
import Derived.Shelf.Sort.Plain
import Derived.Shelf.Slices.In.SortNone
import Derived.Test.YtdbgicaoddibdaaGreatProg
import Derived.Test.YtdbgicaoddibdaaGreatT16
import Derived.Sort.OwnSortedInts
set_option linter.unusedVariables false
set_option linter.unusedSimpArgs false
namespace Go.Proofs
open Go.Shelf
def Tryz.lays189_ren:Go.Shelf.Ren:=⟨fun|189=>170|125=>194|257=>193|128=>218|129=>219|294=>209|295=>210|296=>211|297=>212|298=>213|299=>214|216=>215|300=>216|301=>217|328=>229|329=>230|330=>231|331=>232|332=>233|215=>234|343=>248|n=>n,fun|28=>41|3=>3|46=>220|0=>0|51=>233|53=>235|4=>4|183=>226|182=>225|131=>230|5=>5|9=>9|218=>241|222=>245|228=>256|229=>257|n=>n,fun|n=>n⟩
theorem Tryz.lays189:Go.Proofs.Lays.n189 Tryz.prog Tryz.lays189_ren:={
 mixed:=by kernel_rfl
 f125:=Tryz.func194.trans (congrArg some (by kernel_rfl))
 f128:=Tryz.func218.trans (congrArg some (by kernel_rfl))
 f129:=Tryz.func219.trans (congrArg some (by kernel_rfl))
 f189:=Tryz.func170.trans (congrArg some (by kernel_rfl))
 f215:=Tryz.func234.trans (congrArg some (by kernel_rfl))
 f216:=Tryz.func215.trans (congrArg some (by kernel_rfl))
 f257:=Tryz.func193.trans (congrArg some (by kernel_rfl))
 f294:=Tryz.func209.trans (congrArg some (by kernel_rfl))
 f295:=Tryz.func210.trans (congrArg some (by kernel_rfl))
 f296:=Tryz.func211.trans (congrArg some (by kernel_rfl))
 f297:=Tryz.func212.trans (congrArg some (by kernel_rfl))
 f298:=Tryz.func213.trans (congrArg some (by kernel_rfl))
 f299:=Tryz.func214.trans (congrArg some (by kernel_rfl))
 f300:=Tryz.func216.trans (congrArg some (by kernel_rfl))
 f301:=Tryz.func217.trans (congrArg some (by kernel_rfl))
 f328:=Tryz.func229.trans (congrArg some (by kernel_rfl))
 f329:=Tryz.func230.trans (congrArg some (by kernel_rfl))
 f330:=Tryz.func231.trans (congrArg some (by kernel_rfl))
 f331:=Tryz.func232.trans (congrArg some (by kernel_rfl))
 f332:=Tryz.func233.trans (congrArg some (by kernel_rfl))
 f343:=Tryz.func248.trans (congrArg some (by kernel_rfl))
 t0:=Tryz.underlying0
 a0:=Tryz.isAgg0
 z0:=Tryz.sizeOf0
 v0:=Tryz.zeroValue0
 t3:=Tryz.underlying3
 a3:=Tryz.isAgg3
 z3:=Tryz.sizeOf3
 v3:=Tryz.zeroValue3
 t4:=Tryz.underlying4
 a4:=Tryz.isAgg4
 z4:=Tryz.sizeOf4
 v4:=Tryz.zeroValue4
 t5:=Tryz.underlying5
 a5:=Tryz.isAgg5
 z5:=Tryz.sizeOf5
 v5:=Tryz.zeroValue5
 t9:=Tryz.underlying9
 a9:=Tryz.isAgg9
 z9:=Tryz.sizeOf9
 v9:=Tryz.zeroValue9
 t28:=Tryz.underlying41
 a28:=Tryz.isAgg41
 z28:=Tryz.sizeOf41
 v28:=Tryz.zeroValue41
 t46:=Tryz.underlying220
 a46:=Tryz.isAgg220
 z46:=Tryz.sizeOf220
 v46:=Tryz.zeroValue220
 t51:=Tryz.underlying233
 a51:=Tryz.isAgg233
 z51:=Tryz.sizeOf233
 v51:=Tryz.zeroValue233
 t53:=Tryz.underlying235
 a53:=Tryz.isAgg235
 z53:=Tryz.sizeOf235
 v53:=Tryz.zeroValue235
 t131:=Tryz.underlying230
 a131:=Tryz.isAgg230
 z131:=Tryz.sizeOf230
 v131:=Tryz.zeroValue230
 t182:=Tryz.underlying225
 a182:=Tryz.isAgg225
 z182:=Tryz.sizeOf225
 v182:=Tryz.zeroValue225
 t183:=Tryz.underlying226
 a183:=Tryz.isAgg226
 z183:=Tryz.sizeOf226
 v183:=Tryz.zeroValue226
 t218:=Tryz.underlying241
 a218:=Tryz.isAgg241
 z218:=Tryz.sizeOf241
 v218:=Tryz.zeroValue241
 t222:=Tryz.underlying245
 a222:=Tryz.isAgg245
 z222:=Tryz.sizeOf245
 v222:=Tryz.zeroValue245
 t228:=Tryz.underlying256
 a228:=Tryz.isAgg256
 z228:=Tryz.sizeOf256
 v228:=Tryz.zeroValue256
 t229:=Tryz.underlying257
 a229:=Tryz.isAgg257
 z229:=Tryz.sizeOf257
 v229:=Tryz.zeroValue257 }
open Go.Sort Go.RowKit in
theorem Tryz.slices_Sort_int (blk off cap:Nat) (zs:List Int) (w:World) (hH:Holds (Value.int .i64) w blk off zs.toArray) (hblk:blk < w.heap.size) (hsz:zs.length < 4611686018427387904) :
  Calls Tryz.prog 170 #[.slice (some ⟨blk,off,none⟩) zs.length cap] w fun e w' =>
   e=.returned (.tuple #[])∧∃ n os,w'=grow (putRow (Value.int .i64) (Sort.ahead w n) blk off (zs.mergeSort fun x y=>decide (x≤y)).toArray) os:=Any.slices_Sort_int Tryz.lays189 blk off cap zs w hH hblk hsz
open Go.RowKit Go.Sort in
theorem Tryz.slices_Sort_int_none (p:Option Addr) (cap:Nat) (w:World) :
  Calls Tryz.prog 170 #[.slice p 0 cap] w fun e w'=>e=.returned (.tuple #[])∧w'=w:=Any.slices_Sort_int_none Tryz.lays189 p cap w
end Go.Proofs
namespace Go.Cg
open Go.RowKit Go.Proofs
mutual
def PV.free:PV→Bool
 | .base _=>true
 | .agg cs=>frees cs
 | .slc _ es _=>es.isEmpty
 | .ptr _ _=>false
 | .fn _ a b=>frees a&&frees b
 | .tup cs=>frees cs
def frees:List PV→Bool
 | []=>true
 | c::cs=>c.free&&frees cs
end
theorem Xa:∀ {cs:List PV},frees cs=true→∀ (k:Nat) (c:PV),cs[k]?=some c→c.free=true
 | [],_,k,c,h=>by simp at h
 | c::cs,h,k,c',hk=>by
  simp only [frees,Bool.and_eq_true] at h;cases k with
  | zero=>simp at hk;subst hk;exact h.1
  | succ k=>simp at hk;exact Xa h.2 k c' hk
mutual
def AV.freeA:AV→Bool
 | .pv p=>p.free
 | .agg cs=>zge cs
 | .fn _ a b=>zge a&&zge b
 | _=>true
def zge:List AV→Bool
 | []=>true
 | c::cs=>c.freeA&&zge cs
end
theorem zbP:∀ {cs:List AV},zge cs=true→∀ (k:Nat) (c:AV),cs[k]?=some c→c.freeA=true
 | [],_,k,c,h=>by simp at h
 | c::cs,h,k,c',hk=>by
  simp only [zge,Bool.and_eq_true] at h;cases k with
  | zero=>simp at hk;subst hk;exact h.1
  | succ k=>simp at hk;exact zbP h.2 k c' hk
def HE.freeH:HE→Bool
 | .cell v=>v.freeA
 | .pin v _=>v.freeA
 | .row _ _ es=>frees es
 | .mrow _ _ es=>frees es
 | _=>true
def zhB:Env→Bool
 | []=>true
 | (_,v)::e=>v.freeA&&zhB e
def zqB (i:Nat):HEnv→Bool
 | []=>true
 | (j,h)::e=>(Nat.beq i j||h.freeH)&&zqB i e
theorem zgB:∀ {e:Env},zhB e=true→∀ t v,e.get t=some v→v.freeA=true
 | [],_,t,v,h=>by simp [Env.get_nil] at h
 | (t',v')::e,h,t,v,hv=>by
  simp only [zhB,Bool.and_eq_true] at h;rw [Env.get_cons] at hv;split at hv
  ·simp only [Option.some.injEq] at hv;subst hv;exact h.1
  ·exact zgB h.2 t v hv
theorem zkt {i:Nat}:∀ {e:HEnv},zqB i e=true→∀ j h,e.get j=some h→j≠i→h.freeH=true
 | [],_,j,h,hg,_=>by simp [HEnv.get_nil] at hg
 | (k,x)::e,hf,j,h,hg,hne=>by
  simp only [zqB,Bool.and_eq_true,Bool.or_eq_true] at hf;rw [HEnv.get_cons] at hg;split at hg
  ·rename_i e';subst e';simp only [Option.some.injEq] at hg;subst hg;rcases hf.1 with h1|h1
   ·exact (hne (Nat.eq_of_beq_eq_true h1).symm).elim
   ·exact h1
  ·exact zkt hf.2 j h hg hne
section
variable {K K':KK} {w w':World} {ρ:Nat→Value} {H H':HEnv}
theorem PRel.free {p:PV} {v:Value} (h:PRel K w p v):p.free=true→PRel K' w' p v:=by
 induction h with
 | base v h1=>exact fun _=>.base v h1
 | agg cs vs hl h1 _ ih=>exact fun hf=>.agg cs vs hl h1 fun k c v hc hv=>ih k c v hc hv (Xa hf k c hc)
 | nil sz full=>exact fun _=>.nil sz full
 | emp sz full a=>exact fun _=>.emp sz full a
 | slc sz es full b o cap vss h0 h1 h2 h3 h4 h5 h6 ih =>
  intro hf;have hes:es=[]:=by simpa [PV.free] using hf
  subst hes;refine .slc sz [] full b o cap vss h0 h1 h2 h3 h4 (fun i e he=>by simp at he) (fun i e k c v he=>by simp at he)
 | ptr p off b o vs hl hr _ ih=>intro hf;simp [PV.free] at hf
 | fn f a b vf vc h1 h2 _ _ ih1 ih2 =>
  intro hf;simp only [PV.free,Bool.and_eq_true] at hf;exact .fn f a b vf vc h1 h2 (fun k c v hc hv=>ih1 k c v hc hv (Xa hf.1 k c hc)) (fun k c v hc hv=>ih2 k c v hc hv (Xa hf.2 k c hc))
 | tup cs vs hl _ ih=>exact fun hf=>.tup cs vs hl fun k c v hc hv=>ih k c v hc hv (Xa hf k c hc)
theorem ARel.free (hk:∀ j,(H.get j).isSome=true→(H'.get j).isSome=true) {av:AV} {v:Value} (h:ARel K w ρ H av v):av.freeA=true→ARel K' w' ρ H' av v:=by
 induction h with
 | pv p v hp=>exact fun hf=>.pv p v (hp.free hf)
 | own j hj=>exact fun _=>.own j (hk j hj)
 | box j off b hj hr=>exact fun _=>.box j off b (hk j hj) hr
 | ad j off b m c hj hr=>exact fun _=>.ad j off b m c (hk j hj) hr
 | agg cs vs h1 h2 _ ih=>exact fun hf=>.agg cs vs h1 h2 fun k c v hc hv=>ih k c v hc hv (zbP hf k c hc)
 | fn f a b vf vc h1 h2 _ _ ih1 ih2 =>
  intro hf;simp only [AV.freeA,Bool.and_eq_true] at hf;exact .fn f a b vf vc h1 h2 (fun k c v hc hv=>ih1 k c v hc hv (zbP hf.1 k c hc)) (fun k c v hc hv=>ih2 k c v hc hv (zbP hf.2 k c hc))
 | any v=>exact fun _=>.any v
 | any1 v h1 h2=>exact fun _=>.any1 v h1 h2
end
def sortL (l:List Int):List Int:=l.mergeSort fun x y=>decide (x≤y)
theorem zf3 (l:List Int):(sortL l).length=l.length:=List.length_mergeSort _
theorem zfV {l:List Int} {x:Int}:x∈sortL l↔x∈l:=List.mem_mergeSort
section
variable {n:Nat} {g:Base} {H:HEnv} {env:Env} {ops:List Oper} {o:Oper} {rest:List Oper} {Q:Env→HEnv→Prop}
theorem ztj {w:World} {B:Nat} {v:Value} {l:List Int} (h:w.ownsRow B 3 1 v l.length (l.map (Value.int .i64))) (hl:l.length < 4611686018427387904) :
  Calls Tryz.prog 170 #[v] w fun e w'=>e=.returned (.tuple #[])∧w'.ownsRow B 3 1 v l.length ((sortL l).map (Value.int .i64))∧w.grownBy w' v.ownBlock:=by
 rcases h.2 with ⟨rfl,h0⟩|⟨b,cap,cur,rfl,hb,hheap,h1,h2,h3,h4⟩
 ·have:l=[]:=List.eq_nil_of_length_eq_zero h0;subst this;refine (Tryz.slices_Sort_int_none none 0 w).mono fun e w' ⟨e1,e2⟩=>?_
  subst e2;exact ⟨e1,by simpa [sortL] using h,⟨rfl,rfl,rfl,Nat.le_refl _,fun _ _ _=>rfl⟩⟩
 ·have hlt:b < w.heap.size:=(Array.getElem?_eq_some_iff.1 hheap).1;refine (Tryz.slices_Sort_int b 0 cap l w (holds_of_blockI hheap (by simpa using h4)) hlt hl).mono fun e w' ⟨e1,m,os,e2⟩=>?_
  subst e2;refine ⟨e1,?_,grownBy_sortedI _⟩;exact ownsRow_sortedI (zf3 l) hb hheap h1 h2 h3
theorem zvC {d:Tmp} {x:Operand} {ts:Array TypeId} {i:Nat} {l:List Int} (env2:Env) (hpl:Plain g) (hg:guardE ops env o=some true) (hop:o.op=.call { callee:=.value (.func 170),args:=#[x],argTypes:=ts }) (hst:Vy Tryz.prog 170)
  (hx:env.val x=some (.own i)) (hi:H.get i=some (.row 3 1 (l.map pi))) (hl:l.length≤100000) (hs:Sub env env2) (hfe:zhB env2=true) (hfh:zqB i H=true) (hd:o.dst=some d) (hdt:Nat.blt d n=true)
  (h:AO Tryz.prog n g ops.toArray rest ((d,.pv (.tup []))::env2) ((i,.row 3 1 ((sortL l).map pi))::H) Q):AO Tryz.prog n g ops.toArray (o::rest) env H Q:=by
 refine ⟨fun a w hinv=>?_⟩;have hw:=yT hinv hg;obtain ⟨h1,h2,K,ρ,hf,he⟩:=hinv;refine wpList_step fun KK hKK=>?_
 rw [if_pos hw];have hxr:=qA he hx;generalize hxv:a.eval x=xv at hxr;obtain ⟨us,hown,hsz,hcr,hKK'⟩:=hf.heap.ok i _ hi;have hus:us=l.map (Value.int .i64):=by
  apply List.ext_getElem?;intro j;have hlen:=hown.1;simp at hlen;by_cases hj:j < l.length
  ·obtain ⟨_,h3⟩:=hcr j (pi l[j]) (by simp [hj]);obtain ⟨v,h4,_,h5⟩:=h3 0 (pi l[j]) rfl;cases h5;simp only [Nat.mul_one,Nat.add_zero] at h4;rw [h4];simp [hj]
  ·rw [List.getElem?_eq_none zwy62,List.getElem?_eq_none zwy64]
 subst hus;rw [List.length_map] at hown;cases hxr with
 | own _ _ =>
  have hrun:(execOp a.eval o).run Tryz.prog w=.ok (.enter 170 #[ρ i]) w:=by
   simp [execOp,hop,resolve,Act.eval,Deferred.ofValue,invoke,Ze hst];simpa [Act.eval] using hxv
  unfold Oper.wp;rw [hrun];simp only [Oper.upon];refine (ztj hown zwy62).mono fun e w' ⟨e1,hown',hgrow⟩=>?_
  subst e1;have hlow:∀ b,(ρ i).ownBlock=some b→g.w0.heap.size≤b:=fun b hb=>(hown.lt b hb).1
  have hcr2:∀ (j:Nat) (o:Obj),(ρ i).ownBlock=some j→w.heap[j]?=some o→o.isCells=true:=by
   intro j o hj ho;rcases hown.2 with ⟨h,_⟩|⟨b2,cap,cur,h,_,hh,_⟩
   ·rw [h] at hj;simp [Value.ownBlock] at hj
   ·rw [h] at hj;simp only [Value.ownBlock,Option.some.injEq] at hj;subst hj;rw [hh] at ho;cases ho;rfl
  have hsome:∀ j,(H.get j).isSome=true→(HEnv.get ((i,.row 3 1 ((sortL l).map pi))::H) j).isSome=true:=by
   intro j hj;simp only [HEnv.get_cons];split
   ·rfl
   ·exact hj
  have hbo:∀ b,yj (ρ i)=some b↔(ρ i).ownBlock=some b:=by
   intro b;rcases hown.2 with ⟨e,_⟩|⟨_,_,_,e,_⟩ <;> rw [e] <;> simp [yj,Value.ownBlock]
  have hpt:Prot g K w':=⟨fun b hb=>let ⟨p1,p2,p3⟩:=hf.pt.same b hb;⟨Nat.lt_of_lt_of_le p1 hgrow.size,(hgrow.block b p1 (fun e=>hf.away i _ b hi rfl ((hbo b).2 e.symm) hb)).trans p2,p3⟩,fun b o h0=>by
   rw [←hf.pt.kept b o h0];exact World.cell?_of_block (hgrow.block b (hf.lt b o (hf.old b o h0)) (fun e=>by have:=hlow b e.symm;have:=hpl.2 b o h0;omega))⟩
  refine hKK _ _ (h.go _ _ ⟨qW h1,put_defers h2,K,ρ,⟨hf.below.grown hgrow hf.below.size hlow,hf.old,hf.new,fun b o hk=>Nat.lt_of_lt_of_le (hf.lt b o hk) hgrow.size,hf.others.trans (KeepsOthers.of_grownBy hgrow hcr2),hpt,hf.away.set hi rfl,?_,?_⟩,?_⟩)
  ·intro j e hj;rw [HEnv.get_cons] at hj;split at hj
   ·rename_i e';subst e';simp only [Option.some.injEq] at hj;subst hj;refine ⟨(sortL l).map (Value.int .i64),by rw [List.length_map,zf3];exact hown',hsz,?_,?_⟩
    ·intro k c hc;rw [List.getElem?_map] at hc;cases hk:(sortL l)[k]? with
     | none=>simp [hk] at hc
     | some y =>
      simp [hk] at hc;subst hc;refine ⟨rfl,fun m c hm=>?_⟩;cases m with
      | zero=>simp [PV.cells] at hm;subst hm;exact ⟨.int .i64 y,by simp [hk],rfl,.base _ rfl⟩
      | succ m=>simp [PV.cells] at hm
    ·intro b hb o';rw [List.length_map,zf3];have:=hKK' b hb o';simpa using this
   ·rename_i hne;have hfree:=zkt hfh j e hj (Ne.symm hne);have hok:=hf.heap.ok j e hj;have hblk:e.live=true→∀ b,yj (ρ j)=some b→(ρ i).ownBlock≠some b:=fun hlive b hb e' =>
     hf.heap.apart i j _ e b hne hi hj rfl hlive ((hbo b).2 e') hb
    cases e with
    | cell v =>
     obtain ⟨b,t,arr,u,r1,r2,r3,r4,r5,r6⟩:=hok;have hlt:b < w.heap.size:=(Array.getElem?_eq_some_iff.1 r3).1;have:=hblk rfl b (by rw [r1];rfl);exact ⟨b,t,arr,u,r1,r2,by rw [hgrow.block b hlt (Ne.symm this)];exact r3,r4.free hsome hfree,r5,r6⟩
    | row t sz es =>
     obtain ⟨xs,r1,r2,r3,r4⟩:=hok;refine ⟨xs,r1.kept hgrow ?_,r2,fun k c hc=>⟨(r3 k c hc).1,fun m q hq=>?_⟩,r4⟩
     ·cases hb:(ρ j).ownBlock with
      | none=>exact .inl rfl
      | some b =>
       refine .inr fun e'=>?_
       have hb2:yj (ρ j)=some b:=by
        rcases r1.2 with ⟨e,_⟩|⟨_,_,_,e,_⟩
        ·rw [e] at hb;simp [Value.ownBlock] at hb
        ·rw [e] at hb ⊢;simpa [yj,Value.ownBlock] using hb
       exact hblk rfl b hb2 e'.symm
     ·obtain ⟨v,v1,v2,v3⟩:=(r3 k c hc).2 m q hq;refine ⟨v,v1,v2,v3.free ?_⟩;have hcf:=Xa hfree k c hc;cases c <;> simp only [PV.cells] at hq <;> first
       | exact Xa hcf m q hq
       | (cases m with
          | zero=>simp at hq;subst hq;exact hcf
          | succ m=>simp at hq)
    | mrow t sz es =>
     obtain ⟨xs,r1,r2,r3,r4⟩:=hok;refine ⟨xs,r1.kept hgrow ?_,r2,fun k c hc=>⟨(r3 k c hc).1,fun m q hq=>?_⟩,r4⟩
     ·cases hb:(ρ j).ownBlock with
      | none=>exact .inl rfl
      | some b =>
       refine .inr fun e'=>?_
       have hb2:yj (ρ j)=some b:=by
        rcases r1.2 with ⟨e,_⟩|⟨_,_,_,e,_⟩
        ·rw [e] at hb;simp [Value.ownBlock] at hb
        ·rw [e] at hb ⊢;simpa [yj,Value.ownBlock] using hb
       exact hblk rfl b hb2 e'.symm
     ·obtain ⟨v,v1,v2,v3⟩:=(r3 k c hc).2 m q hq;refine ⟨v,v1,v2,v3.free ?_⟩;have hcf:=Xa hfree k c hc;cases c <;> simp only [PV.cells] at hq <;> first
       | exact Xa hcf m q hq
       | (cases m with
          | zero=>simp at hq;subst hq;exact hcf
          | succ m=>simp at hq)
    | dead=>trivial
    | pin v u=>exact ARel.free hsome hok hfree
    | obj X =>
     obtain ⟨b,ob,r1,r2,r3,r4,r5⟩:=hok;have hlt:b < w.heap.size:=(Array.getElem?_eq_some_iff.1 r3).1;have:=hblk rfl b (by rw [r1];rfl);exact ⟨b,ob,r1,r2,by rw [hgrow.block b hlt (Ne.symm this)];exact r3,r4,r5⟩
  ·intro j k e e' bb hjk hj hk' hlj hlk hbj hbk;have e1:∀ (j:Nat) (hh:HE),HEnv.get ((i,.row 3 1 ((sortL l).map pi))::H) j=some hh→hh.live=true→∃ h0,H.get j=some h0∧h0.live=true:=by
    intro j hh hj hl;rw [HEnv.get_cons] at hj;split at hj
    ·rename_i e';subst e';exact ⟨_,hi,rfl⟩
    ·exact ⟨hh,hj,hl⟩
   obtain ⟨a1,a2,a3⟩:=e1 j e hj hlj;obtain ⟨b1,b2,b3⟩:=e1 k e' hk' hlk;exact hf.heap.apart j k a1 b1 bb hjk a2 b2 a3 b3 hbj hbk
  ·rw [hd];refine Zo h1 hdt (fun t av ht=>?_) (.pv _ _ (.tup [] [] rfl zwy63));obtain ⟨v,v1,v2⟩:=he t av (hs t av ht);exact ⟨v,v1,v2.free hsome (zgB hfe t av ht)⟩
end
end Go.Cg
