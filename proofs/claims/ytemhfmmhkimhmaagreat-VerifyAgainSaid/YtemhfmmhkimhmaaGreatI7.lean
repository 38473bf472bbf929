/- A part of the walks by abstract values: no statement of its own. -/
import Derived.Shelf.Sort.Plain
import Derived.Shelf.Slices.In.SortNone
import Derived.Test.YtemhfmmhkimhmaaGreatProg
import Derived.Test.YtemhfmmhkimhmaaGreatI6
import Derived.KernelRfl
set_option linter.unusedVariables false
set_option linter.unusedSimpArgs false
namespace Go.Proofs
open Go.Shelf
def Tryz.lays189_ren:Go.Shelf.Ren:=⟨fun|189=>156|125=>210|257=>209|128=>242|129=>243|294=>233|295=>234|296=>235|297=>236|298=>237|299=>238|216=>239|300=>240|301=>241|328=>257|329=>258|330=>259|331=>260|332=>261|215=>262|343=>278|n=>n,fun|28=>53|3=>3|46=>198|0=>0|51=>218|53=>220|4=>4|183=>211|182=>210|131=>215|5=>5|9=>9|218=>224|222=>228|228=>241|229=>100|n=>n,fun|n=>n⟩
theorem Tryz.lays189:Go.Proofs.Lays.n189 Tryz.prog Tryz.lays189_ren:={
 mixed:=by kernel_rfl
 f125:=Tryz.func210.trans (congrArg some (by kernel_rfl))
 f128:=Tryz.func242.trans (congrArg some (by kernel_rfl))
 f129:=Tryz.func243.trans (congrArg some (by kernel_rfl))
 f189:=Tryz.func156.trans (congrArg some (by kernel_rfl))
 f215:=Tryz.func262.trans (congrArg some (by kernel_rfl))
 f216:=Tryz.func239.trans (congrArg some (by kernel_rfl))
 f257:=Tryz.func209.trans (congrArg some (by kernel_rfl))
 f294:=Tryz.func233.trans (congrArg some (by kernel_rfl))
 f295:=Tryz.func234.trans (congrArg some (by kernel_rfl))
 f296:=Tryz.func235.trans (congrArg some (by kernel_rfl))
 f297:=Tryz.func236.trans (congrArg some (by kernel_rfl))
 f298:=Tryz.func237.trans (congrArg some (by kernel_rfl))
 f299:=Tryz.func238.trans (congrArg some (by kernel_rfl))
 f300:=Tryz.func240.trans (congrArg some (by kernel_rfl))
 f301:=Tryz.func241.trans (congrArg some (by kernel_rfl))
 f328:=Tryz.func257.trans (congrArg some (by kernel_rfl))
 f329:=Tryz.func258.trans (congrArg some (by kernel_rfl))
 f330:=Tryz.func259.trans (congrArg some (by kernel_rfl))
 f331:=Tryz.func260.trans (congrArg some (by kernel_rfl))
 f332:=Tryz.func261.trans (congrArg some (by kernel_rfl))
 f343:=Tryz.func278.trans (congrArg some (by kernel_rfl))
 t0:=Tryz.underlying0
 a0:=Tryz.isAgg0
 z0:=Tryz.sizeOf0
 v0:=Tryz.zeroValue0
 t3:=Tryz.underlying3
 a3:=Tryz.isAgg3
 z3:=Tryz.sizeOf3
 v3:=Tryz.zeroValue3
 t4:=Tryz.underlying4
 a4:=Tryz.isAgg4
 z4:=Tryz.sizeOf4
 v4:=Tryz.zeroValue4
 t5:=Tryz.underlying5
 a5:=Tryz.isAgg5
 z5:=Tryz.sizeOf5
 v5:=Tryz.zeroValue5
 t9:=Tryz.underlying9
 a9:=Tryz.isAgg9
 z9:=Tryz.sizeOf9
 v9:=Tryz.zeroValue9
 t28:=Tryz.underlying53
 a28:=Tryz.isAgg53
 z28:=Tryz.sizeOf53
 v28:=Tryz.zeroValue53
 t46:=Tryz.underlying198
 a46:=Tryz.isAgg198
 z46:=Tryz.sizeOf198
 v46:=Tryz.zeroValue198
 t51:=Tryz.underlying218
 a51:=Tryz.isAgg218
 z51:=Tryz.sizeOf218
 v51:=Tryz.zeroValue218
 t53:=Tryz.underlying220
 a53:=Tryz.isAgg220
 z53:=Tryz.sizeOf220
 v53:=Tryz.zeroValue220
 t131:=Tryz.underlying215
 a131:=Tryz.isAgg215
 z131:=Tryz.sizeOf215
 v131:=Tryz.zeroValue215
 t182:=Tryz.underlying210
 a182:=Tryz.isAgg210
 z182:=Tryz.sizeOf210
 v182:=Tryz.zeroValue210
 t183:=Tryz.underlying211
 a183:=Tryz.isAgg211
 z183:=Tryz.sizeOf211
 v183:=Tryz.zeroValue211
 t218:=Tryz.underlying224
 a218:=Tryz.isAgg224
 z218:=Tryz.sizeOf224
 v218:=Tryz.zeroValue224
 t222:=Tryz.underlying228
 a222:=Tryz.isAgg228
 z222:=Tryz.sizeOf228
 v222:=Tryz.zeroValue228
 t228:=Tryz.underlying241
 a228:=Tryz.isAgg241
 z228:=Tryz.sizeOf241
 v228:=Tryz.zeroValue241
 t229:=Tryz.underlying100
 a229:=Tryz.isAgg100
 z229:=Tryz.sizeOf100
 v229:=Tryz.zeroValue100 }
open Go.Sort Go.RowKit in
theorem Tryz.slices_Sort_int (blk off cap:Nat) (zs:List Int) (w:World) (hH:Holds (Value.int .i64) w blk off zs.toArray) (hblk:blk < w.heap.size) (hsz:zs.length < 4611686018427387904) :
  Calls Tryz.prog 156 #[.slice (some ⟨blk,off,none⟩) zs.length cap] w fun e w' =>
   e=.returned (.tuple #[])/\∃ n os,w'=grow (putRow (Value.int .i64) (Sort.ahead w n) blk off (zs.mergeSort fun x y=>decide (x<=y)).toArray) os:=Any.slices_Sort_int Tryz.lays189 blk off cap zs w hH hblk hsz
open Go.RowKit Go.Sort in
theorem Tryz.slices_Sort_int_none (p:Option Addr) (cap:Nat) (w:World) :
  Calls Tryz.prog 156 #[.slice p 0 cap] w fun e w'=>e=.returned (.tuple #[])/\w'=w:=Any.slices_Sort_int_none Tryz.lays189 p cap w
end Go.Proofs
namespace Go.Cg
open Go.RowKit
def zfz (k j:Nat) (o:Oper):Oper:=if k<=j then { o with after:=o.after++((List.range j).map fun i=>(⟨i,.phase⟩:Edge)).toArray } else o
def zU (k:Nat):List Oper->Nat->List Oper
 | [],_=>[]
 | o::r,j=>zfz k j o::zU k r (j + 1)
theorem Vs (k:Nat):∀ (ops:List Oper) (m j:Nat),(zU k ops m)[j]?=(ops[j]?).map (zfz k (m + j))
 | [],m,j=>by simp [zU]
 | o::ops,m,j=>by
  cases j with
  | zero=>simp [zU]
  | succ j=>simp [zU,Vs k ops (m + 1) j,Nat.add_assoc,Nat.add_comm 1 j]
theorem VB (k:Nat):∀ (ops:List Oper) (m:Nat),(zU k ops m).length=ops.length
 | [],_=>rfl
 | o::ops,m=>by simp [zU,VB k ops (m + 1)]
theorem zjh {k j:Nat} {o:Oper} {i:Nat}:qm (zfz k j o) i=(qm o i||(decide (k<=j)&&decide (i < j))):=by
 unfold zfz;by_cases h:k<=j
 ·rw [if_pos h,Bool.eq_iff_iff];simp only [qm,Array.toList_append,List.any_append,Bool.or_eq_true,h,decide_true,Bool.true_and,decide_eq_true_eq];refine or_congr_right ?_;simp only [List.any_eq_true,List.mem_map,List.mem_range,Bool.and_eq_true,beq_iff_eq];constructor
  ·rintro ⟨_,⟨m,hm,rfl⟩,_,h2⟩;simp only at h2;omega
  ·intro hi;exact ⟨_,⟨i,hi,rfl⟩,rfl,rfl⟩
 ·rw [if_neg h];simp [h]
def implied (ops:List Oper):Nat->Nat->Nat->Bool
 | 0,_,_=>false
 | n + 1,j,i=>match ops[j]? with
  | none=>false
  | some o=>qm o i||o.after.toList.any fun e=>Region.binds .any e&&implied ops n e.on i
def Xz (ops:List Oper) (k:Nat):Bool:=(List.range ops.length).all fun j=>Nat.blt j k||(List.range j).all fun i=>implied ops ops.length j i
def ztY (ops:List Oper) (listed:Array Bool):Prop:=∀ j o,ops[j]?=some o->listed.getD j false=true->∀ i,qm o i=true->listed.getD i false=true
theorem zdu {ops:List Oper} {listed:Array Bool} (hc:ztY ops listed):∀ (n j i:Nat) (o:Oper),ops[j]?=some o->(∀ m,qm o m=true->listed.getD m false=true)->implied ops n j i=true->listed.getD i false=true
 | 0,_,_,_,_,_,h=>by simp [implied] at h
 | n + 1,j,i,o,ho,hall,h=>by
  simp only [implied,ho,Bool.or_eq_true] at h;rcases h with h|h
  ·exact hall i h
  ·obtain ⟨e,he,hb⟩:=List.any_eq_true.1 h;rw [Bool.and_eq_true] at hb;have hm:listed.getD e.on false=true:=hall e.on (List.any_eq_true.2 ⟨e,he,by simp [hb.1]⟩);cases hoe:ops[e.on]? with
   | none =>
    cases n with
    | zero=>simp [implied] at hb
    | succ n=>simp [implied,hoe] at hb
   | some o2=>exact zdu hc n e.on i o2 hoe (hc e.on o2 hoe hm) hb.2
section
variable {P:Program} {R:Exit->Act->World->Prop} {ops:List Oper} {k:Nat}
theorem zez (hok:Xz ops k=true) {listed:Array Bool} (hc:ztY ops listed) (j:Nat):j∈Region.ready .any (zU k ops 0).toArray listed↔j∈Region.ready .any ops.toArray listed:=by
 rw [qU,qU];constructor
 ·rintro ⟨o',ho',h1,h2⟩;rw [Vs] at ho';cases ho:ops[j]? with
  | none=>simp [ho] at ho'
  | some o =>
   simp [ho] at ho';subst ho';exact ⟨o,rfl,h1,fun i hi=>h2 i (by rw [zjh,hi];rfl)⟩
 ·rintro ⟨o,ho,h1,h2⟩;refine ⟨zfz k j o,by rw [Vs,ho];simp,h1,fun i hi=>?_⟩;rw [zjh,Bool.or_eq_true,Bool.and_eq_true,decide_eq_true_eq,decide_eq_true_eq] at hi;rcases hi with hi|⟨hk,hij⟩
  ·exact h2 i hi
  ·have hlt:=(List.getElem?_eq_some_iff.1 ho).1;have:=List.all_eq_true.1 hok j zwy80;rw [Bool.or_eq_true] at this;rcases this with h|h
   ·have:=Nat.le_of_ble_eq_true h;omega
   ·exact zdu hc _ j i o ho h2 (List.all_eq_true.1 h i (by simpa using hij))
theorem zlH (tmps:Array Value):yielded (zU k ops 0).toArray tmps=yielded ops.toArray tmps:=by
 funext j;unfold yielded;simp only [List.getElem?_toArray,Vs,Nat.zero_add];cases ops[j]? with
 | none=>rfl
 | some o =>
  by_cases hkj:k<=j
  ·simp [zfz,hkj]
  ·simp [zfz,hkj]
theorem zrF {j:Nat} {K:Act->World->Prop} {a:Act} {w:World} (h:wpOp P (zU k ops 0).toArray R j K a w):wpOp P ops.toArray R j K a w:=by
 unfold wpOp at h ⊢;rw [zlH] at h;simp only [List.getElem?_toArray,Vs,Nat.zero_add] at h ⊢;cases ho:ops[j]? with
 | none=>simpa [ho] using h
 | some o =>
  simp only [ho,Option.map_some] at h ⊢;unfold zfz at h;split at h <;> exact h
theorem zrh {listed:Array Bool} (hs:listed.size=ops.length) (hc:ztY ops listed) {j:Nat} (hj:j∈Region.ready .any ops.toArray listed):ztY ops (listed.setIfInBounds j true):=by
 obtain ⟨o,ho,h1,h2⟩:=qU.1 hj;have hlt:=(List.getElem?_eq_some_iff.1 ho).1;have up:∀ i,listed.getD i false=true->(listed.setIfInBounds j true).getD i false=true:=by
  intro i hi;by_cases e:i=j
  ·subst e;simp [Array.getD_eq_getD_getElem?,hs,hlt]
  ·rw [qA e];exact hi
 intro m om hom hlm i hi;by_cases e:m=j
 ·subst e;rw [ho] at hom;cases hom;exact up i (h2 i hi)
 ·rw [qA e] at hlm;exact up i (hc m om hom hlm i hi)
theorem zi4 (hok:Xz ops k=true):∀ (fuel:Nat) (listed:Array Bool) (a:Act) (w:World),listed.size=ops.length->ztY ops listed->wpAny P .any (zU k ops 0).toArray R fuel listed a w->wpAny P .any ops.toArray R fuel listed a w
 | 0,listed,a,w,hs,hc,h=>by
  refine ⟨?_,h.2⟩;rw [List.eq_nil_iff_forall_not_mem];intro j hj;have:=(zez hok hc j).2 hj;rw [h.1] at this;cases this
 | fuel + 1,listed,a,w,hs,hc,h=>by
  refine ⟨fun hn=>h.1 ?_,fun j hj=>?_⟩
  ·rw [List.eq_nil_iff_forall_not_mem];intro j hj;have:=(zez hok hc j).1 hj;rw [hn] at this;cases this
  ·have h1:=h.2 j ((zez hok hc j).2 hj);exact zrF (wpOp_mono (fun a w hh=>zi4 hok fuel _ a w (by simp [hs]) (zrh hs hc hj) hh) h1)
end
section
variable {P:Program} {n:Nat} {g:Base} {H:HEnv} {env:Env} {ops:List Oper}
theorem zk0 {R:Exit->Act->World->Prop} {k:Nat} (hok:Xz ops k=true) (a:Act) (w:World) (h:wpAny P .any (zU k ops 0).toArray R ops.length (Array.replicate ops.length false) a w):wpAny P .any ops.toArray R ops.length (Array.replicate ops.length false) a w :=
 zi4 hok _ _ _ _ zwy63 (fun j o ho hl=>by
  have hlt:=(List.getElem?_eq_some_iff.1 ho).1;simp [Array.getD_eq_getD_getElem?,hlt] at hl) h
theorem zv2 {QQ:QC} (L k:Nat) (_:ops.length=L) (hok:Xz ops k=true) (hB:QN (zU k ops 0) ((zU k ops 0).take k)=true) (hT:XJ (zU k ops 0) k=true) (hk:Nat.ble k (zU k ops 0).length=true)
  (h:AD P n g H (zU k ops 0) (fun env'=>AO P n g (zU k ops 0).toArray ((zU k ops 0).drop k) env' H (fun env' H'=>QQ .normal env' H')) ((zU k ops 0).take k) env):DR P n g ops env H QQ :=
 zsX k (VB k ops 0) (fun _=>zk0 hok) hB hT (Nat.le_of_ble_eq_true hk) (Xx (fun _ h=>zwC h) h)
theorem zZ {QQ:QC} {id:Nat} (L k:Nat) (hL:ops.length=L) (hok:Xz ops k=true) (hm:P.follows .mixedOrders=true) (hB:QN (zU k ops 0) ((zU k ops 0).take k)=true) (hT:XJ (zU k ops 0) k=true) (hk:Nat.ble k (zU k ops 0).length=true)
  (h:AD P n g H (zU k ops 0) (fun env'=>AO P n g (zU k ops 0).toArray ((zU k ops 0).drop k) env' H (fun env' H'=>QQ .normal env' H')) ((zU k ops 0).take k) env) (hnd:ZB ops=true:=by kernel_rfl):AW P n g (.region id ops.toArray true) env H QQ :=
 zfF hm (zv2 L k hL hok hB hT hk h) hnd
end
theorem zwI {listed:Array Bool} {j fuel:Nat} (hlt:j < listed.size) (hun:listed.getD j true=false) (hc:(listed.toList.filter (! ·)).length=fuel + 1):((listed.setIfInBounds j true).toList.filter (! ·)).length=fuel:=by
 have hlt':j < listed.toList.length:=by simpa using hlt
 have hjf:listed.toList[j]=false:=by
  rw [Array.getD_eq_getD_getElem?,Array.getElem?_eq_getElem hlt] at hun;simpa using hun
 have e1:listed.toList=listed.toList.take j++false::listed.toList.drop (j + 1):=by
  rw [<-hjf,List.getElem_cons_drop,List.take_append_drop]
 rw [Array.toList_setIfInBounds,List.set_eq_take_append_cons_drop,if_pos hlt'];rw [e1] at hc;simp only [List.filter_append,List.length_append,List.filter_cons,Bool.not_false,if_true,List.length_cons,Bool.not_true,Bool.false_eq_true,if_false] at hc ⊢;omega
section
variable {P:Program} {n:Nat} {g:Base} {K:KK} {w:World} {ρ:Nat->Value} {H:HEnv} {env:Env} {a:Act} {ops l:List Oper} {Q:Env->Prop}
end
section
variable {P:Program} {n:Nat} {g:Base} {K:KK} {w:World} {ρ:Nat->Value} {H:HEnv} {env:Env} {a:Act} {ops l:List Oper} {Q:Env->Prop}
end
end Go.Cg
