/- A part of the walks by abstract values: no statement of its own. -/
import Derived.Test.YtdngpcmllgnbjaaGreatE44
import Derived.Test.YtdngpcmllgnbjaaGreatE21
import Derived.Test.YtdngpcmllgnbjaaGreatE45
import Derived.Test.YtdngpcmllgnbjaaGreatE34
import Derived.Test.YtdngpcmllgnbjaaGreatE43
import Derived.Test.YtdngpcmllgnbjaaGreatE17
import Derived.Test.YtdngpcmllgnbjaaGreatE13
import Derived.Test.YtdngpcmllgnbjaaGreatE24
import Derived.Test.YtdngpcmllgnbjaaGreatE16
import Derived.Test.YtdngpcmllgnbjaaGreatE30
import Derived.Test.YtdngpcmllgnbjaaGreatE14
import Derived.Test.YtdngpcmllgnbjaaGreatE15
import Derived.Test.YtdngpcmllgnbjaaGreatE39
import Derived.Test.YtdngpcmllgnbjaaGreatE36
set_option linter.unusedVariables false
set_option linter.unusedSimpArgs false
namespace Go.Cg
open Go.Proofs
set_option maxHeartbeats 20000000
abbrev zgk (g:Img) (m:Me):List PV:=[.slc 4 (g.types.map qU) false,.slc 7 (g.fields.map ZI) false,.slc 12 (g.methods.map zG) false,pi g.entry,ps m.name,pi m.owner,pi m.flags,tys m.params,pi m.ret.kind,pi m.ret.index,pi m.ret.dims,pb m.ret.ref,tys m.locals,pi m.max,.slc 6 (m.code.map yR) false,.slc 10 (m.clauses.map ZJ) false]
theorem tHR {P:Prop} (h:P:=by repeat (first|exact zk|refine zi rfl ?_)):P:=h
theorem ztr (p1:Value) (e0 e:Int):DCall Tryz.prog 143 (lbH (pi e0) p1) [.box 1 0] (.panicking [{ v:=zhV e,recovered:=false }]) (.panicking [{ v:=zhV e,recovered:=true }]) (lbH (pi e) p1):=by
 refine QE Tryz.func143 rfl (by kernel_rfl) rfl (fun g K ρ w vs hds hf hv c₀ cs hu=>?_)
 obtain ⟨v1,rfl⟩:=List.length_eq_one_iff.1 hv.1
 have r1:=hv.2 0 _ v1 rfl rfl
 refine wpS_seq ?_
 refine wpS_region ?_
 have h1:=Ve (P:=Tryz.prog) (xt:=20) (v:=.int .i64 e) (w:=w) Tryz.underlying244
 simp [wpOpsS,go_sem,recoverD,hu,Tryz.ntmps143,Exit.thenS,zhV,h1]
 refine zeV (n:=10) (g:=g) (env:=[(0,.box 1 0),(1,.pv (pi e)),(2,.pv (pb true))]) (H:=lbH (pi e0) p1) (QQ:=zqR (lbH (pi e) p1)) ?_
  ⟨by simp,by rw [hds],K,ρ,hf,ZB (v:=v1) (by simp) r1 (ZB (v:=.int .i64 e) (by simp) (.pv _ _ (.base _ rfl)) (ZB (v:=.bool true) (by simp) (.pv _ _ (.base _ rfl)) zaC))⟩
  (fun ex a' w' env' H' hi hq=>⟨hq.1,hi.defers.trans hds,rfl,zfd hi hq.2⟩)
 repeat' (first|refine sK ?_|refine sC (fun _=>?_) (fun _=>?_)|fail)
 exact ⟨.inl rfl,tH⟩
abbrev zls (g:Img) (m:Me) (k:Int) (s:VS) (us:Nat→Value) (e:PV) (p1:Value):HEnv:=lbH e p1++(rnH g m k s++zJ us [10])
theorem zlE (g:Img) (m:Me) (k:Int) (s:VS) (us:Nat→Value) (e:PV) (p1:Value):DCall Tryz.prog 143 (zls g m k s us e p1) [.box 1 0] .returning .returning (zls g m k s us e p1):=by
 refine QE Tryz.func143 rfl (by kernel_rfl) rfl (fun g1 K ρ w vs hds hf hv c₀ cs hu=>?_)
 obtain ⟨v1,rfl⟩:=List.length_eq_one_iff.1 hv.1
 refine wpS_seq ?_
 refine wpS_region ?_
 have hz:=zhc (P:=Tryz.prog) (w:=w) (z:=.int .i64 0) zh (ty:=244) rfl
 have h1:=XZ (P:=Tryz.prog) (xt:=20) (w:=w) Tryz.underlying244 hz
 simp [wpOpsS,go_sem,recoverD,hu,Tryz.ntmps143,Exit.thenS,h1]
 refine zeV (n:=10) (g:=g1) (env:=[(2,.pv (pb false))]) (H:=zls g m k s us e p1) (QQ:=zqR (zls g m k s us e p1)) ?_
  ⟨by simp,by rw [hds],K,ρ,hf,ZB (v:=.bool false) (by simp) (.pv _ _ (.base _ rfl)) zaC⟩
  (fun ex a' w' env' H' hi hq=>⟨hq.1,hi.defers.trans hds,by cases c₀;simp_all,zfd hi hq.2⟩)
 repeat' (first|refine sK ?_|refine sC (fun _=>?_) (fun _=>?_)|fail)
 exact ⟨.inl rfl,tH⟩
theorem zpG {g:Img} {m:Me} {i t:Int} {l:List Ty} {n:Nat} {s s':VS} (h:LenV n s) (ht:toV g m i t l s=.ok s'):LenV n s':=by
 unfold toV at ht
 split at ht
 ·cases ht
 ·split at ht
  ·split at ht
   ·cases ht;exact ⟨h.st,h.kn⟩
   ·cases ht
  ·split at ht
   ·cases ht;exact ⟨by simp [qI,h.st],by simp [qI,h.kn]⟩
   ·split at ht
    ·cases ht;exact ⟨by simp [h.st],h.kn⟩
    ·cases ht
theorem zjf {m:Me} {i:Int} (h:zgo (yO m i)):zc9 (Vx m i)=false:=by
 unfold Vx
 rcases h with h|h|h <;> rw [h] <;> decide
theorem zgV {m:Me} {i t:Int} (h:m.clauses=[]):zcF m i t=false:=by rw [zcF,h];rfl
theorem zp9 {g:Img} {k:Int} {i:Nat} {s s':VS} (hL:zgo (yO (mAt g k) (i:Int))) (hcl:(mAt g k).clauses=[]) (hfr:∀ j,i < j→s.kn.getD j false=false) (h:zej g k i s=.ok s'):∀ j,i + 1 < j→s'.kn.getD j false=false:=by
 have hset:∀ (l:List Bool) (q j:Nat),q≠j→(l.set q true).getD j false=l.getD j false:=fun l q j hq=>by
  rw [List.getD_eq_getElem?_getD,List.getElem?_set_ne hq,←List.getD_eq_getElem?_getD]
 intro j hj
 unfold zej at h
 split at h
 ·cases h
 rw [zgb,zjf hL] at h
 cases hn:zbP (Vx (mAt g k) i)
 ·rw [hn] at h
  simp only [Bool.false_eq_true,if_false] at h
  cases h
  show (s.kn.set (i:Int).toNat true).getD j false=false
  rw [hset _ _ _ (by omega)];exact hfr j (by omega)
 ·rw [hn,if_pos rfl,toL (by omega) (by show (s.kn.set (i:Int).toNat true).getD _ false=false;rw [hset _ _ _ (by omega)];exact hfr _ (by omega)) (zgV hcl)] at h
  simp only [Bool.false_eq_true,if_false] at h
  cases h
  show ((s.kn.set (i:Int).toNat true).set ((i:Int) + 1).toNat true).getD j false=false
  rw [hset _ _ _ (by omega),hset _ _ _ (by omega)];exact hfr j (by omega)
def zvP:Except Int VS→Int
 | .ok _=>0
 | .error e=>e
def zvZ (g:Img) (m:Me) (k:Int) (us:Nat→Value):Except Int VS→HEnv
 | .ok s=>rnH g m k s++zJ us [10]
 | .error _=>[]
theorem zsz {g:Img} (hc:(yZ g).2=0) {k:Int} (hm:mOk g k) {s:VS} (hs:LenV (mAt g k).code.length s) (hok:OkV (mAt g k).code.length s) (hwk:0≤s.wk∧s.wk≤900000) (i:Nat) (hi:i < (mAt g k).code.length)
  (hon:onV (mAt g k) i=0) (hL:zgo (yO (mAt g k) (i:Int))) (hcl:(mAt g k).clauses=[]) (hfr:s.kn.getD (i + 1) false=false) (us:Nat→Value) :
  ACallM Tryz.prog 71 [.box 10 0,.pv (pi (i:Int))] (rnH g (mAt g k) k s++zJ us [10]) (.pv (pi (zvP (zej g k i s)))) (zvZ g (mAt g k) k us (zej g k i s)):=by
 have hF:=(YT (Vg hc).1).formed
 have hM:=(Xg hF hm).small
 have hit:((i:Nat):Int).toNat < (mAt g k).code.length:=by omega
 have cs:=zoB g hc hm (a:=i) (by omega) hit hL (zds s i) (by have:=zgD hok i;omega)
 have hW:s.wk + 1=IntKind.i64.wrap (s.wk + 1):=by rw [wrap_in (by omega) (by omega)]
 have hW0:0≤IntKind.i64.wrap (s.wk + 1)∧IntKind.i64.wrap (s.wk + 1)≤900001:=by rw [←hW];omega
 have hV:zej g k i s=match stepS g k i (zds s i) with
   | .error e=>.error e
   | .ok p=>zgb g (mAt g k) i p.2 ⟨s.st,s.kn.set i true,IntKind.i64.wrap (s.wk + 1)⟩:=by
  rw [zej,←hW];rfl
 have hnx:zbP (Vx (mAt g k) i)=true→(i:Int) + 1 < (mAt g k).code.length:=fun h=>by
  rw [onV,h] at hon
  apply Classical.byContradiction
  intro hn
  rw [decide_eq_false hn] at hon
  simp at hon
 have hpl:=zjf hL
 have hen:=fun t=>zgV (i:=(i:Int)) (t:=t) hcl
 have hei:((mAt g k).code.map yR)[((i:Nat):Int).toNat]?=some (yR (yO (mAt g k) i)):=by rw [yO,zM hit];exact yc hit
 have cw:=zm3 g (mAt g k) i (by omega) hit
 have cg:=goes_call (Vx (mAt g k) i)
 have h1:=hs.st
 have h2:=hs.kn
 have e1:(s.st.map tys)[i]?=some (tys (zds s i)):=by
  have:zds s i=s.st[i]'(by omega):=by rw [zds];exact zM (by omega)
  rw [this];exact yc (by omega)
 have e2:(s.kn.map pb)[i]?=some (pb (s.kn[i]'(by omega))):=yc (by omega)
 have l1:i < (s.st.map tys).length:=by rw [List.length_map];omega
 have l2:i < (s.kn.map pb).length:=by rw [List.length_map];omega
 have hb2:∀ p,stepS g k i (zds s i)=.ok p→p.2.length≤12:=fun p hp=>by
  have hb:=(zuE g (zax g (mAt g k)) (mAt g k) (yO (mAt g k) i) _ _ _ hp).1
  have hg:=zgD hok i
  rcases hb with hb|hb <;> omega
 have hnz:=fun e (h:stepS g k i (zds s i)=.error e)=>zpl h
 obtain ⟨s1,hs1⟩:∃ s1:VS,s1=⟨s.st,s.kn.set i true,IntKind.i64.wrap (s.wk + 1)⟩:=⟨_,rfl⟩
 generalize stepS g k i (zds s i)=r at cs hV hb2 hnz
 refine zoX zh Tryz.func71 rfl (by kernel_rfl) Tryz.ntmps71 (by simp) _ rfl ?_
 refine VL (VI fun gB=>?_)
 repeat' (first|refine qx zh 1 rfl rfl rfl rfl rfl rfl rfl ?_|refine sK ?_|refine sC (fun _=>?_) (fun _=>?_)|fail)
 refine zgr 1 2001 rfl rfl fun p1=>?_
 refine VL (zeP (k:=1) rfl rfl rfl rfl rfl fun gB=>?_)
 repeat' (first|refine sK ?_|refine sC (fun _=>?_) (fun _=>?_)|fail)
 refine ⟨_,_,[p1],rfl,⟨⟨2001,rfl⟩,trivial⟩,?_⟩
 refine VI fun gB=>?_
 cases r with
 | error e =>
  simp only at hV
  have he:=hnz e rfl
  have he0:(e==0)=false:=by simpa using he
  rw [hV]
  repeat' (first|refine zo rfl (zN (k:=i) (j:=0) zh rfl rfl rfl rfl e1 rfl) rfl rfl ?_|refine AD.step _ _ _ _ _ rfl (zN (k:=i) (j:=0) zh rfl rfl rfl rfl e1 rfl) rfl rfl ?_|refine yG 23 22 rfl (by kernel_rfl) (by kernel_rfl) (by kernel_rfl) (by kernel_rfl) (by kernel_rfl) ?_|refine zo rfl (zS (ps:=(zgk g (mAt g k))) zh rfl rfl rfl rfl rfl) rfl rfl ?_|refine AD.step _ _ _ _ _ rfl (zS (ps:=(zgk g (mAt g k))) zh rfl rfl rfl rfl rfl) rfl rfl ?_|refine zD 5 3 rfl rfl rfl ?_|refine zaE [] (lbH (pi e) p1) zq rfl rfl rfl (by repeat (first|exact zk|refine zi rfl ?_)) rfl (yN he0 e) ?_|(refine shC ?_;first|refine qC cs ?_)|(refine shX ?_;first|refine zo rfl (zK (k:=i) zh rfl rfl rfl rfl rfl rfl rfl rfl l1) rfl rfl ?_|refine AD.step _ _ _ _ _ rfl (zK (k:=i) zh rfl rfl rfl rfl rfl rfl rfl rfl l1) rfl rfl ?_|refine zo rfl (zK (k:=i) zh rfl rfl rfl rfl rfl rfl rfl rfl l2) rfl rfl ?_|refine AD.step _ _ _ _ _ rfl (zK (k:=i) zh rfl rfl rfl rfl rfl rfl rfl rfl l2) rfl rfl ?_)|(refine qA ?_;first|refine ZL (k:=i) (j:=0) zh rfl rfl rfl rfl rfl e2 rfl rfl rfl rfl rfl ?_)|refine sK ?_|refine sC (fun _=>?_) (fun _=>?_)|fail)
  exact ⟨_,_,_,[4],[.box 1 0],[p1],lbH (pi e) p1,lbH (pi e) p1,[pi e],rfl,rfl,tH,⟨⟨2001,rfl⟩,trivial⟩,⟨⟨2001,rfl⟩,trivial⟩,ztr p1 _ e,rfl,rfl,by decide,tS,rfl,rfl,⟨zk,rfl⟩⟩
 | ok p =>
  obtain ⟨⟨⟩,l⟩:=p
  have hl12:l.length≤1000:=by have:=hb2 _ rfl;simp only at this;omega
  have hl13:l.length≤12:=hb2 _ rfl
  simp only at hV
  have hs1:LenV (mAt g k).code.length ⟨s.st,s.kn.set i true,IntKind.i64.wrap (s.wk + 1)⟩:=⟨h1,by simp [h2]⟩
  have ok1:OkV (mAt g k).code.length ⟨s.st,s.kn.set i true,IntKind.i64.wrap (s.wk + 1)⟩:=⟨hok.len,hok.st⟩
  have ow1:0≤(⟨s.st,s.kn.set i true,IntKind.i64.wrap (s.wk + 1)⟩:VS).wk∧(⟨s.st,s.kn.set i true,IntKind.i64.wrap (s.wk + 1)⟩:VS).wk≤900001:=hW0
  have hwi:IntKind.i64.wrap ((i:Int) + 1)=(i:Int) + 1:=wrap_in (by omega) (by omega)
  rw [zgb] at hV
  repeat' (first|refine zo rfl (zN (k:=i) (j:=0) zh rfl rfl rfl rfl e1 rfl) rfl rfl ?_|refine AD.step _ _ _ _ _ rfl (zN (k:=i) (j:=0) zh rfl rfl rfl rfl e1 rfl) rfl rfl ?_|refine yG 23 22 rfl (by kernel_rfl) (by kernel_rfl) (by kernel_rfl) (by kernel_rfl) (by kernel_rfl) ?_|refine zo rfl (zS (ps:=(zgk g (mAt g k))) zh rfl rfl rfl rfl rfl) rfl rfl ?_|refine AD.step _ _ _ _ _ rfl (zS (ps:=(zgk g (mAt g k))) zh rfl rfl rfl rfl rfl) rfl rfl ?_|(refine shC ?_;first|refine qC cs ?_|refine qC (yC rfl 0) ?_|refine qC cw ?_|refine qC cg ?_)|(refine shX ?_;first|refine zo rfl (zK (k:=i) zh rfl rfl rfl rfl rfl rfl rfl rfl l1) rfl rfl ?_|refine AD.step _ _ _ _ _ rfl (zK (k:=i) zh rfl rfl rfl rfl rfl rfl rfl rfl l1) rfl rfl ?_|refine zo rfl (zK (k:=i) zh rfl rfl rfl rfl rfl rfl rfl rfl l2) rfl rfl ?_|refine AD.step _ _ _ _ _ rfl (zK (k:=i) zh rfl rfl rfl rfl rfl rfl rfl rfl l2) rfl rfl ?_)|(refine qA ?_;first|refine ZL (k:=i) (j:=0) zh rfl rfl rfl rfl rfl e2 rfl rfl rfl rfl rfl ?_)|refine sA ?_|fail)
  refine zg9 12 rfl (List.map_set ..).symm ?_
  generalize zbP (Vx (mAt g k) i)=nx at *
  rw [hpl] at hV
  rw [hpl]
  cases nx
  ·simp only [Bool.false_eq_true,if_false] at hV
   rw [hV]
   repeat' (first|refine sK ?_|refine sC (fun _=>?_) (fun _=>?_)|fail)
   exact ⟨_,_,_,[4],[.box 1 0],[p1],zls g (mAt g k) k (⟨s.st,s.kn.set i true,IntKind.i64.wrap (s.wk + 1)⟩) us (pi 0) p1,zls g (mAt g k) k (⟨s.st,s.kn.set i true,IntKind.i64.wrap (s.wk + 1)⟩) us (pi 0) p1,[pi 0],rfl,rfl,tH,⟨⟨2001,rfl⟩,trivial⟩,⟨⟨2001,rfl⟩,trivial⟩,zlE g (mAt g k) k _ us _ p1,rfl,rfl,by decide,tS,rfl,rfl,tH⟩
  ·simp only [if_true] at hV
   have hi1:=hnx rfl
   have hkn:(s.kn.set i true).getD ((i:Int) + 1).toNat false=false:=by rw [show ((i:Int) + 1).toNat=i + 1 by omega,List.getD_eq_getElem?_getD,List.getElem?_set_ne (by omega),←List.getD_eq_getElem?_getD];exact hfr
   have hti:¬ (i:Int) + 1≤i:=by omega
   have cN:∀ us,QU Tryz.prog 145 [.box 10 0,.pv (pi i),.pv (pi (IntKind.i64.wrap ((i:Int) + 1))),.pv (tys l)] (rnH g (mAt g k) k ⟨s.st,s.kn.set i true,IntKind.i64.wrap (s.wk + 1)⟩++zJ us [10]) (outT g (mAt g k) k us (toV g (mAt g k) i ((i:Int) + 1) l ⟨s.st,s.kn.set i true,IntKind.i64.wrap (s.wk + 1)⟩)) :=
    fun us=>by rw [hwi];exact ztB (mAt g k) k hs1 i _ ⟨ow1.1,by have:=ow1.2;omega⟩ (by omega) (by omega) l hl12 hti hkn (hen _) us
   have hn:=toL (g:=g) (l:=l) (s:=⟨s.st,s.kn.set i true,IntKind.i64.wrap (s.wk + 1)⟩) hti hkn (hen _)
   rw [hn] at hV cN
   generalize qI ((i:Int) + 1) l _=s2 at hV cN
   simp only at hV
   rw [hV]
   repeat' (first|refine zii (rnH g (mAt g k) k (⟨s.st,s.kn.set i true,IntKind.i64.wrap (s.wk + 1)⟩)) (rnH g (mAt g k) k (s2)) [(1,.cell (.pv (pi 0))),(2001,.pin (.box 1 0) p1),(1010,.pin (.own 10) (us 10))] [(0,.box 10 0),(1,.pv (pi i)),(4,.box 1 0),(5,.pv (tys l)),(6,.fn (.func 145) [.box 10 0] []),(8,.pv (pb false))] [10] zq rfl rfl rfl rfl tHR tS rfl rfl rfl (fun us=>cN us) ?_|refine sK ?_|refine sC (fun _=>?_) (fun _=>?_)|fail)
   exact ⟨_,_,_,[4],[.box 1 0],[p1],zls g (mAt g k) k (s2) us (pi 0) p1,zls g (mAt g k) k (s2) us (pi 0) p1,[pi 0],rfl,rfl,tH,⟨⟨2001,rfl⟩,trivial⟩,⟨⟨2001,rfl⟩,trivial⟩,zlE g (mAt g k) k _ us _ p1,rfl,rfl,by decide,tS,rfl,rfl,tH⟩
def zoz (r:Except (Int × Int) VS):PV:=match r with
 | .ok s=>.tup [.agg [.slc 1 (s.st.map tys) false,pi s.wk],pi 0,pi 0]
 | .error e=>.tup [.agg [.base (.slice none 0 0),pi 0],pi e.1,pi e.2]
abbrev mkB (g:Img) (m:Me):HEnv:=[(1,.cell (.pv (YR g m))),(0,.cell (.pv (.agg [.base (.slice none 0 0),pi 0])))]
abbrev mkS (n:Nat):Nat × HE:=(11,.mrow 65 1 (List.replicate n (.base (.slice none 0 0))))
abbrev mkK (n:Nat):Nat × HE:=(12,.mrow 4 1 (List.replicate n (pb false)))
theorem zkP (n:Nat):PCL (List.replicate n (.base (.slice none 0 0))) ((List.replicate n []).map tys):=by
 refine ⟨by simp,fun k c d hc hd=>?_⟩
 rw [List.map_replicate] at hd
 obtain rfl:=List.eq_of_mem_replicate (List.mem_of_getElem? hc)
 obtain rfl:=List.eq_of_mem_replicate (List.mem_of_getElem? hd)
 exact zQ (Qc 4 false) Xz
theorem zqc {g:Img} {m:Me} (h:(zcL g m).2=0) {i:Nat} (hi:i < m.code.length):onV m i=0:=by
 unfold zcL at h
 split at h
 ·rename_i j hj
  have:=List.find?_some hj
  simp at this
  exact absurd h this
 ·rename_i hj
  rw [List.find?_eq_none] at hj
  have:=hj i (List.mem_range.2 hi)
  simp only [bne_iff_ne,ne_eq,Decidable.not_not] at this
  unfold XT at this
  apply Classical.byContradiction
  intro hn
  rw [if_pos (by simpa using hn)] at this
  exact hn this
theorem zso {g:Img} {k i:Int} {n:Nat} {s s':VS} (h:LenV n s) (ht:zej g k i s=.ok s'):LenV n s':=by
 unfold zej at ht
 split at ht
 ·cases ht
 ·unfold zgb at ht
  split at ht
  ·cases ht
  ·rename_i s1 h1
   have k1:LenV n s1:=by
    split at h1
    ·exact zpG (show LenV n { s with kn:=s.kn.set i.toNat true,wk:=s.wk + 1 } from ⟨h.st,by simp [h.kn]⟩) h1
    ·cases h1;exact ⟨h.st,by simp [h.kn]⟩
   split at ht
   ·exact zpG k1 ht
   ·cases ht;exact k1
theorem zuF {g:Img} {m:Me} {i t:Int} {l:List Ty} {s:VS} {e:Int} (ht:toV g m i t l s=.error e):e≠0:=by
 unfold toV at ht
 split at ht
 ·cases ht;decide
 ·split at ht
  ·split at ht
   ·cases ht
   ·cases ht;decide
  ·split at ht
   ·cases ht
   ·split at ht
    ·cases ht
    ·rename_i h;cases ht;simpa using h
theorem zvh {g:Img} {k i:Int} {s:VS} {e:Int} (ht:zej g k i s=.error e):e≠0:=by
 unfold zej at ht
 split at ht
 ·rename_i h;cases ht;exact zpl h
 ·unfold zgb at ht
  split at ht
  ·rename_i h1
   cases ht
   split at h1
   ·exact zuF h1
   ·cases h1
  ·split at ht
   ·exact zuF ht
   ·cases ht
set_option maxHeartbeats 8000000 in
theorem zel {g:Img} (hc:(yZ g).2=0) {k:Int} (hm:mOk g k) (hcode:0 < (mAt g k).code.length) (hL:∀ i:Nat,i < (mAt g k).code.length→zgo (yO (mAt g k) (i:Int))) (hcx:(mAt g k).clauses=[]) (ha:(zcL g (mAt g k)).2=0):ACall Tryz.prog 30 [zx g,pi k,.ptr (zx g) 0] (zoz (zbl g k)):=by
 have hF:=(YT (Vg hc).1).formed
 have hM:=Xg hF hm
 have hs:=hM.small
 have cf:=zq1 hc hm
 have he:(g.methods.map zG)[k.toNat]?=some (zG (mAt g k)):=by rw [mAt,zM hm.2];exact yc hm.2
 have hk0:=hm.1
 have e0:((zcL g (mAt g k)).2 != 0)=false:=by simp [ha]
 have hV:zbl g k=goV g k (mAt g k).code.length 0 (za6 (mAt g k)):=by rw [zbl,e0,if_neg (by simp)]
 rw [hV]
 obtain ⟨n,hn⟩:∃ n,n=(mAt g k).code.length:=⟨_,rfl⟩
 have hnl:(((((mAt g k).code.map yR).length:Nat):Int))=((n:Nat):Int):=by rw [List.length_map,hn]
 have hs0:LenV n ⟨List.replicate n [],List.replicate n false,0⟩:=⟨by simp,by simp⟩
 have hst:za6 (mAt g k)=qI 0 [] ⟨List.replicate n [],List.replicate n false,0⟩:=by rw [za6,←hn,hcx];rfl
 have hso:=zsu (mAt g k)
 rw [←hn] at hso
 rw [←hn]
 have hfr0:∀ j,0 < j→(qI 0 [] ⟨List.replicate n [],List.replicate n false,0⟩:VS).kn.getD j false=false:=fun j hj=>by
  show ((List.replicate n false).set (0:Int).toNat true).getD j false=false
  rw [List.getD_eq_getElem?_getD,List.getElem?_set_ne (by show 0≠j;omega),List.getElem?_replicate]
  split <;> rfl
 refine zf zh Tryz.func30 rfl (by kernel_rfl) Tryz.ntmps30 (by simp) _ rfl (fun hw gB hgB=>?_)
 repeat' (first|refine ZW 1 7 0 zh rfl (by kernel_rfl) (by kernel_rfl) (by kernel_rfl) rfl rfl rfl rfl rfl rfl rfl rfl rfl rfl rfl rfl rfl rfl (fun _=>rfl) rfl rfl rfl ?_|refine ⟨_,_,rfl,rfl,rfl,?_⟩|refine zo rfl (zS (ps:=(zgk g (mAt g k))) zh rfl rfl rfl rfl rfl) rfl rfl ?_|refine AD.step _ _ _ _ _ rfl (zS (ps:=(zgk g (mAt g k))) zh rfl rfl rfl rfl rfl) rfl rfl ?_|refine zgY (id:=6) rfl ?_|(refine shC ?_;first|refine qC cf ?_)|(refine shX ?_;first|refine zo rfl (zl zh rfl rfl rfl rfl rfl rfl hk0 he) rfl rfl ?_|refine AD.step _ _ _ _ _ rfl (zl zh rfl rfl rfl rfl rfl rfl hk0 he) rfl rfl ?_)|refine sA ?_|fail)
 refine zfk 4 7 [0,1,2,3,4,5,6,7,8,9,10] [0,1,2,3,4,5,6,7,8,9,10] [0,1,2,6,7,3,4,5,8,9,10] [0,1,2,5,6,7,3,4,8,9,10] rfl (by kernel_rfl) (by kernel_rfl) (zfk 5 7 [0,1,2,3,4,5,6,7,8,9,10] [0,1,2,3,4,5,6,7,8,9,10] [0,1,2,3,4,6,7,5,8,9,10] [0,1,2,3,4,7,5,6,8,9,10] rfl (by kernel_rfl) (by kernel_rfl) (zhw (by kernel_rfl) ?_) (zhw (by kernel_rfl) ?_)) (zhw (by kernel_rfl) ?_)
 focus
  refine zab 11 8 [4,5,7] [] (mkL [mkB g (mAt g k),mkS n::mkB g (mAt g k),mkS n::mkB g (mAt g k),mkK n::mkS n::mkB g (mAt g k)]) (mkL [mkB g (mAt g k),mkS n::mkB g (mAt g k),mkS n::mkB g (mAt g k),mkK n::mkS n::mkB g (mAt g k)]) (mkB g (mAt g k)) none rfl (by kernel_rfl) (by kernel_rfl) (by kernel_rfl) (by kernel_rfl) (by kernel_rfl) (by kernel_rfl) (fun p hp=>by simp at hp) rfl (XO rfl ⟨tH,tH,tH,tH,trivial⟩) rfl (Zt rfl rfl) (fun q h=>Zt rfl rfl q 3 h (Nat.le_refl 3)) tH rfl (fun v hv=>by cases hv) ?_
  repeat' (first|refine qR 4 [0,2] (.own 11) rfl rfl rfl rfl rfl ?_|refine qR 0 [1] (.agg [.own 11,.pv (pi 0)]) rfl rfl rfl rfl rfl ?_|refine qR 1 [] (.own 12) rfl rfl rfl rfl rfl ?_|refine ⟨⟨rfl,QI (m:=n) (sz:=1) zh 11 rfl rfl rfl rfl hnl rfl rfl (by show 24 * _≤_;omega) (by simp [maxLen];omega) rfl rfl rfl,.inr (by kernel_rfl)⟩,?_⟩|refine ⟨⟨rfl,QI (m:=n) (sz:=1) zh 12 rfl rfl rfl rfl hnl rfl rfl (by show 1 * _≤_;omega) (by simp [maxLen];omega) rfl rfl rfl,.inr (by kernel_rfl)⟩,?_⟩|refine ⟨⟨rfl,zhS (Yi zh rfl ⟨_,rfl⟩ rfl rfl rfl rfl rfl rfl),.inr (by kernel_rfl)⟩,?_⟩|refine ZG ?_|intro _|refine YE ?_|refine zo rfl (Yi zh rfl ⟨_,rfl⟩ rfl rfl rfl rfl rfl rfl) rfl rfl ?_|refine zo rfl (zS (ps:=(zgk g (mAt g k))) zh rfl rfl rfl rfl rfl) rfl rfl ?_|refine AD.step _ _ _ _ _ rfl (zS (ps:=(zgk g (mAt g k))) zh rfl rfl rfl rfl rfl) rfl rfl ?_|refine zeH (es:=List.replicate n (.base (.slice none 0 0))) 11 rfl (zkP n) ?_|refine zg9 (es:=List.replicate n (pb false)) 12 rfl (List.map_replicate ..).symm ?_|(refine Zb ?_;first|refine Yt 10 rfl rfl rfl rfl rfl rfl ?_)|(refine zy ?_;first|(refine yx (rnH g (mAt g k) k ⟨List.replicate n [],List.replicate n false,0⟩) (rnH g (mAt g k) k (qI 0 [] ⟨List.replicate n [],List.replicate n false,0⟩)) [(0,.cell (.pv (.agg [.base (.slice none 0 0),pi 0])))] [(6,.box 0 0),(12,.pv (pi (((mAt g k).code.map yR).length:Nat))),(13,.box 10 0)] [10] zq rfl rfl rfl ?_ tS rfl rfl rfl (fun us=>zb6 g (mAt g k) k hs0 0 ⟨Int.le_refl 0,by show (0:Int).toNat < n;omega⟩ [] _ (Qc 4 false) us) ?_;· (repeat (first|exact zk|refine zi rfl ?_)))|(refine yx (rnH g (mAt g k) k (qI 0 [] ⟨List.replicate n [],List.replicate n false,0⟩)) (rnH g (mAt g k) k (qI 0 [] ⟨List.replicate n [],List.replicate n false,0⟩)) [(0,.cell (.pv (.agg [.base (.slice none 0 0),pi 0])))] [(6,.box 0 0),(12,.pv (pi (((mAt g k).code.map yR).length:Nat))),(13,.box 10 0)] [10] zq rfl rfl rfl ?_ tS rfl rfl rfl (fun us=>zae g (mAt g k) k _ hcx us) ?_;· (repeat (first|exact zk|refine zi rfl ?_))))|refine sK ?_|refine sC (fun _=>?_) (fun _=>?_)|fail)
 rotate_left
 focus
  refine zab 11 8 [4,6,7] [] (mkL [mkB g (mAt g k),mkS n::mkB g (mAt g k),mkK n::mkS n::mkB g (mAt g k),mkK n::mkS n::mkB g (mAt g k)]) (mkL [mkB g (mAt g k),mkS n::mkB g (mAt g k),mkK n::mkS n::mkB g (mAt g k),mkK n::mkS n::mkB g (mAt g k)]) (mkB g (mAt g k)) none rfl (by kernel_rfl) (by kernel_rfl) (by kernel_rfl) (by kernel_rfl) (by kernel_rfl) (by kernel_rfl) (fun p hp=>by simp at hp) rfl (XO rfl ⟨tH,tH,tH,tH,trivial⟩) rfl (Zt rfl rfl) (fun q h=>Zt rfl rfl q 3 h (Nat.le_refl 3)) tH rfl (fun v hv=>by cases hv) ?_
  repeat' (first|refine qR 4 [1,2] (.own 11) rfl rfl rfl rfl rfl ?_|refine qR 1 [0] (.own 12) rfl rfl rfl rfl rfl ?_|refine qR 0 [] (.agg [.own 11,.pv (pi 0)]) rfl rfl rfl rfl rfl ?_|refine ⟨⟨rfl,QI (m:=n) (sz:=1) zh 11 rfl rfl rfl rfl hnl rfl rfl (by show 24 * _≤_;omega) (by simp [maxLen];omega) rfl rfl rfl,.inr (by kernel_rfl)⟩,?_⟩|refine ⟨⟨rfl,QI (m:=n) (sz:=1) zh 12 rfl rfl rfl rfl hnl rfl rfl (by show 1 * _≤_;omega) (by simp [maxLen];omega) rfl rfl rfl,.inr (by kernel_rfl)⟩,?_⟩|refine ⟨⟨rfl,zhS (Yi zh rfl ⟨_,rfl⟩ rfl rfl rfl rfl rfl rfl),.inr (by kernel_rfl)⟩,?_⟩|refine ZG ?_|intro _|refine YE ?_|refine zo rfl (Yi zh rfl ⟨_,rfl⟩ rfl rfl rfl rfl rfl rfl) rfl rfl ?_|refine zo rfl (zS (ps:=(zgk g (mAt g k))) zh rfl rfl rfl rfl rfl) rfl rfl ?_|refine AD.step _ _ _ _ _ rfl (zS (ps:=(zgk g (mAt g k))) zh rfl rfl rfl rfl rfl) rfl rfl ?_|refine zeH (es:=List.replicate n (.base (.slice none 0 0))) 11 rfl (zkP n) ?_|refine zg9 (es:=List.replicate n (pb false)) 12 rfl (List.map_replicate ..).symm ?_|(refine Zb ?_;first|refine Yt 10 rfl rfl rfl rfl rfl rfl ?_)|(refine zy ?_;first|(refine yx (rnH g (mAt g k) k ⟨List.replicate n [],List.replicate n false,0⟩) (rnH g (mAt g k) k (qI 0 [] ⟨List.replicate n [],List.replicate n false,0⟩)) [(0,.cell (.pv (.agg [.base (.slice none 0 0),pi 0])))] [(6,.box 0 0),(12,.pv (pi (((mAt g k).code.map yR).length:Nat))),(13,.box 10 0)] [10] zq rfl rfl rfl ?_ tS rfl rfl rfl (fun us=>zb6 g (mAt g k) k hs0 0 ⟨Int.le_refl 0,by show (0:Int).toNat < n;omega⟩ [] _ (Qc 4 false) us) ?_;· (repeat (first|exact zk|refine zi rfl ?_)))|(refine yx (rnH g (mAt g k) k (qI 0 [] ⟨List.replicate n [],List.replicate n false,0⟩)) (rnH g (mAt g k) k (qI 0 [] ⟨List.replicate n [],List.replicate n false,0⟩)) [(0,.cell (.pv (.agg [.base (.slice none 0 0),pi 0])))] [(6,.box 0 0),(12,.pv (pi (((mAt g k).code.map yR).length:Nat))),(13,.box 10 0)] [10] zq rfl rfl rfl ?_ tS rfl rfl rfl (fun us=>zae g (mAt g k) k _ hcx us) ?_;· (repeat (first|exact zk|refine zi rfl ?_))))|refine sK ?_|refine sC (fun _=>?_) (fun _=>?_)|fail)
 rotate_left
 focus
  refine zab 11 8 [4,6,7] [] (mkL [mkB g (mAt g k),mkK n::mkB g (mAt g k),mkS n::mkK n::mkB g (mAt g k),mkS n::mkK n::mkB g (mAt g k)]) (mkL [mkB g (mAt g k),mkK n::mkB g (mAt g k),mkS n::mkK n::mkB g (mAt g k),mkS n::mkK n::mkB g (mAt g k)]) (mkB g (mAt g k)) none rfl (by kernel_rfl) (by kernel_rfl) (by kernel_rfl) (by kernel_rfl) (by kernel_rfl) (by kernel_rfl) (fun p hp=>by simp at hp) rfl (XO rfl ⟨tH,tH,tH,tH,trivial⟩) rfl (Zt rfl rfl) (fun q h=>Zt rfl rfl q 3 h (Nat.le_refl 3)) tH rfl (fun v hv=>by cases hv) ?_
  repeat' (first|refine qR 4 [1,2] (.own 12) rfl rfl rfl rfl rfl ?_|refine qR 1 [0] (.own 11) rfl rfl rfl rfl rfl ?_|refine qR 0 [] (.agg [.own 11,.pv (pi 0)]) rfl rfl rfl rfl rfl ?_|refine ⟨⟨rfl,QI (m:=n) (sz:=1) zh 11 rfl rfl rfl rfl hnl rfl rfl (by show 24 * _≤_;omega) (by simp [maxLen];omega) rfl rfl rfl,.inr (by kernel_rfl)⟩,?_⟩|refine ⟨⟨rfl,QI (m:=n) (sz:=1) zh 12 rfl rfl rfl rfl hnl rfl rfl (by show 1 * _≤_;omega) (by simp [maxLen];omega) rfl rfl rfl,.inr (by kernel_rfl)⟩,?_⟩|refine ⟨⟨rfl,zhS (Yi zh rfl ⟨_,rfl⟩ rfl rfl rfl rfl rfl rfl),.inr (by kernel_rfl)⟩,?_⟩|refine ZG ?_|intro _|refine YE ?_|refine zo rfl (Yi zh rfl ⟨_,rfl⟩ rfl rfl rfl rfl rfl rfl) rfl rfl ?_|refine zo rfl (zS (ps:=(zgk g (mAt g k))) zh rfl rfl rfl rfl rfl) rfl rfl ?_|refine AD.step _ _ _ _ _ rfl (zS (ps:=(zgk g (mAt g k))) zh rfl rfl rfl rfl rfl) rfl rfl ?_|refine zeH (es:=List.replicate n (.base (.slice none 0 0))) 11 rfl (zkP n) ?_|refine zg9 (es:=List.replicate n (pb false)) 12 rfl (List.map_replicate ..).symm ?_|(refine Zb ?_;first|refine Yt 10 rfl rfl rfl rfl rfl rfl ?_)|(refine zy ?_;first|(refine yx (rnH g (mAt g k) k ⟨List.replicate n [],List.replicate n false,0⟩) (rnH g (mAt g k) k (qI 0 [] ⟨List.replicate n [],List.replicate n false,0⟩)) [(0,.cell (.pv (.agg [.base (.slice none 0 0),pi 0])))] [(6,.box 0 0),(12,.pv (pi (((mAt g k).code.map yR).length:Nat))),(13,.box 10 0)] [10] zq rfl rfl rfl ?_ tS rfl rfl rfl (fun us=>zb6 g (mAt g k) k hs0 0 ⟨Int.le_refl 0,by show (0:Int).toNat < n;omega⟩ [] _ (Qc 4 false) us) ?_;· (repeat (first|exact zk|refine zi rfl ?_)))|(refine yx (rnH g (mAt g k) k (qI 0 [] ⟨List.replicate n [],List.replicate n false,0⟩)) (rnH g (mAt g k) k (qI 0 [] ⟨List.replicate n [],List.replicate n false,0⟩)) [(0,.cell (.pv (.agg [.base (.slice none 0 0),pi 0])))] [(6,.box 0 0),(12,.pv (pi (((mAt g k).code.map yR).length:Nat))),(13,.box 10 0)] [10] zq rfl rfl rfl ?_ tS rfl rfl rfl (fun us=>zae g (mAt g k) k _ hcx us) ?_;· (repeat (first|exact zk|refine zi rfl ?_))))|refine sK ?_|refine sC (fun _=>?_) (fun _=>?_)|fail)
 rotate_left
 all_goals
  refine zB (fun x:Nat × VS=>[(6,.box 0 0),(13,.box 10 0),(51,.pv (pi (((mAt g k).code.map yR).length:Nat))),(52,.pv (pi x.1))]) (fun x=>rnH g (mAt g k) k x.2++[(0,.cell (.pv (.agg [.base (.slice none 0 0),pi 0])))]) (fun x=>x.1≤n∧goV g k (n - x.1) x.1 x.2=goV g k n 0 (za6 (mAt g k))∧LenV n x.2∧OkV n x.2∧0≤x.2.wk∧x.2.wk≤27 * (x.1:Int)∧∀ j,x.1 < j→x.2.kn.getD j false=false) (fun x=>n - x.1) (0,qI 0 [] ⟨List.replicate n [],List.replicate n false,0⟩)
   ⟨by omega,by rw [←hst];rfl,zoo hs0 0 [],by rw [←hst];exact hso.1,by rw [←hst,hso.2];exact Int.le_refl 0,by rw [←hst,hso.2];exact Int.le_refl 0,hfr0⟩ tS tH ?_
  rintro ⟨i,s⟩ ⟨hin,hgo,hl,hok,w0,w1,hfr⟩
  dsimp only at hin hgo hl hok w0 w1 hfr ⊢
  by_cases hlt:i < n
  ·have hd:decide (((i:Nat):Int) < (((mAt g k).code.map yR).length:Nat))=true:=decide_eq_true (by rw [hnl];omega)
   have c1:=fun us=>zsz hc hm (s:=s) (by rw [←hn];exact hl) (by rw [←hn];exact hok) ⟨w0,by omega⟩ i (by omega) (zqc ha (by omega)) (hL i (by omega)) hcx (hfr _ (by omega)) us
   rw [show n - i=(n - (i + 1)) + 1 by omega,goV] at hgo
   cases hr:zej g k i s with
   | ok s' =>
    rw [hr] at hgo
    have ho:=zuT hs.2.2.2.2.2 hok hr
    repeat' (first|(refine zy ?_;first|(refine yx (rnH g (mAt g k) k s) (rnH g (mAt g k) k s') [(0,.cell (.pv (.agg [.base (.slice none 0 0),pi 0])))] [(6,.box 0 0),(13,.box 10 0),(51,.pv (pi (((mAt g k).code.map yR).length:Nat))),(52,.pv (pi i))] [10] zq rfl rfl rfl ?_ tS rfl rfl rfl (fun us=>by have h:=c1 us;rw [hr] at h;exact h) ?_;· (repeat (first|exact zk|refine zi rfl ?_))))|refine sK ?_|refine sC (fun _=>?_) (fun _=>?_)|fail)
    exact ⟨(i + 1,s'),⟨hlt,hgo,zso hl hr,ho.1,by have:=ho.2.1;show 0≤s'.wk;omega,by have:=ho.2.2;show s'.wk≤27 * ((i + 1:Nat):Int);omega,zp9 (hL i (by omega)) hcx hfr hr⟩,tD,tS,tH⟩
   | error e =>
    rw [hr] at hgo
    have hnz:(e != 0)=true:=by simpa using zvh hr
    repeat' (first|(refine zy ?_;first|(refine yx (rnH g (mAt g k) k s) ([]) [(0,.cell (.pv (.agg [.base (.slice none 0 0),pi 0])))] [(6,.box 0 0),(14,.pv (pi i))] [] zq rfl rfl rfl ?_ tS rfl rfl rfl (fun _=>zml [10] rfl fun us=>by have h:=c1 us;rw [hr] at h;exact h) ?_;· (repeat (first|exact zk|refine zi rfl ?_))))|refine sK ?_|refine sC (fun _=>?_) (fun _=>?_)|fail)
    exact retq rfl (by rw [←hgo];rfl)
  ·have hd:decide (((i:Nat):Int) < (((mAt g k).code.map yR).length:Nat))=false:=decide_eq_false (by rw [hnl];omega)
   have hgo2:goV g k n 0 (za6 (mAt g k))=.ok s:=by rw [←hgo,show n - i=0 by omega];rfl
   repeat' (first|refine Qx 11 rfl ?_|refine YM 10 11 18 rfl rfl rfl ?_|refine zo rfl (zS (ps:=[.slc 1 (s.st.map tys) false,pi s.wk]) zh rfl rfl rfl rfl rfl) rfl rfl ?_|refine AD.step _ _ _ _ _ rfl (zS (ps:=[.slc 1 (s.st.map tys) false,pi s.wk]) zh rfl rfl rfl rfl rfl) rfl rfl ?_|refine sK ?_|refine sC (fun _=>?_) (fun _=>?_)|fail)
   exact retq rfl (by rw [hgo2];rfl)
set_option maxHeartbeats 20000000
theorem zlh (g:Img) (hx:OkA g) (hc:((yZ g).2==0)=false):ACall Tryz.prog 28 [zx g] (.base (.pointer none)):=by
 have c1:=zbC g hx
 rw [zjG] at c1
 have hc2:((yZ g).2 != 0)=true:=by rw [bne,hc];rfl
 generalize (yZ g).2=e at c1 hc hc2
 refine zf zh Tryz.func28 rfl (by kernel_rfl) Tryz.ntmps28 (by simp) _ rfl (fun hw gB hgB=>?_)
 repeat' (first|(refine shC ?_;first|refine qC c1 ?_)|refine sK ?_|refine sC (fun _=>?_) (fun _=>?_)|fail)
 exact retq rfl rfl
def zbW (g:Img) (m:Int):Except (Int × Int) VS:=if zg2 g&&zeK g m then zbl g m else .error (0,17)
theorem zmf (g:Img) (hx:OkA g) (hL:∀ y∈g.methods,∀ x∈y.code,zgo x) (hcx:∀ y∈g.methods,y.clauses=[]) (m:Int) (ha:(zcL g (mAt g m)).2=0):ACall Tryz.prog 8 [zx g,pi m] (zoz (zbW g m)):=by
 have c2:ACall Tryz.prog 29 [zx g,pi m] (pb (zeK g m)):=zhQ g m
 cases hwl:zg2 g
 ·have hV:zbW g m=.error (0,17):=by rw [zbW,hwl];rfl
  have c1:=zlh g hx hwl
  rw [hV]
  refine zf zh Tryz.func8 rfl (by kernel_rfl) Tryz.ntmps8 (by simp) _ rfl (fun hw gB hgB=>?_)
  repeat' (first|refine zo rfl (yI (b:=true) rfl Tryz.underlying71 rfl rfl) rfl rfl ?_|refine AD.step _ _ _ _ _ rfl (yI (b:=true) rfl Tryz.underlying71 rfl rfl) rfl rfl ?_|(refine shC ?_;first|refine qC c1 ?_)|refine sK ?_|refine sC (fun _=>?_) (fun _=>?_)|fail)
  exact retq rfl rfl
 ·have hc:(yZ g).2=0:=by simpa [zg2] using hwl
  have c1:=zd8 g hx hc
  cases hk:zeK g m
  ·rw [hk] at c2
   have hV:zbW g m=.error (0,17):=by rw [zbW,hwl,hk];rfl
   rw [hV]
   refine zf zh Tryz.func8 rfl (by kernel_rfl) Tryz.ntmps8 (by simp) _ rfl (fun hw gB hgB=>?_)
   repeat' (first|refine zo rfl (yI (b:=false) rfl Tryz.underlying71 rfl rfl) rfl rfl ?_|refine AD.step _ _ _ _ _ rfl (yI (b:=false) rfl Tryz.underlying71 rfl rfl) rfl rfl ?_|(refine shC ?_;first|refine qC c1 ?_|refine qC c2 ?_)|refine sK ?_|refine sC (fun _=>?_) (fun _=>?_)|fail)
   exact retq rfl rfl
  ·rw [hk] at c2
   have hV:zbW g m=zbl g m:=by rw [zbW,hwl,hk];rfl
   have hk2:=hk
   simp only [zeK,Bool.and_eq_true,decide_eq_true_eq] at hk2
   have hm:mOk g m:=⟨hk2.1.1,by omega⟩
   have hl2:∀ i:Nat,i < (mAt g m).code.length→zgo (yO (mAt g m) (i:Int)):=fun i hi=>by
    have h2:((i:Nat):Int).toNat < (mAt g m).code.length:=by omega
    refine hL (mAt g m) (by rw [mAt,zM hm.2];exact List.getElem_mem hm.2) _ ?_
    rw [yO,zM h2];exact List.getElem_mem h2
   have c3:=zel hc hm hk2.2 hl2 (hcx _ (by rw [mAt,zM hm.2];exact List.getElem_mem hm.2)) ha
   rw [hV]
   generalize zbl g m=r at c3 ⊢
   cases r with
   | ok s =>
    refine zf zh Tryz.func8 rfl (by kernel_rfl) Tryz.ntmps8 (by simp) _ rfl (fun hw gB hgB=>?_)
    repeat' (first|refine zo rfl (yI (b:=false) rfl Tryz.underlying71 rfl rfl) rfl rfl ?_|refine AD.step _ _ _ _ _ rfl (yI (b:=false) rfl Tryz.underlying71 rfl rfl) rfl rfl ?_|(refine shC ?_;first|refine qC c1 ?_|refine qC c2 ?_|refine qC c3 ?_)|refine sK ?_|refine sC (fun _=>?_) (fun _=>?_)|fail)
    exact retq rfl rfl
   | error e =>
    refine zf zh Tryz.func8 rfl (by kernel_rfl) Tryz.ntmps8 (by simp) _ rfl (fun hw gB hgB=>?_)
    repeat' (first|refine zo rfl (yI (b:=false) rfl Tryz.underlying71 rfl rfl) rfl rfl ?_|refine AD.step _ _ _ _ _ rfl (yI (b:=false) rfl Tryz.underlying71 rfl rfl) rfl rfl ?_|(refine shC ?_;first|refine qC c1 ?_|refine qC c2 ?_|refine qC c3 ?_)|refine sK ?_|refine sC (fun _=>?_) (fun _=>?_)|fail)
    exact retq rfl rfl
abbrev codeS:List Ins:=[⟨8,7,⟨0,0,0,false⟩⟩,⟨46,0,⟨0,0,0,false⟩⟩]
abbrev meS:Me:=⟨⟨#[109]⟩,0,1,[],⟨2,0,0,false⟩,[],1,codeS,[]⟩
def gS:Img:=⟨[⟨⟨#[65]⟩,0,-1,[]⟩],[],[meS],0⟩
theorem zpy:gS.methods=[meS]:=rfl
theorem zna:(yZ gS).2=0:=by
 have h1:Yo gS=true:=by decide +kernel
 have h2:ZH gS=true:=by decide +kernel
 have h3:∀ j,j < gS.types.length→YF gS j=false:=by
  intro j hj
  have:j=0:=by have:gS.types.length=1:=rfl;omega
  subst this;decide +kernel
 rw [yZ,show Qi gS=true by rw [Qi,zc4 h1 h2 h3];rfl]
 show (stM gS (List.range gS.methods.length)).2=0
 decide +kernel
theorem zj6:Qi gS=true:=by
 have h1:Yo gS=true:=by decide +kernel
 have h2:ZH gS=true:=by decide +kernel
 have h3:∀ j,j < gS.types.length→YF gS j=false:=by
  intro j hj
  have:j=0:=by have:gS.types.length=1:=rfl;omega
  subst this;decide +kernel
 rw [Qi,zc4 h1 h2 h3];rfl
theorem zpp:OkA gS:=by
 intro m hm x hx
 have hm2:m=meS:=by simpa [zpy] using hm
 rw [hm2] at hx
 simp at hx
 rcases hx with rfl|rfl <;> exact ⟨by decide,by decide⟩
theorem zrI:∀ y∈gS.methods,∀ x∈y.code,zgo x:=by
 intro m hm x hx
 have hm2:m=meS:=by simpa [zpy] using hm
 rw [hm2] at hx
 simp at hx
 rcases hx with rfl|rfl <;> simp [zgo]
theorem zu9:∀ y∈gS.methods,y.clauses=[]:=by
 intro m hm
 have hm2:m=meS:=by simpa [zpy] using hm
 rw [hm2]
theorem zut:(zcL gS (mAt gS 0)).2=0:=by decide +kernel
theorem zpo:zbW gS 0=.ok ⟨[[],[⟨2,0,0,false⟩]],[true,true],4⟩:=by
 rw [zbW,show zg2 gS=true by rw [zg2,zna];rfl];rfl
theorem zjM:ACall Tryz.prog 8 [zx gS,pi 0] (zoz (zbW gS 0)):=zmf gS zpp zrI zu9 0 zut
theorem zvl:mOk gS 0:=⟨Int.le_refl 0,by show (0:Int).toNat < 1;decide⟩
theorem zvO:zbl gS 0=.ok ⟨[[],[⟨2,0,0,false⟩]],[true,true],4⟩:=by
 have h:=zpo
 rw [zbW,show zg2 gS=true by rw [zg2,zna];rfl] at h
 exact h
theorem zsl:mAt gS 0=meS:=rfl
theorem zvM:∀ i:Nat,i < (mAt gS 0).code.length→zgo (yO (mAt gS 0) (i:Int)):=by
 rw [zsl]
 intro i hi
 have h2:((i:Nat):Int).toNat < meS.code.length:=by rw [Int.toNat_natCast];exact hi
 refine zrI meS (by rw [zpy];exact List.mem_singleton.2 rfl) _ ?_
 rw [yO,zM h2];exact List.getElem_mem h2
theorem zvU:0 < (mAt gS 0).code.length:=by rw [zsl];exact Nat.zero_lt_succ _
theorem zvL:(mAt gS 0).clauses=[]:=by rw [zsl]
theorem zv1:zeK gS 0=true:=by decide +kernel
set_option maxHeartbeats 1000000 in
theorem zsp:ACall Tryz.prog 222 [zx gS] (.tup [.agg [pi 0,pi 0],pi 0]):=by
 have c1:=zd8 gS zpp zna
 have c2:ACall Tryz.prog 29 [zx gS,pi 0] (pb (zeK gS 0)):=zhQ gS 0
 rw [zv1] at c2
 have c3:=zel zna zvl zvU zvM zvL zut
 rw [zvO] at c3
 refine zf zh Tryz.func222 rfl (by kernel_rfl) Tryz.ntmps222 (by simp) _ rfl (fun hw gB hgB=>?_)
 repeat' (first|refine zo rfl (yI (b:=false) rfl Tryz.underlying71 rfl rfl) rfl rfl ?_|refine AD.step _ _ _ _ _ rfl (yI (b:=false) rfl Tryz.underlying71 rfl rfl) rfl rfl ?_|refine zaA 2 ?_|refine zh9 ?_|(refine shC ?_;first|refine qC c1 ?_|refine qC c2 ?_|refine qC c3 ?_)|refine sK ?_|refine sC (fun _=>?_) (fun _=>?_)|fail)
 exact retq rfl rfl
set_option maxHeartbeats 20000000
theorem Vp {P:Program} {n:Nat} {F:Fam} {c:Code} {env:Env} {H:HEnv} {QQ:QC} (env2:Env) (H2:HEnv) (hs:Sub env env2) (hH:Ye H H2 env2) (k:AW3 P n F c env2 H2 QQ):AW3 P n F c env H QQ :=
 ⟨fun g Ds hm a w hi d hd=>k.go g Ds hm a w ((hi.sub hs).hsub hH) d hd⟩
theorem zgg (u:Value):ACall Tryz.prog 223 [.base u,yK ze9] (pi 1):=by
 refine zf zh Tryz.func223 rfl (by kernel_rfl) Tryz.ntmps223 (by simp) _ rfl (fun hw gB hgB=>?_)
 repeat' (first|refine sK ?_|refine sC (fun _=>?_) (fun _=>?_)|fail)
 exact retq rfl rfl
theorem zng:ACall Tryz.prog 88 [zx gS,pi 0] (.tup [.agg [.slc 1 [] false,.slc 1 [] false,pi 0],pi 0]) :=
 zn3 gS zpp 0 zna (YT zj6) zvl (by intro t ht;cases ht) (by intro t ht;cases ht)
theorem zoF:ACall Tryz.prog 78 [zx gS,zG meS] (tys []):=zco gS meS (by decide)
abbrev yt:PV:=.base (.slice none 0 0)
abbrev wdS:PV:=.slc 1 [yt,.slc 1 [pb false] false] false
abbrev plS:PV:=.slc 2 [.agg [yt,pb false],.agg [.slc 1 [pi 1] false,pb false]] false
abbrev mdS:PV:=.agg ((zG meS).cells++[.slc 1 [] false,.slc 1 [] false,pi 0,pi 0,pi 1,plS,wdS])
abbrev prC (ms:AV):AV:=.agg [.pv (.slc 4 (gS.types.map qU) false),.pv (.slc 7 (gS.fields.map ZI) false),.pv (.slc 12 (gS.methods.map zG) false),.pv (pi gS.entry),ms,.pv yt,.pv yt,.any,.any]
theorem zrK {a b c d e f h x y:AV}:Tells (.agg [a,b,c,d,e,f,h,x,y]) (.agg [a,b,c,d,e,f,h,.any,.any]):=by
 intro K w ρ H v hh
 cases hh with
 | agg _ vs h1 h2 h3 =>
  refine .agg _ vs h1 h2 fun k c v hc hv=>?_
  match k,hc with
  | 0,hc=>exact h3 0 _ v hc hv
  | 1,hc=>exact h3 1 _ v hc hv
  | 2,hc=>exact h3 2 _ v hc hv
  | 3,hc=>exact h3 3 _ v hc hv
  | 4,hc=>exact h3 4 _ v hc hv
  | 5,hc=>exact h3 5 _ v hc hv
  | 6,hc=>exact h3 6 _ v hc hv
  | 7,hc=>cases hc;exact .any v
  | 8,hc=>cases hc;exact .any v
  | k + 9,hc=>simp at hc
abbrev hC (u:Value) (ms:AV):HEnv:=[(0,.cell (.pv (.agg [pi 0,pi 0]))),(1,.cell (.pv (.fn (.func 223) [.base u] []))),(60,.cell (prC ms)),(160,.pin (.box 60 0) u)]
abbrev stS:List (List Ty):=[[],[ze9]]
abbrev xcA (pl wd:AV):AV:=.agg (((zG meS).cells++[.slc 1 [] false,.slc 1 [] false,pi 0,pi 0,pi 1]).map .pv++[pl,wd])
abbrev eC (e:Env):Env:=e++[(1,.pv (.ptr (zx gS) 0)),(3,.box 0 0),(7,.box 60 0),(8,.box 1 0),(77,.pv (.slc 12 (gS.methods.map zG) false)),(78,.pv (pi 1)),(79,.pv (pi 0)),(11,.pv (pi 0)),(12,.box 2 0),(13,.box 3 0)]
abbrev eS (k:Int):Env:=[(125,.pv (.slc 1 (stS.map tys) false)),(126,.pv (pi 2)),(127,.pv (pi k))]++eC []
abbrev hS (u:Value) (pl wd:List PV):HEnv:=(3,.cell (xcA (.own 17) (.own 18)))::(17,.row 154 2 pl)::(18,.row 87 1 wd)::(2,.cell (.pv (zG meS)))::hC u (.pv yt)
abbrev eRE:Env:=[(132,.pv (.fn (.func 330) [] [.ptr (tys [ze9]) 0])),(20,.pv (tys [ze9])),(21,.box 4 0),(22,.box 5 0)]++eS 1
abbrev hRE (u:Value) (k:Bool):HEnv:=(4,.cell (cond k (.agg [.pv (.slc 1 [pi 1] false),.pv (pb false)]) (.pv (.agg [yt,pb false]))))::(5,.cell (.pv (cond k (.slc 1 [pb false] false) yt)))::hS u [.agg [yt,pb false]] [yt]
theorem zkm {g:Base} {K K':KK} {ρ ρ':Nat→Value} {H H':HEnv} {W:World} {i j sz:Nat} {u:Value} {x:PV} {f:Bool} (hp:H.get j=some (.pin (.box i 0) u)) (hi:H.get i=some (.cell (.pv yt))) (hp':H'.get j=some (.pin (.box i 0) u)) (hi':H'.get i=some (.cell (.pv (.slc sz [x] f)))) (h1:FS g K ρ H W) (h2:FS g K' ρ' H' W):False:=by
 have p1:ARel K W ρ H (.box i 0) u:=h1.heap.ok j _ hp
 have p2:ARel K' W ρ' H' (.box i 0) u:=h2.heap.ok j _ hp'
 obtain ⟨b1,t1,a1,u1,r1,_,k1,q1,e1,_⟩:=h1.heap.ok i _ hi
 obtain ⟨b2,t2,a2,u2,r2,_,k2,q2,e2,_⟩:=h2.heap.ok i _ hi'
 cases p1 with
 | box _ _ b _ hb =>
  cases p2 with
  | box _ _ b' _ hb' =>
   rw [r1] at hb
   rw [r2] at hb'
   simp only [Value.pointer.injEq,Option.some.injEq,Addr.mk.injEq,and_true] at hb hb'
   subst hb hb'
   rw [k1] at k2
   simp only [Option.some.injEq,Obj.cells.injEq] at k2
   cases q1 with
   | pv _ _ y1 =>
    cases q2 with
    | pv _ _ y2 =>
     cases y1
     rw [←k2.1] at e2
     rw [←e1] at e2
     cases y2 <;> simp [Value.cells] at *
theorem zj1:ACallU Tryz.prog 108 [.pv (zx gS)] [] (fun u:Value=>.pv (.tup [.base u,.agg [pi 0,pi 0],pi 0])) (fun u=>[(60,.cell (prC (.pv (.slc 19 [mdS] false)))),(161,.pin (.box 60 0) u)]):=by
 have cA:=zsp
 have cS:=zng
 have cG:=zoF
 have cM:ACall Tryz.prog 8 [zx gS,pi 0] (.tup [.agg [.slc 1 (stS.map tys) false,pi 4],pi 0,pi 0]):=by have h:=zjM;rw [zpo] at h;exact h
 refine zis zh Tryz.func108 rfl (by kernel_rfl) Tryz.ntmps108 (by simp) _ rfl (fun F hF=>?_)
 refine yF (yD fun gB=>?_)
 repeat' (first|refine sK ?_|refine sC (fun _=>?_) (fun _=>?_)|fail)
 refine yF (yD fun gB=>?_)
 repeat' (first|(refine shC ?_;first|refine qC cA ?_)|refine sK ?_|refine sC (fun _=>?_) (fun _=>?_)|fail)
 refine yF (yD fun gB=>?_)
 repeat' (first|refine zb1 91 rfl rfl rfl rfl rfl ?_|refine zb1 92 rfl rfl rfl rfl rfl ?_|refine zo rfl (Yi zh rfl ⟨_,rfl⟩ rfl rfl rfl rfl rfl rfl) rfl rfl ?_|(refine Zb ?_;first|refine Yt 60 rfl rfl rfl rfl rfl rfl ?_)|refine sK ?_|refine sC (fun _=>?_) (fun _=>?_)|fail)
 refine yF (yD fun gB=>?_)
 refine zbI 60 rfl zrK ?_
 refine zkT [(1,.pv (.ptr (zx gS) 0)),(3,.box 0 0),(7,.box 60 0)] [(0,.cell (.pv (.agg [pi 0,pi 0]))),(60,.cell (prC (.pv yt)))] tS tH ?_
 repeat' (first|refine zfp 40 160 rfl rfl (fun u=>?_)|refine sK ?_|refine sC (fun _=>?_) (fun _=>?_)|fail)
 refine Vp [(1,.pv (.ptr (zx gS) 0)),(3,.box 0 0),(7,.box 60 0),(8,.box 1 0)] (hC u (.pv yt)) tS tH ?_
 refine yF (yD fun gB=>?_)
 repeat' (first|refine zaA 1 ?_|refine zh9 ?_|refine sK ?_|refine sC (fun _=>?_) (fun _=>?_)|fail)
 refine yF ?_
 refine yF (yD fun gB=>?_)
 repeat' (first|refine sK ?_|refine sC (fun _=>?_) (fun _=>?_)|fail)
 refine Xr (zh8 2 ?_)
 refine yF (yD fun gB=>?_)
 repeat' (first|refine sK ?_|refine sC (fun _=>?_) (fun _=>?_)|fail)
 refine yF (yD fun gB=>?_)
 repeat' (first|refine sK ?_|refine sC (fun _=>?_) (fun _=>?_)|fail)
 refine yF ?_
 refine Xr ?_
 refine yF (yD fun gB=>?_)
 repeat' (first|(refine shX ?_;first|refine zo rfl (zl zh rfl rfl rfl rfl rfl rfl (Int.le_refl 0) rfl) rfl rfl ?_|refine AD.step _ _ _ _ _ rfl (zl zh rfl rfl rfl rfl rfl rfl (Int.le_refl 0) rfl) rfl rfl ?_)|refine sK ?_|refine sC (fun _=>?_) (fun _=>?_)|fail)
 refine Vp [(1,.pv (.ptr (zx gS) 0)),(3,.box 0 0),(7,.box 60 0),(8,.box 1 0),(77,.pv (.slc 12 (gS.methods.map zG) false)),(78,.pv (pi 1)),(79,.pv (pi 0)),(11,.pv (pi 0)),(12,.box 2 0)] ((2,.cell (.pv (zG meS)))::hC u (.pv yt)) tS tH ?_
 refine yF (yD fun gB=>?_)
 repeat' (first|refine ZW 3 6 0 zh rfl (by kernel_rfl) (by kernel_rfl) (by kernel_rfl) rfl rfl rfl rfl rfl rfl rfl rfl rfl rfl rfl rfl rfl rfl (fun _=>rfl) rfl rfl rfl ?_|refine ⟨_,_,rfl,rfl,rfl,?_⟩|(refine shC ?_;first|refine qV (zgg u) ?_)|refine sK ?_|refine sC (fun _=>?_) (fun _=>?_)|fail)
 refine yF (yD fun gB=>?_)
 repeat' (first|(refine shC ?_;first|refine qC cS ?_)|refine sK ?_|refine sC (fun _=>?_) (fun _=>?_)|fail)
 refine yF (yD fun gB=>?_)
 repeat' (first|refine zaA 1 ?_|refine zh9 ?_|(refine shC ?_;first|refine qC cG ?_)|refine sK ?_|refine sC (fun _=>?_) (fun _=>?_)|fail)
 refine Vp (eC []) ((3,.cell (xcA (.pv yt) (.pv yt)))::(2,.cell (.pv (zG meS)))::hC u (.pv yt)) tS tH ?_
 refine yF ?_
 refine yF (yD fun gB=>?_)
 repeat' (first|refine sK ?_|refine sC (fun _=>?_) (fun _=>?_)|fail)
 refine zsP rfl (fun _=>?_) (fun h=>absurd h (by decide))
 refine yF (yD fun gB=>?_)
 repeat' (first|(refine shC ?_;first|refine qC cM ?_)|refine sK ?_|refine sC (fun _=>?_) (fun _=>?_)|fail)
 refine yF (yD fun gB=>?_)
 refine Zz 3 17 17 154 2 (by decide) rfl rfl rfl rfl ?_
 refine Zz 3 18 18 87 1 (by decide) rfl rfl rfl rfl ?_
 repeat' (first|refine sK ?_|refine sC (fun _=>?_) (fun _=>?_)|fail)
 refine Vp (eS 0) (hS u [] []) tS tH ?_
 refine Xr (zh8 3 ?_)
 refine yF (yD fun gB=>?_)
 repeat' (first|refine sK ?_|refine sC (fun _=>?_) (fun _=>?_)|fail)
 refine yF (yD fun gB=>?_)
 repeat' (first|refine sK ?_|refine sC (fun _=>?_) (fun _=>?_)|fail)
 refine yF ?_
 refine Xr ?_
 refine yF (yD fun gB=>?_)
 repeat' (first|(refine shX ?_;first|refine zo rfl (zl zh rfl rfl rfl rfl rfl rfl (Int.le_refl 0) rfl) rfl rfl ?_|refine AD.step _ _ _ _ _ rfl (zl zh rfl rfl rfl rfl rfl rfl (Int.le_refl 0) rfl) rfl rfl ?_)|refine sK ?_|refine sC (fun _=>?_) (fun _=>?_)|fail)
 refine yF (yD fun gB=>?_)
 repeat' (first|refine sK ?_|refine sC (fun _=>?_) (fun _=>?_)|fail)
 refine yF (yD fun gB=>?_)
 repeat' (first|refine sK ?_|refine sC (fun _=>?_) (fun _=>?_)|fail)
 refine yF ?_
 refine yF (yD fun gB=>?_)
 repeat' (first|(refine shC ?_;first|refine qC (zb3 []) ?_)|refine sK ?_|refine sC (fun _=>?_) (fun _=>?_)|fail)
 refine Xr (znx znf rfl rfl ?_)
 refine yF (yD fun gB=>?_)
 repeat' (first|(refine zL ?_;first|refine zX zh rfl rfl rfl rfl rfl rfl rfl (by show _ * 24≤_;simp) (by simp) rfl rfl ?_)|refine sK ?_|refine sC (fun _=>?_) (fun _=>?_)|fail)
 refine yF (yD fun gB=>?_)
 repeat' (first|refine sK ?_|refine sC (fun _=>?_) (fun _=>?_)|fail)
 refine yD fun gB=>?_
 repeat' (first|(refine zL ?_;first|refine zX zh rfl rfl rfl rfl rfl rfl rfl (by show _ * 32≤_;simp) (by simp) rfl rfl ?_)|refine sK ?_|refine sC (fun _=>?_) (fun _=>?_)|fail)
 refine yD fun gB=>?_
 repeat' (first|refine sK ?_|refine sC (fun _=>?_) (fun _=>?_)|fail)
 refine Vp (eS 1) (hS u [.agg [yt,pb false]] [yt]) tS tH ?_
 refine yF (yD fun gB=>?_)
 repeat' (first|refine sK ?_|refine sC (fun _=>?_) (fun _=>?_)|fail)
 refine yF (yD fun gB=>?_)
 repeat' (first|refine sK ?_|refine sC (fun _=>?_) (fun _=>?_)|fail)
 refine yF ?_
 refine Xr ?_
 refine yF (yD fun gB=>?_)
 repeat' (first|(refine shX ?_;first|refine zo rfl (zl zh rfl rfl rfl rfl rfl rfl (show (0:Int)≤1 by decide) rfl) rfl rfl ?_|refine AD.step _ _ _ _ _ rfl (zl zh rfl rfl rfl rfl rfl rfl (show (0:Int)≤1 by decide) rfl) rfl rfl ?_)|refine sK ?_|refine sC (fun _=>?_) (fun _=>?_)|fail)
 refine yF (yD fun gB=>?_)
 repeat' (first|refine sK ?_|refine sC (fun _=>?_) (fun _=>?_)|fail)
 refine yF (yD fun gB=>?_)
 repeat' (first|refine sK ?_|refine sC (fun _=>?_) (fun _=>?_)|fail)
 refine yF ?_
 refine yF (yD fun gB=>?_)
 repeat' (first|(refine shC ?_;first|refine qC (zb3 [ze9]) ?_)|refine sK ?_|refine sC (fun _=>?_) (fun _=>?_)|fail)
 refine Xr (zoi (zmS) (fun _=>rfl) (yK ze9) rfl zsE eRE (fun k=>hRE u k) ((6,.cell (.pv (yK ze9)))::hRE u false) ((24,.box 6 0)::eRE) 200 tS rfl rfl rfl (by decide) tH (fun k=>by cases k <;> rfl) (fun k=>by cases k <;> rfl) rfl rfl (fun g2 us k=>?_) (fun g2 us=>?_) ?_ ?_)
 ·cases k
  ·repeat' (first|refine qx zh 6 rfl rfl rfl rfl rfl rfl rfl ?_|refine sK ?_|refine sC (fun _=>?_) (fun _=>?_)|fail)
   exact ⟨rfl,tH,fun _=>⟨tS,tH⟩⟩
  ·repeat' (first|refine qx zh 6 rfl rfl rfl rfl rfl rfl rfl ?_|refine sK ?_|refine sC (fun _=>?_) (fun _=>?_)|fail)
   exact ⟨rfl,tH,fun h=>by cases h⟩
 ·repeat' (first|refine yG 9 7 rfl (by kernel_rfl) (by kernel_rfl) (by kernel_rfl) (by kernel_rfl) (by kernel_rfl) ?_|refine yG 7 6 rfl (by kernel_rfl) (by kernel_rfl) (by kernel_rfl) (by kernel_rfl) (by kernel_rfl) ?_|refine AD.step _ _ _ _ _ rfl (ZR zh rfl rfl (.inr ⟨rfl,rfl⟩) rfl rfl (by show _ * 8≤_;simp) (by simp)) rfl rfl ?_|refine AD.step _ _ _ _ _ rfl (ZR zh rfl rfl (.inr ⟨rfl,rfl⟩) rfl rfl (by show _ * 1≤_;simp) (by simp)) rfl rfl ?_|(refine shC ?_;first|refine qV (zgg u) ?_)|refine sK ?_|refine sC (fun _=>?_) (fun _=>?_)|fail)
  exact tH
 ·exact fun g us K ρ K' ρ' W h1 h2=>zkm (i:=5) (j:=203) (u:=us 22) rfl rfl rfl rfl h1 h2
 refine yF (yD fun gB=>?_)
 repeat' (first|(refine zL ?_;first|refine zX zh rfl rfl rfl rfl rfl rfl rfl (by show _ * 24≤_;simp) (by simp) rfl rfl ?_)|refine sK ?_|refine sC (fun _=>?_) (fun _=>?_)|fail)
 refine yF (yD fun gB=>?_)
 repeat' (first|(refine shX ?_;first|refine zo rfl (zl zh rfl rfl rfl rfl rfl rfl (by decide) rfl) rfl rfl ?_|refine AD.step _ _ _ _ _ rfl (zl zh rfl rfl rfl rfl rfl rfl (by decide) rfl) rfl rfl ?_)|refine sK ?_|refine sC (fun _=>?_) (fun _=>?_)|fail)
 refine yD fun gB=>?_
 repeat' (first|(refine zL ?_;first|refine zX zh rfl rfl rfl rfl rfl rfl rfl (by show _ * 32≤_;simp) (by simp) rfl rfl ?_)|refine sK ?_|refine sC (fun _=>?_) (fun _=>?_)|fail)
 refine yD fun gB=>?_
 repeat' (first|refine sK ?_|refine sC (fun _=>?_) (fun _=>?_)|fail)
 refine Vp (eS 2) (hS u [.agg [yt,pb false],.agg [.slc 1 [pi 1] false,pb false]] [yt,.slc 1 [pb false] false]) tS tH ?_
 refine yF (yD fun gB=>?_)
 repeat' (first|refine sK ?_|refine sC (fun _=>?_) (fun _=>?_)|fail)
 refine yF (yD fun gB=>?_)
 repeat' (first|refine sK ?_|refine sC (fun _=>?_) (fun _=>?_)|fail)
 refine yD fun gB=>?_
 refine YM 3 17 17 rfl rfl rfl ?_
 refine YM 3 18 18 rfl rfl rfl ?_
 repeat' (first|refine yG 11 8 rfl (by kernel_rfl) (by kernel_rfl) (by kernel_rfl) (by kernel_rfl) (by kernel_rfl) ?_|refine AD.step _ _ _ _ _ rfl (ZR zh rfl rfl (.inr ⟨rfl,rfl⟩) rfl rfl (by show _ * 288≤_;simp) (by simp)) rfl rfl ?_|refine sK ?_|refine sC (fun _=>?_) (fun _=>?_)|fail)
 refine yD fun gB=>?_
 repeat' (first|refine sK ?_|refine sC (fun _=>?_) (fun _=>?_)|fail)
 refine Vp [(3,.box 0 0),(7,.box 60 0),(78,.pv (pi 1)),(79,.pv (pi 1))] [(0,.cell (.pv (.agg [pi 0,pi 0]))),(60,.cell (prC (.pv (.slc 19 [mdS] false))))] tS tH ?_
 refine yF (yD fun gB=>?_)
 repeat' (first|refine sK ?_|refine sC (fun _=>?_) (fun _=>?_)|fail)
 refine yF (yD fun gB=>?_)
 repeat' (first|refine sK ?_|refine sC (fun _=>?_) (fun _=>?_)|fail)
 refine yD fun gB=>?_
 repeat' (first|refine zfp 203 161 rfl rfl (fun u2=>?_)|refine sK ?_|refine sC (fun _=>?_) (fun _=>?_)|fail)
 exact ⟨.inr rfl,rfl,u2,[.base u2,.agg [pi 0,pi 0],pi 0],rfl,rfl,tH⟩
set_option maxHeartbeats 20000000
theorem tHX {P:Prop} (h:P:=by repeat (first|exact zk|refine zi rfl ?_)):P:=h
abbrev mcE (sp:AV) (ac:PV) (ek:Int) (ew:PV):AV:=.agg [.box 60 0,.box 0 0,sp,.pv ac,.pv yt,.pv yt,.pv (pi ek),.pv (pi 0),.pv (pi 0),.pv (pi 0),.pv (pb false),.pv ew]
abbrev prE:Nat × HE:=(60,.cell (prC (.pv (.slc 19 [mdS] false))))
abbrev exH (e1 e2:List PV) (X8:Obj→Prop) (ws:List Int) (fs:List Fr) (ac:PV) (ek:Int) (ew:PV):HEnv:=(50,.cell (mcE (.box 30 0) ac ek ew))::prE::skX (.slc 1 e1 false) (.slc 1 e2 false) 1 8 X8 ws 18 2 fs
abbrev acE:PV:=.agg [u64 0,pb false,yt,u64 0,u64 0,u64 0,u64 0,u64 0,u64 0,.base (.pointer none)]
abbrev zf5:PV:=.slc 10 [acE] false
section
variable {e1 e2:List PV} {X8:Obj→Prop}
theorem ziS (ws:List Int) (ac:PV) (ek:Int) (ew:PV) (at_ ba e:Int) (s:Nat) (hs:s≤96) (hws:ws.length≤100000) (us:Nat→Value):ACallM Tryz.prog 58 [.box 50 0] (exH e1 e2 X8 ws [⟨0,at_,ba,e,s⟩] ac ek ew++zJ us [50]) (.pv (.tup [pi 0,.ptr mdS 0,pi at_])) (exH e1 e2 X8 ws [⟨0,at_,ba,e,s⟩] ac ek ew++zJ us [50]):=by
 have cF:=fun us=>zl8 (e1:=e1) (e2:=e2) (fa:=1) (hq0:=8) (X8:=X8) ws 18 2 0 at_ ba e s 0 [⟨0,at_,ba,e,s⟩] (by simp) hs rfl hws us
 refine zC zh Tryz.func58 rfl (by kernel_rfl) Tryz.ntmps58 (by simp) _ rfl (fun gB hw1=>?_)
 repeat' (first|refine zo (r:=.pv (pi _)) rfl (Yf (args:=fun ρ=>[.ptr (stX (.slc 1 e1 false) (.slc 1 e2 false) 1 8 ws (ρ 8) 18 2 [⟨0,at_,ba,e,s⟩]) 0]) rfl (fun _=>rfl) (fun ρ=>Ym ws (ρ 8) 18 2 [⟨0,at_,ba,e,s⟩])) rfl rfl ?_|refine AD.step _ _ _ (.pv (pi _)) _ rfl (Yf (args:=fun ρ=>[.ptr (stX (.slc 1 e1 false) (.slc 1 e2 false) 1 8 ws (ρ 8) 18 2 [⟨0,at_,ba,e,s⟩]) 0]) rfl (fun _=>rfl) (fun ρ=>Ym ws (ρ 8) 18 2 [⟨0,at_,ba,e,s⟩])) rfl rfl ?_|(refine shX ?_;first|refine zo rfl (zl zh rfl rfl rfl rfl rfl rfl (Int.le_refl 0) rfl) rfl rfl ?_|refine AD.step _ _ _ _ _ rfl (zl zh rfl rfl rfl rfl rfl rfl (Int.le_refl 0) rfl) rfl rfl ?_)|(refine zy ?_;first|(refine qQ (skX (.slc 1 e1 false) (.slc 1 e2 false) 1 8 X8 ws 18 2 [⟨0,at_,ba,e,s⟩]) (skX (.slc 1 e1 false) (.slc 1 e2 false) 1 8 X8 ws 18 2 [⟨0,at_,ba,e,s⟩]) ((50,.cell (mcE (.box 30 0) ac ek ew))::prE::zJ us [50]) ([0,30]) zq rfl rfl rfl ?_ rfl rfl rfl cF ?_;· (repeat (first|exact zk|refine zi rfl ?_))))|refine sK ?_|refine sC (fun _=>?_) (fun _=>?_)|fail)
 exact ⟨.inr rfl,.inl ⟨_,rfl,rfl,⟨by repeat (first|exact zk|refine zi rfl ?_),rfl⟩⟩⟩
abbrev tE (ac:PV) (ek:Int) (ew:PV) (us:Nat→Value):HEnv:=(0,.dead)::(30,.dead)::(50,.cell (mcE (.box 30 0) ac ek ew))::prE::zJ us [50]
theorem zm7 (ws:List Int) (ek:Int) (ew:PV) (hws:ws.length≤100000) (us:Nat→Value):ACallM Tryz.prog 111 [.box 50 0,.pv (pi 0),.pv yt,.pv (u64 0)] (exH e1 e2 X8 ws [] yt ek ew++zJ us [50]) (.pv (pb true)) (exH e1 e2 X8 (zbJ ws 18 []) [⟨0,0,18,170,0⟩] zf5 ek ew++zJ us [50]):=by
 have cE:=fun us=>zl6 (e1:=e1) (e2:=e2) (fa:=1) (hq0:=8) (X8:=X8) ws 18 2 0 0 [] false [] (by decide) (by decide) (by decide) (by decide) (by decide) (by decide) hws us
 refine zC zh Tryz.func111 rfl (by kernel_rfl) Tryz.ntmps111 (by simp) _ rfl (fun gB hw1=>?_)
 refine zr4 2 (Qc 1 false) rfl ?_
 repeat' (first|refine XW 20 20 18 (exH e1 e2 X8 ws [] yt ek ew++zJ us [50]) (skX (.slc 1 e1 false) (.slc 1 e2 false) 1 8 X8 (zbJ ws 18 []) 18 2 [⟨0,0,18,170,0⟩]++(50,.cell (mcE (.box 30 0) yt ek ew))::prE::zJ us [50]) (tE yt ek ew us) (.pv (pb true)) none rfl (by kernel_rfl) (by kernel_rfl) (by kernel_rfl) (by kernel_rfl) (by kernel_rfl) rfl (by kernel_rfl) rfl rfl (fun _ _ _ h=>((h.kill 30).kill 0).narrow (e:=[]) tH) (fun _ _ _ h=>((h.kill 30).kill 0).narrow (e:=[]) tH) rfl tH rfl rfl (fun v hv=>by cases hv) ?_|refine ⟨⟨rfl,XU (skX (.slc 1 e1 false) (.slc 1 e2 false) 1 8 X8 ws 18 2 []) (skX (.slc 1 e1 false) (.slc 1 e2 false) 1 8 X8 (zbJ ws 18 []) 18 2 [⟨0,0,18,170,0⟩]) ((50,.cell (mcE (.box 30 0) yt ek ew))::prE::zJ us [50]) [0,30] zq rfl rfl tHX rfl rfl rfl rfl cE⟩,?_⟩|intro _|refine YE ?_|(refine shX ?_;first|refine zo rfl (zl zh rfl rfl rfl rfl rfl rfl (Int.le_refl 0) rfl) rfl rfl ?_|refine AD.step _ _ _ _ _ rfl (zl zh rfl rfl rfl rfl rfl rfl (Int.le_refl 0) rfl) rfl rfl ?_)|(refine zL ?_;first|refine zo rfl (ZR zh rfl rfl (.inr ⟨rfl,rfl⟩) rfl rfl (by show _ * 96≤_;simp) (by simp)) rfl rfl ?_)|refine sK ?_|refine sC (fun _=>?_) (fun _=>?_)|fail)
 exact ⟨.inr rfl,.inl ⟨_,rfl,rfl,⟨by repeat (first|exact zk|refine zi rfl ?_),rfl⟩⟩⟩
theorem zlR (ws:List Int) (ek:Int) (ew:PV) (f:Fr) (us:Nat→Value):ACallM Tryz.prog 334 [.box 50 0] (exH e1 e2 X8 ws [f] zf5 ek ew++zJ us [50]) (.pv acE) (exH e1 e2 X8 ws [] (.slc 10 [] false) ek ew++zJ us [50]):=by
 have cL:=fun us=>zmt (e1:=e1) (e2:=e2) (fa:=1) (hq0:=8) (X8:=X8) ws 18 2 [] f (by decide) us
 refine zC zh Tryz.func334 rfl (by kernel_rfl) Tryz.ntmps334 (by simp) _ rfl (fun gB hw1=>?_)
 repeat' (first|refine zo rfl (zpF zh rfl rfl rfl rfl rfl rfl rfl (Int.le_refl 0) (Int.le_refl 0) (by decide)) rfl rfl ?_|(refine shX ?_;first|refine zo rfl (zl zh rfl rfl rfl rfl rfl rfl (Int.le_refl 0) rfl) rfl rfl ?_|refine AD.step _ _ _ _ _ rfl (zl zh rfl rfl rfl rfl rfl rfl (Int.le_refl 0) rfl) rfl rfl ?_)|(refine zy ?_;first|(refine qQ (skX (.slc 1 e1 false) (.slc 1 e2 false) 1 8 X8 ws 18 2 [f]) (skX (.slc 1 e1 false) (.slc 1 e2 false) 1 8 X8 ws 18 2 []) ((1,.cell (.pv acE))::(50,.cell (mcE (.box 30 0) zf5 ek ew))::prE::zJ us [50]) ([0,30]) zq rfl rfl rfl ?_ rfl rfl rfl cL ?_;· (repeat (first|exact zk|refine zi rfl ?_))))|refine sK ?_|refine sC (fun _=>?_) (fun _=>?_)|fail)
 exact ⟨.inr rfl,.inl ⟨_,rfl,rfl,⟨by repeat (first|exact zk|refine zi rfl ?_),rfl⟩⟩⟩
end
abbrev zrx:PV:=.agg [pi 10,pi 2]
abbrev ObE:List PV:=(zbA gS gS.types.length).map tys
abbrev KdE:List PV:=(Xo gS gS.types.length).map pi
abbrev XE:Obj→Prop:=TMap (zaS gS gS.types.length)
abbrev znC (W:List Int):HEnv:=zir (.slc 1 ObE false) (.slc 1 KdE false) 1 8 XE W 18 0
abbrev wsE:List Int:=zbJ (wsG 1 16402 7) 18 []
abbrev xE (W:List Int):HEnv:=exH ObE KdE XE W [⟨0,0,18,170,0⟩] zf5 0 yt
abbrev whH:HEnv:=[(1,.cell (.pv (.agg [pi 0,pi 0])))]
theorem zsY:Zk gS=[]:=by rw [Zk,zj6];rfl
theorem zri:ACallM Tryz.prog 86 [.pv (zx gS),.pv (pi 10)] [] (.box 0 0) (znC (wsG 1 16402 7)) true:=by
 have h1:=zq2 gS zpp zj6 10 (by decide) (by decide)
 rw [zsY] at h1
 exact h1
theorem zqY:ACall Tryz.prog 109 [zx gS] (zx gS) :=
 zqm gS ⟨by show 1≤1000;decide,by show 0≤1000;decide,by show 1≤1000;decide,by simp [gS],by simp [gS]⟩
abbrev npE:PV:=.base (.pointer none)
set_option maxHeartbeats 4000000 in
theorem zqE:ACallU Tryz.prog 56 [.pv (zx gS),.pv zrx,.pv yt] [] (fun u:Value=>.pv (.tup [.base u,.agg [pi 0,pi 0],pi 0])) (fun u=>xE wsE++[(162,.pin (.box 50 0) u)]) true:=by
 have cO:=zqY
 have cC:=zj1
 have cN:=zri
 have cI:=zn6
 obtain ⟨W,hW⟩:∃ W,W=wsG 1 16402 7:=⟨_,rfl⟩
 have hl:W.length≤100000:=by rw [hW,zgB];decide
 rw [wsE]
 rw [←hW] at cN ⊢
 have cF:=fun us=>zoM (e1:=ObE) (e2:=KdE) (fa:=1) (hq0:=8) (X8:=XE) W 18 2 (by decide) (by decide) us
 have cE:=fun us=>zm7 (e1:=ObE) (e2:=KdE) (X8:=XE) W 0 yt hl us
 refine zk8 zh Tryz.func56 rfl (by kernel_rfl) Tryz.ntmps56 (by simp) _ rfl (fun gB hw1=>?_)
 repeat' (first|refine qx zh 1 rfl rfl rfl rfl rfl rfl rfl ?_|refine zl5 [] (fun u=>[prE,(161,.pin (.box 60 0) u)]) whH [(2,.pv yt),(3,.pv (.ptr (zx gS) 0)),(4,.pv (.ptr zrx 0)),(7,.box 1 0)] [] zq rfl rfl rfl tHX tS rfl rfl (fun _=>rfl) (fun _=>cC) (fun u=>?_)|refine zlx 9 161 rfl rfl ?_|refine zjo 6 [(2,.pv yt),(3,.pv (.ptr (zx gS) 0)),(4,.pv (.ptr zrx 0)),(7,.box 1 0),(9,.box 60 0)] (prE::whH) rfl rfl tS tH ?_|(refine shC ?_;first|refine qC cO ?_)|refine sK ?_|refine sC (fun _=>?_) (fun _=>?_)|fail)
 refine zhw (by kernel_rfl) ?_
 refine zab 13 10 [7] [] (mkL [prE::whH,znC W++prE::whH]) (mkL [prE::whH,znC W++prE::whH]) (prE::whH) none rfl (by kernel_rfl) (by kernel_rfl) (by kernel_rfl) (by kernel_rfl) (by kernel_rfl) (by kernel_rfl) (fun p hp=>by simp at hp) rfl (XO rfl ⟨tH,tH,trivial⟩) rfl (Zt rfl rfl) (fun q h=>Zt rfl rfl q 1 h (Nat.le_refl 1)) tH rfl (fun v hv=>by cases hv) ?_
 repeat' (first|refine qR 7 [] (.box 0 0) rfl rfl rfl rfl rfl ?_|refine ⟨⟨rfl,YW [] (znC W) (prE::whH) [] hw1 rfl rfl (fun _ _ h=>h) rfl rfl rfl rfl (fun _=>cN),.inr (by kernel_rfl)⟩,?_⟩|refine zo rfl (zS (ps:=[.slc 4 (gS.types.map qU) false,.slc 7 (gS.fields.map ZI) false,.slc 12 (gS.methods.map zG) false,pi gS.entry]) zh rfl rfl rfl rfl rfl) rfl rfl ?_|refine AD.step _ _ _ _ _ rfl (zS (ps:=[.slc 4 (gS.types.map qU) false,.slc 7 (gS.fields.map ZI) false,.slc 12 (gS.methods.map zG) false,pi gS.entry]) zh rfl rfl rfl rfl rfl) rfl rfl ?_|refine ZG ?_|intro _|refine YE ?_|refine zo rfl (Yi zh rfl ⟨_,rfl⟩ rfl rfl rfl rfl rfl rfl) rfl rfl ?_|refine zjo 7 [(4,.pv (.ptr zrx 0)),(3,.pv (.ptr (zx gS) 0)),(7,.box 1 0),(12,.box 50 0)] (znC W++(50,.cell (mcE (.pv npE) yt 0 yt))::prE::whH) rfl rfl tS tH ?_|(refine shC ?_;first|refine qC cI ?_)|(refine Zb ?_;first|refine Yt 50 rfl rfl rfl rfl rfl rfl ?_)|refine sK ?_|refine sC (fun _=>?_) (fun _=>?_)|fail)
 refine zhw (by kernel_rfl) ?_
 refine zab 11 8 [7] [] (mkL [znC W++((50,.cell (mcE (.pv npE) yt 0 yt))::prE::whH),skX (.slc 1 ObE false) (.slc 1 KdE false) 1 8 XE W 18 2 []++((50,.cell (mcE (.pv npE) yt 0 yt))::prE::whH)]) (mkL [(0,.dead)::((50,.cell (mcE (.pv npE) yt 0 yt))::prE::whH),(30,.dead)::(0,.dead)::((50,.cell (mcE (.pv npE) yt 0 yt))::prE::whH)]) ((0,.dead)::((50,.cell (mcE (.pv npE) yt 0 yt))::prE::whH)) none rfl (by kernel_rfl) (by kernel_rfl) (by kernel_rfl) (by kernel_rfl) (by kernel_rfl) (by kernel_rfl) (fun p hp=>by simp at hp) rfl (WR (i:=0) rfl ⟨tH,tH,trivial⟩) rfl (Zt rfl rfl) (fun q h=>by have:q=0∨q=1:=(by simp at h;omega);rcases this with rfl|rfl <;> rfl) tH rfl (fun v hv=>by cases hv) ?_
 repeat' (first|refine qR 7 [] (.box 30 0) rfl rfl rfl rfl rfl ?_|refine ⟨⟨rfl,YW (znC W) (skX (.slc 1 ObE false) (.slc 1 KdE false) 1 8 XE W 18 2 []) ((50,.cell (mcE (.pv npE) yt 0 yt))::prE::whH) [0] zq rfl rfl (fun _ _ h=>h) rfl rfl rfl rfl cF,.inr (by kernel_rfl)⟩,?_⟩|refine ZG ?_|intro _|refine YE ?_|refine zfp 76 162 rfl rfl (fun u=>?_)|(refine zy ?_;first|(refine qQ (exH ObE KdE XE W [] yt 0 yt) (xE (zbJ W 18 [])) (whH) ([50]) zq rfl rfl rfl ?_ rfl rfl rfl cE ?_;· (repeat (first|exact zk|refine zi rfl ?_))))|refine sK ?_|refine sC (fun _=>?_) (fun _=>?_)|fail)
 exact ⟨u,.inr rfl,.inl ⟨[.base u,.agg [pi 0,pi 0],pi 0],rfl,rfl,⟨by repeat (first|exact zk|refine zi rfl ?_),rfl⟩⟩⟩
end Go.Cg
