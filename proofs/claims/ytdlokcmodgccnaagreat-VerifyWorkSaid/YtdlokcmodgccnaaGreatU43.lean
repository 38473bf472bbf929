/- A part of the walks by abstract values: no statement of its own. -/
import Derived.Test.YtdlokcmodgccnaaGreatU41
import Derived.Test.YtdlokcmodgccnaaGreatU15
import Derived.Test.YtdlokcmodgccnaaGreatU40
import Derived.Test.YtdlokcmodgccnaaGreatU42
import Derived.Test.YtdlokcmodgccnaaGreatU35
import Derived.Test.YtdlokcmodgccnaaGreatU30
import Derived.Test.YtdlokcmodgccnaaGreatU17
import Derived.Test.YtdlokcmodgccnaaGreatU21
import Derived.Test.YtdlokcmodgccnaaGreatU13
set_option linter.unusedVariables false
set_option linter.unusedSimpArgs false
namespace Go.Cg
open Go.Proofs
set_option maxHeartbeats 20000000
abbrev zdL (g:Img) (m:Me):List PV:=[.slc 4 (g.types.map Zl) false,.slc 7 (g.fields.map Yb) false,.slc 12 (g.methods.map yB) false,pi g.entry,ps m.name,pi m.owner,pi m.flags,tys m.params,pi m.ret.kind,pi m.ret.index,pi m.ret.dims,pb m.ret.ref,tys m.locals,pi m.max,.slc 6 (m.code.map qj) false,.slc 10 (m.clauses.map ZX) false]
theorem tHR {P:Prop} (h:P:=by repeat (first|exact zG|refine zD rfl ?_)):P:=h
theorem zfZ (p1:Value) (e0 e:Int):DCall Tryz.prog 76 (lbH (pi e0) p1) [.box 1 0] (.panicking [{ v:=zfY e,recovered:=false }]) (.panicking [{ v:=zfY e,recovered:=true }]) (lbH (pi e) p1):=by
 refine Xd Tryz.func76 rfl (by kernel_rfl) rfl (fun g K ρ w vs hds hf hv c₀ cs hu=>?_)
 obtain ⟨v1,rfl⟩:=List.length_eq_one_iff.1 hv.1
 have r1:=hv.2 0 _ v1 rfl rfl
 refine wpS_seq ?_
 refine wpS_region ?_
 have h1:=VG (P:=Tryz.prog) (xt:=20) (v:=.int .i64 e) (w:=w) Tryz.underlying93
 simp [wpOpsS,go_sem,recoverD,hu,Tryz.ntmps76,Exit.thenS,zfY,h1]
 refine zeu (n:=10) (g:=g) (env:=[(0,.box 1 0),(1,.pv (pi e)),(2,.pv (pb true))]) (H:=lbH (pi e0) p1) (QQ:=zpi (lbH (pi e) p1)) ?_
  ⟨by simp,by rw [hds],K,ρ,hf,ZR (v:=v1) (by simp) r1 (ZR (v:=.int .i64 e) (by simp) (.pv _ _ (.base _ rfl)) (ZR (v:=.bool true) (by simp) (.pv _ _ (.base _ rfl)) zaP))⟩
  (fun ex a' w' env' H' hi hq=>⟨hq.1,hi.defers.trans hds,rfl,zen hi hq.2⟩)
 repeat' (first|refine sK ?_|refine sC (fun _=>?_) (fun _=>?_)|fail)
 exact ⟨.inl rfl,tH⟩
abbrev zfV (g:Img) (m:Me) (k:Int) (s:VS) (us:Nat→Value) (e:PV) (p1:Value):HEnv:=lbH e p1++(rnH g m k s++qx us [10])
theorem zdA (g:Img) (m:Me) (k:Int) (s:VS) (us:Nat→Value) (e:PV) (p1:Value):DCall Tryz.prog 76 (zfV g m k s us e p1) [.box 1 0] .returning .returning (zfV g m k s us e p1):=by
 refine Xd Tryz.func76 rfl (by kernel_rfl) rfl (fun g1 K ρ w vs hds hf hv c₀ cs hu=>?_)
 obtain ⟨v1,rfl⟩:=List.length_eq_one_iff.1 hv.1
 refine wpS_seq ?_
 refine wpS_region ?_
 have hz:=zg8 (P:=Tryz.prog) (w:=w) (z:=.int .i64 0) zf (ty:=93) rfl
 have h1:=WG (P:=Tryz.prog) (xt:=20) (w:=w) Tryz.underlying93 hz
 simp [wpOpsS,go_sem,recoverD,hu,Tryz.ntmps76,Exit.thenS,h1]
 refine zeu (n:=10) (g:=g1) (env:=[(2,.pv (pb false))]) (H:=zfV g m k s us e p1) (QQ:=zpi (zfV g m k s us e p1)) ?_
  ⟨by simp,by rw [hds],K,ρ,hf,ZR (v:=.bool false) (by simp) (.pv _ _ (.base _ rfl)) zaP⟩
  (fun ex a' w' env' H' hi hq=>⟨hq.1,hi.defers.trans hds,by cases c₀;simp_all,zen hi hq.2⟩)
 repeat' (first|refine sK ?_|refine sC (fun _=>?_) (fun _=>?_)|fail)
 exact ⟨.inl rfl,tH⟩
theorem zi4 {g:Img} {m:Me} {i t:Int} {l:List Ty} {n:Nat} {s s':VS} (h:LenV n s) (ht:toV g m i t l s=.ok s'):LenV n s':=by
 unfold toV at ht
 split at ht
 ·cases ht
 ·split at ht
  ·split at ht
   ·cases ht;exact ⟨h.st,h.kn⟩
   ·cases ht
  ·split at ht
   ·cases ht;exact ⟨by simp [qL,h.st],by simp [qL,h.kn]⟩
   ·split at ht
    ·cases ht;exact ⟨by simp [h.st],h.kn⟩
    ·cases ht
def ztZ:Except Int VS→Int
 | .ok _=>0
 | .error e=>e
def zt4 (g:Img) (m:Me) (k:Int) (us:Nat→Value):Except Int VS→HEnv
 | .ok s=>rnH g m k s++qx us [10]
 | .error _=>[]
theorem zrp {g:Img} (hc:(Za g).2=0) {k:Int} (hm:mOk g k) {s:VS} (hs:LenV (mAt g k).code.length s) (hok:OkV (mAt g k).code.length s) (hwk:0≤s.wk∧s.wk≤900000) (i:Nat) (hi:i < (mAt g k).code.length)
  (hon:onV (mAt g k) i=0) (us:Nat→Value) :
  ACallM Tryz.prog 41 [.box 10 0,.pv (pi (i:Int))] (rnH g (mAt g k) k s++qx us [10]) (.pv (pi (ztZ (zfP g k i s)))) (zt4 g (mAt g k) k us (zfP g k i s)):=by
 have hF:=(Va (Wj hc).1).formed
 have hM:=(QV hF hm).small
 have hfm:=(QV hF hm).formed
 have hit:((i:Nat):Int).toNat < (mAt g k).code.length:=by omega
 have cs:=znh g hc hm (a:=i) (by omega) hit (WI s i) (by have:=zcs hok i;omega)
 have hW:s.wk + 1=IntKind.i64.wrap (s.wk + 1):=by rw [wrap_in (by omega) (by omega)]
 have hW0:0≤IntKind.i64.wrap (s.wk + 1)∧IntKind.i64.wrap (s.wk + 1)≤900001:=by rw [←hW];omega
 have hV:zfP g k i s=match stepS g k i (WI s i) with
   | .error e=>.error e
   | .ok p=>zgE g (mAt g k) i p.2 ⟨s.st,s.kn.set i true,IntKind.i64.wrap (s.wk + 1)⟩:=by
  rw [zfP,←hW];rfl
 have hnx:zcO (WJ (mAt g k) i)=true→(i:Int) + 1 < (mAt g k).code.length:=fun h=>by
  rw [onV,h] at hon
  apply Classical.byContradiction
  intro hn
  rw [decide_eq_false hn] at hon
  simp at hon
 have hpl:WR (WJ (mAt g k) i)=true→0≤(ql (mAt g k) i).arg∧(ql (mAt g k) i).arg.toNat < (mAt g k).code.length:=zo7 hfm hit
 have hei:((mAt g k).code.map qj)[((i:Nat):Int).toNat]?=some (qj (ql (mAt g k) i)):=by rw [ql,zQ hit];exact yj hit
 have cw:=zkK g (mAt g k) i (by omega) hit
 have cg:=goes_call (WJ (mAt g k) i)
 have h1:=hs.st
 have h2:=hs.kn
 have e1:(s.st.map tys)[i]?=some (tys (WI s i)):=by
  have:WI s i=s.st[i]'(by omega):=by rw [WI];exact zQ (by omega)
  rw [this];exact yj (by omega)
 have e2:(s.kn.map pb)[i]?=some (pb (s.kn[i]'(by omega))):=yj (by omega)
 have l1:i < (s.st.map tys).length:=by rw [List.length_map];omega
 have l2:i < (s.kn.map pb).length:=by rw [List.length_map];omega
 have hb2:∀ p,stepS g k i (WI s i)=.ok p→p.2.length≤12:=fun p hp=>by
  have hb:=(zsD g (QB g (mAt g k)) (mAt g k) (ql (mAt g k) i) _ _ _ hp).1
  have hg:=zcs hok i
  rcases hb with hb|hb <;> omega
 have hnz:=fun e (h:stepS g k i (WI s i)=.error e)=>znw h
 obtain ⟨s1,hs1⟩:∃ s1:VS,s1=⟨s.st,s.kn.set i true,IntKind.i64.wrap (s.wk + 1)⟩:=⟨_,rfl⟩
 generalize stepS g k i (WI s i)=r at cs hV hb2 hnz
 refine zm5 zf Tryz.func41 rfl (by kernel_rfl) Tryz.ntmps41 (by simp) _ rfl ?_
 refine VZ (zan fun gB=>?_)
 repeat' (first|refine Zo zf 1 rfl rfl rfl rfl rfl rfl rfl ?_|refine sK ?_|refine sC (fun _=>?_) (fun _=>?_)|fail)
 refine zf6 1 2001 rfl rfl fun p1=>?_
 refine VZ (zeQ (k:=1) rfl rfl rfl rfl rfl fun gB=>?_)
 repeat' (first|refine sK ?_|refine sC (fun _=>?_) (fun _=>?_)|fail)
 refine ⟨_,_,[p1],rfl,⟨⟨2001,rfl⟩,trivial⟩,?_⟩
 refine zan fun gB=>?_
 cases r with
 | error e =>
  simp only at hV
  have he:=hnz e rfl
  have he0:(e==0)=false:=by simpa using he
  rw [hV]
  repeat' (first|refine zx rfl (zS (k:=i) (j:=0) zf rfl rfl rfl rfl e1 rfl) rfl rfl ?_|refine AD.step _ _ _ _ _ rfl (zS (k:=i) (j:=0) zf rfl rfl rfl rfl e1 rfl) rfl rfl ?_|refine zV 23 22 rfl (by kernel_rfl) (by kernel_rfl) (by kernel_rfl) (by kernel_rfl) (by kernel_rfl) ?_|refine zx rfl (zk (ps:=(zdL g (mAt g k))) zf rfl rfl rfl rfl rfl) rfl rfl ?_|refine AD.step _ _ _ _ _ rfl (zk (ps:=(zdL g (mAt g k))) zf rfl rfl rfl rfl rfl) rfl rfl ?_|refine zl 5 3 rfl rfl rfl ?_|refine zaH [] (lbH (pi e) p1) zh rfl rfl rfl (by repeat (first|exact zG|refine zD rfl ?_)) rfl (yX he0 e) ?_|(refine shC ?_;first|refine qC cs ?_)|(refine shX ?_;first|refine zx rfl (zK (k:=i) zf rfl rfl rfl rfl rfl rfl rfl rfl l1) rfl rfl ?_|refine AD.step _ _ _ _ _ rfl (zK (k:=i) zf rfl rfl rfl rfl rfl rfl rfl rfl l1) rfl rfl ?_|refine zx rfl (zK (k:=i) zf rfl rfl rfl rfl rfl rfl rfl rfl l2) rfl rfl ?_|refine AD.step _ _ _ _ _ rfl (zK (k:=i) zf rfl rfl rfl rfl rfl rfl rfl rfl l2) rfl rfl ?_)|(refine Yo ?_;first|refine XE (k:=i) (j:=0) zf rfl rfl rfl rfl rfl e2 rfl rfl rfl rfl rfl ?_)|refine sK ?_|refine sC (fun _=>?_) (fun _=>?_)|fail)
  exact ⟨_,_,_,[4],[.box 1 0],[p1],lbH (pi e) p1,lbH (pi e) p1,[pi e],rfl,rfl,tH,⟨⟨2001,rfl⟩,trivial⟩,⟨⟨2001,rfl⟩,trivial⟩,zfZ p1 _ e,rfl,rfl,by decide,tS,rfl,rfl,⟨zG,rfl⟩⟩
 | ok p =>
  obtain ⟨⟨⟩,l⟩:=p
  have hl12:l.length≤1000:=by have:=hb2 _ rfl;simp only at this;omega
  have hl13:l.length≤12:=hb2 _ rfl
  simp only at hV
  have hs1:LenV (mAt g k).code.length ⟨s.st,s.kn.set i true,IntKind.i64.wrap (s.wk + 1)⟩:=⟨h1,by simp [h2]⟩
  have ok1:OkV (mAt g k).code.length ⟨s.st,s.kn.set i true,IntKind.i64.wrap (s.wk + 1)⟩:=⟨hok.len,hok.st⟩
  have ow1:0≤(⟨s.st,s.kn.set i true,IntKind.i64.wrap (s.wk + 1)⟩:VS).wk∧(⟨s.st,s.kn.set i true,IntKind.i64.wrap (s.wk + 1)⟩:VS).wk≤900001:=hW0
  have hwi:IntKind.i64.wrap ((i:Int) + 1)=(i:Int) + 1:=wrap_in (by omega) (by omega)
  rw [zgE] at hV
  repeat' (first|refine zx rfl (zS (k:=i) (j:=0) zf rfl rfl rfl rfl e1 rfl) rfl rfl ?_|refine AD.step _ _ _ _ _ rfl (zS (k:=i) (j:=0) zf rfl rfl rfl rfl e1 rfl) rfl rfl ?_|refine zV 23 22 rfl (by kernel_rfl) (by kernel_rfl) (by kernel_rfl) (by kernel_rfl) (by kernel_rfl) ?_|refine zx rfl (zk (ps:=(zdL g (mAt g k))) zf rfl rfl rfl rfl rfl) rfl rfl ?_|refine AD.step _ _ _ _ _ rfl (zk (ps:=(zdL g (mAt g k))) zf rfl rfl rfl rfl rfl) rfl rfl ?_|(refine shC ?_;first|refine qC cs ?_|refine qC (yC rfl 0) ?_|refine qC cw ?_|refine qC cg ?_)|(refine shX ?_;first|refine zx rfl (zK (k:=i) zf rfl rfl rfl rfl rfl rfl rfl rfl l1) rfl rfl ?_|refine AD.step _ _ _ _ _ rfl (zK (k:=i) zf rfl rfl rfl rfl rfl rfl rfl rfl l1) rfl rfl ?_|refine zx rfl (zK (k:=i) zf rfl rfl rfl rfl rfl rfl rfl rfl l2) rfl rfl ?_|refine AD.step _ _ _ _ _ rfl (zK (k:=i) zf rfl rfl rfl rfl rfl rfl rfl rfl l2) rfl rfl ?_)|(refine Yo ?_;first|refine XE (k:=i) (j:=0) zf rfl rfl rfl rfl rfl e2 rfl rfl rfl rfl rfl ?_)|refine sA ?_|fail)
  refine ziO 12 rfl (List.map_set ..).symm ?_
  generalize zcO (WJ (mAt g k) i)=nx at *
  generalize WR (WJ (mAt g k) i)=pl at *
  have step2:∀ s2:VS,LenV (mAt g k).code.length s2→OkV (mAt g k).code.length s2→0≤s2.wk∧s2.wk≤1000000→pl=true→∀ us,YQ Tryz.prog 78 [.box 10 0,.pv (pi i),.pv (pi (ql (mAt g k) i).arg),.pv (tys l)] (rnH g (mAt g k) k s2++qx us [10]) (outT g (mAt g k) k us (toV g (mAt g k) i (ql (mAt g k) i).arg l s2)) :=
   fun s2 a b c d us=>znT (zbO hF) (mAt g k) k a i _ (by have:=zcs b (ql (mAt g k) i).arg;omega) c (hpl d).1 (hpl d).2 l hl12 us
  cases nx
  ·simp only [Bool.false_eq_true,if_false] at hV
   cases pl
   ·simp only [Bool.false_eq_true,if_false] at hV
    rw [hV]
    repeat' (first|refine sK ?_|refine sC (fun _=>?_) (fun _=>?_)|fail)
    exact ⟨_,_,_,[4],[.box 1 0],[p1],zfV g (mAt g k) k (⟨s.st,s.kn.set i true,IntKind.i64.wrap (s.wk + 1)⟩) us (pi 0) p1,zfV g (mAt g k) k (⟨s.st,s.kn.set i true,IntKind.i64.wrap (s.wk + 1)⟩) us (pi 0) p1,[pi 0],rfl,rfl,tH,⟨⟨2001,rfl⟩,trivial⟩,⟨⟨2001,rfl⟩,trivial⟩,zdA g (mAt g k) k _ us _ p1,rfl,rfl,by decide,tS,rfl,rfl,tH⟩
   ·simp only [if_true] at hV
    have cT:=step2 ⟨s.st,s.kn.set i true,IntKind.i64.wrap (s.wk + 1)⟩ hs1 ok1 ⟨ow1.1,by have:=ow1.2;omega⟩ rfl
    rw [hV]
    cases ht:toV g (mAt g k) i (ql (mAt g k) i).arg l ⟨s.st,s.kn.set i true,IntKind.i64.wrap (s.wk + 1)⟩ with
    | error e =>
     repeat' (first|refine zl 11 13 rfl rfl rfl ?_|refine zhD (rnH g (mAt g k) k (⟨s.st,s.kn.set i true,IntKind.i64.wrap (s.wk + 1)⟩)++qx us [10]) (lbH (pi 0) p1) zh rfl rfl rfl rfl tHR rfl (by have h:=cT us;rw [ht] at h;exact h) ?_|(refine shX ?_;first|refine qX hei ?_)|refine sK ?_|refine sC (fun _=>?_) (fun _=>?_)|fail)
     exact ⟨_,_,_,[4],[.box 1 0],[p1],lbH (pi 0) p1,lbH (pi e) p1,[pi e],rfl,rfl,tH,⟨⟨2001,rfl⟩,trivial⟩,⟨⟨2001,rfl⟩,trivial⟩,zfZ p1 _ e,rfl,rfl,by decide,tS,rfl,rfl,⟨zG,rfl⟩⟩
    | ok s2 =>
     repeat' (first|refine zbJ (rnH g (mAt g k) k (⟨s.st,s.kn.set i true,IntKind.i64.wrap (s.wk + 1)⟩)) (rnH g (mAt g k) k (s2)) [(1,.cell (.pv (pi 0))),(2001,.pin (.box 1 0) p1),(1010,.pin (.own 10) (us 10))] [(0,.box 10 0),(1,.pv (pi i)),(4,.box 1 0),(5,.pv (tys l)),(6,.fn (.func 78) [.box 10 0] []),(8,.pv (pb true))] [10] zh rfl rfl rfl rfl tHR tS rfl rfl rfl (fun us=>by have h:=cT us;rw [ht] at h;exact h) ?_|(refine shX ?_;first|refine qX hei ?_)|refine sK ?_|refine sC (fun _=>?_) (fun _=>?_)|fail)
     exact ⟨_,_,_,[4],[.box 1 0],[p1],zfV g (mAt g k) k (s2) us (pi 0) p1,zfV g (mAt g k) k (s2) us (pi 0) p1,[pi 0],rfl,rfl,tH,⟨⟨2001,rfl⟩,trivial⟩,⟨⟨2001,rfl⟩,trivial⟩,zdA g (mAt g k) k _ us _ p1,rfl,rfl,by decide,tS,rfl,rfl,tH⟩
  ·simp only [if_true] at hV
   have hi1:=hnx rfl
   have cN:∀ us,YQ Tryz.prog 78 [.box 10 0,.pv (pi i),.pv (pi (IntKind.i64.wrap ((i:Int) + 1))),.pv (tys l)] (rnH g (mAt g k) k ⟨s.st,s.kn.set i true,IntKind.i64.wrap (s.wk + 1)⟩++qx us [10]) (outT g (mAt g k) k us (toV g (mAt g k) i ((i:Int) + 1) l ⟨s.st,s.kn.set i true,IntKind.i64.wrap (s.wk + 1)⟩)) :=
    fun us=>by rw [hwi];exact znT (zbO hF) (mAt g k) k hs1 i _ (by have:=zcs ok1 ((i:Int) + 1);omega) ⟨ow1.1,by have:=ow1.2;omega⟩ (by omega) (by omega) l hl12 us
   cases hn:toV g (mAt g k) i ((i:Int) + 1) l ⟨s.st,s.kn.set i true,IntKind.i64.wrap (s.wk + 1)⟩ with
   | error e =>
    rw [hn] at hV
    simp only at hV
    rw [hV]
    repeat' (first|refine zl 9 5 rfl rfl rfl ?_|refine zhD (rnH g (mAt g k) k (⟨s.st,s.kn.set i true,IntKind.i64.wrap (s.wk + 1)⟩)++qx us [10]) (lbH (pi 0) p1) zh rfl rfl rfl rfl tHR rfl (by have h:=cN us;rw [hn] at h;exact h) ?_|refine sK ?_|refine sC (fun _=>?_) (fun _=>?_)|fail)
    exact ⟨_,_,_,[4],[.box 1 0],[p1],lbH (pi 0) p1,lbH (pi e) p1,[pi e],rfl,rfl,tH,⟨⟨2001,rfl⟩,trivial⟩,⟨⟨2001,rfl⟩,trivial⟩,zfZ p1 _ e,rfl,rfl,by decide,tS,rfl,rfl,⟨zG,rfl⟩⟩
   | ok s2 =>
    rw [hn] at hV
    simp only at hV
    obtain ⟨ok2,w2⟩:=zqW ok1 hl13 hn
    have hs2:=zi4 hs1 hn
    have ow2:0≤s2.wk∧s2.wk≤1000000:=by have:=ow1.1;have:=ow1.2;rw [w2];omega
    cases pl
    ·simp only [Bool.false_eq_true,if_false] at hV
     rw [hV]
     repeat' (first|refine zbJ (rnH g (mAt g k) k (⟨s.st,s.kn.set i true,IntKind.i64.wrap (s.wk + 1)⟩)) (rnH g (mAt g k) k (s2)) [(1,.cell (.pv (pi 0))),(2001,.pin (.box 1 0) p1),(1010,.pin (.own 10) (us 10))] [(0,.box 10 0),(1,.pv (pi i)),(4,.box 1 0),(5,.pv (tys l)),(6,.fn (.func 78) [.box 10 0] []),(8,.pv (pb false))] [10] zh rfl rfl rfl rfl tHR tS rfl rfl rfl (fun us=>by have h:=cN us;rw [hn] at h;exact h) ?_|refine sK ?_|refine sC (fun _=>?_) (fun _=>?_)|fail)
     exact ⟨_,_,_,[4],[.box 1 0],[p1],zfV g (mAt g k) k (s2) us (pi 0) p1,zfV g (mAt g k) k (s2) us (pi 0) p1,[pi 0],rfl,rfl,tH,⟨⟨2001,rfl⟩,trivial⟩,⟨⟨2001,rfl⟩,trivial⟩,zdA g (mAt g k) k _ us _ p1,rfl,rfl,by decide,tS,rfl,rfl,tH⟩
    ·simp only [if_true] at hV
     have cT:=step2 s2 hs2 ok2 ow2 rfl
     rw [hV]
     cases ht:toV g (mAt g k) i (ql (mAt g k) i).arg l s2 with
     | error e =>
      repeat' (first|refine zbJ (rnH g (mAt g k) k (⟨s.st,s.kn.set i true,IntKind.i64.wrap (s.wk + 1)⟩)) (rnH g (mAt g k) k (s2)) [(1,.cell (.pv (pi 0))),(2001,.pin (.box 1 0) p1),(1010,.pin (.own 10) (us 10))] [(0,.box 10 0),(1,.pv (pi i)),(4,.box 1 0),(5,.pv (tys l)),(6,.fn (.func 78) [.box 10 0] []),(8,.pv (pb true))] [10] zh rfl rfl rfl rfl tHR tS rfl rfl rfl (fun us=>by have h:=cN us;rw [hn] at h;exact h) ?_|refine zl 11 13 rfl rfl rfl ?_|refine zhD (rnH g (mAt g k) k (s2)++qx us [10]) (lbH (pi 0) p1) zh rfl rfl rfl rfl tHR rfl (by have h:=cT us;rw [ht] at h;exact h) ?_|(refine shX ?_;first|refine qX hei ?_)|refine sK ?_|refine sC (fun _=>?_) (fun _=>?_)|fail)
      exact ⟨_,_,_,[4],[.box 1 0],[p1],lbH (pi 0) p1,lbH (pi e) p1,[pi e],rfl,rfl,tH,⟨⟨2001,rfl⟩,trivial⟩,⟨⟨2001,rfl⟩,trivial⟩,zfZ p1 _ e,rfl,rfl,by decide,tS,rfl,rfl,⟨zG,rfl⟩⟩
     | ok s3 =>
      repeat' (first|refine zbJ (rnH g (mAt g k) k (⟨s.st,s.kn.set i true,IntKind.i64.wrap (s.wk + 1)⟩)) (rnH g (mAt g k) k (s2)) [(1,.cell (.pv (pi 0))),(2001,.pin (.box 1 0) p1),(1010,.pin (.own 10) (us 10))] [(0,.box 10 0),(1,.pv (pi i)),(4,.box 1 0),(5,.pv (tys l)),(6,.fn (.func 78) [.box 10 0] []),(8,.pv (pb true))] [10] zh rfl rfl rfl rfl tHR tS rfl rfl rfl (fun us=>by have h:=cN us;rw [hn] at h;exact h) ?_|refine zbJ (rnH g (mAt g k) k (s2)) (rnH g (mAt g k) k (s3)) [(1,.cell (.pv (pi 0))),(2001,.pin (.box 1 0) p1),(1010,.pin (.own 10) (us 10))] [(0,.box 10 0),(1,.pv (pi i)),(4,.box 1 0),(5,.pv (tys l)),(6,.fn (.func 78) [.box 10 0] []),(8,.pv (pb true))] [10] zh rfl rfl rfl rfl tHR tS rfl rfl rfl (fun us=>by have h:=cT us;rw [ht] at h;exact h) ?_|(refine shX ?_;first|refine qX hei ?_)|refine sK ?_|refine sC (fun _=>?_) (fun _=>?_)|fail)
      exact ⟨_,_,_,[4],[.box 1 0],[p1],zfV g (mAt g k) k (s3) us (pi 0) p1,zfV g (mAt g k) k (s3) us (pi 0) p1,[pi 0],rfl,rfl,tH,⟨⟨2001,rfl⟩,trivial⟩,⟨⟨2001,rfl⟩,trivial⟩,zdA g (mAt g k) k _ us _ p1,rfl,rfl,by decide,tS,rfl,rfl,tH⟩
def zpO (r:Except (Int × Int) VS):PV:=match r with
 | .ok s=>.tup [.agg [.slc 1 (s.st.map tys) false,pi s.wk],pi 0,pi 0]
 | .error e=>.tup [.agg [.base (.slice none 0 0),pi 0],pi e.1,pi e.2]
theorem zsr {g:Img} {m:Me} (h:MeOk g m):∀ c∈m.clauses,zsX m.code.length c:=by
 intro c hm
 have hr:=h.formed
 simp only [ZA,Vg,zdy,Bool.and_eq_true,beq_iff_eq] at hr
 have h2:=zsn hr.2.2 hm
 obtain ⟨j,hj,rfl⟩:=List.getElem_of_mem hm
 have ha:=(zeT hr.2.2).1 j hj
 rw [zQ hj] at ha
 have hk:=zbL ha
 have e3:=hk.h0
 exact ⟨⟨e3,h2.1⟩,fun hf=>⟨by have:=hk.f hf;omega,h2.2 hf⟩⟩
abbrev mkB (g:Img) (m:Me):HEnv:=[(1,.cell (.pv (Qr g m))),(0,.cell (.pv (.agg [.base (.slice none 0 0),pi 0])))]
abbrev mkS (n:Nat):Nat × HE:=(11,.mrow 40 1 (List.replicate n (.base (.slice none 0 0))))
abbrev mkK (n:Nat):Nat × HE:=(12,.mrow 4 1 (List.replicate n (pb false)))
theorem ziS (n:Nat):PCL (List.replicate n (.base (.slice none 0 0))) ((List.replicate n []).map tys):=by
 refine ⟨by simp,fun k c d hc hd=>?_⟩
 rw [List.map_replicate] at hd
 obtain rfl:=List.eq_of_mem_replicate (List.mem_of_getElem? hc)
 obtain rfl:=List.eq_of_mem_replicate (List.mem_of_getElem? hd)
 exact qy (zaC 4 false) zbb
theorem zoj {g:Img} {m:Me} (h:(zcH g m).2=0) {i:Nat} (hi:i < m.code.length):onV m i=0:=by
 unfold zcH at h
 split at h
 ·rename_i j hj
  have:=List.find?_some hj
  simp at this
  exact absurd h this
 ·rename_i hj
  rw [List.find?_eq_none] at hj
  have:=hj i (List.mem_range.2 hi)
  simp only [bne_iff_ne,ne_eq,Decidable.not_not] at this
  unfold Wy at this
  apply Classical.byContradiction
  intro hn
  rw [if_pos (by simpa using hn)] at this
  exact hn this
theorem zpF {g:Img} {k i:Int} {n:Nat} {s s':VS} (h:LenV n s) (ht:zfP g k i s=.ok s'):LenV n s':=by
 unfold zfP at ht
 split at ht
 ·cases ht
 ·unfold zgE at ht
  split at ht
  ·cases ht
  ·rename_i s1 h1
   have k1:LenV n s1:=by
    split at h1
    ·exact zi4 (show LenV n { s with kn:=s.kn.set i.toNat true,wk:=s.wk + 1 } from ⟨h.st,by simp [h.kn]⟩) h1
    ·cases h1;exact ⟨h.st,by simp [h.kn]⟩
   split at ht
   ·exact zi4 k1 ht
   ·cases ht;exact k1
theorem zsE {g:Img} {m:Me} {i t:Int} {l:List Ty} {s:VS} {e:Int} (ht:toV g m i t l s=.error e):e≠0:=by
 unfold toV at ht
 split at ht
 ·cases ht;decide
 ·split at ht
  ·split at ht
   ·cases ht
   ·cases ht;decide
  ·split at ht
   ·cases ht
   ·split at ht
    ·cases ht
    ·rename_i h;cases ht;simpa using h
theorem zrn {g:Img} {k i:Int} {s:VS} {e:Int} (ht:zfP g k i s=.error e):e≠0:=by
 unfold zfP at ht
 split at ht
 ·rename_i h;cases ht;exact znw h
 ·unfold zgE at ht
  split at ht
  ·rename_i h1
   cases ht
   split at h1
   ·exact zsE h1
   ·cases h1
  ·split at ht
   ·exact zsE ht
   ·cases ht
set_option maxHeartbeats 8000000 in
theorem zjR {g:Img} (hc:(Za g).2=0) {k:Int} (hm:mOk g k) (hcode:0 < (mAt g k).code.length):ACall Tryz.prog 25 [zT g,pi k,.ptr (zT g) 0] (zpO (Qv g k)):=by
 have hF:=(Va (Wj hc).1).formed
 have hM:=QV hF hm
 have hs:=hM.small
 have cf:=zoI hc hm
 have he:(g.methods.map yB)[k.toNat]?=some (yB (mAt g k)):=by rw [mAt,zQ hm.2];exact yj hm.2
 have hk0:=hm.1
 by_cases ha:(zcH g (mAt g k)).2=0
 ·have e0:((zcH g (mAt g k)).2 != 0)=false:=by simp [ha]
  have hV:Qv g k=goV g k (mAt g k).code.length 0 (za8 (mAt g k)):=by rw [Qv,e0,if_neg (by simp)]
  rw [hV]
  obtain ⟨n,hn⟩:∃ n,n=(mAt g k).code.length:=⟨_,rfl⟩
  have hnl:(((((mAt g k).code.map qj).length:Nat):Int))=((n:Nat):Int):=by rw [List.length_map,hn]
  have hs0:LenV n ⟨List.replicate n [],List.replicate n false,0⟩:=⟨by simp,by simp⟩
  have hcl:∀ c∈(mAt g k).clauses,zsX n c:=by rw [hn];exact zsr hM
  have hst:za8 (mAt g k)=(mAt g k).clauses.foldl YW (qL 0 [] ⟨List.replicate n [],List.replicate n false,0⟩):=by rw [za8,←hn]
  have hso:=zlP (mAt g k)
  rw [←hn] at hso
  rw [←hn]
  refine zi zf Tryz.func25 rfl (by kernel_rfl) Tryz.ntmps25 (by simp) _ rfl (fun hw gB hgB=>?_)
  repeat' (first|refine zN 1 7 8 0 6 zf (by kernel_rfl) (by kernel_rfl) rfl rfl rfl rfl rfl rfl rfl rfl rfl rfl rfl rfl rfl rfl rfl rfl rfl rfl rfl rfl rfl rfl ?_|refine yg rfl rfl ?_|refine ⟨_,_,rfl,rfl,?_⟩|refine zx rfl (zk (ps:=(zdL g (mAt g k))) zf rfl rfl rfl rfl rfl) rfl rfl ?_|refine AD.step _ _ _ _ _ rfl (zk (ps:=(zdL g (mAt g k))) zf rfl rfl rfl rfl rfl) rfl rfl ?_|refine zlr (id:=6) rfl ?_|(refine shC ?_;first|refine qC cf ?_)|(refine shX ?_;first|refine zx rfl (zq zf rfl rfl rfl rfl rfl rfl hk0 he) rfl rfl ?_|refine AD.step _ _ _ _ _ rfl (zq zf rfl rfl rfl rfl rfl rfl hk0 he) rfl rfl ?_)|refine sA ?_|fail)
  refine zeW 4 7 [0,1,2,3,4,5,6,7,8,9,10] [0,1,2,3,4,5,6,7,8,9,10] [0,1,2,6,7,3,4,5,8,9,10] [0,1,2,5,6,7,3,4,8,9,10] rfl (by kernel_rfl) (by kernel_rfl) (zeW 5 7 [0,1,2,3,4,5,6,7,8,9,10] [0,1,2,3,4,5,6,7,8,9,10] [0,1,2,3,4,6,7,5,8,9,10] [0,1,2,3,4,7,5,6,8,9,10] rfl (by kernel_rfl) (by kernel_rfl) (zld (by kernel_rfl) ?_) (zld (by kernel_rfl) ?_)) (zld (by kernel_rfl) ?_)
  focus
   refine zcD 11 8 [4,5,7] [] (mkL [mkB g (mAt g k),mkS n::mkB g (mAt g k),mkS n::mkB g (mAt g k),mkK n::mkS n::mkB g (mAt g k)]) (mkL [mkB g (mAt g k),mkS n::mkB g (mAt g k),mkS n::mkB g (mAt g k),mkK n::mkS n::mkB g (mAt g k)]) (mkB g (mAt g k)) none rfl (by kernel_rfl) (by kernel_rfl) (by kernel_rfl) (by kernel_rfl) (by kernel_rfl) (by kernel_rfl) (fun p hp=>by simp at hp) rfl (zaW rfl ⟨tH,tH,tH,tH,trivial⟩) rfl (Ql rfl rfl) (fun q h=>Ql rfl rfl q 3 h (Nat.le_refl 3)) tH rfl (fun v hv=>by cases hv) ?_
   repeat' (first|refine Ym 4 [0,2] (.own 11) rfl rfl rfl rfl rfl ?_|refine Ym 0 [1] (.agg [.own 11,.pv (pi 0)]) rfl rfl rfl rfl rfl ?_|refine Ym 1 [] (.own 12) rfl rfl rfl rfl rfl ?_|refine ⟨⟨rfl,Xc (m:=n) (sz:=1) zf 11 rfl rfl rfl rfl hnl rfl rfl (by show 24 * _≤_;omega) (by simp [maxLen];omega) rfl rfl rfl,.inr (by kernel_rfl)⟩,?_⟩|refine ⟨⟨rfl,Xc (m:=n) (sz:=1) zf 12 rfl rfl rfl rfl hnl rfl rfl (by show 1 * _≤_;omega) (by simp [maxLen];omega) rfl rfl rfl,.inr (by kernel_rfl)⟩,?_⟩|refine ⟨⟨rfl,zho (VR zf rfl ⟨_,rfl⟩ rfl rfl rfl rfl rfl rfl),.inr (by kernel_rfl)⟩,?_⟩|refine QG ?_|intro _|refine XO ?_|refine zx rfl (VR zf rfl ⟨_,rfl⟩ rfl rfl rfl rfl rfl rfl) rfl rfl ?_|refine zx rfl (zk (ps:=(zdL g (mAt g k))) zf rfl rfl rfl rfl rfl) rfl rfl ?_|refine AD.step _ _ _ _ _ rfl (zk (ps:=(zdL g (mAt g k))) zf rfl rfl rfl rfl rfl) rfl rfl ?_|refine zej (es:=List.replicate n (.base (.slice none 0 0))) 11 rfl (ziS n) ?_|refine ziO (es:=List.replicate n (pb false)) 12 rfl (List.map_replicate ..).symm ?_|(refine Qp ?_;first|refine Vk 10 rfl rfl rfl rfl rfl rfl ?_)|(refine zn ?_;first|(refine yD (rnH g (mAt g k) k ⟨List.replicate n [],List.replicate n false,0⟩) (rnH g (mAt g k) k (qL 0 [] ⟨List.replicate n [],List.replicate n false,0⟩)) [(0,.cell (.pv (.agg [.base (.slice none 0 0),pi 0])))] [(6,.box 0 0),(12,.pv (pi (((mAt g k).code.map qj).length:Nat))),(13,.box 10 0)] [10] zh rfl rfl rfl ?_ tS rfl rfl rfl (fun us=>Qj g (mAt g k) k hs0 0 ⟨Int.le_refl 0,by show (0:Int).toNat < n;omega⟩ [] _ (zaC 4 false) us) ?_;· (repeat (first|exact zG|refine zD rfl ?_)))|(refine yD (rnH g (mAt g k) k (qL 0 [] ⟨List.replicate n [],List.replicate n false,0⟩)) (rnH g (mAt g k) k ((mAt g k).clauses.foldl YW (qL 0 [] ⟨List.replicate n [],List.replicate n false,0⟩))) [(0,.cell (.pv (.agg [.base (.slice none 0 0),pi 0])))] [(6,.box 0 0),(12,.pv (pi (((mAt g k).code.map qj).length:Nat))),(13,.box 10 0)] [10] zh rfl rfl rfl ?_ tS rfl rfl rfl (fun us=>zaF g (mAt g k) k _ (YU hs0 0 []) hcl (by omega) us) ?_;· (repeat (first|exact zG|refine zD rfl ?_))))|refine sK ?_|refine sC (fun _=>?_) (fun _=>?_)|fail)
  rotate_left
  focus
   refine zcD 11 8 [4,6,7] [] (mkL [mkB g (mAt g k),mkS n::mkB g (mAt g k),mkK n::mkS n::mkB g (mAt g k),mkK n::mkS n::mkB g (mAt g k)]) (mkL [mkB g (mAt g k),mkS n::mkB g (mAt g k),mkK n::mkS n::mkB g (mAt g k),mkK n::mkS n::mkB g (mAt g k)]) (mkB g (mAt g k)) none rfl (by kernel_rfl) (by kernel_rfl) (by kernel_rfl) (by kernel_rfl) (by kernel_rfl) (by kernel_rfl) (fun p hp=>by simp at hp) rfl (zaW rfl ⟨tH,tH,tH,tH,trivial⟩) rfl (Ql rfl rfl) (fun q h=>Ql rfl rfl q 3 h (Nat.le_refl 3)) tH rfl (fun v hv=>by cases hv) ?_
   repeat' (first|refine Ym 4 [1,2] (.own 11) rfl rfl rfl rfl rfl ?_|refine Ym 1 [0] (.own 12) rfl rfl rfl rfl rfl ?_|refine Ym 0 [] (.agg [.own 11,.pv (pi 0)]) rfl rfl rfl rfl rfl ?_|refine ⟨⟨rfl,Xc (m:=n) (sz:=1) zf 11 rfl rfl rfl rfl hnl rfl rfl (by show 24 * _≤_;omega) (by simp [maxLen];omega) rfl rfl rfl,.inr (by kernel_rfl)⟩,?_⟩|refine ⟨⟨rfl,Xc (m:=n) (sz:=1) zf 12 rfl rfl rfl rfl hnl rfl rfl (by show 1 * _≤_;omega) (by simp [maxLen];omega) rfl rfl rfl,.inr (by kernel_rfl)⟩,?_⟩|refine ⟨⟨rfl,zho (VR zf rfl ⟨_,rfl⟩ rfl rfl rfl rfl rfl rfl),.inr (by kernel_rfl)⟩,?_⟩|refine QG ?_|intro _|refine XO ?_|refine zx rfl (VR zf rfl ⟨_,rfl⟩ rfl rfl rfl rfl rfl rfl) rfl rfl ?_|refine zx rfl (zk (ps:=(zdL g (mAt g k))) zf rfl rfl rfl rfl rfl) rfl rfl ?_|refine AD.step _ _ _ _ _ rfl (zk (ps:=(zdL g (mAt g k))) zf rfl rfl rfl rfl rfl) rfl rfl ?_|refine zej (es:=List.replicate n (.base (.slice none 0 0))) 11 rfl (ziS n) ?_|refine ziO (es:=List.replicate n (pb false)) 12 rfl (List.map_replicate ..).symm ?_|(refine Qp ?_;first|refine Vk 10 rfl rfl rfl rfl rfl rfl ?_)|(refine zn ?_;first|(refine yD (rnH g (mAt g k) k ⟨List.replicate n [],List.replicate n false,0⟩) (rnH g (mAt g k) k (qL 0 [] ⟨List.replicate n [],List.replicate n false,0⟩)) [(0,.cell (.pv (.agg [.base (.slice none 0 0),pi 0])))] [(6,.box 0 0),(12,.pv (pi (((mAt g k).code.map qj).length:Nat))),(13,.box 10 0)] [10] zh rfl rfl rfl ?_ tS rfl rfl rfl (fun us=>Qj g (mAt g k) k hs0 0 ⟨Int.le_refl 0,by show (0:Int).toNat < n;omega⟩ [] _ (zaC 4 false) us) ?_;· (repeat (first|exact zG|refine zD rfl ?_)))|(refine yD (rnH g (mAt g k) k (qL 0 [] ⟨List.replicate n [],List.replicate n false,0⟩)) (rnH g (mAt g k) k ((mAt g k).clauses.foldl YW (qL 0 [] ⟨List.replicate n [],List.replicate n false,0⟩))) [(0,.cell (.pv (.agg [.base (.slice none 0 0),pi 0])))] [(6,.box 0 0),(12,.pv (pi (((mAt g k).code.map qj).length:Nat))),(13,.box 10 0)] [10] zh rfl rfl rfl ?_ tS rfl rfl rfl (fun us=>zaF g (mAt g k) k _ (YU hs0 0 []) hcl (by omega) us) ?_;· (repeat (first|exact zG|refine zD rfl ?_))))|refine sK ?_|refine sC (fun _=>?_) (fun _=>?_)|fail)
  rotate_left
  focus
   refine zcD 11 8 [4,6,7] [] (mkL [mkB g (mAt g k),mkK n::mkB g (mAt g k),mkS n::mkK n::mkB g (mAt g k),mkS n::mkK n::mkB g (mAt g k)]) (mkL [mkB g (mAt g k),mkK n::mkB g (mAt g k),mkS n::mkK n::mkB g (mAt g k),mkS n::mkK n::mkB g (mAt g k)]) (mkB g (mAt g k)) none rfl (by kernel_rfl) (by kernel_rfl) (by kernel_rfl) (by kernel_rfl) (by kernel_rfl) (by kernel_rfl) (fun p hp=>by simp at hp) rfl (zaW rfl ⟨tH,tH,tH,tH,trivial⟩) rfl (Ql rfl rfl) (fun q h=>Ql rfl rfl q 3 h (Nat.le_refl 3)) tH rfl (fun v hv=>by cases hv) ?_
   repeat' (first|refine Ym 4 [1,2] (.own 12) rfl rfl rfl rfl rfl ?_|refine Ym 1 [0] (.own 11) rfl rfl rfl rfl rfl ?_|refine Ym 0 [] (.agg [.own 11,.pv (pi 0)]) rfl rfl rfl rfl rfl ?_|refine ⟨⟨rfl,Xc (m:=n) (sz:=1) zf 11 rfl rfl rfl rfl hnl rfl rfl (by show 24 * _≤_;omega) (by simp [maxLen];omega) rfl rfl rfl,.inr (by kernel_rfl)⟩,?_⟩|refine ⟨⟨rfl,Xc (m:=n) (sz:=1) zf 12 rfl rfl rfl rfl hnl rfl rfl (by show 1 * _≤_;omega) (by simp [maxLen];omega) rfl rfl rfl,.inr (by kernel_rfl)⟩,?_⟩|refine ⟨⟨rfl,zho (VR zf rfl ⟨_,rfl⟩ rfl rfl rfl rfl rfl rfl),.inr (by kernel_rfl)⟩,?_⟩|refine QG ?_|intro _|refine XO ?_|refine zx rfl (VR zf rfl ⟨_,rfl⟩ rfl rfl rfl rfl rfl rfl) rfl rfl ?_|refine zx rfl (zk (ps:=(zdL g (mAt g k))) zf rfl rfl rfl rfl rfl) rfl rfl ?_|refine AD.step _ _ _ _ _ rfl (zk (ps:=(zdL g (mAt g k))) zf rfl rfl rfl rfl rfl) rfl rfl ?_|refine zej (es:=List.replicate n (.base (.slice none 0 0))) 11 rfl (ziS n) ?_|refine ziO (es:=List.replicate n (pb false)) 12 rfl (List.map_replicate ..).symm ?_|(refine Qp ?_;first|refine Vk 10 rfl rfl rfl rfl rfl rfl ?_)|(refine zn ?_;first|(refine yD (rnH g (mAt g k) k ⟨List.replicate n [],List.replicate n false,0⟩) (rnH g (mAt g k) k (qL 0 [] ⟨List.replicate n [],List.replicate n false,0⟩)) [(0,.cell (.pv (.agg [.base (.slice none 0 0),pi 0])))] [(6,.box 0 0),(12,.pv (pi (((mAt g k).code.map qj).length:Nat))),(13,.box 10 0)] [10] zh rfl rfl rfl ?_ tS rfl rfl rfl (fun us=>Qj g (mAt g k) k hs0 0 ⟨Int.le_refl 0,by show (0:Int).toNat < n;omega⟩ [] _ (zaC 4 false) us) ?_;· (repeat (first|exact zG|refine zD rfl ?_)))|(refine yD (rnH g (mAt g k) k (qL 0 [] ⟨List.replicate n [],List.replicate n false,0⟩)) (rnH g (mAt g k) k ((mAt g k).clauses.foldl YW (qL 0 [] ⟨List.replicate n [],List.replicate n false,0⟩))) [(0,.cell (.pv (.agg [.base (.slice none 0 0),pi 0])))] [(6,.box 0 0),(12,.pv (pi (((mAt g k).code.map qj).length:Nat))),(13,.box 10 0)] [10] zh rfl rfl rfl ?_ tS rfl rfl rfl (fun us=>zaF g (mAt g k) k _ (YU hs0 0 []) hcl (by omega) us) ?_;· (repeat (first|exact zG|refine zD rfl ?_))))|refine sK ?_|refine sC (fun _=>?_) (fun _=>?_)|fail)
  rotate_left
  all_goals
   refine zW (fun x:Nat × VS=>[(6,.box 0 0),(13,.box 10 0),(51,.pv (pi (((mAt g k).code.map qj).length:Nat))),(52,.pv (pi x.1))]) (fun x=>rnH g (mAt g k) k x.2++[(0,.cell (.pv (.agg [.base (.slice none 0 0),pi 0])))]) (fun x=>x.1≤n∧goV g k (n - x.1) x.1 x.2=goV g k n 0 (za8 (mAt g k))∧LenV n x.2∧OkV n x.2∧0≤x.2.wk∧x.2.wk≤27 * (x.1:Int)) (fun x=>n - x.1) (0,(mAt g k).clauses.foldl YW (qL 0 [] ⟨List.replicate n [],List.replicate n false,0⟩))
    ⟨by omega,by rw [←hst];rfl,zdb _ (YU hs0 0 []),by rw [←hst];exact hso.1,by rw [←hst,hso.2];exact Int.le_refl 0,by rw [←hst,hso.2];exact Int.le_refl 0⟩ tS tH ?_
   rintro ⟨i,s⟩ ⟨hin,hgo,hl,hok,w0,w1⟩
   dsimp only at hin hgo hl hok w0 w1 ⊢
   by_cases hlt:i < n
   ·have hd:decide (((i:Nat):Int) < (((mAt g k).code.map qj).length:Nat))=true:=decide_eq_true (by rw [hnl];omega)
    have c1:=fun us=>zrp hc hm (s:=s) (by rw [←hn];exact hl) (by rw [←hn];exact hok) ⟨w0,by omega⟩ i (by omega) (zoj ha (by omega)) us
    rw [show n - i=(n - (i + 1)) + 1 by omega,goV] at hgo
    cases hr:zfP g k i s with
    | ok s' =>
     rw [hr] at hgo
     have ho:=zp5 hs.2.2.2.2.2 hok hr
     repeat' (first|(refine zn ?_;first|(refine yD (rnH g (mAt g k) k s) (rnH g (mAt g k) k s') [(0,.cell (.pv (.agg [.base (.slice none 0 0),pi 0])))] [(6,.box 0 0),(13,.box 10 0),(51,.pv (pi (((mAt g k).code.map qj).length:Nat))),(52,.pv (pi i))] [10] zh rfl rfl rfl ?_ tS rfl rfl rfl (fun us=>by have h:=c1 us;rw [hr] at h;exact h) ?_;· (repeat (first|exact zG|refine zD rfl ?_))))|refine sK ?_|refine sC (fun _=>?_) (fun _=>?_)|fail)
     exact ⟨(i + 1,s'),⟨hlt,hgo,zpF hl hr,ho.1,by have:=ho.2.1;show 0≤s'.wk;omega,by have:=ho.2.2;show s'.wk≤27 * ((i + 1:Nat):Int);omega⟩,tD,tS,tH⟩
    | error e =>
     rw [hr] at hgo
     have hnz:(e != 0)=true:=by simpa using zrn hr
     repeat' (first|(refine zn ?_;first|(refine yD (rnH g (mAt g k) k s) ([]) [(0,.cell (.pv (.agg [.base (.slice none 0 0),pi 0])))] [(6,.box 0 0),(14,.pv (pi i))] [] zh rfl rfl rfl ?_ tS rfl rfl rfl (fun _=>zlw [10] rfl fun us=>by have h:=c1 us;rw [hr] at h;exact h) ?_;· (repeat (first|exact zG|refine zD rfl ?_))))|refine sK ?_|refine sC (fun _=>?_) (fun _=>?_)|fail)
     exact retq rfl (by rw [←hgo];rfl)
   ·have hd:decide (((i:Nat):Int) < (((mAt g k).code.map qj).length:Nat))=false:=decide_eq_false (by rw [hnl];omega)
    have hgo2:goV g k n 0 (za8 (mAt g k))=.ok s:=by rw [←hgo,show n - i=0 by omega];rfl
    repeat' (first|refine zbe 11 rfl ?_|refine zhx 10 11 18 rfl rfl rfl ?_|refine zx rfl (zk (ps:=[.slc 1 (s.st.map tys) false,pi s.wk]) zf rfl rfl rfl rfl rfl) rfl rfl ?_|refine AD.step _ _ _ _ _ rfl (zk (ps:=[.slc 1 (s.st.map tys) false,pi s.wk]) zf rfl rfl rfl rfl rfl) rfl rfl ?_|refine sK ?_|refine sC (fun _=>?_) (fun _=>?_)|fail)
    exact retq rfl (by rw [hgo2];rfl)
 ·have e0:((zcH g (mAt g k)).2 != 0)=true:=by simpa using ha
  have hV:Qv g k=.error (zcH g (mAt g k)):=by rw [Qv,e0,if_pos rfl]
  rw [hV]
  refine zi zf Tryz.func25 rfl (by kernel_rfl) Tryz.ntmps25 (by simp) _ rfl (fun hw gB hgB=>?_)
  repeat' (first|refine zN 1 7 8 0 6 zf (by kernel_rfl) (by kernel_rfl) rfl rfl rfl rfl rfl rfl rfl rfl rfl rfl rfl rfl rfl rfl rfl rfl rfl rfl rfl rfl rfl rfl ?_|refine yg rfl rfl ?_|refine ⟨_,_,rfl,rfl,?_⟩|refine zx rfl (zk (ps:=(zdL g (mAt g k))) zf rfl rfl rfl rfl rfl) rfl rfl ?_|refine AD.step _ _ _ _ _ rfl (zk (ps:=(zdL g (mAt g k))) zf rfl rfl rfl rfl rfl) rfl rfl ?_|(refine shC ?_;first|refine qC cf ?_)|(refine shX ?_;first|refine zx rfl (zq zf rfl rfl rfl rfl rfl rfl hk0 he) rfl rfl ?_|refine AD.step _ _ _ _ _ rfl (zq zf rfl rfl rfl rfl rfl rfl hk0 he) rfl rfl ?_)|refine sK ?_|refine sC (fun _=>?_) (fun _=>?_)|fail)
  exact retq rfl rfl
set_option maxHeartbeats 20000000
theorem zkv (g:Img) (hx:OkA g) (hc:((Za g).2==0)=false):ACall Tryz.prog 24 [zT g] (.base (.pointer none)):=by
 have c1:=zfe g hx
 rw [zjE] at c1
 have hc2:((Za g).2 != 0)=true:=by rw [bne,hc];rfl
 generalize (Za g).2=e at c1 hc hc2
 refine zi zf Tryz.func24 rfl (by kernel_rfl) Tryz.ntmps24 (by simp) _ rfl (fun hw gB hgB=>?_)
 repeat' (first|(refine shC ?_;first|refine qC c1 ?_)|refine sK ?_|refine sC (fun _=>?_) (fun _=>?_)|fail)
 exact retq rfl rfl
def WV (g:Img) (m:Int):Except (Int × Int) VS:=if zfE g&&zge g m then Qv g m else .error (0,17)
theorem zb8 (g:Img) (hx:OkA g) (m:Int):ACall Tryz.prog 12 [zT g,pi m] (zpO (WV g m)):=by
 have c2:ACall Tryz.prog 19 [zT g,pi m] (pb (zge g m)):=zm4 g m
 cases hwl:zfE g
 ·have hV:WV g m=.error (0,17):=by rw [WV,hwl];rfl
  have c1:=zkv g hx hwl
  rw [hV]
  refine zi zf Tryz.func12 rfl (by kernel_rfl) Tryz.ntmps12 (by simp) _ rfl (fun hw gB hgB=>?_)
  repeat' (first|refine zx rfl (XW (b:=true) rfl Tryz.underlying64 rfl rfl) rfl rfl ?_|refine AD.step _ _ _ _ _ rfl (XW (b:=true) rfl Tryz.underlying64 rfl rfl) rfl rfl ?_|(refine shC ?_;first|refine qC c1 ?_)|refine sK ?_|refine sC (fun _=>?_) (fun _=>?_)|fail)
  exact retq rfl rfl
 ·have hc:(Za g).2=0:=by simpa [zfE] using hwl
  have c1:=ziX g hx hc
  cases hk:zge g m
  ·rw [hk] at c2
   have hV:WV g m=.error (0,17):=by rw [WV,hwl,hk];rfl
   rw [hV]
   refine zi zf Tryz.func12 rfl (by kernel_rfl) Tryz.ntmps12 (by simp) _ rfl (fun hw gB hgB=>?_)
   repeat' (first|refine zx rfl (XW (b:=false) rfl Tryz.underlying64 rfl rfl) rfl rfl ?_|refine AD.step _ _ _ _ _ rfl (XW (b:=false) rfl Tryz.underlying64 rfl rfl) rfl rfl ?_|(refine shC ?_;first|refine qC c1 ?_|refine qC c2 ?_)|refine sK ?_|refine sC (fun _=>?_) (fun _=>?_)|fail)
   exact retq rfl rfl
  ·rw [hk] at c2
   have hV:WV g m=Qv g m:=by rw [WV,hwl,hk];rfl
   have hk2:=hk
   simp only [zge,Bool.and_eq_true,decide_eq_true_eq] at hk2
   have hm:mOk g m:=⟨hk2.1.1,by omega⟩
   have c3:=zjR hc hm hk2.2
   rw [hV]
   generalize Qv g m=r at c3 ⊢
   cases r with
   | ok s =>
    refine zi zf Tryz.func12 rfl (by kernel_rfl) Tryz.ntmps12 (by simp) _ rfl (fun hw gB hgB=>?_)
    repeat' (first|refine zx rfl (XW (b:=false) rfl Tryz.underlying64 rfl rfl) rfl rfl ?_|refine AD.step _ _ _ _ _ rfl (XW (b:=false) rfl Tryz.underlying64 rfl rfl) rfl rfl ?_|(refine shC ?_;first|refine qC c1 ?_|refine qC c2 ?_|refine qC c3 ?_)|refine sK ?_|refine sC (fun _=>?_) (fun _=>?_)|fail)
    exact retq rfl rfl
   | error e =>
    refine zi zf Tryz.func12 rfl (by kernel_rfl) Tryz.ntmps12 (by simp) _ rfl (fun hw gB hgB=>?_)
    repeat' (first|refine zx rfl (XW (b:=false) rfl Tryz.underlying64 rfl rfl) rfl rfl ?_|refine AD.step _ _ _ _ _ rfl (XW (b:=false) rfl Tryz.underlying64 rfl rfl) rfl rfl ?_|(refine shC ?_;first|refine qC c1 ?_|refine qC c2 ?_|refine qC c3 ?_)|refine sK ?_|refine sC (fun _=>?_) (fun _=>?_)|fail)
    exact retq rfl rfl
set_option maxHeartbeats 20000000
abbrev zlA:List Ins:=[⟨8,0,⟨0,0,0,false⟩⟩,⟨46,0,⟨0,0,0,false⟩⟩]
abbrev zk9:List Ins:=[⟨13,0,⟨0,0,0,false⟩⟩,⟨46,0,⟨0,0,0,false⟩⟩]
abbrev meE (c:List Ins):Me:=⟨⟨#[109]⟩,0,1,[],⟨2,0,0,false⟩,[],2,c,[]⟩
abbrev gE (c:List Ins):Img:=⟨[⟨⟨#[65]⟩,0,-1,[]⟩],[],[meE c],-1⟩
abbrev ztL (q:PV):PV:=.agg [.slc 4 [wTD 65 (-1)] true,.base (.slice none 0 0),.slc 12 [.agg [.base (.string ⟨#[109]⟩),pi 0,pi 1,.base (.slice none 0 0),pi 2,pi 0,pi 0,pb false,.base (.slice none 0 0),pi 2,q,.base (.slice none 0 0)]] true,pi (-1)]
theorem zhf (x y:Ins):ACall Tryz.prog 15 [.slc 6 [qj x,qj y] true] (ztL (.slc 6 [qj x,qj y] true)):=by
 refine zi zf Tryz.func15 rfl (by kernel_rfl) Tryz.ntmps15 (by simp) _ rfl (fun hw gB hgB=>?_)
 repeat' (first|refine sK ?_|refine sC (fun _=>?_) (fun _=>?_)|fail)
 exact retq rfl rfl
theorem zhc (x y:Ins):PTells (ztL (.slc 6 [qj x,qj y] true)) (zT (gE [x,y])) :=
 zs4 (qy (zgG (zaS (zo6 65 (-1)) zdz)) (qy (zaC 7 false) (qy (zgG (zaS
  (qy (.refl _) (qy (.refl _) (qy (.refl _) (qy (zaC 4 false) (qy (.refl _) (qy (.refl _) (qy (.refl _) (qy (.refl _) (qy (zaC 4 false) (qy (.refl _)
   (qy (zgG (zaS (zga _) (zaS (zga _) zdz))) (qy (zaC 10 false) zbb))))))))))))
  zdz)) (qy (.refl _) zbb))))
theorem zlI {c:List Ins} (h:c=zlA∨c=zk9):(Za (gE c)).2=0:=by
 have h1:YZ (gE c)=true:=by rcases h with rfl|rfl <;> decide +kernel
 have h2:Yl (gE c)=true:=by rcases h with rfl|rfl <;> decide +kernel
 have h3:∀ j,j < (gE c).types.length→QT (gE c) j=false:=by
  intro j hj
  have:j=0:=by have:(gE c).types.length=1:=rfl;omega
  subst this;rcases h with rfl|rfl <;> decide +kernel
 rw [Za,show zfc (gE c)=true by rw [zfc,zgd h1 h2 h3];rfl]
 show (stM (gE c) (List.range (gE c).methods.length)).2=0
 rcases h with rfl|rfl <;> decide +kernel
theorem okE {c:List Ins} (h:c=zlA∨c=zk9):OkA (gE c):=by
 intro m hm x hx
 have hm2:m=meE c:=by simpa [gE] using hm
 rw [hm2] at hx
 have hx2:x∈c:=hx
 rcases h with rfl|rfl <;> simp at hx2 <;> rcases hx2 with rfl|rfl <;> exact ⟨by decide,by decide⟩
theorem ztK:WV (gE zlA) 0=.ok ⟨[[],[⟨2,0,0,false⟩]],[true,true],4⟩:=by
 rw [WV,show zfE (gE zlA)=true by rw [zfE,zlI (.inl rfl)];rfl];rfl
theorem ztN:WV (gE zk9) 0=.error (0,9):=by
 rw [WV,show zfE (gE zk9)=true by rw [zfE,zlI (.inr rfl)];rfl];rfl
theorem zbi:ACall Tryz.prog 7 [] (pb true):=by
 have cA:=zb8 (gE zlA) (okE (.inl rfl)) 0
 have cB:=zb8 (gE zk9) (okE (.inr rfl)) 0
 rw [ztK] at cA
 rw [ztN] at cB
 have o1:=zhf ⟨8,0,⟨0,0,0,false⟩⟩ ⟨46,0,⟨0,0,0,false⟩⟩
 have o2:=zhf ⟨13,0,⟨0,0,0,false⟩⟩ ⟨46,0,⟨0,0,0,false⟩⟩
 have cs:=zhh [⟨2,0,0,false⟩] [⟨2,0,0,false⟩]
 rw [decide_eq_true rfl] at cs
 refine zi zf Tryz.func7 rfl (by kernel_rfl) Tryz.ntmps7 (by simp) _ rfl (fun hw gB hgB=>?_)
 repeat' (first|refine zd6 11 (zhc ⟨8,0,⟨0,0,0,false⟩⟩ ⟨46,0,⟨0,0,0,false⟩⟩) rfl ?_|refine zd6 20 (zhc ⟨13,0,⟨0,0,0,false⟩⟩ ⟨46,0,⟨0,0,0,false⟩⟩) rfl ?_|refine zd6 47 (znF ⟨2,0,0,false⟩) rfl ?_|(refine shC ?_;first|refine qC o1 ?_|refine qC o2 ?_|refine qC cA ?_|refine qC cB ?_|refine qC cs ?_)|(refine shX ?_;first|refine zx rfl (zq zf rfl rfl rfl rfl rfl rfl (by decide) rfl) rfl rfl ?_|refine AD.step _ _ _ _ _ rfl (zq zf rfl rfl rfl rfl rfl rfl (by decide) rfl) rfl rfl ?_)|refine sK ?_|refine sC (fun _=>?_) (fun _=>?_)|fail)
 exact retq rfl rfl
def zo9 (g:Img):Nat→Int
 | 0=>0
 | k + 1=>IntKind.i64.wrap (zo9 g k + ((g.methods.getD k default).code.length:Int))
def zgy (g:Img):Bool:=zal g||decide (24 < (g.methods.length:Int))||decide (400 < zo9 g g.methods.length)
theorem zjI (g:Img):ACall Tryz.prog 8 [zT g] (pb (zgy g)):=by
 have c1:=zoU g
 cases hl:zal g
 ·rw [hl] at c1
  by_cases h24:24 < (g.methods.length:Int)
  ·have d:decide (24 < (((g.methods.map yB).length:Nat):Int))=true:=decide_eq_true (by rw [List.length_map];exact h24)
   refine zi zf Tryz.func8 rfl (by kernel_rfl) Tryz.ntmps8 (by simp) _ rfl (fun hw gB hgB=>?_)
   repeat' (first|(refine shC ?_;first|refine qC c1 ?_)|refine sK ?_|refine sC (fun _=>?_) (fun _=>?_)|fail)
   exact retq rfl (by simp [zy,zgy,h24])
  ·have d:decide (24 < (((g.methods.map yB).length:Nat):Int))=false:=decide_eq_false (by rw [List.length_map];exact h24)
   refine zi zf Tryz.func8 rfl (by kernel_rfl) Tryz.ntmps8 (by simp) _ rfl (fun hw gB hgB=>?_)
   repeat' (first|(refine shC ?_;first|refine qC c1 ?_)|refine sK ?_|refine sC (fun _=>?_) (fun _=>?_)|fail)
   refine zW (fun k:Nat=>[(1,.pv (.ptr (zT g) 0)),(3,.pv (pi (zo9 g k))),(15,.pv (pi (((g.methods.map yB).length:Nat)))),(16,.pv (pi k))]) (fun _=>[]) (fun k=>k≤g.methods.length) (fun k=>g.methods.length - k) 0 (by omega) (tS) tH ?_
   intro k hk
   by_cases hlt:k < g.methods.length
   ·have he:=yj (f:=yB) hlt
    have dl:decide ((k:Int) < (((g.methods.map yB).length:Nat):Int))=true:=decide_eq_true (by rw [List.length_map];omega)
    have hs:zo9 g (k + 1)=IntKind.i64.wrap (zo9 g k + ((g.methods[k].code.map qj).length:Nat)):=by rw [zo9,zQ hlt,List.length_map]
    repeat' (first|(refine shX ?_;first|refine qX he ?_)|refine sK ?_|refine sC (fun _=>?_) (fun _=>?_)|fail)
    exact ⟨k + 1,hlt,by show g.methods.length - (k + 1) < g.methods.length - k;omega,yS rfl (Zn rfl hs.symm (yS rfl (tS))),tH⟩
   ·have dl:decide ((k:Int) < (((g.methods.map yB).length:Nat):Int))=false:=decide_eq_false (by rw [List.length_map];omega)
    have hk2:k=g.methods.length:=by omega
    repeat' (first|refine sK ?_|refine sC (fun _=>?_) (fun _=>?_)|fail)
    exact retq rfl (by simp [zy,zgy,hl,h24,hk2])
 ·rw [hl] at c1
  refine zi zf Tryz.func8 rfl (by kernel_rfl) Tryz.ntmps8 (by simp) _ rfl (fun hw gB hgB=>?_)
  repeat' (first|(refine shC ?_;first|refine qC c1 ?_)|refine sK ?_|refine sC (fun _=>?_) (fun _=>?_)|fail)
  exact retq rfl (by simp [zy,zgy,hl])
theorem zpn {g:Img} {k:Int} {e:Int × Int} (h:Qv g k=.error e):e.2≠0:=by
 unfold Qv at h
 split at h
 ·rename_i h1;cases h;simpa using h1
 ·have key:∀ (f i:Nat) (s:VS),goV g k f i s=.error e→e.2≠0:=by
   intro f
   induction f with
   | zero=>intro i s h;cases h
   | succ f ih =>
    intro i s h
    rw [goV] at h
    split at h
    ·rename_i h1;cases h;exact zrn h1
    ·exact ih _ _ h
  exact key _ _ _ h
theorem zrY {g:Img} {k:Int} {e:Int × Int} (h:WV g k=.error e):e.2≠0:=by
 unfold WV at h
 split at h
 ·exact zpn h
 ·cases h;decide
theorem zsx {g:Img} {k:Int} {s:VS} (h:WV g k=.ok s):(Za g).2=0∧mOk g k∧0 < (mAt g k).code.length∧Qv g k=.ok s:=by
 unfold WV at h
 split at h
 ·rename_i h1
  simp only [Bool.and_eq_true,zfE,zge,beq_iff_eq,decide_eq_true_eq] at h1
  exact ⟨h1.1,⟨h1.2.1.1,by omega⟩,h1.2.2,h⟩
 ·cases h
set_option maxHeartbeats 4000000 in
theorem zfN (g:Img) (hx:OkA g) (m:Int):ACall Tryz.prog 4 [zT g,pi m] (pb true):=by
 have c1:=zjI g
 have c2:=zb8 g hx m
 cases hv:zgy g
 ·rw [hv] at c1
  cases hr:WV g m with
  | error e =>
   rw [hr] at c2
   have hnz:(e.2 != 0)=true:=by simpa using zrY hr
   refine zi zf Tryz.func4 rfl (by kernel_rfl) Tryz.ntmps4 (by simp) _ rfl (fun hw gB hgB=>?_)
   repeat' (first|(refine shC ?_;first|refine qC zbi ?_|refine qC c1 ?_|refine qC c2 ?_)|refine sK ?_|refine sC (fun _=>?_) (fun _=>?_)|fail)
   exact retq rfl rfl
  | ok s =>
   rw [hr] at c2
   obtain ⟨hc,hm,hl,hmv⟩:=zsx hr
   have hM:=(QV (Va (Wj hc).1).formed hm).small
   obtain ⟨q1,q2,q3⟩:=zoE hM.2.2.2.2.2 hmv
   have he:(g.methods.map yB)[m.toNat]?=some (yB (mAt g m)):=by rw [mAt,zQ hm.2];exact yj hm.2
   have hm0:=hm.1
   have d1:((((s.st.map tys).length:Nat):Int)==(((mAt g m).code.map qj).length:Nat))=true:=by simp [q1]
   have d2:decide (((((mAt g m).code.map qj).length:Nat):Int)≤s.wk)=true:=decide_eq_true (by rw [List.length_map];exact q2)
   have d3:decide (s.wk≤IntKind.i64.wrap (27 * (((mAt g m).code.map qj).length:Nat)))=true:=decide_eq_true (by rw [List.length_map,wrap_in (by omega) (by omega)];exact q3)
   refine zi zf Tryz.func4 rfl (by kernel_rfl) Tryz.ntmps4 (by simp) _ rfl (fun hw gB hgB=>?_)
   repeat' (first|(refine shC ?_;first|refine qC zbi ?_|refine qC c1 ?_|refine qC c2 ?_)|(refine shX ?_;first|refine zx rfl (zq zf rfl rfl rfl rfl rfl rfl hm0 he) rfl rfl ?_|refine AD.step _ _ _ _ _ rfl (zq zf rfl rfl rfl rfl rfl rfl hm0 he) rfl rfl ?_)|refine sK ?_|refine sC (fun _=>?_) (fun _=>?_)|fail)
   exact retq rfl (by simp only [zy,d1,d2,d3])
 ·rw [hv] at c1
  refine zi zf Tryz.func4 rfl (by kernel_rfl) Tryz.ntmps4 (by simp) _ rfl (fun hw gB hgB=>?_)
  repeat' (first|(refine shC ?_;first|refine qC zbi ?_|refine qC c1 ?_)|refine sK ?_|refine sC (fun _=>?_) (fun _=>?_)|fail)
  exact retq rfl rfl
end Go.Cg
