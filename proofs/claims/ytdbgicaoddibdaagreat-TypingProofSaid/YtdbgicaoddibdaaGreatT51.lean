/- A part of the walks by abstract values: no statement of its own. -/
import Derived.Test.YtdbgicaoddibdaaGreatT49
import Derived.Test.YtdbgicaoddibdaaGreatT48
import Derived.Test.YtdbgicaoddibdaaGreatT32
set_option linter.unusedVariables false
set_option linter.unusedSimpArgs false
namespace Go.Cg
open Go.Proofs
set_option maxHeartbeats 20000000
abbrev zfj (g:Img) (m:Me):List PV:=[.slc 4 (g.types.map ZB) false,.slc 7 (g.fields.map Yo) false,.slc 12 (g.methods.map yh) false,pi g.entry,ps m.name,pi m.owner,pi m.flags,tys m.params,pi m.ret.kind,pi m.ret.index,pi m.ret.dims,pb m.ret.ref,tys m.locals,pi m.max,.slc 6 (m.code.map qx) false,.slc 10 (m.clauses.map Zg) false]
theorem tHR {P:Prop} (h:P:=by repeat (first|exact zA|refine aB ?_)):P:=h
theorem zhG (p1:Value) (e0 e:Int):DCall Tryz.prog 67 (lbH (pi e0) p1) [.box 1 0] (.panicking [{ v:=zhq e,recovered:=false }]) (.panicking [{ v:=zhq e,recovered:=true }]) (lbH (pi e) p1):=by
 refine XQ Tryz.func67 rfl zws rfl (fun g K ρ w vs hds hf hv c₀ cs hu=>?_);obtain ⟨v1,rfl⟩:=List.length_eq_one_iff.1 hv.1;have r1:=hv.2 0 _ v1 rfl rfl;refine wpS_seq ?_;refine wpS_region ?_;have h1:=zaO (P:=Tryz.prog) (xt:=20) (v:=.int .i64 e) (w:=w) Tryz.underlying135;simp [wpOpsS,go_sem,recoverD,hu,Tryz.ntmps67,Exit.thenS,zhq,h1];refine zfW (n:=10) (g:=g) (env:=[(0,.box 1 0),(1,.pv (pi e)),(2,.pv (pb true))]) (H:=lbH (pi e0) p1) (QQ:=zr5 (lbH (pi e) p1)) ?_
  ⟨by simp,by rw [hds],K,ρ,hf,Yg (v:=v1) zwy63 r1 (Yg (v:=.int .i64 e) zwy63 (.pv _ _ (.base _ rfl)) (Yg (v:=.bool true) zwy63 (.pv _ _ (.base _ rfl)) zbL))⟩
  (fun ex a' w' env' H' hi hq=>⟨hq.1,hi.defers.trans hds,rfl,zgc hi hq.2⟩)
 repeat' (first|refine sK ?_|refine sC (fun _=>?_) (fun _=>?_)|fail)
 exact ⟨.inl rfl,tH⟩
abbrev zhx (g:Img) (m:Me) (k:Int) (s:VS) (us:Nat→Value) (e:PV) (p1:Value):HEnv:=lbH e p1++(rnH g m k s++qE us [10])
theorem zfm (g:Img) (m:Me) (k:Int) (s:VS) (us:Nat→Value) (e:PV) (p1:Value):DCall Tryz.prog 67 (zhx g m k s us e p1) [.box 1 0] .returning .returning (zhx g m k s us e p1):=by
 refine XQ Tryz.func67 rfl zws rfl (fun g1 K ρ w vs hds hf hv c₀ cs hu=>?_);obtain ⟨v1,rfl⟩:=List.length_eq_one_iff.1 hv.1;refine wpS_seq ?_;refine wpS_region ?_;have hz:=zjh (P:=Tryz.prog) (w:=w) (z:=.int .i64 0) zf (ty:=135) rfl;have h1:=VA (P:=Tryz.prog) (xt:=20) (w:=w) Tryz.underlying135 hz;simp [wpOpsS,go_sem,recoverD,hu,Tryz.ntmps67,Exit.thenS,h1];refine zfW (n:=10) (g:=g1) (env:=[(2,.pv (pb false))]) (H:=zhx g m k s us e p1) (QQ:=zr5 (zhx g m k s us e p1)) ?_
  ⟨by simp,by rw [hds],K,ρ,hf,Yg (v:=.bool false) zwy63 (.pv _ _ (.base _ rfl)) zbL⟩
  (fun ex a' w' env' H' hi hq=>⟨hq.1,hi.defers.trans hds,by cases c₀;simp_all,zgc hi hq.2⟩)
 repeat' (first|refine sK ?_|refine sC (fun _=>?_) (fun _=>?_)|fail)
 exact ⟨.inl rfl,tH⟩
theorem zdv {g:Img} {m:Me} {i t:Int} {l:List Ty} {n:Nat} {s s':VS} (h:LenV n s) (ht:toV g m i t l s=.ok s'):LenV n s':=by
 unfold toV at ht;split at ht
 ·cases ht
 ·split at ht
  ·split at ht
   ·cases ht;exact ⟨h.st,h.kn⟩
   ·cases ht
  ·split at ht
   ·cases ht;exact ⟨by simp [qo,h.st],by simp [qo,h.kn]⟩
   ·split at ht
    ·cases ht;exact ⟨by simp [h.st],h.kn⟩
    ·cases ht
def zxF:Except Int VS→Int
 | .ok _=>0
 | .error e=>e
def zxH (g:Img) (m:Me) (k:Int) (us:Nat→Value):Except Int VS→HEnv
 | .ok s=>rnH g m k s++qE us [10]
 | .error _=>[]
theorem zwk20 {G:Prop} (h:G:=by repeat' (first|(have:=b0;refine zy rfl (au (k:=i) (j:=0) e1) rfl rfl ?_)|(have:=b0;refine zq rfl (au (k:=i) (j:=0) e1) rfl rfl ?_)|(have:=b0;refine zV 23 22 rfl zws zws zws zws zws ?_)|(have:=b0;refine zy rfl (aj (ps:=(zfj g (mAt g k)))) rfl rfl ?_)|(have:=b0;refine zq rfl (aj (ps:=(zfj g (mAt g k)))) rfl rfl ?_)|(have:=b0;refine zl 5 3 rfl rfl rfl ?_)|(have:=b0;refine zbr [] (lbH (pi e) p1) zh rfl rfl rfl zwy68 rfl (yY he0 e) ?_)|(refine shC ?_;first|(have:=b0;refine qC cs ?_))|(have:=b1;refine zaF (rnH g (mAt g k) k (⟨s.st,s.kn.set i true,IntKind.i64.wrap (s.wk + 1)⟩)) (rnH g (mAt g k) k (s2)) [(1,.cell (.pv (pi 0))),(2001,.pin (.box 1 0) p1),(1010,.pin (.own 10) (us 10))] [(0,.box 10 0),(1,.pv (pi i)),(4,.box 1 0),(5,.pv (tys l)),(6,.fn (.func 69) [.box 10 0] []),(8,.pv (pb true))] [10] zh rfl rfl rfl rfl tHR tS rfl rfl rfl (fun us=>by have h:=cT us;rw [ht] at h;exact h) ?_)|(have:=b2;refine zl 9 5 rfl rfl rfl ?_)|(have:=b2;refine zi6 (rnH g (mAt g k) k (⟨s.st,s.kn.set i true,IntKind.i64.wrap (s.wk + 1)⟩)++qE us [10]) (lbH (pi 0) p1) zh rfl rfl rfl rfl tHR rfl (by have h:=cN us;rw [hn] at h;exact h) ?_)|(have:=b3;refine zaF (rnH g (mAt g k) k (⟨s.st,s.kn.set i true,IntKind.i64.wrap (s.wk + 1)⟩)) (rnH g (mAt g k) k (s2)) [(1,.cell (.pv (pi 0))),(2001,.pin (.box 1 0) p1),(1010,.pin (.own 10) (us 10))] [(0,.box 10 0),(1,.pv (pi i)),(4,.box 1 0),(5,.pv (tys l)),(6,.fn (.func 69) [.box 10 0] []),(8,.pv (pb false))] [10] zh rfl rfl rfl rfl tHR tS rfl rfl rfl (fun us=>by have h:=cN us;rw [hn] at h;exact h) ?_)|(have:=b4;refine zaF (rnH g (mAt g k) k (⟨s.st,s.kn.set i true,IntKind.i64.wrap (s.wk + 1)⟩)) (rnH g (mAt g k) k (s2)) [(1,.cell (.pv (pi 0))),(2001,.pin (.box 1 0) p1),(1010,.pin (.own 10) (us 10))] [(0,.box 10 0),(1,.pv (pi i)),(4,.box 1 0),(5,.pv (tys l)),(6,.fn (.func 69) [.box 10 0] []),(8,.pv (pb true))] [10] zh rfl rfl rfl rfl tHR tS rfl rfl rfl (fun us=>by have h:=cN us;rw [hn] at h;exact h) ?_)|(have:=b5;refine zl 11 13 rfl rfl rfl ?_)|(have:=b6;refine zi6 (rnH g (mAt g k) k (⟨s.st,s.kn.set i true,IntKind.i64.wrap (s.wk + 1)⟩)++qE us [10]) (lbH (pi 0) p1) zh rfl rfl rfl rfl tHR rfl (by have h:=cT us;rw [ht] at h;exact h) ?_)|(have:=b7;refine zi6 (rnH g (mAt g k) k (s2)++qE us [10]) (lbH (pi 0) p1) zh rfl rfl rfl rfl tHR rfl (by have h:=cT us;rw [ht] at h;exact h) ?_)|(have:=b8;refine zaF (rnH g (mAt g k) k (s2)) (rnH g (mAt g k) k (s3)) [(1,.cell (.pv (pi 0))),(2001,.pin (.box 1 0) p1),(1010,.pin (.own 10) (us 10))] [(0,.box 10 0),(1,.pv (pi i)),(4,.box 1 0),(5,.pv (tys l)),(6,.fn (.func 69) [.box 10 0] []),(8,.pv (pb true))] [10] zh rfl rfl rfl rfl tHR tS rfl rfl rfl (fun us=>by have h:=cT us;rw [ht] at h;exact h) ?_)|(refine shX ?_;first|(have:=b0;refine zy rfl (ak (k:=i) l1) rfl rfl ?_)|(have:=b0;refine zq rfl (ak (k:=i) l1) rfl rfl ?_)|(have:=b0;refine zy rfl (ak (k:=i) l2) rfl rfl ?_)|(have:=b0;refine zq rfl (ak (k:=i) l2) rfl rfl ?_)|(have:=b9;refine qX hei ?_))|(have:=b0;refine Yd ?_;first|refine XP (k:=i) (j:=0) zf rfl rfl rfl rfl rfl e2 rfl rfl rfl rfl rfl ?_)|refine sK ?_|refine sC (fun _=>?_) (fun _=>?_)|(have:=b0;exact ⟨_,_,_,[4],[.box 1 0],[p1],lbH (pi e) p1,lbH (pi e) p1,[pi e],rfl,rfl,tH,⟨⟨2001,rfl⟩,trivial⟩,⟨⟨2001,rfl⟩,trivial⟩,zhG p1 _ e,rfl,rfl,by decide,tS,rfl,rfl,⟨zA,rfl⟩⟩)|(have:=b10;exact ⟨_,_,_,[4],[.box 1 0],[p1],zhx g (mAt g k) k (⟨s.st,s.kn.set i true,IntKind.i64.wrap (s.wk + 1)⟩) us (pi 0) p1,zhx g (mAt g k) k (⟨s.st,s.kn.set i true,IntKind.i64.wrap (s.wk + 1)⟩) us (pi 0) p1,[pi 0],rfl,rfl,tH,⟨⟨2001,rfl⟩,trivial⟩,⟨⟨2001,rfl⟩,trivial⟩,zfm g (mAt g k) k _ us _ p1,rfl,rfl,by decide,tS,rfl,rfl,tH⟩)|(have:=b11;exact ⟨_,_,_,[4],[.box 1 0],[p1],lbH (pi 0) p1,lbH (pi e) p1,[pi e],rfl,rfl,tH,⟨⟨2001,rfl⟩,trivial⟩,⟨⟨2001,rfl⟩,trivial⟩,zhG p1 _ e,rfl,rfl,by decide,tS,rfl,rfl,⟨zA,rfl⟩⟩)|(have:=b12;exact ⟨_,_,_,[4],[.box 1 0],[p1],zhx g (mAt g k) k (s2) us (pi 0) p1,zhx g (mAt g k) k (s2) us (pi 0) p1,[pi 0],rfl,rfl,tH,⟨⟨2001,rfl⟩,trivial⟩,⟨⟨2001,rfl⟩,trivial⟩,zfm g (mAt g k) k _ us _ p1,rfl,rfl,by decide,tS,rfl,rfl,tH⟩)|(have:=b8;exact ⟨_,_,_,[4],[.box 1 0],[p1],zhx g (mAt g k) k (s3) us (pi 0) p1,zhx g (mAt g k) k (s3) us (pi 0) p1,[pi 0],rfl,rfl,tH,⟨⟨2001,rfl⟩,trivial⟩,⟨⟨2001,rfl⟩,trivial⟩,zfm g (mAt g k) k _ us _ p1,rfl,rfl,by decide,tS,rfl,rfl,tH⟩)|fail)):G:=h
theorem zuI {g:Img} (hc:(qG g).2=0) {k:Int} (hm:mOk g k) {s:VS} (hs:LenV (mAt g k).code.length s) (hok:OkV (mAt g k).code.length s) (hwk:0≤s.wk∧s.wk≤900000) (i:Nat) (hi:i < (mAt g k).code.length)
  (hon:onV (mAt g k) i=0) (us:Nat→Value) :
  ACallM Tryz.prog 35 [.box 10 0,.pv (pi (i:Int))] (rnH g (mAt g k) k s++qE us [10]) (.pv (pi (zxF (zeU g k i s)))) (zxH g (mAt g k) k us (zeU g k i s)):=by
 have hF:=(Xc (Qo hc).1).formed;have hM:=(Xb hF hm).small;have hfm:=(Xb hF hm).formed;have hit:((i:Nat):Int).toNat < (mAt g k).code.length:=by omega
 have cs:=zbR g hc hm (a:=i) zwy62 hit (YM s i) (by have:=zdi hok i;omega);have hW:s.wk + 1=IntKind.i64.wrap (s.wk + 1):=by rw [wrap_in zwy62 zwy62]
 have hW0:0≤IntKind.i64.wrap (s.wk + 1)∧IntKind.i64.wrap (s.wk + 1)≤900001:=by rw [←hW];omega
 have hV:zeU g k i s=match stepS g k i (YM s i) with
   | .error e=>.error e
   | .ok p=>zgU g (mAt g k) i p.2 ⟨s.st,s.kn.set i true,IntKind.i64.wrap (s.wk + 1)⟩:=by
  rw [zeU,←hW];rfl
 have hnx:Qr (YN (mAt g k) i)=true→(i:Int) + 1 < (mAt g k).code.length:=fun h=>by
  rw [onV,h] at hon;apply Classical.byContradiction;intro hn;rw [decide_eq_false hn] at hon;simp at hon
 have hpl:ZU (YN (mAt g k) i)=true→0≤(qm (mAt g k) i).arg∧(qm (mAt g k) i).arg.toNat < (mAt g k).code.length:=zkh hfm hit;have hei:((mAt g k).code.map qx)[((i:Nat):Int).toNat]?=some (qx (qm (mAt g k) i)):=by rw [qm,zT hit];exact zY hit
 have cw:=znv g (mAt g k) i zwy62 hit;have cg:=goes_call (YN (mAt g k) i);have h1:=hs.st;have h2:=hs.kn;have e1:(s.st.map tys)[i]?=some (tys (YM s i)):=by
  have:YM s i=s.st[i]'zwy62:=by rw [YM];exact zT zwy62
  rw [this];exact zY zwy62
 have e2:(s.kn.map pb)[i]?=some (pb (s.kn[i]'zwy62)):=zY zwy62;have l1:i < (s.st.map tys).length:=by rw [List.length_map];omega
 have l2:i < (s.kn.map pb).length:=by rw [List.length_map];omega
 have hb2:∀ p,stepS g k i (YM s i)=.ok p→p.2.length≤12:=fun p hp=>by
  have hb:=(zwl g (Xp g (mAt g k)) (mAt g k) (qm (mAt g k) i) _ _ _ hp).1;have hg:=zdi hok i;rcases hb with hb|hb <;> omega
 have hnz:=fun e (h:stepS g k i (YM s i)=.error e)=>zqs h
 obtain ⟨s1,hs1⟩:∃ s1:VS,s1=⟨s.st,s.kn.set i true,IntKind.i64.wrap (s.wk + 1)⟩:=⟨_,rfl⟩
 generalize stepS g k i (YM s i)=r at cs hV hb2 hnz;refine zov zf Tryz.func35 rfl zws Tryz.ntmps35 zwy63 _ rfl ?_;refine za0 (za3 fun gB=>?_)
 repeat' (first|refine ZC zf 1 rfl rfl rfl rfl rfl rfl rfl ?_|refine sK ?_|refine sC (fun _=>?_) (fun _=>?_)|fail)
 refine zhz 1 2001 rfl rfl fun p1=>?_
 refine za0 (zgb (k:=1) rfl rfl rfl rfl rfl fun gB=>?_)
 repeat' (first|refine sK ?_|refine sC (fun _=>?_) (fun _=>?_)|fail)
 refine ⟨_,_,[p1],rfl,⟨⟨2001,rfl⟩,trivial⟩,?_⟩;refine za3 fun gB=>?_
 cases r with
 | error e =>
  simp only at hV;have he:=hnz e rfl;have he0:(e==0)=false:=by simpa using he
  rw [hV];have b0:=();exact zwk20
 | ok p =>
  obtain ⟨⟨⟩,l⟩:=p;have hl12:l.length≤1000:=by have:=hb2 _ rfl;simp only at this;omega
  have hl13:l.length≤12:=hb2 _ rfl;simp only at hV;have hs1:LenV (mAt g k).code.length ⟨s.st,s.kn.set i true,IntKind.i64.wrap (s.wk + 1)⟩:=⟨h1,by simp [h2]⟩
  have ok1:OkV (mAt g k).code.length ⟨s.st,s.kn.set i true,IntKind.i64.wrap (s.wk + 1)⟩:=⟨hok.len,hok.st⟩
  have ow1:0≤(⟨s.st,s.kn.set i true,IntKind.i64.wrap (s.wk + 1)⟩:VS).wk∧(⟨s.st,s.kn.set i true,IntKind.i64.wrap (s.wk + 1)⟩:VS).wk≤900001:=hW0;have hwi:IntKind.i64.wrap ((i:Int) + 1)=(i:Int) + 1:=wrap_in zwy62 zwy62;rw [zgU] at hV
  repeat' (first|refine zy rfl (au (k:=i) (j:=0) e1) rfl rfl ?_|refine zq rfl (au (k:=i) (j:=0) e1) rfl rfl ?_|refine zV 23 22 rfl zws zws zws zws zws ?_|refine zy rfl (aj (ps:=(zfj g (mAt g k)))) rfl rfl ?_|refine zq rfl (aj (ps:=(zfj g (mAt g k)))) rfl rfl ?_|(refine shC ?_;first|refine qC cs ?_|refine qC (yx rfl 0) ?_|refine qC cw ?_|refine qC cg ?_)|(refine shX ?_;first|refine zy rfl (ak (k:=i) l1) rfl rfl ?_|refine zq rfl (ak (k:=i) l1) rfl rfl ?_|refine zy rfl (ak (k:=i) l2) rfl rfl ?_|refine zq rfl (ak (k:=i) l2) rfl rfl ?_)|(refine Yd ?_;first|refine XP (k:=i) (j:=0) zf rfl rfl rfl rfl rfl e2 rfl rfl rfl rfl rfl ?_)|refine sA ?_|fail)
  refine zkY 12 rfl (List.map_set ..).symm ?_;generalize Qr (YN (mAt g k) i)=nx at *;generalize ZU (YN (mAt g k) i)=pl at *;have step2:∀ s2:VS,LenV (mAt g k).code.length s2→OkV (mAt g k).code.length s2→0≤s2.wk∧s2.wk≤1000000→pl=true→∀ us,Qe Tryz.prog 69 [.box 10 0,.pv (pi i),.pv (pi (qm (mAt g k) i).arg),.pv (tys l)] (rnH g (mAt g k) k s2++qE us [10]) (outT g (mAt g k) k us (toV g (mAt g k) i (qm (mAt g k) i).arg l s2)) :=
   fun s2 a b c d us=>zqI (VH hF) (mAt g k) k a i _ (by have:=zdi b (qm (mAt g k) i).arg;omega) c (hpl d).1 (hpl d).2 l hl12 us
  cases nx
  ·simp only [Bool.false_eq_true,if_false] at hV;cases pl
   ·simp only [Bool.false_eq_true,if_false] at hV;rw [hV];have b10:=();exact zwk20
   ·simp only [if_true] at hV;have cT:=step2 ⟨s.st,s.kn.set i true,IntKind.i64.wrap (s.wk + 1)⟩ hs1 ok1 ⟨ow1.1,by have:=ow1.2;omega⟩ rfl;rw [hV];cases ht:toV g (mAt g k) i (qm (mAt g k) i).arg l ⟨s.st,s.kn.set i true,IntKind.i64.wrap (s.wk + 1)⟩ with
    | error e =>
     have b5:=();have b6:=();have b9:=();have b11:=();exact zwk20
    | ok s2 =>
     have b1:=();have b9:=();have b12:=();exact zwk20
  ·simp only [if_true] at hV;have hi1:=hnx rfl;have cN:∀ us,Qe Tryz.prog 69 [.box 10 0,.pv (pi i),.pv (pi (IntKind.i64.wrap ((i:Int) + 1))),.pv (tys l)] (rnH g (mAt g k) k ⟨s.st,s.kn.set i true,IntKind.i64.wrap (s.wk + 1)⟩++qE us [10]) (outT g (mAt g k) k us (toV g (mAt g k) i ((i:Int) + 1) l ⟨s.st,s.kn.set i true,IntKind.i64.wrap (s.wk + 1)⟩)) :=
    fun us=>by rw [hwi];exact zqI (VH hF) (mAt g k) k hs1 i _ (by have:=zdi ok1 ((i:Int) + 1);omega) ⟨ow1.1,by have:=ow1.2;omega⟩ zwy62 zwy62 l hl12 us
   cases hn:toV g (mAt g k) i ((i:Int) + 1) l ⟨s.st,s.kn.set i true,IntKind.i64.wrap (s.wk + 1)⟩ with
   | error e =>
    rw [hn] at hV;simp only at hV;rw [hV];have b2:=();have b11:=();exact zwk20
   | ok s2 =>
    rw [hn] at hV;simp only at hV;obtain ⟨ok2,w2⟩:=ztK ok1 hl13 hn;have hs2:=zdv hs1 hn;have ow2:0≤s2.wk∧s2.wk≤1000000:=by have:=ow1.1;have:=ow1.2;rw [w2];omega
    cases pl
    ·simp only [Bool.false_eq_true,if_false] at hV;rw [hV];have b3:=();have b12:=();exact zwk20
    ·simp only [if_true] at hV;have cT:=step2 s2 hs2 ok2 ow2 rfl;rw [hV];cases ht:toV g (mAt g k) i (qm (mAt g k) i).arg l s2 with
     | error e =>
      have b4:=();have b5:=();have b7:=();have b9:=();have b11:=();exact zwk20
     | ok s3 =>
      have b4:=();have b8:=();have b9:=();exact zwk20
end Go.Cg
