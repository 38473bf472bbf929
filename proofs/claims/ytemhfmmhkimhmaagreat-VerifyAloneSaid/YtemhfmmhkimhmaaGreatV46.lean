/- A part of the walks by abstract values: no statement of its own. -/
import Derived.Test.YtemhfmmhkimhmaaGreatV39
import Derived.Test.YtemhfmmhkimhmaaGreatV28
import Derived.Test.YtemhfmmhkimhmaaGreatV41
import Derived.Test.YtemhfmmhkimhmaaGreatV45
import Derived.Test.YtemhfmmhkimhmaaGreatV34
import Derived.Test.YtemhfmmhkimhmaaGreatV44
import Derived.Test.YtemhfmmhkimhmaaGreatV18
import Derived.Test.YtemhfmmhkimhmaaGreatV15
import Derived.Test.YtemhfmmhkimhmaaGreatV22
import Derived.Test.YtemhfmmhkimhmaaGreatV13
import Derived.Test.YtemhfmmhkimhmaaGreatV38
set_option linter.unusedVariables false
set_option linter.unusedSimpArgs false
namespace Go.Cg
open Go.Proofs
set_option maxHeartbeats 20000000
abbrev zeL (g:Img) (m:Me):List PV:=[.slc 4 (g.types.map Zx) false,.slc 7 (g.fields.map ZI) false,.slc 12 (g.methods.map zY) false,pi g.entry,ps m.name,pi m.owner,pi m.flags,tys m.params,pi m.ret.kind,pi m.ret.index,pi m.ret.dims,pb m.ret.ref,tys m.locals,pi m.max,.slc 6 (m.code.map ql) false,.slc 10 (m.clauses.map qN) false]
theorem tHR {P:Prop} (h:P:=by repeat (first|exact zB|refine aB ?_)):P:=h
theorem zhL (p1:Value) (e0 e:Int):DCall Tryz.prog 49 (lbH (pi e0) p1) [.box 1 0] (.panicking [{ v:=zhy e,recovered:=false }]) (.panicking [{ v:=zhy e,recovered:=true }]) (lbH (pi e) p1):=by
 refine WA Tryz.func49 rfl zws rfl (fun g K ρ w vs hds hf hv c₀ cs hu=>?_);obtain ⟨v1,rfl⟩:=List.length_eq_one_iff.1 hv.1;have r1:=hv.2 0 _ v1 rfl rfl;refine wpS_seq ?_;refine wpS_region ?_;have h1:=zbf (P:=Tryz.prog) (xt:=20) (v:=.int .i64 e) (w:=w) Tryz.underlying91;simp [wpOpsS,go_sem,recoverD,hu,Tryz.ntmps49,Exit.thenS,zhy,h1];refine zfU (n:=10) (g:=g) (env:=[(0,.box 1 0),(1,.pv (pi e)),(2,.pv (pb true))]) (H:=lbH (pi e0) p1) (QQ:=zrh (lbH (pi e) p1)) ?_
  ⟨by simp,by rw [hds],K,ρ,hf,YD (v:=v1) zwy63 r1 (YD (v:=.int .i64 e) zwy63 (.pv _ _ (.base _ rfl)) (YD (v:=.bool true) zwy63 (.pv _ _ (.base _ rfl)) zcj))⟩
  (fun ex a' w' env' H' hi hq=>⟨hq.1,hi.defers.trans hds,rfl,zgr hi hq.2⟩)
 repeat' (first|refine sK ?_|refine sC (fun _=>?_) (fun _=>?_)|fail)
 exact ⟨.inl rfl,tH⟩
abbrev zhp (g:Img) (m:Me) (k:Int) (s:VS) (us:Nat->Value) (e:PV) (p1:Value):HEnv:=lbH e p1++(rnH g m k s++qB us [10])
theorem zfy (g:Img) (m:Me) (k:Int) (s:VS) (us:Nat->Value) (e:PV) (p1:Value):DCall Tryz.prog 49 (zhp g m k s us e p1) [.box 1 0] .returning .returning (zhp g m k s us e p1):=by
 refine WA Tryz.func49 rfl zws rfl (fun g1 K ρ w vs hds hf hv c₀ cs hu=>?_);obtain ⟨v1,rfl⟩:=List.length_eq_one_iff.1 hv.1;refine wpS_seq ?_;refine wpS_region ?_;have hz:=ziE (P:=Tryz.prog) (w:=w) (z:=.int .i64 0) zf (ty:=91) rfl;have h1:=zaj (P:=Tryz.prog) (xt:=20) (w:=w) Tryz.underlying91 hz;simp [wpOpsS,go_sem,recoverD,hu,Tryz.ntmps49,Exit.thenS,h1];refine zfU (n:=10) (g:=g1) (env:=[(2,.pv (pb false))]) (H:=zhp g m k s us e p1) (QQ:=zrh (zhp g m k s us e p1)) ?_
  ⟨by simp,by rw [hds],K,ρ,hf,YD (v:=.bool false) zwy63 (.pv _ _ (.base _ rfl)) zcj⟩
  (fun ex a' w' env' H' hi hq=>⟨hq.1,hi.defers.trans hds,by cases c₀;simp_all,zgr hi hq.2⟩)
 repeat' (first|refine sK ?_|refine sC (fun _=>?_) (fun _=>?_)|fail)
 exact ⟨.inl rfl,tH⟩
theorem zlC {g:Img} {m:Me} {i t:Int} {l:List Ty} {n:Nat} {s s':VS} (h:LenV n s) (ht:toV g m i t l s=.ok s'):LenV n s':=by
 unfold toV at ht;split at ht
 ·cases ht
 ·split at ht
  ·split at ht
   ·cases ht;exact ⟨h.st,h.kn⟩
   ·cases ht
  ·split at ht
   ·cases ht;exact ⟨by simp [qR,h.st],by simp [qR,h.kn]⟩
   ·split at ht
    ·cases ht;exact ⟨by simp [h.st],h.kn⟩
    ·cases ht
def zw7:Except Int VS->Int
 | .ok _=>0
 | .error e=>e
def zw5 (g:Img) (m:Me) (k:Int) (us:Nat->Value):Except Int VS->HEnv
 | .ok s=>rnH g m k s++qB us [10]
 | .error _=>[]
theorem zwk20 {G:Prop} (h:G:=by repeat' (first|(have:=b0;refine zy rfl (au (k:=i) (j:=0) e1) rfl rfl ?_)|(have:=b0;refine zq rfl (au (k:=i) (j:=0) e1) rfl rfl ?_)|(have:=b0;refine zZ 23 22 rfl zws zws zws zws zws ?_)|(have:=b0;refine zy rfl (aj (ps:=(zeL g (mAt g k)))) rfl rfl ?_)|(have:=b0;refine zq rfl (aj (ps:=(zeL g (mAt g k)))) rfl rfl ?_)|(have:=b0;refine zo 5 3 rfl rfl rfl ?_)|(have:=b0;refine zb2 [] (lbH (pi e) p1) zi rfl rfl rfl zwy67 rfl (qh he0 e) ?_)|(refine shC ?_;first|(have:=b0;refine qC cs ?_))|(have:=b1;refine zdo (rnH g (mAt g k) k (⟨s.st,s.kn.set i true,IntKind.i64.wrap (s.wk + 1)⟩)) (rnH g (mAt g k) k (s2)) [(1,.cell (.pv (pi 0))),(2001,.pin (.box 1 0) p1),(1010,.pin (.own 10) (us 10))] [(0,.box 10 0),(1,.pv (pi i)),(4,.box 1 0),(5,.pv (tys l)),(6,.fn (.func 52) [.box 10 0] []),(8,.pv (pb true))] [10] zi rfl rfl rfl rfl tHR tS rfl rfl rfl (fun us=>by have h:=cT us;rw [ht] at h;exact h) ?_)|(have:=b2;refine zo 9 5 rfl rfl rfl ?_)|(have:=b2;refine zij (rnH g (mAt g k) k (⟨s.st,s.kn.set i true,IntKind.i64.wrap (s.wk + 1)⟩)++qB us [10]) (lbH (pi 0) p1) zi rfl rfl rfl rfl tHR rfl (by have h:=cN us;rw [hn] at h;exact h) ?_)|(have:=b3;refine zdo (rnH g (mAt g k) k (⟨s.st,s.kn.set i true,IntKind.i64.wrap (s.wk + 1)⟩)) (rnH g (mAt g k) k (s2)) [(1,.cell (.pv (pi 0))),(2001,.pin (.box 1 0) p1),(1010,.pin (.own 10) (us 10))] [(0,.box 10 0),(1,.pv (pi i)),(4,.box 1 0),(5,.pv (tys l)),(6,.fn (.func 52) [.box 10 0] []),(8,.pv (pb false))] [10] zi rfl rfl rfl rfl tHR tS rfl rfl rfl (fun us=>by have h:=cN us;rw [hn] at h;exact h) ?_)|(have:=b4;refine zdo (rnH g (mAt g k) k (⟨s.st,s.kn.set i true,IntKind.i64.wrap (s.wk + 1)⟩)) (rnH g (mAt g k) k (s2)) [(1,.cell (.pv (pi 0))),(2001,.pin (.box 1 0) p1),(1010,.pin (.own 10) (us 10))] [(0,.box 10 0),(1,.pv (pi i)),(4,.box 1 0),(5,.pv (tys l)),(6,.fn (.func 52) [.box 10 0] []),(8,.pv (pb true))] [10] zi rfl rfl rfl rfl tHR tS rfl rfl rfl (fun us=>by have h:=cN us;rw [hn] at h;exact h) ?_)|(have:=b5;refine zo 11 13 rfl rfl rfl ?_)|(have:=b6;refine zij (rnH g (mAt g k) k (⟨s.st,s.kn.set i true,IntKind.i64.wrap (s.wk + 1)⟩)++qB us [10]) (lbH (pi 0) p1) zi rfl rfl rfl rfl tHR rfl (by have h:=cT us;rw [ht] at h;exact h) ?_)|(have:=b7;refine zij (rnH g (mAt g k) k (s2)++qB us [10]) (lbH (pi 0) p1) zi rfl rfl rfl rfl tHR rfl (by have h:=cT us;rw [ht] at h;exact h) ?_)|(have:=b8;refine zdo (rnH g (mAt g k) k (s2)) (rnH g (mAt g k) k (s3)) [(1,.cell (.pv (pi 0))),(2001,.pin (.box 1 0) p1),(1010,.pin (.own 10) (us 10))] [(0,.box 10 0),(1,.pv (pi i)),(4,.box 1 0),(5,.pv (tys l)),(6,.fn (.func 52) [.box 10 0] []),(8,.pv (pb true))] [10] zi rfl rfl rfl rfl tHR tS rfl rfl rfl (fun us=>by have h:=cT us;rw [ht] at h;exact h) ?_)|(refine shX ?_;first|(have:=b0;refine zy rfl (aA (k:=i) l1) rfl rfl ?_)|(have:=b0;refine zq rfl (aA (k:=i) l1) rfl rfl ?_)|(have:=b0;refine zy rfl (aA (k:=i) l2) rfl rfl ?_)|(have:=b0;refine zq rfl (aA (k:=i) l2) rfl rfl ?_)|(have:=b9;refine qX hei ?_))|(have:=b0;refine ZN ?_;first|refine YR (k:=i) (j:=0) zf rfl rfl rfl rfl rfl e2 rfl rfl rfl rfl rfl ?_)|refine sK ?_|refine sC (fun _=>?_) (fun _=>?_)|(have:=b0;exact ⟨_,_,_,[4],[.box 1 0],[p1],lbH (pi e) p1,lbH (pi e) p1,[pi e],rfl,rfl,tH,⟨⟨2001,rfl⟩,trivial⟩,⟨⟨2001,rfl⟩,trivial⟩,zhL p1 _ e,rfl,rfl,by decide,tS,rfl,rfl,⟨zB,rfl⟩⟩)|(have:=b10;exact ⟨_,_,_,[4],[.box 1 0],[p1],zhp g (mAt g k) k (⟨s.st,s.kn.set i true,IntKind.i64.wrap (s.wk + 1)⟩) us (pi 0) p1,zhp g (mAt g k) k (⟨s.st,s.kn.set i true,IntKind.i64.wrap (s.wk + 1)⟩) us (pi 0) p1,[pi 0],rfl,rfl,tH,⟨⟨2001,rfl⟩,trivial⟩,⟨⟨2001,rfl⟩,trivial⟩,zfy g (mAt g k) k _ us _ p1,rfl,rfl,by decide,tS,rfl,rfl,tH⟩)|(have:=b11;exact ⟨_,_,_,[4],[.box 1 0],[p1],lbH (pi 0) p1,lbH (pi e) p1,[pi e],rfl,rfl,tH,⟨⟨2001,rfl⟩,trivial⟩,⟨⟨2001,rfl⟩,trivial⟩,zhL p1 _ e,rfl,rfl,by decide,tS,rfl,rfl,⟨zB,rfl⟩⟩)|(have:=b12;exact ⟨_,_,_,[4],[.box 1 0],[p1],zhp g (mAt g k) k (s2) us (pi 0) p1,zhp g (mAt g k) k (s2) us (pi 0) p1,[pi 0],rfl,rfl,tH,⟨⟨2001,rfl⟩,trivial⟩,⟨⟨2001,rfl⟩,trivial⟩,zfy g (mAt g k) k _ us _ p1,rfl,rfl,by decide,tS,rfl,rfl,tH⟩)|(have:=b8;exact ⟨_,_,_,[4],[.box 1 0],[p1],zhp g (mAt g k) k (s3) us (pi 0) p1,zhp g (mAt g k) k (s3) us (pi 0) p1,[pi 0],rfl,rfl,tH,⟨⟨2001,rfl⟩,trivial⟩,⟨⟨2001,rfl⟩,trivial⟩,zfy g (mAt g k) k _ us _ p1,rfl,rfl,by decide,tS,rfl,rfl,tH⟩)|fail)):G:=h
theorem zsl {g:Img} (hc:(yX g).2=0) {k:Int} (hm:mOk g k) {s:VS} (hs:LenV (mAt g k).code.length s) (hok:OkV (mAt g k).code.length s) (hwk:0<=s.wk/\s.wk<=900000) (i:Nat) (hi:i < (mAt g k).code.length)
  (hon:onV (mAt g k) i=0) (us:Nat->Value) :
  ACallM Tryz.prog 24 [.box 10 0,.pv (pi (i:Int))] (rnH g (mAt g k) k s++qB us [10]) (.pv (pi (zw7 (zej g k i s)))) (zw5 g (mAt g k) k us (zej g k i s)):=by
 have hF:=(zaw (zbm hc).1).formed;have hM:=(XB hF hm).small;have hfm:=(XB hF hm).formed;have hit:((i:Nat):Int).toNat < (mAt g k).code.length:=by omega
 have cs:=zow g hc hm (a:=i) zwy62 hit (zak s i) (by have:=zdG hok i;omega);have hW:s.wk + 1=IntKind.i64.wrap (s.wk + 1):=by rw [wrap_in zwy62 zwy62]
 have hW0:0<=IntKind.i64.wrap (s.wk + 1)/\IntKind.i64.wrap (s.wk + 1)<=900001:=by rw [<-hW];omega
 have hV:zej g k i s=match stepS g k i (zak s i) with
   | .error e=>.error e
   | .ok p=>zd5 g (mAt g k) i p.2 ⟨s.st,s.kn.set i true,IntKind.i64.wrap (s.wk + 1)⟩:=by
  rw [zej,<-hW];rfl
 have hnx:zea (zal (mAt g k) i)=true->(i:Int) + 1 < (mAt g k).code.length:=fun h=>by
  rw [onV,h] at hon;apply Classical.byContradiction;intro hn;rw [decide_eq_false hn] at hon;simp at hon
 have hpl:zao (zal (mAt g k) i)=true->0<=(qy (mAt g k) i).arg/\(qy (mAt g k) i).arg.toNat < (mAt g k).code.length:=zr5 hfm hit;have hei:((mAt g k).code.map ql)[((i:Nat):Int).toNat]?=some (ql (qy (mAt g k) i)):=by rw [qy,zQ hit];exact zT hit
 have cw:=zlS g (mAt g k) i zwy62 hit;have cg:=goes_call (zal (mAt g k) i);have h1:=hs.st;have h2:=hs.kn;have e1:(s.st.map tys)[i]?=some (tys (zak s i)):=by
  have:zak s i=s.st[i]'zwy62:=by rw [zak];exact zQ zwy62
  rw [this];exact zT zwy62
 have e2:(s.kn.map pb)[i]?=some (pb (s.kn[i]'zwy62)):=zT zwy62;have l1:i < (s.st.map tys).length:=by rw [List.length_map];omega
 have l2:i < (s.kn.map pb).length:=by rw [List.length_map];omega
 have hb2:∀ p,stepS g k i (zak s i)=.ok p->p.2.length<=12:=fun p hp=>by
  have hb:=(zvF g (Qr g (mAt g k)) (mAt g k) (qy (mAt g k) i) _ _ _ hp).1;have hg:=zdG hok i;rcases hb with hb|hb <;> omega
 have hnz:=fun e (h:stepS g k i (zak s i)=.error e)=>zpX h
 obtain ⟨s1,hs1⟩:∃ s1:VS,s1=⟨s.st,s.kn.set i true,IntKind.i64.wrap (s.wk + 1)⟩:=⟨_,rfl⟩
 generalize stepS g k i (zak s i)=r at cs hV hb2 hnz;refine zoU zf Tryz.func24 rfl zws Tryz.ntmps24 zwy63 _ rfl ?_;refine zbL (zbD fun gB=>?_)
 repeat' (first|refine ZQ zf 1 rfl rfl rfl rfl rfl rfl rfl ?_|refine sK ?_|refine sC (fun _=>?_) (fun _=>?_)|fail)
 refine zhN 1 2001 rfl rfl fun p1=>?_
 refine zbL (zgw (k:=1) rfl rfl rfl rfl rfl fun gB=>?_)
 repeat' (first|refine sK ?_|refine sC (fun _=>?_) (fun _=>?_)|fail)
 refine ⟨_,_,[p1],rfl,⟨⟨2001,rfl⟩,trivial⟩,?_⟩;refine zbD fun gB=>?_
 cases r with
 | error e =>
  simp only at hV;have he:=hnz e rfl;have he0:(e==0)=false:=by simpa using he
  rw [hV];have b0:=();exact zwk20
 | ok p =>
  obtain ⟨⟨⟩,l⟩:=p;have hl12:l.length<=1000:=by have:=hb2 _ rfl;simp only at this;omega
  have hl13:l.length<=12:=hb2 _ rfl;simp only at hV;have hs1:LenV (mAt g k).code.length ⟨s.st,s.kn.set i true,IntKind.i64.wrap (s.wk + 1)⟩:=⟨h1,by simp [h2]⟩
  have ok1:OkV (mAt g k).code.length ⟨s.st,s.kn.set i true,IntKind.i64.wrap (s.wk + 1)⟩:=⟨hok.len,hok.st⟩
  have ow1:0<=(⟨s.st,s.kn.set i true,IntKind.i64.wrap (s.wk + 1)⟩:VS).wk/\(⟨s.st,s.kn.set i true,IntKind.i64.wrap (s.wk + 1)⟩:VS).wk<=900001:=hW0;have hwi:IntKind.i64.wrap ((i:Int) + 1)=(i:Int) + 1:=wrap_in zwy62 zwy62;rw [zd5] at hV
  repeat' (first|refine zy rfl (au (k:=i) (j:=0) e1) rfl rfl ?_|refine zq rfl (au (k:=i) (j:=0) e1) rfl rfl ?_|refine zZ 23 22 rfl zws zws zws zws zws ?_|refine zy rfl (aj (ps:=(zeL g (mAt g k)))) rfl rfl ?_|refine zq rfl (aj (ps:=(zeL g (mAt g k)))) rfl rfl ?_|(refine shC ?_;first|refine qC cs ?_|refine qC (yF rfl 0) ?_|refine qC cw ?_|refine qC cg ?_)|(refine shX ?_;first|refine zy rfl (aA (k:=i) l1) rfl rfl ?_|refine zq rfl (aA (k:=i) l1) rfl rfl ?_|refine zy rfl (aA (k:=i) l2) rfl rfl ?_|refine zq rfl (aA (k:=i) l2) rfl rfl ?_)|(refine ZN ?_;first|refine YR (k:=i) (j:=0) zf rfl rfl rfl rfl rfl e2 rfl rfl rfl rfl rfl ?_)|refine sA ?_|fail)
  refine zld 12 rfl (List.map_set ..).symm ?_;generalize zea (zal (mAt g k) i)=nx at *;generalize zao (zal (mAt g k) i)=pl at *;have step2:∀ s2:VS,LenV (mAt g k).code.length s2->OkV (mAt g k).code.length s2->0<=s2.wk/\s2.wk<=1000000->pl=true->∀ us,QF Tryz.prog 52 [.box 10 0,.pv (pi i),.pv (pi (qy (mAt g k) i).arg),.pv (tys l)] (rnH g (mAt g k) k s2++qB us [10]) (outT g (mAt g k) k us (toV g (mAt g k) i (qy (mAt g k) i).arg l s2)) :=
   fun s2 a b c d us=>zp0 (zc5 hF) (mAt g k) k a i _ (by have:=zdG b (qy (mAt g k) i).arg;omega) c (hpl d).1 (hpl d).2 l hl12 us
  cases nx
  ·simp only [Bool.false_eq_true,if_false] at hV;cases pl
   ·simp only [Bool.false_eq_true,if_false] at hV;rw [hV];have b10:=();exact zwk20
   ·simp only [if_true] at hV;have cT:=step2 ⟨s.st,s.kn.set i true,IntKind.i64.wrap (s.wk + 1)⟩ hs1 ok1 ⟨ow1.1,by have:=ow1.2;omega⟩ rfl;rw [hV];cases ht:toV g (mAt g k) i (qy (mAt g k) i).arg l ⟨s.st,s.kn.set i true,IntKind.i64.wrap (s.wk + 1)⟩ with
    | error e =>
     have b5:=();have b6:=();have b9:=();have b11:=();exact zwk20
    | ok s2 =>
     have b1:=();have b9:=();have b12:=();exact zwk20
  ·simp only [if_true] at hV;have hi1:=hnx rfl;have cN:∀ us,QF Tryz.prog 52 [.box 10 0,.pv (pi i),.pv (pi (IntKind.i64.wrap ((i:Int) + 1))),.pv (tys l)] (rnH g (mAt g k) k ⟨s.st,s.kn.set i true,IntKind.i64.wrap (s.wk + 1)⟩++qB us [10]) (outT g (mAt g k) k us (toV g (mAt g k) i ((i:Int) + 1) l ⟨s.st,s.kn.set i true,IntKind.i64.wrap (s.wk + 1)⟩)) :=
    fun us=>by rw [hwi];exact zp0 (zc5 hF) (mAt g k) k hs1 i _ (by have:=zdG ok1 ((i:Int) + 1);omega) ⟨ow1.1,by have:=ow1.2;omega⟩ zwy62 zwy62 l hl12 us
   cases hn:toV g (mAt g k) i ((i:Int) + 1) l ⟨s.st,s.kn.set i true,IntKind.i64.wrap (s.wk + 1)⟩ with
   | error e =>
    rw [hn] at hV;simp only at hV;rw [hV];have b2:=();have b11:=();exact zwk20
   | ok s2 =>
    rw [hn] at hV;simp only at hV;obtain ⟨ok2,w2⟩:=ztt ok1 hl13 hn;have hs2:=zlC hs1 hn;have ow2:0<=s2.wk/\s2.wk<=1000000:=by have:=ow1.1;have:=ow1.2;rw [w2];omega
    cases pl
    ·simp only [Bool.false_eq_true,if_false] at hV;rw [hV];have b3:=();have b12:=();exact zwk20
    ·simp only [if_true] at hV;have cT:=step2 s2 hs2 ok2 ow2 rfl;rw [hV];cases ht:toV g (mAt g k) i (qy (mAt g k) i).arg l s2 with
     | error e =>
      have b4:=();have b5:=();have b7:=();have b9:=();have b11:=();exact zwk20
     | ok s3 =>
      have b4:=();have b8:=();have b9:=();exact zwk20
def ztQ (r:Except (Int × Int) VS):PV:=match r with
 | .ok s=>.tup [.agg [.slc 1 (s.st.map tys) false,pi s.wk],pi 0,pi 0]
 | .error e=>.tup [.agg [.base (.slice none 0 0),pi 0],pi e.1,pi e.2]
theorem zuq {g:Img} {m:Me} (h:MeOk g m):∀ c∈m.clauses,zwi m.code.length c:=by
 intro c hm;have hr:=h.formed;simp only [yY,Zz,WM,Bool.and_eq_true,beq_iff_eq] at hr;have h2:=zuD hr.2.2 hm;obtain ⟨j,hj,rfl⟩:=List.getElem_of_mem hm;have ha:=(zfR hr.2.2).1 j hj;rw [zQ hj] at ha;have hk:=zc7 ha;have e3:=hk.h0;exact ⟨⟨e3,h2.1⟩,fun hf=>⟨by have:=hk.f hf;omega,h2.2 hf⟩⟩
abbrev mkB (g:Img) (m:Me):HEnv:=[(1,.cell (.pv (Xw g m))),(0,.cell (.pv (.agg [.base (.slice none 0 0),pi 0])))]
abbrev mkS (n:Nat):Nat × HE:=(11,.mrow 30 1 (List.replicate n (.base (.slice none 0 0))))
abbrev mkK (n:Nat):Nat × HE:=(12,.mrow 4 1 (List.replicate n (pb false)))
theorem zkv (n:Nat):PCL (List.replicate n (.base (.slice none 0 0))) ((List.replicate n []).map tys):=by
 refine ⟨by simp,fun k c d hc hd=>?_⟩;rw [List.map_replicate] at hd;obtain rfl:=List.eq_of_mem_replicate (List.mem_of_getElem? hc);obtain rfl:=List.eq_of_mem_replicate (List.mem_of_getElem? hd);exact qo (za8 4 false) zbr
theorem zrW {g:Img} {m:Me} (h:(zcw g m).2=0) {i:Nat} (hi:i < m.code.length):onV m i=0:=by
 unfold zcw at h;split at h
 ·rename_i j hj;have:=List.find?_some hj;simp at this;exact absurd h this
 ·rename_i hj;rw [List.find?_eq_none] at hj;have:=hj i (List.mem_range.2 hi);simp only [bne_iff_ne,ne_eq,Decidable.not_not] at this;unfold XH at this;apply Classical.byContradiction;intro hn;rw [if_pos (by simpa using hn)] at this;exact hn this
theorem zt4 {g:Img} {k i:Int} {n:Nat} {s s':VS} (h:LenV n s) (ht:zej g k i s=.ok s'):LenV n s':=by
 unfold zej at ht;split at ht
 ·cases ht
 ·unfold zd5 at ht;split at ht
  ·cases ht
  ·rename_i s1 h1;have k1:LenV n s1:=by
    split at h1
    ·exact zlC (show LenV n { s with kn:=s.kn.set i.toNat true,wk:=s.wk + 1 } from ⟨h.st,by simp [h.kn]⟩) h1
    ·cases h1;exact ⟨h.st,by simp [h.kn]⟩
   split at ht
   ·exact zlC k1 ht
   ·cases ht;exact k1
theorem zvC {g:Img} {m:Me} {i t:Int} {l:List Ty} {s:VS} {e:Int} (ht:toV g m i t l s=.error e):e≠0:=by
 unfold toV at ht;split at ht
 ·cases ht;decide
 ·split at ht
  ·split at ht
   ·cases ht
   ·cases ht;decide
  ·split at ht
   ·cases ht
   ·split at ht
    ·cases ht
    ·rename_i h;cases ht;simpa using h
theorem zwm {g:Img} {k i:Int} {s:VS} {e:Int} (ht:zej g k i s=.error e):e≠0:=by
 unfold zej at ht;split at ht
 ·rename_i h;cases ht;exact zpX h
 ·unfold zd5 at ht;split at ht
  ·rename_i h1;cases ht;split at h1
   ·exact zvC h1
   ·cases h1
  ·split at ht
   ·exact zvC ht
   ·cases ht
set_option maxHeartbeats 8000000 in
theorem zkZ {g:Img} (hc:(yX g).2=0) {k:Int} (hm:mOk g k) (hcode:0 < (mAt g k).code.length):ACall Tryz.prog 17 [zK g,pi k,.ptr (zK g) 0] (ztQ (Qh g k)):=by
 have hF:=(zaw (zbm hc).1).formed;have hM:=XB hF hm;have hs:=hM.small;have cf:=zrM hc hm;have he:(g.methods.map zY)[k.toNat]?=some (zY (mAt g k)):=by rw [mAt,zQ hm.2];exact zT hm.2
 have hk0:=hm.1;by_cases ha:(zcw g (mAt g k)).2=0
 ·have e0:((zcw g (mAt g k)).2 != 0)=false:=by simp [ha]
  have hV:Qh g k=goV g k (mAt g k).code.length 0 (zcA (mAt g k)):=by rw [Qh,e0,if_neg zwy63]
  rw [hV];obtain ⟨n,hn⟩:∃ n,n=(mAt g k).code.length:=⟨_,rfl⟩
  have hnl:(((((mAt g k).code.map ql).length:Nat):Int))=((n:Nat):Int):=by rw [List.length_map,hn]
  have hs0:LenV n ⟨List.replicate n [],List.replicate n false,0⟩:=⟨by simp,by simp⟩
  have hcl:∀ c∈(mAt g k).clauses,zwi n c:=by rw [hn];exact zuq hM
  have hst:zcA (mAt g k)=(mAt g k).clauses.foldl QT (qR 0 [] ⟨List.replicate n [],List.replicate n false,0⟩):=by rw [zcA,<-hn]
  have hso:=zsJ (mAt g k);rw [<-hn] at hso;rw [<-hn];refine zh zf Tryz.func17 rfl zws Tryz.ntmps17 zwy63 _ rfl (fun hw gB hgB=>?_)
  repeat' (first|refine zN 1 7 0 zf rfl zws zws zws rfl rfl rfl rfl rfl rfl rfl rfl rfl rfl rfl rfl rfl rfl (fun _=>rfl) rfl rfl rfl ?_|refine ⟨_,_,rfl,rfl,rfl,?_⟩|refine zy rfl (aj (ps:=(zeL g (mAt g k)))) rfl rfl ?_|refine zq rfl (aj (ps:=(zeL g (mAt g k)))) rfl rfl ?_|refine znb (id:=6) rfl ?_|(refine shC ?_;first|refine qC cf ?_)|(refine shX ?_;first|refine zy rfl (ah hk0 he) rfl rfl ?_|refine zq rfl (ah hk0 he) rfl rfl ?_)|refine sA ?_|fail)
  refine zfZ 4 7 [0,1,2,3,4,5,6,7,8,9,10] [0,1,2,3,4,5,6,7,8,9,10] [0,1,2,6,7,3,4,5,8,9,10] [0,1,2,5,6,7,3,4,8,9,10] rfl zws zws (zfZ 5 7 [0,1,2,3,4,5,6,7,8,9,10] [0,1,2,3,4,5,6,7,8,9,10] [0,1,2,3,4,6,7,5,8,9,10] [0,1,2,3,4,7,5,6,8,9,10] rfl zws zws (zmC zws ?_) (zmC zws ?_)) (zmC zws ?_)
  focus
   refine zdY 11 8 [4,5,7] [] (mkL [mkB g (mAt g k),mkS n::mkB g (mAt g k),mkS n::mkB g (mAt g k),mkK n::mkS n::mkB g (mAt g k)]) (mkL [mkB g (mAt g k),mkS n::mkB g (mAt g k),mkS n::mkB g (mAt g k),mkK n::mkS n::mkB g (mAt g k)]) (mkB g (mAt g k)) none rfl zws zws zws zws zws zws (fun p hp=>by simp at hp) rfl (za4 rfl ⟨tH,tH,tH,tH,trivial⟩) rfl (Qp rfl rfl) (fun q h=>Qp rfl rfl q 3 h (Nat.le_refl 3)) tH rfl (fun v hv=>by cases hv) ?_
   repeat' (first|refine YL 4 [0,2] (.own 11) rfl rfl rfl rfl rfl ?_|refine YL 0 [1] (.agg [.own 11,.pv (pi 0)]) rfl rfl rfl rfl rfl ?_|refine YL 1 [] (.own 12) rfl rfl rfl rfl rfl ?_|refine ⟨⟨rfl,WB (m:=n) (sz:=1) zf 11 rfl rfl rfl rfl hnl rfl rfl (by show 24 * _<=_;omega) zwy99 rfl rfl rfl,.inr zws⟩,?_⟩|refine ⟨⟨rfl,WB (m:=n) (sz:=1) zf 12 rfl rfl rfl rfl hnl rfl rfl (by show 1 * _<=_;omega) zwy99 rfl rfl rfl,.inr zws⟩,?_⟩|refine ⟨⟨rfl,zi6 (zbd zf rfl ⟨_,rfl⟩ rfl rfl rfl rfl rfl rfl),.inr zws⟩,?_⟩|refine Xf ?_|intro _|refine Vy ?_|refine zy rfl (zbd zf rfl ⟨_,rfl⟩ rfl rfl rfl rfl rfl rfl) rfl rfl ?_|refine zy rfl (aj (ps:=(zeL g (mAt g k)))) rfl rfl ?_|refine zq rfl (aj (ps:=(zeL g (mAt g k)))) rfl rfl ?_|refine zcd (es:=List.replicate n (.base (.slice none 0 0))) 11 rfl (zkv n) ?_|refine zld (es:=List.replicate n (pb false)) 12 rfl (List.map_replicate ..).symm ?_|(refine XF ?_;first|refine zax 10 rfl rfl rfl rfl rfl rfl ?_)|(refine zu ?_;first|(refine yH (rnH g (mAt g k) k ⟨List.replicate n [],List.replicate n false,0⟩) (rnH g (mAt g k) k (qR 0 [] ⟨List.replicate n [],List.replicate n false,0⟩)) [(0,.cell (.pv (.agg [.base (.slice none 0 0),pi 0])))] [(6,.box 0 0),(12,.pv (pi (((mAt g k).code.map ql).length:Nat))),(13,.box 10 0)] [10] zi rfl rfl rfl ?_ tS rfl rfl rfl (fun us=>Xh g (mAt g k) k hs0 0 ⟨Int.le_refl 0,by show (0:Int).toNat < n;omega⟩ [] _ (za8 4 false) us) ?_;· (repeat (first|exact zB|refine aB ?_)))|(refine yH (rnH g (mAt g k) k (qR 0 [] ⟨List.replicate n [],List.replicate n false,0⟩)) (rnH g (mAt g k) k ((mAt g k).clauses.foldl QT (qR 0 [] ⟨List.replicate n [],List.replicate n false,0⟩))) [(0,.cell (.pv (.agg [.base (.slice none 0 0),pi 0])))] [(6,.box 0 0),(12,.pv (pi (((mAt g k).code.map ql).length:Nat))),(13,.box 10 0)] [10] zi rfl rfl rfl ?_ tS rfl rfl rfl (fun us=>zbS g (mAt g k) k _ (QH hs0 0 []) hcl zwy62 us) ?_;· (repeat (first|exact zB|refine aB ?_))))|refine sK ?_|refine sC (fun _=>?_) (fun _=>?_)|fail)
  rotate_left
  focus
   refine zdY 11 8 [4,6,7] [] (mkL [mkB g (mAt g k),mkS n::mkB g (mAt g k),mkK n::mkS n::mkB g (mAt g k),mkK n::mkS n::mkB g (mAt g k)]) (mkL [mkB g (mAt g k),mkS n::mkB g (mAt g k),mkK n::mkS n::mkB g (mAt g k),mkK n::mkS n::mkB g (mAt g k)]) (mkB g (mAt g k)) none rfl zws zws zws zws zws zws (fun p hp=>by simp at hp) rfl (za4 rfl ⟨tH,tH,tH,tH,trivial⟩) rfl (Qp rfl rfl) (fun q h=>Qp rfl rfl q 3 h (Nat.le_refl 3)) tH rfl (fun v hv=>by cases hv) ?_
   repeat' (first|refine YL 4 [1,2] (.own 11) rfl rfl rfl rfl rfl ?_|refine YL 1 [0] (.own 12) rfl rfl rfl rfl rfl ?_|refine YL 0 [] (.agg [.own 11,.pv (pi 0)]) rfl rfl rfl rfl rfl ?_|refine ⟨⟨rfl,WB (m:=n) (sz:=1) zf 11 rfl rfl rfl rfl hnl rfl rfl (by show 24 * _<=_;omega) zwy99 rfl rfl rfl,.inr zws⟩,?_⟩|refine ⟨⟨rfl,WB (m:=n) (sz:=1) zf 12 rfl rfl rfl rfl hnl rfl rfl (by show 1 * _<=_;omega) zwy99 rfl rfl rfl,.inr zws⟩,?_⟩|refine ⟨⟨rfl,zi6 (zbd zf rfl ⟨_,rfl⟩ rfl rfl rfl rfl rfl rfl),.inr zws⟩,?_⟩|refine Xf ?_|intro _|refine Vy ?_|refine zy rfl (zbd zf rfl ⟨_,rfl⟩ rfl rfl rfl rfl rfl rfl) rfl rfl ?_|refine zy rfl (aj (ps:=(zeL g (mAt g k)))) rfl rfl ?_|refine zq rfl (aj (ps:=(zeL g (mAt g k)))) rfl rfl ?_|refine zcd (es:=List.replicate n (.base (.slice none 0 0))) 11 rfl (zkv n) ?_|refine zld (es:=List.replicate n (pb false)) 12 rfl (List.map_replicate ..).symm ?_|(refine XF ?_;first|refine zax 10 rfl rfl rfl rfl rfl rfl ?_)|(refine zu ?_;first|(refine yH (rnH g (mAt g k) k ⟨List.replicate n [],List.replicate n false,0⟩) (rnH g (mAt g k) k (qR 0 [] ⟨List.replicate n [],List.replicate n false,0⟩)) [(0,.cell (.pv (.agg [.base (.slice none 0 0),pi 0])))] [(6,.box 0 0),(12,.pv (pi (((mAt g k).code.map ql).length:Nat))),(13,.box 10 0)] [10] zi rfl rfl rfl ?_ tS rfl rfl rfl (fun us=>Xh g (mAt g k) k hs0 0 ⟨Int.le_refl 0,by show (0:Int).toNat < n;omega⟩ [] _ (za8 4 false) us) ?_;· (repeat (first|exact zB|refine aB ?_)))|(refine yH (rnH g (mAt g k) k (qR 0 [] ⟨List.replicate n [],List.replicate n false,0⟩)) (rnH g (mAt g k) k ((mAt g k).clauses.foldl QT (qR 0 [] ⟨List.replicate n [],List.replicate n false,0⟩))) [(0,.cell (.pv (.agg [.base (.slice none 0 0),pi 0])))] [(6,.box 0 0),(12,.pv (pi (((mAt g k).code.map ql).length:Nat))),(13,.box 10 0)] [10] zi rfl rfl rfl ?_ tS rfl rfl rfl (fun us=>zbS g (mAt g k) k _ (QH hs0 0 []) hcl zwy62 us) ?_;· (repeat (first|exact zB|refine aB ?_))))|refine sK ?_|refine sC (fun _=>?_) (fun _=>?_)|fail)
  rotate_left
  focus
   refine zdY 11 8 [4,6,7] [] (mkL [mkB g (mAt g k),mkK n::mkB g (mAt g k),mkS n::mkK n::mkB g (mAt g k),mkS n::mkK n::mkB g (mAt g k)]) (mkL [mkB g (mAt g k),mkK n::mkB g (mAt g k),mkS n::mkK n::mkB g (mAt g k),mkS n::mkK n::mkB g (mAt g k)]) (mkB g (mAt g k)) none rfl zws zws zws zws zws zws (fun p hp=>by simp at hp) rfl (za4 rfl ⟨tH,tH,tH,tH,trivial⟩) rfl (Qp rfl rfl) (fun q h=>Qp rfl rfl q 3 h (Nat.le_refl 3)) tH rfl (fun v hv=>by cases hv) ?_
   repeat' (first|refine YL 4 [1,2] (.own 12) rfl rfl rfl rfl rfl ?_|refine YL 1 [0] (.own 11) rfl rfl rfl rfl rfl ?_|refine YL 0 [] (.agg [.own 11,.pv (pi 0)]) rfl rfl rfl rfl rfl ?_|refine ⟨⟨rfl,WB (m:=n) (sz:=1) zf 11 rfl rfl rfl rfl hnl rfl rfl (by show 24 * _<=_;omega) zwy99 rfl rfl rfl,.inr zws⟩,?_⟩|refine ⟨⟨rfl,WB (m:=n) (sz:=1) zf 12 rfl rfl rfl rfl hnl rfl rfl (by show 1 * _<=_;omega) zwy99 rfl rfl rfl,.inr zws⟩,?_⟩|refine ⟨⟨rfl,zi6 (zbd zf rfl ⟨_,rfl⟩ rfl rfl rfl rfl rfl rfl),.inr zws⟩,?_⟩|refine Xf ?_|intro _|refine Vy ?_|refine zy rfl (zbd zf rfl ⟨_,rfl⟩ rfl rfl rfl rfl rfl rfl) rfl rfl ?_|refine zy rfl (aj (ps:=(zeL g (mAt g k)))) rfl rfl ?_|refine zq rfl (aj (ps:=(zeL g (mAt g k)))) rfl rfl ?_|refine zcd (es:=List.replicate n (.base (.slice none 0 0))) 11 rfl (zkv n) ?_|refine zld (es:=List.replicate n (pb false)) 12 rfl (List.map_replicate ..).symm ?_|(refine XF ?_;first|refine zax 10 rfl rfl rfl rfl rfl rfl ?_)|(refine zu ?_;first|(refine yH (rnH g (mAt g k) k ⟨List.replicate n [],List.replicate n false,0⟩) (rnH g (mAt g k) k (qR 0 [] ⟨List.replicate n [],List.replicate n false,0⟩)) [(0,.cell (.pv (.agg [.base (.slice none 0 0),pi 0])))] [(6,.box 0 0),(12,.pv (pi (((mAt g k).code.map ql).length:Nat))),(13,.box 10 0)] [10] zi rfl rfl rfl ?_ tS rfl rfl rfl (fun us=>Xh g (mAt g k) k hs0 0 ⟨Int.le_refl 0,by show (0:Int).toNat < n;omega⟩ [] _ (za8 4 false) us) ?_;· (repeat (first|exact zB|refine aB ?_)))|(refine yH (rnH g (mAt g k) k (qR 0 [] ⟨List.replicate n [],List.replicate n false,0⟩)) (rnH g (mAt g k) k ((mAt g k).clauses.foldl QT (qR 0 [] ⟨List.replicate n [],List.replicate n false,0⟩))) [(0,.cell (.pv (.agg [.base (.slice none 0 0),pi 0])))] [(6,.box 0 0),(12,.pv (pi (((mAt g k).code.map ql).length:Nat))),(13,.box 10 0)] [10] zi rfl rfl rfl ?_ tS rfl rfl rfl (fun us=>zbS g (mAt g k) k _ (QH hs0 0 []) hcl zwy62 us) ?_;· (repeat (first|exact zB|refine aB ?_))))|refine sK ?_|refine sC (fun _=>?_) (fun _=>?_)|fail)
  rotate_left
  all_goals
   refine zL (fun x:Nat × VS=>[(6,.box 0 0),(13,.box 10 0),(51,.pv (pi (((mAt g k).code.map ql).length:Nat))),(52,.pv (pi x.1))]) (fun x=>rnH g (mAt g k) k x.2++[(0,.cell (.pv (.agg [.base (.slice none 0 0),pi 0])))]) (fun x=>x.1<=n/\goV g k (n - x.1) x.1 x.2=goV g k n 0 (zcA (mAt g k))/\LenV n x.2/\OkV n x.2/\0<=x.2.wk/\x.2.wk<=27 * (x.1:Int)) (fun x=>n - x.1) (0,(mAt g k).clauses.foldl QT (qR 0 [] ⟨List.replicate n [],List.replicate n false,0⟩))
    ⟨by omega,by rw [<-hst];rfl,zeu _ (QH hs0 0 []),by rw [<-hst];exact hso.1,by rw [<-hst,hso.2];exact Int.le_refl 0,by rw [<-hst,hso.2];exact Int.le_refl 0⟩ tS tH ?_
   rintro ⟨i,s⟩ ⟨hin,hgo,hl,hok,w0,w1⟩;dsimp only at hin hgo hl hok w0 w1 ⊢;by_cases hlt:i < n
   ·have hd:decide (((i:Nat):Int) < (((mAt g k).code.map ql).length:Nat))=true:=decide_eq_true (by rw [hnl];omega);have c1:=fun us=>zsl hc hm (s:=s) (by rw [<-hn];exact hl) (by rw [<-hn];exact hok) ⟨w0,by omega⟩ i zwy62 (zrW ha zwy62) us
    rw [show n - i=(n - (i + 1)) + 1 by omega,goV] at hgo;cases hr:zej g k i s with
    | ok s' =>
     rw [hr] at hgo;have ho:=zww hs.2.2.2.2.2 hok hr
     repeat' (first|(refine zu ?_;first|(refine yH (rnH g (mAt g k) k s) (rnH g (mAt g k) k s') [(0,.cell (.pv (.agg [.base (.slice none 0 0),pi 0])))] [(6,.box 0 0),(13,.box 10 0),(51,.pv (pi (((mAt g k).code.map ql).length:Nat))),(52,.pv (pi i))] [10] zi rfl rfl rfl ?_ tS rfl rfl rfl (fun us=>by have h:=c1 us;rw [hr] at h;exact h) ?_;· (repeat (first|exact zB|refine aB ?_))))|refine sK ?_|refine sC (fun _=>?_) (fun _=>?_)|fail)
     exact ⟨(i + 1,s'),⟨hlt,hgo,zt4 hl hr,ho.1,by have:=ho.2.1;show 0<=s'.wk;omega,by have:=ho.2.2;show s'.wk<=27 * ((i + 1:Nat):Int);omega⟩,tD,tS,tH⟩
    | error e =>
     rw [hr] at hgo;have hnz:(e != 0)=true:=by simpa using zwm hr
     repeat' (first|(refine zu ?_;first|(refine yH (rnH g (mAt g k) k s) ([]) [(0,.cell (.pv (.agg [.base (.slice none 0 0),pi 0])))] [(6,.box 0 0),(14,.pv (pi i))] [] zi rfl rfl rfl ?_ tS rfl rfl rfl (fun _=>zmV [10] rfl fun us=>by have h:=c1 us;rw [hr] at h;exact h) ?_;· (repeat (first|exact zB|refine aB ?_))))|refine sK ?_|refine sC (fun _=>?_) (fun _=>?_)|fail)
     exact retq rfl (by rw [<-hgo];rfl)
   ·have hd:decide (((i:Nat):Int) < (((mAt g k).code.map ql).length:Nat))=false:=decide_eq_false (by rw [hnl];omega);have hgo2:goV g k n 0 (zcA (mAt g k))=.ok s:=by rw [<-hgo,show n - i=0 by omega];rfl
    repeat' (first|refine Wx 11 rfl ?_|refine zib 10 11 18 rfl rfl rfl ?_|refine zy rfl (aj (ps:=[.slc 1 (s.st.map tys) false,pi s.wk])) rfl rfl ?_|refine zq rfl (aj (ps:=[.slc 1 (s.st.map tys) false,pi s.wk])) rfl rfl ?_|refine sK ?_|refine sC (fun _=>?_) (fun _=>?_)|fail)
    exact retq rfl (by rw [hgo2];rfl)
 ·have e0:((zcw g (mAt g k)).2 != 0)=true:=by simpa using ha
  have hV:Qh g k=.error (zcw g (mAt g k)):=by rw [Qh,e0,if_pos rfl]
  rw [hV];refine zh zf Tryz.func17 rfl zws Tryz.ntmps17 zwy63 _ rfl (fun hw gB hgB=>?_)
  repeat' (first|refine zN 1 7 0 zf rfl zws zws zws rfl rfl rfl rfl rfl rfl rfl rfl rfl rfl rfl rfl rfl rfl (fun _=>rfl) rfl rfl rfl ?_|refine ⟨_,_,rfl,rfl,rfl,?_⟩|refine zy rfl (aj (ps:=(zeL g (mAt g k)))) rfl rfl ?_|refine zq rfl (aj (ps:=(zeL g (mAt g k)))) rfl rfl ?_|(refine shC ?_;first|refine qC cf ?_)|(refine shX ?_;first|refine zy rfl (ah hk0 he) rfl rfl ?_|refine zq rfl (ah hk0 he) rfl rfl ?_)|refine sK ?_|refine sC (fun _=>?_) (fun _=>?_)|fail)
  exact retq rfl rfl
set_option maxHeartbeats 20000000
theorem zn2 (g:Img) (hx:OkA g) (hc:((yX g).2==0)=false):ACall Tryz.prog 15 [zK g] (.base (.pointer none)):=by
 have c1:=zgA g hx;rw [zi0] at c1;have hc2:((yX g).2 != 0)=true:=by rw [bne,hc];rfl
 generalize (yX g).2=e at c1 hc hc2;refine zh zf Tryz.func15 rfl zws Tryz.ntmps15 zwy63 _ rfl (fun hw gB hgB=>?_)
 repeat' (first|(refine shC ?_;first|refine qC c1 ?_)|refine sK ?_|refine sC (fun _=>?_) (fun _=>?_)|fail)
 exact retq rfl rfl
def za0 (g:Img) (m:Int):Except (Int × Int) VS:=if za7 g&&Vo g m then Qh g m else .error (0,17)
theorem zwk21 {G:Prop} (h:G:=by repeat' (first|(have:=b0;refine zy rfl (VH (b:=true) rfl Tryz.underlying50 rfl rfl) rfl rfl ?_)|(have:=b0;refine zq rfl (VH (b:=true) rfl Tryz.underlying50 rfl rfl) rfl rfl ?_)|(have:=b1;refine zy rfl (VH (b:=false) rfl Tryz.underlying50 rfl rfl) rfl rfl ?_)|(have:=b1;refine zq rfl (VH (b:=false) rfl Tryz.underlying50 rfl rfl) rfl rfl ?_)|(refine shC ?_;first|refine qC c1 ?_|(have:=b1;refine qC c2 ?_)|(have:=b2;refine qC c3 ?_))|refine sK ?_|refine sC (fun _=>?_) (fun _=>?_)|exact retq rfl rfl|fail)):G:=h
theorem zbt (g:Img) (hx:OkA g) (m:Int):ACall Tryz.prog 8 [zK g,pi m] (ztQ (za0 g m)):=by
 have c2:ACall Tryz.prog 16 [zK g,pi m] (pb (Vo g m)):=zo8 g m;cases hwl:za7 g
 ·have hV:za0 g m=.error (0,17):=by rw [za0,hwl];rfl
  have c1:=zn2 g hx hwl;rw [hV];refine zh zf Tryz.func8 rfl zws Tryz.ntmps8 zwy63 _ rfl (fun hw gB hgB=>?_);have b0:=();exact zwk21
 ·have hc:(yX g).2=0:=by simpa [za7] using hwl
  have c1:=zlP g hx hc;cases hk:Vo g m
  ·rw [hk] at c2;have hV:za0 g m=.error (0,17):=by rw [za0,hwl,hk];rfl
   rw [hV];refine zh zf Tryz.func8 rfl zws Tryz.ntmps8 zwy63 _ rfl (fun hw gB hgB=>?_);have b1:=();exact zwk21
  ·rw [hk] at c2;have hV:za0 g m=Qh g m:=by rw [za0,hwl,hk];rfl
   have hk2:=hk;simp only [Vo,Bool.and_eq_true,decide_eq_true_eq] at hk2;have hm:mOk g m:=⟨hk2.1.1,by omega⟩
   have c3:=zkZ hc hm hk2.2;rw [hV];generalize Qh g m=r at c3 ⊢;cases r with
   | ok s =>
    refine zh zf Tryz.func8 rfl zws Tryz.ntmps8 zwy63 _ rfl (fun hw gB hgB=>?_);have b1:=();have b2:=();exact zwk21
   | error e =>
    refine zh zf Tryz.func8 rfl zws Tryz.ntmps8 zwy63 _ rfl (fun hw gB hgB=>?_);have b1:=();have b2:=();exact zwk21
set_option maxHeartbeats 20000000
abbrev zmz:List Ins:=[⟨8,0,⟨0,0,0,false⟩⟩,⟨46,0,⟨0,0,0,false⟩⟩]
abbrev znn:List Ins:=[⟨13,0,⟨0,0,0,false⟩⟩,⟨46,0,⟨0,0,0,false⟩⟩]
abbrev meE (c:List Ins):Me:=⟨⟨#[109]⟩,0,1,[],⟨2,0,0,false⟩,[],2,c,[]⟩
abbrev gE (c:List Ins):Img:=⟨[⟨⟨#[65]⟩,0,-1,[]⟩],[],[meE c],-1⟩
abbrev zw1 (q:PV):PV:=.agg [.slc 4 [wTD 65 (-1)] true,.base (.slice none 0 0),.slc 12 [.agg [.base (.string ⟨#[109]⟩),pi 0,pi 1,.base (.slice none 0 0),pi 2,pi 0,pi 0,pb false,.base (.slice none 0 0),pi 2,q,.base (.slice none 0 0)]] true,pi (-1)]
theorem zhY (x y:Ins):ACall Tryz.prog 11 [.slc 6 [ql x,ql y] true] (zw1 (.slc 6 [ql x,ql y] true)):=by
 refine zh zf Tryz.func11 rfl zws Tryz.ntmps11 zwy63 _ rfl (fun hw gB hgB=>?_)
 repeat' (first|refine sK ?_|refine sC (fun _=>?_) (fun _=>?_)|fail)
 exact retq rfl rfl
theorem ziG (x y:Ins):PTells (zw1 (.slc 6 [ql x,ql y] true)) (zK (gE [x,y])) :=
 zwj (qo (ziu (zcf (zq0 65 (-1)) zeO)) (qo (za8 7 false) (qo (ziu (zcf
  (qo (.refl _) (qo (.refl _) (qo (.refl _) (qo (za8 4 false) (qo (.refl _) (qo (.refl _) (qo (.refl _) (qo (.refl _) (qo (za8 4 false) (qo (.refl _)
   (qo (ziu (zcf (zhB _) (zcf (zhB _) zeO))) (qo (za8 10 false) zbr))))))))))))
  zeO)) (qo (.refl _) zbr))))
theorem znx {c:List Ins} (h:c=zmz\/c=znn):(yX (gE c)).2=0:=by
 have h1:Yz (gE c)=true:=by rcases h with rfl|rfl <;> decide +kernel
 have h2:Yt (gE c)=true:=by rcases h with rfl|rfl <;> decide +kernel
 have h3:∀ j,j < (gE c).types.length->Yr (gE c) j=false:=by
  intro j hj;have:j=0:=by have:(gE c).types.length=1:=rfl;omega
  subst this;rcases h with rfl|rfl <;> decide +kernel
 rw [yX,show zbk (gE c)=true by rw [zbk,zeI h1 h2 h3];rfl];show (stM (gE c) (List.range (gE c).methods.length)).2=0
 rcases h with rfl|rfl <;> decide +kernel
theorem okE {c:List Ins} (h:c=zmz\/c=znn):OkA (gE c):=by
 intro m hm x hx;have hm2:m=meE c:=by simpa [gE] using hm
 rw [hm2] at hx;have hx2:x∈c:=hx;rcases h with rfl|rfl <;> simp at hx2 <;> rcases hx2 with rfl|rfl <;> exact ⟨by decide,by decide⟩
theorem zwM:za0 (gE zmz) 0=.ok ⟨[[],[⟨2,0,0,false⟩]],[true,true],4⟩:=by
 rw [za0,show za7 (gE zmz)=true by rw [za7,znx (.inl rfl)];rfl];rfl
theorem zwW:za0 (gE znn) 0=.error (0,9):=by
 rw [za0,show za7 (gE znn)=true by rw [za7,znx (.inr rfl)];rfl];rfl
theorem Xv:ACall Tryz.prog 5 [] (pb true):=by
 have cA:=zbt (gE zmz) (okE (.inl rfl)) 0;have cB:=zbt (gE znn) (okE (.inr rfl)) 0;rw [zwM] at cA;rw [zwW] at cB;have o1:=zhY ⟨8,0,⟨0,0,0,false⟩⟩ ⟨46,0,⟨0,0,0,false⟩⟩;have o2:=zhY ⟨13,0,⟨0,0,0,false⟩⟩ ⟨46,0,⟨0,0,0,false⟩⟩;have cs:=zbi [⟨2,0,0,false⟩] [⟨2,0,0,false⟩];rw [decide_eq_true rfl] at cs;refine zh zf Tryz.func5 rfl zws Tryz.ntmps5 zwy63 _ rfl (fun hw gB hgB=>?_)
 repeat' (first|refine zeT 11 (ziG ⟨8,0,⟨0,0,0,false⟩⟩ ⟨46,0,⟨0,0,0,false⟩⟩) rfl ?_|refine zeT 20 (ziG ⟨13,0,⟨0,0,0,false⟩⟩ ⟨46,0,⟨0,0,0,false⟩⟩) rfl ?_|refine zeT 47 (zpV ⟨2,0,0,false⟩) rfl ?_|(refine shC ?_;first|refine qC o1 ?_|refine qC o2 ?_|refine qC cA ?_|refine qC cB ?_|refine qC cs ?_)|(refine shX ?_;first|refine zy rfl (zk zf rfl rfl rfl rfl rfl rfl zwy69 rfl) rfl rfl ?_|refine zq rfl (zk zf rfl rfl rfl rfl rfl rfl zwy69 rfl) rfl rfl ?_)|refine sK ?_|refine sC (fun _=>?_) (fun _=>?_)|fail)
 exact retq rfl rfl
def zql (g:Img):Nat->Int
 | 0=>0
 | k + 1=>IntKind.i64.wrap (zql g k + ((g.methods.getD k default).code.length:Int))
def zfT (g:Img):Bool:=WY g||decide (24 < (g.methods.length:Int))||decide (400 < zql g g.methods.length)
theorem zwk22 {G:Prop} (h:G:=by repeat' (first|(refine shC ?_;first|(have:=b0;refine qC c1 ?_))|(refine shX ?_;first|(have:=b1;refine qX he ?_))|refine sK ?_|refine sC (fun _=>?_) (fun _=>?_)|(have:=b2;exact retq rfl (by simp [zn,zfT,h24]))|(have:=b1;exact ⟨k + 1,hlt,by show g.methods.length - (k + 1) < g.methods.length - k;omega,yB rfl (qZ rfl hs.symm (yB rfl (tS))),tH⟩)|(have:=b3;exact retq rfl (by simp [zn,zfT,hl,h24,hk2]))|(have:=b4;exact retq rfl (by simp [zn,zfT,hl]))|fail)):G:=h
theorem zk5 (g:Img):ACall Tryz.prog 6 [zK g] (pb (zfT g)):=by
 have c1:=zrI g;cases hl:WY g
 ·rw [hl] at c1;by_cases h24:24 < (g.methods.length:Int)
  ·have d:decide (24 < (((g.methods.map zY).length:Nat):Int))=true:=decide_eq_true (by rw [List.length_map];exact h24);refine zh zf Tryz.func6 rfl zws Tryz.ntmps6 zwy63 _ rfl (fun hw gB hgB=>?_);have b0:=();have b2:=();exact zwk22
  ·have d:decide (24 < (((g.methods.map zY).length:Nat):Int))=false:=decide_eq_false (by rw [List.length_map];exact h24);refine zh zf Tryz.func6 rfl zws Tryz.ntmps6 zwy63 _ rfl (fun hw gB hgB=>?_)
   repeat' (first|(refine shC ?_;first|refine qC c1 ?_)|refine sK ?_|refine sC (fun _=>?_) (fun _=>?_)|fail)
   refine zL (fun k:Nat=>[(1,.pv (.ptr (zK g) 0)),(3,.pv (pi (zql g k))),(15,.pv (pi (((g.methods.map zY).length:Nat)))),(16,.pv (pi k))]) (fun _=>[]) (fun k=>k<=g.methods.length) (fun k=>g.methods.length - k) 0 zwy62 (tS) tH ?_;intro k hk;by_cases hlt:k < g.methods.length
   ·have he:=zT (f:=zY) hlt;have dl:decide ((k:Int) < (((g.methods.map zY).length:Nat):Int))=true:=decide_eq_true zwy108;have hs:zql g (k + 1)=IntKind.i64.wrap (zql g k + ((g.methods[k].code.map ql).length:Nat)):=by rw [zql,zQ hlt,List.length_map]
    have b1:=();exact zwk22
   ·have dl:decide ((k:Int) < (((g.methods.map zY).length:Nat):Int))=false:=decide_eq_false zwy108;have hk2:k=g.methods.length:=by omega
    have b3:=();exact zwk22
 ·rw [hl] at c1;refine zh zf Tryz.func6 rfl zws Tryz.ntmps6 zwy63 _ rfl (fun hw gB hgB=>?_);have b0:=();have b4:=();exact zwk22
section
variable {g:Img} {m:Me}
end
set_option maxHeartbeats 1000000 in
theorem zfB (g:Img) (m:Int):ACall Tryz.prog 7 [zK g,pi m] (pb (za7 g&&Vo g m)):=by
 have c1:=zlk g;rw [show ((yX g).2==0)=za7 g from rfl] at c1;cases hwl:za7 g
 ·rw [hwl] at c1;refine zh zf Tryz.func7 rfl zws Tryz.ntmps7 zwy63 _ rfl (fun hw gB hgB=>?_)
  repeat' (first|(refine shC ?_;first|refine qC c1 ?_)|refine sK ?_|refine sC (fun _=>?_) (fun _=>?_)|fail)
  exact retq rfl rfl
 ·rw [hwl] at c1;by_cases h0:0<=m
  ·have e0:decide (0<=m)=true:=decide_eq_true h0;by_cases h1:m < g.methods.length
   ·have e1:decide (m < (((g.methods.map zY).length:Nat):Int))=true:=decide_eq_true (by rw [List.length_map];exact h1);have hl:m.toNat < g.methods.length:=by omega
    have he:(g.methods.map zY)[m.toNat]?=some (zY (mAt g m)):=by rw [mAt,zQ hl];exact zT hl
    refine zh zf Tryz.func7 rfl zws Tryz.ntmps7 zwy63 _ rfl (fun hw gB hgB=>?_)
    repeat' (first|(refine shC ?_;first|refine qC c1 ?_)|(refine shX ?_;first|refine zy rfl (ah h0 he) rfl rfl ?_|refine zq rfl (ah h0 he) rfl rfl ?_)|refine sK ?_|refine sC (fun _=>?_) (fun _=>?_)|fail)
    refine ak ?_;simp [zn,Vo,h0,h1]
   ·have e1:decide (m < (((g.methods.map zY).length:Nat):Int))=false:=decide_eq_false (by rw [List.length_map];exact h1);refine zh zf Tryz.func7 rfl zws Tryz.ntmps7 zwy63 _ rfl (fun hw gB hgB=>?_)
    repeat' (first|(refine shC ?_;first|refine qC c1 ?_)|refine sK ?_|refine sC (fun _=>?_) (fun _=>?_)|fail)
    refine ak ?_;simp [zn,Vo,h1]
  ·have e0:decide (0<=m)=false:=decide_eq_false h0;refine zh zf Tryz.func7 rfl zws Tryz.ntmps7 zwy63 _ rfl (fun hw gB hgB=>?_)
   repeat' (first|(refine shC ?_;first|refine qC c1 ?_)|refine sK ?_|refine sC (fun _=>?_) (fun _=>?_)|fail)
   refine ak ?_;simp [zn,Vo,h0]
set_option maxHeartbeats 20000000
abbrev sts (l:List (List Ty)):PV:=.slc 1 (l.map tys) false
theorem zkC:ACall Tryz.prog 10 [.base (.slice none 0 0),.base (.slice none 0 0)] (pb true):=by
 refine zh zf Tryz.func10 rfl zws Tryz.ntmps10 zwy63 _ rfl (fun hw gB hgB=>?_)
 repeat' (first|refine sK ?_|refine sC (fun _=>?_) (fun _=>?_)|fail)
 refine zL (fun k:Nat=>[(0,.pv (.base (.slice none 0 0))),(1,.pv (.base (.slice none 0 0))),(5,.pv (pi k))]) (fun _=>[]) (fun k=>k=0) (fun _=>0) 0 rfl (tS) tH ?_;rintro k rfl
 repeat' (first|refine sK ?_|refine sC (fun _=>?_) (fun _=>?_)|fail)
 exact retq rfl rfl
theorem zuY {l:List (List Ty)} (h:(sts l).lenOk):l.length<=9223372036854775807:=by
 simp [sts,PV.lenOk,maxLen] at h;exact h.1
theorem zly (l:List (List Ty)):ACall Tryz.prog 10 [sts l,sts l] (pb true):=by
 refine zh zf Tryz.func10 rfl zws Tryz.ntmps10 zwy63 _ rfl (fun hw gB hgB=>?_);have hll:l.length<=9223372036854775807:=zuY hw.1
 repeat' (first|refine sK ?_|refine sC (fun _=>?_) (fun _=>?_)|fail)
 refine zL (fun k:Nat=>[(0,.pv (sts l)),(1,.pv (sts l)),(5,.pv (pi k))]) (fun _=>[]) (fun k=>k<=l.length) (fun k=>l.length - k) 0 (Nat.zero_le _) (tS) tH ?_;rintro k hk;by_cases hlt:k < l.length
 ·have he:(l.map tys)[k]?=some (tys l[k]):=by rw [List.getElem?_map,List.getElem?_eq_getElem hlt];rfl
  have hd:decide ((k:Int) < (((l.map tys).length:Nat):Int))=true:=decide_eq_true zwy108;have c1:=zbi l[k] l[k];rw [decide_eq_true rfl] at c1
  repeat' (first|(refine shC ?_;first|refine qC c1 ?_)|(refine shX ?_;first|refine qX he ?_)|refine sK ?_|refine sC (fun _=>?_) (fun _=>?_)|fail)
  exact ⟨k + 1,hlt,tD,tS,tH⟩
 ·have hd:decide ((k:Int) < (((l.map tys).length:Nat):Int))=false:=decide_eq_false zwy108
  repeat' (first|refine sK ?_|refine sC (fun _=>?_) (fun _=>?_)|fail)
  exact retq rfl rfl
abbrev zd8 (m:Me) (c d:PV):PV:=.agg [ps m.name,pi m.owner,pi m.flags,tys m.params,pi m.ret.kind,pi m.ret.index,pi m.ret.dims,pb m.ret.ref,tys m.locals,pi m.max,c,d]
abbrev zkH:PV:=.slc 6 [.agg [pi 13,pi 0,pi 0,pi 0,pi 0,pb false],.agg [pi 46,pi 0,pi 0,pi 0,pi 0,pb false]] true
theorem zvv {l:List Me} {k:Nat} {c d:PV} {m m':Me} (hc:PTells c (.slc 6 (m'.code.map ql) false)) (hd:PTells d (.slc 10 (m'.clauses.map qN) false)) (hm:m'={ m with code:=m'.code,clauses:=m'.clauses }) :
  PCL ((l.map zY).set k (zd8 m c d)) ((l.set k m').map zY):=by
 refine ⟨by simp,fun i a b ha hb=>?_⟩;rw [List.map_set] at hb;rw [List.getElem?_set] at ha hb;by_cases e:k=i
 ·rw [if_pos e] at ha hb;split at ha
  ·rw [if_pos (by assumption)] at hb;simp only [Option.some.injEq] at ha hb;subst ha hb;rw [hm]
   repeat (first|exact zbr|refine qo (PTells.refl _) ?_|refine qo hc ?_|refine qo hd ?_)
  ·cases ha
 ·rw [if_neg e] at ha hb;rw [ha,Option.some.injEq] at hb;subst hb;exact ⟨rfl,fun j c d h1 h2=>by rw [h1,Option.some.injEq] at h2;subst h2;exact .refl _⟩
theorem zuo {g:Img} (hx:OkA g) (o:Int) (m:Me):OkA (Vq g o (Qk m)):=by
 intro m' hm x hx';rw [Vq] at hm;rcases List.mem_or_eq_of_mem_set hm with h|h
 ·exact hx m' h x hx'
 ·subst h;simp only [Qk,zlF,List.mem_cons,List.not_mem_nil,or_false] at hx';rcases hx' with rfl|rfl <;> simp [zd3]
theorem zwk82 {G:Prop} (h:G:=by repeat' (first|(have:=b0;refine Xg true rfl rfl hb ?_)|(have:=b1;refine Xg false rfl rfl hb ?_)|(have:=b2;refine sM ?_)|(have:=b2;refine zcd (es:=((g.methods.map zY).set k (zd8 x zkH (.slc 10 (x.clauses.map qN) false))).set k (zd8 x zkH (.base (.slice none 0 0)))) 12 rfl hpc ?_)|(have:=b2;refine Wx (es:=(g.methods.set k (Qk x)).map zY) 12 rfl ?_)|(have:=b2;refine Xg true rfl rfl q1 ?_)|(have:=b3;refine Xg true rfl rfl q2 ?_)|(refine shC ?_;first|refine qC Xv ?_|refine qC c1 ?_|(have:=b4;refine qC c2 ?_)|(have:=b1;refine qC c3 ?_)|(have:=b2;refine qC c4 ?_)|(have:=b2;refine qC c5 ?_)|(have:=b3;refine qC zkC ?_)|(have:=b5;refine qC (zly s.st) ?_))|(refine shX ?_;first|(have:=b2;refine zy rfl (aA (k:=k) hl1) rfl rfl ?_)|(have:=b2;refine zq rfl (aA (k:=k) hl1) rfl rfl ?_)|(have:=b2;refine zy rfl (aA (k:=k) hl2) rfl rfl ?_)|(have:=b2;refine zq rfl (aA (k:=k) hl2) rfl rfl ?_))|(have:=b3;refine zu ?_;first|(refine zh3 ([]) (cpH g) ([(0,.cell (.pv (.agg [.base (.slice none 0 0),pi 0])))]) ([]) zi rfl rfl rfl ?_ rfl rfl rfl (fun us=>zfb g hlg) ?_;· (repeat (first|exact zB|refine aB ?_))))|(have:=b5;refine zu ?_;first|(refine zh3 ([]) (cpH g) ([(0,.cell (.pv (.agg [.slc 1 (s.st.map tys) false,pi s.wk])))]) ([]) zi rfl rfl rfl ?_ rfl rfl rfl (fun us=>zfb g hlg) ?_;· (repeat (first|exact zB|refine aB ?_))))|(have:=b2;refine ZN ?_;first|refine YR (k:=k) (j:=10) zf rfl rfl rfl rfl rfl hp1 rfl rfl rfl rfl rfl ?_|refine YR (k:=k) (j:=11) zf rfl rfl rfl rfl rfl hp2 rfl rfl rfl rfl rfl ?_)|refine sK ?_|refine sC (fun _=>?_) (fun _=>?_)|exact retq rfl rfl|fail)):G:=h
theorem zgd (g:Img) (hx:OkA g) (m o:Int):ACall Tryz.prog 4 [zK g,pi m,pi o] (pb true):=by
 have c1:=zk5 g;have c2:=zfB g m;have c3:=zfB g o;cases hv:zfT g
 ·rw [hv] at c1;cases h1:(za7 g&&Vo g m)
  ·rw [h1] at c2;refine zh zf Tryz.func4 rfl zws Tryz.ntmps4 zwy63 _ rfl (fun hw gB hgB=>?_);have b4:=();exact zwk82
  ·rw [h1] at c2;by_cases hom:o=m
   ·have hb:(o==m)=true:=by simpa using hom
    refine zh zf Tryz.func4 rfl zws Tryz.ntmps4 zwy63 _ rfl (fun hw gB hgB=>?_);have b0:=();have b4:=();exact zwk82
   ·have hb:(o==m)=false:=by simpa using hom
    cases h2:(za7 g&&Vo g o)
    ·rw [h2] at c3;refine zh zf Tryz.func4 rfl zws Tryz.ntmps4 zwy63 _ rfl (fun hw gB hgB=>?_);have b1:=();have b4:=();exact zwk82
    ·rw [h2] at c3;have hlg:WY g=false:=by
      cases hl:WY g
      ·rfl
      ·simp [zfT,hl] at hv
     simp only [Bool.and_eq_true] at h1 h2;obtain ⟨hw,hm⟩:=h1;obtain ⟨_,ho⟩:=h2;have hc:(yX g).2=0:=by simpa [za7] using hw
     simp only [Vo,Bool.and_eq_true,decide_eq_true_eq] at hm ho;obtain ⟨⟨hm0,hm1⟩,hm2⟩:=hm;obtain ⟨⟨ho0,ho1⟩,ho2⟩:=ho;obtain ⟨k,rfl⟩:∃ k:Nat,o=(k:Int):=⟨o.toNat,by omega⟩
     have hk:k < g.methods.length:=by omega
     obtain ⟨a1,a2,a3⟩:=zoQ hc hm0 ho0 zwy62 hom ho2;obtain ⟨x,hxx⟩:∃ x,x=mAt g k:=⟨_,rfl⟩
     rw [<-hxx] at a1 a2 a3;have hV1:za0 g m=Qh g m:=by rw [za0,if_pos];simp [za7,Vo,hc,hm0,hm1,hm2]
     have hV2:za0 (Vq g k (Qk x)) m=Qh g m:=by
      rw [za0,if_pos,a3];have e1:(Vq g k (Qk x)).methods.length=g.methods.length:=by simp [Vq]
      simp only [za7,Vo,a1,a2,e1,Bool.and_eq_true,decide_eq_true_eq];exact ⟨rfl,⟨hm0,hm1⟩,hm2⟩
     have c4:=zbt g hx m;have c5:=zbt (Vq g k (Qk x)) (zuo hx k x) m;rw [hV1] at c4;rw [hV2] at c5;have hp1:(g.methods.map zY)[k]?=some (zY x):=by rw [hxx,mAt,show ((k:Nat):Int).toNat=k from rfl,zQ hk];exact zT hk
     have hl1:k < (g.methods.map zY).length:=by rw [List.length_map];exact hk
     have hp2:((g.methods.map zY).set k (zd8 x zkH (.slc 10 (x.clauses.map qN) false)))[k]?=some (zd8 x zkH (.slc 10 (x.clauses.map qN) false)):=List.getElem?_set_self hl1;have hl2:k < ((g.methods.map zY).set k (zd8 x zkH (.slc 10 (x.clauses.map qN) false))).length:=by rw [List.length_set];exact hl1
     have hpc:PCL (((g.methods.map zY).set k (zd8 x zkH (.slc 10 (x.clauses.map qN) false))).set k (zd8 x zkH (.base (.slice none 0 0)))) ((g.methods.set k (Qk x)).map zY):=by
      rw [List.set_set];exact zvv (zkI _ _ _) (za8 _ _) rfl
     cases hr:Qh g m with
     | error e =>
      rw [hr] at c4 c5;have q1:(e.1==e.1)=true:=by simp
      have q2:(e.2==e.2)=true:=by simp
      refine zh zf Tryz.func4 rfl zws Tryz.ntmps4 zwy63 _ rfl (fun hw gB hgB=>?_);have b1:=();have b2:=();have b3:=();have b4:=();exact zwk82
     | ok s =>
      rw [hr] at c4 c5;have q1:(s.wk==s.wk)=true:=by simp
      refine zh zf Tryz.func4 rfl zws Tryz.ntmps4 zwy63 _ rfl (fun hw gB hgB=>?_);have b1:=();have b2:=();have b4:=();have b5:=();exact zwk82
 ·rw [hv] at c1;refine zh zf Tryz.func4 rfl zws Tryz.ntmps4 zwy63 _ rfl (fun hw gB hgB=>?_);exact zwk82
end Go.Cg
