/- A part of the walks by abstract values: no statement of its own. -/
import Derived.Test.YtemhfmmhkimhmaaGreatI42
import Derived.Test.YtemhfmmhkimhmaaGreatI31
import Derived.Test.YtemhfmmhkimhmaaGreatI44
import Derived.Test.YtemhfmmhkimhmaaGreatI45
import Derived.Test.YtemhfmmhkimhmaaGreatI37
import Derived.Test.YtemhfmmhkimhmaaGreatI43
import Derived.Test.YtemhfmmhkimhmaaGreatI18
import Derived.Test.YtemhfmmhkimhmaaGreatI13
import Derived.Test.YtemhfmmhkimhmaaGreatI25
import Derived.Test.YtemhfmmhkimhmaaGreatI14
set_option linter.unusedVariables false
set_option linter.unusedSimpArgs false
namespace Go.Cg
open Go.Proofs
set_option maxHeartbeats 20000000
abbrev ze8 (g:Img) (m:Me):List PV:=[.slc 4 (g.types.map Zw) false,.slc 7 (g.fields.map ZI) false,.slc 12 (g.methods.map zY) false,pi g.entry,ps m.name,pi m.owner,pi m.flags,tys m.params,pi m.ret.kind,pi m.ret.index,pi m.ret.dims,pb m.ret.ref,tys m.locals,pi m.max,.slc 6 (m.code.map yM) false,.slc 10 (m.clauses.map qR) false]
theorem tHR {P:Prop} (h:P:=by repeat (first|exact zC|refine aB ?_)):P:=h
theorem zhV (p1:Value) (e0 e:Int):DCall Tryz.prog 49 (lbH (pi e0) p1) [.box 1 0] (.panicking [{ v:=zhG e,recovered:=false }]) (.panicking [{ v:=zhG e,recovered:=true }]) (lbH (pi e) p1):=by
 refine Wy Tryz.func49 rfl zws rfl (fun g K ρ w vs hds hf hv c₀ cs hu=>?_);obtain ⟨v1,rfl⟩:=List.length_eq_one_iff.1 hv.1;have r1:=hv.2 0 _ v1 rfl rfl;refine wpS_seq ?_;refine wpS_region ?_;have h1:=zaZ (P:=Tryz.prog) (xt:=20) (v:=.int .i64 e) (w:=w) Tryz.underlying91;simp [wpOpsS,go_sem,recoverD,hu,Tryz.ntmps49,Exit.thenS,zhG,h1];refine zfY (n:=10) (g:=g) (env:=[(0,.box 1 0),(1,.pv (pi e)),(2,.pv (pb true))]) (H:=lbH (pi e0) p1) (QQ:=zsh (lbH (pi e) p1)) ?_
  ⟨by simp,by rw [hds],K,ρ,hf,YD (v:=v1) zwy63 r1 (YD (v:=.int .i64 e) zwy63 (.pv _ _ (.base _ rfl)) (YD (v:=.bool true) zwy63 (.pv _ _ (.base _ rfl)) zb0))⟩
  (fun ex a' w' env' H' hi hq=>⟨hq.1,hi.defers.trans hds,rfl,zfW hi hq.2⟩)
 repeat' (first|refine sK ?_|refine sC (fun _=>?_) (fun _=>?_)|fail)
 exact ⟨.inl rfl,tH⟩
abbrev zhv (g:Img) (m:Me) (k:Int) (s:VS) (us:Nat->Value) (e:PV) (p1:Value):HEnv:=lbH e p1++(rnH g m k s++Zc us [10])
theorem ze5 (g:Img) (m:Me) (k:Int) (s:VS) (us:Nat->Value) (e:PV) (p1:Value):DCall Tryz.prog 49 (zhv g m k s us e p1) [.box 1 0] .returning .returning (zhv g m k s us e p1):=by
 refine Wy Tryz.func49 rfl zws rfl (fun g1 K ρ w vs hds hf hv c₀ cs hu=>?_);obtain ⟨v1,rfl⟩:=List.length_eq_one_iff.1 hv.1;refine wpS_seq ?_;refine wpS_region ?_;have hz:=ziP (P:=Tryz.prog) (w:=w) (z:=.int .i64 0) zf (ty:=91) rfl;have h1:=zaf (P:=Tryz.prog) (xt:=20) (w:=w) Tryz.underlying91 hz;simp [wpOpsS,go_sem,recoverD,hu,Tryz.ntmps49,Exit.thenS,h1];refine zfY (n:=10) (g:=g1) (env:=[(2,.pv (pb false))]) (H:=zhv g m k s us e p1) (QQ:=zsh (zhv g m k s us e p1)) ?_
  ⟨by simp,by rw [hds],K,ρ,hf,YD (v:=.bool false) zwy63 (.pv _ _ (.base _ rfl)) zb0⟩
  (fun ex a' w' env' H' hi hq=>⟨hq.1,hi.defers.trans hds,by cases c₀;simp_all,zfW hi hq.2⟩)
 repeat' (first|refine sK ?_|refine sC (fun _=>?_) (fun _=>?_)|fail)
 exact ⟨.inl rfl,tH⟩
theorem zk1 {g:Img} {m:Me} {i t:Int} {l:List Ty} {n:Nat} {s s':VS} (h:LenV n s) (ht:toV g m i t l s=.ok s'):LenV n s':=by
 unfold toV at ht;split at ht
 ·cases ht
 ·split at ht
  ·split at ht
   ·cases ht;exact ⟨h.st,h.kn⟩
   ·cases ht
  ·split at ht
   ·cases ht;exact ⟨by simp [qo,h.st],by simp [qo,h.kn]⟩
   ·split at ht
    ·cases ht;exact ⟨by simp [h.st],h.kn⟩
    ·cases ht
def zxU:Except Int VS->Int
 | .ok _=>0
 | .error e=>e
def zxZ (g:Img) (m:Me) (k:Int) (us:Nat->Value):Except Int VS->HEnv
 | .ok s=>rnH g m k s++Zc us [10]
 | .error _=>[]
theorem zwk20 {G:Prop} (h:G:=by repeat' (first|(have:=b0;refine zy rfl (au (k:=i) (j:=0) e1) rfl rfl ?_)|(have:=b0;refine zq rfl (au (k:=i) (j:=0) e1) rfl rfl ?_)|(have:=b0;refine zZ 23 22 rfl zws zws zws zws zws ?_)|(have:=b0;refine zy rfl (aj (ps:=(ze8 g (mAt g k)))) rfl rfl ?_)|(have:=b0;refine zq rfl (aj (ps:=(ze8 g (mAt g k)))) rfl rfl ?_)|(have:=b0;refine zo 5 3 rfl rfl rfl ?_)|(have:=b0;refine zbY [] (lbH (pi e) p1) zi rfl rfl rfl zwy67 rfl (qh he0 e) ?_)|(refine shC ?_;first|(have:=b0;refine qC cs ?_))|(have:=b1;refine zdm (rnH g (mAt g k) k (⟨s.st,s.kn.set i true,IntKind.i64.wrap (s.wk + 1)⟩)) (rnH g (mAt g k) k (s2)) [(1,.cell (.pv (pi 0))),(2001,.pin (.box 1 0) p1),(1010,.pin (.own 10) (us 10))] [(0,.box 10 0),(1,.pv (pi i)),(4,.box 1 0),(5,.pv (tys l)),(6,.fn (.func 52) [.box 10 0] []),(8,.pv (pb true))] [10] zi rfl rfl rfl rfl tHR tS rfl rfl rfl (fun us=>by have h:=cT us;rw [ht] at h;exact h) ?_)|(have:=b2;refine zo 9 5 rfl rfl rfl ?_)|(have:=b2;refine ziH (rnH g (mAt g k) k (⟨s.st,s.kn.set i true,IntKind.i64.wrap (s.wk + 1)⟩)++Zc us [10]) (lbH (pi 0) p1) zi rfl rfl rfl rfl tHR rfl (by have h:=cN us;rw [hn] at h;exact h) ?_)|(have:=b3;refine zdm (rnH g (mAt g k) k (⟨s.st,s.kn.set i true,IntKind.i64.wrap (s.wk + 1)⟩)) (rnH g (mAt g k) k (s2)) [(1,.cell (.pv (pi 0))),(2001,.pin (.box 1 0) p1),(1010,.pin (.own 10) (us 10))] [(0,.box 10 0),(1,.pv (pi i)),(4,.box 1 0),(5,.pv (tys l)),(6,.fn (.func 52) [.box 10 0] []),(8,.pv (pb false))] [10] zi rfl rfl rfl rfl tHR tS rfl rfl rfl (fun us=>by have h:=cN us;rw [hn] at h;exact h) ?_)|(have:=b4;refine zdm (rnH g (mAt g k) k (⟨s.st,s.kn.set i true,IntKind.i64.wrap (s.wk + 1)⟩)) (rnH g (mAt g k) k (s2)) [(1,.cell (.pv (pi 0))),(2001,.pin (.box 1 0) p1),(1010,.pin (.own 10) (us 10))] [(0,.box 10 0),(1,.pv (pi i)),(4,.box 1 0),(5,.pv (tys l)),(6,.fn (.func 52) [.box 10 0] []),(8,.pv (pb true))] [10] zi rfl rfl rfl rfl tHR tS rfl rfl rfl (fun us=>by have h:=cN us;rw [hn] at h;exact h) ?_)|(have:=b5;refine zo 11 13 rfl rfl rfl ?_)|(have:=b6;refine ziH (rnH g (mAt g k) k (⟨s.st,s.kn.set i true,IntKind.i64.wrap (s.wk + 1)⟩)++Zc us [10]) (lbH (pi 0) p1) zi rfl rfl rfl rfl tHR rfl (by have h:=cT us;rw [ht] at h;exact h) ?_)|(have:=b7;refine ziH (rnH g (mAt g k) k (s2)++Zc us [10]) (lbH (pi 0) p1) zi rfl rfl rfl rfl tHR rfl (by have h:=cT us;rw [ht] at h;exact h) ?_)|(have:=b8;refine zdm (rnH g (mAt g k) k (s2)) (rnH g (mAt g k) k (s3)) [(1,.cell (.pv (pi 0))),(2001,.pin (.box 1 0) p1),(1010,.pin (.own 10) (us 10))] [(0,.box 10 0),(1,.pv (pi i)),(4,.box 1 0),(5,.pv (tys l)),(6,.fn (.func 52) [.box 10 0] []),(8,.pv (pb true))] [10] zi rfl rfl rfl rfl tHR tS rfl rfl rfl (fun us=>by have h:=cT us;rw [ht] at h;exact h) ?_)|(refine shX ?_;first|(have:=b0;refine zy rfl (aA (k:=i) l1) rfl rfl ?_)|(have:=b0;refine zq rfl (aA (k:=i) l1) rfl rfl ?_)|(have:=b0;refine zy rfl (aA (k:=i) l2) rfl rfl ?_)|(have:=b0;refine zq rfl (aA (k:=i) l2) rfl rfl ?_)|(have:=b9;refine qX hei ?_))|(have:=b0;refine Yb ?_;first|refine XB (k:=i) (j:=0) zf rfl rfl rfl rfl rfl e2 rfl rfl rfl rfl rfl ?_)|refine sK ?_|refine sC (fun _=>?_) (fun _=>?_)|(have:=b0;exact ⟨_,_,_,[4],[.box 1 0],[p1],lbH (pi e) p1,lbH (pi e) p1,[pi e],rfl,rfl,tH,⟨⟨2001,rfl⟩,trivial⟩,⟨⟨2001,rfl⟩,trivial⟩,zhV p1 _ e,rfl,rfl,by decide,tS,rfl,rfl,⟨zC,rfl⟩⟩)|(have:=b10;exact ⟨_,_,_,[4],[.box 1 0],[p1],zhv g (mAt g k) k (⟨s.st,s.kn.set i true,IntKind.i64.wrap (s.wk + 1)⟩) us (pi 0) p1,zhv g (mAt g k) k (⟨s.st,s.kn.set i true,IntKind.i64.wrap (s.wk + 1)⟩) us (pi 0) p1,[pi 0],rfl,rfl,tH,⟨⟨2001,rfl⟩,trivial⟩,⟨⟨2001,rfl⟩,trivial⟩,ze5 g (mAt g k) k _ us _ p1,rfl,rfl,by decide,tS,rfl,rfl,tH⟩)|(have:=b11;exact ⟨_,_,_,[4],[.box 1 0],[p1],lbH (pi 0) p1,lbH (pi e) p1,[pi e],rfl,rfl,tH,⟨⟨2001,rfl⟩,trivial⟩,⟨⟨2001,rfl⟩,trivial⟩,zhV p1 _ e,rfl,rfl,by decide,tS,rfl,rfl,⟨zC,rfl⟩⟩)|(have:=b12;exact ⟨_,_,_,[4],[.box 1 0],[p1],zhv g (mAt g k) k (s2) us (pi 0) p1,zhv g (mAt g k) k (s2) us (pi 0) p1,[pi 0],rfl,rfl,tH,⟨⟨2001,rfl⟩,trivial⟩,⟨⟨2001,rfl⟩,trivial⟩,ze5 g (mAt g k) k _ us _ p1,rfl,rfl,by decide,tS,rfl,rfl,tH⟩)|(have:=b8;exact ⟨_,_,_,[4],[.box 1 0],[p1],zhv g (mAt g k) k (s3) us (pi 0) p1,zhv g (mAt g k) k (s3) us (pi 0) p1,[pi 0],rfl,rfl,tH,⟨⟨2001,rfl⟩,trivial⟩,⟨⟨2001,rfl⟩,trivial⟩,ze5 g (mAt g k) k _ us _ p1,rfl,rfl,by decide,tS,rfl,rfl,tH⟩)|fail)):G:=h
theorem ztJ {g:Img} (hc:(yY g).2=0) {k:Int} (hm:mOk g k) {s:VS} (hs:LenV (mAt g k).code.length s) (hok:OkV (mAt g k).code.length s) (hwk:0<=s.wk/\s.wk<=900000) (i:Nat) (hi:i < (mAt g k).code.length)
  (hon:onV (mAt g k) i=0) (us:Nat->Value) :
  ACallM Tryz.prog 24 [.box 10 0,.pv (pi (i:Int))] (rnH g (mAt g k) k s++Zc us [10]) (.pv (pi (zxU (zch g k i s)))) (zxZ g (mAt g k) k us (zch g k i s)):=by
 have hF:=(zay (zbg hc).1).formed;have hM:=(XA hF hm).small;have hfm:=(XA hF hm).formed;have hit:((i:Nat):Int).toNat < (mAt g k).code.length:=by omega
 have cs:=zpj g hc hm (a:=i) zwy62 hit (Xe s i) (by have:=zdM hok i;omega);have hW:s.wk + 1=IntKind.i64.wrap (s.wk + 1):=by rw [wrap_in zwy62 zwy62]
 have hW0:0<=IntKind.i64.wrap (s.wk + 1)/\IntKind.i64.wrap (s.wk + 1)<=900001:=by rw [<-hW];omega
 have hV:zch g k i s=match stepS g k i (Xe s i) with
   | .error e=>.error e
   | .ok p=>zec g (mAt g k) i p.2 ⟨s.st,s.kn.set i true,IntKind.i64.wrap (s.wk + 1)⟩:=by
  rw [zch,<-hW];rfl
 have hnx:zb2 (Qw (mAt g k) i)=true->(i:Int) + 1 < (mAt g k).code.length:=fun h=>by
  rw [onV,h] at hon;apply Classical.byContradiction;intro hn;rw [decide_eq_false hn] at hon;simp at hon
 have hpl:Vh (Qw (mAt g k) i)=true->0<=(qj (mAt g k) i).arg/\(qj (mAt g k) i).arg.toNat < (mAt g k).code.length:=zj4 hfm hit;have hei:((mAt g k).code.map yM)[((i:Nat):Int).toNat]?=some (yM (qj (mAt g k) i)):=by rw [qj,zQ hit];exact zS hit
 have cw:=zmX g (mAt g k) i zwy62 hit;have cg:=goes_call (Qw (mAt g k) i);have h1:=hs.st;have h2:=hs.kn;have e1:(s.st.map tys)[i]?=some (tys (Xe s i)):=by
  have:Xe s i=s.st[i]'zwy62:=by rw [Xe];exact zQ zwy62
  rw [this];exact zS zwy62
 have e2:(s.kn.map pb)[i]?=some (pb (s.kn[i]'zwy62)):=zS zwy62;have l1:i < (s.st.map tys).length:=by rw [List.length_map];omega
 have l2:i < (s.kn.map pb).length:=by rw [List.length_map];omega
 have hb2:∀ p,stepS g k i (Xe s i)=.ok p->p.2.length<=12:=fun p hp=>by
  have hb:=(zwy g (Qs g (mAt g k)) (mAt g k) (qj (mAt g k) i) _ _ _ hp).1;have hg:=zdM hok i;rcases hb with hb|hb <;> omega
 have hnz:=fun e (h:stepS g k i (Xe s i)=.error e)=>zqo h
 obtain ⟨s1,hs1⟩:∃ s1:VS,s1=⟨s.st,s.kn.set i true,IntKind.i64.wrap (s.wk + 1)⟩:=⟨_,rfl⟩
 generalize stepS g k i (Xe s i)=r at cs hV hb2 hnz;refine zoY zf Tryz.func24 rfl zws Tryz.ntmps24 zwy63 _ rfl ?_;refine zbz (zbq fun gB=>?_)
 repeat' (first|refine ZU zf 1 rfl rfl rfl rfl rfl rfl rfl ?_|refine sK ?_|refine sC (fun _=>?_) (fun _=>?_)|fail)
 refine zhN 1 2001 rfl rfl fun p1=>?_
 refine zbz (zgA (k:=1) rfl rfl rfl rfl rfl fun gB=>?_)
 repeat' (first|refine sK ?_|refine sC (fun _=>?_) (fun _=>?_)|fail)
 refine ⟨_,_,[p1],rfl,⟨⟨2001,rfl⟩,trivial⟩,?_⟩;refine zbq fun gB=>?_
 cases r with
 | error e =>
  simp only at hV;have he:=hnz e rfl;have he0:(e==0)=false:=by simpa using he
  rw [hV];have b0:=();exact zwk20
 | ok p =>
  obtain ⟨⟨⟩,l⟩:=p;have hl12:l.length<=1000:=by have:=hb2 _ rfl;simp only at this;omega
  have hl13:l.length<=12:=hb2 _ rfl;simp only at hV;have hs1:LenV (mAt g k).code.length ⟨s.st,s.kn.set i true,IntKind.i64.wrap (s.wk + 1)⟩:=⟨h1,by simp [h2]⟩
  have ok1:OkV (mAt g k).code.length ⟨s.st,s.kn.set i true,IntKind.i64.wrap (s.wk + 1)⟩:=⟨hok.len,hok.st⟩
  have ow1:0<=(⟨s.st,s.kn.set i true,IntKind.i64.wrap (s.wk + 1)⟩:VS).wk/\(⟨s.st,s.kn.set i true,IntKind.i64.wrap (s.wk + 1)⟩:VS).wk<=900001:=hW0;have hwi:IntKind.i64.wrap ((i:Int) + 1)=(i:Int) + 1:=wrap_in zwy62 zwy62;rw [zec] at hV
  repeat' (first|refine zy rfl (au (k:=i) (j:=0) e1) rfl rfl ?_|refine zq rfl (au (k:=i) (j:=0) e1) rfl rfl ?_|refine zZ 23 22 rfl zws zws zws zws zws ?_|refine zy rfl (aj (ps:=(ze8 g (mAt g k)))) rfl rfl ?_|refine zq rfl (aj (ps:=(ze8 g (mAt g k)))) rfl rfl ?_|(refine shC ?_;first|refine qC cs ?_|refine qC (yF rfl 0) ?_|refine qC cw ?_|refine qC cg ?_)|(refine shX ?_;first|refine zy rfl (aA (k:=i) l1) rfl rfl ?_|refine zq rfl (aA (k:=i) l1) rfl rfl ?_|refine zy rfl (aA (k:=i) l2) rfl rfl ?_|refine zq rfl (aA (k:=i) l2) rfl rfl ?_)|(refine Yb ?_;first|refine XB (k:=i) (j:=0) zf rfl rfl rfl rfl rfl e2 rfl rfl rfl rfl rfl ?_)|refine sA ?_|fail)
  refine zh2 12 rfl (List.map_set ..).symm ?_;generalize zb2 (Qw (mAt g k) i)=nx at *;generalize Vh (Qw (mAt g k) i)=pl at *;have step2:∀ s2:VS,LenV (mAt g k).code.length s2->OkV (mAt g k).code.length s2->0<=s2.wk/\s2.wk<=1000000->pl=true->∀ us,QO Tryz.prog 52 [.box 10 0,.pv (pi i),.pv (pi (qj (mAt g k) i).arg),.pv (tys l)] (rnH g (mAt g k) k s2++Zc us [10]) (outT g (mAt g k) k us (toV g (mAt g k) i (qj (mAt g k) i).arg l s2)) :=
   fun s2 a b c d us=>zqN (zcV hF) (mAt g k) k a i _ (by have:=zdM b (qj (mAt g k) i).arg;omega) c (hpl d).1 (hpl d).2 l hl12 us
  cases nx
  ·simp only [Bool.false_eq_true,if_false] at hV;cases pl
   ·simp only [Bool.false_eq_true,if_false] at hV;rw [hV];have b10:=();exact zwk20
   ·simp only [if_true] at hV;have cT:=step2 ⟨s.st,s.kn.set i true,IntKind.i64.wrap (s.wk + 1)⟩ hs1 ok1 ⟨ow1.1,by have:=ow1.2;omega⟩ rfl;rw [hV];cases ht:toV g (mAt g k) i (qj (mAt g k) i).arg l ⟨s.st,s.kn.set i true,IntKind.i64.wrap (s.wk + 1)⟩ with
    | error e =>
     have b5:=();have b6:=();have b9:=();have b11:=();exact zwk20
    | ok s2 =>
     have b1:=();have b9:=();have b12:=();exact zwk20
  ·simp only [if_true] at hV;have hi1:=hnx rfl;have cN:∀ us,QO Tryz.prog 52 [.box 10 0,.pv (pi i),.pv (pi (IntKind.i64.wrap ((i:Int) + 1))),.pv (tys l)] (rnH g (mAt g k) k ⟨s.st,s.kn.set i true,IntKind.i64.wrap (s.wk + 1)⟩++Zc us [10]) (outT g (mAt g k) k us (toV g (mAt g k) i ((i:Int) + 1) l ⟨s.st,s.kn.set i true,IntKind.i64.wrap (s.wk + 1)⟩)) :=
    fun us=>by rw [hwi];exact zqN (zcV hF) (mAt g k) k hs1 i _ (by have:=zdM ok1 ((i:Int) + 1);omega) ⟨ow1.1,by have:=ow1.2;omega⟩ zwy62 zwy62 l hl12 us
   cases hn:toV g (mAt g k) i ((i:Int) + 1) l ⟨s.st,s.kn.set i true,IntKind.i64.wrap (s.wk + 1)⟩ with
   | error e =>
    rw [hn] at hV;simp only at hV;rw [hV];have b2:=();have b11:=();exact zwk20
   | ok s2 =>
    rw [hn] at hV;simp only at hV;obtain ⟨ok2,w2⟩:=zte ok1 hl13 hn;have hs2:=zk1 hs1 hn;have ow2:0<=s2.wk/\s2.wk<=1000000:=by have:=ow1.1;have:=ow1.2;rw [w2];omega
    cases pl
    ·simp only [Bool.false_eq_true,if_false] at hV;rw [hV];have b3:=();have b12:=();exact zwk20
    ·simp only [if_true] at hV;have cT:=step2 s2 hs2 ok2 ow2 rfl;rw [hV];cases ht:toV g (mAt g k) i (qj (mAt g k) i).arg l s2 with
     | error e =>
      have b4:=();have b5:=();have b7:=();have b9:=();have b11:=();exact zwk20
     | ok s3 =>
      have b4:=();have b8:=();have b9:=();exact zwk20
def ztW (r:Except (Int × Int) VS):PV:=match r with
 | .ok s=>.tup [.agg [.slc 1 (s.st.map tys) false,pi s.wk],pi 0,pi 0]
 | .error e=>.tup [.agg [.base (.slice none 0 0),pi 0],pi e.1,pi e.2]
theorem zvX {g:Img} {m:Me} (h:MeOk g m):∀ c∈m.clauses,zwU m.code.length c:=by
 intro c hm;have hr:=h.formed;simp only [yX,Zv,XZ,Bool.and_eq_true,beq_iff_eq] at hr;have h2:=zqw hr.2.2 hm;obtain ⟨j,hj,rfl⟩:=List.getElem_of_mem hm;have ha:=(zdV hr.2.2).1 j hj;rw [zQ hj] at ha;have hk:=zc7 ha;have e3:=hk.h0;exact ⟨⟨e3,h2.1⟩,fun hf=>⟨by have:=hk.f hf;omega,h2.2 hf⟩⟩
abbrev mkB (g:Img) (m:Me):HEnv:=[(1,.cell (.pv (Xr g m))),(0,.cell (.pv (.agg [.base (.slice none 0 0),pi 0])))]
abbrev mkS (n:Nat):Nat × HE:=(11,.mrow 30 1 (List.replicate n (.base (.slice none 0 0))))
abbrev mkK (n:Nat):Nat × HE:=(12,.mrow 4 1 (List.replicate n (pb false)))
theorem zl0 (n:Nat):PCL (List.replicate n (.base (.slice none 0 0))) ((List.replicate n []).map tys):=by
 refine ⟨by simp,fun k c d hc hd=>?_⟩;rw [List.map_replicate] at hd;obtain rfl:=List.eq_of_mem_replicate (List.mem_of_getElem? hc);obtain rfl:=List.eq_of_mem_replicate (List.mem_of_getElem? hd);exact qF (zbS 4 false) zcx
theorem zrI {g:Img} {m:Me} (h:(zbf g m).2=0) {i:Nat} (hi:i < m.code.length):onV m i=0:=by
 unfold zbf at h;split at h
 ·rename_i j hj;have:=List.find?_some hj;simp at this;exact absurd h this
 ·rename_i hj;rw [List.find?_eq_none] at hj;have:=hj i (List.mem_range.2 hi);simp only [bne_iff_ne,ne_eq,Decidable.not_not] at this;unfold YT at this;apply Classical.byContradiction;intro hn;rw [if_pos (by simpa using hn)] at this;exact hn this
theorem zta {g:Img} {k i:Int} {n:Nat} {s s':VS} (h:LenV n s) (ht:zch g k i s=.ok s'):LenV n s':=by
 unfold zch at ht;split at ht
 ·cases ht
 ·unfold zec at ht;split at ht
  ·cases ht
  ·rename_i s1 h1;have k1:LenV n s1:=by
    split at h1
    ·exact zk1 (show LenV n { s with kn:=s.kn.set i.toNat true,wk:=s.wk + 1 } from ⟨h.st,by simp [h.kn]⟩) h1
    ·cases h1;exact ⟨h.st,by simp [h.kn]⟩
   split at ht
   ·exact zk1 k1 ht
   ·cases ht;exact k1
theorem zwA {g:Img} {m:Me} {i t:Int} {l:List Ty} {s:VS} {e:Int} (ht:toV g m i t l s=.error e):e≠0:=by
 unfold toV at ht;split at ht
 ·cases ht;decide
 ·split at ht
  ·split at ht
   ·cases ht
   ·cases ht;decide
  ·split at ht
   ·cases ht
   ·split at ht
    ·cases ht
    ·rename_i h;cases ht;simpa using h
theorem zuB {g:Img} {k i:Int} {s:VS} {e:Int} (ht:zch g k i s=.error e):e≠0:=by
 unfold zch at ht;split at ht
 ·rename_i h;cases ht;exact zqo h
 ·unfold zec at ht;split at ht
  ·rename_i h1;cases ht;split at h1
   ·exact zwA h1
   ·cases h1
  ·split at ht
   ·exact zwA ht
   ·cases ht
set_option maxHeartbeats 8000000 in
theorem zkO {g:Img} (hc:(yY g).2=0) {k:Int} (hm:mOk g k) (hcode:0 < (mAt g k).code.length):ACall Tryz.prog 17 [zK g,pi k,.ptr (zK g) 0] (ztW (QD g k)):=by
 have hF:=(zay (zbg hc).1).formed;have hM:=XA hF hm;have hs:=hM.small;have cf:=zqU hc hm;have he:(g.methods.map zY)[k.toNat]?=some (zY (mAt g k)):=by rw [mAt,zQ hm.2];exact zS hm.2
 have hk0:=hm.1;by_cases ha:(zbf g (mAt g k)).2=0
 ·have e0:((zbf g (mAt g k)).2 != 0)=false:=by simp [ha]
  have hV:QD g k=goV g k (mAt g k).code.length 0 (zbd (mAt g k)):=by rw [QD,e0,if_neg zwy63]
  rw [hV];obtain ⟨n,hn⟩:∃ n,n=(mAt g k).code.length:=⟨_,rfl⟩
  have hnl:(((((mAt g k).code.map yM).length:Nat):Int))=((n:Nat):Int):=by rw [List.length_map,hn]
  have hs0:LenV n ⟨List.replicate n [],List.replicate n false,0⟩:=⟨by simp,by simp⟩
  have hcl:∀ c∈(mAt g k).clauses,zwU n c:=by rw [hn];exact zvX hM
  have hst:zbd (mAt g k)=(mAt g k).clauses.foldl YO (qo 0 [] ⟨List.replicate n [],List.replicate n false,0⟩):=by rw [zbd,<-hn]
  have hso:=ztZ (mAt g k);rw [<-hn] at hso;rw [<-hn];refine zh zf Tryz.func17 rfl zws Tryz.ntmps17 zwy63 _ rfl (fun hw gB hgB=>?_)
  repeat' (first|refine zM 1 7 0 zf rfl zws zws zws rfl rfl rfl rfl rfl rfl rfl rfl rfl rfl rfl rfl rfl rfl (fun _=>rfl) rfl rfl rfl ?_|refine ⟨_,_,rfl,rfl,rfl,?_⟩|refine zy rfl (aj (ps:=(ze8 g (mAt g k)))) rfl rfl ?_|refine zq rfl (aj (ps:=(ze8 g (mAt g k)))) rfl rfl ?_|refine zh9 (id:=6) rfl ?_|(refine shC ?_;first|refine qC cf ?_)|(refine shX ?_;first|refine zy rfl (ah hk0 he) rfl rfl ?_|refine zq rfl (ah hk0 he) rfl rfl ?_)|refine sA ?_|fail)
  refine zgw 4 7 [0,1,2,3,4,5,6,7,8,9,10] [0,1,2,3,4,5,6,7,8,9,10] [0,1,2,6,7,3,4,5,8,9,10] [0,1,2,5,6,7,3,4,8,9,10] rfl zws zws (zgw 5 7 [0,1,2,3,4,5,6,7,8,9,10] [0,1,2,3,4,5,6,7,8,9,10] [0,1,2,3,4,6,7,5,8,9,10] [0,1,2,3,4,7,5,6,8,9,10] rfl zws zws (zkA zws ?_) (zkA zws ?_)) (zkA zws ?_)
  focus
   refine zcE 11 8 [4,5,7] [] (mkL [mkB g (mAt g k),mkS n::mkB g (mAt g k),mkS n::mkB g (mAt g k),mkK n::mkS n::mkB g (mAt g k)]) (mkL [mkB g (mAt g k),mkS n::mkB g (mAt g k),mkS n::mkB g (mAt g k),mkK n::mkS n::mkB g (mAt g k)]) (mkB g (mAt g k)) none rfl zws zws zws zws zws zws (fun p hp=>by simp at hp) rfl (zaP rfl ⟨tH,tH,tH,tH,trivial⟩) rfl (YU rfl rfl) (fun q h=>YU rfl rfl q 3 h (Nat.le_refl 3)) tH rfl (fun v hv=>by cases hv) ?_
   repeat' (first|refine Yp 4 [0,2] (.own 11) rfl rfl rfl rfl rfl ?_|refine Yp 0 [1] (.agg [.own 11,.pv (pi 0)]) rfl rfl rfl rfl rfl ?_|refine Yp 1 [] (.own 12) rfl rfl rfl rfl rfl ?_|refine ⟨⟨rfl,WA (m:=n) (sz:=1) zf 11 rfl rfl rfl rfl hnl rfl rfl (by show 24 * _<=_;omega) zwy100 rfl rfl rfl,.inr zws⟩,?_⟩|refine ⟨⟨rfl,WA (m:=n) (sz:=1) zf 12 rfl rfl rfl rfl hnl rfl rfl (by show 1 * _<=_;omega) zwy100 rfl rfl rfl,.inr zws⟩,?_⟩|refine ⟨⟨rfl,ziF (zaV zf rfl ⟨_,rfl⟩ rfl rfl rfl rfl rfl rfl),.inr zws⟩,?_⟩|refine Qu ?_|intro _|refine WR ?_|refine zy rfl (zaV zf rfl ⟨_,rfl⟩ rfl rfl rfl rfl rfl rfl) rfl rfl ?_|refine zy rfl (aj (ps:=(ze8 g (mAt g k)))) rfl rfl ?_|refine zq rfl (aj (ps:=(ze8 g (mAt g k)))) rfl rfl ?_|refine zgd (es:=List.replicate n (.base (.slice none 0 0))) 11 rfl (zl0 n) ?_|refine zh2 (es:=List.replicate n (pb false)) 12 rfl (List.map_replicate ..).symm ?_|(refine Xy ?_;first|refine zau 10 rfl rfl rfl rfl rfl rfl ?_)|(refine zu ?_;first|(refine yH (rnH g (mAt g k) k ⟨List.replicate n [],List.replicate n false,0⟩) (rnH g (mAt g k) k (qo 0 [] ⟨List.replicate n [],List.replicate n false,0⟩)) [(0,.cell (.pv (.agg [.base (.slice none 0 0),pi 0])))] [(6,.box 0 0),(12,.pv (pi (((mAt g k).code.map yM).length:Nat))),(13,.box 10 0)] [10] zi rfl rfl rfl ?_ tS rfl rfl rfl (fun us=>Xn g (mAt g k) k hs0 0 ⟨Int.le_refl 0,by show (0:Int).toNat < n;omega⟩ [] _ (zbS 4 false) us) ?_;· (repeat (first|exact zC|refine aB ?_)))|(refine yH (rnH g (mAt g k) k (qo 0 [] ⟨List.replicate n [],List.replicate n false,0⟩)) (rnH g (mAt g k) k ((mAt g k).clauses.foldl YO (qo 0 [] ⟨List.replicate n [],List.replicate n false,0⟩))) [(0,.cell (.pv (.agg [.base (.slice none 0 0),pi 0])))] [(6,.box 0 0),(12,.pv (pi (((mAt g k).code.map yM).length:Nat))),(13,.box 10 0)] [10] zi rfl rfl rfl ?_ tS rfl rfl rfl (fun us=>zbR g (mAt g k) k _ (QM hs0 0 []) hcl zwy62 us) ?_;· (repeat (first|exact zC|refine aB ?_))))|refine sK ?_|refine sC (fun _=>?_) (fun _=>?_)|fail)
  rotate_left
  focus
   refine zcE 11 8 [4,6,7] [] (mkL [mkB g (mAt g k),mkS n::mkB g (mAt g k),mkK n::mkS n::mkB g (mAt g k),mkK n::mkS n::mkB g (mAt g k)]) (mkL [mkB g (mAt g k),mkS n::mkB g (mAt g k),mkK n::mkS n::mkB g (mAt g k),mkK n::mkS n::mkB g (mAt g k)]) (mkB g (mAt g k)) none rfl zws zws zws zws zws zws (fun p hp=>by simp at hp) rfl (zaP rfl ⟨tH,tH,tH,tH,trivial⟩) rfl (YU rfl rfl) (fun q h=>YU rfl rfl q 3 h (Nat.le_refl 3)) tH rfl (fun v hv=>by cases hv) ?_
   repeat' (first|refine Yp 4 [1,2] (.own 11) rfl rfl rfl rfl rfl ?_|refine Yp 1 [0] (.own 12) rfl rfl rfl rfl rfl ?_|refine Yp 0 [] (.agg [.own 11,.pv (pi 0)]) rfl rfl rfl rfl rfl ?_|refine ⟨⟨rfl,WA (m:=n) (sz:=1) zf 11 rfl rfl rfl rfl hnl rfl rfl (by show 24 * _<=_;omega) zwy100 rfl rfl rfl,.inr zws⟩,?_⟩|refine ⟨⟨rfl,WA (m:=n) (sz:=1) zf 12 rfl rfl rfl rfl hnl rfl rfl (by show 1 * _<=_;omega) zwy100 rfl rfl rfl,.inr zws⟩,?_⟩|refine ⟨⟨rfl,ziF (zaV zf rfl ⟨_,rfl⟩ rfl rfl rfl rfl rfl rfl),.inr zws⟩,?_⟩|refine Qu ?_|intro _|refine WR ?_|refine zy rfl (zaV zf rfl ⟨_,rfl⟩ rfl rfl rfl rfl rfl rfl) rfl rfl ?_|refine zy rfl (aj (ps:=(ze8 g (mAt g k)))) rfl rfl ?_|refine zq rfl (aj (ps:=(ze8 g (mAt g k)))) rfl rfl ?_|refine zgd (es:=List.replicate n (.base (.slice none 0 0))) 11 rfl (zl0 n) ?_|refine zh2 (es:=List.replicate n (pb false)) 12 rfl (List.map_replicate ..).symm ?_|(refine Xy ?_;first|refine zau 10 rfl rfl rfl rfl rfl rfl ?_)|(refine zu ?_;first|(refine yH (rnH g (mAt g k) k ⟨List.replicate n [],List.replicate n false,0⟩) (rnH g (mAt g k) k (qo 0 [] ⟨List.replicate n [],List.replicate n false,0⟩)) [(0,.cell (.pv (.agg [.base (.slice none 0 0),pi 0])))] [(6,.box 0 0),(12,.pv (pi (((mAt g k).code.map yM).length:Nat))),(13,.box 10 0)] [10] zi rfl rfl rfl ?_ tS rfl rfl rfl (fun us=>Xn g (mAt g k) k hs0 0 ⟨Int.le_refl 0,by show (0:Int).toNat < n;omega⟩ [] _ (zbS 4 false) us) ?_;· (repeat (first|exact zC|refine aB ?_)))|(refine yH (rnH g (mAt g k) k (qo 0 [] ⟨List.replicate n [],List.replicate n false,0⟩)) (rnH g (mAt g k) k ((mAt g k).clauses.foldl YO (qo 0 [] ⟨List.replicate n [],List.replicate n false,0⟩))) [(0,.cell (.pv (.agg [.base (.slice none 0 0),pi 0])))] [(6,.box 0 0),(12,.pv (pi (((mAt g k).code.map yM).length:Nat))),(13,.box 10 0)] [10] zi rfl rfl rfl ?_ tS rfl rfl rfl (fun us=>zbR g (mAt g k) k _ (QM hs0 0 []) hcl zwy62 us) ?_;· (repeat (first|exact zC|refine aB ?_))))|refine sK ?_|refine sC (fun _=>?_) (fun _=>?_)|fail)
  rotate_left
  focus
   refine zcE 11 8 [4,6,7] [] (mkL [mkB g (mAt g k),mkK n::mkB g (mAt g k),mkS n::mkK n::mkB g (mAt g k),mkS n::mkK n::mkB g (mAt g k)]) (mkL [mkB g (mAt g k),mkK n::mkB g (mAt g k),mkS n::mkK n::mkB g (mAt g k),mkS n::mkK n::mkB g (mAt g k)]) (mkB g (mAt g k)) none rfl zws zws zws zws zws zws (fun p hp=>by simp at hp) rfl (zaP rfl ⟨tH,tH,tH,tH,trivial⟩) rfl (YU rfl rfl) (fun q h=>YU rfl rfl q 3 h (Nat.le_refl 3)) tH rfl (fun v hv=>by cases hv) ?_
   repeat' (first|refine Yp 4 [1,2] (.own 12) rfl rfl rfl rfl rfl ?_|refine Yp 1 [0] (.own 11) rfl rfl rfl rfl rfl ?_|refine Yp 0 [] (.agg [.own 11,.pv (pi 0)]) rfl rfl rfl rfl rfl ?_|refine ⟨⟨rfl,WA (m:=n) (sz:=1) zf 11 rfl rfl rfl rfl hnl rfl rfl (by show 24 * _<=_;omega) zwy100 rfl rfl rfl,.inr zws⟩,?_⟩|refine ⟨⟨rfl,WA (m:=n) (sz:=1) zf 12 rfl rfl rfl rfl hnl rfl rfl (by show 1 * _<=_;omega) zwy100 rfl rfl rfl,.inr zws⟩,?_⟩|refine ⟨⟨rfl,ziF (zaV zf rfl ⟨_,rfl⟩ rfl rfl rfl rfl rfl rfl),.inr zws⟩,?_⟩|refine Qu ?_|intro _|refine WR ?_|refine zy rfl (zaV zf rfl ⟨_,rfl⟩ rfl rfl rfl rfl rfl rfl) rfl rfl ?_|refine zy rfl (aj (ps:=(ze8 g (mAt g k)))) rfl rfl ?_|refine zq rfl (aj (ps:=(ze8 g (mAt g k)))) rfl rfl ?_|refine zgd (es:=List.replicate n (.base (.slice none 0 0))) 11 rfl (zl0 n) ?_|refine zh2 (es:=List.replicate n (pb false)) 12 rfl (List.map_replicate ..).symm ?_|(refine Xy ?_;first|refine zau 10 rfl rfl rfl rfl rfl rfl ?_)|(refine zu ?_;first|(refine yH (rnH g (mAt g k) k ⟨List.replicate n [],List.replicate n false,0⟩) (rnH g (mAt g k) k (qo 0 [] ⟨List.replicate n [],List.replicate n false,0⟩)) [(0,.cell (.pv (.agg [.base (.slice none 0 0),pi 0])))] [(6,.box 0 0),(12,.pv (pi (((mAt g k).code.map yM).length:Nat))),(13,.box 10 0)] [10] zi rfl rfl rfl ?_ tS rfl rfl rfl (fun us=>Xn g (mAt g k) k hs0 0 ⟨Int.le_refl 0,by show (0:Int).toNat < n;omega⟩ [] _ (zbS 4 false) us) ?_;· (repeat (first|exact zC|refine aB ?_)))|(refine yH (rnH g (mAt g k) k (qo 0 [] ⟨List.replicate n [],List.replicate n false,0⟩)) (rnH g (mAt g k) k ((mAt g k).clauses.foldl YO (qo 0 [] ⟨List.replicate n [],List.replicate n false,0⟩))) [(0,.cell (.pv (.agg [.base (.slice none 0 0),pi 0])))] [(6,.box 0 0),(12,.pv (pi (((mAt g k).code.map yM).length:Nat))),(13,.box 10 0)] [10] zi rfl rfl rfl ?_ tS rfl rfl rfl (fun us=>zbR g (mAt g k) k _ (QM hs0 0 []) hcl zwy62 us) ?_;· (repeat (first|exact zC|refine aB ?_))))|refine sK ?_|refine sC (fun _=>?_) (fun _=>?_)|fail)
  rotate_left
  all_goals
   refine zL (fun x:Nat × VS=>[(6,.box 0 0),(13,.box 10 0),(51,.pv (pi (((mAt g k).code.map yM).length:Nat))),(52,.pv (pi x.1))]) (fun x=>rnH g (mAt g k) k x.2++[(0,.cell (.pv (.agg [.base (.slice none 0 0),pi 0])))]) (fun x=>x.1<=n/\goV g k (n - x.1) x.1 x.2=goV g k n 0 (zbd (mAt g k))/\LenV n x.2/\OkV n x.2/\0<=x.2.wk/\x.2.wk<=27 * (x.1:Int)) (fun x=>n - x.1) (0,(mAt g k).clauses.foldl YO (qo 0 [] ⟨List.replicate n [],List.replicate n false,0⟩))
    ⟨by omega,by rw [<-hst];rfl,zeI _ (QM hs0 0 []),by rw [<-hst];exact hso.1,by rw [<-hst,hso.2];exact Int.le_refl 0,by rw [<-hst,hso.2];exact Int.le_refl 0⟩ tS tH ?_
   rintro ⟨i,s⟩ ⟨hin,hgo,hl,hok,w0,w1⟩;dsimp only at hin hgo hl hok w0 w1 ⊢;by_cases hlt:i < n
   ·have hd:decide (((i:Nat):Int) < (((mAt g k).code.map yM).length:Nat))=true:=decide_eq_true (by rw [hnl];omega);have c1:=fun us=>ztJ hc hm (s:=s) (by rw [<-hn];exact hl) (by rw [<-hn];exact hok) ⟨w0,by omega⟩ i zwy62 (zrI ha zwy62) us
    rw [show n - i=(n - (i + 1)) + 1 by omega,goV] at hgo;cases hr:zch g k i s with
    | ok s' =>
     rw [hr] at hgo;have ho:=zwO hs.2.2.2.2.2 hok hr
     repeat' (first|(refine zu ?_;first|(refine yH (rnH g (mAt g k) k s) (rnH g (mAt g k) k s') [(0,.cell (.pv (.agg [.base (.slice none 0 0),pi 0])))] [(6,.box 0 0),(13,.box 10 0),(51,.pv (pi (((mAt g k).code.map yM).length:Nat))),(52,.pv (pi i))] [10] zi rfl rfl rfl ?_ tS rfl rfl rfl (fun us=>by have h:=c1 us;rw [hr] at h;exact h) ?_;· (repeat (first|exact zC|refine aB ?_))))|refine sK ?_|refine sC (fun _=>?_) (fun _=>?_)|fail)
     exact ⟨(i + 1,s'),⟨hlt,hgo,zta hl hr,ho.1,by have:=ho.2.1;show 0<=s'.wk;omega,by have:=ho.2.2;show s'.wk<=27 * ((i + 1:Nat):Int);omega⟩,tD,tS,tH⟩
    | error e =>
     rw [hr] at hgo;have hnz:(e != 0)=true:=by simpa using zuB hr
     repeat' (first|(refine zu ?_;first|(refine yH (rnH g (mAt g k) k s) ([]) [(0,.cell (.pv (.agg [.base (.slice none 0 0),pi 0])))] [(6,.box 0 0),(14,.pv (pi i))] [] zi rfl rfl rfl ?_ tS rfl rfl rfl (fun _=>zn9 [10] rfl fun us=>by have h:=c1 us;rw [hr] at h;exact h) ?_;· (repeat (first|exact zC|refine aB ?_))))|refine sK ?_|refine sC (fun _=>?_) (fun _=>?_)|fail)
     exact retq rfl (by rw [<-hgo];rfl)
   ·have hd:decide (((i:Nat):Int) < (((mAt g k).code.map yM).length:Nat))=false:=decide_eq_false (by rw [hnl];omega);have hgo2:goV g k n 0 (zbd (mAt g k))=.ok s:=by rw [<-hgo,show n - i=0 by omega];rfl
    repeat' (first|refine Wv 11 rfl ?_|refine zij 10 11 18 rfl rfl rfl ?_|refine zy rfl (aj (ps:=[.slc 1 (s.st.map tys) false,pi s.wk])) rfl rfl ?_|refine zq rfl (aj (ps:=[.slc 1 (s.st.map tys) false,pi s.wk])) rfl rfl ?_|refine sK ?_|refine sC (fun _=>?_) (fun _=>?_)|fail)
    exact retq rfl (by rw [hgo2];rfl)
 ·have e0:((zbf g (mAt g k)).2 != 0)=true:=by simpa using ha
  have hV:QD g k=.error (zbf g (mAt g k)):=by rw [QD,e0,if_pos rfl]
  rw [hV];refine zh zf Tryz.func17 rfl zws Tryz.ntmps17 zwy63 _ rfl (fun hw gB hgB=>?_)
  repeat' (first|refine zM 1 7 0 zf rfl zws zws zws rfl rfl rfl rfl rfl rfl rfl rfl rfl rfl rfl rfl rfl rfl (fun _=>rfl) rfl rfl rfl ?_|refine ⟨_,_,rfl,rfl,rfl,?_⟩|refine zy rfl (aj (ps:=(ze8 g (mAt g k)))) rfl rfl ?_|refine zq rfl (aj (ps:=(ze8 g (mAt g k)))) rfl rfl ?_|(refine shC ?_;first|refine qC cf ?_)|(refine shX ?_;first|refine zy rfl (ah hk0 he) rfl rfl ?_|refine zq rfl (ah hk0 he) rfl rfl ?_)|refine sK ?_|refine sC (fun _=>?_) (fun _=>?_)|fail)
  exact retq rfl rfl
set_option maxHeartbeats 20000000
theorem znn (g:Img) (hx:OkA g) (hc:((yY g).2==0)=false):ACall Tryz.prog 15 [zK g] (.base (.pointer none)):=by
 have c1:=zhb g hx;rw [zi7] at c1;have hc2:((yY g).2 != 0)=true:=by rw [bne,hc];rfl
 generalize (yY g).2=e at c1 hc hc2;refine zh zf Tryz.func15 rfl zws Tryz.ntmps15 zwy63 _ rfl (fun hw gB hgB=>?_)
 repeat' (first|(refine shC ?_;first|refine qC c1 ?_)|refine sK ?_|refine sC (fun _=>?_) (fun _=>?_)|fail)
 exact retq rfl rfl
def VR (g:Img) (m:Int):Except (Int × Int) VS:=if zbJ g&&zaj g m then QD g m else .error (0,17)
theorem zwk21 {G:Prop} (h:G:=by repeat' (first|(have:=b0;refine zy rfl (VG (b:=true) rfl Tryz.underlying50 rfl rfl) rfl rfl ?_)|(have:=b0;refine zq rfl (VG (b:=true) rfl Tryz.underlying50 rfl rfl) rfl rfl ?_)|(have:=b1;refine zy rfl (VG (b:=false) rfl Tryz.underlying50 rfl rfl) rfl rfl ?_)|(have:=b1;refine zq rfl (VG (b:=false) rfl Tryz.underlying50 rfl rfl) rfl rfl ?_)|(refine shC ?_;first|refine qC c1 ?_|(have:=b1;refine qC c2 ?_)|(have:=b2;refine qC c3 ?_))|refine sK ?_|refine sC (fun _=>?_) (fun _=>?_)|exact retq rfl rfl|fail)):G:=h
theorem zbL (g:Img) (hx:OkA g) (m:Int):ACall Tryz.prog 8 [zK g,pi m] (ztW (VR g m)):=by
 have c2:ACall Tryz.prog 16 [zK g,pi m] (pb (zaj g m)):=zpK g m;cases hwl:zbJ g
 ·have hV:VR g m=.error (0,17):=by rw [VR,hwl];rfl
  have c1:=znn g hx hwl;rw [hV];refine zh zf Tryz.func8 rfl zws Tryz.ntmps8 zwy63 _ rfl (fun hw gB hgB=>?_);have b0:=();exact zwk21
 ·have hc:(yY g).2=0:=by simpa [zbJ] using hwl
  have c1:=zkS g hx hc;cases hk:zaj g m
  ·rw [hk] at c2;have hV:VR g m=.error (0,17):=by rw [VR,hwl,hk];rfl
   rw [hV];refine zh zf Tryz.func8 rfl zws Tryz.ntmps8 zwy63 _ rfl (fun hw gB hgB=>?_);have b1:=();exact zwk21
  ·rw [hk] at c2;have hV:VR g m=QD g m:=by rw [VR,hwl,hk];rfl
   have hk2:=hk;simp only [zaj,Bool.and_eq_true,decide_eq_true_eq] at hk2;have hm:mOk g m:=⟨hk2.1.1,by omega⟩
   have c3:=zkO hc hm hk2.2;rw [hV];generalize QD g m=r at c3 ⊢;cases r with
   | ok s =>
    refine zh zf Tryz.func8 rfl zws Tryz.ntmps8 zwy63 _ rfl (fun hw gB hgB=>?_);have b1:=();have b2:=();exact zwk21
   | error e =>
    refine zh zf Tryz.func8 rfl zws Tryz.ntmps8 zwy63 _ rfl (fun hw gB hgB=>?_);have b1:=();have b2:=();exact zwk21
set_option maxHeartbeats 20000000
abbrev znb:List Ins:=[⟨8,0,⟨0,0,0,false⟩⟩,⟨46,0,⟨0,0,0,false⟩⟩]
abbrev znT:List Ins:=[⟨13,0,⟨0,0,0,false⟩⟩,⟨46,0,⟨0,0,0,false⟩⟩]
abbrev meE (c:List Ins):Me:=⟨⟨#[109]⟩,0,1,[],⟨2,0,0,false⟩,[],2,c,[]⟩
abbrev gE (c:List Ins):Img:=⟨[⟨⟨#[65]⟩,0,-1,[]⟩],[],[meE c],-1⟩
abbrev zxK (q:PV):PV:=.agg [.slc 4 [wTD 65 (-1)] true,.base (.slice none 0 0),.slc 12 [.agg [.base (.string ⟨#[109]⟩),pi 0,pi 1,.base (.slice none 0 0),pi 2,pi 0,pi 0,pb false,.base (.slice none 0 0),pi 2,q,.base (.slice none 0 0)]] true,pi (-1)]
theorem ziK (x y:Ins):ACall Tryz.prog 11 [.slc 6 [yM x,yM y] true] (zxK (.slc 6 [yM x,yM y] true)):=by
 refine zh zf Tryz.func11 rfl zws Tryz.ntmps11 zwy63 _ rfl (fun hw gB hgB=>?_)
 repeat' (first|refine sK ?_|refine sC (fun _=>?_) (fun _=>?_)|fail)
 exact retq rfl rfl
theorem ziv (x y:Ins):PTells (zxK (.slc 6 [yM x,yM y] true)) (zK (gE [x,y])) :=
 zw5 (qF (ziZ (zbW (zrP 65 (-1)) zfx)) (qF (zbS 7 false) (qF (ziZ (zbW
  (qF (.refl _) (qF (.refl _) (qF (.refl _) (qF (zbS 4 false) (qF (.refl _) (qF (.refl _) (qF (.refl _) (qF (.refl _) (qF (zbS 4 false) (qF (.refl _)
   (qF (ziZ (zbW (zhU _) (zbW (zhU _) zfx))) (qF (zbS 10 false) zcx))))))))))))
  zfx)) (qF (.refl _) zcx))))
theorem zmP {c:List Ins} (h:c=znb\/c=znT):(yY (gE c)).2=0:=by
 have h1:Yz (gE c)=true:=by rcases h with rfl|rfl <;> decide +kernel
 have h2:Yu (gE c)=true:=by rcases h with rfl|rfl <;> decide +kernel
 have h3:∀ j,j < (gE c).types.length->Yr (gE c) j=false:=by
  intro j hj;have:j=0:=by have:(gE c).types.length=1:=rfl;omega
  subst this;rcases h with rfl|rfl <;> decide +kernel
 rw [yY,show zaU (gE c)=true by rw [zaU,zeG h1 h2 h3];rfl];show (stM (gE c) (List.range (gE c).methods.length)).2=0
 rcases h with rfl|rfl <;> decide +kernel
theorem okE {c:List Ins} (h:c=znb\/c=znT):OkA (gE c):=by
 intro m hm x hx;have hm2:m=meE c:=by simpa [gE] using hm
 rw [hm2] at hx;have hx2:x∈c:=hx;rcases h with rfl|rfl <;> simp at hx2 <;> rcases hx2 with rfl|rfl <;> exact ⟨by decide,by decide⟩
theorem zxI:VR (gE znb) 0=.ok ⟨[[],[⟨2,0,0,false⟩]],[true,true],4⟩:=by
 rw [VR,show zbJ (gE znb)=true by rw [zbJ,zmP (.inl rfl)];rfl];rfl
theorem zxu:VR (gE znT) 0=.error (0,9):=by
 rw [VR,show zbJ (gE znT)=true by rw [zbJ,zmP (.inr rfl)];rfl];rfl
theorem WL:ACall Tryz.prog 5 [] (pb true):=by
 have cA:=zbL (gE znb) (okE (.inl rfl)) 0;have cB:=zbL (gE znT) (okE (.inr rfl)) 0;rw [zxI] at cA;rw [zxu] at cB;have o1:=ziK ⟨8,0,⟨0,0,0,false⟩⟩ ⟨46,0,⟨0,0,0,false⟩⟩;have o2:=ziK ⟨13,0,⟨0,0,0,false⟩⟩ ⟨46,0,⟨0,0,0,false⟩⟩;have cs:=zaR [⟨2,0,0,false⟩] [⟨2,0,0,false⟩];rw [decide_eq_true rfl] at cs;refine zh zf Tryz.func5 rfl zws Tryz.ntmps5 zwy63 _ rfl (fun hw gB hgB=>?_)
 repeat' (first|refine zfe 11 (ziv ⟨8,0,⟨0,0,0,false⟩⟩ ⟨46,0,⟨0,0,0,false⟩⟩) rfl ?_|refine zfe 20 (ziv ⟨13,0,⟨0,0,0,false⟩⟩ ⟨46,0,⟨0,0,0,false⟩⟩) rfl ?_|refine zfe 47 (zqH ⟨2,0,0,false⟩) rfl ?_|(refine shC ?_;first|refine qC o1 ?_|refine qC o2 ?_|refine qC cA ?_|refine qC cB ?_|refine qC cs ?_)|(refine shX ?_;first|refine zy rfl (zk zf rfl rfl rfl rfl rfl rfl zwy69 rfl) rfl rfl ?_|refine zq rfl (zk zf rfl rfl rfl rfl rfl rfl zwy69 rfl) rfl rfl ?_)|refine sK ?_|refine sC (fun _=>?_) (fun _=>?_)|fail)
 exact retq rfl rfl
def zrU (g:Img):Nat->Int
 | 0=>0
 | k + 1=>IntKind.i64.wrap (zrU g k + ((g.methods.getD k default).code.length:Int))
def zfU (g:Img):Bool:=Vb g||decide (24 < (g.methods.length:Int))||decide (400 < zrU g g.methods.length)
theorem zwk22 {G:Prop} (h:G:=by repeat' (first|(refine shC ?_;first|(have:=b0;refine qC c1 ?_))|(refine shX ?_;first|(have:=b1;refine qX he ?_))|refine sK ?_|refine sC (fun _=>?_) (fun _=>?_)|(have:=b2;exact retq rfl (by simp [zn,zfU,h24]))|(have:=b1;exact ⟨k + 1,hlt,by show g.methods.length - (k + 1) < g.methods.length - k;omega,yA rfl (qW rfl hs.symm (yA rfl (tS))),tH⟩)|(have:=b3;exact retq rfl (by simp [zn,zfU,hl,h24,hk2]))|(have:=b4;exact retq rfl (by simp [zn,zfU,hl]))|fail)):G:=h
theorem zlv (g:Img):ACall Tryz.prog 6 [zK g] (pb (zfU g)):=by
 have c1:=zri g;cases hl:Vb g
 ·rw [hl] at c1;by_cases h24:24 < (g.methods.length:Int)
  ·have d:decide (24 < (((g.methods.map zY).length:Nat):Int))=true:=decide_eq_true (by rw [List.length_map];exact h24);refine zh zf Tryz.func6 rfl zws Tryz.ntmps6 zwy63 _ rfl (fun hw gB hgB=>?_);have b0:=();have b2:=();exact zwk22
  ·have d:decide (24 < (((g.methods.map zY).length:Nat):Int))=false:=decide_eq_false (by rw [List.length_map];exact h24);refine zh zf Tryz.func6 rfl zws Tryz.ntmps6 zwy63 _ rfl (fun hw gB hgB=>?_)
   repeat' (first|(refine shC ?_;first|refine qC c1 ?_)|refine sK ?_|refine sC (fun _=>?_) (fun _=>?_)|fail)
   refine zL (fun k:Nat=>[(1,.pv (.ptr (zK g) 0)),(3,.pv (pi (zrU g k))),(15,.pv (pi (((g.methods.map zY).length:Nat)))),(16,.pv (pi k))]) (fun _=>[]) (fun k=>k<=g.methods.length) (fun k=>g.methods.length - k) 0 zwy62 (tS) tH ?_;intro k hk;by_cases hlt:k < g.methods.length
   ·have he:=zS (f:=zY) hlt;have dl:decide ((k:Int) < (((g.methods.map zY).length:Nat):Int))=true:=decide_eq_true zwy107;have hs:zrU g (k + 1)=IntKind.i64.wrap (zrU g k + ((g.methods[k].code.map yM).length:Nat)):=by rw [zrU,zQ hlt,List.length_map]
    have b1:=();exact zwk22
   ·have dl:decide ((k:Int) < (((g.methods.map zY).length:Nat):Int))=false:=decide_eq_false zwy107;have hk2:k=g.methods.length:=by omega
    have b3:=();exact zwk22
 ·rw [hl] at c1;refine zh zf Tryz.func6 rfl zws Tryz.ntmps6 zwy63 _ rfl (fun hw gB hgB=>?_);have b0:=();have b4:=();exact zwk22
section
variable {g:Img} {m:Me}
end
set_option maxHeartbeats 1000000 in
theorem zlo (g:Img) (m:Int):ACall Tryz.prog 7 [zK g,pi m] (pb (zbJ g&&zaj g m)):=by
 have c1:=zlp g;rw [show ((yY g).2==0)=zbJ g from rfl] at c1;cases hwl:zbJ g
 ·rw [hwl] at c1;refine zh zf Tryz.func7 rfl zws Tryz.ntmps7 zwy63 _ rfl (fun hw gB hgB=>?_)
  repeat' (first|(refine shC ?_;first|refine qC c1 ?_)|refine sK ?_|refine sC (fun _=>?_) (fun _=>?_)|fail)
  exact retq rfl rfl
 ·rw [hwl] at c1;by_cases h0:0<=m
  ·have e0:decide (0<=m)=true:=decide_eq_true h0;by_cases h1:m < g.methods.length
   ·have e1:decide (m < (((g.methods.map zY).length:Nat):Int))=true:=decide_eq_true (by rw [List.length_map];exact h1);have hl:m.toNat < g.methods.length:=by omega
    have he:(g.methods.map zY)[m.toNat]?=some (zY (mAt g m)):=by rw [mAt,zQ hl];exact zS hl
    refine zh zf Tryz.func7 rfl zws Tryz.ntmps7 zwy63 _ rfl (fun hw gB hgB=>?_)
    repeat' (first|(refine shC ?_;first|refine qC c1 ?_)|(refine shX ?_;first|refine zy rfl (ah h0 he) rfl rfl ?_|refine zq rfl (ah h0 he) rfl rfl ?_)|refine sK ?_|refine sC (fun _=>?_) (fun _=>?_)|fail)
    refine ak ?_;simp [zn,zaj,h0,h1]
   ·have e1:decide (m < (((g.methods.map zY).length:Nat):Int))=false:=decide_eq_false (by rw [List.length_map];exact h1);refine zh zf Tryz.func7 rfl zws Tryz.ntmps7 zwy63 _ rfl (fun hw gB hgB=>?_)
    repeat' (first|(refine shC ?_;first|refine qC c1 ?_)|refine sK ?_|refine sC (fun _=>?_) (fun _=>?_)|fail)
    refine ak ?_;simp [zn,zaj,h1]
  ·have e0:decide (0<=m)=false:=decide_eq_false h0;refine zh zf Tryz.func7 rfl zws Tryz.ntmps7 zwy63 _ rfl (fun hw gB hgB=>?_)
   repeat' (first|(refine shC ?_;first|refine qC c1 ?_)|refine sK ?_|refine sC (fun _=>?_) (fun _=>?_)|fail)
   refine ak ?_;simp [zn,zaj,h0]
theorem zq7 {g:Img} {k:Int} {e:Int × Int} (h:QD g k=.error e):e.2≠0:=by
 unfold QD at h;split at h
 ·rename_i h1;cases h;simpa using h1
 ·have key:∀ (f i:Nat) (s:VS),goV g k f i s=.error e->e.2≠0:=by
   intro f;induction f with
   | zero=>intro i s h;cases h
   | succ f ih =>
    intro i s h;rw [goV] at h;split at h
    ·rename_i h1;cases h;exact zuB h1
    ·exact ih _ _ h
  exact key _ _ _ h
theorem zwf {g:Img} {k:Int} {e:Int × Int} (h:VR g k=.error e):e.2≠0:=by
 unfold VR at h;split at h
 ·exact zq7 h
 ·cases h;decide
end Go.Cg
