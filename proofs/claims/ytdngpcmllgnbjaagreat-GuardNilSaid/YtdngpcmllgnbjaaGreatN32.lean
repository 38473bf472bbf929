/- A part of the walks by abstract values: no statement of its own. -/
import Derived.Test.YtdngpcmllgnbjaaGreatN28
import Derived.Test.YtdngpcmllgnbjaaGreatN10
import Derived.Test.YtdngpcmllgnbjaaGreatN8
set_option linter.unusedVariables false
set_option linter.unusedSimpArgs false
namespace Go.Cg
open Go.Proofs
def alk (g:Img) (a b:Int):Bool:=zkx (mAt g a) (mAt g b)
def zc0 (g:Img) (m:Int):Bool:=yE (mAt g m).flags 2
def fresh (g:Img) (m:Int):Bool:=yE (mAt g m).flags 8
def Yo (g:Img) (out:List Int) (m:Int):List Int :=
 if zc0 g m then (if out.any (fun x=>alk g x m)&&!fresh g m then out.set (out.findIdx (fun x=>alk g x m)) m else out++[m]) else out
def qN (g:Img) (out:List Int) (ms:List Int):List Int:=ms.foldl (Yo g) out
def zha (g:Img) (us:List Int):List Int:=us.foldl (fun out u=>qN g out (methodsOf g u)) []
def tbl (g:Img) (t:Int):List Int:=zha g (up g t).reverse
theorem zn0 {g:Img} (hW:Wl g) {t:Int} {td:TD} (h:typeAt g t=some td):tbl g t=qN g (tbl g td.ext) (methodsOf g t):=by
 rw [tbl,hW.up_cons h,List.reverse_cons,zha,List.foldl_append];rfl
def mOk (g:Img) (x:Int):Prop:=0≤x∧x.toNat < g.methods.length
theorem zi8 {g:Img} {out:List Int} {m x:Int} (h:x∈Yo g out m):x∈out∨x=m:=by
 rw [Yo] at h
 split at h
 ·split at h
  ·exact List.mem_or_eq_of_mem_set h
  ·simpa using h
 ·exact .inl h
theorem zjO (g:Img) (out:List Int) (m:Int):out.length≤(Yo g out m).length∧(Yo g out m).length≤out.length + 1:=by
 rw [Yo]
 split
 ·split <;> simp
 ·simp
theorem zav {g:Img} {x:Int}:∀ {ms out:List Int},x∈qN g out ms→x∈out∨x∈ms
 | [],out,h=>.inl h
 | m::ms,out,h=>by
  rcases zav (ms:=ms) (out:=Yo g out m) h with h|h
  ·rcases zi8 h with h|rfl
   ·exact .inl h
   ·exact .inr (by simp)
  ·exact .inr (by simp [h])
theorem Wi (g:Img):∀ (ms out:List Int),out.length≤(qN g out ms).length∧(qN g out ms).length≤out.length + ms.length
 | [],out=>by simp [qN]
 | m::ms,out=>by
  have h1:=Wi g ms (Yo g out m)
  have h2:=zjO g out m
  have e:qN g out (m::ms)=qN g (Yo g out m) ms:=rfl
  rw [e,List.length_cons];omega
theorem zn8 {g:Img} (us:List Int):(zha g us).length≤g.methods.length * us.length:=by
 rw [zha]
 have key:∀ (us:List Int) (out:List Int),(us.foldl (fun out u=>qN g out (methodsOf g u)) out).length≤out.length + g.methods.length * us.length:=by
  intro us
  induction us with
  | nil=>intro out;simp
  | cons u us ih =>
   intro out
   have h1:=ih (qN g out (methodsOf g u))
   have h2:=(Wi g (methodsOf g u) out).2
   have h3:=Yu g u
   rw [List.foldl_cons,List.length_cons,Nat.mul_succ];omega
 have:=key us []
 simpa using this
theorem zjW {g:Img} {x:Int}:∀ {us:List Int},x∈zha g us→mOk g x:=by
 have key:∀ (us:List Int) (out:List Int),(∀ x∈out,mOk g x)→∀ x∈us.foldl (fun out u=>qN g out (methodsOf g u)) out,mOk g x:=by
  intro us
  induction us with
  | nil=>intro out h;exact h
  | cons u us ih =>
   intro out h
   refine ih _ fun x hx=>?_
   rcases zav hx with hx|hx
   ·exact h x hx
   ·exact yQ hx
 intro us h
 exact key us [] (by simp) x h
theorem zlz {g:Img} {t x:Int} (h:x∈tbl g t):mOk g x:=zjW h
theorem YR {g:Img} {x:Int} (h:mOk g x):(g.methods.map zM)[x.toNat]?=some (zM (mAt g x)):=by
 rw [mAt,zV h.2];exact Zw h.2
theorem zg1 (g:Img) (out ms:List Int) (k:Nat) (h:k < ms.length):qN g out (ms.take (k + 1))=Yo g (qN g out (ms.take k)) ms[k]:=by
 rw [List.take_succ_eq_append_getElem h,qN,List.foldl_append];rfl
set_option maxHeartbeats 20000000
theorem XB {g:Img} (hf:zK g=true) {a:Int} (h:mOk g a):0≤(mAt g a).flags∧(mAt g a).flags≤31:=WR (zbe hf h.2)
theorem zlR {g:Img} (hf:zK g=true) {a b:Int} (ha:mOk g a) (hb:mOk g b):zfN (mAt g a) (mAt g b)=alk g a b:=by
 have h1:=XB hf ha
 have h2:=XB hf hb
 exact znX h1.1 h1.2 h2.1 h2.2
theorem zkA (g:Img) (hf:zK g=true) (x m:Int) (hx:mOk g x) (hm:mOk g m):ACall Tryz.prog 408 ([]++[pi x]++[.ptr (zu g) 0,.ptr (pi m) 0]) (pb (alk g x m)):=by
 show ACall Tryz.prog 408 [pi x,.ptr (zu g) 0,.ptr (pi m) 0] (pb (alk g x m))
 refine zf zh Tryz.func408 rfl (by kernel_rfl) Tryz.ntmps408 (by simp) _ rfl (fun hw gB hgB=>?_)
 have e1:=YR hx
 have e2:=YR hm
 have c1:=zdq (mAt g x) (mAt g m)
 rw [zlR hf hx hm] at c1
 repeat' (first|(refine shC ?_;first|refine qC c1 ?_)|(refine shX ?_;first|refine zq rfl (zn zh rfl rfl rfl rfl rfl rfl hx.1 e1) rfl rfl ?_|refine AD.step _ _ _ _ _ rfl (zn zh rfl rfl rfl rfl rfl rfl hx.1 e1) rfl rfl ?_|refine zq rfl (zn zh rfl rfl rfl rfl rfl rfl hm.1 e2) rfl rfl ?_|refine AD.step _ _ _ _ _ rfl (zn zh rfl rfl rfl rfl rfl rfl hm.1 e2) rfl rfl ?_)|refine sA ?_|refine sC (fun _=>?_) (fun _=>?_)|fail)
 exact retq rfl rfl
abbrev slH (out:List Int):HEnv:=[(0,.cell (.agg [.own 7])),(7,.mrow 3 1 (out.map pi))]
theorem zkc (g:Img) (hf:zK g=true) (out:List Int) (m:Int) (ho:∀ x∈out,mOk g x) (hm:mOk g m) (us:Nat→Value):ACallM Tryz.prog 389 [.box 0 0,.pv (zu g),.pv (pi m)] (slH out++zD us [0]) (.pv (pi (zbj out (fun x=>alk g x m)))) (slH out++zD us [0]):=by
 refine zJ zh Tryz.func389 rfl (by kernel_rfl) Tryz.ntmps389 (by simp) _ rfl (fun gB hw1=>?_)
 have c1:=XT out (fun x=>alk g x m) 408 [] [.ptr (zu g) 0,.ptr (pi m) 0] (fun x hx=>zkA g hf x m (ho x hx) hm)
 repeat' (first|(refine zQ ?_;first|refine zon rfl rfl rfl c1 rfl rfl ?_)|refine sA ?_|refine sC (fun _=>?_) (fun _=>?_)|fail)
 exact ⟨.inr rfl,.inl ⟨_,rfl,rfl,⟨by repeat (first|exact zk|refine zi rfl ?_),rfl⟩⟩⟩
theorem zl8 (out:List Int) (m:Int) (ho:out.length≤5000) (us:Nat→Value):ACallM Tryz.prog 390 [.box 0 0,.pv (pi m)] (slH out++zD us [0]) (.pv (.tup [])) (slH (out++[m])++zD us [0]):=by
 refine zJ zh Tryz.func390 rfl (by kernel_rfl) Tryz.ntmps390 (by simp) _ rfl (fun gB hw1=>?_)
 repeat' (first|(refine zI ?_;first|refine Qs zh rfl rfl rfl rfl rfl rfl rfl (by show _ * 8≤_;simp;omega) (by simp;omega) rfl rfl ?_)|refine sA ?_|refine sC (fun _=>?_) (fun _=>?_)|fail)
 exact ⟨.inl rfl,.inl ⟨[],rfl,rfl,⟨zi rfl (qJ rfl (by simp) (by repeat (first|exact zk|refine zi rfl ?_))),rfl⟩⟩⟩
theorem zjj {g:Img} {out:List Int} {m:Int} (hv:zc0 g m=true):Yo g out m=if decide (0≤zbj out (fun x=>alk g x m))&&!fresh g m then out.set (zbj out (fun x=>alk g x m)).toNat m else out++[m]:=by
 rw [Yo,if_pos hv,zbj]
 cases out.any (fun x=>alk g x m) <;> cases fresh g m <;> simp
theorem zkK {l:List Int} {p:Int→Bool}:zbj l p = -1∨(0≤zbj l p∧(zbj l p).toNat < l.length):=by
 rw [zbj]
 split
 ·rename_i h
  right
  obtain ⟨x,hx,hp⟩:=List.any_eq_true.1 h
  have:=List.findIdx_lt_length_of_exists (p:=p) ⟨x,hx,hp⟩
  omega
 ·exact .inl rfl
def zlL (g:Img):List PV:=[.slc 4 (g.types.map qx) false,.slc 7 (g.fields.map Zc) false,.slc 12 (g.methods.map zM) false,pi g.entry]
abbrev zch (g:Img):AV:=.agg [.box 0 0,.pv (.slc 4 (g.types.map qx) false),.pv (.slc 7 (g.fields.map Zc) false),.pv (.slc 12 (g.methods.map zM) false),.pv (pi g.entry)]
theorem zc9 {P:Prop}:false=true→P:=fun h=>nomatch h
theorem zkC (g:Img) (hF:Fine g) (out:List Int) (u:Int) (ho:∀ x∈out,mOk g x) (hol0:out.length≤2048) (us:Nat→Value) :
  ACallM Tryz.prog 344 [zch g,.pv (pi u)] (slH out++zD us [0]) (.pv (.tup [])) (slH (qN g out (methodsOf g u))++zD us [0]):=by
 have hgm:g.methods.length≤64:=(zG hF.formed).2.2.1
 have c3:=ZR g u (by omega)
 have hml:=Yu g u
 refine zJ zh Tryz.func344 rfl (by kernel_rfl) Tryz.ntmps344 (by simp) _ rfl (fun gB hw1=>?_)
 repeat' (first|refine zq rfl (ZT (ps:=zlL g) zh rfl rfl rfl rfl rfl) rfl rfl ?_|(refine shC ?_;first|refine qC c3 ?_)|(refine Zt ?_;first|refine YP 2 rfl rfl rfl rfl rfl rfl ?_)|refine sA ?_|refine sC (fun _=>?_) (fun _=>?_)|fail)
 refine zA (fun k:Nat=>[(2,.box 2 0),(11,.pv (ints (methodsOf g u))),(12,.pv (pi (methodsOf g u).length)),(13,.pv (pi k))])
  (fun k=>[(0,.cell (.agg [.own 7])),(7,.mrow 3 1 ((qN g out ((methodsOf g u).take k)).map pi)),(2,.cell (zch g)),(1000,.pin (.own 0) (us 0))])
  (fun k=>k≤(methodsOf g u).length) (fun k=>(methodsOf g u).length - k) 0 (by omega) (tS) ⟨zi rfl (qJ rfl rfl (by repeat (first|exact zk|refine zi rfl ?_))),rfl⟩ ?_
 rintro k hk
 by_cases hlt:k < (methodsOf g u).length
 ·obtain ⟨x,hx⟩:∃ x,x=(methodsOf g u)[k]:=⟨_,rfl⟩
  have hex:((methodsOf g u).map pi)[k]?=some (pi x):=by rw [hx];exact yI (f:=pi) hlt
  have hmx:mOk g x:=by rw [hx];exact yQ (List.getElem_mem hlt)
  have hem:=YR hmx
  have hs:=zg1 g out _ k hlt
  rw [←hx] at hs
  obtain ⟨cur,hcu⟩:∃ o,o=qN g out ((methodsOf g u).take k):=⟨_,rfl⟩
  have hcl:cur.length≤2112:=by
   have:=(Wi g ((methodsOf g u).take k) out).2
   have h2:((methodsOf g u).take k).length≤64:=by simp;omega
   rw [hcu];omega
  have hcm:∀ y∈cur,mOk g y:=by
   intro y hy
   rw [hcu] at hy
   rcases zav hy with hy|hy
   ·exact ho y hy
   ·exact yQ (List.mem_of_mem_take hy)
  rw [←hcu] at hs ⊢
  have hfl:=XB hF.formed hmx
  have hfe:=Vk hfl.1 hfl.2
  have b2:=YB (mAt g x) 2
  have b8:=YB (mAt g x) 8
  rw [hfe.2.1] at b2
  rw [hfe.2.2.2.1] at b8
  cases hv:zc0 g x
  ·rw [show yE (mAt g x).flags 2=false from hv] at b2
   repeat' (first|(refine shC ?_;first|refine qC b2 ?_)|(refine shX ?_;first|refine qX hex ?_|refine zq rfl (zn zh rfl rfl rfl rfl rfl rfl hmx.1 hem) rfl rfl ?_|refine AD.step _ _ _ _ _ rfl (zn zh rfl rfl rfl rfl rfl rfl hmx.1 hem) rfl rfl ?_)|refine sK ?_|refine sC (fun _=>?_) (fun _=>?_)|fail)
   exact ⟨k + 1,hlt,tD,tS,⟨zi rfl (qJ rfl (by rw [hs,Yo,hv];rfl) (by repeat (first|exact zk|refine zi rfl ?_))),rfl⟩⟩
  ·rw [show yE (mAt g x).flags 2=true from hv] at b2
   rw [zjj hv] at hs
   have cF:=fun us=>zkc g hF.formed cur x hcm hmx us
   have cP:=fun us=>zl8 cur x (by omega) us
   have hr:=zkK (l:=cur) (p:=fun y=>alk g y x)
   obtain ⟨a,ha⟩:∃ a,a=zbj cur (fun y=>alk g y x):=⟨_,rfl⟩
   simp only [←ha] at cF
   rw [←ha] at hs hr
   rcases hr with rfl|⟨ha0,ha1⟩
   ·rw [if_neg (by simp)] at hs
    repeat' (first|refine zq rfl (ZT (ps:=zlL g) zh rfl rfl rfl rfl rfl) rfl rfl ?_|(refine shC ?_;first|refine qC b2 ?_|refine qC b8 ?_)|(refine shX ?_;first|refine qX hex ?_|refine zq rfl (zn zh rfl rfl rfl rfl rfl rfl hmx.1 hem) rfl rfl ?_|refine AD.step _ _ _ _ _ rfl (zn zh rfl rfl rfl rfl rfl rfl hmx.1 hem) rfl rfl ?_)|(refine zQ ?_;first|refine Zu (slH cur) (slH cur) [(2,.cell (zch g)),(1,.cell (.pv (zM (mAt g x)))),(1000,.pin (.own 0) (us 0))] [(2,.box 2 0),(5,.pv (pi x)),(6,.box 1 0),(11,.pv (ints (methodsOf g u))),(12,.pv (pi (methodsOf g u).length)),(13,.pv (pi k))] [0] zc9 rfl rfl rfl (by repeat (first|exact zk|refine zi rfl ?_)) tS rfl rfl rfl cF ?_|refine Zu (slH cur) (slH (cur++[x])) [(2,.cell (zch g)),(1000,.pin (.own 0) (us 0))] [(2,.box 2 0),(11,.pv (ints (methodsOf g u))),(12,.pv (pi (methodsOf g u).length)),(13,.pv (pi k))] [0] zc9 rfl rfl rfl (by repeat (first|exact zk|refine zi rfl ?_)) tS rfl rfl rfl cP ?_)|refine sK ?_|refine sC (fun _=>?_) (fun _=>?_)|fail)
    exact ⟨k + 1,hlt,tD,tS,⟨zi rfl (qJ rfl (by rw [hs]) (by repeat (first|exact zk|refine zi rfl ?_))),rfl⟩⟩
   ·have hd:decide (0≤a)=true:=decide_eq_true ha0
    rw [hd] at hs
    cases hf:fresh g x
    ·rw [show yE (mAt g x).flags 8=false from hf] at b8
     rw [hf,if_pos (by simp)] at hs
     have hal:a.toNat < (cur.map pi).length:=by rw [List.length_map];exact ha1
     have hap:(cur.map pi)[a.toNat]?=some (pi cur[a.toNat]):=Zw ha1
     repeat' (first|refine zq rfl (ZT (ps:=zlL g) zh rfl rfl rfl rfl rfl) rfl rfl ?_|(refine shC ?_;first|refine qC b2 ?_|refine qC b8 ?_)|(refine shX ?_;first|refine qX hex ?_|refine zq rfl (zn zh rfl rfl rfl rfl rfl rfl hmx.1 hem) rfl rfl ?_|refine AD.step _ _ _ _ _ rfl (zn zh rfl rfl rfl rfl rfl rfl hmx.1 hem) rfl rfl ?_|refine zq rfl (yw (k:=a.toNat) zh rfl rfl rfl rfl rfl rfl rfl (by omega) hal) rfl rfl ?_|refine AD.step _ _ _ _ _ rfl (yw (k:=a.toNat) zh rfl rfl rfl rfl rfl rfl rfl (by omega) hal) rfl rfl ?_)|(refine zQ ?_;first|refine Zu (slH cur) (slH cur) [(2,.cell (zch g)),(1,.cell (.pv (zM (mAt g x)))),(1000,.pin (.own 0) (us 0))] [(2,.box 2 0),(5,.pv (pi x)),(6,.box 1 0),(11,.pv (ints (methodsOf g u))),(12,.pv (pi (methodsOf g u).length)),(13,.pv (pi k))] [0] zc9 rfl rfl rfl (by repeat (first|exact zk|refine zi rfl ?_)) tS rfl rfl rfl cF ?_)|(refine Yh ?_;first|refine Vb (k:=a.toNat) (j:=0) zh rfl rfl rfl rfl rfl hap rfl rfl rfl rfl rfl ?_)|refine sK ?_|refine sC (fun _=>?_) (fun _=>?_)|fail)
     exact ⟨k + 1,hlt,tD,tS,⟨zi rfl (qJ rfl (by rw [hs,List.map_set]) (by repeat (first|exact zk|refine zi rfl ?_))),rfl⟩⟩
    ·rw [show yE (mAt g x).flags 8=true from hf] at b8
     rw [hf,if_neg (by simp)] at hs
     repeat' (first|refine zq rfl (ZT (ps:=zlL g) zh rfl rfl rfl rfl rfl) rfl rfl ?_|(refine shC ?_;first|refine qC b2 ?_|refine qC b8 ?_)|(refine shX ?_;first|refine qX hex ?_|refine zq rfl (zn zh rfl rfl rfl rfl rfl rfl hmx.1 hem) rfl rfl ?_|refine AD.step _ _ _ _ _ rfl (zn zh rfl rfl rfl rfl rfl rfl hmx.1 hem) rfl rfl ?_)|(refine zQ ?_;first|refine Zu (slH cur) (slH cur) [(2,.cell (zch g)),(1,.cell (.pv (zM (mAt g x)))),(1000,.pin (.own 0) (us 0))] [(2,.box 2 0),(5,.pv (pi x)),(6,.box 1 0),(11,.pv (ints (methodsOf g u))),(12,.pv (pi (methodsOf g u).length)),(13,.pv (pi k))] [0] zc9 rfl rfl rfl (by repeat (first|exact zk|refine zi rfl ?_)) tS rfl rfl rfl cF ?_|refine Zu (slH cur) (slH (cur++[x])) [(2,.cell (zch g)),(1000,.pin (.own 0) (us 0))] [(2,.box 2 0),(11,.pv (ints (methodsOf g u))),(12,.pv (pi (methodsOf g u).length)),(13,.pv (pi k))] [0] zc9 rfl rfl rfl (by repeat (first|exact zk|refine zi rfl ?_)) tS rfl rfl rfl cP ?_)|refine sK ?_|refine sC (fun _=>?_) (fun _=>?_)|fail)
     exact ⟨k + 1,hlt,tD,tS,⟨zi rfl (qJ rfl (by rw [hs]) (by repeat (first|exact zk|refine zi rfl ?_))),rfl⟩⟩
 ·have hk2:k=(methodsOf g u).length:=by omega
  subst hk2
  rw [List.take_length]
  repeat' (first|refine sK ?_|refine sC (fun _=>?_) (fun _=>?_)|fail)
  exact ⟨.inl rfl,.inl ⟨[],rfl,rfl,⟨by repeat (first|exact zk|refine zi rfl ?_),rfl⟩⟩⟩
set_option maxHeartbeats 2000000 in
theorem zfC (g:Img) (hF:Fine g) (t:Int):ACall Tryz.prog 255 [zu g,pi t] (ints (tbl g t)):=by
 obtain ⟨hgt,_,hgm,_⟩:=zG hF.formed
 have hui:=zaS g t
 have hul:=qU _ _ hui.1 hui.2
 refine zcy zh Tryz.func255 rfl (by kernel_rfl) Tryz.ntmps255 (by simp) _ rfl (fun hw gB hgB hds=>?_)
 refine WW ?_
 repeat' (first|refine sA ?_|refine sC (fun _=>?_) (fun _=>?_)|fail)
 refine WW ?_
 repeat' (first|refine zq rfl (zaF zh rfl ⟨_,rfl⟩ rfl rfl rfl rfl rfl rfl) rfl rfl ?_|(refine Zt ?_;first|refine YP 0 rfl rfl rfl rfl rfl rfl ?_)|refine sA ?_|refine sC (fun _=>?_) (fun _=>?_)|fail)
 refine zii ?_
 refine WW ?_
 repeat' (first|refine Wv 0 7 0 3 1 (by decide) rfl rfl rfl rfl ?_|(refine shC ?_;first|refine zq rfl (ZB rfl rfl (ZO g t (by omega))) rfl rfl ?_|refine AD.step _ _ _ _ _ rfl (ZB rfl rfl (ZO g t (by omega))) rfl rfl ?_|refine qC (zbq _) ?_)|refine sA ?_|refine sC (fun _=>?_) (fun _=>?_)|fail)
 refine zgI ?_
 refine zgJ (fun x=>.int .i64 x.1) (fun x=>.int .i64 x.2) (zgr (up g t) (by omega)) [(2,.pv (.ptr (zu g) 0)),(5,.box 1 0),(15,.pv (.fn (.func 362) [] [.ptr (ints (up g t)) 0]))]
  (fun pre=>[(0,.cell (.agg [.own 7])),(7,.mrow 3 1 ((zha g (pre.map (·.2))).map pi)),(1,.cell (zch g))]) 100 hgB hds (fun _=>rfl) (fun _=>rfl) rfl (tS) rfl rfl rfl (by decide) ⟨by repeat (first|exact zk|refine zi rfl ?_),rfl⟩ (fun _=>rfl) (fun _=>rfl) rfl ?_ ?_
 ·intro g2 us pre x hlen
  rw [zbi] at hlen
  obtain ⟨cur,hcu⟩:∃ c,c=zha g (pre.map (·.2)):=⟨_,rfl⟩
  have hcl:cur.length≤2048:=by
   have h1:=zn8 (g:=g) (pre.map (·.2))
   have h2:g.methods.length * (pre.map (·.2)).length≤64 * 32:=Nat.mul_le_mul hgm (by rw [List.length_map];omega)
   rw [hcu];omega
  have hcm:∀ y∈cur,mOk g y:=fun y hy=>zjW (by rw [hcu] at hy;exact hy)
  have hs:zha g ((pre++[x]).map (·.2))=qN g cur (methodsOf g x.2):=by rw [hcu,List.map_append,zha,List.foldl_append];rfl
  rw [←hcu]
  have cT:=fun us'=>zkC g hF cur x.2 hcm hcl us'
  repeat' (first|(refine zQ ?_;first|refine Zu (slH cur) (slH (qN g cur (methodsOf g x.2))) ((1,.cell (zch g))::yF us 100 [(2,.pv (.ptr (zu g) 0)),(5,.box 1 0),(15,.pv (.fn (.func 362) [] [.ptr (ints (up g t)) 0]))]) [] [0] zc9 rfl rfl rfl (by repeat (first|exact zk|refine zi rfl ?_)) tS rfl rfl rfl cT ?_)|refine sA ?_|refine sC (fun _=>?_) (fun _=>?_)|fail)
  exact ⟨zi rfl (qJ rfl (by rw [hs]) (by repeat (first|exact zk|refine zi rfl ?_))),rfl⟩
 ·intro g3
  repeat' (first|refine zbQ 7 rfl ?_|refine sA ?_|refine sC (fun _=>?_) (fun _=>?_)|fail)
  exact ⟨rfl,retq rfl (by rw [zgv];rfl)⟩
set_option maxHeartbeats 20000000
theorem zk3 (g:Img) (hx:OkA g):ACall Tryz.prog 127 [zu g] (pb (YM g)):=by
 refine zf zh Tryz.func127 rfl (by kernel_rfl) Tryz.ntmps127 (by simp) _ rfl (fun hw gB hgB=>?_)
 repeat' (first|(refine shC ?_;first|refine qC (zaB g hx) ?_)|refine sA ?_|refine sC (fun _=>?_) (fun _=>?_)|fail)
 exact retq rfl rfl
def zaa (g:Img) (m:Int):Int:=(mAt g m).owner
def QN (g:Img) (m:Int):Int:=if zc0 g m&&zB g (zaa g m)==0 then idx (tbl g (zaa g m)) m else -1
theorem zpK {g:Img} (hF:Fine g) {m:Int} (hm:mOk g m):ACall Tryz.prog 249 [zM (mAt g m),pi 2] (pb (zc0 g m)):=by
 have h:=XB hF.formed hm
 have c:=YB (mAt g m) 2
 rwa [(Vk h.1 h.2).2.1] at c
theorem zkd (g:Img) (hF:Fine g) (m:Int) (hm:mOk g m):ACall Tryz.prog 395 [zu g,pi m] (pi (QN g m)):=by
 have hem:=YR hm
 have c1:=zpK hF hm
 have c2:=qw g hF.formed (mAt g m).owner
 have c3:=zfC g hF (mAt g m).owner
 have c4:=zeE (tbl g (mAt g m).owner) m
 refine zf zh Tryz.func395 rfl (by kernel_rfl) Tryz.ntmps395 (by simp) _ rfl (fun hw gB hgB=>?_)
 cases hv:zc0 g m
 ·rw [hv] at c1
  repeat' (first|(refine shC ?_;first|refine qC c1 ?_)|(refine shX ?_;first|refine zq rfl (zn zh rfl rfl rfl rfl rfl rfl hm.1 hem) rfl rfl ?_|refine AD.step _ _ _ _ _ rfl (zn zh rfl rfl rfl rfl rfl rfl hm.1 hem) rfl rfl ?_)|refine sK ?_|refine sC (fun _=>?_) (fun _=>?_)|fail)
  exact retq rfl (by simp [zl,QN,hv])
 ·rw [hv] at c1
  by_cases hk:zB g (mAt g m).owner=0
  ·rw [hk] at c2
   repeat' (first|(refine shC ?_;first|refine qC c1 ?_|refine qC c2 ?_|refine qC c3 ?_|refine qC c4 ?_)|(refine shX ?_;first|refine zq rfl (zn zh rfl rfl rfl rfl rfl rfl hm.1 hem) rfl rfl ?_|refine AD.step _ _ _ _ _ rfl (zn zh rfl rfl rfl rfl rfl rfl hm.1 hem) rfl rfl ?_)|refine sK ?_|refine sC (fun _=>?_) (fun _=>?_)|fail)
   exact retq rfl (by simp [zl,QN,hv,zaa,hk])
  ·have hkb:(zB g (mAt g m).owner != 0)=true:=by simp [hk]
   repeat' (first|(refine shC ?_;first|refine qC c1 ?_|refine qC c2 ?_)|(refine shX ?_;first|refine zq rfl (zn zh rfl rfl rfl rfl rfl rfl hm.1 hem) rfl rfl ?_|refine AD.step _ _ _ _ _ rfl (zn zh rfl rfl rfl rfl rfl rfl hm.1 hem) rfl rfl ?_)|refine sK ?_|refine sC (fun _=>?_) (fun _=>?_)|fail)
   exact retq rfl (by simp [zl,QN,hv,zaa,hk])
theorem zdZ (f:Int):0≤Xf f:=by
 unfold Xf
 cases yE f 2 <;> cases yE f 1 <;> cases yE f 16 <;> simp
def zfY (g:Img) (t:Ty):Bool:=(t.kind != 5&&t.kind != 6)||(t.kind==6&&zB g t.index==1)||(t.kind==5&&zB g t.index != 1)
theorem zpi {g:Img} {t:Ty} (hp:Zf t=true) (ho:zfR t g.types.length=true):zfY g t=qA g t:=by
 have hk:=zay g t.index
 have hn:(t.kind=5∨t.kind=6)→zB g t.index ≠ -1:=by
  intro h
  have h0:0≤t.index:=by
   rw [Zf] at hp
   split at hp
   ·cases hp
   ·rename_i hh;simp at hh;omega
  have h1:t.index < g.types.length:=by
   rw [zfR] at ho
   rcases h with h|h <;> simpa [h] using ho
  obtain ⟨td,htd⟩:=Xn ⟨h0,h1⟩
  rw [zB,htd]
  have:=zdZ td.flags
  simp only;omega
 rw [zfY,qA,hp]
 generalize zB g t.index=k at hk hn
 by_cases h5:t.kind=5
 ·have:=hn (.inl h5)
  rcases hk with rfl|rfl|rfl|rfl|rfl <;> simp_all
 ·by_cases h6:t.kind=6
  ·have:=hn (.inr h6)
   rcases hk with rfl|rfl|rfl|rfl|rfl <;> simp_all
  ·have e5:(t.kind==5)=false:=beq_eq_false_iff_ne.2 h5
   have e6:(t.kind==6)=false:=beq_eq_false_iff_ne.2 h6
   simp only [bne,e5,e6];rfl
theorem za8 {t:Ty} {p n:Int} (h:QD t p n=true):Zf t=true∧zfR t n=true:=by
 rw [QD,Bool.and_eq_true] at h
 refine ⟨?_,h.2⟩
 have:=h.1
 rw [Zo] at this
 cases hp:Zf t
 ·rw [hp] at this;simp at this
 ·rfl
def znP (m:Me):List Ty:=(m.code.filter fun x=>yC x.op==8).map (·.t)
def zkY (m:Me):List Ty:=(m.clauses.filter fun c=>c.kind==1).map (·.t)
def zaR (m:Me):List Ty:=m.params++m.locals++[m.ret]++znP m++zkY m
def zfu (g:Img) (m:Me):Bool:=qA g m.ret&&m.params.all (qA g)&&m.locals.all (qA g)&&m.code.all (fun x=>yC x.op != 8||qA g x.t)&&m.clauses.all (fun c=>c.kind != 1||qA g c.t)
theorem ziK {α:Type} {l:List α} {p:α→Bool} {f:α→Ty} {q:Ty→Bool}:((l.filter p).map f).all q=l.all fun x=>!p x||q (f x):=by
 induction l with
 | nil=>rfl
 | cons x l ih =>
  rw [List.filter_cons]
  cases h:p x <;> simp [h,ih]
theorem znA {g:Img} {m:Me} (h:ZY g m=true):(zaR m).all (zfY g)=zfu g m:=by
 simp only [ZY,zck,Bool.and_eq_true,List.all_eq_true,YX,codeOk] at h
 obtain ⟨⟨⟨⟨_,hr⟩,hp⟩,hl⟩,⟨⟨_,hc⟩,hk⟩,_⟩:=h
 have e:(zaR m).all (zfY g)=(zaR m).all (qA g):=by
  rw [Bool.eq_iff_iff,List.all_eq_true,List.all_eq_true]
  have:∀ t∈zaR m,zfY g t=qA g t:=by
   intro t ht
   have key:Zf t=true∧zfR t g.types.length=true:=by
    simp only [zaR,znP,zkY,List.mem_append,List.mem_singleton,List.mem_map,List.mem_filter] at ht
    rcases ht with (((ht|ht)|rfl)|⟨x,⟨hx,ho⟩,rfl⟩)|⟨c,⟨hx,ho⟩,rfl⟩
    ·exact za8 (hp t ht)
    ·exact za8 (hl t ht)
    ·exact za8 hr
    ·have h1:=hc x hx
     rw [beq_iff_eq] at ho
     obtain ⟨hf,h2⟩:=h1
     rw [ho] at h2
     refine ⟨?_,by simpa using h2⟩
     rw [beq_iff_eq,WQ] at hf
     cases hpx:Zf x.t
     ·have hw:Zo x.t 1=false:=by rw [Zo,hpx];rfl
      split at hf
      ·omega
      ·split at hf
       ·omega
       ·split at hf
        ·omega
        ·rw [if_pos ⟨ho,hw⟩] at hf;omega
     ·rfl
    ·have h1:=hk c hx
     rw [beq_iff_eq] at ho
     rw [ho] at h1
     simp at h1
     exact za8 h1
   exact zpi key.1 key.2
  constructor
  ·intro h t ht;rw [←this t ht];exact h t ht
  ·intro h t ht;rw [this t ht];exact h t ht
 rw [e,zaR,List.all_append,List.all_append,List.all_append,List.all_append,znP,zkY,ziK,ziK,zfu]
 have e1:(m.code.all fun x=>!(yC x.op==8)||qA g x.t)=m.code.all fun x=>yC x.op != 8||qA g x.t:=rfl
 have e2:(m.clauses.all fun c=>!(c.kind==1)||qA g c.t)=m.clauses.all fun c=>c.kind != 1||qA g c.t:=rfl
 rw [e1,e2]
 simp only [List.all_cons,List.all_nil,Bool.and_true]
 cases qA g m.ret <;> simp [Bool.and_assoc]
end Go.Cg
