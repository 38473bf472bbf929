/- A part of the walks by abstract values: no statement of its own. -/
import Derived.Test.YtmgdpkcmbnlklaaGreatA30
import Derived.Test.YtmgdpkcmbnlklaaGreatA15
set_option linter.unusedVariables false
set_option linter.unusedSimpArgs false
namespace Go.Cg
open Go.Proofs
section
variable {ws:List Int} {fs:List Fr} {N:Int} {D A:List DX} {d:DX}
theorem swX (a:List Int) (h:a.length≤1000):ACall Tryz.prog 13 [.slc 1 (a.map u64) false,.slc 1 (a.map u64) false] (pb true):=by
 have t:=QX a a false false (by omega) (by omega)
 rw [decide_eq_true rfl] at t
 exact t
theorem set_self {α:Type} {l:List α} {k:Nat} {x:α} (h:l[k]?=some x):l.set k x=l:=by
 obtain ⟨h1,h2⟩:=List.getElem?_eq_some_iff.1 h
 rw [←h2];exact List.set_getElem_self h1
theorem zll {k:Nat} {Y:Value→DX} (hk:k < D.length):∀ s k' y,(D.set k (Y s))[k']?=some y→(k'=k∧y=Y s)∨(k'≠k∧∃ z,D[k']?=some z∧∀ b r,row4 b y r=row4 b z r):=by
 intro s k' y hy
 rw [List.getElem?_set] at hy
 by_cases e:k=k'
 ·subst e
  rw [if_pos rfl,if_pos hk] at hy
  simp only [Option.some.injEq] at hy
  exact .inl ⟨rfl,hy.symm⟩
 ·rw [if_neg e] at hy
  exact .inr ⟨Ne.symm e,y,hy,fun _ _=>rfl⟩
theorem zbp {k:Nat} {y:DX} (hk:k < D.length):(D.set k y)[k]?=some y:=by rw [List.getElem?_set,if_pos rfl,if_pos hk]
theorem zjN (h:RX ws fs N D) (n m x:Int) (l:List Int):DoW ws fs N D (YS 4 n m x l):=by
 have hwl:=h.wl
 have c0:=swX [] (by decide)
 rcases List.eq_nil_or_concat D with e|⟨A,d,e⟩
 ·subst e
  obtain rfl:fs=[]:=List.eq_nil_of_length_eq_zero h.len
  exact ⟨ws,[],fun _=>[],fun _=>h,ZW (k:=0) (zlR (L':=fun _=>[]) (fun us=>zhJ ws 12 N n us) (fun us=>YH (zfv N n us)) c0) (fun k' y hy=>by simp at hy)⟩
 ·rw [List.concat_eq_append] at e
  subst e
  obtain ⟨F,⟨fm,fa,fb,fe,fz⟩,o,rfl,hF,hA,q⟩:=h.top
  have q1:=q.sz
  have q2:=q.s96
  have q3:=q.ev
  have qo:=q.le
  dsimp only at q1 q3
  subst q1
  by_cases hy:0≤n∧n≤d.st.length
  ·obtain ⟨j,rfl⟩:∃ j:Nat,n=(j:Int):=⟨n.toNat,by omega⟩
   obtain ⟨k,hk⟩:∃ k:Nat,j + k=d.st.length:=⟨d.st.length - j,by omega⟩
   have hs:((d.st.length - j:Nat):Int)=(k:Int):=by omega
   have hw:Yx ws (IntKind.u64.wrap (fe + IntKind.u64.wrap ((d.st.length - j:Nat):Int))) j=d.st.drop k:=by
    rw [hs,zM (a:=(k:Int)) (by omega) (by omega),zM (by omega) (by omega)]
    apply List.ext_getElem?
    intro i
    rw [Yx,List.getElem?_map,List.getElem?_drop]
    by_cases hi:i < j
    ·rw [List.getElem?_range hi,Option.map_some,zM (a:=(i:Int)) (by omega) (by omega),zM (by omega) (by omega),List.getElem?_eq_getElem (show k + i < d.st.length by omega)]
     have t:=q.st (k + i) (by omega)
     rw [List.getD_eq_getElem?_getD,List.getElem?_eq_getElem (show k + i < d.st.length by omega)] at t
     rw [show fe + (k:Int) + (i:Int)=12 + 256 * (A.length:Int) + 152 + ((k + i:Nat):Int) by omega,t];rfl
    ·rw [List.getElem?_eq_none (by simp;omega),List.getElem?_eq_none (by omega)];rfl
   refine ⟨ws,F++[⟨fm,fa,fb,fe,((d.st.length - j:Nat):Int)⟩],fun s=>A++[⟨⟨d.e.m,d.e.a,d.e.o,d.e.v,s⟩,d.vars,d.st.take k⟩],fun s=>?_,VW (k:=A.length) (y:=d) (y':=fun s=>⟨⟨d.e.m,d.e.a,d.e.o,d.e.v,s⟩,d.vars,d.st.take k⟩) (fun us=>?_) qc zaY (fun _=>qc)⟩
   ·have t:=h.upd (ws':=ws) (k:=A.length) (f':=⟨fm,fa,fb,fe,((d.st.length - j:Nat):Int)⟩) (d':=⟨⟨d.e.m,d.e.a,d.e.o,d.e.v,s⟩,d.vars,d.st.take k⟩) qc rfl hwl (fun b h0 h1=>rfl) ⟨o,?_⟩
    ·rw [zd3 hF,Qy] at t;exact t
    ·have hlk:(d.st.take k).length=k:=by simp;omega
     refine ⟨q.eo,q.le,q.me,q.ia,q.ba,q.ev,by show ((d.st.length - j:Nat):Int)=((d.st.take k).length:Int);omega,by show (d.st.take k).length≤96;omega,fun i hi=>?_,q.vr,?_⟩
     ·have hi2:i < k:=by rw [←hlk];exact hi
      show _=(d.st.take k).getD i 0
      rw [q.st i (by omega),List.getD_eq_getElem?_getD,List.getD_eq_getElem?_getD,List.getElem?_take,if_pos hi2]
     ·obtain ⟨c,hc1,hc2⟩:=q.ow
      rw [Qy]
      by_cases e3:o=A.length
      ·subst e3;exact ⟨_,qc,q.eo⟩
      ·exact ⟨c,by rw [List.getElem?_append_left (by omega)] at hc1 ⊢;exact hc1,hc2⟩
   ·have c1:=fun us=>zbX ws 12 N fm fa fb fe d.st.length j F (by omega) (by omega) (by omega) (by omega) us
    rw [hw] at c1
    have c2:=fun us=>ze8 N (A.map DX.e) d.e d.st j k (by simpa using hA) q2 hk us
    have t:=zk5 (ws:=ws) (ws':=ws) (fs:=F++[⟨fm,fa,fb,fe,(d.st.length:Int)⟩]) (fs':=F++[⟨fm,fa,fb,fe,((d.st.length - j:Nat):Int)⟩]) (N:=N) (n:=(j:Int)) (m:=m) (x:=x) (L:=A.map DX.e++[d.e]) (l:=l) ((d.st.drop k).map u64) ((d.st.drop k).map u64) d (L':=fun s=>A.map DX.e++[⟨d.e.m,d.e.a,d.e.o,d.e.v,s⟩]) (y':=fun s=>⟨⟨d.e.m,d.e.a,d.e.o,d.e.v,s⟩,d.vars,d.st.take k⟩) (fun s=>⟨rfl,rfl⟩) c1 c2 (swX _ (by simp;omega)) us
    simp only [bX,List.map_append,List.map_cons,List.map_nil]
    exact t
  ·have c1:=fun us=>zie ws 12 N n F ⟨fm,fa,fb,fe,(d.st.length:Int)⟩ (by omega) (by show n < 0∨(d.st.length:Int) < n;omega) us
   have c2:=fun us=>YH (zhd N n (A.map DX.e) d.e d.st (by simpa using hA) (by omega) us)
   refine ⟨ws,F++[⟨fm,fa,fb,fe,(d.st.length:Int)⟩],fun _=>A++[d],fun _=>h,VW (k:=A.length) (y:=d) (y':=fun _=>d) (fun us=>?_) qc zaY (fun _=>qc)⟩
   have t:=zlu (ws:=ws) (ws':=ws) (fs:=F++[⟨fm,fa,fb,fe,(d.st.length:Int)⟩]) (fs':=F++[⟨fm,fa,fb,fe,(d.st.length:Int)⟩]) (N:=N) (n:=n) (m:=m) (x:=x) (L:=A.map DX.e++[d.e]) (l:=l) d (L':=fun _=>A.map DX.e++[d.e]) (y':=fun _=>d) (fun s=>⟨rfl,rfl⟩) c1 c2 c0 us
   simp only [bX,List.map_append,List.map_cons,List.map_nil]
   exact t
theorem zka (h:RX ws fs N D) (n m x:Int) (l:List Int):DoW ws fs N D (YS 5 n m x l):=by
 have hl:=h.len
 by_cases hy:0≤n∧n < D.length
 ·obtain ⟨j,rfl⟩:∃ j:Nat,n=(j:Int):=⟨n.toNat,by omega⟩
  have hj:j < D.length:=by omega
  obtain ⟨f,d,o,hf,hd,q⟩:=h.get hj
  refine ⟨ws,fs.set j ⟨f.method,f.at_,f.base,f.eval,0⟩,fun _=>D.set j ⟨⟨d.e.m,d.e.a,d.e.o,d.e.v,ZH⟩,d.vars,[]⟩,fun _=>h.upd hd rfl h.wl (fun b h0 h1=>rfl) ⟨o,?_⟩,VW (k:=j) (y:=d) (y':=fun _=>⟨⟨d.e.m,d.e.a,d.e.o,d.e.v,ZH⟩,d.vars,[]⟩) (fun us=>?_) hd (zll hj) (fun _=>zbp hj)⟩
  ·refine ⟨q.eo,q.le,q.me,q.ia,q.ba,q.ev,rfl,by show 0≤96;omega,fun i hi=>by simp at hi,q.vr,?_⟩
   obtain ⟨c,hc1,hc2⟩:=q.ow
   by_cases e3:j=o
   ·subst e3;exact ⟨_,zbp hj,q.eo⟩
   ·exact ⟨c,by rw [List.getElem?_set,if_neg e3];exact hc1,hc2⟩
  ·have t:=zlc (ws:=ws) (ws':=ws) (fs:=fs) (N:=N) (n:=(j:Int)) (m:=m) (x:=x) (L:=D.map DX.e) (l:=l) d (fun us=>zgF ws 12 N j fs f hf us) (fun us=>zg5 N (D.map DX.e) j d.e (QI hd) us) us
   simp only [bX,List.map_set]
   exact t
 ·exact ⟨ws,fs,fun _=>D,fun _=>h,ZW (k:=D.length) (zls (fun us=>zfS ws 12 N n fs (by omega) us) (fun us=>zeW N (D.map DX.e) n (by rw [List.length_map];omega) us)) Xg⟩
theorem zkh (h:RX ws fs N D) (n m x:Int) (l:List Int):DoW ws fs N D (YS 6 n m x l):=by
 have hl:=h.len
 by_cases hy:0≤n∧n < D.length
 ·obtain ⟨j,rfl⟩:∃ j:Nat,n=(j:Int):=⟨n.toNat,by omega⟩
  have hj:j < D.length:=by omega
  obtain ⟨f,d,o,hf,hd,q⟩:=h.get hj
  refine ⟨ws,fs.set j ⟨f.method,m,f.base,f.eval,f.size⟩,fun _=>D.set j ⟨⟨d.e.m,m,d.e.o,d.e.v,d.e.s⟩,d.vars,d.st⟩,fun _=>h.upd hd rfl h.wl (fun b h0 h1=>rfl) ⟨o,?_⟩,ZW (k:=D.length) (fun us=>?_) (fun k' y hy=>?_)⟩
  ·refine ⟨q.eo,q.le,q.me,rfl,q.ba,q.ev,q.sz,q.s96,q.st,q.vr,?_⟩
   obtain ⟨c,hc1,hc2⟩:=q.ow
   by_cases e3:j=o
   ·subst e3;exact ⟨_,zbp hj,q.eo⟩
   ·exact ⟨c,by rw [List.getElem?_set,if_neg e3];exact hc1,hc2⟩
  ·have t:=do6 (ws:=ws) (ws':=ws) (fs:=fs) (N:=N) (n:=(j:Int)) (m:=m) (x:=x) (L:=D.map DX.e) (l:=l) (fun us=>zim ws 12 N m j fs f hf us) (fun us=>ziN N (D.map DX.e) j m d.e (QI hd) us) us
   simp only [bX,List.map_set]
   exact t
  ·have hk:=(List.getElem?_eq_some_iff.1 hy).1
   rw [List.length_set] at hk
   rw [List.getElem?_set] at hy
   by_cases e:j=k'
   ·subst e
    rw [if_pos rfl,if_pos hj] at hy
    simp only [Option.some.injEq] at hy
    subst hy
    exact ⟨by omega,d,hd,fun b r=>by match r with|0=>rfl|1=>rfl|2=>rfl|r + 3=>rfl⟩
   ·rw [if_neg e] at hy
    exact ⟨by omega,y,hy,fun _ _=>rfl⟩
 ·exact ⟨ws,fs,fun _=>D,fun _=>h,ZW (k:=D.length) (do6 (fun us=>zhS ws 12 N n m fs (by omega) us) (fun us=>zgc N (D.map DX.e) n m (by rw [List.length_map];omega) us)) Xg⟩
theorem zke (h:RX ws fs N D) (n m x:Int) (l:List Int):DoW ws fs N D (YS 7 n m x l):=by
 have hwl:=h.wl
 rcases List.eq_nil_or_concat D with e|⟨A,d,e⟩
 ·subst e
  obtain rfl:fs=[]:=List.eq_nil_of_length_eq_zero h.len
  exact ⟨ws,[],fun _=>[],fun _=>h,ZW (k:=0) (zji (L:=[]) (fun us=>zhe ws 12 N n us) (.inr (.inr rfl))) (fun k' y hy=>by simp at hy)⟩
 ·rw [List.concat_eq_append] at e
  subst e
  obtain ⟨F,f,o,rfl,hF,hA,q⟩:=h.top
  by_cases hy:0≤n∧n < 152
  ·obtain ⟨j,rfl⟩:∃ j:Nat,n=(j:Int):=⟨n.toNat,by omega⟩
   obtain ⟨c,hc1,hc2⟩:=q.ow
   have qo:=q.le
   have qb:=q.ba
   obtain ⟨cv,cw⟩:=h.owner hc1 hc2
   have ho:=(List.getElem?_eq_some_iff.1 hc1).1
   obtain ⟨fo,c',o',hfo,hc',q'⟩:=h.get ho
   rw [hc1] at hc';simp only [Option.some.injEq] at hc';subst hc'
   obtain rfl:o'=o:=by have:=q'.eo;omega
   have hg:∀ b,0≤b→Ze (YB ws (f.base + j) x) b=if b=f.base + j then x else Ze ws b:=fun b hb=>QL hb ⟨by omega,by omega⟩
   refine ⟨YB ws (f.base + j) x,F++[f],fun _=>(A++[d]).set o' ⟨c.e,c.vars.set j x,c.st⟩,fun _=>?_,VW (k:=o') (y:=c) (y':=fun _=>⟨c.e,c.vars.set j x,c.st⟩) (fun us=>?_) hc1 (zll ho) (fun _=>zbp ho)⟩
   ·have t:=h.upd (ws':=YB ws (f.base + j) x) (k:=o') (f':=fo) (d':=⟨c.e,c.vars.set j x,c.st⟩) hc1 rfl (by rw [WR];exact hwl) (fun b h0 h1=>by rw [hg b h0,if_neg (by omega)]) ⟨o',?_⟩
    ·rw [set_self hfo] at t;exact t
    ·refine ⟨q'.eo,q'.le,q'.me,q'.ia,q'.ba,q'.ev,q'.sz,q'.s96,fun i hi=>?_,fun e=>⟨by show (c.vars.set j x).length=152;simpa using cv,fun i hi=>?_⟩,⟨_,zbp ho,q'.eo⟩⟩
     ·rw [hg _ (by omega),if_neg (by omega)];exact q'.st i hi
     ·rw [hg _ (by omega)]
      show _=(c.vars.set j x).getD i 0
      rw [List.getD_eq_getElem?_getD,List.getElem?_set]
      by_cases e1:j=i
      ·subst e1;rw [if_pos (by omega),if_pos rfl,if_pos (by omega)];rfl
      ·rw [if_neg (by omega),if_neg e1,←List.getD_eq_getElem?_getD];exact cw i hi
   ·have t:=zmB (ws:=ws) (fs:=F++[f]) (N:=N) (n:=(j:Int)) (m:=m) (x:=x) (l:=l) (f.base + j) (A.map DX.e) d.e c o' j (by simpa using hA) rfl (by omega) cv q.eo (by have:=QI hc1;simpa using this) (by omega) (by omega) (fun us=>zkk ws 12 N j F f (by omega) (by omega) (by omega) (by omega) (by omega) us) us
    have e1:((A++[d]).set o' ⟨c.e,c.vars.set j x,c.st⟩).map DX.e=A.map DX.e++[d.e]:=by
     rw [List.map_set,set_self (QI hc1),List.map_append];rfl
    simp only [bX,e1,List.map_append,List.map_cons,List.map_nil]
    exact t
  ·refine ⟨ws,F++[f],fun _=>A++[d],fun _=>h,ZW (k:=(A++[d]).length) (zji (fun us=>zix ws 12 N n F f (by omega) (by omega) us) (by omega)) Xg⟩
theorem zhP (h:RX ws fs N D) (k n m x:Int) (l:List Int):DoW ws fs N D (YS k n m x l):=by
 by_cases h0:k=0
 ·subst h0;exact zj4 h n m x l
 by_cases h1:k=1
 ·subst h1;exact zj0 h n m x l
 by_cases h2:k=2
 ·subst h2;exact zjK h n m x l
 by_cases h3:k=3
 ·subst h3;exact zkp h n m x l
 by_cases h4:k=4
 ·subst h4;exact zjN h n m x l
 by_cases h5:k=5
 ·subst h5;exact zka h n m x l
 by_cases h6:k=6
 ·subst h6;exact zkh h n m x l
 by_cases h7:k=7
 ·subst h7;exact zke h n m x l
 exact ⟨ws,fs,fun _=>D,fun _=>h,ZW (k:=D.length) (zlS k (by omega)) Xg⟩
end
abbrev Bq (ws:List Int) (fs:List Fr) (N:Int) (D:List DX) (us:Nat→Value):HEnv:=skH ws 12 N fs++(dH N (D.map DX.e)++sk2 us)
abbrev Hq (ws:List Int) (fs:List Fr) (N:Int) (D:List DX) (us:Nat→Value):HEnv:=Bq ws fs N D us++Qh 2000 D
theorem zdm (ws:List Int) (fs:List Fr) (N:Int) (D:List DX) (us:Nat→Value):zdx (Bq ws fs N D us):=by
 repeat (first|exact zi3|refine zh0 (by decide) (fun t=>rfl) ?_)
theorem WS {B:HEnv} (hB:zdx B) {j:Nat} (hj:2000≤j):B.get j=none:=by
 cases h:B.get j with
 | none=>rfl
 | some y=>have:=(hB _ _ h).1;simp only [LoI] at this;omega
section
variable {ws:List Int} {fs:List Fr} {N:Int} {D:List DX} {us:Nat→Value}
theorem zbT {k:Nat} {d:DX} (hd:D[k]?=some d) {r:Nat} (hr:r < 4):(Hq ws fs N D us).get (2000 + 4 * k + r)=some (row4 (2000 + 4 * k) d r):=by
 rw [Hq,get_append,WS (zdm ws fs N D us) (by omega)]
 exact (Zc D 2000 _ _).2 ⟨k,r,d,hr,rfl,hd,rfl⟩
theorem zmi {j:Nat} (hj:2000≤j):(Hq ws fs N D us).get j=(Qh 2000 D).get j:=by
 rw [Hq,get_append,WS (zdm ws fs N D us) hj]
theorem zc2 {j:Nat} (hj:j < 2000) (hb:(Bq ws fs N D us).get j=none):(Hq ws fs N D us).get j=none:=by
 rw [Hq,get_append,hb]
 cases h:(Qh 2000 D).get j with
 | none=>rfl
 | some y =>
  obtain ⟨k,r,x,_,e,_⟩:=(Zc D 2000 j y).1 h
  omega
theorem Qq {H:HEnv}:∀ {A B:HEnv},hIn H A=true→hIn H B=true→hIn H (A++B)=true
 | [],B,_,h=>h
 | (i,.cell v)::A,B,h1,h2=>by simp only [hIn,Bool.and_eq_true,List.cons_append] at h1 ⊢;exact ⟨h1.1,Qq h1.2 h2⟩
 | (i,.pin v u)::A,B,h1,h2=>by simp only [hIn,Bool.and_eq_true,List.cons_append] at h1 ⊢;exact ⟨h1.1,Qq h1.2 h2⟩
 | (i,.row _ _ _)::A,B,h1,h2=>by simp only [hIn,List.cons_append] at h1 ⊢;exact Qq h1 h2
 | (i,.mrow _ _ _)::A,B,h1,h2=>by simp only [hIn,List.cons_append] at h1 ⊢;exact Qq h1 h2
 | (i,.dead)::A,B,h1,h2=>by simp only [hIn,List.cons_append] at h1 ⊢;exact Qq h1 h2
 | (i,.obj _)::A,B,h1,h2=>by simp only [hIn,List.cons_append] at h1 ⊢;exact Qq h1 h2
theorem za8 {H:HEnv}:∀ (l:List DX) (b:Nat),(∀ k r,k < l.length→r < 4→(H.get (b + 4 * k + r)).isSome=true)→hIn H (Qh b l)=true
 | [],b,_=>rfl
 | x::l,b,h=>by
  have h0:=h 0 0 (by simp) (by omega)
  have h2:=h 0 2 (by simp) (by omega)
  have ih:=za8 l (b + 4) fun k r hk hr=>by have:=h (k + 1) r (by simpa using hk) hr;rw [show b + 4 * (k + 1) + r=b + 4 + 4 * k + r by omega] at this;exact this
  simp only [Qh,hIn,row4,yE,Bool.and_eq_true]
  exact ⟨h0,h2,ih⟩
theorem zmk:hIn (Hq ws fs N D us) (Hq ws fs N D us)=true :=
 Qq rfl (za8 D 2000 fun k r hk hr=>by rw [zbT (List.getElem?_eq_getElem hk) hr];rfl)
theorem qF:hIn (GHx ws fs N D) (GHx ws fs N D)=true :=
 Qq rfl (za8 D 2000 fun k r hk hr=>by
  rw [GHx,get_append,WS (Zu ws fs N D) (by omega),(Zc D 2000 _ _).2 ⟨k,r,_,hr,rfl,List.getElem?_eq_getElem hk,rfl⟩];rfl)
set_option maxHeartbeats 1000000 in
theorem zaT (ws:List Int) (mv:Value):ACall Tryz.prog 31 [.ptr (zan ws mv 12 0) 0] (u64 12):=by
 refine zf zk Tryz.func31 rfl (by kernel_rfl) Tryz.ntmps31 (by simp) _ rfl (fun hw gB hgB=>?_)
 repeat' (first|refine zy rfl (yF (b:=false) rfl Tryz.underlying25 rfl rfl) rfl rfl ?_|refine AD.step _ _ _ _ _ rfl (yF (b:=false) rfl Tryz.underlying25 rfl rfl) rfl rfl ?_|refine sA ?_|refine sC (fun _=>?_) (fun _=>?_)|fail)
 exact retq rfl rfl
theorem zms (m a ba e:Int) (s k:Nat) (hf:fs.length≤64) (hs:s≤96) (hk:fs[k]?=some ⟨m,a,ba,e,s⟩) (hws:ws.length≤100000) :
  ACallE Tryz.prog 19 [.box 30 0,.pv (pi k)] (Hq ws fs N D us) (fun _:Value=>.pv (.agg [pi m,pi a,u64 ba,.slc 1 ((Yx ws e s).map u64) false])) (fun _=>Hq ws fs N D us) [0,30,60] :=
 ACallE.lift (zbD (t:=2000 + 4 * D.length) (by omega)) (Hc:=Bq ws fs N D us++[]) (Hc':=fun _=>Bq ws fs N D us++[])
  (zds (skH ws 12 N fs) (skH ws 12 N fs) (dH N (D.map DX.e)++sk2 us) [0,30] rfl (fun us'=>zek ws 12 N m a ba e s k fs hf hs hk hws us') (fun i hi=>by simp at hi;rcases hi with rfl|rfl|rfl <;> rfl)) rfl rfl (fun _=>rfl)
  (XG (o:=none) (k:=D.length) (zdm _ _ _ _ _) (fun x hx=>by cases hx)) rfl (fun _=>XJ (o:=none) (o':=none) (k:=D.length) (zdm _ _ _ _ _) (zdm _ _ _ _ _) (fun k' y hy=>.inr (Xg k' y hy)) (fun y hy=>by cases hy))
  (fun i hi=>by simp at hi;rcases hi with rfl|rfl|rfl <;> rfl) (fun _ i hi=>by simp at hi;rcases hi with rfl|rfl|rfl <;> rfl)
end
section
variable {ws:List Int} {fs:List Fr} {N:Int} {D:List DX} {us:Nat→Value}
theorem zkw {ρ:Nat→Value} {H:HEnv} {i e sz:Nat} {es:List PV} (h:H.get i=some (.mrow e sz es)):zfj ρ H (.own i)=some (.slc sz es false):=by
 simp [zfj,zak,h]
theorem zmW {ρ:Nat→Value} {env:Env} {H:HEnv} {x y:Operand} {p:PV} {i e sz:Nat} {es:List PV} (h1:env.val x=some (.pv p)) (h2:env.val y=some (.own i)) (h3:H.get i=some (.mrow e sz es)):WQ ρ env H [x,y]=some [p,.slc sz es false]:=by
 simp only [WQ,h1,h2,zkw h3];rfl
theorem ZP {H:HEnv} {i j:Nat} {x:HE} (h:i≠j):HEnv.get ((i,x)::H) j=H.get j:=by rw [HEnv.get_cons,if_neg h]
abbrev H80 (ws:List Int) (fs:List Fr) (N:Int) (D:List DX) (us:Nat→Value) (v:AV):HEnv:=(80,.cell v)::Hq ws fs N D us
theorem zmF {p:AV} (hv:yE (H80 ws fs N D us p) p=true):hIn (H80 ws fs N D us p) (H80 ws fs N D us p)=true:=by
 show (yE (H80 ws fs N D us p) p&&hIn (H80 ws fs N D us p) (Hq ws fs N D us))=true
 rw [hv,Bool.true_and]
 exact Qq rfl (za8 D 2000 fun k r hk hr=>by rw [ZP (by omega),zbT (List.getElem?_eq_getElem hk) hr];rfl)
theorem zlK {p:AV}:HSub (H80 ws fs N D us p) (Hq ws fs N D us):=fun i x hx=>by
 by_cases e:80=i
 ·subst e
  rw [zc2 (by decide) rfl] at hx;cases hx
 ·rw [ZP e];exact hx
theorem zmu {H:HEnv} {p:AV} (h:H.get 80=some (.cell p)) (hs:HSub H (Hq ws fs N D us)):HSub H (H80 ws fs N D us p):=zh h hs
theorem zm5 {p p':HE}:HSub ((80,p)::(80,p')::Hq ws fs N D us) (Hq ws fs N D us):=fun i x hx=>by
 by_cases e:80=i
 ·subst e
  rw [zc2 (by decide) rfl] at hx;cases hx
 ·rw [ZP e,ZP e];exact hx
theorem zmK {env:Env} {H:HEnv} (hs:HSub H (Hq ws fs N D us)) (he:Zz (Hq ws fs N D us) env=true):Xr H (Hq ws fs N D us) env:=⟨hs,by rw [he,zmk];rfl⟩
theorem zmD {env:Env} {H:HEnv} {p:AV} (hv:yE (H80 ws fs N D us p) p=true) (hs:HSub H (H80 ws fs N D us p)) (he:Zz (H80 ws fs N D us p) env=true):Xr H (H80 ws fs N D us p) env:=⟨hs,by rw [he,zmF hv];rfl⟩
set_option maxHeartbeats 4000000 in
theorem zmV (h:RX ws fs N D) (us:Nat→Value):ACallU Tryz.prog 10 [.box 0 0,.box 30 0,.box 60 0] (Hq ws fs N D us) (fun _:Value=>.pv (pb true)) (fun _=>Hq ws fs N D us):=by
 have hl:=h.len
 have hn1:=h.n1
 have hle:=h.le
 have hwl:=h.wl
 have hSl:((D.map DX.e).map dP).length=D.length:=by simp
 have hne:((((fs.length:Nat):Int)) != ((((D.map DX.e).map dP).length:Nat):Int))=false:=by rw [hl,hSl];simp
 refine zK zk Tryz.func10 rfl (by kernel_rfl) Tryz.ntmps10 (by simp) _ rfl (fun gB hw1=>?_)
 repeat' (first|refine sM ?_|refine zy (r:=.pv (pi _)) rfl (zH (args:=fun ρ=>[.ptr (yQ ws (ρ 8) 12 N fs) 0]) rfl (fun _=>rfl) (fun ρ=>yV ws (ρ 8) 12 N fs)) rfl rfl ?_|refine AD.step _ _ _ (.pv (pi _)) _ rfl (zH (args:=fun ρ=>[.ptr (yQ ws (ρ 8) 12 N fs) 0]) rfl (fun _=>rfl) (fun ρ=>yV ws (ρ 8) 12 N fs)) rfl rfl ?_|refine sK ?_|refine sC (fun _=>?_) (fun _=>?_)|fail)
 refine zI (fun k:Nat=>[(0,.box 0 0),(1,.box 30 0),(2,.box 60 0),(23,.pv (pi (((D.map DX.e).map dP).length:Nat))),(24,.pv (pi k))]) (fun _=>Hq ws fs N D us) (fun k=>k≤D.length) (fun k=>D.length - k) 0 (by omega) tS (zmK (fun _ _ h=>h) rfl) ?_
 rintro k hk
 by_cases hlt:k < D.length
 ·have hdk:decide ((k:Int) < ((((D.map DX.e).map dP).length:Nat):Int))=true:=decide_eq_true (by omega)
  obtain ⟨⟨fm,fa,fb,fe,fz⟩,d,o,hf,hd,q⟩:=h.get hlt
  have q1:=q.sz
  have q2:=q.s96
  have q3:=q.ev
  have qo:=q.le
  have qm:=q.me
  have qa:=q.ia
  have qb:=q.ba
  have heo:=q.eo
  dsimp only at q1 q3 qm qa qb
  subst q1 qm qa
  have hw:Yx ws fe d.st.length=d.st:=by
   apply List.ext_getElem?
   intro i
   rw [Yx,List.getElem?_map]
   by_cases hi:i < d.st.length
   ·rw [List.getElem?_range hi,Option.map_some,zM (a:=(i:Int)) (by omega) (by omega),zM (by omega) (by omega),List.getElem?_eq_getElem hi]
    have t:=q.st i hi
    rw [List.getD_eq_getElem?_getD,List.getElem?_eq_getElem hi] at t
    rw [q3,t];rfl
   ·rw [List.getElem?_eq_none (by simp;omega),List.getElem?_eq_none (by omega)];rfl
  have cF:=zms (ws:=ws) (N:=N) (D:=D) (us:=us) d.e.m d.e.a fb fe d.st.length k (by omega) q2 hf (by omega)
  rw [hw] at cF
  obtain ⟨c,hc1,hc2⟩:=q.ow
  obtain ⟨cv,cw⟩:=h.owner hc1 hc2
  have ho:=(List.getElem?_eq_some_iff.1 hc1).1
  have hp:=Vh (QI hd)
  have hpo:=Vh (QI hc1)
  have hkl:k < ((D.map DX.e).map dP).length:=by omega
  have hlo:o < ((D.map DX.e).map dP).length:=by omega
  obtain ⟨FV,hFV⟩:∃ FV:AV,FV=.pv (.agg [pi d.e.m,pi d.e.a,u64 fb,.slc 1 (d.st.map u64) false]):=⟨_,rfl⟩
  have hP:(H80 ws fs N D us FV).get (2000 + 4 * k + 3)=some (.pin (.own (2000 + 4 * k + 2)) d.e.s):=(ZP (by omega)).trans (zbT hd (by omega))
  have hM:(H80 ws fs N D us FV).get (2000 + 4 * k + 2)=some (.mrow 33 1 (d.st.map u64)):=(ZP (by omega)).trans (zbT hd (by omega))
  have hPo:(H80 ws fs N D us FV).get (2000 + 4 * o + 1)=some (.pin (.own (2000 + 4 * o + 0)) c.e.v):=(ZP (by omega)).trans (zbT hc1 (by omega))
  have hVo:(H80 ws fs N D us FV).get (2000 + 4 * o + 0)=some (.mrow 33 1 (c.vars.map u64)):=(ZP (by omega)).trans (zbT hc1 (by omega))
  subst hFV
  have hb1:(d.e.m != d.e.m)=false:=by simp
  have hb2:(d.e.a != d.e.a)=false:=by simp
  have hb3:(fb != IntKind.u64.wrap (12 + IntKind.u64.wrap (IntKind.u64.wrap d.e.o * 256)))=false:=by
   rw [heo,zM (a:=(o:Int)) (by omega) (by omega),zM (a:=(o:Int) * 256) (by omega) (by omega),zM (by omega) (by omega)]
   simp;omega
  repeat' (first|refine yD (Hq ws fs N D us) [(0,.box 0 0),(1,.box 30 0),(2,.box 60 0),(7,.pv (pi k)),(23,.pv (pi (((D.map DX.e).map dP).length:Nat))),(24,.pv (pi k))] cF rfl rfl rfl (fun _ _ h=>h) zmk rfl tS rfl (fun _ i hi=>by simp at hi;rcases hi with rfl|rfl|rfl <;> rfl) rfl rfl (fun _=>?_)|refine yX zk 80 rfl rfl rfl rfl (zc2 (by decide) rfl) rfl rfl ?_|refine qK 29 rfl [(0,.box 0 0),(1,.box 30 0),(2,.box 60 0),(7,.pv (pi k)),(8,.box 80 0),(23,.pv (pi (((D.map DX.e).map dP).length:Nat))),(24,.pv (pi k))] (H80 ws fs N D us (.pv (.agg [pi d.e.m,pi d.e.a,u64 fb,.slc 1 (d.st.map u64) false]))) tS (zmD rfl (zmu rfl zm5) rfl) ?_|refine zy rfl (zB (k:=k) (j:=0) zk rfl rfl rfl rfl hp rfl) rfl rfl ?_|refine AD.step _ _ _ _ _ rfl (zB (k:=k) (j:=0) zk rfl rfl rfl rfl hp rfl) rfl rfl ?_|refine zy rfl (zB (k:=k) (j:=1) zk rfl rfl rfl rfl hp rfl) rfl rfl ?_|refine AD.step _ _ _ _ _ rfl (zB (k:=k) (j:=1) zk rfl rfl rfl rfl hp rfl) rfl rfl ?_|refine zy rfl (zB (k:=k) (j:=2) zk rfl rfl rfl rfl hp rfl) rfl rfl ?_|refine AD.step _ _ _ _ _ rfl (zB (k:=k) (j:=2) zk rfl rfl rfl rfl hp rfl) rfl rfl ?_|refine zy rfl (zB (k:=k) (j:=4) zk rfl rfl rfl rfl hp rfl) rfl rfl ?_|refine AD.step _ _ _ _ _ rfl (zB (k:=k) (j:=4) zk rfl rfl rfl rfl hp rfl) rfl rfl ?_|refine zy rfl (zB (k:=o) (j:=3) zk rfl rfl rfl rfl hpo rfl) rfl rfl ?_|refine AD.step _ _ _ _ _ rfl (zB (k:=o) (j:=3) zk rfl rfl rfl rfl hpo rfl) rfl rfl ?_|refine AD.step _ _ _ (.pv (pb true)) _ rfl (zfC 64 (2000 + 4 * k + 3) rfl hP (zH rfl (fun ρ=>zmW rfl rfl hM) (fun ρ=>swX d.st (by omega)))) rfl rfl ?_|refine zy (r:=.pv (u64 _)) rfl (zH (args:=fun ρ=>[.ptr (zan ws (ρ 8) 12 0) 0]) rfl (fun _=>rfl) (fun ρ=>zaT ws (ρ 8))) rfl rfl ?_|refine AD.step _ _ _ (.pv (u64 _)) _ rfl (zH (args:=fun ρ=>[.ptr (zan ws (ρ 8) 12 0) 0]) rfl (fun _=>rfl) (fun ρ=>zaT ws (ρ 8))) rfl rfl ?_|refine zy rfl (zfC 101 (2000 + 4 * o + 1) rfl hPo (ziB zk rfl rfl hVo rfl)) rfl rfl ?_|refine sM ?_|(refine shX ?_;first|refine zy rfl (zC (k:=k) zk rfl rfl rfl rfl rfl rfl rfl rfl hkl) rfl rfl ?_|refine AD.step _ _ _ _ _ rfl (zC (k:=k) zk rfl rfl rfl rfl rfl rfl rfl rfl hkl) rfl rfl ?_|refine zy rfl (zC (k:=o) zk rfl rfl rfl rfl rfl rfl rfl heo hlo) rfl rfl ?_|refine AD.step _ _ _ _ _ rfl (zC (k:=o) zk rfl rfl rfl rfl rfl rfl rfl heo hlo) rfl rfl ?_)|refine sK ?_|refine sC (fun _=>?_) (fun _=>?_)|fail)
  refine zI (fun i:Nat=>[(0,.box 0 0),(1,.box 30 0),(2,.box 60 0),(8,.box 80 0),(9,.pv (.base c.e.v)),(23,.pv (pi (((D.map DX.e).map dP).length:Nat))),(24,.pv (pi k)),(102,.pv (pi ((c.vars.map u64).length:Nat))),(103,.pv (pi i))]) (fun _=>H80 ws fs N D us (.pv (.agg [pi d.e.m,pi d.e.a,u64 fb,.slc 1 (d.st.map u64) false]))) (fun i=>i≤152) (fun i=>152 - i) 0 (by omega) tS (zmD rfl (fun _ _ h=>h) rfl) ?_
  rintro i hi
  by_cases hlt2:i < 152
  ·have hil:i < (c.vars.map u64).length:=by rw [List.length_map,cv];exact hlt2
   have hdi:decide ((i:Int) < (((c.vars.map u64).length:Nat):Int))=true:=decide_eq_true (by omega)
   have hxi:(c.vars.map u64)[i]?=some (u64 (c.vars.getD i 0)):=by rw [List.getElem?_map,List.getD_eq_getElem?_getD,List.getElem?_eq_getElem (by omega)];rfl
   have hb4:(Ze ws (IntKind.u64.wrap (fb + IntKind.u64.wrap (i:Int))) != c.vars.getD i 0)=false:=by
    rw [zM (a:=(i:Int)) (by omega) (by omega),zM (by omega) (by omega),qb,cw i hlt2];simp
   repeat' (first|refine zy (r:=.pv (u64 _)) rfl (zH (args:=fun ρ=>[.ptr (zan ws (ρ 8) 12 0) 0,u64 (IntKind.u64.wrap (fb + IntKind.u64.wrap (i:Int)))]) rfl (fun _=>rfl) (fun ρ=>zb2 ws (ρ 8) 12 0 (IntKind.u64.wrap (fb + IntKind.u64.wrap (i:Int))) (Zj _) (by omega))) rfl rfl ?_|refine AD.step _ _ _ (.pv (u64 _)) _ rfl (zH (args:=fun ρ=>[.ptr (zan ws (ρ 8) 12 0) 0,u64 (IntKind.u64.wrap (fb + IntKind.u64.wrap (i:Int)))]) rfl (fun _=>rfl) (fun ρ=>zb2 ws (ρ 8) 12 0 (IntKind.u64.wrap (fb + IntKind.u64.wrap (i:Int))) (Zj _) (by omega))) rfl rfl ?_|refine AD.step _ _ _ _ _ rfl (zfC 113 (2000 + 4 * o + 1) rfl hPo (zC (k:=i) zk rfl rfl hVo rfl rfl rfl rfl rfl hil)) rfl rfl ?_|refine AD.step _ _ _ _ _ rfl (zB (k:=i) (j:=0) zk rfl rfl hVo rfl hxi rfl) rfl rfl ?_|refine sK ?_|refine sC (fun _=>?_) (fun _=>?_)|fail)
   exact ⟨i + 1,hlt2,tD,tSU,zmD rfl (fun _ _ h=>h) rfl⟩
  ·have hi2:i=152:=by omega
   subst hi2
   have hdi:decide (((152:Nat):Int) < (((c.vars.map u64).length:Nat):Int))=false:=decide_eq_false (by rw [List.length_map,cv];omega)
   repeat' (first|refine YX rfl hdi ?_|refine sK ?_|refine sC (fun _=>?_) (fun _=>?_)|fail)
   exact ⟨k + 1,hlt,tD,tSU,zmK zlK rfl⟩
 ·have hk2:k=D.length:=by omega
  subst hk2
  have hdk:decide ((D.length:Int) < ((((D.map DX.e).map dP).length:Nat):Int))=false:=decide_eq_false (by omega)
  repeat' (first|refine sK ?_|refine sC (fun _=>?_) (fun _=>?_)|fail)
  exact ⟨.nilFunc,.inr rfl,.inl ⟨[pb true],rfl,rfl,zmK (fun _ _ h=>h) rfl⟩⟩
end
set_option maxHeartbeats 20000000
section
variable {ws:List Int} {fs:List Fr} {N:Int} {D:List DX}
theorem zjg {us:Nat→Value} {i:Nat} {x:HE} (h:(GHx ws fs N D).get i=some x):(Hq ws fs N D us).get i=some x:=by
 by_cases hi:2000≤i
 ·rw [zmi hi]
  rw [GHx,get_append,WS (Zu ws fs N D) hi] at h
  exact h
 ·have h2:(bX ws fs N D).get i=some x:=by
   rw [GHx,get_append] at h
   cases hb:(bX ws fs N D).get i with
   | some y=>rw [hb] at h;exact h
   | none =>
    rw [hb] at h
    obtain ⟨k,r,z,_,e,_⟩:=(Zc D 2000 i x).1 h
    omega
  rw [Hq,get_append,show (Bq ws fs N D us).get i=some x by
   rw [Bq,get_append]
   rw [bX,get_append] at h2
   cases h3:(skH ws 12 N fs).get i with
   | some y=>rw [h3] at h2;exact h2
   | none=>rw [h3] at h2;rw [get_append];dsimp only at h2 ⊢;rw [h2]]
theorem znb {us:Nat→Value} {i:Nat} {x:HE} (h:(Hq ws fs N D us).get i=some x):(GHx ws fs N D).get i=some x∨∃ p∈[0,30,60],x=.pin (.own p) (us p):=by
 by_cases hi:2000≤i
 ·rw [zmi hi] at h
  exact .inl (by rw [GHx,get_append,WS (Zu ws fs N D) hi];exact h)
 ·cases hg:(GHx ws fs N D).get i with
  | some y=>rw [zjg hg] at h;exact .inl h
  | none =>
   have hb:(bX ws fs N D).get i=none:=by
    cases hb:(bX ws fs N D).get i with
    | none=>rfl
    | some y=>rw [GHx,get_append,hb] at hg;cases hg
   have hr:(Qh 2000 D).get i=none:=by rw [GHx,get_append,hb] at hg;exact hg
   rw [bX,get_append] at hb
   rw [Hq,get_append,Bq,get_append] at h
   cases h3:(skH ws 12 N fs).get i with
   | some y=>rw [h3] at hb;cases hb
   | none =>
    rw [h3] at hb h
    rw [get_append] at h
    dsimp only at hb h
    rw [hb] at h
    dsimp only at h
    cases h4:(sk2 us).get i with
    | none=>rw [h4,hr] at h;cases h
    | some y =>
     rw [h4] at h
     simp only [Option.some.injEq] at h
     subst h
     obtain ⟨_,p1,p2⟩:=Zq h4
     exact .inr ⟨_,p1,p2⟩
theorem zhT (h:RX ws fs N D):ACallE Tryz.prog 10 [.box 0 0,.box 30 0,.box 60 0] (GHx ws fs N D) (fun _:Value=>.pv (pb true)) (fun _=>GHx ws fs N D) [0,30,60] :=
 zhF (Hq:=fun us=>Hq ws fs N D us) (Hq':=fun us _=>Hq ws fs N D us) (zmV h) (fun us i x hx=>znb hx) (fun us j hj=>by
  cases hg:(GHx ws fs N D).get j with
  | none=>rw [hg] at hj;cases hj
  | some y=>show ((Hq ws fs N D us).get j).isSome=true;rw [zjg hg];rfl) (fun i hi=>by simp at hi;rcases hi with rfl|rfl|rfl <;> rfl) (fun us _ i x hx=>zjg hx) (fun _=>qF) (fun us _ p hp=>by
  simp at hp
  rcases hp with rfl|rfl|rfl
  ·exact ⟨1000,rfl⟩
  ·exact ⟨1030,rfl⟩
  ·exact ⟨1060,rfl⟩) (fun _=>rfl)
end
structure AT where
 k:Int
 n:Int
 m:Int
 x:Int
 l:List Int
abbrev atP (a:AT):PV:=YS a.k a.n a.m a.x a.l
def zcD (l:List AT) (j:Nat):Bool:=(l.drop j).any fun a=>decide (200 < (a.l.length:Int))
theorem zdr (l:List AT):∃ b,(b=false→l.length≤40)∧ACall Tryz.prog 6 [.slc 5 (l.map atP) false] (pb b):=by
 by_cases h:40 < l.length
 ·refine ⟨true,(fun e=>by cases e),?_⟩
  have hd:decide ((40:Int) < (((l.map atP).length:Nat):Int))=true:=decide_eq_true (by rw [List.length_map];omega)
  refine zf zk Tryz.func6 rfl (by kernel_rfl) Tryz.ntmps6 (by simp) _ rfl (fun hw gB hgB=>?_)
  repeat' (first|refine QN rfl hd ?_|refine sK ?_|refine sC (fun _=>?_) (fun _=>?_)|fail)
  exact retq rfl rfl
 ·have hd:decide ((40:Int) < (((l.map atP).length:Nat):Int))=false:=decide_eq_false (by rw [List.length_map];omega)
  refine ⟨zcD l 0,(fun _=>by omega),?_⟩
  refine zf zk Tryz.func6 rfl (by kernel_rfl) Tryz.ntmps6 (by simp) _ rfl (fun hw gB hgB=>?_)
  repeat' (first|refine YX rfl hd ?_|refine sK ?_|refine sC (fun _=>?_) (fun _=>?_)|fail)
  refine zI (fun k:Nat=>[(0,.pv (.slc 5 (l.map atP) false)),(8,.pv (pi ((l.map atP).length:Nat))),(9,.pv (pi k))]) (fun _=>[]) (fun k=>k≤l.length∧zcD l 0=zcD l k) (fun k=>l.length - k) 0 ⟨by omega,rfl⟩ (tS) tH ?_
  rintro k ⟨hk,hb⟩
  by_cases hlt:k < l.length
  ·have hdk:decide ((k:Int) < (((l.map atP).length:Nat):Int))=true:=decide_eq_true (by rw [List.length_map];omega)
   have hx:(l.map atP)[k]?=some (atP l[k]):=by rw [List.getElem?_map,List.getElem?_eq_getElem hlt];rfl
   have hs:zcD l k=(decide (200 < ((l[k]).l.length:Int))||zcD l (k + 1)):=by rw [zcD,List.drop_eq_getElem_cons hlt,List.any_cons];rfl
   by_cases h2:200 < ((l[k]).l.length:Int)
   ·have hd2:decide ((200:Int) < ((((l[k]).l.map u64).length:Nat):Int))=true:=decide_eq_true (by rw [List.length_map];exact h2)
    rw [hb,hs,decide_eq_true h2]
    repeat' (first|refine QN rfl hd2 ?_|(refine shX ?_;first|refine qX hx ?_)|refine sK ?_|refine sC (fun _=>?_) (fun _=>?_)|fail)
    exact retq rfl rfl
   ·have hd2:decide ((200:Int) < ((((l[k]).l.map u64).length:Nat):Int))=false:=decide_eq_false (by rw [List.length_map];exact h2)
    repeat' (first|refine YX rfl hd2 ?_|(refine shX ?_;first|refine qX hx ?_)|refine sK ?_|refine sC (fun _=>?_) (fun _=>?_)|fail)
    exact ⟨k + 1,⟨hlt,by rw [hb,hs,decide_eq_false h2];rfl⟩,tD,tSU,tH⟩
  ·have hk2:k=l.length:=by omega
   subst hk2
   have hdk:decide ((l.length:Int) < (((l.map atP).length:Nat):Int))=false:=decide_eq_false (by rw [List.length_map];omega)
   have hz:zcD l 0=false:=by rw [hb,zcD,List.drop_length];rfl
   rw [hz]
   repeat' (first|refine sK ?_|refine sC (fun _=>?_) (fun _=>?_)|fail)
   exact retq rfl rfl
theorem zcG (n:Int):ACall Tryz.prog 8 [zlP,pi n] zlP:=by
 refine zf zk Tryz.func8 rfl (by kernel_rfl) Tryz.ntmps8 (by simp) _ rfl (fun hw gB hgB=>?_)
 repeat' (first|refine zy rfl (yF (b:=true) rfl Tryz.underlying25 rfl rfl) rfl rfl ?_|refine AD.step _ _ _ _ _ rfl (yF (b:=true) rfl Tryz.underlying25 rfl rfl) rfl rfl ?_|refine sK ?_|refine sC (fun _=>?_) (fun _=>?_)|fail)
 exact retq rfl rfl
theorem zic (ws:List Int) (lim:Int) (h:lim < 1∨64 < lim) (us:Nat→Value):ACallM Tryz.prog 8 [.box 0 0,.pv (pi lim)] (Yd ws 12 0++zu us [0]) (.pv zlP) (Yd ws 12 0++zu us [0]):=by
 by_cases h1:lim < 1
 ·have hd1:decide (lim < 1)=true:=decide_eq_true h1
  refine zn zk Tryz.func8 rfl (by kernel_rfl) Tryz.ntmps8 (by simp) _ rfl (fun gB hw1=>?_)
  repeat' (first|refine zy rfl (yF (b:=false) rfl Tryz.underlying25 rfl rfl) rfl rfl ?_|refine AD.step _ _ _ _ _ rfl (yF (b:=false) rfl Tryz.underlying25 rfl rfl) rfl rfl ?_|refine sK ?_|refine sC (fun _=>?_) (fun _=>?_)|fail)
  exact ⟨.inr rfl,.inl ⟨_,rfl,rfl,⟨by repeat (first|exact zi|refine zh rfl ?_),rfl⟩⟩⟩
 ·have hd1:decide (lim < 1)=false:=decide_eq_false h1
  have hd2:decide (64 < lim)=true:=decide_eq_true (by omega)
  refine zn zk Tryz.func8 rfl (by kernel_rfl) Tryz.ntmps8 (by simp) _ rfl (fun gB hw1=>?_)
  repeat' (first|refine zy rfl (yF (b:=false) rfl Tryz.underlying25 rfl rfl) rfl rfl ?_|refine AD.step _ _ _ _ _ rfl (yF (b:=false) rfl Tryz.underlying25 rfl rfl) rfl rfl ?_|refine sK ?_|refine sC (fun _=>?_) (fun _=>?_)|fail)
  exact ⟨.inr rfl,.inl ⟨_,rfl,rfl,⟨by repeat (first|exact zi|refine zh rfl ?_),rfl⟩⟩⟩
section
variable {ws:List Int} {fs:List Fr} {N:Int} {D:List DX}
theorem zis:(GHx ws fs N D).get 80=none:=by
 cases h:(GHx ws fs N D).get 80 with
 | none=>rfl
 | some y=>have:=zjg (us:=fun _=>.nilFunc) h;rw [zc2 (by decide) rfl] at this;cases this
theorem zi9 {p p':HE}:HSub ((80,p)::(80,p')::GHx ws fs N D) (GHx ws fs N D):=fun i x hx=>by
 by_cases e:80=i
 ·subst e
  rw [zis] at hx;cases hx
 ·rw [ZP e,ZP e];exact hx
theorem zm6 {env:Env} (he:Zz (GHx ws fs N D) env=true):Xr (GHx ws fs N D) (GHx ws fs N D) env:=⟨fun _ _ h=>h,by rw [he,qF];rfl⟩
end
theorem ps3 {B:HEnv} (h0:(B.get 0).isSome=true) (h1:(B.get 30).isSome=true) (h2:(B.get 60).isSome=true):∀ i∈[0,30,60],(B.get i).isSome=true:=fun i hi=>by
 simp at hi
 rcases hi with rfl|rfl|rfl
 ·exact h0
 ·exact h1
 ·exact h2
set_option maxHeartbeats 4000000 in
theorem zcW (lim:Int) (l:List AT):ACall Tryz.prog 3 [pi lim,.slc 5 (l.map atP) false] (pb true):=by
 have cM:=fun us=>Vm us
 have hW0:(ws0 4 7).length=16396:=by rw [zbh];rfl
 generalize ws0 4 7=W0 at *
 obtain ⟨b,hb,cL⟩:=zdr l
 cases b with
 | true =>
  refine zf zk Tryz.func3 rfl (by kernel_rfl) Tryz.ntmps3 (by simp) _ rfl (fun hw gB hgB=>?_)
  repeat' (first|(refine shC ?_;first|refine qC Zm ?_|refine qC cL ?_)|refine sK ?_|refine sC (fun _=>?_) (fun _=>?_)|fail)
  exact retq rfl rfl
 | false =>
  have hl:=hb rfl
  by_cases hN:1≤lim∧lim≤64
  ·obtain ⟨n0,n1⟩:=hN
   have hd1:decide (lim < 1)=false:=decide_eq_false (by omega)
   have hd2:decide (64 < lim)=false:=decide_eq_false (by omega)
   have cN:=fun us=>zbF W0 12 lim n0 n1 us
   refine zf zk Tryz.func3 rfl (by kernel_rfl) Tryz.ntmps3 (by simp) _ rfl (fun hw gB hgB=>?_)
   repeat' (first|refine Zx 60 61 1 65 5 (by decide) rfl rfl rfl rfl ?_|(refine shC ?_;first|refine qC Zm ?_|refine qC cL ?_)|(refine zG ?_;first|refine yt [] (Yd W0 12 0) [] [(0,.pv (pi lim)),(1,.pv (.slc 5 (l.map atP) false))] [] yI rfl rfl rfl (by repeat (first|exact zi|refine zh rfl ?_)) tS rfl rfl rfl cM ?_|refine yt (Yd W0 12 0) (skH W0 12 lim []) [] [(0,.pv (pi lim)),(1,.pv (.slc 5 (l.map atP) false)),(5,.box 0 0)] [0] yI rfl rfl rfl (by repeat (first|exact zi|refine zh rfl ?_)) tS rfl rfl rfl cN ?_)|(refine VX ?_;first|refine zc4 60 rfl rfl rfl rfl rfl rfl ?_)|refine sK ?_|refine sC (fun _=>?_) (fun _=>?_)|fail)
   refine zI (fun x:Nat × List Int × List Fr × List DX=>[(5,.box 0 0),(6,.box 30 0),(7,.box 60 0),(33,.pv (.slc 5 (l.map atP) false)),(34,.pv (pi ((l.map atP).length:Nat))),(35,.pv (pi x.1))]) (fun x=>GHx x.2.1 x.2.2.1 lim x.2.2.2) (fun x=>x.1≤l.length∧RX x.2.1 x.2.2.1 lim x.2.2.2) (fun x=>l.length - x.1) (0,W0,[],[]) ⟨by simp,hW0,n0,n1,rfl,by simp;omega,fun k f d h=>by simp at h⟩ tSU ⟨by repeat (first|exact zi|refine zh rfl ?_),rfl⟩ ?_
   rintro ⟨k,ws,fs,D⟩ ⟨hk,hR⟩
   dsimp only at hk hR ⊢
   by_cases hlt:k < l.length
   ·have hdk:decide ((k:Int) < (((l.map atP).length:Nat):Int))=true:=decide_eq_true (by rw [List.length_map];omega)
    have hx:(l.map atP)[k]?=some (atP l[k]):=by rw [List.getElem?_map,List.getElem?_eq_getElem hlt];rfl
    obtain ⟨ws',fs',D',hR',cD⟩:=zhP hR l[k].k l[k].n l[k].m l[k].x l[k].l
    repeat' (first|refine yX zk 80 rfl rfl rfl rfl zis rfl rfl ?_|refine yD (GHx ws fs lim D) [(5,.box 0 0),(6,.box 30 0),(7,.box 60 0),(33,.pv (.slc 5 (l.map atP) false)),(34,.pv (pi ((l.map atP).length:Nat))),(35,.pv (pi k))] cD rfl rfl rfl zi9 qF rfl tS rfl (fun _=>ps3 rfl rfl rfl) rfl rfl (fun s=>?_)|refine yD (GHx ws' fs' lim (D' s)) [(5,.box 0 0),(6,.box 30 0),(7,.box 60 0),(33,.pv (.slc 5 (l.map atP) false)),(34,.pv (pi ((l.map atP).length:Nat))),(35,.pv (pi k)),(45,.pv (pb false))] (zhT (hR' s)) rfl rfl rfl (fun _ _ h=>h) qF rfl tS rfl (fun _=>ps3 rfl rfl rfl) rfl rfl (fun _=>?_)|(refine shX ?_;first|refine qX hx ?_)|refine sK ?_|refine sC (fun _=>?_) (fun _=>?_)|fail)
    exact ⟨(k + 1,ws',fs',D' s),⟨hlt,hR' s⟩,tD,tSU,zm6 rfl⟩
   ·have hk2:k=l.length:=by omega
    subst hk2
    have hdk:decide ((l.length:Int) < (((l.map atP).length:Nat):Int))=false:=decide_eq_false (by rw [List.length_map];omega)
    repeat' (first|refine sK ?_|refine sC (fun _=>?_) (fun _=>?_)|fail)
    exact retq rfl rfl
  ·have cN:=fun us=>zic W0 lim (by omega) us
   by_cases h1:lim < 1
   ·have hd1:decide (lim < 1)=true:=decide_eq_true h1
    refine zf zk Tryz.func3 rfl (by kernel_rfl) Tryz.ntmps3 (by simp) _ rfl (fun hw gB hgB=>?_)
    repeat' (first|refine zy rfl (yF (b:=true) rfl Tryz.underlying27 rfl rfl) rfl rfl ?_|refine AD.step _ _ _ _ _ rfl (yF (b:=true) rfl Tryz.underlying27 rfl rfl) rfl rfl ?_|(refine shC ?_;first|refine qC Zm ?_|refine qC cL ?_|refine qC (zcG 1) ?_)|(refine zG ?_;first|refine yt [] (Yd W0 12 0) [] [(0,.pv (pi lim)),(1,.pv (.slc 5 (l.map atP) false))] [] yI rfl rfl rfl (by repeat (first|exact zi|refine zh rfl ?_)) tS rfl rfl rfl cM ?_|refine yt (Yd W0 12 0) (Yd W0 12 0) [] [(0,.pv (pi lim)),(1,.pv (.slc 5 (l.map atP) false)),(5,.box 0 0)] [0] yI rfl rfl rfl (by repeat (first|exact zi|refine zh rfl ?_)) tS rfl rfl rfl cN ?_)|refine sK ?_|refine sC (fun _=>?_) (fun _=>?_)|fail)
    exact retq rfl rfl
   ·have hd1:decide (lim < 1)=false:=decide_eq_false h1
    have hd2:decide (64 < lim)=true:=decide_eq_true (by omega)
    refine zf zk Tryz.func3 rfl (by kernel_rfl) Tryz.ntmps3 (by simp) _ rfl (fun hw gB hgB=>?_)
    repeat' (first|refine zy rfl (yF (b:=true) rfl Tryz.underlying27 rfl rfl) rfl rfl ?_|refine AD.step _ _ _ _ _ rfl (yF (b:=true) rfl Tryz.underlying27 rfl rfl) rfl rfl ?_|(refine shC ?_;first|refine qC Zm ?_|refine qC cL ?_|refine qC (zcG 1) ?_)|(refine zG ?_;first|refine yt [] (Yd W0 12 0) [] [(0,.pv (pi lim)),(1,.pv (.slc 5 (l.map atP) false))] [] yI rfl rfl rfl (by repeat (first|exact zi|refine zh rfl ?_)) tS rfl rfl rfl cM ?_|refine yt (Yd W0 12 0) (Yd W0 12 0) [] [(0,.pv (pi lim)),(1,.pv (.slc 5 (l.map atP) false)),(5,.box 0 0)] [0] yI rfl rfl rfl (by repeat (first|exact zi|refine zh rfl ?_)) tS rfl rfl rfl cN ?_)|refine sK ?_|refine sC (fun _=>?_) (fun _=>?_)|fail)
    exact retq rfl rfl
end Go.Cg
