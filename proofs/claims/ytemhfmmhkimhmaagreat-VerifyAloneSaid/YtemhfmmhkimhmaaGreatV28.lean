/- A part of the walks by abstract values: no statement of its own. -/
import Derived.Test.YtemhfmmhkimhmaaGreatV12
import Derived.Test.YtemhfmmhkimhmaaGreatV4
import Derived.Test.YtemhfmmhkimhmaaGreatV14
import Derived.Test.YtemhfmmhkimhmaaGreatV8
import Derived.Test.YtemhfmmhkimhmaaGreatV20
import Derived.Test.YtemhfmmhkimhmaaGreatChecked
import Derived.Test.YtemhfmmhkimhmaaGreatV9
import Derived.Test.YtemhfmmhkimhmaaGreatV23
import Derived.Test.YtemhfmmhkimhmaaGreatV24
import Derived.Test.YtemhfmmhkimhmaaGreatV27
import Derived.Test.YtemhfmmhkimhmaaGreatV16
set_option linter.unusedVariables false
set_option linter.unusedSimpArgs false
namespace Go.Cg
open Go.RowKit
section
variable {P:Program} {tb:Tab} {n:Nat} {g:Base} {K K':KK} {w w':World} {ρ ρ':Nat->Value} {H H':HEnv} {env:Env} {a:Act} {ops:List Oper} {o:Oper} {rest:List Oper} {Q:Env->HEnv->Prop} {f:FuncId} {args:List AV} {r:AV}
theorem zrR {d:Tmp} {ars:List AV} (Hc Hc' R:HEnv) (env2:Env) {lone:Bool} (ps:List Nat) (hw1:lone=true->g.w1.heap.size=0) (hg:guardE ops env o=some true)
  (henter:∀ (K:KK) (ρ:Nat->Value) (a:Act) (w:World),FS g K ρ H w->EnvR K w ρ H env a.tmps->zbU P f->∃ vs:List Value,(execOp a.eval o).run P w=.ok (.enter f vs.toArray) w/\Qd K w ρ H ars vs) (hsub:HSub H (Hc++R)) (hs:Sub env env2) (hd:o.dst=some d) (hdt:Nat.blt d n=true)
  (hchk:XU Hc Hc' R ps ars env2 r=true) (hc:∀ us,ACallM P f ars (Hc++qB us ps) r (Hc'++qB us ps) lone)
  (h:AO P n g ops.toArray rest ((d,r)::env2) (Hc'++R) Q):AO P n g ops.toArray (o::rest) env H Q:=by
 simp only [XU,Bool.and_eq_true] at hchk;obtain ⟨⟨⟨⟨⟨⟨⟨⟨⟨⟨d1,d2⟩,d3⟩,d4⟩,i1⟩,i2⟩,i3⟩,i4⟩,i5⟩,i6⟩,i7⟩:=hchk;have i7':∀ i∈ps,(Hc.get i).isSome=true/\(Hc'.get i).isSome=true:=fun i hi=>by simpa using List.all_eq_true.1 i7 i hi
 refine ⟨fun a w hinv=>?_⟩;have hw:=qw hinv hg;obtain ⟨h1,h2,K,ρ,hf,he⟩:=hinv;refine wpList_step fun KK hKK=>?_
 rw [if_pos hw];have hlatR:Later K K w w:=.refl K w;have gC:∀ i x,Hc.get i=some x->H.get i=some x:=fun i x hx=>hsub i x (by rw [get_append,hx])
 have gR:∀ i x,R.get i=some x->H.get i=some x:=fun i x hx=>hsub i x (by
  rw [get_append];cases hh:Hc.get i with
  | none=>exact hx
  | some y=>rw [YQ d1 i y hh] at hx;cases hx)
 have nC:∀ i x,R.get i=some x->Hc.get i=none:=fun i x hx=>by
  cases hh:Hc.get i with
  | none=>rfl
  | some y=>rw [YQ d1 i y hh] at hx;cases hx
 have nC':∀ i x,R.get i=some x->Hc'.get i=none:=fun i x hx=>by
  cases hh:Hc'.get i with
  | none=>rfl
  | some y=>rw [YQ d2 i y hh] at hx;cases hx
 have hpinC:∀ {A:HEnv} {us:Nat->Value} {i:Nat} {x:HE},HEnv.get (A++qB us ps) i=some x->x.live=true->A.get i=some x:=by
  intro A us i x hx hl;rw [get_append] at hx;cases hh:A.get i with
  | some z=>rw [hh] at hx;exact hx
  | none =>
   rw [hh] at hx;obtain ⟨_,_,rfl⟩:=XM hx;simp [HE.live] at hl
 obtain ⟨g',hg'⟩:∃ g':Base,g'=⟨g.w0,K,g.w1,g.ds,w,fun b=>g.pr b\/∃ i x,R.get i=some x/\x.live=true/\yj (ρ i)=some b⟩:=⟨_,rfl⟩
 have hfs:FS g' K ρ (Hc++qB ρ ps) w:=by
  subst hg';refine ⟨hf.below,fun _ _ h=>h,fun _ _ h=>.inl h,hf.lt,hf.others,⟨?_,fun _ _ _=>rfl⟩,?_,?_,?_⟩
  ·rintro b (hb|⟨i,x,hi,hl,hb⟩)
   ·exact ⟨(hf.pt.same b hb).1,rfl,fun _=>Iff.rfl⟩
   ·exact ⟨((hf.heap.ok i x (gR i x hi)).block_lt hl hb).2,rfl,fun _=>Iff.rfl⟩
  ·intro i x b hi hl hb;have hC:=hpinC hi hl;rintro (hp|⟨j,y,hj,hly,hbj⟩)
   ·exact hf.away i x b (gC i x hC) hl hb hp
   ·have hne:i≠j:=by rintro rfl;rw [nC i y hj] at hC;cases hC
    exact hf.heap.apart i j x y b hne (gC i x hC) (gR j y hj) hl hly hb hbj
  ·intro i x hi;rw [get_append] at hi;cases hh:Hc.get i with
   | some y =>
    rw [hh] at hi;simp only [Option.some.injEq] at hi;subst hi;have hok:=hf.heap.ok i y (gC i y hh);have hk:∀ j,(HEnv.get Hc j).isSome=true->(HEnv.get (Hc++qB ρ ps) j).isSome=true/\ρ j=ρ j:=fun j hj=>⟨yI j hj,rfl⟩
    cases y with
    | cell v=>obtain ⟨b,t,arr,u,q1,q2,q3,q4,q5,q6⟩:=hok;exact ⟨b,t,arr,u,q1,q2,q3,(q4.refs (Qi i2 i v hh)).keeps hlatR hk,q5,q6⟩
    | pin v u=>exact (ARel.refs hok (Yk i2 i v u hh)).keeps hlatR hk
    | row t sz es=>exact hok
    | mrow t sz es=>exact hok
    | dead=>exact hok
    | obj X=>exact hok
   | none =>
    rw [hh] at hi;obtain ⟨q1,q2,rfl⟩:=XM hi;exact .own _ (yI _ (i7' _ q2).1)
  ·intro i j x y b hij hi hj lx ly bx bj;exact hf.heap.apart i j x y b hij (gC i x (hpinC hi lx)) (gC j y (hpinC hj ly)) lx ly bx bj
 obtain ⟨vals,hrun,hpa⟩:=henter K ρ a w hf he (hc ρ).stands;have hall:Qd K w ρ (Hc++qB ρ ps) ars vals :=
  ⟨hpa.1,fun k c v hc hv=>((hpa.2 k c v hc hv).refs (ZT i1 k c hc)).keeps hlatR fun j hj=>⟨yI j hj,rfl⟩⟩
 unfold Oper.wp;rw [hrun];simp only [Oper.upon];refine ((hc ρ).calls g' K ρ w _ (by subst hg';exact hw1) hfs hall).mono fun e w' ⟨v,K',ρ',e1,hf',hv⟩=>?_
 subst e1;have hlat:Later K K' w w':=by subst hg';exact ⟨hf'.old,hf'.pt.kept⟩
 have hprot:∀ b,(g.pr b\/∃ i x,R.get i=some x/\x.live=true/\yj (ρ i)=some b)->b < w'.heap.size/\w'.heap[b]?=w.heap[b]? /\∀ o,K' b o↔K b o:=by subst hg';exact hf'.pt.same
 have haway:∀ i x b,Hc'.get i=some x->x.live=true->yj (ρ' i)=some b->¬ (g.pr b\/∃ i x,R.get i=some x/\x.live=true/\yj (ρ i)=some b):=by
  subst hg';exact fun i x b hi=>hf'.away i x b (by rw [get_append,hi])
 obtain ⟨ρ2,hρ2⟩:∃ ρ2:Nat->Value,∀ j,ρ2 j=if (Hc'.get j).isSome then ρ' j else ρ j:=⟨_,fun _=>rfl⟩
 have r1:∀ j,(Hc'.get j).isSome=true->ρ2 j=ρ' j:=fun j hj=>by rw [hρ2,if_pos hj]
 have r2:∀ j,Hc'.get j=none->ρ2 j=ρ j:=fun j hj=>by rw [hρ2,hj];rfl
 have hkC:∀ j,(HEnv.get Hc' j).isSome=true->(HEnv.get (Hc'++R) j).isSome=true/\ρ2 j=ρ' j:=fun j hj=>⟨yI j hj,r1 j hj⟩
 have hps:∀ i∈ps,ρ' i=ρ i:=fun i hi=>by
  have hnone:Hc'.get (1000 + i)=none:=by
   cases hh:Hc'.get (1000 + i) with
   | none=>rfl
   | some x=>have:=Vx d4 _ x hh;omega
  have:=hf'.heap.ok (1000 + i) _ zwy105;have this:ARel K' w' ρ' (Hc'++qB ρ ps) (.own i) (ρ i):=this;generalize hu:ρ i=u at this;cases this with
  | own _ _=>rfl
 have hkR:∀ j,(HEnv.get (R++VQ ps) j).isSome=true->(HEnv.get (Hc'++R) j).isSome=true/\ρ2 j=ρ j:=fun j hj=>by
  rw [get_append] at hj;cases hh:R.get j with
  | some x =>
   have hn:=nC' j x hh;exact ⟨by rw [get_append,hn,hh];rfl,r2 j hn⟩
  | none =>
   rw [hh] at hj;have hm:=zdN hj;have hs':=(i7' j hm).2;exact ⟨yI j hs',by rw [r1 j hs',hps j hm]⟩
 have hfs2:FS g K' ρ2 (Hc'++R) w':=by
  have b1:Below g.w0.heap.size g.w0 w':=by subst hg';exact hf'.below
  have b3:∀ b o,K' b o->K b o\/g.w0.heap.size<=b:=by subst hg';exact hf'.new
  have b5:KeepsOthers g.w1 w':=by subst hg';exact hf'.others
  have bB:HRel K' w' g.w0.heap.size ρ' (Hc'++qB ρ ps):=by subst hg';exact hf'.heap
  refine ⟨b1,fun b o h=>hlat.sub b o (hf.old b o h),fun b o hk=>(b3 b o hk).elim (hf.new b o) .inr,hf'.lt,b5,⟨fun b hb=>?_,fun b o h0=>(hlat.cell b o (hf.old b o h0)).trans (hf.pt.kept b o h0)⟩,fun i x b hi hl hb=>?_,fun i x hi=>?_,fun i j x y b hij hi hj lx ly bx bj=>?_⟩
  ·obtain ⟨p1,p2,p3⟩:=hprot b (.inl hb);obtain ⟨q1,q2,q3⟩:=hf.pt.same b hb;exact ⟨p1,p2.trans q2,fun o=>(p3 o).trans (q3 o)⟩
  ·rw [get_append] at hi;cases hh:Hc'.get i with
   | some y =>
    rw [hh] at hi;simp only [Option.some.injEq] at hi;subst hi;rw [r1 i zwy119] at hb;exact fun hp=>haway i y b hh hl hb (.inl hp)
   | none =>
    rw [hh] at hi;rw [r2 i hh] at hb;exact hf.away i x b (gR i x hi) hl hb
  ·rw [get_append] at hi;cases hh:Hc'.get i with
   | some y =>
    rw [hh] at hi;simp only [Option.some.injEq] at hi;subst hi;rw [r1 i zwy119];have hok:=bB.ok i y (by rw [get_append,hh]);have hl':=Later.refl K' w';cases y with
    | cell v=>obtain ⟨b,t,arr,u,q1,q2,q3,q4,q5,q6⟩:=hok;exact ⟨b,t,arr,u,q1,q2,q3,(q4.refs (Qi i3 i v hh)).keeps hl' hkC,q5,q6⟩
    | pin v u=>exact (ARel.refs hok (Yk i3 i v u hh)).keeps hl' hkC
    | row t sz es=>exact hok
    | mrow t sz es=>exact hok
    | dead=>exact hok
    | obj X=>exact hok
   | none =>
    rw [hh] at hi;rw [r2 i hh];have hok:=hf.heap.ok i x (gR i x hi);have hsame:x.live=true->∀ b,yj (ρ i)=some b->w'.heap[b]?=w.heap[b]? /\∀ o,K' b o↔K b o:=fun hl b hb=>(hprot b (.inr ⟨i,x,hi,hl,hb⟩)).2
    cases x with
    | cell v =>
     obtain ⟨b,t,arr,u,q1,q2,q3,q4,q5,q6⟩:=hok;obtain ⟨s1,s2⟩:=hsame rfl b zwy120;exact ⟨b,t,arr,u,q1,q2,by rw [s1];exact q3,(q4.refs (Qi i5 i v hi)).keeps hlat hkR,q5,fun o hk=>q6 o ((s2 o).1 hk)⟩
    | pin v u=>exact (ARel.refs hok (Yk i5 i v u hi)).keeps hlat hkR
    | row t sz es =>
     obtain ⟨xs,q1,q2,q3,q4⟩:=hok;refine ⟨xs,Yv q1 fun b hb=>(hsame rfl b hb).1,q2,fun k e he=>?_,fun b hb o=>?_⟩
     ·obtain ⟨c1,c2⟩:=q3 k e he;exact ⟨c1,fun k c hc=>let ⟨v,h4,h5,h6⟩:=c2 k c hc;⟨v,h4,h5,h6.later hlat⟩⟩
     ·rw [(hsame rfl b ((Qx q1 b).2 hb)).2 o];exact q4 b hb o
    | mrow t sz es =>
     obtain ⟨xs,q1,q2,q3,q4⟩:=hok;refine ⟨xs,Yv q1 fun b hb=>(hsame rfl b hb).1,q2,fun k e he=>?_,fun b hb o hk=>?_⟩
     ·obtain ⟨c1,c2⟩:=q3 k e he;exact ⟨c1,fun k c hc=>let ⟨v,h4,h5,h6⟩:=c2 k c hc;⟨v,h4,h5,h6.later hlat⟩⟩
     ·exact q4 b hb o (((hsame rfl b ((Qx q1 b).2 hb)).2 o).1 hk)
    | dead=>trivial
    | obj X =>
     obtain ⟨b,ob,q1,q2,q3,q4,q5⟩:=hok;obtain ⟨s1,s2⟩:=hsame rfl b zwy120;exact ⟨b,ob,q1,q2,by rw [s1];exact q3,q4,fun o hk=>q5 o ((s2 o).1 hk)⟩
  ·rw [get_append] at hi hj;cases hhi:Hc'.get i with
   | some x' =>
    rw [hhi] at hi;simp only [Option.some.injEq] at hi;subst hi;rw [r1 i (by rw [hhi];rfl)] at bx;cases hhj:Hc'.get j with
    | some y' =>
     rw [hhj] at hj;simp only [Option.some.injEq] at hj;subst hj;rw [r1 j zwy114] at bj;exact bB.apart i j x' y' b hij (by rw [get_append,hhi]) (by rw [get_append,hhj]) lx ly bx bj
    | none =>
     rw [hhj] at hj;rw [r2 j hhj] at bj;exact haway i x' b hhi lx bx (.inr ⟨j,y,hj,ly,bj⟩)
   | none =>
    rw [hhi] at hi;rw [r2 i hhi] at bx;cases hhj:Hc'.get j with
    | some y' =>
     rw [hhj] at hj;simp only [Option.some.injEq] at hj;subst hj;rw [r1 j zwy114] at bj;exact haway j y' b hhj ly bj (.inr ⟨i,x,hi,lx,bx⟩)
    | none =>
     rw [hhj] at hj;rw [r2 j hhj] at bj;exact hf.heap.apart i j x y b hij (gR i x hi) (gR j y hj) lx ly bx bj
 have he2:EnvR K' w' ρ2 (Hc'++R) env2 a.tmps:=fun t av ht=>by
  obtain ⟨u,u1,u2⟩:=he t av (hs t av ht);exact ⟨u,u1,(u2.refs (zch i6 t av ht)).keeps hlat hkR⟩
 refine hKK _ _ (h.go _ _ ⟨Zm h1,put_defers h2,K',ρ2,hfs2,?_⟩);rw [hd];exact Ye h1 hdt he2 ((hv.refs i4).keeps (Later.refl K' w') hkC)
theorem zdo {t:Tmp} {xs:Array Operand} {ts:Array TypeId} {d:Tmp} {first cap ars:List AV} (Hc Hc' R:HEnv) (env2:Env) {lone:Bool} (ps:List Nat) (hw1:lone=true->g.w1.heap.size=0) (hg:guardE ops env o=some true)
  (hop:o.op=.call { callee:=.value (.tmp t),args:=xs,argTypes:=ts }) (ht:env.get t=some (.fn (.func f) first cap)) (hargs:avs env xs.toList=some ars) (hsub:HSub H (Hc++R)) (hs:Sub env env2) (hd:o.dst=some d) (hdt:Nat.blt d n=true)
  (hchk:XU Hc Hc' R ps (first++ars++cap) env2 r=true) (hc:∀ us,ACallM P f (first++ars++cap) (Hc++qB us ps) r (Hc'++qB us ps) lone)
  (h:AO P n g ops.toArray rest ((d,r)::env2) (Hc'++R) Q):AO P n g ops.toArray (o::rest) env H Q :=
 zrR Hc Hc' R env2 ps hw1 hg (fun K ρ a w hf he hst=>by
  have hfn:=qI he (x:=.tmp t) ht;generalize hfv:a.eval (.tmp t)=fv at hfn;have hpa:=zbM (a:=a) he hargs;cases hfn with
  | fn _ _ _ vf vc f1 f2 f3 f4 =>
   refine ⟨vf++xs.toList.map a.eval++vc,?_,by have:=hpa.1;simp at this;simp [f1,f2,this],fun k c v hc hv=>?_⟩
   ·have e:(vf++xs.toList.map a.eval++vc).toArray=vf.toArray++xs.map a.eval++vc.toArray:=by
     rw [show xs.map a.eval=(xs.toList.map a.eval).toArray by rw [<-Array.toList_map,Array.toArray_toList]];simp
    rw [e];simp [execOp,hop,resolve,hfv,Deferred.ofValue,invoke,ZK hst]
   ·rw [List.append_assoc,List.getElem?_append] at hc hv;split at hc
    ·rename_i hl;rw [if_pos zwy62] at hv;exact f3 k c v hc hv
    ·rename_i hl;rw [if_neg zwy62,f1] at hv;rw [List.getElem?_append] at hc hv;have e:(xs.toList.map a.eval).length=ars.length:=hpa.1;split at hc
     ·rename_i hl2;rw [if_pos zwy62] at hv;exact hpa.2 _ c v hc hv
     ·rename_i hl2;rw [if_neg zwy62,e] at hv;exact f4 _ c v hc hv) hsub hs hd hdt hchk hc h
variable {listed:List Bool} {QQ:QC}
end
section
variable {P:Program} {n:Nat} {g:Base} {H:HEnv} {env:Env} {ops:List Oper} {o:Oper} {rest:List Oper} {f:FuncId} {QQ:QC}
theorem zij {t:Tmp} {xs:Array Operand} {ts:Array TypeId} {first cap ars:List AV} {v:Value} (Hc R:HEnv) {lone:Bool} (hw1:lone=true->g.w1.heap.size=0) (hg:guardE ops env o=some true)
  (hop:o.op=.call { callee:=.value (.tmp t),args:=xs,argTypes:=ts }) (ht:env.get t=some (.fn (.func f) first cap)) (hargs:avs env xs.toList=some ars) (hsub:HSub H (Hc++R)) (hchk:zlN Hc R (first++ars++cap)=true) (hc:ACallPan P f (first++ars++cap) Hc v lone)
  (h:QQ (.panic [{ v:=v,recovered:=false }]) (zau R env) R):AOX P n g ops.toArray (o::rest) env H QQ:=by
 refine ⟨fun a w hinv=>?_⟩;have hw:=qw hinv hg;obtain ⟨h1,h2,K,ρ,hf,he⟩:=hinv;refine wpList_step fun KK hKK=>?_
 rw [if_pos hw];have henter:∃ vs:List Value,(execOp a.eval o).run P w=.ok (.enter f vs.toArray) w/\Qd K w ρ H (first++ars++cap) vs:=by
  have hfn:=qI he (x:=.tmp t) ht;generalize hfv:a.eval (.tmp t)=fv at hfn;have hpa:=zbM (a:=a) he hargs;cases hfn with
  | fn _ _ _ vf vc f1 f2 f3 f4 =>
   refine ⟨vf++xs.toList.map a.eval++vc,?_,by have:=hpa.1;simp at this;simp [f1,f2,this],fun k c v hc hv=>?_⟩
   ·have e:(vf++xs.toList.map a.eval++vc).toArray=vf.toArray++xs.map a.eval++vc.toArray:=by
     rw [show xs.map a.eval=(xs.toList.map a.eval).toArray by rw [<-Array.toList_map,Array.toArray_toList]];simp
    rw [e];simp [execOp,hop,resolve,hfv,Deferred.ofValue,invoke,ZK hc.stands]
   ·rw [List.append_assoc,List.getElem?_append] at hc hv;split at hc
    ·rename_i hl;rw [if_pos zwy62] at hv;exact f3 k c v hc hv
    ·rename_i hl;rw [if_neg zwy62,f1] at hv;rw [List.getElem?_append] at hc hv;have e:(xs.toList.map a.eval).length=ars.length:=hpa.1;split at hc
     ·rename_i hl2;rw [if_pos zwy62] at hv;exact hpa.2 _ c v hc hv
     ·rename_i hl2;rw [if_neg zwy62,e] at hv;exact f4 _ c v hc hv
 obtain ⟨vs,hrun,hall⟩:=henter;unfold Oper.wp;rw [hrun];simp only [Oper.upon];refine (zj7 Hc R hw1 hsub hchk hc hf hall).mono fun e w' ⟨e1,K',ρ2,hf',hlat,hps⟩=>?_
 subst e1;refine ⟨zau R env,R,⟨h1,h2,K',ρ2,hf',fun t av ht=>?_⟩,.inr ⟨_,rfl⟩,h⟩;rw [zbG] at ht;cases hE:env.get t with
 | none=>simp [hE] at ht
 | some v0 =>
  obtain ⟨u,u1,u2⟩:=he t v0 hE;simp only [hE,Option.map_some,Option.some.injEq] at ht;subst ht;refine ⟨u,u1,?_⟩;split
  ·rename_i hr;exact (u2.refs hr).keeps hlat fun j hj=>⟨hj,hps j hj⟩
  ·exact .any u
end
end Go.Cg
namespace Go.Cg
open Go.RowKit Go.Proofs
def zhT (n:Int):Prop:=(Lit.int .i64 n).wf=true
theorem zvJ {H:Type} {enc:TypeId × Value->H} {w:World}:Rd enc Tryz.prog w 3 1 (fun ps=>∃ n,zhT n/\ps=[.base (.int .i64 n)]):=WR
theorem zwE {n:Int} (h:zhT n) : -9223372036854775808<=n/\n<=9223372036854775807:=by
 simp [zhT,Lit.wf,IntKind.has,IntKind.min,IntKind.max,IntKind.bits,IntKind.signed] at h;omega
theorem zqO {g:Img} (h:zqa g):∀ m∈g.methods,∀ x∈m.code,zd3 x:=fun m hm x hx=>by
 have:=((h.2.2.1 m hm).2.2.2.2.2.2.1 x hx).2.1;simp [Lit.wf,IntKind.has,IntKind.min,IntKind.max,IntKind.bits,IntKind.signed] at this;exact ⟨by omega,by omega⟩
end Go.Cg
namespace Go.Cg
open Go Go.Proofs
theorem zu0:laidOutB Tryz.checked.prog=true:=by kernel_rfl
theorem zuO:mapsRowed Tryz.checked.prog=true:=by kernel_rfl
theorem zsC:Tryz.checked.prog.stopsHeard=true:=by kernel_rfl
theorem zsg:Tryz.checked.prog.mayEnter=true:=by kernel_rfl
theorem zsk:Tryz.checked.prog.liftsFinal=false:=by kernel_rfl
theorem zuu:Tryz.checked.prog.make=some .cut:=by kernel_rfl
end Go.Cg
namespace Go.Cg
open Go.Proofs
def Zf (c:List Pt) (at_:Int):Nat:=(c.takeWhile fun x=>x.p==1&&x.f==at_).length
def zwt (x y:Pt):Bool:=x.c==y.c&&(x.p==y.p&&true)
def zbj:List Pt->List Pt->Bool
 | [],[]=>true
 | x::a,y::b=>zwt x y&&zbj a b
 | _,_=>false
def zlo (b:List Pt) (to:Int) (a:List Pt):Bool:=(List.range (Zf b to + 1)).any fun k=>zbj (b.drop k) a
def zgJ (l:List Cl) (i to:Int):Bool:=zlo (qW l to) to (qW l i)
def zvV (l:List Cl) (r:Pt):Bool:=r.p==3||r.p==2&&(l.getD r.c.toNat default).kind != 1&&(l.getD r.c.toNat default).kind != 2
def VD (l:List Cl) (b:List Pt) (to:Int):List Pt->Bool
 | []=>zlo b to []
 | r::a=>if zlo b to (r::a) then true else if zvV l r then false else VD l b to a
def zin (l:List Cl) (i to:Int):Bool:=VD l (qW l to) to (qW l i)
def zal (m:Me) (i:Int):Int:=if decide (1<=(qy m i).op)&&decide ((qy m i).op<=75) then (ofI (qy m i).op).2.2 else 0
def opV (m:Me) (i:Int):Int:=if decide (i < 0)||decide ((m.code.length:Int)<=i) then 0 else (qy m i).op
def zea (w:Int):Bool:=w==0||w==2
def zao (w:Int):Bool:=w==1||(w==2||w==4)
def onV (m:Me) (i:Int):Int :=
 if zea (zal m i)&&!decide (i + 1 < (m.code.length:Int)) then 11
 else if zea (zal m i)&&!zgJ m.clauses i (i + 1) then 12
 else if !zao (zal m i) then 0
 else if zal m i==4 then (if zin m.clauses i (qy m i).arg then 0 else 12)
 else if zgJ m.clauses i (qy m i).arg then 0 else 12
def clV (m:Me) (r:Pt):Cl:=m.clauses.getD r.c.toNat default
def XR (m:Me) (r:Pt) (a b:Int):Bool:=r.p==2&&((clV m r).kind==a||(clV m r).kind==b)
def Yc (m:Me) (i:Int):Int :=
 if opV m i==46 then (if (qW m.clauses i).isEmpty then 0 else 12)
 else if opV m i==70 then (match (qW m.clauses i).find? (fun r=>r.p != 1) with|none=>12|some r=>if XR m r 1 2 then 0 else 12)
 else if opV m i==72 then (match qW m.clauses i with|[]=>12|r::_=>if XR m r 3 4 then 0 else 12)
 else if opV m i==73 then (match qW m.clauses i with|[]=>12|r::_=>if r.p==3&&(clV m r).hf==i + 1 then 0 else 12)
 else 0
def WC (g:Img) (m:Me) (i:Int):Me:=mAt g (qy m (i + 1)).arg
def tailV (g:Img) (m:Me) (i:Int):Int :=
 if opV m i != 47 then 0
 else if !((opV m (i + 1)==43||opV m (i + 1)==44)&&opV m (i + 2)==46&&(qW m.clauses i).isEmpty) then 11
 else if !tyB (WC g m i).ret m.ret then 10
 else if (Qr g (WC g m i)).any (fun t=>t.ref) then 13 else 0
def zbp (m:Me) (i:Int):Int:=if opV m i==68&&opV m (i - 1) != 67 then 11 else 0
def XH (g:Img) (m:Me) (i:Int):Int :=
 if onV m i != 0 then onV m i else if Yc m i != 0 then Yc m i else if tailV g m i != 0 then tailV g m i else zbp m i
def zeX (m:Me):Bool:=!(qW m.clauses 0).any fun r=>r.p != 1||(clV m r).tf != 0
def zcw (g:Img) (m:Me):Int × Int :=
 match (List.range m.code.length).find? (fun i:Nat=>XH g m i != 0) with
 | some i=>(((i:Nat):Int),XH g m i)
 | none=>if zeX m then (0,0) else (0,12)
structure VS where
 st:List (List Ty)
 kn:List Bool
 wk:Int
def qR (i:Int) (l:List Ty) (s:VS):VS:=⟨s.st.set i.toNat l,s.kn.set i.toNat true,s.wk⟩
def QT (s:VS) (c:Cl):VS :=
 if c.kind==1 then qR c.hf [c.t] s
 else if c.kind==2 then qR c.filter [⟨4,0,0,false⟩] (qR c.hf [⟨4,0,0,false⟩] s)
 else qR c.hf [] s
def zcA (m:Me):VS:=m.clauses.foldl QT (qR 0 [] ⟨List.replicate m.code.length [],List.replicate m.code.length false,0⟩)
def zhG (m:Me) (i to:Int):Bool:=m.clauses.any fun c=>c.tf==to&&(decide (i < c.tf)||decide (c.tt<=i))
def zak (s:VS) (i:Int):List Ty:=s.st.getD i.toNat []
def toV (g:Img) (m:Me) (i to:Int) (l:List Ty) (s:VS):Except Int VS :=
 if !(l.isEmpty||!zhG m i to) then .error 9
 else if decide (to<=i) then (if zcx g l (zak s to) then .ok { s with wk:=s.wk + (1 + l.length) } else .error 14)
 else if !s.kn.getD to.toNat false then .ok (qR to l { s with wk:=s.wk + (1 + l.length) })
 else if (Yn g (zak s to) l).2==0 then .ok { s with st:=s.st.set to.toNat (Yn g (zak s to) l).1,wk:=s.wk + (1 + l.length) }
 else .error (Yn g (zak s to) l).2
def zd5 (g:Img) (m:Me) (i:Int) (l:List Ty) (s:VS):Except Int VS :=
 match (if zea (zal m i) then toV g m i (i + 1) l s else .ok s) with
 | .error e=>.error e
 | .ok s'=>if zao (zal m i) then toV g m i (qy m i).arg l s' else .ok s'
def zej (g:Img) (k:Int) (i:Int) (s:VS):Except Int VS :=
 match stepS g k i (zak s i) with
 | .error e=>.error e
 | .ok p=>zd5 g (mAt g k) i p.2 { s with kn:=s.kn.set i.toNat true,wk:=s.wk + 1 }
def goV (g:Img) (k:Int):Nat->Nat->VS->Except (Int × Int) VS
 | 0,_,s=>.ok s
 | f + 1,i,s=>match zej g k i s with|.error e=>.error (((i:Nat):Int),e)|.ok s'=>goV g k f (i + 1) s'
def Qh (g:Img) (k:Int):Except (Int × Int) VS :=
 if (zcw g (mAt g k)).2 != 0 then .error (zcw g (mAt g k)) else goV g k (mAt g k).code.length 0 (zcA (mAt g k))
structure OkV (n:Nat) (s:VS):Prop where
 len:s.st.length=n
 st:∀ l∈s.st,l.length<=12
theorem zdG {s:VS} {n:Nat} (h:OkV n s) (i:Int):(zak s i).length<=12:=by
 unfold zak;rw [List.getD_eq_getElem?_getD];cases hs:s.st[i.toNat]? with
 | none=>simp
 | some l=>exact h.st l (List.mem_of_getElem? hs)
theorem zex {n:Nat} {s:VS} (h:OkV n s) {l:List Ty} (hl:l.length<=12) (i:Nat) (kn:List Bool) (wk:Int):OkV n ⟨s.st.set i l,kn,wk⟩ :=
 ⟨by simp [h.len],fun x hx=>by
  rcases List.mem_or_eq_of_mem_set hx with hx|hx
  ·exact h.st x hx
  ·rw [hx];exact hl⟩
theorem zuV {n:Nat} {s:VS} (h:OkV n s) (c:Cl):OkV n (QT s c):=by
 unfold QT;split
 ·exact zex h zwy63 _ _ _
 ·split
  ·exact zex (s:=qR c.hf [⟨4,0,0,false⟩] s) (zex h zwy63 _ _ _) zwy63 _ _ _
  ·exact zex h zwy63 _ _ _
theorem zns {n:Nat}:∀ (l:List Cl) {s:VS},OkV n s->OkV n (l.foldl QT s)
 | [],_,h=>h
 | c::l,_,h=>zns l (zuV h c)
theorem zmB:∀ (l:List Cl) (s:VS),(l.foldl QT s).wk=s.wk
 | [],_=>rfl
 | c::l,s=>by
  rw [List.foldl_cons,zmB l];unfold QT;split
  ·rfl
  ·split <;> rfl
theorem zsJ (m:Me):OkV m.code.length (zcA m)/\(zcA m).wk=0 :=
 ⟨zns _ (zex ⟨by simp,fun l hl=>by rw [List.eq_of_mem_replicate hl];simp⟩ zwy63 _ _ _),by rw [zcA,zmB];rfl⟩
theorem zmq (g:Img):∀ (a b out:List Ty),a.length=b.length->(zer g a b out).2=0->(zer g a b out).1.length=out.length + a.length
 | [],[],out,_,_=>by simp [zer]
 | x::a,y::b,out,h,h2=>by
  rw [zer] at h2 ⊢;split at h2
  ·rename_i h3;simp at h3;exact absurd h2 h3
  ·rename_i h3;rw [if_neg h3,zmq g a b _ zwy103 h2];simp;omega
 | [],_::_,_,h,_=>by simp at h
 | _::_,[],_,h,_=>by simp at h
theorem zmG {g:Img} {a b:List Ty} (h:(Yn g a b).2=0):(Yn g a b).1.length=a.length:=by
 unfold Yn at h ⊢;split
 ·rename_i h1;rw [if_pos h1] at h;simp at h
 ·rename_i h1;rw [if_neg h1] at h;rw [zmq g a b [] zwy98 h];simp
theorem ztt {g:Img} {m:Me} {i to:Int} {l:List Ty} {n:Nat} {s s':VS} (h:OkV n s) (hl:l.length<=12) (ht:toV g m i to l s=.ok s'):OkV n s'/\s'.wk=s.wk + (1 + l.length):=by
 unfold toV at ht;split at ht
 ·cases ht
 ·split at ht
  ·split at ht
   ·cases ht;exact ⟨⟨h.len,h.st⟩,rfl⟩
   ·cases ht
  ·split at ht
   ·cases ht;exact ⟨zex h hl _ _ _,rfl⟩
   ·split at ht
    ·rename_i he;cases ht;exact ⟨zex h (by rw [zmG (by simpa using he)];exact zdG h to) _ _ _,rfl⟩
    ·cases ht
theorem zuE {g:Img} {m:Me} {i:Int} {l:List Ty} {n:Nat} {s s':VS} (h:OkV n s) (hl:l.length<=12) (ht:zd5 g m i l s=.ok s'):OkV n s'/\s.wk<=s'.wk/\s'.wk<=s.wk + 26:=by
 unfold zd5 at ht;split at ht
 ·cases ht
 ·rename_i s1 h1;have k1:OkV n s1/\s.wk<=s1.wk/\s1.wk<=s.wk + 13:=by
   split at h1
   ·obtain ⟨a,b⟩:=ztt h hl h1;exact ⟨a,by omega,by omega⟩
   ·cases h1;exact ⟨h,by omega,by omega⟩
  split at ht
  ·obtain ⟨a,b⟩:=ztt k1.1 hl ht;exact ⟨a,by omega,by omega⟩
  ·cases ht;exact ⟨k1.1,by omega,by omega⟩
theorem zww {g:Img} {k i:Int} {n:Nat} {s s':VS} (hm:(mAt g k).max<=12) (h:OkV n s) (ht:zej g k i s=.ok s'):OkV n s'/\s.wk + 1<=s'.wk/\s'.wk<=s.wk + 27:=by
 unfold zej at ht;split at ht
 ·cases ht
 ·rename_i p hp;obtain ⟨⟨⟩,l2⟩:=p;have hb:=(zvF g (Qr g (mAt g k)) (mAt g k) (qy (mAt g k) i) _ _ _ hp).1;have hg:=zdG h i;obtain ⟨a,b,c⟩:=zuE (s:={ s with kn:=s.kn.set i.toNat true,wk:=s.wk + 1 }) ⟨h.len,h.st⟩ (show l2.length<=12 by rcases hb with hb|hb <;> omega) ht;exact ⟨a,by simpa using b,by simp only at c;omega⟩
set_option maxHeartbeats 20000000
theorem zwk41 {G:Prop} (h:G:=by repeat' (first|(have:=b0;refine qL 10 8 7 rfl rfl zws zws zws zws zws ?_)|(have:=b0;refine zD ((yS u ⟨g,m,ar,⟨43,arg,t0⟩⟩ l)) zi rfl rfl rfl tH ((Qc ⟨g,m,ar,⟨43,arg,t0⟩⟩ hF (Qr g d) _ zwy62).bad hS3 u) ?_)|(have:=b1;refine zo 11 2 rfl rfl rfl ?_)|(have:=b1;refine zD ((yS u ⟨g,m,ar,⟨43,arg,t0⟩⟩ l3)) zi rfl rfl rfl tH ((zbF ⟨g,m,ar,⟨43,arg,t0⟩⟩ d _ zwy62).bad hS4 u) ?_)|(have:=b2;refine zZ 8 7 rfl zws zws zws zws zws ?_)|(have:=b3;refine zo 7 3 rfl rfl rfl ?_)|(have:=b3;refine zD ([]) zi rfl rfl rfl tH (yu zwy66 8) ?_)|refine zy rfl (aj (ps:=(yt g))) rfl rfl ?_|refine zq rfl (aj (ps:=(yt g))) rfl rfl ?_|(refine shC ?_;first|refine qC ca ?_|(have:=b4;refine zy rfl (zJ rfl rfl (zH zwy66 8)) rfl rfl ?_)|(have:=b4;refine zq rfl (zJ rfl rfl (zH zwy66 8)) rfl rfl ?_)|refine qC ck ?_|refine qC cA ?_)|(have:=b5;refine zu ?_;first|(refine ay 0 (cm.ok em) ?_))|(have:=b1;refine zu ?_;first|(refine zx 0 zi rfl rfl ((Qc ⟨g,m,ar,⟨43,arg,t0⟩⟩ hF (Qr g d) _ zwy62).ok hS3) rfl rfl rfl rfl rfl ?_)|(refine ay 0 (cm.ok em) ?_))|(have:=b6;refine zu ?_;first|(refine zx 0 zi rfl rfl ((Qc ⟨g,m,ar,⟨43,arg,t0⟩⟩ hF (Qr g d) _ zwy62).ok hS3) rfl rfl rfl rfl rfl ?_)|(refine zx 0 zi rfl rfl ((zbF ⟨g,m,ar,⟨43,arg,t0⟩⟩ d _ zwy62).ok hS4) rfl rfl rfl rfl rfl ?_)|(refine ay 0 (cm.ok em) ?_))|refine sK ?_|refine sC (fun _=>?_) (fun _=>?_)|exact zF hw|exact yc hw (yE (.inl rfl) tH)|fail)):G:=h
theorem zs6 (g:Img) (hF:Fm g) (m:Me) (ar:List Ty) (arg:Int) (t0:Ty) (l:List Ty) (hl:l.length<=100) (h0:0<=arg) (h1:arg.toNat < g.methods.length) (hp:(mAt g arg).params.length<=100) (hof:0<=(mAt g arg).owner) (hot:(mAt g arg).owner.toNat < g.types.length):XC 127 [] (⟨g,m,ar,⟨43,arg,t0⟩⟩:RC) (qK g m ⟨43,arg,t0⟩) uV l:=by
 intro u;refine zI zf Tryz.func127 rfl zws Tryz.ntmps127 zwy63 _ rfl (fun gB hw1=>?_);have cm:XC 179 [] (⟨g,m,ar,⟨43,arg,t0⟩⟩:RC) (pure (mAt g arg):SM Me) (fun d=>.pv (zY d)) l:=zbw _ l h0 h1;have em:(pure (mAt g arg):SM Me) l=.ok (mAt g arg,l):=rfl;obtain ⟨d,hd⟩:∃ d,mAt g arg=d:=⟨_,rfl⟩
 rw [hd] at cm em hp hot hof;have ca:=Qs d 4;have cb:=Qs d 16;have cc:=Qs d 1;have ck:=QD g d.owner;have cA:=zca g d zwy62;cases hC1:(qU d.flags 4)
 ·rw [hC1] at ca;cases hS3:(ZG g (Qr g d)) l with
  | error e =>
   have hw:(qK g m ⟨43,arg,t0⟩) l=.error e:=by simp [qK,hd,zA,zG,hC1,zO,emptyS,hS3]
   have b0:=();have b4:=();have b5:=();exact zwk41
  | ok p =>
   obtain ⟨⟨⟩,l3⟩:=p;have hl3:l3.length<=100:=by have:=Vj hS3;omega
   cases hS4:(YW m.max d) l3 with
   | error e =>
    have hw:(qK g m ⟨43,arg,t0⟩) l=.error e:=by simp [qK,hd,zA,zG,hC1,zO,emptyS,hS3,hS4]
    have b1:=();have b2:=();have b4:=();exact zwk41
   | ok p =>
    obtain ⟨⟨⟩,l4⟩:=p;have hw:(qK g m ⟨43,arg,t0⟩) l=.ok ((),l4):=by simp [qK,hd,zA,zG,hC1,zO,emptyS,hS3,hS4]
    have b2:=();have b4:=();have b6:=();exact zwk41
 ·rw [hC1] at ca;have hw:(qK g m ⟨43,arg,t0⟩) l=.error 8:=by simp [qK,hd,zA,zG,hC1,zO,emptyS]
  have b3:=();have b5:=();exact zwk41
theorem zwk42 {G:Prop} (h:G:=by repeat' (first|(have:=b0;refine zo 9 12 rfl rfl rfl ?_)|(have:=b1;refine zD ([]) zi rfl rfl rfl tH (yu zwy70 8) ?_)|(have:=b2;refine qL 10 8 7 rfl rfl zws zws zws zws zws ?_)|(have:=b2;refine zD ((yS u ⟨g,m,ar,⟨44,arg,t0⟩⟩ l)) zi rfl rfl rfl tH ((Qc ⟨g,m,ar,⟨44,arg,t0⟩⟩ hF (Qr g d) _ zwy62).bad hS5 u) ?_)|(have:=b3;refine zo 11 2 rfl rfl rfl ?_)|(have:=b3;refine zD ((yS u ⟨g,m,ar,⟨44,arg,t0⟩⟩ l5)) zi rfl rfl rfl tH ((zbF ⟨g,m,ar,⟨44,arg,t0⟩⟩ d _ zwy62).bad hS6 u) ?_)|(have:=b4;refine zZ 8 7 rfl zws zws zws zws zws ?_)|(have:=b5;refine zD ([]) zi rfl rfl rfl tH (yu zwy92 8) ?_)|(have:=b6;refine zD ([]) zi rfl rfl rfl tH (yu zwy66 8) ?_)|refine zy rfl (aj (ps:=(yt g))) rfl rfl ?_|refine zq rfl (aj (ps:=(yt g))) rfl rfl ?_|(refine shC ?_;first|refine qC cc ?_|(have:=b7;refine qC cb ?_)|(have:=b8;refine zy rfl (zJ rfl rfl (zH zwy70 8)) rfl rfl ?_)|(have:=b8;refine zq rfl (zJ rfl rfl (zH zwy70 8)) rfl rfl ?_)|refine qC ck ?_|refine qC cA ?_)|(have:=b9;refine zu ?_;first|(refine ay 0 (cm.ok em) ?_))|(have:=b3;refine zu ?_;first|(refine zx 0 zi rfl rfl ((Qc ⟨g,m,ar,⟨44,arg,t0⟩⟩ hF (Qr g d) _ zwy62).ok hS5) rfl rfl rfl rfl rfl ?_)|(refine ay 0 (cm.ok em) ?_))|(have:=b10;refine zu ?_;first|(refine zx 0 zi rfl rfl ((Qc ⟨g,m,ar,⟨44,arg,t0⟩⟩ hF (Qr g d) _ zwy62).ok hS5) rfl rfl rfl rfl rfl ?_)|(refine zx 0 zi rfl rfl ((zbF ⟨g,m,ar,⟨44,arg,t0⟩⟩ d _ zwy62).ok hS6) rfl rfl rfl rfl rfl ?_)|(refine ay 0 (cm.ok em) ?_))|refine sK ?_|refine sC (fun _=>?_) (fun _=>?_)|exact zF hw|exact yc hw (yE (.inl rfl) tH)|fail)):G:=h
theorem zse (g:Img) (hF:Fm g) (m:Me) (ar:List Ty) (arg:Int) (t0:Ty) (l:List Ty) (hl:l.length<=100) (h0:0<=arg) (h1:arg.toNat < g.methods.length) (hp:(mAt g arg).params.length<=100) (hof:0<=(mAt g arg).owner) (hot:(mAt g arg).owner.toNat < g.types.length):XC 127 [] (⟨g,m,ar,⟨44,arg,t0⟩⟩:RC) (qK g m ⟨44,arg,t0⟩) uV l:=by
 intro u;refine zI zf Tryz.func127 rfl zws Tryz.ntmps127 zwy63 _ rfl (fun gB hw1=>?_);have cm:XC 179 [] (⟨g,m,ar,⟨44,arg,t0⟩⟩:RC) (pure (mAt g arg):SM Me) (fun d=>.pv (zY d)) l:=zbw _ l h0 h1;have em:(pure (mAt g arg):SM Me) l=.ok (mAt g arg,l):=rfl;obtain ⟨d,hd⟩:∃ d,mAt g arg=d:=⟨_,rfl⟩
 rw [hd] at cm em hp hot hof;have ca:=Qs d 4;have cb:=Qs d 16;have cc:=Qs d 1;have ck:=QD g d.owner;have cA:=zca g d zwy62;cases hC1:(qU d.flags 1)
 ·rw [hC1] at cc;cases hC2:(qU d.flags 16)
  ·rw [hC2] at cb;cases hC3:(Yb g d.owner != 1)
   ·skip;have hw:(qK g m ⟨44,arg,t0⟩) l=.error 8:=by simp [qK,hd,zA,zG,hC1,hC2,hC3,zO,emptyS]
    have b0:=();have b1:=();have b7:=();have b9:=();exact zwk42
   ·skip;cases hS5:(ZG g (Qr g d)) l with
    | error e =>
     have hw:(qK g m ⟨44,arg,t0⟩) l=.error e:=by simp [qK,hd,zA,zG,hC1,hC2,hC3,zO,emptyS,hS5]
     have b2:=();have b7:=();have b8:=();have b9:=();exact zwk42
    | ok p =>
     obtain ⟨⟨⟩,l5⟩:=p;have hl5:l5.length<=100:=by have:=Vj hS5;omega
     cases hS6:(YW m.max d) l5 with
     | error e =>
      have hw:(qK g m ⟨44,arg,t0⟩) l=.error e:=by simp [qK,hd,zA,zG,hC1,hC2,hC3,zO,emptyS,hS5,hS6]
      have b3:=();have b4:=();have b7:=();have b8:=();exact zwk42
     | ok p =>
      obtain ⟨⟨⟩,l6⟩:=p;have hw:(qK g m ⟨44,arg,t0⟩) l=.ok ((),l6):=by simp [qK,hd,zA,zG,hC1,hC2,hC3,zO,emptyS,hS5,hS6]
      have b4:=();have b7:=();have b8:=();have b10:=();exact zwk42
  ·rw [hC2] at cb;have hw:(qK g m ⟨44,arg,t0⟩) l=.error 8:=by simp [qK,hd,zA,zG,hC1,hC2,zO,emptyS]
   have b0:=();have b5:=();have b7:=();have b9:=();exact zwk42
 ·rw [hC1] at cc;have hw:(qK g m ⟨44,arg,t0⟩) l=.error 8:=by simp [qK,hd,zA,zG,hC1,zO,emptyS]
  have b0:=();have b6:=();have b9:=();exact zwk42
theorem zwk43 {G:Prop} (h:G:=by repeat' (first|(have:=b0;refine yZ 17 16 rfl zws zws zws zws zws ?_)|(have:=b1;refine zD ([]) zi rfl rfl rfl tH (yu zwy66 8) ?_)|(have:=b2;refine zo 4 3 rfl rfl rfl ?_)|(have:=b2;refine zD ((yS u ⟨g,m,ar,⟨45,arg,t0⟩⟩ l)) zi rfl rfl rfl tH ((Qc ⟨g,m,ar,⟨45,arg,t0⟩⟩ hF d.params _ zwy62).bad hS7 u) ?_)|(have:=b3;refine zo 5 5 rfl rfl rfl ?_)|(have:=b3;refine zD ((yS u ⟨g,m,ar,⟨45,arg,t0⟩⟩ l7)) zi rfl rfl rfl tH ((zX ⟨g,m,ar,⟨45,arg,t0⟩⟩ [⟨5,d.owner,0,false⟩] _ zwy62 zwy63).bad hS8 u) ?_)|(have:=b4;refine zZ 17 16 rfl zws zws zws zws zws ?_)|(have:=b5;refine zD ([]) zi rfl rfl rfl tH (yu (by first|rfl|assumption|simp [hC1,hC4]) 8) ?_)|refine zy rfl (aj (ps:=(yt g))) rfl rfl ?_|refine zq rfl (aj (ps:=(yt g))) rfl rfl ?_|(refine shC ?_;first|refine qC cb ?_|(have:=b4;refine zy rfl (zJ rfl rfl (zH (by first|rfl|assumption|simp [hC1,hC4]) 8)) rfl rfl ?_)|(have:=b4;refine zq rfl (zJ rfl rfl (zH (by first|rfl|assumption|simp [hC1,hC4]) 8)) rfl rfl ?_)|refine qC ck ?_|refine qC cA ?_)|(refine shX ?_;first|(have:=b6;refine zy rfl (ah hof hte) rfl rfl ?_)|(have:=b6;refine zq rfl (ah hof hte) rfl rfl ?_))|(have:=b7;refine zu ?_;first|(refine ay 0 (cm.ok em) ?_))|(have:=b3;refine zu ?_;first|(refine zx 0 zi rfl rfl ((Qc ⟨g,m,ar,⟨45,arg,t0⟩⟩ hF d.params _ zwy62).ok hS7) rfl rfl rfl rfl rfl ?_)|(refine ay 0 (cm.ok em) ?_))|(have:=b8;refine zu ?_;first|(refine zx 0 zi rfl rfl ((Qc ⟨g,m,ar,⟨45,arg,t0⟩⟩ hF d.params _ zwy62).ok hS7) rfl rfl rfl rfl rfl ?_)|(refine zx 0 zi rfl rfl ((zX ⟨g,m,ar,⟨45,arg,t0⟩⟩ [⟨5,d.owner,0,false⟩] _ zwy62 zwy63).ok hS8) rfl rfl rfl rfl rfl ?_)|(refine ay 0 (cm.ok em) ?_))|refine sK ?_|refine sC (fun _=>?_) (fun _=>?_)|exact zF hw|exact yc hw (yE (.inr rfl) tH)|fail)):G:=h
theorem ztu (g:Img) (hF:Fm g) (m:Me) (ar:List Ty) (arg:Int) (t0:Ty) (l:List Ty) (hl:l.length<=100) (h0:0<=arg) (h1:arg.toNat < g.methods.length) (hp:(mAt g arg).params.length<=100) (hof:0<=(mAt g arg).owner) (hot:(mAt g arg).owner.toNat < g.types.length):XC 127 [] (⟨g,m,ar,⟨45,arg,t0⟩⟩:RC) (qK g m ⟨45,arg,t0⟩) uV l:=by
 intro u;refine zI zf Tryz.func127 rfl zws Tryz.ntmps127 zwy63 _ rfl (fun gB hw1=>?_);have cm:XC 179 [] (⟨g,m,ar,⟨45,arg,t0⟩⟩:RC) (pure (mAt g arg):SM Me) (fun d=>.pv (zY d)) l:=zbw _ l h0 h1;have em:(pure (mAt g arg):SM Me) l=.ok (mAt g arg,l):=rfl;obtain ⟨d,hd⟩:∃ d,mAt g arg=d:=⟨_,rfl⟩
 rw [hd] at cm em hp hot hof;have ca:=Qs d 4;have cb:=Qs d 16;have cc:=Qs d 1;have ck:=QD g d.owner;have cA:=zca g d zwy62;cases hC1:(qU d.flags 16)
 ·rw [hC1] at cb;have hw:(qK g m ⟨45,arg,t0⟩) l=.error 8:=by simp [qK,hd,zA,zG,hC1,zO,emptyS]
  have b0:=();have b1:=();have b7:=();exact zwk43
 ·rw [hC1] at cb;have hte:(g.types.map Zx)[d.owner.toNat]?=some (Zx (tAt g d.owner)):=by rw [tAt,zQ hot];exact zT hot
  cases hC4:(qU (tAt g d.owner).flags 4)
  ·skip;have hC':(IntKind.i64.wrap ((BitVec.ofInt IntKind.i64.bits (tAt g d.owner).flags &&& BitVec.ofInt IntKind.i64.bits 4).toNat:Int)==0)=!false:=by rw [<-hC4,qU,bne,Bool.not_not]
   cases hS7:(ZG g d.params) l with
   | error e =>
    have hw:(qK g m ⟨45,arg,t0⟩) l=.error e:=by simp [qK,hd,zA,zG,hC1,hC4,zO,emptyS,hS7]
    have b2:=();have b4:=();have b6:=();have b7:=();exact zwk43
   | ok p =>
    obtain ⟨⟨⟩,l7⟩:=p;have hl7:l7.length<=100:=by have:=Vj hS7;omega
    cases hS8:(qg m.max [⟨5,d.owner,0,false⟩]) l7 with
    | error e =>
     have hw:(qK g m ⟨45,arg,t0⟩) l=.error e:=by simp [qK,hd,zA,zG,hC1,hC4,zO,emptyS,hS7,hS8]
     have b3:=();have b4:=();have b6:=();exact zwk43
    | ok p =>
     obtain ⟨⟨⟩,l8⟩:=p;have hw:(qK g m ⟨45,arg,t0⟩) l=.ok ((),l8):=by simp [qK,hd,zA,zG,hC1,hC4,zO,emptyS,hS7,hS8]
     have b4:=();have b6:=();have b8:=();exact zwk43
  ·skip;have hC':(IntKind.i64.wrap ((BitVec.ofInt IntKind.i64.bits (tAt g d.owner).flags &&& BitVec.ofInt IntKind.i64.bits 4).toNat:Int)==0)=!true:=by rw [<-hC4,qU,bne,Bool.not_not]
   have hw:(qK g m ⟨45,arg,t0⟩) l=.error 8:=by simp [qK,hd,zA,zG,hC1,hC4,zO,emptyS]
   have b0:=();have b5:=();have b6:=();have b7:=();exact zwk43
set_option maxHeartbeats 20000000
theorem zwk44 {G:Prop} (h:G:=by repeat' (first|(have:=b0;refine yZ 6 5 rfl zws zws zws zws zws ?_)|(have:=b0;refine zD ((yS u ⟨g,m,ar,⟨55,arg,t0⟩⟩ l)) zi rfl rfl rfl tH ((YB ⟨g,m,ar,⟨55,arg,t0⟩⟩ hF [rfT t0,t0] _ zwy62).bad hS1 u) ?_)|(have:=b1;refine zZ 6 5 rfl zws zws zws zws zws ?_)|refine zy rfl (aj (ps:=(yU t0))) rfl rfl ?_|refine zq rfl (aj (ps:=(yU t0))) rfl rfl ?_|(refine shC ?_;first|refine qC cr ?_)|(have:=b1;refine zu ?_;first|(refine zx 0 zi rfl rfl ((YB ⟨g,m,ar,⟨55,arg,t0⟩⟩ hF [rfT t0,t0] _ zwy62).ok hS1) rfl rfl rfl rfl rfl ?_))|refine sK ?_|refine sC (fun _=>?_) (fun _=>?_)|exact zF hw|exact yc hw (yE (.inr rfl) tH)|fail)):G:=h
theorem zrL (g:Img) (hF:Fm g) (m:Me) (ar:List Ty) (arg:Int) (t0:Ty) (l:List Ty) (hl:l.length<=100):XC 129 [] (⟨g,m,ar,⟨55,arg,t0⟩⟩:RC) (Zc g m ⟨55,arg,t0⟩) uV l:=by
 intro u;refine zI zf Tryz.func129 rfl zws Tryz.ntmps129 zwy63 _ rfl (fun gB hw1=>?_);have cr:=Yl t0;cases hS1:(ZG g [rfT t0,t0]) l with
 | error e =>
  have hw:(Zc g m ⟨55,arg,t0⟩) l=.error e:=by simp [Zc,zA,zG,hS1]
  have b0:=();exact zwk44
 | ok p =>
  obtain ⟨⟨⟩,l1⟩:=p;have hl1:l1.length<=100:=by have:=Vj hS1;omega
  have hw:(Zc g m ⟨55,arg,t0⟩) l=.ok ((),l1):=by simp [Zc,zA,zG,hS1]
  have b1:=();exact zwk44
theorem zwk45 {G:Prop} (h:G:=by repeat' (first|(have:=b0;refine zo 4 1 rfl rfl rfl ?_)|(have:=b0;refine zD ((yS u ⟨g,m,ar,⟨57,arg,t0⟩⟩ l)) zi rfl rfl rfl tH ((ZA ⟨g,m,ar,⟨57,arg,t0⟩⟩ _ h0 h1).bad hS1 u) ?_)|(have:=b1;refine zo 11 2 rfl rfl rfl ?_)|(have:=b1;refine zD ((yS u ⟨g,m,ar,⟨57,arg,t0⟩⟩ l1)) zi rfl rfl rfl tH ((qx ⟨g,m,ar,⟨57,arg,t0⟩⟩ hF (kTy 2) _ zwy62).bad hS2 u) ?_)|(have:=b2;refine zo 12 3 rfl rfl rfl ?_)|(have:=b2;refine zD ((yS u ⟨g,m,ar,⟨57,arg,t0⟩⟩ l2)) zi rfl rfl rfl tH ((zX ⟨g,m,ar,⟨57,arg,t0⟩⟩ [a] _ zwy62 zwy63).bad hS3 u) ?_)|refine zy rfl (aj (ps:=(yU t0))) rfl rfl ?_|refine zq rfl (aj (ps:=(yU t0))) rfl rfl ?_|(refine shC ?_;first|refine qC (zU 2) ?_)|(have:=b1;refine zu ?_;first|(refine zx 0 zi rfl rfl ((ZA ⟨g,m,ar,⟨57,arg,t0⟩⟩ _ h0 h1).ok hS1) rfl rfl rfl rfl rfl ?_))|(have:=b2;refine zu ?_;first|(refine zx 0 zi rfl rfl ((ZA ⟨g,m,ar,⟨57,arg,t0⟩⟩ _ h0 h1).ok hS1) rfl rfl rfl rfl rfl ?_)|(refine zx 0 zi rfl rfl ((qx ⟨g,m,ar,⟨57,arg,t0⟩⟩ hF (kTy 2) _ zwy62).ok hS2) rfl rfl rfl rfl rfl ?_))|(have:=b3;refine zu ?_;first|(refine zx 0 zi rfl rfl ((ZA ⟨g,m,ar,⟨57,arg,t0⟩⟩ _ h0 h1).ok hS1) rfl rfl rfl rfl rfl ?_)|(refine zx 0 zi rfl rfl ((qx ⟨g,m,ar,⟨57,arg,t0⟩⟩ hF (kTy 2) _ zwy62).ok hS2) rfl rfl rfl rfl rfl ?_)|(refine zx 0 zi rfl rfl ((zX ⟨g,m,ar,⟨57,arg,t0⟩⟩ [a] _ zwy62 zwy63).ok hS3) rfl rfl rfl rfl rfl ?_))|refine sK ?_|refine sC (fun _=>?_) (fun _=>?_)|exact zF hw|exact yc hw (yE (.inl rfl) tH)|fail)):G:=h
theorem zrN (g:Img) (hF:Fm g) (m:Me) (ar:List Ty) (arg:Int) (t0:Ty) (l:List Ty) (hl:l.length<=100) (h0:0<=t0.dims) (h1:t0.dims<=100):XC 130 [] (⟨g,m,ar,⟨57,arg,t0⟩⟩:RC) (yK g m ⟨57,arg,t0⟩) uV l:=by
 intro u;refine zI zf Tryz.func130 rfl zws Tryz.ntmps130 zwy63 _ rfl (fun gB hw1=>?_);cases hS1:(Vg ⟨57,arg,t0⟩) l with
 | error e =>
  have hw:(yK g m ⟨57,arg,t0⟩) l=.error e:=by simp [yK,zA,zG,hS1]
  have b0:=();exact zwk45
 | ok p =>
  obtain ⟨a,l1⟩:=p;have hl1:l1.length<=100:=by have:=zb9 hS1;omega
  cases hS2:(YG g (kTy 2)) l1 with
  | error e =>
   have hw:(yK g m ⟨57,arg,t0⟩) l=.error e:=by simp [yK,zA,zG,hS1,hS2]
   have b1:=();exact zwk45
  | ok p =>
   obtain ⟨⟨⟩,l2⟩:=p;have hl2:l2.length<=100:=by have:=VX hS2;omega
   cases hS3:(qg m.max [a]) l2 with
   | error e =>
    have hw:(yK g m ⟨57,arg,t0⟩) l=.error e:=by simp [yK,zA,zG,hS1,hS2,hS3]
    have b2:=();exact zwk45
   | ok p =>
    obtain ⟨⟨⟩,l3⟩:=p;have hw:(yK g m ⟨57,arg,t0⟩) l=.ok ((),l3):=by simp [yK,zA,zG,hS1,hS2,hS3]
    have b3:=();exact zwk45
theorem zwk46 {G:Prop} (h:G:=by repeat' (first|(have:=b0;refine zo 1 1 rfl rfl rfl ?_)|(have:=b0;refine zD ((yS u ⟨g,m,ar,⟨58,arg,t0⟩⟩ l)) zi rfl rfl rfl tH ((yx ⟨g,m,ar,⟨58,arg,t0⟩⟩ _ zwy62).bad hS1 u) ?_)|(have:=b1;refine zo 2 12 rfl rfl rfl ?_)|(have:=b2;refine zD ([]) zi rfl rfl rfl tH (yu zwy88 10) ?_)|(have:=b3;refine zD ([]) zi rfl rfl rfl tH (yu zwy118 10) ?_)|(have:=b4;refine zo 3 3 rfl rfl rfl ?_)|(have:=b5;refine zD ((yS u ⟨g,m,ar,⟨58,arg,t0⟩⟩ l1)) zi rfl rfl rfl tH ((zX ⟨g,m,ar,⟨58,arg,t0⟩⟩ [kTy 2] _ zwy62 zwy63).bad hS7 u) ?_)|(have:=b6;refine zD ((yS u ⟨g,m,ar,⟨58,arg,t0⟩⟩ l1)) zi rfl rfl rfl tH ((zX ⟨g,m,ar,⟨58,arg,t0⟩⟩ [kTy 2] _ zwy62 zwy63).bad hS6 u) ?_)|(refine shC ?_;first|(have:=b7;refine qC cx ?_)|(have:=b8;refine zy rfl (zJ rfl rfl (zH zwy118 10)) rfl rfl ?_)|(have:=b8;refine zq rfl (zJ rfl rfl (zH zwy118 10)) rfl rfl ?_)|(have:=b9;refine zy rfl (zJ rfl rfl (zH zwy93 10)) rfl rfl ?_)|(have:=b9;refine zq rfl (zJ rfl rfl (zH zwy93 10)) rfl rfl ?_)|refine qC (zU 2) ?_)|(have:=b10;refine zu ?_;first|(refine zx 0 zi rfl rfl ((yx ⟨g,m,ar,⟨58,arg,t0⟩⟩ _ zwy62).ok hS1) rfl rfl rfl rfl rfl ?_))|(have:=b11;refine zu ?_;first|(refine zx 0 zi rfl rfl ((yx ⟨g,m,ar,⟨58,arg,t0⟩⟩ _ zwy62).ok hS1) rfl rfl rfl rfl rfl ?_)|(refine zx 0 zi rfl rfl ((zX ⟨g,m,ar,⟨58,arg,t0⟩⟩ [kTy 2] _ zwy62 zwy63).ok hS7) rfl rfl rfl rfl rfl ?_))|(have:=b12;refine zu ?_;first|(refine zx 0 zi rfl rfl ((yx ⟨g,m,ar,⟨58,arg,t0⟩⟩ _ zwy62).ok hS1) rfl rfl rfl rfl rfl ?_)|(refine zx 0 zi rfl rfl ((zX ⟨g,m,ar,⟨58,arg,t0⟩⟩ [kTy 2] _ zwy62 zwy63).ok hS6) rfl rfl rfl rfl rfl ?_))|refine sK ?_|refine sC (fun _=>?_) (fun _=>?_)|exact zF hw|exact yc hw (yE (.inr rfl) tH)|fail)):G:=h
theorem zrJ (g:Img) (hF:Fm g) (m:Me) (ar:List Ty) (arg:Int) (t0:Ty) (l:List Ty) (hl:l.length<=100):XC 130 [] (⟨g,m,ar,⟨58,arg,t0⟩⟩:RC) (yK g m ⟨58,arg,t0⟩) uV l:=by
 intro u;refine zI zf Tryz.func130 rfl zws Tryz.ntmps130 zwy63 _ rfl (fun gB hw1=>?_);cases hS1:(Qj) l with
 | error e =>
  have hw:(yK g m ⟨58,arg,t0⟩) l=.error e:=by simp [yK,zA,zG,hS1]
  have b0:=();exact zwk46
 | ok p =>
  obtain ⟨t,l1⟩:=p;have hl1:l1.length<=100:=by have:=XZ hS1;omega
  have cx:=qY t;cases hC3:(object t)
  ·rw [hC3] at cx;have hw:(yK g m ⟨58,arg,t0⟩) l=.error 10:=by simp [yK,zA,zG,hS1,hC3,zO,emptyS]
   have b1:=();have b2:=();have b7:=();have b10:=();exact zwk46
  ·rw [hC3] at cx;cases hC4:(decide (0 < t.dims))
   ·skip;cases hC5:(t.kind==8)
    ·skip;have hw:(yK g m ⟨58,arg,t0⟩) l=.error 10:=by simp [yK,zA,zG,hS1,hC3,hC4,hC5,zO,emptyS]
     have b1:=();have b3:=();have b7:=();have b10:=();exact zwk46
    ·skip;cases hS7:(qg m.max [kTy 2]) l1 with
     | error e =>
      have hw:(yK g m ⟨58,arg,t0⟩) l=.error e:=by simp [yK,zA,zG,hS1,hC3,hC4,hC5,zO,emptyS,hS7]
      have b4:=();have b5:=();have b7:=();have b8:=();have b10:=();exact zwk46
     | ok p =>
      obtain ⟨⟨⟩,l7⟩:=p;have hw:(yK g m ⟨58,arg,t0⟩) l=.ok ((),l7):=by simp [yK,zA,zG,hS1,hC3,hC4,hC5,zO,emptyS,hS7]
      have b7:=();have b8:=();have b11:=();exact zwk46
   ·skip;cases hS6:(qg m.max [kTy 2]) l1 with
    | error e =>
     have hw:(yK g m ⟨58,arg,t0⟩) l=.error e:=by simp [yK,zA,zG,hS1,hC3,hC4,zO,emptyS,hS6]
     have b4:=();have b6:=();have b7:=();have b9:=();have b10:=();exact zwk46
    | ok p =>
     obtain ⟨⟨⟩,l6⟩:=p;have hw:(yK g m ⟨58,arg,t0⟩) l=.ok ((),l6):=by simp [yK,zA,zG,hS1,hC3,hC4,zO,emptyS,hS6]
     have b7:=();have b9:=();have b12:=();exact zwk46
theorem zwk47 {G:Prop} (h:G:=by repeat' (first|(have:=b0;refine zo 4 1 rfl rfl rfl ?_)|(have:=b0;refine zD ((yS u ⟨g,m,ar,⟨59,arg,t0⟩⟩ l)) zi rfl rfl rfl tH ((ZA ⟨g,m,ar,⟨59,arg,t0⟩⟩ _ h0 h1).bad hS1 u) ?_)|(have:=b1;refine yZ 5 4 rfl zws zws zws zws zws ?_)|(have:=b1;refine zD ((yS u ⟨g,m,ar,⟨59,arg,t0⟩⟩ l1)) zi rfl rfl rfl tH ((YB ⟨g,m,ar,⟨59,arg,t0⟩⟩ hF [a,kTy 2] _ zwy62).bad hS2 u) ?_)|(have:=b2;refine zo 8 7 rfl rfl rfl ?_)|(have:=b2;refine zD ((yS u ⟨g,m,ar,⟨59,arg,t0⟩⟩ l2)) zi rfl rfl rfl tH ((zX ⟨g,m,ar,⟨59,arg,t0⟩⟩ [t0] _ zwy62 zwy63).bad hS3 u) ?_)|(have:=b3;refine zZ 5 4 rfl zws zws zws zws zws ?_)|refine zy rfl (aj (ps:=(yU t0))) rfl rfl ?_|refine zq rfl (aj (ps:=(yU t0))) rfl rfl ?_|(refine shC ?_;first|refine qC (zU 2) ?_)|(have:=b1;refine zu ?_;first|(refine zx 0 zi rfl rfl ((ZA ⟨g,m,ar,⟨59,arg,t0⟩⟩ _ h0 h1).ok hS1) rfl rfl rfl rfl rfl ?_))|(have:=b2;refine zu ?_;first|(refine zx 0 zi rfl rfl ((ZA ⟨g,m,ar,⟨59,arg,t0⟩⟩ _ h0 h1).ok hS1) rfl rfl rfl rfl rfl ?_)|(refine zx 0 zi rfl rfl ((YB ⟨g,m,ar,⟨59,arg,t0⟩⟩ hF [a,kTy 2] _ zwy62).ok hS2) rfl rfl rfl rfl rfl ?_))|(have:=b4;refine zu ?_;first|(refine zx 0 zi rfl rfl ((ZA ⟨g,m,ar,⟨59,arg,t0⟩⟩ _ h0 h1).ok hS1) rfl rfl rfl rfl rfl ?_)|(refine zx 0 zi rfl rfl ((YB ⟨g,m,ar,⟨59,arg,t0⟩⟩ hF [a,kTy 2] _ zwy62).ok hS2) rfl rfl rfl rfl rfl ?_)|(refine zx 0 zi rfl rfl ((zX ⟨g,m,ar,⟨59,arg,t0⟩⟩ [t0] _ zwy62 zwy63).ok hS3) rfl rfl rfl rfl rfl ?_))|refine sK ?_|refine sC (fun _=>?_) (fun _=>?_)|exact zF hw|exact yc hw (yE (.inl rfl) tH)|fail)):G:=h
theorem zqV (g:Img) (hF:Fm g) (m:Me) (ar:List Ty) (arg:Int) (t0:Ty) (l:List Ty) (hl:l.length<=100) (h0:0<=t0.dims) (h1:t0.dims<=100):XC 130 [] (⟨g,m,ar,⟨59,arg,t0⟩⟩:RC) (yK g m ⟨59,arg,t0⟩) uV l:=by
 intro u;refine zI zf Tryz.func130 rfl zws Tryz.ntmps130 zwy63 _ rfl (fun gB hw1=>?_);cases hS1:(Vg ⟨59,arg,t0⟩) l with
 | error e =>
  have hw:(yK g m ⟨59,arg,t0⟩) l=.error e:=by simp [yK,zA,zG,hS1]
  have b0:=();exact zwk47
 | ok p =>
  obtain ⟨a,l1⟩:=p;have hl1:l1.length<=100:=by have:=zb9 hS1;omega
  cases hS2:(ZG g [a,kTy 2]) l1 with
  | error e =>
   have hw:(yK g m ⟨59,arg,t0⟩) l=.error e:=by simp [yK,zA,zG,hS1,hS2]
   have b1:=();exact zwk47
  | ok p =>
   obtain ⟨⟨⟩,l2⟩:=p;have hl2:l2.length<=100:=by have:=Vj hS2;omega
   cases hS3:(qg m.max [t0]) l2 with
   | error e =>
    have hw:(yK g m ⟨59,arg,t0⟩) l=.error e:=by simp [yK,zA,zG,hS1,hS2,hS3]
    have b2:=();have b3:=();exact zwk47
   | ok p =>
    obtain ⟨⟨⟩,l3⟩:=p;have hw:(yK g m ⟨59,arg,t0⟩) l=.ok ((),l3):=by simp [yK,zA,zG,hS1,hS2,hS3]
    have b3:=();have b4:=();exact zwk47
theorem zwk48 {G:Prop} (h:G:=by repeat' (first|(have:=b0;refine zo 4 1 rfl rfl rfl ?_)|(have:=b0;refine zD ((yS u ⟨g,m,ar,⟨60,arg,t0⟩⟩ l)) zi rfl rfl rfl tH ((ZA ⟨g,m,ar,⟨60,arg,t0⟩⟩ _ h0 h1).bad hS1 u) ?_)|(have:=b1;refine yZ 10 9 rfl zws zws zws zws zws ?_)|(have:=b1;refine zD ((yS u ⟨g,m,ar,⟨60,arg,t0⟩⟩ l1)) zi rfl rfl rfl tH ((YB ⟨g,m,ar,⟨60,arg,t0⟩⟩ hF [a,kTy 2,t0] _ zwy62).bad hS2 u) ?_)|(have:=b2;refine zZ 10 9 rfl zws zws zws zws zws ?_)|refine zy rfl (aj (ps:=(yU t0))) rfl rfl ?_|refine zq rfl (aj (ps:=(yU t0))) rfl rfl ?_|(refine shC ?_;first|refine qC (zU 2) ?_)|(have:=b1;refine zu ?_;first|(refine zx 0 zi rfl rfl ((ZA ⟨g,m,ar,⟨60,arg,t0⟩⟩ _ h0 h1).ok hS1) rfl rfl rfl rfl rfl ?_))|(have:=b2;refine zu ?_;first|(refine zx 0 zi rfl rfl ((ZA ⟨g,m,ar,⟨60,arg,t0⟩⟩ _ h0 h1).ok hS1) rfl rfl rfl rfl rfl ?_)|(refine zx 0 zi rfl rfl ((YB ⟨g,m,ar,⟨60,arg,t0⟩⟩ hF [a,kTy 2,t0] _ zwy62).ok hS2) rfl rfl rfl rfl rfl ?_))|refine sK ?_|refine sC (fun _=>?_) (fun _=>?_)|exact zF hw|exact yc hw (yE (.inl rfl) tH)|fail)):G:=h
theorem zqL (g:Img) (hF:Fm g) (m:Me) (ar:List Ty) (arg:Int) (t0:Ty) (l:List Ty) (hl:l.length<=100) (h0:0<=t0.dims) (h1:t0.dims<=100):XC 130 [] (⟨g,m,ar,⟨60,arg,t0⟩⟩:RC) (yK g m ⟨60,arg,t0⟩) uV l:=by
 intro u;refine zI zf Tryz.func130 rfl zws Tryz.ntmps130 zwy63 _ rfl (fun gB hw1=>?_);cases hS1:(Vg ⟨60,arg,t0⟩) l with
 | error e =>
  have hw:(yK g m ⟨60,arg,t0⟩) l=.error e:=by simp [yK,zA,zG,hS1]
  have b0:=();exact zwk48
 | ok p =>
  obtain ⟨a,l1⟩:=p;have hl1:l1.length<=100:=by have:=zb9 hS1;omega
  cases hS2:(ZG g [a,kTy 2,t0]) l1 with
  | error e =>
   have hw:(yK g m ⟨60,arg,t0⟩) l=.error e:=by simp [yK,zA,zG,hS1,hS2]
   have b1:=();exact zwk48
  | ok p =>
   obtain ⟨⟨⟩,l2⟩:=p;have hl2:l2.length<=100:=by have:=Vj hS2;omega
   have hw:(yK g m ⟨60,arg,t0⟩) l=.ok ((),l2):=by simp [yK,zA,zG,hS1,hS2]
   have b2:=();exact zwk48
theorem zwk49 {G:Prop} (h:G:=by repeat' (first|(have:=b0;refine zo 4 1 rfl rfl rfl ?_)|(have:=b0;refine zD ((yS u ⟨g,m,ar,⟨61,arg,t0⟩⟩ l)) zi rfl rfl rfl tH ((ZA ⟨g,m,ar,⟨61,arg,t0⟩⟩ _ h0 h1).bad hS1 u) ?_)|(have:=b1;refine yZ 5 4 rfl zws zws zws zws zws ?_)|(have:=b1;refine zD ((yS u ⟨g,m,ar,⟨61,arg,t0⟩⟩ l1)) zi rfl rfl rfl tH ((YB ⟨g,m,ar,⟨61,arg,t0⟩⟩ hF [a,kTy 2] _ zwy62).bad hS2 u) ?_)|(have:=b2;refine zo 9 8 rfl rfl rfl ?_)|(have:=b2;refine zD ((yS u ⟨g,m,ar,⟨61,arg,t0⟩⟩ l2)) zi rfl rfl rfl tH ((zX ⟨g,m,ar,⟨61,arg,t0⟩⟩ [rfT t0] _ zwy62 zwy63).bad hS3 u) ?_)|(have:=b3;refine zZ 5 4 rfl zws zws zws zws zws ?_)|refine zy rfl (aj (ps:=(yU t0))) rfl rfl ?_|refine zq rfl (aj (ps:=(yU t0))) rfl rfl ?_|(refine shC ?_;first|refine qC (zU 2) ?_|refine qC cr ?_)|(have:=b1;refine zu ?_;first|(refine zx 0 zi rfl rfl ((ZA ⟨g,m,ar,⟨61,arg,t0⟩⟩ _ h0 h1).ok hS1) rfl rfl rfl rfl rfl ?_))|(have:=b2;refine zu ?_;first|(refine zx 0 zi rfl rfl ((ZA ⟨g,m,ar,⟨61,arg,t0⟩⟩ _ h0 h1).ok hS1) rfl rfl rfl rfl rfl ?_)|(refine zx 0 zi rfl rfl ((YB ⟨g,m,ar,⟨61,arg,t0⟩⟩ hF [a,kTy 2] _ zwy62).ok hS2) rfl rfl rfl rfl rfl ?_))|(have:=b4;refine zu ?_;first|(refine zx 0 zi rfl rfl ((ZA ⟨g,m,ar,⟨61,arg,t0⟩⟩ _ h0 h1).ok hS1) rfl rfl rfl rfl rfl ?_)|(refine zx 0 zi rfl rfl ((YB ⟨g,m,ar,⟨61,arg,t0⟩⟩ hF [a,kTy 2] _ zwy62).ok hS2) rfl rfl rfl rfl rfl ?_)|(refine zx 0 zi rfl rfl ((zX ⟨g,m,ar,⟨61,arg,t0⟩⟩ [rfT t0] _ zwy62 zwy63).ok hS3) rfl rfl rfl rfl rfl ?_))|refine sK ?_|refine sC (fun _=>?_) (fun _=>?_)|exact zF hw|exact yc hw (yE (.inl rfl) tH)|fail)):G:=h
theorem zrV (g:Img) (hF:Fm g) (m:Me) (ar:List Ty) (arg:Int) (t0:Ty) (l:List Ty) (hl:l.length<=100) (h0:0<=t0.dims) (h1:t0.dims<=100):XC 130 [] (⟨g,m,ar,⟨61,arg,t0⟩⟩:RC) (yK g m ⟨61,arg,t0⟩) uV l:=by
 intro u;refine zI zf Tryz.func130 rfl zws Tryz.ntmps130 zwy63 _ rfl (fun gB hw1=>?_);have cr:=Yl t0;cases hS1:(Vg ⟨61,arg,t0⟩) l with
 | error e =>
  have hw:(yK g m ⟨61,arg,t0⟩) l=.error e:=by simp [yK,zA,zG,hS1]
  have b0:=();exact zwk49
 | ok p =>
  obtain ⟨a,l1⟩:=p;have hl1:l1.length<=100:=by have:=zb9 hS1;omega
  cases hS2:(ZG g [a,kTy 2]) l1 with
  | error e =>
   have hw:(yK g m ⟨61,arg,t0⟩) l=.error e:=by simp [yK,zA,zG,hS1,hS2]
   have b1:=();exact zwk49
  | ok p =>
   obtain ⟨⟨⟩,l2⟩:=p;have hl2:l2.length<=100:=by have:=Vj hS2;omega
   cases hS3:(qg m.max [rfT t0]) l2 with
   | error e =>
    have hw:(yK g m ⟨61,arg,t0⟩) l=.error e:=by simp [yK,zA,zG,hS1,hS2,hS3]
    have b2:=();have b3:=();exact zwk49
   | ok p =>
    obtain ⟨⟨⟩,l3⟩:=p;have hw:(yK g m ⟨61,arg,t0⟩) l=.ok ((),l3):=by simp [yK,zA,zG,hS1,hS2,hS3]
    have b3:=();have b4:=();exact zwk49
set_option maxHeartbeats 20000000
theorem zwk50 {G:Prop} (h:G:=by repeat' (first|(have:=b0;refine zo 5 3 rfl rfl rfl ?_)|(have:=b0;refine zD ((yS u ⟨g,m,ar,⟨54,arg,t0⟩⟩ l1)) zi rfl rfl rfl tH (cq.bad hq u) ?_)|refine YA 6 5 1 ((1,.cell (.pv (yJ t0)))::zhs u) ⟨g,m,ar,⟨54,arg,t0⟩⟩ l l1 (tV t) none rfl zws zws zws zws zws rfl zws rfl rfl tH rfl rfl (fun v hv=>by cases hv) ?_|refine ⟨⟨rfl,za1 cp hp rfl rfl rfl rfl rfl rfl⟩,?_⟩|refine zy rfl (aj (ps:=(yU t0))) rfl rfl ?_|refine zq rfl (aj (ps:=(yU t0))) rfl rfl ?_|intro _|(have:=b1;refine zD [] zi rfl rfl rfl tH (yu hn 10) ?_)|(have:=b2;refine Vy ?_)|(refine shC ?_;first|refine qC cr ?_|(have:=b2;refine qC (zH hn 10) ?_))|(have:=b3;refine zu ?_;first|(refine ay 0 (cq.ok hq) ?_))|refine sK ?_|refine sC (fun _=>?_) (fun _=>?_)|exact zF hw|exact yc hw (yE (.inl rfl) tH)|fail)):G:=h
theorem zqF (g:Img) (hF:Fm g) (m:Me) (ar:List Ty) (arg:Int) (t0:Ty) (l:List Ty) (hl:l.length<=100):XC 129 [] (⟨g,m,ar,⟨54,arg,t0⟩⟩:RC) (Zc g m ⟨54,arg,t0⟩) uV l:=by
 intro u;refine zI zf Tryz.func129 rfl zws Tryz.ntmps129 zwy63 _ rfl (fun gB hw1=>?_);have cr:=Yl t0;have cp:=yx ⟨g,m,ar,⟨54,arg,t0⟩⟩ l zwy62;rcases YE l with hp|⟨t,l1,hp,_⟩
 ·have hw:(Zc g m ⟨54,arg,t0⟩) l=.error 9:=by simp [Zc,zA,hp]
  repeat' (first|refine YA 6 5 1 ((1,.cell (.pv (yJ t0)))::zhs u) ⟨g,m,ar,⟨54,arg,t0⟩⟩ l l (tV t0) (some (flt 9)) rfl zws zws zws zws zws rfl zws rfl rfl tH rfl rfl (fun v hv=>by cases hv;exact zF hw) ?_|refine ⟨⟨rfl,zgj (u:=u) cp hp rfl rfl tH rfl⟩,?_⟩|refine zy rfl (aj (ps:=(yU t0))) rfl rfl ?_|refine zq rfl (aj (ps:=(yU t0))) rfl rfl ?_|(intro h;cases h)|(refine shC ?_;first|refine qC cr ?_)|refine sK ?_|refine sC (fun _=>?_) (fun _=>?_)|fail)
 ·have hl1:l1.length<=100:=by have:=XZ hp;omega
  cases hn:tyB t (rfT t0)
  ·have hw:(Zc g m ⟨54,arg,t0⟩) l=.error 10:=by simp [Zc,zA,hp,zO,hn]
   have b1:=();exact zwk50
  ·have cq:=zX ⟨g,m,ar,⟨54,arg,t0⟩⟩ [t0] l1 zwy62 zwy63;cases hq:(qg m.max [t0]) l1 with
   | error e =>
    have hw:(Zc g m ⟨54,arg,t0⟩) l=.error e:=by simp [Zc,zA,hp,zO,hn,hq]
    have b0:=();have b2:=();exact zwk50
   | ok p =>
    obtain ⟨⟨⟩,l2⟩:=p;have hw:(Zc g m ⟨54,arg,t0⟩) l=.ok ((),l2):=by simp [Zc,zA,hp,zO,hn,hq]
    have b2:=();have b3:=();exact zwk50
theorem zwk51 {G:Prop} (h:G:=by repeat' (first|refine YA 6 5 1 ((1,.cell (.pv (yJ t0)))::zhs u) ⟨g,m,ar,⟨56,arg,t0⟩⟩ l l1 (tV t) none rfl zws zws zws zws zws rfl zws rfl rfl tH rfl rfl (fun v hv=>by cases hv) ?_|refine ⟨⟨rfl,za1 cp hp rfl rfl rfl rfl rfl rfl⟩,?_⟩|refine zy rfl (aj (ps:=(yU t0))) rfl rfl ?_|refine zq rfl (aj (ps:=(yU t0))) rfl rfl ?_|intro _|(have:=b0;refine zD [] zi rfl rfl rfl tH (yu hn 10) ?_)|(have:=b1;refine Vy ?_)|(refine shC ?_;first|refine qC cr ?_|(have:=b1;refine qC (zH hn 10) ?_))|refine sK ?_|refine sC (fun _=>?_) (fun _=>?_)|exact zF hw|exact yc hw (yE (.inl rfl) tH)|fail)):G:=h
theorem zr7 (g:Img) (hF:Fm g) (m:Me) (ar:List Ty) (arg:Int) (t0:Ty) (l:List Ty) (hl:l.length<=100):XC 129 [] (⟨g,m,ar,⟨56,arg,t0⟩⟩:RC) (Zc g m ⟨56,arg,t0⟩) uV l:=by
 intro u;refine zI zf Tryz.func129 rfl zws Tryz.ntmps129 zwy63 _ rfl (fun gB hw1=>?_);have cr:=Yl t0;have cp:=yx ⟨g,m,ar,⟨56,arg,t0⟩⟩ l zwy62;rcases YE l with hp|⟨t,l1,hp,_⟩
 ·have hw:(Zc g m ⟨56,arg,t0⟩) l=.error 9:=by simp [Zc,zA,hp]
  repeat' (first|refine YA 6 5 1 ((1,.cell (.pv (yJ t0)))::zhs u) ⟨g,m,ar,⟨56,arg,t0⟩⟩ l l (tV t0) (some (flt 9)) rfl zws zws zws zws zws rfl zws rfl rfl tH rfl rfl (fun v hv=>by cases hv;exact zF hw) ?_|refine ⟨⟨rfl,zgj (u:=u) cp hp rfl rfl tH rfl⟩,?_⟩|refine zy rfl (aj (ps:=(yU t0))) rfl rfl ?_|refine zq rfl (aj (ps:=(yU t0))) rfl rfl ?_|(intro h;cases h)|(refine shC ?_;first|refine qC cr ?_)|refine sK ?_|refine sC (fun _=>?_) (fun _=>?_)|fail)
 ·have hl1:l1.length<=100:=by have:=XZ hp;omega
  cases hn:tyB t (rfT t0)
  ·have hw:(Zc g m ⟨56,arg,t0⟩) l=.error 10:=by simp [Zc,zA,hp,zO,hn]
   have b0:=();exact zwk51
  ·have hw:(Zc g m ⟨56,arg,t0⟩) l=.ok ((),l1):=by simp [Zc,zA,zG,hp,zO,hn]
   have b1:=();exact zwk51
set_option maxHeartbeats 20000000
theorem zfv {tb:Tab} {rs:List ResultVar} {i t:Nat} {H' H:HEnv} {env:Env} (hr:rs=[.tmp t]) (hg:env.get t=some (.own i)) (hf:QM H H' [(t,.own i)]):zi3 tb rs (.own i) H' .ret env H:=⟨.inr rfl,.inr ⟨t,hr,hg,hf⟩⟩
theorem zlc (l:List TD) (hl:l.length<=1000):ACallM Tryz.prog 40 [.pv (.slc 4 (l.map Zx) false)] [] (.own 10) [(10,.mrow 55 4 (l.map Zx))]:=by
 refine Zk zf Tryz.func40 rfl zws Tryz.ntmps40 zwy63 _ rfl (fun gB hw1=>?_)
 repeat' (first|refine zhg (t:=2) 10 55 4 zwy69 rfl rfl ?_|refine WJ zf rfl rfl rfl rfl rfl rfl rfl (fun bb hbb=>?_)|refine zke zf 10 rfl rfl rfl rfl rfl rfl rfl rfl rfl ?_|refine znU 10 rfl ?_|(refine yw ?_;first|refine Qy zf rfl rfl rfl rfl rfl rfl rfl (by show _ * 56<=_;simp;omega) zwy64 rfl rfl ?_)|refine sA ?_|refine sC (fun _=>?_) (fun _=>?_)|fail)
 ·rename_i h;rw [hbb h];exact zfv rfl rfl tH
 ·exact zfv rfl rfl tH
theorem zlt (l:List Me) (hl:l.length<=1000):ACallM Tryz.prog 42 [.pv (.slc 12 (l.map zY) false)] [] (.own 12) [(12,.mrow 36 12 (l.map zY))]:=by
 refine Zk zf Tryz.func42 rfl zws Tryz.ntmps42 zwy63 _ rfl (fun gB hw1=>?_)
 repeat' (first|refine zhg (t:=2) 12 36 12 zwy69 rfl rfl ?_|refine WJ zf rfl rfl rfl rfl rfl rfl rfl (fun bb hbb=>?_)|refine zke zf 12 rfl rfl rfl rfl rfl rfl rfl rfl rfl ?_|refine znU 12 rfl ?_|(refine yw ?_;first|refine Qy zf rfl rfl rfl rfl rfl rfl rfl (by show _ * 168<=_;simp;omega) zwy64 rfl rfl ?_)|refine sA ?_|refine sC (fun _=>?_) (fun _=>?_)|fail)
 ·rename_i h;rw [hbb h];exact zfv rfl rfl tH
 ·exact zfv rfl rfl tH
theorem zlp (l:List Fd) (hl:l.length<=1000):ACall Tryz.prog 41 [.slc 7 (l.map ZI) false] (.slc 7 (l.map ZI) false):=by
 refine zh zf Tryz.func41 rfl zws Tryz.ntmps41 zwy63 _ rfl (fun hw gB hgB=>?_)
 repeat' (first|refine WJ zf rfl rfl rfl rfl rfl rfl rfl (fun bb hbb=>?_)|refine zy rfl (WT zf rfl rfl rfl rfl rfl) rfl rfl ?_|(refine yw ?_;first|refine zy rfl (Xi zf rfl rfl (.inl rfl) rfl rfl (by show _ * 64<=_;simp;omega) zwy64) rfl rfl ?_)|refine sA ?_|refine sC (fun _=>?_) (fun _=>?_)|fail)
 ·rename_i h;have:l=[]:=by have:=hbb h;simpa using this
  subst this;exact zbX (t:=2) (ps:=[.slc 7 [] false]) rfl (QX 7 false) rfl rfl
 ·exact retq rfl rfl
theorem zkP (l:List Int) (hl:l.length<=1000):ACall Tryz.prog 43 [.slc 1 (l.map pi) false] (.slc 1 (l.map pi) false):=by
 refine zh zf Tryz.func43 rfl zws Tryz.ntmps43 zwy63 _ rfl (fun hw gB hgB=>?_)
 repeat' (first|refine WJ zf rfl rfl rfl rfl rfl rfl rfl (fun bb hbb=>?_)|refine zy rfl (WT zf rfl rfl rfl rfl rfl) rfl rfl ?_|(refine yw ?_;first|refine zy rfl (Xi zf rfl rfl (.inl rfl) rfl rfl zwy73 zwy64) rfl rfl ?_)|refine sA ?_|refine sC (fun _=>?_) (fun _=>?_)|fail)
 ·rename_i h;have:l=[]:=by have:=hbb h;simpa using this
  subst this;exact zbX (t:=2) (ps:=[.slc 1 [] false]) rfl (QX 1 false) rfl rfl
 ·exact retq rfl rfl
theorem zjB (l:List Ins) (hl:l.length<=1000):ACall Tryz.prog 45 [.slc 6 (l.map ql) false] (.slc 6 (l.map ql) false):=by
 refine zh zf Tryz.func45 rfl zws Tryz.ntmps45 zwy63 _ rfl (fun hw gB hgB=>?_)
 repeat' (first|refine WJ zf rfl rfl rfl rfl rfl rfl rfl (fun bb hbb=>?_)|refine zy rfl (WT zf rfl rfl rfl rfl rfl) rfl rfl ?_|(refine yw ?_;first|refine zy rfl (Xi zf rfl rfl (.inl rfl) rfl rfl (by show _ * 48<=_;simp;omega) zwy64) rfl rfl ?_)|refine sA ?_|refine sC (fun _=>?_) (fun _=>?_)|fail)
 ·rename_i h;have:l=[]:=by have:=hbb h;simpa using this
  subst this;exact zbX (t:=2) (ps:=[.slc 6 [] false]) rfl (QX 6 false) rfl rfl
 ·exact retq rfl rfl
theorem zlR (l:List Cl) (hl:l.length<=1000):ACall Tryz.prog 46 [.slc 10 (l.map qN) false] (.slc 10 (l.map qN) false):=by
 refine zh zf Tryz.func46 rfl zws Tryz.ntmps46 zwy63 _ rfl (fun hw gB hgB=>?_)
 repeat' (first|refine WJ zf rfl rfl rfl rfl rfl rfl rfl (fun bb hbb=>?_)|refine zy rfl (WT zf rfl rfl rfl rfl rfl) rfl rfl ?_|(refine yw ?_;first|refine zy rfl (Xi zf rfl rfl (.inl rfl) rfl rfl (by show _ * 80<=_;simp;omega) zwy64) rfl rfl ?_)|refine sA ?_|refine sC (fun _=>?_) (fun _=>?_)|fail)
 ·rename_i h;have:l=[]:=by have:=hbb h;simpa using this
  subst this;exact zbX (t:=2) (ps:=[.slc 10 [] false]) rfl (QX 10 false) rfl rfl
 ·exact retq rfl rfl
end Go.Cg
