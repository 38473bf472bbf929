/- A part of the walks by abstract values: no statement of its own. -/
import Derived.Test.YtdbgicaoddibdaaGreatT15
import Derived.Test.YtdbgicaoddibdaaGreatT24
import Derived.Test.YtdbgicaoddibdaaGreatT16
import Derived.Test.YtdbgicaoddibdaaGreatT22
import Derived.Test.YtdbgicaoddibdaaGreatT9
import Derived.Test.YtdbgicaoddibdaaGreatT29
set_option linter.unusedVariables false
set_option linter.unusedSimpArgs false
namespace Go.Cg
open Go.RowKit
section
variable {P:Program} {tb:Tab} {n:Nat} {g:Base} {K:KK} {w:World} {ρ:Nat→Value} {H H0 H1 N N1:HEnv} {env:Env} {a:Act} {o:Oper} {r:AV} {c:Code} {QQ:QC} {ops l rest:List Oper} {Q:Env→HEnv→Prop}
theorem zum (htb:yR P tb) {ty e:Nat} {x y:Operand} {i:Nat} (j:Nat) {sz:Nat} {es xs:List PV} {full:Bool}
  (hop:o.op=.call { callee:=.builtin .append,args:=#[x,y],argTypes:=#[ty,ty] }) (hk:tb.k ty=.sl e) (hx:env.val x=some (.own i)) (hi:H.get i=some (.mrow e sz es)) (hj:H.get j=none) (hy:env.pv H y=some (.slc sz xs full))
  (hzz:(match tb.get e with|some ti=>(match ti.zero with|some z=>ti.size==sz&&z.cells.size==sz|none=>false)|none=>false)=true)
  (hbound:(es.length + xs.length) * (match tb.get e with|some ti=>ti.bytes|none=>0)≤140737488355328) (hb2:es.length + xs.length≤140737488355328) :
  EStepN P g H ((j,.mrow e sz (es++xs))::(i,.dead)::H) H ((j,.mrow e sz (es++xs))::(i,.dead)::H) o env (.own j) none:=by
 refine ⟨fun K ρ a w hf hv=>.inr ⟨rfl,?_⟩⟩;obtain ⟨v',w',K',hrun,hlat,hf'⟩:=zpS (a:=a) true htb hop hk hx hi hj hy hzz hbound hb2 hf hv;refine ⟨v',w',K',_,.inl hrun,hf',hlat,fun k hk=>?_,?_⟩
 ·have hne:k≠j:=by rintro rfl;simp [hj] at hk
  simp [hne]
 ·have:=ARel.own (K:=K') (w:=w') (ρ:=fun k=>if k=j then v' else ρ k) (H:=(j,HE.mrow e sz (es++xs))::(i,.dead)::H) j zwy94;simpa using this
theorem zqe (t j:Nat) {u:Value} {av:AV} (hg:env.get t=some (.pv (.base u))) (hj:H.get j=some (.pin av u)) (h:QStep P g H o ((t,av)::env) r):QStep P g H o env r:=by
 refine ⟨fun K ρ a w hf hv=>h.go K ρ a w hf fun x hx av' hav=>?_⟩;by_cases hxt:x=.tmp t
 ·subst hxt;have e1:Env.val ((t,av)::env) (.tmp t)=some av:=by simp [Env.val,Env.get_cons]
  rw [e1,Option.some.injEq] at hav;subst hav;have h1:=hv (.tmp t) hx (.pv (.base u)) hg;have h2:=hf.heap.ok j _ hj;generalize a.eval (.tmp t)=v at h1 ⊢;cases h1 with
  | pv _ _ hp=>cases hp;exact h2
 ·refine hv x hx av' ?_;cases x with
  | tmp t' =>
   have:t≠t':=fun e=>hxt (by rw [e])
   simpa [Env.val,Env.get_cons,this] using hav
  | _=>exact hav
theorem zhj {a:Act} {K:KK} {w:World} {ρ:Nat→Value} {ty e:TypeId} {x y:Operand} {sz:Nat} {es xs:List PV} {full:Bool} (i:Nat) (htb:yR P tb) (hop:o.op=.call { callee:=.builtin .append,args:=#[x,y],argTypes:=#[ty,ty] }) (hk:tb.k ty=.sl e)
  (hx:env.pv H x=some (.slc sz es true)∨(es=[]∧env.pv H x=some (.base (.slice none 0 0)))) (hy:env.pv H y=some (.slc sz xs full)) (hx0:0 < xs.length)
  (hzz:(match tb.get e with|some ti=>(match ti.zero with|some z=>ti.size==sz&&z.cells.size==sz&&Nat.blt 0 sz|none=>false)|none=>false)=true)
  (hbound:(es.length + xs.length) * (match tb.get e with|some ti=>ti.bytes|none=>0)≤140737488355328) (hb2:es.length + xs.length≤140737488355328) (hi:H.get i=none)
  (hf:FS g K ρ H w) (hv:∀ z∈o.op.operands,∀ av,env.val z=some av→ARel K w ρ H av (a.eval z)) :
  ∃ v' w' K',(execOp a.eval o).run P w=.ok (.value v') w'∧Later K K' w w'∧FS g K' (fun j=>if j=i then v' else ρ j) ((i,.mrow e sz (es++xs))::H) w':=by
 have hvx:∀ av,env.val x=some av→ARel K w ρ H av (a.eval x):=hv x zwy70;have hvy:∀ av,env.val y=some av→ARel K w ρ H av (a.eval y):=hv y zwy70;cases hti:tb.get e with
 | none=>simp [hti] at hzz
 | some ti =>
  cases hz:ti.zero with
  | none=>simp [hti,hz] at hzz
  | some z =>
   simp only [hti,hz,Bool.and_eq_true,beq_iff_eq] at hzz hbound;obtain ⟨⟨z1,z2⟩,z3⟩:=hzz;have hsz:0 < sz:=Nat.le_of_ble_eq_true z3;obtain ⟨tin,q1,q2,q3,q4,_⟩:=ZJ htb hti;have hyr:=qc (a:=a) hf (x:=y) hvy hy;obtain ⟨news,n1,n2,n3,n4,n5⟩:=Wj hyr;have hxr:PRel K w (.slc sz es true) (a.eval x):=by
    rcases hx with hx|⟨rfl,hx⟩
    ·exact qc (a:=a) hf (x:=x) hvx hx
    ·have:=qc (a:=a) hf (x:=x) hvx hx;generalize a.eval x=xv at this ⊢;cases this;exact .nil sz true
   obtain ⟨us,m1,m2,m3,m4,m5⟩:=Wj hxr;have hall:(us++news).length=(es.length + xs.length) * sz:=by rw [List.length_append,m1,n1,Nat.add_mul]
   have hone:∀ v∈us++news,v.oneCell'=true:=fun v hv'=>(List.mem_append.1 hv').elim (m3 v) (n3 v)
   have hcr:=m4.append m1 n4;have hsmall:es.length + xs.length≤9223372036854775807:=by omega
   have hrun0:∀ {v':Value} {w':World},(Builtin.append_ #[ty,ty] o.type #[a.eval x,a.eval y]).run P w=.ok v' w'→(execOp a.eval o).run P w=.ok (.value v') w':=by
    intro v' w' h;simp [execOp,hop,resolve,invoke,builtin,h]
   have hns:tin.size=sz:=by omega
   obtain ⟨cap,arr,hc1,hc2,hsize,htake,hrun⟩:∃ (cap:Nat) (arr:Array Value),es.length + xs.length≤cap∧cap≤maxLen∧arr.size=cap * sz∧arr.toList.take ((es.length + xs.length) * sz)=us++news ∧
     (execOp a.eval o).run P w=.ok (.value (.slice (some ⟨w.heap.size,0,none⟩) (es.length + xs.length) cap)) (w.drew.alloc (.cells arr e)):=by
    rcases n2 with ⟨hy0,hxl⟩|⟨ad',c',hy1,hy2,_,hxc⟩
    ·omega
    ·rcases m2 with ⟨e1,hel⟩|⟨ad1,c1,e1,e2,hfull,hle⟩
     ·have hes:es=[]:=List.eq_nil_of_length_eq_zero hel;subst hes;have hus:us=[]:=List.eq_nil_of_length_eq_zero (by simpa using m1);subst hus;have hr:=run_append_nil (P:=P) w ty o.type e tin z (qY htb hk) q1 zwy108 ad' xs.length c' news zwy119 hy2 zwy62 (by simp at hsmall;omega) (by rw [q3];simp at hbound;omega);refine ⟨grownCap w xs.length 0 e,news.toArray++Builtin.zeroCells z.cells (grownCap w xs.length 0 e - xs.length),by simpa using grownCap_ge w xs.length 0 e,grownCap_le_maxLen w _ _ e (by unfold maxLen;simp at hsmall;omega),?_,?_,?_⟩
      ·have:=grownCap_ge w xs.length 0 e;simp only [Array.size_append,List.size_toArray,size_zeroCells,n1,z2];rw [←Nat.add_mul];first|done|(congr 1;omega)
      ·rw [Array.toList_append];simp only [List.length_nil,Nat.zero_add,List.nil_append];rw [←n1,List.take_left' rfl]
      ·rw [hrun0 zwy106];simp
     ·have hc1:c1=es.length:=hfull rfl;subst hc1;have hr:=run_append_grow (P:=P) w ty o.type e tin z (qY htb hk) q1 zwy108 ad1 es.length es.length us (by rw [hns];exact m1) e2 ad' xs.length c' news zwy119 hy2 zwy62 zwy62 (growslice_fits zwy62 (by rw [q3];exact hbound));refine ⟨grownCap w (es.length + xs.length) es.length e,us.toArray++news.toArray++Builtin.zeroCells z.cells (grownCap w (es.length + xs.length) es.length e - (es.length + xs.length)),grownCap_ge w _ _ e,grownCap_le_maxLen w _ _ e zwy110,?_,?_,?_⟩
      ·have:=grownCap_ge w (es.length + xs.length) es.length e;simp only [Array.size_append,List.size_toArray,size_zeroCells,n1,m1,z2];rw [←Nat.add_mul,←Nat.add_mul];first|done|(congr 1;omega)
      ·rw [Array.toList_append,Array.toList_append];rw [←hall,List.take_left' zwy63]
      ·rw [hrun0 zwy106]
   have hevd:Evo K K w w.drew:=(Evo.refl hf.lt).drew;have h4:=zah (w:=w.drew) hevd.lt arr e 0;have h3:Evo K K w.drew (w.drew.alloc (.cells arr e)):=⟨h4.below,fun _ _ h=>h,fun _ _ h=>.inl h,fun b o h=>h4.lt b o (h4.sub b o h)⟩
   have hev:=hevd.trans h3;have hlat:=hev.later hf.lt;have hds:w.drew.heap.size=w.heap.size:=rfl;refine ⟨_,_,_,hrun,hlat,hf.fresh hev hi ⟨us++news,⟨?_,.inr ⟨w.heap.size,cap,arr,?_,hf.below.size,?_,?_,hc2,hsize,?_⟩⟩,hsz,?_,?_⟩ ?_⟩
   ·rw [hall,List.length_append]
   ·simp
   ·have:=heap_alloc_new w.drew (.cells arr e);rw [hds] at this;exact this
   ·rw [List.length_append];exact hc1
   ·rw [List.length_append];exact htake
   ·intro k e' he';obtain ⟨r1,r2⟩:=hcr k e' he';exact ⟨r1,fun k c hc=>let ⟨v,e1,e2,e3⟩:=r2 k c hc;⟨v,e1,e2,e3.later hlat⟩⟩
   ·intro b hb o' h;simp [Value.ownBlock] at hb;have:=hf.lt _ _ h;omega
   ·intro b hb;simp [yj] at hb;omega
theorem zcM {ty e:TypeId} {x y:Operand} {sz d:Nat} {es xs:List PV} {full:Bool} (i:Nat) (htb:yR P tb) (hg:guardE ops env o=some true) (hop:o.op=.call { callee:=.builtin .append,args:=#[x,y],argTypes:=#[ty,ty] }) (hk:tb.k ty=.sl e)
  (hx:env.pv H x=some (.slc sz es true)∨(es=[]∧env.pv H x=some (.base (.slice none 0 0)))) (hy:env.pv H y=some (.slc sz xs full)) (hx0:0 < xs.length)
  (hzz:(match tb.get e with|some ti=>(match ti.zero with|some z=>ti.size==sz&&z.cells.size==sz&&Nat.blt 0 sz|none=>false)|none=>false)=true)
  (hbound:(es.length + xs.length) * (match tb.get e with|some ti=>ti.bytes|none=>0)≤140737488355328) (hb2:es.length + xs.length≤140737488355328) (hi:H.get i=none) (hd:o.dst=some d) (ht:Nat.blt d n=true)
  (h:AO P n g ops.toArray rest ((d,.own i)::env) ((i,.mrow e sz (es++xs))::H) Q):AO P n g ops.toArray (o::rest) env H Q:=by
 refine ⟨fun a w hinv=>?_⟩;have hw:=yT hinv hg;obtain ⟨h1,h2,K,ρ,hf,he⟩:=hinv;refine wpList_step fun KK hKK=>?_
 rw [if_pos hw];obtain ⟨v',w',K',hrun,hlat,hf'⟩:=zhj (a:=a) i htb hop hk hx hy hx0 hzz hbound hb2 hi hf (fun z _ av hz=>qA he hz);unfold Oper.wp;rw [hrun];simp only [Oper.upon];refine hKK _ _ (h.go _ _ ⟨qW h1,put_defers h2,_,_,hf',?_⟩);rw [hd];refine Zo h1 ht (he.keeps hlat (Za hi _ _)) ?_;have:=ARel.own (K:=K') (w:=w') (ρ:=fun j=>if j=i then v' else ρ j) (H:=(i,HE.mrow e sz (es++xs))::H) i zwy94;simpa using this
end
section
variable {P:Program} {n:Nat} {g:Base} {H:HEnv} {env:Env} {ops l:List Oper} {Q:Env→HEnv→Prop}
theorem zq7 (t j:Nat) {u:Value} {av:AV} (hg:env.get t=some (.pv (.base u))) (hj:H.get j=some (.pin av u)) (k:AO P n g ops.toArray l ((t,av)::env) H Q):AO P n g ops.toArray l env H Q:=by
 refine ⟨fun a w hinv=>?_⟩;obtain ⟨g1,g2,K,ρ,hf,he⟩:=hinv;refine k.go a w ⟨g1,g2,K,ρ,hf,fun t' av' h'=>?_⟩;rw [Env.get_cons] at h';split at h'
 ·rename_i e;subst e;simp only [Option.some.injEq] at h';subst h';obtain ⟨v,v1,v2⟩:=he _ _ hg;cases v2 with
  | pv _ _ hp =>
   cases hp;exact ⟨u,v1,hf.heap.ok j _ hj⟩
 ·exact he t' av' h'
end
end Go.Cg
namespace Go.Cg
open Go.Proofs
set_option maxHeartbeats 1000000 in
theorem znE (g:Img) (m:Me) (hm:ClOk m):ACall Tryz.prog 66 [Xe g m] (pb (zex m)):=by
 have cc:ACall Tryz.prog 108 [cls m.clauses,pi 0] (rgs (qM m.clauses 0)):=zeo m.clauses 0 hm.n (hm.s 0);have cf:=zec (qM m.clauses 0) (fun r=>r.p != 1||(clV m r).tf != 0) 109 [] [.ptr (Xe g m) 0] (fun r hr=>zlk g m r (zlo hr).1 (zlo hr).2);refine zi zf Tryz.func66 rfl zws Tryz.ntmps66 zwy63 _ rfl (fun hw gB hgB=>?_);rw [zex];generalize (qM m.clauses 0).any (fun r=>r.p != 1||(clV m r).tf != 0)=b at cf ⊢
 repeat' (first|(refine shC ?_;first|refine qC cc ?_|refine qC cf ?_)|refine sK ?_|refine sC (fun _=>?_) (fun _=>?_)|fail)
 exact retq rfl rfl
end Go.Cg
