/- A part of the walks by abstract values: no statement of its own. -/
import Derived.Test.YtdbgicaoddibdaaGreatT7
import Derived.Test.YtdbgicaoddibdaaGreatT4
import Derived.Laws.OwnMore
set_option linter.unusedVariables false
set_option linter.unusedSimpArgs false
namespace Go.Cg
open Go.RowKit
section
variable {P:Program} {tb:Tab} {n:Nat} {g:Base} {H:HEnv} {env:Env} {ops:List Oper} {o:Oper} {rest:List Oper} {Q:Env→HEnv→Prop}
theorem zji {a:Act} {K:KK} {w:World} {ρ:Nat→Value} {ty e:TypeId} {x y:Operand} {sz:Nat} {es xs:List PV} {full:Bool} (i:Nat) (htb:yR P tb) (hop:o.op=.call { callee:=.builtin .append,args:=#[x,y],argTypes:=#[ty,ty] }) (hk:tb.k ty=.sl e)
  (hx:env.pv H x=some (.slc sz es true)∨(es=[]∧env.pv H x=some (.base (.slice none 0 0)))) (hy:env.pv H y=some (.slc sz xs full)) (hx0:0 < xs.length)
  (hzz:(match tb.get e with|some ti=>(match ti.zero with|some z=>ti.size==sz&&z.cells.size==sz&&Nat.blt 0 sz|none=>false)|none=>false)=true)
  (hbound:(es.length + xs.length) * (match tb.get e with|some ti=>ti.bytes|none=>0)≤140737488355328) (hb2:es.length + xs.length≤140737488355328) (hi:H.get i=none)
  (hf:FS g K ρ H w) (hv:∀ z∈o.op.operands,∀ av,env.val z=some av→ARel K w ρ H av (a.eval z)) :
  ∃ v' w' K',(execOp a.eval o).run P w=.ok (.value v') w'∧Later K K' w w'∧FS g K' (fun j=>if j=i then v' else ρ j) ((i,.row e sz (es++xs))::H) w':=by
 have hvx:∀ av,env.val x=some av→ARel K w ρ H av (a.eval x):=hv x zwy70;have hvy:∀ av,env.val y=some av→ARel K w ρ H av (a.eval y):=hv y zwy70;cases hti:tb.get e with
 | none=>simp [hti] at hzz
 | some ti =>
  cases hz:ti.zero with
  | none=>simp [hti,hz] at hzz
  | some z =>
   simp only [hti,hz,Bool.and_eq_true,beq_iff_eq] at hzz hbound;obtain ⟨⟨z1,z2⟩,z3⟩:=hzz;have hsz:0 < sz:=Nat.le_of_ble_eq_true z3;obtain ⟨tin,q1,q2,q3,q4,_⟩:=ZJ htb hti;have hyr:=qc (a:=a) hf (x:=y) hvy hy;obtain ⟨news,n1,n2,n3,n4,n5⟩:=Wj hyr;have hxr:PRel K w (.slc sz es true) (a.eval x):=by
    rcases hx with hx|⟨rfl,hx⟩
    ·exact qc (a:=a) hf (x:=x) hvx hx
    ·have:=qc (a:=a) hf (x:=x) hvx hx;generalize a.eval x=xv at this ⊢;cases this;exact .nil sz true
   obtain ⟨us,m1,m2,m3,m4,m5⟩:=Wj hxr;have hall:(us++news).length=(es.length + xs.length) * sz:=by rw [List.length_append,m1,n1,Nat.add_mul]
   have hone:∀ v∈us++news,v.oneCell'=true:=fun v hv'=>(List.mem_append.1 hv').elim (m3 v) (n3 v)
   have hcr:=m4.append m1 n4;have hsmall:es.length + xs.length≤9223372036854775807:=by omega
   have hrun0:∀ {v':Value} {w':World},(Builtin.append_ #[ty,ty] o.type #[a.eval x,a.eval y]).run P w=.ok v' w'→(execOp a.eval o).run P w=.ok (.value v') w':=by
    intro v' w' h;simp [execOp,hop,resolve,invoke,builtin,h]
   have hns:tin.size=sz:=by omega
   obtain ⟨cap,arr,hc1,hc2,hsize,htake,hrun⟩:∃ (cap:Nat) (arr:Array Value),es.length + xs.length≤cap∧cap≤maxLen∧arr.size=cap * sz∧arr.toList.take ((es.length + xs.length) * sz)=us++news ∧
     (execOp a.eval o).run P w=.ok (.value (.slice (some ⟨w.heap.size,0,none⟩) (es.length + xs.length) cap)) (w.drew.alloc (.cells arr e)):=by
    rcases n2 with ⟨hy0,hxl⟩|⟨ad',c',hy1,hy2,_,hxc⟩
    ·omega
    ·rcases m2 with ⟨e1,hel⟩|⟨ad1,c1,e1,e2,hfull,hle⟩
     ·have hes:es=[]:=List.eq_nil_of_length_eq_zero hel;subst hes;have hus:us=[]:=List.eq_nil_of_length_eq_zero (by simpa using m1);subst hus;have hr:=run_append_nil (P:=P) w ty o.type e tin z (qY htb hk) q1 zwy108 ad' xs.length c' news zwy119 hy2 zwy62 (by simp at hsmall;omega) (by rw [q3];simp at hbound;omega);refine ⟨grownCap w xs.length 0 e,news.toArray++Builtin.zeroCells z.cells (grownCap w xs.length 0 e - xs.length),by simpa using grownCap_ge w xs.length 0 e,grownCap_le_maxLen w _ _ e (by unfold maxLen;simp at hsmall;omega),?_,?_,?_⟩
      ·have:=grownCap_ge w xs.length 0 e;simp only [Array.size_append,List.size_toArray,size_zeroCells,n1,z2];rw [←Nat.add_mul];first|done|(congr 1;omega)
      ·rw [Array.toList_append];simp only [List.length_nil,Nat.zero_add,List.nil_append];rw [←n1,List.take_left' rfl]
      ·rw [hrun0 zwy106];simp
     ·have hc1:c1=es.length:=hfull rfl;subst hc1;have hr:=run_append_grow (P:=P) w ty o.type e tin z (qY htb hk) q1 zwy108 ad1 es.length es.length us (by rw [hns];exact m1) e2 ad' xs.length c' news zwy119 hy2 zwy62 zwy62 (growslice_fits zwy62 (by rw [q3];exact hbound));refine ⟨grownCap w (es.length + xs.length) es.length e,us.toArray++news.toArray++Builtin.zeroCells z.cells (grownCap w (es.length + xs.length) es.length e - (es.length + xs.length)),grownCap_ge w _ _ e,grownCap_le_maxLen w _ _ e zwy110,?_,?_,?_⟩
      ·have:=grownCap_ge w (es.length + xs.length) es.length e;simp only [Array.size_append,List.size_toArray,size_zeroCells,n1,m1,z2];rw [←Nat.add_mul,←Nat.add_mul];first|done|(congr 1;omega)
      ·rw [Array.toList_append,Array.toList_append];rw [←hall,List.take_left' zwy63]
      ·rw [hrun0 zwy106]
   have hevd:Evo K K w w.drew:=(Evo.refl hf.lt).drew;have h3:=zah (w:=w.drew) hevd.lt arr e ((es.length + xs.length) * sz);have hev:=hevd.trans h3;have hlat:=hev.later hf.lt;have hds:w.drew.heap.size=w.heap.size:=rfl;refine ⟨_,_,_,hrun,hlat,hf.fresh hev hi ⟨us++news,⟨?_,.inr ⟨w.heap.size,cap,arr,?_,hf.below.size,?_,?_,hc2,hsize,?_⟩⟩,hsz,?_,?_⟩ ?_⟩
   ·rw [hall,List.length_append]
   ·simp
   ·have:=heap_alloc_new w.drew (.cells arr e);rw [hds] at this;exact this
   ·rw [List.length_append];exact hc1
   ·rw [List.length_append];exact htake
   ·intro k e' he';obtain ⟨r1,r2⟩:=hcr k e' he';exact ⟨r1,fun k c hc=>let ⟨v,e1,e2,e3⟩:=r2 k c hc;⟨v,e1,e2,e3.later hlat⟩⟩
   ·intro b hb o';simp [Value.ownBlock] at hb;subst hb;rw [List.length_append];constructor
    ·rintro (h|⟨_,h⟩)
     ·have:=hf.lt _ _ h;omega
     ·exact h
    ·intro h;exact .inr ⟨hds.symm,h⟩
   ·intro b hb;simp [yj] at hb;omega
theorem WW {ty e:TypeId} {x y:Operand} {sz d:Nat} {es xs:List PV} {full:Bool} (i:Nat) (htb:yR P tb) (hg:guardE ops env o=some true) (hop:o.op=.call { callee:=.builtin .append,args:=#[x,y],argTypes:=#[ty,ty] }) (hk:tb.k ty=.sl e)
  (hx:env.pv H x=some (.slc sz es true)∨(es=[]∧env.pv H x=some (.base (.slice none 0 0)))) (hy:env.pv H y=some (.slc sz xs full)) (hx0:0 < xs.length)
  (hzz:(match tb.get e with|some ti=>(match ti.zero with|some z=>ti.size==sz&&z.cells.size==sz&&Nat.blt 0 sz|none=>false)|none=>false)=true)
  (hbound:(es.length + xs.length) * (match tb.get e with|some ti=>ti.bytes|none=>0)≤140737488355328) (hb2:es.length + xs.length≤140737488355328) (hi:H.get i=none) (hd:o.dst=some d) (ht:Nat.blt d n=true)
  (h:AO P n g ops.toArray rest ((d,.own i)::env) ((i,.row e sz (es++xs))::H) Q):AO P n g ops.toArray (o::rest) env H Q:=by
 refine ⟨fun a w hinv=>?_⟩;have hw:=yT hinv hg;obtain ⟨h1,h2,K,ρ,hf,he⟩:=hinv;refine wpList_step fun KK hKK=>?_
 rw [if_pos hw];obtain ⟨v',w',K',hrun,hlat,hf'⟩:=zji (a:=a) i htb hop hk hx hy hx0 hzz hbound hb2 hi hf (fun z _ av hz=>qA he hz);unfold Oper.wp;rw [hrun];simp only [Oper.upon];refine hKK _ _ (h.go _ _ ⟨qW h1,put_defers h2,_,_,hf',?_⟩);rw [hd];refine Zo h1 ht (he.keeps hlat (Za hi _ _)) ?_;have:=ARel.own (K:=K') (w:=w') (ρ:=fun j=>if j=i then v' else ρ j) (H:=(i,HE.row e sz (es++xs))::H) i zwy87;simpa using this
end
def ziZ (p:PV) (j n:Nat) (q:PV):Option PV :=
 if q.cells.length=n∧j + n≤p.cells.length then
  (if j=0∧p.cells.length=n then some q else match p with|.agg cs=>some (.agg (cs.take j++q.cells++cs.drop (j + n)))|_=>none)
 else none
theorem zlv {p q r:PV} {j n:Nat} (h:ziZ p j n q=some r):q.cells.length=n∧j + n≤p.cells.length∧r.cells=p.cells.take j++q.cells++p.cells.drop (j + n):=by
 unfold ziZ at h;split at h
 ·rename_i hh;refine ⟨hh.1,hh.2,?_⟩;split at h
  ·rename_i h2;simp only [Option.some.injEq] at h;subst h;obtain ⟨rfl,h3⟩:=h2;rw [List.take_zero,List.nil_append,Nat.zero_add,List.drop_eq_nil_of_le zwy62,List.append_nil]
  ·split at h
   ·simp only [Option.some.injEq] at h;subst h;rfl
   ·cases h
 ·cases h
theorem Qi {α:Type} {xs ys:List α} {off t:Nat} (h:off + ys.length≤xs.length) :
  (xs.take off++ys++xs.drop (off + ys.length))[t]?=if t < off then xs[t]? else if t < off + ys.length then ys[t - off]? else xs[t]?:=by
 have e1:(xs.take off).length=off:=by rw [List.length_take];omega
 rw [List.append_assoc,List.getElem?_append,e1];split
 ·rw [List.getElem?_take,if_pos (by assumption)]
 ·rename_i h1;rw [List.getElem?_append];split
  ·rw [if_pos zwy62]
  ·rw [if_neg zwy62,List.getElem?_drop];congr 1;omega
theorem zg9 {α:Type} {xs ys:List α} {off m:Nat} (h:off + ys.length≤m) (hm:m≤xs.length) :
  (xs.take off++ys++xs.drop (off + ys.length)).take m=(xs.take m).take off++ys++(xs.take m).drop (off + ys.length):=by
 apply List.ext_getElem?;intro t;rw [List.getElem?_take,Qi zwy62,Qi (by rw [List.length_take];omega)];simp only [List.getElem?_take];split
 ·rfl
 ·rw [if_neg zwy62,if_neg zwy62]
section
variable {P:Program} {tb:Tab} {n:Nat} {g:Base} {H:HEnv} {env:Env} {ops:List Oper} {o:Oper} {rest:List Oper} {Q:Env→HEnv→Prop} {QQ:QC} {c:Code}
theorem zc8 (htb:yR P tb) {ty e d:Nat} {x:Operand} {i sz:Nat} {es:List PV} (hg:guardE ops env o=some true) (hop:o.op=.call { callee:=.builtin .len,args:=#[x],argTypes:=#[ty] }) (hx:env.val x=some (.own i)) (hi:H.get i=some (.mrow e sz es))
  (hk:tb.k ty=.sl e) (hd:o.dst=some d) (ht:Nat.blt d n=true) (h:AO P n g ops.toArray rest ((d,.pv (.base (.int .i64 (es.length:Nat))))::env) H Q):AO P n g ops.toArray (o::rest) env H Q:=by
 refine ⟨fun a w hinv=>?_⟩;have hw:=yT hinv hg;obtain ⟨h1,h2,K,ρ,hf,he⟩:=hinv;refine wpList_step fun KK hKK=>?_
 rw [if_pos hw];have hxr:=qA he hx;generalize hxv:a.eval x=xv at hxr;obtain ⟨xs,hown,h0,hcr,hnK⟩:=hf.heap.ok i _ hi;cases hxr with
 | own _ hi' =>
  have hv:∃ ad' cap,ρ i=.slice ad' es.length cap:=by
   rcases hown.2 with ⟨hr,hz⟩|⟨b,cap,cur,hr,_⟩
   ·exact ⟨none,0,by rw [hr,hz]⟩
   ·exact ⟨_,_,hr⟩
  obtain ⟨ad',cap,hr⟩:=hv;have hrun:(execOp a.eval o).run P w=.ok (.value (.int .i64 (es.length:Nat))) w:=by
   simp [execOp,hop,resolve,invoke,builtin,Builtin.len_,hxv,hr,run_underlying (qY htb hk),goInt]
  unfold Oper.wp;rw [hrun];simp only [Oper.upon];refine hKK _ _ (h.go _ _ ⟨qW h1,put_defers h2,K,ρ,hf,?_⟩);rw [hd];exact Zo h1 ht he (.pv _ _ (.base _ rfl))
theorem zhV {K:KK} {w:World} {ρ:Nat→Value} {a:Act} (htb:yR P tb) {ty:Nat} {x y:Operand} {i k j sz off e:Nat} {N:HEnv} {es:List PV} {p q p':PV} (hop:o.op=.store ty x y) (hi:H.get i=some (.mrow e sz es)) (hoff:off=k * sz + j)
  (hp:es[k]?=some p) (hnt:q.notTup=true) (hs:ziZ p j (tb.size ty) q=some p') (hk:tb.known ty=true) (hf:FS g K ρ H w) (hxr:ARel K w ρ N (.ad i off) (a.eval x)) (hyr:PRel K w q (a.eval y)) :
  ∃ w',(execOp a.eval o).run P w=.ok .skip w'∧FS g K ρ ((i,.mrow e sz (es.set k p'))::H) w'∧Later K K w w':=by
 generalize hxv:a.eval x=xv at hxr;generalize hyv:a.eval y=yv at hyr;obtain ⟨xs,hown,h0,hcr,hnK⟩:=hf.heap.ok i _ hi;have hkl:k < es.length:=(List.getElem?_eq_some_iff.1 hp).1;obtain ⟨s1,s2,s3⟩:=zlv hs;have hyc:=YP hyr;have hy1:=cells_one hyr hnt;obtain ⟨hpl,_⟩:=hcr k p hp;have hle:k * sz + sz≤es.length * sz:=by rw [←Nat.succ_mul];exact Nat.mul_le_mul_right _ hkl
 have hyl:yv.cells.toList.length=tb.size ty:=by rw [hyc.1,s1]
 cases hxr with
 | ad _ _ b m c hi' hρ =>
  rcases hown.2 with ⟨hr,_⟩|⟨g',cap,cur,hr,hB,hheap,hec,hcap,hsize,htake⟩
  ·rw [hρ] at hr;simp at hr
  ·rw [hρ] at hr;simp only [Value.slice.injEq,Option.some.injEq,Addr.mk.injEq,and_true] at hr;obtain ⟨rfl,rfl,rfl⟩:=hr;have hcs:es.length * sz≤cur.size:=by rw [hsize];exact Nat.mul_le_mul_right _ hec
   have hko:tb.k ty≠.oth:=by intro e;simp [Tab.known,e] at hk
   have hsz:=run_sizeOf htb hko w;have hst:=run_storeCells_at P b off e yv.cells.toList 0 cur w hheap (by rw [hyl];omega) hy1;obtain ⟨arr,harr⟩:∃ arr,arr=(cur.toList.take off++yv.cells.toList++cur.toList.drop (off + yv.cells.toList.length)).toArray:=⟨_,rfl⟩
   have hrun:(execOp a.eval o).run P w=.ok .skip (w.setRow b arr):=by
    simp only [Nat.add_zero] at hst;rw [←harr] at hst;have hyl':yv.cells.size=tb.size ty:=by simpa using hyl
    simp [execOp,hop,hxv,hyv,Instr.storeAt,Instr.sureAddr,storeVar,hsz,hyl',hst]
   have hgrow:w.grownBy (w.setRow b arr) (some b):=⟨rfl,rfl,rfl,by simp,fun k _ hk=>setRow_other w b k _ (fun e=>hk (by simp [e]))⟩
   have hnKb:∀ o,¬ K b o:=hnK b zwy114;have hlat:Later K K w (w.setRow b arr):=⟨fun _ _ h=>h,fun b' o hk=>by
    have:b'≠b:=by rintro rfl;exact hnKb o hk
    exact cell_setRow_other w b _ ⟨b',o,none⟩ this⟩
   have hkeep:∀ j,(H.get j).isSome=true→(HEnv.get ((i,.mrow e sz (es.set k p'))::H) j).isSome=true∧ρ j=ρ j:=by
    intro j hj;refine ⟨?_,rfl⟩;rw [HEnv.get_cons];split
    ·rfl
    ·exact hj
   refine ⟨_,hrun,⟨hf.below.grown hgrow hf.below.size (fun k hk=>by simp at hk;omega),hf.old,hf.new,fun b o hk=>by have:=hf.lt b o hk;simpa using this,hf.others.trans (zdU hheap hgrow),hf.pt.grown hf.old hgrow hlat (fun b2 hb2=>by cases hb2;exact hf.away i _ b hi rfl zwy114) (fun _ _ h=>.inl h),hf.away.set hi rfl,?_,?_⟩,hlat⟩
   ·intro j' e' hj;rw [HEnv.get_cons] at hj;split at hj
    ·rename_i e1;subst e1;simp only [Option.some.injEq] at hj;subst hj;have hxl:xs.length=es.length * sz:=hown.1;have hoffl:off + yv.cells.toList.length≤es.length * sz:=by rw [hyl];omega
     refine ⟨xs.take off++yv.cells.toList++xs.drop (off + yv.cells.toList.length),⟨?_,.inr ⟨b,c,arr,by rw [hρ,List.length_set],hB,setRow_heap w b cur _ e _ hheap,by rw [List.length_set];exact hec,hcap,?_,?_⟩⟩,h0,?_,fun b' hb'=>hnK b' hb'⟩
     ·rw [List.length_set,List.length_append,List.length_append,List.length_take,List.length_drop];omega
     ·rw [←hsize,harr,List.size_toArray,List.length_append,List.length_append,List.length_take,List.length_drop,Array.length_toList];omega
     ·rw [List.length_set,harr,←htake];exact zg9 hoffl (by simpa using hcs)
     ·intro i1 e1 he1;have hi1:i1 < es.length:=by have:=(List.getElem?_eq_some_iff.1 he1).1;simpa using this
      by_cases hik:i1=k
      ·subst hik;rw [List.getElem?_set_self hkl] at he1;simp only [Option.some.injEq] at he1;subst he1;have hpl':p'.cells.length=sz:=by rw [s3,List.length_append,List.length_append,List.length_take,List.length_drop];omega
       refine ⟨hpl',fun t c' hc'=>?_⟩;have htl:t < sz:=by rw [←hpl'];exact (List.getElem?_eq_some_iff.1 hc').1
       rw [s3,←s1,Qi zwy62] at hc';rw [Qi zwy62];split at hc'
       ·obtain ⟨v,v1,v2,v3⟩:=(hcr i1 p hp).2 t c' hc';exact ⟨v,by rw [if_pos zwy62];exact v1,v2,v3.later hlat⟩
       ·split at hc'
        ·rename_i t1 t2;have hlt2:t - j < yv.cells.toList.length:=by omega
         refine ⟨yv.cells.toList[t - j],?_,hy1 _ (List.getElem_mem hlt2),(hyc.2 (t - j) c' _ hc' (List.getElem?_eq_getElem hlt2)).later hlat⟩;rw [if_neg zwy62,if_pos zwy62,show i1 * sz + t - off=t - j by omega];exact List.getElem?_eq_getElem hlt2
        ·obtain ⟨v,v1,v2,v3⟩:=(hcr i1 p hp).2 t c' hc';exact ⟨v,by rw [if_neg zwy62,if_neg zwy62];exact v1,v2,v3.later hlat⟩
      ·rw [List.getElem?_set_ne (Ne.symm hik)] at he1;obtain ⟨g1,g2⟩:=hcr i1 e1 he1;refine ⟨g1,fun t c' hc'=>?_⟩;obtain ⟨v,v1,v2,v3⟩:=g2 t c' hc';have htl:t < sz:=by rw [←g1];exact (List.getElem?_eq_some_iff.1 hc').1
       refine ⟨v,?_,v2,v3.later hlat⟩;rw [Qi zwy62];rcases Nat.lt_or_gt_of_ne hik with hlt|hgt
       ·have:i1 * sz + sz≤k * sz:=by rw [←Nat.succ_mul];exact Nat.mul_le_mul_right _ hlt
        rw [if_pos zwy62];exact v1
       ·have:k * sz + sz≤i1 * sz:=by rw [←Nat.succ_mul];exact Nat.mul_le_mul_right _ hgt
        rw [if_neg zwy62,if_neg zwy62];exact v1
    ·rename_i hne;by_cases hlive:e'.live=true
     ·have:=(hf.heap.ok j' e' hj).grown (f:=id) hgrow hlat (fun b o h=>.inl h) (fun av v h=>h.keeps hlat hkeep) hlive (fun b' hb' e'=>by
       simp at e';subst e';exact hf.heap.apart i j' _ _ b hne hi hj rfl hlive zwy114 hb')
      cases e' <;> exact this
     ·cases e' <;> simp [HE.live] at hlive
      ·trivial
      ·exact ARel.keeps hlat hkeep (hf.heap.ok j' _ hj)
   ·intro j' k' e1 e2 bb hjk hj hk' hlj hlk hbj hbk;have f1:∀ (j:Nat) (hh:HE),HEnv.get ((i,.mrow e sz (es.set k p'))::H) j=some hh→hh.live=true→∃ h0,H.get j=some h0∧h0.live=true:=by
     intro j hh hj hl;rw [HEnv.get_cons] at hj;split at hj
     ·rename_i e';subst e';exact ⟨_,hi,rfl⟩
     ·exact ⟨hh,hj,hl⟩
    obtain ⟨a1,a2,a3⟩:=f1 j' e1 hj hlj;obtain ⟨b1,b2,b3⟩:=f1 k' e2 hk' hlk;exact hf.heap.apart j' k' a1 b1 bb hjk a2 b2 a3 b3 hbj hbk
theorem XP (htb:yR P tb) {ty:Nat} {x y:Operand} {i k j sz off e:Nat} {es:List PV} {p q p':PV} (hg:guardE ops env o=some true) (hop:o.op=.store ty x y) (hx:env.val x=some (.ad i off)) (hi:H.get i=some (.mrow e sz es)) (hoff:off=k * sz + j)
  (hp:es[k]?=some p) (hy:env.pv H y=some q) (hnt:q.notTup=true) (hs:ziZ p j (tb.size ty) q=some p') (hk:tb.known ty=true) (hd:o.dst=none)
  (h:AO P n g ops.toArray rest env ((i,.mrow e sz (es.set k p'))::H) Q):AO P n g ops.toArray (o::rest) env H Q:=by
 refine ⟨fun a w hinv=>?_⟩;have hw:=yT hinv hg;obtain ⟨h1,h2,K,ρ,hf,he⟩:=hinv;refine wpList_step fun KK hKK=>?_
 rw [if_pos hw];obtain ⟨w',hrun,hf',hlat⟩:=zhV htb hop hi hoff hp hnt hs hk hf (qA he hx) (qc (a:=a) hf (x:=y) (fun av hh=>qA he hh) hy);unfold Oper.wp;rw [hrun];simp only [Oper.upon];have hd':a.put o.dst undef=a:=by rw [hd];rfl
 rw [hd'];refine hKK _ _ (h.go _ _ ⟨h1,h2,K,ρ,hf',he.keeps hlat fun j hj=>⟨?_,rfl⟩⟩);rw [HEnv.get_cons];split <;> first|rfl|exact hj
def zd4 (v:Value):Option PV:=match zdZ v with|some (.pv p)=>some p|_=>none
theorem zjm {K:KK} {w:World} {v:Value} {p:PV} (h:zd4 v=some p):PRel K w p v∧p.notTup=true:=by
 unfold zd4 at h;split at h
 ·rename_i p' hz;simp only [Option.some.injEq] at h;subst h;unfold zdZ at hz;split at hz
  ·rename_i cs;split at hz
   ·rename_i ps hps;simp only [Option.some.injEq,AV.pv.injEq] at hz;subst hz;have hr:=Vu (K:=K) (w:=w) hps;have:=PRel.agg ps cs.toList hr.1 (Vf hps) hr.2;exact ⟨by simpa using this,rfl⟩
   ·cases hz
  ·split at hz
   ·rename_i ho;simp only [Option.some.injEq,AV.pv.injEq] at hz;subst hz;exact ⟨.base _ ho,rfl⟩
   ·cases hz
 ·cases h
theorem zmy {K:KK} {ρ:Nat→Value} {w:World} {a:Act} (htb:yR P tb) {ty e m:Nat} {x y:Operand} {sz:Nat} {z:PV} {mi:Int} (i:Nat) (hop:o.op=.makeSlice ty x y) (hk:tb.k ty=.sl e) (hx:env.pv H x=some (.base (.int .i64 mi))) (hy:env.pv H y=some (.base (.int .i64 mi))) (hmi:mi=((m:Nat):Int))
  (hz:(match tb.zero e with|some v=>zd4 v|none=>none)=some z) (hzz:(match tb.get e with|some ti=>(match ti.zero with|some zv=>ti.size==sz&&zv.cells.size==sz&&Nat.blt 0 sz|none=>false)|none=>false)=true)
  (hb:(match tb.get e with|some ti=>ti.bytes|none=>0) * m≤281474976710656) (hm:m≤maxLen) (hi:H.get i=none) (hf:FS g K ρ H w) (hv:∀ z∈o.op.operands,∀ av,env.val z=some av→ARel K w ρ H av (a.eval z)) :
  ∃ v w',(execOp a.eval o).run P w=.ok (.value v) w'∧Evo K K w w'∧FS g K (fun j=>if j=i then v else ρ j) ((i,.mrow e sz (List.replicate m z))::H) w':=by
 subst hmi;cases hti:tb.get e with
 | none=>simp [hti] at hzz
 | some ti =>
  cases hzv:ti.zero with
  | none=>simp [hti,hzv] at hzz
  | some zv =>
   simp only [hti,hzv,Bool.and_eq_true,beq_iff_eq] at hzz hb;obtain ⟨⟨z1,z2⟩,z3⟩:=hzz;have hsz:0 < sz:=Nat.le_of_ble_eq_true z3;obtain ⟨tin,q1,q2,q3,q4,_⟩:=ZJ htb hti;have hzp:zd4 zv=some z:=by
    have:tb.zero e=some zv:=by unfold Tab.zero;rw [hti];exact hzv
    rw [this] at hz;exact hz
   have hxr:=qc (a:=a) hf (x:=x) (hv x zwy69) hx;have hyr:=qc (a:=a) hf (x:=y) (hv y zwy69) hy;generalize hxv:a.eval x=xv at hxr;generalize hyv:a.eval y=yv at hyr;cases hxr;cases hyr;obtain ⟨w',r1,r2,r3⟩:=run_make_full w g.w0.heap.size ty e tin zv sz (qY htb hk) q1 (by rw [q4];exact hzv) zwy62 .i64 .i64 m (by rw [q3];exact hb) hm hf.below.size;have hrun:(execOp a.eval o).run P w=.ok (.value (.slice (some ⟨w.heap.size,0,none⟩) m m)) w':=by
    simp [execOp,hop,hxv,hyv,r1]
   have hev:Evo K K w w':=⟨⟨r3.os,r3.tape,r3.output,r3.size,fun k hk=>r3.block k hk zwy63⟩,fun _ _ h=>h,fun _ _ h=>.inl h,fun b o h=>Nat.lt_of_lt_of_le (hf.lt b o h) r3.size⟩
   obtain ⟨hzr,hznt⟩:=zjm (K:=K) (w:=w') hzp;have hzc:=YP hzr;have hzo:=cells_one hzr hznt;have hzl:zv.cells.toList.length=sz:=by simpa using z2
   refine ⟨_,w',hrun,hev,hf.fresh hev hi ⟨(madeCells zv.cells (m * sz)).toList,by rw [List.length_replicate];exact r2,hsz,?_,?_⟩ zwy112⟩
   ·intro i1 e1 he1;have hi1:i1 < m:=by have:=(List.getElem?_eq_some_iff.1 he1).1;simpa using this
    have e2:e1=z:=by rw [List.getElem?_replicate,if_pos hi1] at he1;simpa using he1.symm
    subst e2;have hl:e1.cells.length=sz:=by rw [←hzl,hzc.1]
    refine ⟨hl,fun k c' hc'=>?_⟩;have hk:k < sz:=by rw [←hl];exact (List.getElem?_eq_some_iff.1 hc').1
    have hkz:k < zv.cells.size:=by omega
    have hu:zv.cells.toList[k]?=some zv.cells[k]:=by simp [hkz]
    refine ⟨zv.cells[k],?_,hzo _ (List.mem_of_getElem? hu),hzc.2 k c' _ hc' hu⟩;have hlt:i1 * sz + k < m * sz:=by
     have:i1 * sz + sz≤m * sz:=by rw [←Nat.succ_mul];exact Nat.mul_le_mul_right _ hi1
     omega
    have hmod:(i1 * sz + k) % zv.cells.size=k:=by rw [z2,Nat.add_comm,Nat.add_mul_mod_self_right];exact Nat.mod_eq_of_lt hk
    simp [madeCells,hlt,hmod,hkz]
   ·intro b hb o ho;simp [Value.ownBlock] at hb;subst hb;have:=hf.lt _ _ ho;omega
theorem ze8 (htb:yR P tb) {ty e d m:Nat} {x y:Operand} {sz:Nat} {z:PV} {mi:Int} (i:Nat) (hg:guardE ops env o=some true) (hop:o.op=.makeSlice ty x y) (hk:tb.k ty=.sl e) (hx:env.pv H x=some (.base (.int .i64 mi))) (hy:env.pv H y=some (.base (.int .i64 mi))) (hmi:mi=((m:Nat):Int))
  (hz:(match tb.zero e with|some v=>zd4 v|none=>none)=some z) (hzz:(match tb.get e with|some ti=>(match ti.zero with|some zv=>ti.size==sz&&zv.cells.size==sz&&Nat.blt 0 sz|none=>false)|none=>false)=true)
  (hb:(match tb.get e with|some ti=>ti.bytes|none=>0) * m≤281474976710656) (hm:m≤maxLen) (hi:H.get i=none) (hd:o.dst=some d) (ht:Nat.blt d n=true)
  (h:AO P n g ops.toArray rest ((d,.own i)::env) ((i,.mrow e sz (List.replicate m z))::H) Q):AO P n g ops.toArray (o::rest) env H Q:=by
 refine ⟨fun a w hinv=>?_⟩;have hw:=yT hinv hg;obtain ⟨h1,h2,K,ρ,hf,he⟩:=hinv;refine wpList_step fun KK hKK=>?_
 rw [if_pos hw];obtain ⟨v,w',hrun,hev,hf'⟩:=zmy (a:=a) htb i hop hk hx hy hmi hz hzz hb hm hi hf fun x _ av hh=>qA he hh
 unfold Oper.wp;rw [hrun];simp only [Oper.upon];refine hKK _ _ (h.go _ _ ⟨qW h1,put_defers h2,K,_,hf',?_⟩);rw [hd];refine Zo h1 ht (he.keeps (hev.later hf.lt) (Za hi _ _)) ?_;have:=ARel.own (K:=K) (w:=w') (ρ:=fun j=>if j=i then v else ρ j) (H:=(i,HE.mrow e sz (List.replicate m z))::H) i zwy94;simpa using this
theorem zcJ {i e sz:Nat} {es:List PV} {a:Act} {w:World} (hi:H.get i=some (.mrow e sz es)) (hinv:Inv n g env H a w):Inv n g env ((i,.row e sz es)::H) a w:=by
 obtain ⟨h1,h2,K,ρ,hf,he⟩:=hinv;obtain ⟨xs,hown,h0,hcr,hnK⟩:=hf.heap.ok i _ hi;obtain ⟨K',hK'⟩:∃ K':KK,∀ b o,K' b o↔(K b o∨((ρ i).ownBlock=some b∧o < es.length * sz)):=⟨fun b o=>K b o∨((ρ i).ownBlock=some b∧o < es.length * sz),fun _ _=>Iff.rfl⟩
 have hlat:Later K K' w w:=⟨fun b o h=>(hK' b o).2 (.inl h),fun _ _ _=>rfl⟩
 have hk:∀ j,(H.get j).isSome=true→(HEnv.get ((i,.row e sz es)::H) j).isSome=true∧ρ j=ρ j:=fun j hj=>by
  refine ⟨?_,rfl⟩;rw [HEnv.get_cons];split
  ·rfl
  ·exact hj
 have hbo:∀ {v:Value} {nn:Nat} {zs:List Value} {ww:World} {BB t s:Nat},ww.ownsRow BB t s v nn zs→∀ b,yj v=some b↔v.ownBlock=some b:=by
  intro v nn zs ww BB t s h b;rcases h.2 with ⟨rfl,_⟩|⟨_,_,_,rfl,_⟩ <;> simp [yj,Value.ownBlock]
 have hne:∀ {j:Nat} {h:HE} {b':Nat},i≠j→H.get j=some h→h.live=true→yj (ρ j)=some b'→(ρ i).ownBlock≠some b':=fun {j h b'} hij hg hl hb e =>
  hf.heap.apart i j _ h b' hij hi hg rfl hl ((hbo hown b').2 e) hb
 refine ⟨h1,h2,K',ρ,⟨hf.below,fun b o h=>(hK' b o).2 (.inl (hf.old b o h)),fun b' o h=>?_,fun b' o h=>?_,hf.others,hf.pt.grown hf.old (row:=(ρ i).ownBlock) ⟨rfl,rfl,rfl,Nat.le_refl _,fun _ _ _=>rfl⟩ hlat (fun b hb=>hf.away i _ b hi rfl ((hbo hown b).2 hb)) (fun b o h=>(hK' b o).1 h |>.elim .inl (fun h=>.inr (.inl h.1))),hf.away.set hi rfl,?_,?_⟩,he.keeps hlat hk⟩
 ·rcases (hK' b' o).1 h with h|⟨h,_⟩
  ·exact hf.new b' o h
  ·exact .inr (hown.lt b' h).1
 ·rcases (hK' b' o).1 h with h|⟨h,_⟩
  ·exact hf.lt b' o h
  ·exact (hown.lt b' h).2
 ·intro j h hg;rw [HEnv.get_cons] at hg;split at hg
  ·rename_i e1;subst e1;simp only [Option.some.injEq] at hg;subst hg;refine ⟨xs,hown,h0,fun k e he=>?_,fun b' hb o=>?_⟩
   ·obtain ⟨c1,c2⟩:=hcr k e he;exact ⟨c1,fun k c hc=>let ⟨v,h4,h5,h6⟩:=c2 k c hc;⟨v,h4,h5,h6.later hlat⟩⟩
   ·rw [hK'];exact ⟨fun h=>(h.resolve_left (hnK b' hb o)).2,fun h=>.inr ⟨hb,h⟩⟩
  ·rename_i hij;have ho:=hf.heap.ok j h hg;by_cases hlive:h.live=true
   ·have:=ho.grown (f:=id) (w':=w) (K':=K') (ρ':=ρ) (H':=(i,.row e sz es)::H) (row:=(ρ i).ownBlock) ⟨rfl,rfl,rfl,Nat.le_refl _,fun _ _ _=>rfl⟩ hlat (fun b o h=>(hK' b o).1 h |>.elim .inl (fun h=>.inr (.inl h.1))) (fun av v h=>h.keeps hlat hk) hlive (fun b' hb'=>hne hij hg hlive hb');cases h <;> exact this
   ·cases h <;> simp [HE.live] at hlive
    ·trivial
    ·exact ARel.keeps hlat hk ho
 ·intro j k h h' b' hjk hg hg' hl hl';have f1:∀ (j:Nat) (hh:HE),HEnv.get ((i,.row e sz es)::H) j=some hh→hh.live=true→∃ h0,H.get j=some h0∧h0.live=true:=by
   intro j hh hj hl;rw [HEnv.get_cons] at hj;split at hj
   ·rename_i e';subst e';exact ⟨_,hi,rfl⟩
   ·exact ⟨hh,hj,hl⟩
  obtain ⟨a1,a2,a3⟩:=f1 j h hg hl;obtain ⟨b1,b2,b3⟩:=f1 k h' hg' hl';exact hf.heap.apart j k a1 b1 b' hjk a2 b2 a3 b3
theorem WG (i:Nat) {e sz:Nat} {es:List PV} (hi:H.get i=some (.mrow e sz es)) (k:AW P n g c env ((i,.row e sz es)::H) QQ):AW P n g c env H QQ:=⟨fun a w hinv=>k.go a w (zcJ hi hinv)⟩
theorem Zh {H':HEnv} {i:Nat} {t sz:Nat} {es es':List PV} (h:H.get i=some (.mrow t sz es)) (e:es=es') (hs:HSub H H'):HSub H ((i,.mrow t sz es')::H'):=zx (by rw [h,e]) hs
theorem zhy {α:Type} {f:Nat→α} {m k:Nat} (h:k < m):((List.range m).map f)[k]?=some (f k):=by simp [h]
theorem zqT {α:Type} {f f':Nat→α} {m k:Nat} {v:α} (h:∀ p,p < m→f' p=if p=k then v else f p):((List.range m).map f).set k v=(List.range m).map f':=by
 apply List.ext_getElem?;intro t;by_cases ht:t < m
 ·rw [List.getElem?_set];split
  ·rename_i e;subst e;simp [ht,h k ht]
  ·rename_i e;simp [ht,h t ht,Ne.symm e]
 ·rw [List.getElem?_eq_none zwy64,List.getElem?_eq_none zwy64]
theorem zha {t:Nat} (i:Nat) (e:TypeId) (sz:Nat) (hsz:0 < sz) (ht:env.get t=some (.pv (.base (.slice none 0 0)))) (hi:H.get i=none) (h:AW P n g c ((t,.own i)::env) ((i,.mrow e sz [])::H) QQ):AW P n g c env H QQ:=by
 refine ⟨fun a w hinv=>h.go a w ?_⟩;obtain ⟨h1,h2,K,ρ,hf,he⟩:=hinv;have hev:Evo K K w w:=.refl hf.lt;refine ⟨h1,h2,K,fun j=>if j=i then .slice none 0 0 else ρ j,hf.fresh hev hi ⟨[],World.ownsRow_nil w _ e sz,hsz,fun i e h=>by simp at h,by simp [Value.ownBlock]⟩ zwy112,?_⟩;have he':=he.keeps (hev.later hf.lt) (H':=(i,.mrow e sz [])::H) (Za hi _ (.slice none 0 0));intro t' av hg;rw [Env.get_cons] at hg;split at hg
 ·rename_i e';subst e';simp only [Option.some.injEq] at hg;subst hg;obtain ⟨v,hv,hr⟩:=he _ _ ht;cases hr with
  | pv _ _ hp =>
   cases hp;refine ⟨_,hv,?_⟩;have:=ARel.own (K:=K) (w:=w) (ρ:=fun j=>if j=i then .slice none 0 0 else ρ j) (H:=(i,HE.mrow e sz [])::H) i zwy94;simpa using this
 ·exact he' _ _ hg
end
end Go.Cg
