/- A part of the walks by abstract values: no statement of its own. -/
import Derived.JoinedOf
import Derived.Test.YtemhfmmhkimhmaaGreatI8
import Derived.Laws.OwnMore
import Derived.OpenShut
import Derived.Deep.Slices
import Derived.ProofKit
import Derived.Test.YtemhfmmhkimhmaaGreatI5
import Derived.Test.YtemhfmmhkimhmaaGreatRows
set_option linter.unusedVariables false
set_option linter.unusedSimpArgs false
namespace Go.Cg
open Go
theorem zrk {P:Program} {f:FuncId} {fn:Func} {s:ChangeSpec} {c:OpenClaim}
  (a1:laidOutB P=true) (a2:mapsRowed P=true) (a3:P.stopsHeard=true) (a4:P.mayEnter=true) (a5:P.liftsFinal=c.lifted) (a6:P.make=some c.make)
  (b1:P.inPlace f=c.inPlace) (b2:P.unfollowed f=c.unfollowed) (b3:P.recurses f=c.recurses) (b4:P.varsNamed f=c.named)
  (rest:(c.wf (OpenSpec.ofChange s)&&fn.params.all (P.readableRec ·)&&namedTie P c.named s.vars &&
   (c.stops==[])&&(P.stops==[])&&(c.knobs==[])&&(P.stopKnobs==[]) &&
   (c.maps==(fn.params.toList++s.plain.varTypes P).any (P.mapsRec ·))&&(c.ifaces==(fn.params.toList++s.plain.varTypes P).any (P.ifacesRec ·))&&(c.mapsOut==P.mapsAmong fn.resultTypes.toList) &&
   (c.loops==(fn.params.toList++s.plain.varTypes P).any (P.loopsFrom ·))&&(c.wideKeys==(fn.params.toList++s.plain.varTypes P++fn.resultTypes.toList).any (P.wideKeysFrom ·)) &&
   s.vars.all (P.varReadable ·)&&fn.resultTypes.all (fun t=>P.readableRec t&&decide (t < P.types.size))&&(c.ifacesOut==fn.resultTypes.toList.any (P.ifacesRec ·))&&(c.loopsOut==fn.resultTypes.toList.any (P.loopsFrom ·))&&(c.plainKeys==P.plainKeys)&&c.shortTexts.isNone&&(c.kinds==(if c.domain.isEmpty then [] else fn.params.toList.map fun t=>match P.underlying t with|some (.int k)=>some k|_=>none))&&(c.pinned==c.pinnedBy) &&
   (c.veiled==(fn.params.toList++s.plain.varTypes P++fn.resultTypes.toList).any (P.veiledRec ·))&&c.veiledFits P fn.params.toList (fn.params.toList++s.plain.varTypes P++fn.resultTypes.toList))=true):joinedFacts P f fn s c=true:=by
 unfold joinedFacts;rw [a1,a2,a3,a4,a5,a6,b1,b2,b3,b4];simp only [Bool.and_eq_true,beq_self_eq_true,and_true,true_and] at rest ⊢;exact rest
end Go.Cg
namespace Go.Cg
open Go.RowKit
def zi0 (p:PV) (j n:Nat) (q:PV):Option PV :=
 if q.cells.length=n/\j + n<=p.cells.length then
  (if j=0/\p.cells.length=n then some q else match p with|.agg cs=>some (.agg (cs.take j++q.cells++cs.drop (j + n)))|_=>none)
 else none
theorem zlG {p q r:PV} {j n:Nat} (h:zi0 p j n q=some r):q.cells.length=n/\j + n<=p.cells.length/\r.cells=p.cells.take j++q.cells++p.cells.drop (j + n):=by
 unfold zi0 at h;split at h
 ·rename_i hh;refine ⟨hh.1,hh.2,?_⟩;split at h
  ·rename_i h2;simp only [Option.some.injEq] at h;subst h;obtain ⟨rfl,h3⟩:=h2;rw [List.take_zero,List.nil_append,Nat.zero_add,List.drop_eq_nil_of_le zwy62,List.append_nil]
  ·split at h
   ·simp only [Option.some.injEq] at h;subst h;rfl
   ·cases h
 ·cases h
theorem QA {α:Type} {xs ys:List α} {off t:Nat} (h:off + ys.length<=xs.length) :
  (xs.take off++ys++xs.drop (off + ys.length))[t]?=if t < off then xs[t]? else if t < off + ys.length then ys[t - off]? else xs[t]?:=by
 have e1:(xs.take off).length=off:=by rw [List.length_take];omega
 rw [List.append_assoc,List.getElem?_append,e1];split
 ·rw [List.getElem?_take,if_pos (by assumption)]
 ·rename_i h1;rw [List.getElem?_append];split
  ·rw [if_pos zwy62]
  ·rw [if_neg zwy62,List.getElem?_drop];congr 1;omega
theorem zg2 {α:Type} {xs ys:List α} {off m:Nat} (h:off + ys.length<=m) (hm:m<=xs.length) :
  (xs.take off++ys++xs.drop (off + ys.length)).take m=(xs.take m).take off++ys++(xs.take m).drop (off + ys.length):=by
 apply List.ext_getElem?;intro t;rw [List.getElem?_take,QA zwy62,QA (by rw [List.length_take];omega)];simp only [List.getElem?_take];split
 ·rfl
 ·rw [if_neg zwy62,if_neg zwy62]
section
variable {P:Program} {tb:Tab} {n:Nat} {g:Base} {H:HEnv} {env:Env} {ops:List Oper} {o:Oper} {rest:List Oper} {Q:Env->HEnv->Prop} {QQ:QC} {c:Code}
theorem zct (htb:yZ P tb) {ty e d:Nat} {x:Operand} {i sz:Nat} {es:List PV} (hg:guardE ops env o=some true) (hop:o.op=.call { callee:=.builtin .len,args:=#[x],argTypes:=#[ty] }) (hx:env.val x=some (.own i)) (hi:H.get i=some (.mrow e sz es))
  (hk:tb.k ty=.sl e) (hd:o.dst=some d) (ht:Nat.blt d n=true) (h:AO P n g ops.toArray rest ((d,.pv (.base (.int .i64 (es.length:Nat))))::env) H Q):AO P n g ops.toArray (o::rest) env H Q:=by
 refine ⟨fun a w hinv=>?_⟩;have hw:=qx hinv hg;obtain ⟨h1,h2,K,ρ,hf,he⟩:=hinv;refine wpList_step fun KK hKK=>?_
 rw [if_pos hw];have hxr:=qO he hx;generalize hxv:a.eval x=xv at hxr;obtain ⟨xs,hown,h0,hcr,hnK⟩:=hf.heap.ok i _ hi;cases hxr with
 | own _ hi' =>
  have hv:∃ ad' cap,ρ i=.slice ad' es.length cap:=by
   rcases hown.2 with ⟨hr,hz⟩|⟨b,cap,cur,hr,_⟩
   ·exact ⟨none,0,by rw [hr,hz]⟩
   ·exact ⟨_,_,hr⟩
  obtain ⟨ad',cap,hr⟩:=hv;have hrun:(execOp a.eval o).run P w=.ok (.value (.int .i64 (es.length:Nat))) w:=by
   simp [execOp,hop,resolve,invoke,builtin,Builtin.len_,hxv,hr,run_underlying (Zd htb hk),goInt]
  unfold Oper.wp;rw [hrun];simp only [Oper.upon];refine hKK _ _ (h.go _ _ ⟨Zy h1,put_defers h2,K,ρ,hf,?_⟩);rw [hd];exact Yg h1 ht he (.pv _ _ (.base _ rfl))
theorem zjl {K:KK} {w:World} {ρ:Nat->Value} {a:Act} (htb:yZ P tb) {ty:Nat} {x y:Operand} {i k j sz off e:Nat} {N:HEnv} {es:List PV} {p q p':PV} (hop:o.op=.store ty x y) (hi:H.get i=some (.mrow e sz es)) (hoff:off=k * sz + j)
  (hp:es[k]?=some p) (hnt:q.notTup=true) (hs:zi0 p j (tb.size ty) q=some p') (hk:tb.known ty=true) (hf:FS g K ρ H w) (hxr:ARel K w ρ N (.ad i off) (a.eval x)) (hyr:PRel K w q (a.eval y)) :
  ∃ w',(execOp a.eval o).run P w=.ok .skip w'/\FS g K ρ ((i,.mrow e sz (es.set k p'))::H) w'/\Later K K w w':=by
 generalize hxv:a.eval x=xv at hxr;generalize hyv:a.eval y=yv at hyr;obtain ⟨xs,hown,h0,hcr,hnK⟩:=hf.heap.ok i _ hi;have hkl:k < es.length:=(List.getElem?_eq_some_iff.1 hp).1;obtain ⟨s1,s2,s3⟩:=zlG hs;have hyc:=Qo hyr;have hy1:=cells_one hyr hnt;obtain ⟨hpl,_⟩:=hcr k p hp;have hle:k * sz + sz<=es.length * sz:=by rw [<-Nat.succ_mul];exact Nat.mul_le_mul_right _ hkl
 have hyl:yv.cells.toList.length=tb.size ty:=by rw [hyc.1,s1]
 cases hxr with
 | ad _ _ b m c hi' hρ =>
  rcases hown.2 with ⟨hr,_⟩|⟨g',cap,cur,hr,hB,hheap,hec,hcap,hsize,htake⟩
  ·rw [hρ] at hr;simp at hr
  ·rw [hρ] at hr;simp only [Value.slice.injEq,Option.some.injEq,Addr.mk.injEq,and_true] at hr;obtain ⟨rfl,rfl,rfl⟩:=hr;have hcs:es.length * sz<=cur.size:=by rw [hsize];exact Nat.mul_le_mul_right _ hec
   have hko:tb.k ty≠.oth:=by intro e;simp [Tab.known,e] at hk
   have hsz:=run_sizeOf htb hko w;have hst:=run_storeCells_at P b off e yv.cells.toList 0 cur w hheap (by rw [hyl];omega) hy1;obtain ⟨arr,harr⟩:∃ arr,arr=(cur.toList.take off++yv.cells.toList++cur.toList.drop (off + yv.cells.toList.length)).toArray:=⟨_,rfl⟩
   have hrun:(execOp a.eval o).run P w=.ok .skip (w.setRow b arr):=by
    simp only [Nat.add_zero] at hst;rw [<-harr] at hst;have hyl':yv.cells.size=tb.size ty:=by simpa using hyl
    simp [execOp,hop,hxv,hyv,Instr.storeAt,Instr.sureAddr,storeVar,hsz,hyl',hst]
   have hgrow:w.grownBy (w.setRow b arr) (some b):=⟨rfl,rfl,rfl,by simp,fun k _ hk=>setRow_other w b k _ (fun e=>hk (by simp [e]))⟩
   have hnKb:∀ o,¬ K b o:=hnK b zwy115;have hlat:Later K K w (w.setRow b arr):=⟨fun _ _ h=>h,fun b' o hk=>by
    have:b'≠b:=by rintro rfl;exact hnKb o hk
    exact cell_setRow_other w b _ ⟨b',o,none⟩ this⟩
   have hkeep:∀ j,(H.get j).isSome=true->(HEnv.get ((i,.mrow e sz (es.set k p'))::H) j).isSome=true/\ρ j=ρ j:=by
    intro j hj;refine ⟨?_,rfl⟩;rw [HEnv.get_cons];split
    ·rfl
    ·exact hj
   refine ⟨_,hrun,⟨hf.below.grown hgrow hf.below.size (fun k hk=>by simp at hk;omega),hf.old,hf.new,fun b o hk=>by have:=hf.lt b o hk;simpa using this,hf.others.trans (zeC hheap hgrow),hf.pt.grown hf.old hgrow hlat (fun b2 hb2=>by cases hb2;exact hf.away i _ b hi rfl zwy115) (fun _ _ h=>.inl h),hf.away.set hi rfl,?_,?_⟩,hlat⟩
   ·intro j' e' hj;rw [HEnv.get_cons] at hj;split at hj
    ·rename_i e1;subst e1;simp only [Option.some.injEq] at hj;subst hj;have hxl:xs.length=es.length * sz:=hown.1;have hoffl:off + yv.cells.toList.length<=es.length * sz:=by rw [hyl];omega
     refine ⟨xs.take off++yv.cells.toList++xs.drop (off + yv.cells.toList.length),⟨?_,.inr ⟨b,c,arr,by rw [hρ,List.length_set],hB,setRow_heap w b cur _ e _ hheap,by rw [List.length_set];exact hec,hcap,?_,?_⟩⟩,h0,?_,fun b' hb'=>hnK b' hb'⟩
     ·rw [List.length_set,List.length_append,List.length_append,List.length_take,List.length_drop];omega
     ·rw [<-hsize,harr,List.size_toArray,List.length_append,List.length_append,List.length_take,List.length_drop,Array.length_toList];omega
     ·rw [List.length_set,harr,<-htake];exact zg2 hoffl (by simpa using hcs)
     ·intro i1 e1 he1;have hi1:i1 < es.length:=by have:=(List.getElem?_eq_some_iff.1 he1).1;simpa using this
      by_cases hik:i1=k
      ·subst hik;rw [List.getElem?_set_self hkl] at he1;simp only [Option.some.injEq] at he1;subst he1;have hpl':p'.cells.length=sz:=by rw [s3,List.length_append,List.length_append,List.length_take,List.length_drop];omega
       refine ⟨hpl',fun t c' hc'=>?_⟩;have htl:t < sz:=by rw [<-hpl'];exact (List.getElem?_eq_some_iff.1 hc').1
       rw [s3,<-s1,QA zwy62] at hc';rw [QA zwy62];split at hc'
       ·obtain ⟨v,v1,v2,v3⟩:=(hcr i1 p hp).2 t c' hc';exact ⟨v,by rw [if_pos zwy62];exact v1,v2,v3.later hlat⟩
       ·split at hc'
        ·rename_i t1 t2;have hlt2:t - j < yv.cells.toList.length:=by omega
         refine ⟨yv.cells.toList[t - j],?_,hy1 _ (List.getElem_mem hlt2),(hyc.2 (t - j) c' _ hc' (List.getElem?_eq_getElem hlt2)).later hlat⟩;rw [if_neg zwy62,if_pos zwy62,show i1 * sz + t - off=t - j by omega];exact List.getElem?_eq_getElem hlt2
        ·obtain ⟨v,v1,v2,v3⟩:=(hcr i1 p hp).2 t c' hc';exact ⟨v,by rw [if_neg zwy62,if_neg zwy62];exact v1,v2,v3.later hlat⟩
      ·rw [List.getElem?_set_ne (Ne.symm hik)] at he1;obtain ⟨g1,g2⟩:=hcr i1 e1 he1;refine ⟨g1,fun t c' hc'=>?_⟩;obtain ⟨v,v1,v2,v3⟩:=g2 t c' hc';have htl:t < sz:=by rw [<-g1];exact (List.getElem?_eq_some_iff.1 hc').1
       refine ⟨v,?_,v2,v3.later hlat⟩;rw [QA zwy62];rcases Nat.lt_or_gt_of_ne hik with hlt|hgt
       ·have:i1 * sz + sz<=k * sz:=by rw [<-Nat.succ_mul];exact Nat.mul_le_mul_right _ hlt
        rw [if_pos zwy62];exact v1
       ·have:k * sz + sz<=i1 * sz:=by rw [<-Nat.succ_mul];exact Nat.mul_le_mul_right _ hgt
        rw [if_neg zwy62,if_neg zwy62];exact v1
    ·rename_i hne;by_cases hlive:e'.live=true
     ·have:=(hf.heap.ok j' e' hj).grown (f:=id) hgrow hlat (fun b o h=>.inl h) (fun av v h=>h.keeps hlat hkeep) hlive (fun b' hb' e'=>by
       simp at e';subst e';exact hf.heap.apart i j' _ _ b hne hi hj rfl hlive zwy115 hb')
      cases e' <;> exact this
     ·cases e' <;> simp [HE.live] at hlive
      ·trivial
      ·exact ARel.keeps hlat hkeep (hf.heap.ok j' _ hj)
   ·intro j' k' e1 e2 bb hjk hj hk' hlj hlk hbj hbk;have f1:∀ (j:Nat) (hh:HE),HEnv.get ((i,.mrow e sz (es.set k p'))::H) j=some hh->hh.live=true->∃ h0,H.get j=some h0/\h0.live=true:=by
     intro j hh hj hl;rw [HEnv.get_cons] at hj;split at hj
     ·rename_i e';subst e';exact ⟨_,hi,rfl⟩
     ·exact ⟨hh,hj,hl⟩
    obtain ⟨a1,a2,a3⟩:=f1 j' e1 hj hlj;obtain ⟨b1,b2,b3⟩:=f1 k' e2 hk' hlk;exact hf.heap.apart j' k' a1 b1 bb hjk a2 b2 a3 b3 hbj hbk
theorem XB (htb:yZ P tb) {ty:Nat} {x y:Operand} {i k j sz off e:Nat} {es:List PV} {p q p':PV} (hg:guardE ops env o=some true) (hop:o.op=.store ty x y) (hx:env.val x=some (.ad i off)) (hi:H.get i=some (.mrow e sz es)) (hoff:off=k * sz + j)
  (hp:es[k]?=some p) (hy:env.pv H y=some q) (hnt:q.notTup=true) (hs:zi0 p j (tb.size ty) q=some p') (hk:tb.known ty=true) (hd:o.dst=none)
  (h:AO P n g ops.toArray rest env ((i,.mrow e sz (es.set k p'))::H) Q):AO P n g ops.toArray (o::rest) env H Q:=by
 refine ⟨fun a w hinv=>?_⟩;have hw:=qx hinv hg;obtain ⟨h1,h2,K,ρ,hf,he⟩:=hinv;refine wpList_step fun KK hKK=>?_
 rw [if_pos hw];obtain ⟨w',hrun,hf',hlat⟩:=zjl htb hop hi hoff hp hnt hs hk hf (qO he hx) (qy (a:=a) hf (x:=y) (fun av hh=>qO he hh) hy);unfold Oper.wp;rw [hrun];simp only [Oper.upon];have hd':a.put o.dst undef=a:=by rw [hd];rfl
 rw [hd'];refine hKK _ _ (h.go _ _ ⟨h1,h2,K,ρ,hf',he.keeps hlat fun j hj=>⟨?_,rfl⟩⟩);rw [HEnv.get_cons];split <;> first|rfl|exact hj
def zgz (v:Value):Option PV:=match zer v with|some (.pv p)=>some p|_=>none
theorem zjw {K:KK} {w:World} {v:Value} {p:PV} (h:zgz v=some p):PRel K w p v/\p.notTup=true:=by
 unfold zgz at h;split at h
 ·rename_i p' hz;simp only [Option.some.injEq] at h;subst h;unfold zer at hz;split at hz
  ·rename_i cs;split at hz
   ·rename_i ps hps;simp only [Option.some.injEq,AV.pv.injEq] at hz;subst hz;have hr:=VX (K:=K) (w:=w) hps;have:=PRel.agg ps cs.toList hr.1 (VN hps) hr.2;exact ⟨by simpa using this,rfl⟩
   ·cases hz
  ·split at hz
   ·rename_i ho;simp only [Option.some.injEq,AV.pv.injEq] at hz;subst hz;exact ⟨.base _ ho,rfl⟩
   ·cases hz
 ·cases h
theorem ztf {K:KK} {ρ:Nat->Value} {w:World} {a:Act} (htb:yZ P tb) {ty e m:Nat} {x y:Operand} {sz:Nat} {z:PV} {mi:Int} (i:Nat) (hop:o.op=.makeSlice ty x y) (hk:tb.k ty=.sl e) (hx:env.pv H x=some (.base (.int .i64 mi))) (hy:env.pv H y=some (.base (.int .i64 mi))) (hmi:mi=((m:Nat):Int))
  (hz:(match tb.zero e with|some v=>zgz v|none=>none)=some z) (hzz:(match tb.get e with|some ti=>(match ti.zero with|some zv=>ti.size==sz&&zv.cells.size==sz&&Nat.blt 0 sz|none=>false)|none=>false)=true)
  (hb:(match tb.get e with|some ti=>ti.bytes|none=>0) * m<=281474976710656) (hm:m<=maxLen) (hi:H.get i=none) (hf:FS g K ρ H w) (hv:∀ z∈o.op.operands,∀ av,env.val z=some av->ARel K w ρ H av (a.eval z)) :
  ∃ v w',(execOp a.eval o).run P w=.ok (.value v) w'/\Evo K K w w'/\FS g K (fun j=>if j=i then v else ρ j) ((i,.mrow e sz (List.replicate m z))::H) w':=by
 subst hmi;cases hti:tb.get e with
 | none=>simp [hti] at hzz
 | some ti =>
  cases hzv:ti.zero with
  | none=>simp [hti,hzv] at hzz
  | some zv =>
   simp only [hti,hzv,Bool.and_eq_true,beq_iff_eq] at hzz hb;obtain ⟨⟨z1,z2⟩,z3⟩:=hzz;have hsz:0 < sz:=Nat.le_of_ble_eq_true z3;obtain ⟨tin,q1,q2,q3,q4,_⟩:=Ym htb hti;have hzp:zgz zv=some z:=by
    have:tb.zero e=some zv:=by unfold Tab.zero;rw [hti];exact hzv
    rw [this] at hz;exact hz
   have hxr:=qy (a:=a) hf (x:=x) (hv x zwy68) hx;have hyr:=qy (a:=a) hf (x:=y) (hv y zwy68) hy;generalize hxv:a.eval x=xv at hxr;generalize hyv:a.eval y=yv at hyr;cases hxr;cases hyr;obtain ⟨w',r1,r2,r3⟩:=run_make_full w g.w0.heap.size ty e tin zv sz (Zd htb hk) q1 (by rw [q4];exact hzv) zwy62 .i64 .i64 m (by rw [q3];exact hb) hm hf.below.size;have hrun:(execOp a.eval o).run P w=.ok (.value (.slice (some ⟨w.heap.size,0,none⟩) m m)) w':=by
    simp [execOp,hop,hxv,hyv,r1]
   have hev:Evo K K w w':=⟨⟨r3.os,r3.tape,r3.output,r3.size,fun k hk=>r3.block k hk zwy63⟩,fun _ _ h=>h,fun _ _ h=>.inl h,fun b o h=>Nat.lt_of_lt_of_le (hf.lt b o h) r3.size⟩
   obtain ⟨hzr,hznt⟩:=zjw (K:=K) (w:=w') hzp;have hzc:=Qo hzr;have hzo:=cells_one hzr hznt;have hzl:zv.cells.toList.length=sz:=by simpa using z2
   refine ⟨_,w',hrun,hev,hf.fresh hev hi ⟨(madeCells zv.cells (m * sz)).toList,by rw [List.length_replicate];exact r2,hsz,?_,?_⟩ zwy113⟩
   ·intro i1 e1 he1;have hi1:i1 < m:=by have:=(List.getElem?_eq_some_iff.1 he1).1;simpa using this
    have e2:e1=z:=by rw [List.getElem?_replicate,if_pos hi1] at he1;simpa using he1.symm
    subst e2;have hl:e1.cells.length=sz:=by rw [<-hzl,hzc.1]
    refine ⟨hl,fun k c' hc'=>?_⟩;have hk:k < sz:=by rw [<-hl];exact (List.getElem?_eq_some_iff.1 hc').1
    have hkz:k < zv.cells.size:=by omega
    have hu:zv.cells.toList[k]?=some zv.cells[k]:=by simp [hkz]
    refine ⟨zv.cells[k],?_,hzo _ (List.mem_of_getElem? hu),hzc.2 k c' _ hc' hu⟩;have hlt:i1 * sz + k < m * sz:=by
     have:i1 * sz + sz<=m * sz:=by rw [<-Nat.succ_mul];exact Nat.mul_le_mul_right _ hi1
     omega
    have hmod:(i1 * sz + k) % zv.cells.size=k:=by rw [z2,Nat.add_comm,Nat.add_mul_mod_self_right];exact Nat.mod_eq_of_lt hk
    simp [madeCells,hlt,hmod,hkz]
   ·intro b hb o ho;simp [Value.ownBlock] at hb;subst hb;have:=hf.lt _ _ ho;omega
theorem zdx {i e sz:Nat} {es:List PV} {a:Act} {w:World} (hi:H.get i=some (.mrow e sz es)) (hinv:Inv n g env H a w):Inv n g env ((i,.row e sz es)::H) a w:=by
 obtain ⟨h1,h2,K,ρ,hf,he⟩:=hinv;obtain ⟨xs,hown,h0,hcr,hnK⟩:=hf.heap.ok i _ hi;obtain ⟨K',hK'⟩:∃ K':KK,∀ b o,K' b o↔(K b o\/((ρ i).ownBlock=some b/\o < es.length * sz)):=⟨fun b o=>K b o\/((ρ i).ownBlock=some b/\o < es.length * sz),fun _ _=>Iff.rfl⟩
 have hlat:Later K K' w w:=⟨fun b o h=>(hK' b o).2 (.inl h),fun _ _ _=>rfl⟩
 have hk:∀ j,(H.get j).isSome=true->(HEnv.get ((i,.row e sz es)::H) j).isSome=true/\ρ j=ρ j:=fun j hj=>by
  refine ⟨?_,rfl⟩;rw [HEnv.get_cons];split
  ·rfl
  ·exact hj
 have hbo:∀ {v:Value} {nn:Nat} {zs:List Value} {ww:World} {BB t s:Nat},ww.ownsRow BB t s v nn zs->∀ b,yE v=some b↔v.ownBlock=some b:=by
  intro v nn zs ww BB t s h b;rcases h.2 with ⟨rfl,_⟩|⟨_,_,_,rfl,_⟩ <;> simp [yE,Value.ownBlock]
 have hne:∀ {j:Nat} {h:HE} {b':Nat},i≠j->H.get j=some h->h.live=true->yE (ρ j)=some b'->(ρ i).ownBlock≠some b':=fun {j h b'} hij hg hl hb e =>
  hf.heap.apart i j _ h b' hij hi hg rfl hl ((hbo hown b').2 e) hb
 refine ⟨h1,h2,K',ρ,⟨hf.below,fun b o h=>(hK' b o).2 (.inl (hf.old b o h)),fun b' o h=>?_,fun b' o h=>?_,hf.others,hf.pt.grown hf.old (row:=(ρ i).ownBlock) ⟨rfl,rfl,rfl,Nat.le_refl _,fun _ _ _=>rfl⟩ hlat (fun b hb=>hf.away i _ b hi rfl ((hbo hown b).2 hb)) (fun b o h=>(hK' b o).1 h |>.elim .inl (fun h=>.inr (.inl h.1))),hf.away.set hi rfl,?_,?_⟩,he.keeps hlat hk⟩
 ·rcases (hK' b' o).1 h with h|⟨h,_⟩
  ·exact hf.new b' o h
  ·exact .inr (hown.lt b' h).1
 ·rcases (hK' b' o).1 h with h|⟨h,_⟩
  ·exact hf.lt b' o h
  ·exact (hown.lt b' h).2
 ·intro j h hg;rw [HEnv.get_cons] at hg;split at hg
  ·rename_i e1;subst e1;simp only [Option.some.injEq] at hg;subst hg;refine ⟨xs,hown,h0,fun k e he=>?_,fun b' hb o=>?_⟩
   ·obtain ⟨c1,c2⟩:=hcr k e he;exact ⟨c1,fun k c hc=>let ⟨v,h4,h5,h6⟩:=c2 k c hc;⟨v,h4,h5,h6.later hlat⟩⟩
   ·rw [hK'];exact ⟨fun h=>(h.resolve_left (hnK b' hb o)).2,fun h=>.inr ⟨hb,h⟩⟩
  ·rename_i hij;have ho:=hf.heap.ok j h hg;by_cases hlive:h.live=true
   ·have:=ho.grown (f:=id) (w':=w) (K':=K') (ρ':=ρ) (H':=(i,.row e sz es)::H) (row:=(ρ i).ownBlock) ⟨rfl,rfl,rfl,Nat.le_refl _,fun _ _ _=>rfl⟩ hlat (fun b o h=>(hK' b o).1 h |>.elim .inl (fun h=>.inr (.inl h.1))) (fun av v h=>h.keeps hlat hk) hlive (fun b' hb'=>hne hij hg hlive hb');cases h <;> exact this
   ·cases h <;> simp [HE.live] at hlive
    ·trivial
    ·exact ARel.keeps hlat hk ho
 ·intro j k h h' b' hjk hg hg' hl hl';have f1:∀ (j:Nat) (hh:HE),HEnv.get ((i,.row e sz es)::H) j=some hh->hh.live=true->∃ h0,H.get j=some h0/\h0.live=true:=by
   intro j hh hj hl;rw [HEnv.get_cons] at hj;split at hj
   ·rename_i e';subst e';exact ⟨_,hi,rfl⟩
   ·exact ⟨hh,hj,hl⟩
  obtain ⟨a1,a2,a3⟩:=f1 j h hg hl;obtain ⟨b1,b2,b3⟩:=f1 k h' hg' hl';exact hf.heap.apart j k a1 b1 b' hjk a2 b2 a3 b3
theorem Wv (i:Nat) {e sz:Nat} {es:List PV} (hi:H.get i=some (.mrow e sz es)) (k:AW P n g c env ((i,.row e sz es)::H) QQ):AW P n g c env H QQ:=⟨fun a w hinv=>k.go a w (zdx hi hinv)⟩
theorem Zi {H':HEnv} {i:Nat} {t sz:Nat} {es es':List PV} (h:H.get i=some (.mrow t sz es)) (e:es=es') (hs:HSub H H'):HSub H ((i,.mrow t sz es')::H'):=zA (by rw [h,e]) hs
theorem zde {t:Nat} (i:Nat) (e:TypeId) (sz:Nat) (hsz:0 < sz) (ht:env.get t=some (.pv (.base (.slice none 0 0)))) (hi:H.get i=none) (h:AW P n g c ((t,.own i)::env) ((i,.mrow e sz [])::H) QQ):AW P n g c env H QQ:=by
 refine ⟨fun a w hinv=>h.go a w ?_⟩;obtain ⟨h1,h2,K,ρ,hf,he⟩:=hinv;have hev:Evo K K w w:=.refl hf.lt;refine ⟨h1,h2,K,fun j=>if j=i then .slice none 0 0 else ρ j,hf.fresh hev hi ⟨[],World.ownsRow_nil w _ e sz,hsz,fun i e h=>by simp at h,by simp [Value.ownBlock]⟩ zwy113,?_⟩;have he':=he.keeps (hev.later hf.lt) (H':=(i,.mrow e sz [])::H) (Zg hi _ (.slice none 0 0));intro t' av hg;rw [Env.get_cons] at hg;split at hg
 ·rename_i e';subst e';simp only [Option.some.injEq] at hg;subst hg;obtain ⟨v,hv,hr⟩:=he _ _ ht;cases hr with
  | pv _ _ hp =>
   cases hp;refine ⟨_,hv,?_⟩;have:=ARel.own (K:=K) (w:=w) (ρ:=fun j=>if j=i then .slice none 0 0 else ρ j) (H:=(i,HE.mrow e sz [])::H) i zwy108;simpa using this
 ·exact he' _ _ hg
end
section
variable {P:Program} {tb:Tab} {n:Nat} {g:Base} {H:HEnv} {env:Env} {ops:List Oper} {o:Oper} {rest:List Oper} {Q:Env->HEnv->Prop} {QQ:QC} {c:Code} {K:KK} {w:World} {ρ:Nat->Value} {a:Act}
theorem YF (htb:yZ P tb) {ty e:Nat} {x y:Operand} {i:Nat} {sz:Nat} {es xs:List PV} {full:Bool} {t:Nat} (hg:guardE ops env o=some true)
  (hop:o.op=.call { callee:=.builtin .append,args:=#[x,y],argTypes:=#[ty,ty] }) (hk:tb.k ty=.sl e) (hx:env.val x=some (.own i)) (hi:H.get i=some (.mrow e sz es)) (hy:env.pv H y=some (.slc sz xs full))
  (hzz:(match tb.get e with|some ti=>(match ti.zero with|some z=>ti.size==sz&&z.cells.size==sz|none=>false)|none=>false)=true)
  (hbound:(es.length + xs.length) * (match tb.get e with|some ti=>ti.bytes|none=>0)<=140737488355328) (hb2:es.length + xs.length<=140737488355328) (hd:o.dst=some t) (ht:Nat.blt t n=true)
  (h:AO P n g ops.toArray rest ((t,.own i)::zdP i env) ((i,.mrow e sz (es++xs))::zb5 i H) Q):AO P n g ops.toArray (o::rest) env H Q:=zh8 true htb hg hop hk hx hi hy hzz hbound hb2 hd ht h
def lpv (env:Env) (H:HEnv) (x:Operand):Option PV:=match env.val x with
 | some (.own i)=>match H.get i with|some (.mrow _ sz es)=>some (.slc sz es false)|_=>env.pv H x
 | _=>env.pv H x
def zuY (env:Env) (H:HEnv):List Operand->Option (List PV)
 | []=>some []
 | x::xs=>match lpv env H x,zuY env H xs with|some p,some ps=>some (p::ps)|_,_=>none
def zmM (K:KK) (ρ:Nat->Value) (H:HEnv):KK:=fun b o=>K b o\/∃ i t sz es,H.get i=some (.mrow t sz es)/\(ρ i).ownBlock=some b/\o < es.length * sz
theorem zio:Later K (zmM K ρ H) w w:=⟨fun _ _ h=>.inl h,fun _ _ _=>rfl⟩
theorem zu6 (hf:FS g K ρ H w) {x:Operand} (hv:∀ av,env.val x=some av->ARel K w ρ H av (a.eval x)) {p:PV} (h:lpv env H x=some p):PRel (zmM K ρ H) w p (a.eval x):=by
 have old:env.pv H x=some p->PRel (zmM K ρ H) w p (a.eval x):=fun h=>(qy hf hv h).later zio
 unfold lpv at h;split at h
 ·rename_i i hx;split at h
  ·rename_i t sz es hi;simp only [Option.some.injEq] at h;subst h;have hxr:=hv _ hx;generalize a.eval x=xv at hxr;cases hxr with
   | own _ _ =>
    obtain ⟨xs,hown,h0,hcr,hnK⟩:=hf.heap.ok i _ hi;rcases hown.2 with ⟨hr,hz⟩|⟨b,cap,cur,hr,hB,hheap,hle,hcap,hsize,htake⟩
    ·rw [hr];have:es=[]:=List.eq_nil_of_length_eq_zero hz;subst this;exact .nil sz false
    ·by_cases hes:es=[]
     ·subst hes;have hown':=hown;rw [hr] at hown' ⊢;exact .slc sz [] false b 0 cap (fun _=>[]) h0 (Nat.zero_le _) zwy63 (by simp [maxLen]) hcap (fun i e he=>by simp at he) (fun i e k c v he=>by simp at he)
     ·have hown':=hown;rw [hr] at hown' ⊢;have hxl:xs.length=es.length * sz:=hown.1;refine .slc sz es false b 0 cap (fun i=>(xs.drop (i * sz)).take sz) h0 hle zwy63 zwy62 hcap (fun k e he=>?_) (fun k e m c v he hc hvv=>?_)
      ·obtain ⟨c1,c2⟩:=hcr k e he;have hk:k < es.length:=(List.getElem?_eq_some_iff.1 he).1;have hle2:k * sz + sz<=es.length * sz:=by rw [<-Nat.succ_mul];exact Nat.mul_le_mul_right _ hk
       refine ⟨c1,by rw [List.length_take,List.length_drop];omega,fun m v hm=>?_⟩;rw [List.getElem?_take] at hm;split at hm
       ·rename_i hms;rw [List.getElem?_drop] at hm;obtain ⟨u,u1,u2,_⟩:=c2 m e.cells[m] (List.getElem?_eq_getElem zwy62);rw [u1,Option.some.injEq] at hm;subst hm;exact ⟨.inr ⟨i,t,sz,es,hi,by rw [hr];rfl,by omega⟩,by rw [Nat.zero_add,hown'.cellAt _ zwy62];exact u1,u2⟩
       ·cases hm
      ·obtain ⟨c1,c2⟩:=hcr k e he;obtain ⟨u,u1,u2,u3⟩:=c2 m c hc;rw [List.getElem?_take] at hvv;split at hvv
       ·rw [List.getElem?_drop,u1,Option.some.injEq] at hvv;subst hvv;exact u3.later zio
       ·cases hvv
  ·exact old h
 ·exact old h
theorem znq (hf:FS g K ρ H w):∀ {xs:List Operand} {ps:List PV},(∀ x∈xs,∀ av,env.val x=some av->ARel K w ρ H av (a.eval x))->zuY env H xs=some ps->PRels (zmM K ρ H) w ps (xs.map a.eval)
 | [],ps,_,h=>by simp [zuY] at h;subst h;exact .nil
 | x::xs,ps,hv,h=>by
  simp only [zuY] at h;split at h
  ·rename_i v vs e1 e2;simp only [Option.some.injEq] at h;subst h;exact .cons (zu6 hf (hv x zwy63) e1) (znq hf (fun y hy=>hv y zwy120) e2)
  ·cases h
theorem zsR {xs:Array Operand} {ts:Array TypeId} {f:FuncId} {args:List PV} {r:Value} {t:Nat} (hg:guardE ops env o=some true) (hop:o.op=.call { callee:=.value (.func f),args:=xs,argTypes:=ts }) (hargs:zuY env H xs.toList=some args)
  (hc:ACall P f args (.base r)) (hd:o.dst=some t) (ht:Nat.blt t n=true)
  (h:AO P n g ops.toArray rest ((t,.pv (.base r))::env) H Q):AO P n g ops.toArray (o::rest) env H Q:=by
 refine ⟨fun a w hinv=>?_⟩;have hw:=qx hinv hg;obtain ⟨h1,h2,K,ρ,hf,he⟩:=hinv;refine wpList_step fun KK hKK=>?_
 rw [if_pos hw];have hp:=znq hf (a:=a) (xs:=xs.toList) (fun x hx av hxx=>qO he hxx) hargs;have hrun:(execOp a.eval o).run P w=.ok (.enter f (xs.toList.map a.eval).toArray) w:=by
  have e:(xs.toList.map a.eval).toArray=xs.map a.eval:=by rw [<-Array.toList_map,Array.toArray_toList]
  rw [e];simp [execOp,hop,resolve,Act.eval,Deferred.ofValue,invoke,ZL hc.stands]
 unfold Oper.wp;rw [hrun];simp only [Oper.upon];have hlt:∀ b o,zmM K ρ H b o->b < w.heap.size:=by
  rintro b o (h|⟨i,t,sz,es,hi,hb,_⟩)
  ·exact hf.lt b o h
  ·obtain ⟨us,hown,_⟩:=hf.heap.ok i _ hi;exact (hown.lt b hb).2
 refine (hc.calls _ w _ hlt hp).mono ?_;rintro ex w'' ⟨v,K',rfl,hev,hr⟩;cases hr with
 | base _ hb =>
  have hev2:Evo K K w w'':=⟨hev.below,fun _ _ h=>h,fun _ _ h=>.inl h,fun b o h=>Nat.lt_of_lt_of_le (hf.lt b o h) hev.below.size⟩
  refine hKK _ _ (h.go _ _ ⟨Zy h1,put_defers h2,K,ρ,hf.evo hev2,?_⟩);rw [hd];exact Yg h1 ht (he.keeps (hev2.later hf.lt) (fun j hj=>⟨hj,rfl⟩)) (.pv _ _ (.base _ hb))
end
section
variable {P:Program} {tb:Tab} {g:Base} {H:HEnv} {env:Env} {o:Oper}
theorem zO (htb:yZ P tb) {t e:Nat} {x y:Operand} {i k sz:Nat} {es:List PV} {kk:IntKind} {m:Int} (hop:o.op=.indexAddr t x y) (hx:env.val x=some (.own i)) (hi:H.get i=some (.mrow e sz es))
  (hk:tb.k t=.sl e) (hke:tb.known e=true) (hsz:tb.size e=sz) (hy:env.pv H y=some (.base (.int kk m))) (hm:m=(k:Nat)) (hlt:k < es.length):QStep P g H o env (.ad i (k * sz)):=by
 refine ⟨fun K ρ a w hf hv=>?_⟩;have hxr:=hv x zwy68 _ hx;have hyr:=qy hf (hv y zwy68) hy;generalize hxv:a.eval x=xv at hxr;generalize hyv:a.eval y=yv at hyr;obtain ⟨xs,hown,h0,hcr,hnK⟩:=hf.heap.ok i _ hi;subst hm;cases hyr;cases hxr with
 | own _ hi' =>
  rcases hown.2 with ⟨hr,hz⟩|⟨b,cap,cur,hr,hB,hheap,hle,hcap,hsize,htake⟩
  ·omega
  ·have hko:tb.k e≠.oth:=by intro h;simp [Tab.known,h] at hke
   have hs:=run_sizeOf htb hko w;have hrun:(execOp a.eval o).run P w=.ok (.value (.pointer (some ⟨b,k * sz,none⟩))) w:=by
    simp [execOp,hop,hxv,hyv,hr,Instr.indexAt,asIntOf,run_underlying (Zd htb hk),hs,hsz,Addr.add_lit];intro hh;omega
   rw [hrun];exact Yq hf (.ad i (k * sz) b es.length cap hi' hr)
theorem aA {t e:Nat} {x y:Operand} {i k sz:Nat} {es:List PV} {kk:IntKind} {m:Int} (hlt:k < es.length) (htb:yZ P tb:=by exact zf) (hop:o.op=.indexAddr t x y:=by exact rfl) (hx:env.val x=some (.own i):=by exact rfl) (hi:H.get i=some (.mrow e sz es):=by exact rfl) (hk:tb.k t=.sl e:=by exact rfl) (hke:tb.known e=true:=by exact rfl) (hsz:tb.size e=sz:=by exact rfl) (hy:env.pv H y=some (.base (.int kk m)):=by exact rfl) (hm:m=(k:Nat):=by exact rfl):QStep P g H o env (.ad i (k * sz)):=zO htb hop hx hi hk hke hsz hy hm hlt
theorem zV (htb:yZ P tb) {ty:Nat} {x:Operand} {i k j sz off e:Nat} {es:List PV} {p q:PV} (hop:o.op=.load ty x) (hx:env.val x=some (.ad i off)) (hi:H.get i=some (.mrow e sz es)) (hoff:off=k * sz + j)
  (hp:es[k]?=some p) (hq:zcY tb ty p.cells j=some q):QStep P g H o env (.pv q):=by
 refine ⟨fun K ρ a w hf hv=>?_⟩;have hxr:=hv x zwy68 _ hx;generalize hxv:a.eval x=xv at hxr;obtain ⟨xs,hown,h0,hcr,hnK⟩:=hf.heap.ok i _ hi;have hkl:k < es.length:=(List.getElem?_eq_some_iff.1 hp).1;cases hxr with
 | ad _ _ b m c hi' hρ =>
  have hown':=hown;rw [hρ] at hown';have hm:m=es.length:=by
   rcases hown'.2 with ⟨hr,_⟩|⟨_,_,_,hr,_⟩
   ·simp at hr
   ·simp at hr;exact hr.2.1
  subst hm;obtain ⟨hl,hc⟩:=hcr k p hp;have hle:k * sz + sz<=es.length * sz:=by rw [<-Nat.succ_mul];exact Nat.mul_le_mul_right _ hkl
  have hlen:xs.length=es.length * sz:=hown.1;have hcell:∀ (t:Nat) (v:Value),((xs.drop (k * sz)).take sz)[t]?=some v->w.cell? ⟨b,k * sz + t,none⟩=some v:=by
   intro t v hv;rw [List.getElem?_take] at hv;split at hv
   ·rw [List.getElem?_drop] at hv;rw [hown'.cellAt _ zwy62];exact hv
   ·cases hv
  have hrels:PRels K w p.cells ((xs.drop (k * sz)).take sz):=by
   refine ⟨by rw [List.length_take,List.length_drop];omega,fun t c v hc' hv=>?_⟩;rw [List.getElem?_take] at hv;split at hv
   ·rw [List.getElem?_drop] at hv;obtain ⟨u,hu,_,hr⟩:=hc t c hc';rw [hu,Option.some.injEq] at hv;subst hv;exact hr
   ·cases hv
  have hone:∀ v∈(xs.drop (k * sz)).take sz,v.oneCell'=true:=by
   intro v hv;obtain ⟨t,hlt,rfl⟩:=List.getElem_of_mem hv;have hlt':t < sz:=by rw [List.length_take] at hlt;omega
   have ht':t < p.cells.length:=by omega
   obtain ⟨u,hu,h1u,_⟩:=hc t p.cells[t] (List.getElem?_eq_getElem ht');rw [List.getElem_take,List.getElem_drop];have:=(List.getElem?_eq_some_iff.1 hu).2;rw [this];exact h1u
  obtain ⟨v,hv,hvr⟩:=XG htb (b:=b) (o:=k * sz) hcell hrels hone hq;have hrun:(execOp a.eval o).run P w=.ok (.value v) w:=by
   subst hoff;simp [execOp,hop,hxv,Instr.loadAt,Instr.sureAddr,hv]
  rw [hrun];exact Yq hf (.pv _ _ hvr)
theorem au {ty:Nat} {x:Operand} {i k j sz off e:Nat} {es:List PV} {p q:PV} (hp:es[k]?=some p) (htb:yZ P tb:=by exact zf) (hop:o.op=.load ty x:=by exact rfl) (hx:env.val x=some (.ad i off):=by exact rfl) (hi:H.get i=some (.mrow e sz es):=by exact rfl) (hoff:off=k * sz + j:=by exact rfl) (hq:zcY tb ty p.cells j=some q:=by exact rfl):QStep P g H o env (.pv q):=zV htb hop hx hi hoff hp hq
end
end Go.Cg
namespace Go.Cg
open Go.RowKit Go.ChangeShapes Go.WideShapes Go.ChangeAt Go.Deep
def KW (w:World):KK:=fun b _=>b < w.heap.size
section
variable {H:Type} {enc:TypeId × Value->H} {P:Program} {w:World}
def Rd (enc:TypeId × Value->H) (P:Program) (w:World) (t:TypeId) (sz:Nat) (X:List PV->Prop):Prop :=
 P.cellsOf t=sz/\∀ fuel cs x,DataW.trod enc P w 0 (fun _=>true) true fuel t cs=some x->∃ pvs,X pvs/\PRels (KW w) w pvs cs/\cs.length=sz/\(∀ v∈cs,v.oneCell'=true)
theorem Rd.mono {t:TypeId} {sz:Nat} {X Y:List PV->Prop} (h:Rd enc P w t sz X) (hxy:∀ ps,X ps->Y ps):Rd enc P w t sz Y :=
 ⟨h.1,fun fuel cs x hx=>let ⟨ps,h1,h2⟩:=h.2 fuel cs x hx;⟨ps,hxy ps h1,h2⟩⟩
theorem zpd {t:TypeId} {k:IntKind} (ht:P.underlying t=some (.int k)) (hc:P.cellsOf t=1):Rd enc P w t 1 (fun ps=>∃ n,(Lit.int k n).wf=true/\ps=[.base (.int k n)]):=by
 refine ⟨hc,fun fuel cs x hx=>?_⟩;obtain ⟨n,rfl,_,hw⟩:=DataW.trod_int ht hx;exact ⟨_,⟨n,hw,rfl⟩,.cons (.base _ rfl) .nil,rfl,by simp [Value.oneCell']⟩
theorem zvA {t:TypeId} (ht:P.underlying t=some .bool) (hc:P.cellsOf t=1):Rd enc P w t 1 (fun ps=>∃ b,ps=[.base (.bool b)]):=by
 refine ⟨hc,fun fuel cs x hx=>?_⟩;obtain ⟨b,rfl,_⟩:=DataW.trod_bool ht hx;exact ⟨_,⟨b,rfl⟩,.cons (.base _ rfl) .nil,rfl,by simp [Value.oneCell']⟩
theorem zr7 {t:TypeId} (ht:P.underlying t=some .string) (hc:P.cellsOf t=1):Rd enc P w t 1 (fun ps=>∃ s:ByteArray,s.size<=maxLen/\ps=[.base (.string s)]):=by
 refine ⟨hc,fun fuel cs x hx=>?_⟩;obtain ⟨s,rfl,_,hs⟩:=DataW.trod_string ht hx;exact ⟨_,⟨s,hs,rfl⟩,.cons (.base _ (by simpa [Xh] using hs)) .nil,rfl,by simp [Value.oneCell']⟩
theorem za9 {t e:TypeId} {sz:Nat} {α:Type} [Inhabited α] {G:α->Prop} {f:α->PV} (ht:P.underlying t=some (.slice e)) (hc:P.cellsOf t=1) (h0:0 < sz) (he:Rd enc P w e sz (fun ps=>∃ x:α,G x/\ps=(f x).cells)) :
  Rd enc P w t 1 (fun ps=>∃ l:List α,(∀ x∈l,G x)/\ps=[.slc sz (l.map f) false]):=by
 refine ⟨hc,fun fuel cs x hx=>?_⟩;obtain ⟨hes,hel⟩:=he;rcases open_slice ht hx with ⟨rfl,_⟩|⟨a,len,cap,m,n,D,Pl,rfl,_,hl,hm,hmm,_,hall⟩
 ·exact ⟨_,⟨[],by simp,rfl⟩,.cons (.nil sz false) .nil,rfl,by simp [Value.oneCell']⟩
 ·simp only [if_true] at hmm;subst hmm;rw [hes] at hall;by_cases hcap:m=0
  ·subst hcap;obtain rfl:len=0:=by omega
   exact ⟨_,⟨[],by simp,rfl⟩,.cons (.emp sz false a) .nil,rfl,by simp [Value.oneCell']⟩
  ·have hx:∀ i,i < len->∃ y:α × List Value,G y.1/\w.cells? 0 (a.add (i * sz)) sz=some y.2/\PRels (KW w) w (f y.1).cells y.2/\y.2.length=sz/\(∀ v∈y.2,v.oneCell'=true):=by
    intro i hi;obtain ⟨cs',h1,h2⟩:=hall i zwy62;obtain ⟨pvs,⟨x,hg,rfl⟩,h4,h5,h6⟩:=hel _ _ _ h2;exact ⟨(x,cs'),hg,h1,h4,h5,h6⟩
   obtain ⟨F,hF⟩:=choose_lt hx;obtain ⟨b,o,spot⟩:=a;have hspot:spot=none:=by
    obtain ⟨cs',h1,_⟩:=hall 0 zwy62;obtain ⟨_,h2,h3⟩:=World.cells?_some h1;have:=h3 0 h0;have h4:cs'[0]?=some (cs'[0]'zwy62):=List.getElem?_eq_getElem _;rw [h4] at this;simp only [Nat.zero_mul] at this;have:=World.cell?_spot this;simpa [Addr.add] using this
   subst hspot;refine ⟨_,⟨(List.range len).map fun i=>(F i).1,?_,rfl⟩,.cons ?_ .nil,rfl,by simp [Value.oneCell']⟩
   ·intro x hx;simp only [List.mem_map,List.mem_range] at hx;obtain ⟨i,hi,rfl⟩:=hx;exact (hF i hi).1
   ·have hlen:(((List.range len).map fun i=>(F i).1).map f).length=len:=by simp
    have hget:∀ i e,(((List.range len).map fun i=>(F i).1).map f)[i]?=some e->i < len/\e=f (F i).1:=by
     intro i e he;have hi:i < len:=by have:=(List.getElem?_eq_some_iff.1 he).1;rw [hlen] at this;exact this
     refine ⟨hi,?_⟩;simp [hi] at he;exact he.symm
    have:=PRel.slc (K:=KW w) (w:=w) sz (((List.range len).map fun i=>(F i).1).map f) false b o m (fun i=>(F i).2) h0 (by rw [hlen];exact hl) zwy63 (by rw [hlen];omega) hm
     (fun i e he=>by
      obtain ⟨hi,rfl⟩:=hget i e he;obtain ⟨_,h1,h2,h3,h4⟩:=hF i hi;refine ⟨by rw [<-h2.1];exact h3,h3,fun k v hv=>?_⟩;have hk:k < sz:=by rw [<-h3];exact (List.getElem?_eq_some_iff.1 hv).1
      obtain ⟨_,_,h5⟩:=World.cells?_some h1;have h6:=h5 k hk;rw [hv,Addr.add_lit,Addr.add_lit] at h6;have h7:b < w.heap.size:=World.cells?_block h1 h0 |> (by simpa [Addr.add_lit] using ·);exact ⟨h7,h6,h4 v (List.mem_of_getElem? hv)⟩)
     (fun i e k c v he hc hv=>by
      obtain ⟨hi,rfl⟩:=hget i e he;exact (hF i hi).2.2.1.2 k c v hc hv)
    rw [hlen] at this;exact this
def zv4:List (List PV->Prop)->List PV->Prop
 | [],ps=>ps=[]
 | X::r,ps=>∃ a b,X a/\zv4 r b/\ps=a++b
def zkr (enc:TypeId × Value->H) (P:Program) (w:World) (n:Nat):List Field->List (List PV->Prop)->Nat->Prop
 | [],[],off=>off=n
 | f::fs,X::Xs,off=>f.offset=off/\∃ sz,Rd enc P w f.type sz X/\zkr enc P w n fs Xs (off + sz)
 | _,_,_=>False
theorem zaS {n:Nat}:zkr enc P w n [] [] n:=rfl
theorem yQ {n sz off:Nat} {f:Field} {fs:List Field} {X:List PV->Prop} {Xs:List (List PV->Prop)} (ho:f.offset=off) (hr:Rd enc P w f.type sz X) (h:zkr enc P w n fs Xs (off + sz)):zkr enc P w n (f::fs) (X::Xs) off:=⟨ho,sz,hr,h⟩
theorem zoi {n m:Nat} {cs:List Value} (hl:cs.length=n):∀ {fs:List Field} {Xs:List (List PV->Prop)} {off:Nat},zkr enc P w n fs Xs off ->
  (∀ (i:Nat) (f:Field),fs[i]?=some f->∃ x,DataW.trod enc P w 0 (fun _=>true) true m f.type ((cs.drop f.offset).take (P.cellsOf f.type))=some x) ->
  ∃ pvs,zv4 Xs pvs/\PRels (KW w) w pvs (cs.drop off)/\(∀ v∈cs.drop off,v.oneCell'=true)
 | [],[],off,h,_=>by
  have h:off=n:=h;subst h;have:cs.drop off=[]:=by rw [<-hl];simp
  rw [this];exact ⟨[],rfl,.nil,by simp⟩
 | f::fs,X::Xs,off,h,hall=>by
  obtain ⟨rfl,sz,⟨h1,h2⟩,h3⟩:=h;obtain ⟨x,hx⟩:=hall 0 f rfl;obtain ⟨pa,a1,a2,a3,a4⟩:=h2 _ _ _ hx;obtain ⟨pb,b1,b2,b3⟩:=zoi hl h3 (fun i g hg=>hall (i + 1) g (by simpa using hg));have e:cs.drop f.offset=(cs.drop f.offset).take sz++cs.drop (f.offset + sz):=by
   rw [<-List.drop_drop,List.take_append_drop]
  rw [h1] at a2 a3 a4;rw [e];exact ⟨pa++pb,⟨pa,pb,a1,b1,rfl⟩,a2.append b2,fun v hv=>(List.mem_append.1 hv).elim (a4 v) (b3 v)⟩
theorem Vo {t:TypeId} {fs:Array Field} {n:Nat} {Xs:List (List PV->Prop)} (ht:P.underlying t=some (.struct fs)) (hc:P.cellsOf t=n) (hf:zkr enc P w n fs.toList Xs 0):Rd enc P w t n (zv4 Xs):=by
 refine ⟨hc,fun fuel cs x hx=>?_⟩;obtain ⟨xs,m,_,_,hl,hxs,hall⟩:=DataW.trod_struct ht hx;have:=zoi (m:=m) (by rw [hl,hc]) hf (fun i f hf=>by
  have hi:i < fs.size:=by simpa using (List.getElem?_eq_some_iff.1 hf).1
  have:=hall i f (by simpa using hf);exact ⟨_,this.trans (List.getElem?_eq_getElem zwy62)⟩)
 simp only [List.drop_zero] at this;obtain ⟨pvs,h1,h2,h3⟩:=this;exact ⟨pvs,h1,h2,by rw [hl,hc],h3⟩
theorem zw1 {t:TypeId} {X:List PV->Prop} (h:Rd enc P w t 1 X) {v:Value} {d:DataW H} {ps:List MemPlace} (hv:v.cells=#[v]) (ht:DataW.Trod enc P w 0 (fun _=>true) true t v d ps):∃ p,X [p]/\PRel (KW w) w p v:=by
 obtain ⟨fuel,hx⟩:=ht;obtain ⟨pvs,h1,h2,_,_⟩:=h.2 _ _ _ hx;rw [hv] at h2;have hl:pvs.length=1:=by simpa using h2.1.symm
 obtain ⟨p,rfl⟩:=List.length_eq_one_iff.1 hl;exact ⟨p,h1,h2.2 0 p v zwy63 zwy63⟩
theorem zxa {t:TypeId} {n:Nat} {X:List PV->Prop} (h:Rd enc P w t n X) {cs:Array Value} {d:DataW H} {ps:List MemPlace} (ht:DataW.Trod enc P w 0 (fun _=>true) true t (.agg cs) d ps):∃ pvs,X pvs/\PRel (KW w) w (.agg pvs) (.agg cs):=by
 obtain ⟨fuel,hx⟩:=ht;obtain ⟨pvs,h1,h2,_,h4⟩:=h.2 _ _ _ hx;refine ⟨pvs,h1,?_⟩;have:=PRel.agg pvs cs.toList h2.1 (by simpa [Value.cells] using h4) (by simpa [Value.cells] using h2.2);simpa using this
theorem zqZ {t e:TypeId} {v:Value} (ht:P.underlying t=some (.slice e)) {base:Nat} (h:Value.okWide P w .any base t v):v.cells=#[v]:=by
 simp only [Value.okWide,ht,Cell.okWide,Cell.ok] at h;cases v <;> first|rfl|simp at h
theorem okWide_int_one {t:TypeId} {k:IntKind} {v:Value} (ht:P.underlying t=some (.int k)) {base:Nat} (h:Value.okWide P w .any base t v):v.cells=#[v]:=by
 simp only [Value.okWide,ht,Cell.okWide,Cell.ok] at h;cases v <;> first|rfl|simp at h
theorem okWide_struct {t:TypeId} {fs:Array Field} {v:Value} (ht:P.underlying t=some (.struct fs)) {base:Nat} (h:Value.okWide P w .any base t v):∃ cs,v=.agg cs:=by
 simp only [Value.okWide,ht] at h;obtain ⟨cs,h,_⟩:=h;exact ⟨cs,h⟩
theorem zwh {t e:TypeId} {n:Nat} {v:Value} (ht:P.underlying t=some (.array n e)) {base:Nat} (h:Value.okWide P w .any base t v):∃ cs,v=.agg cs:=by
 simp only [Value.okWide,ht] at h;obtain ⟨cs,h,_⟩:=h;exact ⟨cs,h⟩
theorem zxm {t e:TypeId} {sz:Nat} {X:List PV->Prop} (ht:P.underlying t=some (.array 3 e)) (hc:P.cellsOf t=3 * sz) (he:Rd enc P w e sz X):Rd enc P w t (3 * sz) (zv4 [X,X,X]):=by
 refine ⟨hc,fun fuel cs x hx=>?_⟩;obtain ⟨xs,m,_,_,hl,hxs,hall⟩:=DataW.trod_array ht hx;obtain ⟨hes,hel⟩:=he;rw [hc] at hl;rw [hes] at hall;have one:∀ i,i < 3->∃ pvs,X pvs/\PRels (KW w) w pvs ((cs.drop (i * sz)).take sz)/\(∀ v∈(cs.drop (i * sz)).take sz,v.oneCell'=true):=by
  intro i hi;have h1:=(hall i hi).trans (List.getElem?_eq_getElem zwy62);obtain ⟨pvs,h2,h3,_,h5⟩:=hel _ _ _ h1;exact ⟨pvs,h2,h3,h5⟩
 obtain ⟨a,a1,a2,a3⟩:=one 0 zwy62;obtain ⟨b,b1,b2,b3⟩:=one 1 zwy62;obtain ⟨c,c1,c2,c3⟩:=one 2 zwy62;have hcs:cs=(cs.drop (0 * sz)).take sz++((cs.drop (1 * sz)).take sz++(cs.drop (2 * sz)).take sz):=by
  have e1:cs=cs.take sz++(cs.drop sz):=(List.take_append_drop sz cs).symm;have e2:cs.drop sz=(cs.drop sz).take sz++(cs.drop sz).drop sz:=(List.take_append_drop sz _).symm;have e3:(cs.drop sz).drop sz=(cs.drop (2 * sz)).take sz:=by
   rw [List.drop_drop,show sz + sz=2 * sz by omega,List.take_of_length_le];simp;omega
  simp only [Nat.zero_mul,List.drop_zero,Nat.one_mul];rw [<-e3,<-e2,<-e1]
 refine ⟨a++(b++c),⟨a,b++c,a1,⟨b,c,b1,⟨c,[],c1,rfl,by simp⟩,rfl⟩,rfl⟩,?_,hl,?_⟩
 ·rw [hcs];exact a2.append (b2.append c2)
 ·rw [hcs];intro v hv;simp only [List.mem_append] at hv;rcases hv with hv|hv|hv
  ·exact a3 v hv
  ·exact b3 v hv
  ·exact c3 v hv
end
end Go.Cg
namespace Go.Cg
open Go.RowKit Go.Proofs
def zk3 (t:Ty):Prop:=(Lit.int .i64 t.kind).wf=true/\(Lit.int .i64 t.index).wf=true/\(Lit.int .i64 t.dims).wf=true
def ztw (l:List Ty):Prop:=∀ t∈l,zk3 t
def zwK (t:TD):Prop:=(Lit.int .i64 t.flags).wf=true/\(Lit.int .i64 t.ext).wf=true/\∀ f∈t.faces,(Lit.int .i64 f).wf=true
def zwX (f:Fd):Prop:=(Lit.int .i64 f.owner).wf=true/\zk3 f.ty
def zs6 (x:Ins):Prop:=(Lit.int .i64 x.op).wf=true/\(Lit.int .i64 x.arg).wf=true/\zk3 x.t
def zwE (c:Cl):Prop:=(Lit.int .i64 c.kind).wf=true/\(Lit.int .i64 c.tf).wf=true/\(Lit.int .i64 c.tt).wf=true/\(Lit.int .i64 c.hf).wf=true/\(Lit.int .i64 c.ht).wf=true/\(Lit.int .i64 c.filter).wf=true/\zk3 c.t
def zwD (m:Me):Prop:=(Lit.int .i64 m.owner).wf=true/\(Lit.int .i64 m.flags).wf=true/\ztw m.params/\zk3 m.ret/\ztw m.locals/\(Lit.int .i64 m.max).wf=true/\(∀ x∈m.code,zs6 x)/\∀ c∈m.clauses,zwE c
def zqD (g:Img):Prop:=(∀ t∈g.types,zwK t)/\(∀ f∈g.fields,zwX f)/\(∀ m∈g.methods,zwD m)/\(Lit.int .i64 g.entry).wf=true
def zx3 (l:Ty × Ty × Ty):PV:=.agg ((yI l.1).cells++((yI l.2.1).cells++(yI l.2.2).cells))
def zx4 (l:Ty × Ty × Ty):Prop:=zk3 l.1/\zk3 l.2.1/\zk3 l.2.2
def zwJ (n:Int):Prop:=(Lit.int .u8 n).wf=true
section
variable {H:Type} {enc:TypeId × Value->H} {w:World}
theorem WU:Rd enc Tryz.prog w 3 1 (fun ps=>∃ n,(Lit.int .i64 n).wf=true/\ps=[.base (.int .i64 n)]):=zpd Tryz.underlying3 zws
theorem zu9:Rd enc Tryz.prog w 2 1 (fun ps=>∃ n,(Lit.int .i64 n).wf=true/\ps=[.base (.int .i64 n)]):=zpd Tryz.underlying2 zws
theorem rdBool:Rd enc Tryz.prog w 4 1 (fun ps=>∃ b,ps=[.base (.bool b)]):=zvA Tryz.underlying4 zws
theorem rdStr:Rd enc Tryz.prog w 9 1 (fun ps=>∃ s:ByteArray,s.size<=maxLen/\ps=[.base (.string s)]):=zr7 Tryz.underlying9 zws
theorem zsO:Rd enc Tryz.prog w 32 4 (fun ps=>∃ t:Ty,zk3 t/\ps=(yI t).cells):=by
 refine (Vo Tryz.underlying32 zws (yQ rfl WU (yQ rfl WU (yQ rfl WU (yQ rfl rdBool zaS))))).mono ?_;rintro _ ⟨_,_,⟨a,ha,rfl⟩,⟨_,_,⟨b,hb,rfl⟩,⟨_,_,⟨c,hc,rfl⟩,⟨_,_,⟨d,rfl⟩,rfl,rfl⟩,rfl⟩,rfl⟩,rfl⟩;exact ⟨⟨a,b,c,d⟩,⟨ha,hb,hc⟩,rfl⟩
theorem zwu:Rd enc Tryz.prog w 30 1 (fun ps=>∃ l:List Ty,ztw l/\ps=[tys l]):=za9 Tryz.underlying30 zws zwy69 zsO
theorem zwY:Rd enc Tryz.prog w 53 1 (fun ps=>∃ l:List Int,(∀ n∈l,(Lit.int .i64 n).wf=true)/\ps=[ints l]) :=
 za9 (f:=pi) Tryz.underlying53 zws zwy69 WU
theorem zxW:Rd enc Tryz.prog w 55 4 (fun ps=>∃ t:TD,zwK t/\ps=(Zw t).cells):=by
 refine (Vo Tryz.underlying55 zws (yQ rfl rdStr (yQ rfl WU (yQ rfl WU (yQ rfl zwY zaS))))).mono ?_;rintro _ ⟨_,_,⟨a,ha,rfl⟩,⟨_,_,⟨b,hb,rfl⟩,⟨_,_,⟨c,hc,rfl⟩,⟨_,_,⟨d,hd,rfl⟩,rfl,rfl⟩,rfl⟩,rfl⟩,rfl⟩;exact ⟨⟨a,b,c,d⟩,⟨hb,hc,hd⟩,rfl⟩
theorem zx1:Rd enc Tryz.prog w 82 7 (fun ps=>∃ t:Fd,zwX t/\ps=(ZI t).cells):=by
 refine (Vo Tryz.underlying82 zws (yQ rfl rdStr (yQ rfl WU (yQ rfl zsO (yQ rfl rdBool zaS))))).mono ?_;rintro _ ⟨_,_,⟨a,ha,rfl⟩,⟨_,_,⟨b,hb,rfl⟩,⟨_,_,⟨c,hc,rfl⟩,⟨_,_,⟨d,rfl⟩,rfl,rfl⟩,rfl⟩,rfl⟩,rfl⟩;exact ⟨⟨a,b,c,d⟩,⟨hb,hc⟩,rfl⟩
theorem zxN:Rd enc Tryz.prog w 45 6 (fun ps=>∃ t:Ins,zs6 t/\ps=(yM t).cells):=by
 refine (Vo Tryz.underlying45 zws (yQ rfl WU (yQ rfl zu9 (yQ rfl zsO zaS)))).mono ?_;rintro _ ⟨_,_,⟨a,ha,rfl⟩,⟨_,_,⟨b,hb,rfl⟩,⟨_,_,⟨c,hc,rfl⟩,rfl,rfl⟩,rfl⟩,rfl⟩;exact ⟨⟨a,b,c⟩,⟨ha,hb,hc⟩,rfl⟩
theorem zxX:Rd enc Tryz.prog w 90 10 (fun ps=>∃ t:Cl,zwE t/\ps=(qR t).cells):=by
 refine (Vo Tryz.underlying90 zws (yQ rfl WU (yQ rfl WU (yQ rfl WU (yQ rfl WU (yQ rfl WU (yQ rfl WU (yQ rfl zsO zaS)))))))).mono ?_;rintro _ ⟨_,_,⟨a,ha,rfl⟩,⟨_,_,⟨b,hb,rfl⟩,⟨_,_,⟨c,hc,rfl⟩,⟨_,_,⟨d,hd,rfl⟩,⟨_,_,⟨e,he,rfl⟩,⟨_,_,⟨f,hf,rfl⟩,⟨_,_,⟨t,ht,rfl⟩,rfl,rfl⟩,rfl⟩,rfl⟩,rfl⟩,rfl⟩,rfl⟩,rfl⟩;exact ⟨⟨a,b,c,d,e,f,t⟩,⟨ha,hb,hc,hd,he,hf,ht⟩,rfl⟩
theorem zwR:Rd enc Tryz.prog w 33 1 (fun ps=>∃ l:List Ins,(∀ x∈l,zs6 x)/\ps=[.slc 6 (l.map yM) false]):=za9 Tryz.underlying33 zws zwy69 zxN
theorem zxp:Rd enc Tryz.prog w 34 1 (fun ps=>∃ l:List Cl,(∀ x∈l,zwE x)/\ps=[.slc 10 (l.map qR) false]):=za9 Tryz.underlying34 zws zwy69 zxX
theorem zx0:Rd enc Tryz.prog w 36 12 (fun ps=>∃ t:Me,zwD t/\ps=(zY t).cells):=by
 refine (Vo Tryz.underlying36 zws (yQ rfl rdStr (yQ rfl WU (yQ rfl WU (yQ rfl zwu (yQ rfl zsO (yQ rfl zwu (yQ rfl WU (yQ rfl zwR (yQ rfl zxp zaS)))))))))).mono ?_;rintro _ ⟨_,_,⟨a,ha,rfl⟩,⟨_,_,⟨b,hb,rfl⟩,⟨_,_,⟨c,hc,rfl⟩,⟨_,_,⟨d,hd,rfl⟩,⟨_,_,⟨e,he,rfl⟩,⟨_,_,⟨f,hf,rfl⟩,⟨_,_,⟨t,ht,rfl⟩,⟨_,_,⟨x,hx,rfl⟩,⟨_,_,⟨y,hy,rfl⟩,rfl,rfl⟩,rfl⟩,rfl⟩,rfl⟩,rfl⟩,rfl⟩,rfl⟩,rfl⟩,rfl⟩;exact ⟨⟨a,b,c,d,e,f,t,x,y⟩,⟨hb,hc,hd,he,hf,ht,hx,hy⟩,rfl⟩
theorem zxr:Rd enc Tryz.prog w 22 1 (fun ps=>∃ l:List TD,(∀ x∈l,zwK x)/\ps=[.slc 4 (l.map Zw) false]):=za9 Tryz.underlying22 zws zwy69 zxW
theorem zxv:Rd enc Tryz.prog w 23 1 (fun ps=>∃ l:List Fd,(∀ x∈l,zwX x)/\ps=[.slc 7 (l.map ZI) false]):=za9 Tryz.underlying23 zws zwy69 zx1
theorem zxB:Rd enc Tryz.prog w 24 1 (fun ps=>∃ l:List Me,(∀ x∈l,zwD x)/\ps=[.slc 12 (l.map zY) false]):=za9 Tryz.underlying24 zws zwy69 zx0
theorem zxF:Rd enc Tryz.prog w 26 4 (fun ps=>∃ t:Img,zqD t/\ps=(zK t).cells):=by
 refine (Vo Tryz.underlying26 zws (yQ rfl zxr (yQ rfl zxv (yQ rfl zxB (yQ rfl WU zaS))))).mono ?_;rintro _ ⟨_,_,⟨a,ha,rfl⟩,⟨_,_,⟨b,hb,rfl⟩,⟨_,_,⟨c,hc,rfl⟩,⟨_,_,⟨d,hd,rfl⟩,rfl,rfl⟩,rfl⟩,rfl⟩,rfl⟩;exact ⟨⟨a,b,c,d⟩,⟨ha,hb,hc,hd⟩,rfl⟩
end
theorem own:ownKnob Tryz.prog.godebug=none:=by kernel_rfl
theorem laidOut:laidOutB Tryz.prog=true:=by kernel_rfl
theorem zx5 {H:Type} {enc:TypeId × Value->H} {w:World}:Rd enc Tryz.prog w 5 1 (fun ps=>∃ n,zwJ n/\ps=[.base (.int .u8 n)]):=zpd Tryz.underlying5 zws
theorem zxR {n:Int} (h:zwJ n):0<=n/\n<=255:=by
 simp [zwJ,Lit.wf,IntKind.has,IntKind.min,IntKind.max,IntKind.bits,IntKind.signed] at h;omega
end Go.Cg
