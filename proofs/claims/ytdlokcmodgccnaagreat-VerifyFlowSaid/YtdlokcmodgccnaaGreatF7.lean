/- A part of the walks by abstract values: no statement of its own. -/
import Derived.Test.YtdlokcmodgccnaaGreatF4
import Derived.Test.YtdlokcmodgccnaaGreatF6
import Derived.Laws.OwnMore
import Derived.RangeFuncFrom
import Derived.RangeFuncLeaves
import Derived.RangeFuncWrites
set_option linter.unusedVariables false
set_option linter.unusedSimpArgs false
namespace Go.Cg
theorem BL:(∀ b:Bool,(b&&true)=b)∧(∀ b:Bool,(true&&b)=b)∧(∀ b:Bool,(b&&false)=false)∧(∀ b:Bool,(false&&b)=false)∧(∀ b:Bool,(b||true)=true)∧(∀ b:Bool,(true||b)=true)∧(∀ b:Bool,(b||false)=b)
  ∧ (∀ b:Bool,(false||b)=b)∧((!true)=false)∧((!false)=true):=by simp
theorem drop_cons {α:Type} {l:List α} {k:Nat} (h:k < l.length):l.drop k=l[k]::l.drop (k + 1):=List.drop_eq_getElem_cons h
theorem ZO {α:Type} {l:List α} {p:α→Bool} {k:Nat} (h:k < l.length):(l.drop k).all p=(p l[k]&&(l.drop (k + 1)).all p):=by rw [drop_cons h];rfl
theorem QF {α:Type} {l:List α} {p:α→Bool} {k:Nat} (h:k < l.length):(l.drop k).any p=(p l[k]||(l.drop (k + 1)).any p):=by rw [drop_cons h];rfl
theorem drop_end {α:Type} {l:List α} {k:Nat} (h:l.length≤k):l.drop k=[]:=List.drop_eq_nil_of_le h
theorem qR:∀ (n:Nat) (l:List Int),l.Nodup→(∀ x∈l,0≤x∧x < n)→l.length≤n
 | 0,l,_,h=>by
  cases l with
  | nil=>simp
  | cons x l=>have:=h x (by simp);omega
 | n + 1,l,hd,h=>by
  by_cases hm:(n:Int)∈l
  ·have h1:=qR n (l.erase n) (hd.erase _) (fun x hx=>by
    rw [hd.mem_erase_iff] at hx
    have:=h x hx.2
    omega)
   rw [List.length_erase_of_mem hm] at h1
   omega
  ·have:=qR n l hd (fun x hx=>by
    have:=h x hx
    have hne:x≠n:=by rintro rfl;exact hm hx
    omega)
   omega
end Go.Cg
namespace Go.Cg
open Go.RowKit
section
variable {P:Program} {n:Nat} {g:Base} {K:KK} {w:World} {ρ:Nat→Value} {H:HEnv} {env:Env} {a:Act} {ops l:List Oper} {Q:Env→Prop}
end
def zhG (p:PV) (j n:Nat) (q:PV):Option PV :=
 if q.cells.length=n∧j + n≤p.cells.length then
  (if j=0∧p.cells.length=n then some q else match p with|.agg cs=>some (.agg (cs.take j++q.cells++cs.drop (j + n)))|_=>none)
 else none
theorem zkE {p q r:PV} {j n:Nat} (h:zhG p j n q=some r):q.cells.length=n∧j + n≤p.cells.length∧r.cells=p.cells.take j++q.cells++p.cells.drop (j + n):=by
 unfold zhG at h
 split at h
 ·rename_i hh
  refine ⟨hh.1,hh.2,?_⟩
  split at h
  ·rename_i h2
   simp only [Option.some.injEq] at h;subst h
   obtain ⟨rfl,h3⟩:=h2
   rw [List.take_zero,List.nil_append,Nat.zero_add,List.drop_eq_nil_of_le (by omega),List.append_nil]
  ·split at h
   ·simp only [Option.some.injEq] at h;subst h;rfl
   ·cases h
 ·cases h
theorem YB {α:Type} {xs ys:List α} {off t:Nat} (h:off + ys.length≤xs.length) :
  (xs.take off++ys++xs.drop (off + ys.length))[t]?=if t < off then xs[t]? else if t < off + ys.length then ys[t - off]? else xs[t]?:=by
 have e1:(xs.take off).length=off:=by rw [List.length_take];omega
 rw [List.append_assoc,List.getElem?_append,e1]
 split
 ·rw [List.getElem?_take,if_pos (by assumption)]
 ·rename_i h1
  rw [List.getElem?_append]
  split
  ·rw [if_pos (by omega)]
  ·rw [if_neg (by omega),List.getElem?_drop];congr 1;omega
theorem zfX {α:Type} {xs ys:List α} {off m:Nat} (h:off + ys.length≤m) (hm:m≤xs.length) :
  (xs.take off++ys++xs.drop (off + ys.length)).take m=(xs.take m).take off++ys++(xs.take m).drop (off + ys.length):=by
 apply List.ext_getElem?
 intro t
 rw [List.getElem?_take,YB (by omega),YB (by rw [List.length_take];omega)]
 simp only [List.getElem?_take]
 split
 ·rfl
 ·rw [if_neg (by omega),if_neg (by omega)]
section
variable {P:Program} {tb:Tab} {n:Nat} {g:Base} {H:HEnv} {env:Env} {ops:List Oper} {o:Oper} {rest:List Oper} {Q:Env→HEnv→Prop} {QQ:QC} {c:Code}
theorem zbJ (htb:yB P tb) {ty e d:Nat} {x:Operand} {i sz:Nat} {es:List PV} (hg:guardE ops env o=some true) (hop:o.op=.call { callee:=.builtin .len,args:=#[x],argTypes:=#[ty] }) (hx:env.val x=some (.own i)) (hi:H.get i=some (.mrow e sz es))
  (hk:tb.k ty=.sl e) (hd:o.dst=some d) (ht:Nat.blt d n=true) (h:AO P n g ops.toArray rest ((d,.pv (.base (.int .i64 (es.length:Nat))))::env) H Q):AO P n g ops.toArray (o::rest) env H Q:=by
 refine ⟨fun a w hinv=>?_⟩
 have hw:=yF hinv hg
 obtain ⟨h1,h2,K,ρ,hf,he⟩:=hinv
 refine wpList_step fun KK hKK=>?_
 rw [if_pos hw]
 have hxr:=yU he hx
 generalize hxv:a.eval x=xv at hxr
 obtain ⟨xs,hown,h0,hcr,hnK⟩:=hf.heap.ok i _ hi
 cases hxr with
 | own _ hi' =>
  have hv:∃ ad' cap,ρ i=.slice ad' es.length cap:=by
   rcases hown.2 with ⟨hr,hz⟩|⟨b,cap,cur,hr,_⟩
   ·exact ⟨none,0,by rw [hr,hz]⟩
   ·exact ⟨_,_,hr⟩
  obtain ⟨ad',cap,hr⟩:=hv
  have hrun:(execOp a.eval o).run P w=.ok (.value (.int .i64 (es.length:Nat))) w:=by
   simp [execOp,hop,resolve,invoke,builtin,Builtin.len_,hxv,hr,run_underlying (qj htb hk),goInt]
  unfold Oper.wp
  rw [hrun]
  simp only [Oper.upon]
  refine hKK _ _ (h.go _ _ ⟨qF h1,put_defers h2,K,ρ,hf,?_⟩)
  rw [hd]
  exact Zv h1 ht he (.pv _ _ (.base _ rfl))
theorem zh8 {K:KK} {w:World} {ρ:Nat→Value} {a:Act} (htb:yB P tb) {ty:Nat} {x y:Operand} {i k j sz off e:Nat} {N:HEnv} {es:List PV} {p q p':PV} (hop:o.op=.store ty x y) (hi:H.get i=some (.mrow e sz es)) (hoff:off=k * sz + j)
  (hp:es[k]?=some p) (hnt:q.notTup=true) (hs:zhG p j (tb.size ty) q=some p') (hk:tb.known ty=true) (hf:FS g K ρ H w) (hxr:ARel K w ρ N (.ad i off) (a.eval x)) (hyr:PRel K w q (a.eval y)) :
  ∃ w',(execOp a.eval o).run P w=.ok .skip w'∧FS g K ρ ((i,.mrow e sz (es.set k p'))::H) w'∧Later K K w w':=by
 generalize hxv:a.eval x=xv at hxr
 generalize hyv:a.eval y=yv at hyr
 obtain ⟨xs,hown,h0,hcr,hnK⟩:=hf.heap.ok i _ hi
 have hkl:k < es.length:=(List.getElem?_eq_some_iff.1 hp).1
 obtain ⟨s1,s2,s3⟩:=zkE hs
 have hyc:=Yq hyr
 have hy1:=cells_one hyr hnt
 obtain ⟨hpl,_⟩:=hcr k p hp
 have hle:k * sz + sz≤es.length * sz:=by rw [←Nat.succ_mul];exact Nat.mul_le_mul_right _ hkl
 have hyl:yv.cells.toList.length=tb.size ty:=by rw [hyc.1,s1]
 cases hxr with
 | ad _ _ b m c hi' hρ =>
  rcases hown.2 with ⟨hr,_⟩|⟨g',cap,cur,hr,hB,hheap,hec,hcap,hsize,htake⟩
  ·rw [hρ] at hr;simp at hr
  ·rw [hρ] at hr
   simp only [Value.slice.injEq,Option.some.injEq,Addr.mk.injEq,and_true] at hr
   obtain ⟨rfl,rfl,rfl⟩:=hr
   have hcs:es.length * sz≤cur.size:=by rw [hsize];exact Nat.mul_le_mul_right _ hec
   have hko:tb.k ty≠.oth:=by intro e;simp [Tab.known,e] at hk
   have hsz:=run_sizeOf htb hko w
   have hst:=run_storeCells_at P b off e yv.cells.toList 0 cur w hheap (by rw [hyl];omega) hy1
   obtain ⟨arr,harr⟩:∃ arr,arr=(cur.toList.take off++yv.cells.toList++cur.toList.drop (off + yv.cells.toList.length)).toArray:=⟨_,rfl⟩
   have hrun:(execOp a.eval o).run P w=.ok .skip (w.setRow b arr):=by
    simp only [Nat.add_zero] at hst
    rw [←harr] at hst
    have hyl':yv.cells.size=tb.size ty:=by simpa using hyl
    simp [execOp,hop,hxv,hyv,Instr.storeAt,Instr.sureAddr,storeVar,hsz,hyl',hst]
   have hgrow:w.grownBy (w.setRow b arr) (some b):=⟨rfl,rfl,rfl,by simp,fun k _ hk=>setRow_other w b k _ (fun e=>hk (by simp [e]))⟩
   have hnKb:∀ o,¬ K b o:=hnK b (by rw [hρ];rfl)
   have hlat:Later K K w (w.setRow b arr):=⟨fun _ _ h=>h,fun b' o hk=>by
    have:b'≠b:=by rintro rfl;exact hnKb o hk
    exact cell_setRow_other w b _ ⟨b',o,none⟩ this⟩
   have hkeep:∀ j,(H.get j).isSome=true→(HEnv.get ((i,.mrow e sz (es.set k p'))::H) j).isSome=true∧ρ j=ρ j:=by
    intro j hj
    refine ⟨?_,rfl⟩
    rw [HEnv.get_cons]
    split
    ·rfl
    ·exact hj
   refine ⟨_,hrun,⟨hf.below.grown hgrow hf.below.size (fun k hk=>by simp at hk;omega),hf.old,hf.new,fun b o hk=>by have:=hf.lt b o hk;simpa using this,hf.others.trans (zdz hheap hgrow),hf.pt.grown hf.old hgrow hlat (fun b2 hb2=>by cases hb2;exact hf.away i _ b hi rfl (by rw [hρ];rfl)) (fun _ _ h=>.inl h),hf.away.set hi rfl,?_,?_⟩,hlat⟩
   ·intro j' e' hj
    rw [HEnv.get_cons] at hj
    split at hj
    ·rename_i e1;subst e1
     simp only [Option.some.injEq] at hj;subst hj
     have hxl:xs.length=es.length * sz:=hown.1
     have hoffl:off + yv.cells.toList.length≤es.length * sz:=by rw [hyl];omega
     refine ⟨xs.take off++yv.cells.toList++xs.drop (off + yv.cells.toList.length),⟨?_,.inr ⟨b,c,arr,by rw [hρ,List.length_set],hB,setRow_heap w b cur _ e _ hheap,by rw [List.length_set];exact hec,hcap,?_,?_⟩⟩,h0,?_,fun b' hb'=>hnK b' hb'⟩
     ·rw [List.length_set,List.length_append,List.length_append,List.length_take,List.length_drop];omega
     ·rw [←hsize,harr,List.size_toArray,List.length_append,List.length_append,List.length_take,List.length_drop,Array.length_toList];omega
     ·rw [List.length_set,harr,←htake]
      exact zfX hoffl (by simpa using hcs)
     ·intro i1 e1 he1
      have hi1:i1 < es.length:=by have:=(List.getElem?_eq_some_iff.1 he1).1;simpa using this
      by_cases hik:i1=k
      ·subst hik
       rw [List.getElem?_set_self hkl] at he1
       simp only [Option.some.injEq] at he1;subst he1
       have hpl':p'.cells.length=sz:=by rw [s3,List.length_append,List.length_append,List.length_take,List.length_drop];omega
       refine ⟨hpl',fun t c' hc'=>?_⟩
       have htl:t < sz:=by rw [←hpl'];exact (List.getElem?_eq_some_iff.1 hc').1
       rw [s3,←s1,YB (by omega)] at hc'
       rw [YB (by omega)]
       split at hc'
       ·obtain ⟨v,v1,v2,v3⟩:=(hcr i1 p hp).2 t c' hc'
        exact ⟨v,by rw [if_pos (by omega)];exact v1,v2,v3.later hlat⟩
       ·split at hc'
        ·rename_i t1 t2
         have hlt2:t - j < yv.cells.toList.length:=by omega
         refine ⟨yv.cells.toList[t - j],?_,hy1 _ (List.getElem_mem hlt2),(hyc.2 (t - j) c' _ hc' (List.getElem?_eq_getElem hlt2)).later hlat⟩
         rw [if_neg (by omega),if_pos (by omega),show i1 * sz + t - off=t - j by omega]
         exact List.getElem?_eq_getElem hlt2
        ·obtain ⟨v,v1,v2,v3⟩:=(hcr i1 p hp).2 t c' hc'
         exact ⟨v,by rw [if_neg (by omega),if_neg (by omega)];exact v1,v2,v3.later hlat⟩
      ·rw [List.getElem?_set_ne (Ne.symm hik)] at he1
       obtain ⟨g1,g2⟩:=hcr i1 e1 he1
       refine ⟨g1,fun t c' hc'=>?_⟩
       obtain ⟨v,v1,v2,v3⟩:=g2 t c' hc'
       have htl:t < sz:=by rw [←g1];exact (List.getElem?_eq_some_iff.1 hc').1
       refine ⟨v,?_,v2,v3.later hlat⟩
       rw [YB (by omega)]
       rcases Nat.lt_or_gt_of_ne hik with hlt|hgt
       ·have:i1 * sz + sz≤k * sz:=by rw [←Nat.succ_mul];exact Nat.mul_le_mul_right _ hlt
        rw [if_pos (by omega)];exact v1
       ·have:k * sz + sz≤i1 * sz:=by rw [←Nat.succ_mul];exact Nat.mul_le_mul_right _ hgt
        rw [if_neg (by omega),if_neg (by omega)];exact v1
    ·rename_i hne
     by_cases hlive:e'.live=true
     ·have:=(hf.heap.ok j' e' hj).grown (f:=id) hgrow hlat (fun b o h=>.inl h) (fun av v h=>h.keeps hlat hkeep) hlive (fun b' hb' e'=>by
       simp at e';subst e'
       exact hf.heap.apart i j' _ _ b hne hi hj rfl hlive (by rw [hρ];rfl) hb')
      cases e' <;> exact this
     ·cases e' <;> simp [HE.live] at hlive
      ·trivial
      ·exact ARel.keeps hlat hkeep (hf.heap.ok j' _ hj)
   ·intro j' k' e1 e2 bb hjk hj hk' hlj hlk hbj hbk
    have f1:∀ (j:Nat) (hh:HE),HEnv.get ((i,.mrow e sz (es.set k p'))::H) j=some hh→hh.live=true→∃ h0,H.get j=some h0∧h0.live=true:=by
     intro j hh hj hl
     rw [HEnv.get_cons] at hj
     split at hj
     ·rename_i e';subst e';exact ⟨_,hi,rfl⟩
     ·exact ⟨hh,hj,hl⟩
    obtain ⟨a1,a2,a3⟩:=f1 j' e1 hj hlj
    obtain ⟨b1,b2,b3⟩:=f1 k' e2 hk' hlk
    exact hf.heap.apart j' k' a1 b1 bb hjk a2 b2 a3 b3 hbj hbk
theorem VB (htb:yB P tb) {ty:Nat} {x y:Operand} {i k j sz off e:Nat} {es:List PV} {p q p':PV} (hg:guardE ops env o=some true) (hop:o.op=.store ty x y) (hx:env.val x=some (.ad i off)) (hi:H.get i=some (.mrow e sz es)) (hoff:off=k * sz + j)
  (hp:es[k]?=some p) (hy:env.pv H y=some q) (hnt:q.notTup=true) (hs:zhG p j (tb.size ty) q=some p') (hk:tb.known ty=true) (hd:o.dst=none)
  (h:AO P n g ops.toArray rest env ((i,.mrow e sz (es.set k p'))::H) Q):AO P n g ops.toArray (o::rest) env H Q:=by
 refine ⟨fun a w hinv=>?_⟩
 have hw:=yF hinv hg
 obtain ⟨h1,h2,K,ρ,hf,he⟩:=hinv
 refine wpList_step fun KK hKK=>?_
 rw [if_pos hw]
 obtain ⟨w',hrun,hf',hlat⟩:=zh8 htb hop hi hoff hp hnt hs hk hf (yU he hx) (yG (a:=a) hf (x:=y) (fun av hh=>yU he hh) hy)
 unfold Oper.wp
 rw [hrun]
 simp only [Oper.upon]
 have hd':a.put o.dst undef=a:=by rw [hd];rfl
 rw [hd']
 refine hKK _ _ (h.go _ _ ⟨h1,h2,K,ρ,hf',he.keeps hlat fun j hj=>⟨?_,rfl⟩⟩)
 rw [HEnv.get_cons];split <;> first|rfl|exact hj
def zfn (v:Value):Option PV:=match zdB v with|some (.pv p)=>some p|_=>none
theorem zh3 {K:KK} {w:World} {v:Value} {p:PV} (h:zfn v=some p):PRel K w p v∧p.notTup=true:=by
 unfold zfn at h
 split at h
 ·rename_i p' hz
  simp only [Option.some.injEq] at h;subst h
  unfold zdB at hz
  split at hz
  ·rename_i cs
   split at hz
   ·rename_i ps hps
    simp only [Option.some.injEq,AV.pv.injEq] at hz;subst hz
    have hr:=WM (K:=K) (w:=w) hps
    have:=PRel.agg ps cs.toList hr.1 (WB hps) hr.2
    exact ⟨by simpa using this,rfl⟩
   ·cases hz
  ·split at hz
   ·rename_i ho
    simp only [Option.some.injEq,AV.pv.injEq] at hz;subst hz
    exact ⟨.base _ ho,rfl⟩
   ·cases hz
 ·cases h
theorem zsk {K:KK} {ρ:Nat→Value} {w:World} {a:Act} (htb:yB P tb) {ty e m:Nat} {x y:Operand} {sz:Nat} {z:PV} {mi:Int} (i:Nat) (hop:o.op=.makeSlice ty x y) (hk:tb.k ty=.sl e) (hx:env.pv H x=some (.base (.int .i64 mi))) (hy:env.pv H y=some (.base (.int .i64 mi))) (hmi:mi=((m:Nat):Int))
  (hz:(match tb.zero e with|some v=>zfn v|none=>none)=some z) (hzz:(match tb.get e with|some ti=>(match ti.zero with|some zv=>ti.size==sz&&zv.cells.size==sz&&Nat.blt 0 sz|none=>false)|none=>false)=true)
  (hb:(match tb.get e with|some ti=>ti.bytes|none=>0) * m≤281474976710656) (hm:m≤maxLen) (hi:H.get i=none) (hf:FS g K ρ H w) (hv:∀ z∈o.op.operands,∀ av,env.val z=some av→ARel K w ρ H av (a.eval z)) :
  ∃ v w',(execOp a.eval o).run P w=.ok (.value v) w'∧Evo K K w w'∧FS g K (fun j=>if j=i then v else ρ j) ((i,.mrow e sz (List.replicate m z))::H) w':=by
 subst hmi
 cases hti:tb.get e with
 | none=>simp [hti] at hzz
 | some ti =>
  cases hzv:ti.zero with
  | none=>simp [hti,hzv] at hzz
  | some zv =>
   simp only [hti,hzv,Bool.and_eq_true,beq_iff_eq] at hzz hb
   obtain ⟨⟨z1,z2⟩,z3⟩:=hzz
   have hsz:0 < sz:=Nat.le_of_ble_eq_true z3
   obtain ⟨tin,q1,q2,q3,q4,_⟩:=Zy htb hti
   have hzp:zfn zv=some z:=by
    have:tb.zero e=some zv:=by unfold Tab.zero;rw [hti];exact hzv
    rw [this] at hz;exact hz
   have hxr:=yG (a:=a) hf (x:=x) (hv x (by rw [hop];simp [Op.operands])) hx
   have hyr:=yG (a:=a) hf (x:=y) (hv y (by rw [hop];simp [Op.operands])) hy
   generalize hxv:a.eval x=xv at hxr
   generalize hyv:a.eval y=yv at hyr
   cases hxr;cases hyr
   obtain ⟨w',r1,r2,r3⟩:=run_make_full w g.w0.heap.size ty e tin zv sz (qj htb hk) q1 (by rw [q4];exact hzv) (by omega) .i64 .i64 m (by rw [q3];exact hb) hm hf.below.size
   have hrun:(execOp a.eval o).run P w=.ok (.value (.slice (some ⟨w.heap.size,0,none⟩) m m)) w':=by
    simp [execOp,hop,hxv,hyv,r1]
   have hev:Evo K K w w':=⟨⟨r3.os,r3.tape,r3.output,r3.size,fun k hk=>r3.block k hk (by simp)⟩,fun _ _ h=>h,fun _ _ h=>.inl h,fun b o h=>Nat.lt_of_lt_of_le (hf.lt b o h) r3.size⟩
   obtain ⟨hzr,hznt⟩:=zh3 (K:=K) (w:=w') hzp
   have hzc:=Yq hzr
   have hzo:=cells_one hzr hznt
   have hzl:zv.cells.toList.length=sz:=by simpa using z2
   refine ⟨_,w',hrun,hev,hf.fresh hev hi ⟨(madeCells zv.cells (m * sz)).toList,by rw [List.length_replicate];exact r2,hsz,?_,?_⟩ (by simp [zH])⟩
   ·intro i1 e1 he1
    have hi1:i1 < m:=by have:=(List.getElem?_eq_some_iff.1 he1).1;simpa using this
    have e2:e1=z:=by rw [List.getElem?_replicate,if_pos hi1] at he1;simpa using he1.symm
    subst e2
    have hl:e1.cells.length=sz:=by rw [←hzl,hzc.1]
    refine ⟨hl,fun k c' hc'=>?_⟩
    have hk:k < sz:=by rw [←hl];exact (List.getElem?_eq_some_iff.1 hc').1
    have hkz:k < zv.cells.size:=by omega
    have hu:zv.cells.toList[k]?=some zv.cells[k]:=by simp [hkz]
    refine ⟨zv.cells[k],?_,hzo _ (List.mem_of_getElem? hu),hzc.2 k c' _ hc' hu⟩
    have hlt:i1 * sz + k < m * sz:=by
     have:i1 * sz + sz≤m * sz:=by rw [←Nat.succ_mul];exact Nat.mul_le_mul_right _ hi1
     omega
    have hmod:(i1 * sz + k) % zv.cells.size=k:=by rw [z2,Nat.add_comm,Nat.add_mul_mod_self_right];exact Nat.mod_eq_of_lt hk
    simp [madeCells,hlt,hmod,hkz]
   ·intro b hb o ho
    simp [Value.ownBlock] at hb
    subst hb
    have:=hf.lt _ _ ho
    omega
theorem zcM {i e sz:Nat} {es:List PV} {a:Act} {w:World} (hi:H.get i=some (.mrow e sz es)) (hinv:Inv n g env H a w):Inv n g env ((i,.row e sz es)::H) a w:=by
 obtain ⟨h1,h2,K,ρ,hf,he⟩:=hinv
 obtain ⟨xs,hown,h0,hcr,hnK⟩:=hf.heap.ok i _ hi
 obtain ⟨K',hK'⟩:∃ K':KK,∀ b o,K' b o↔(K b o∨((ρ i).ownBlock=some b∧o < es.length * sz)):=⟨fun b o=>K b o∨((ρ i).ownBlock=some b∧o < es.length * sz),fun _ _=>Iff.rfl⟩
 have hlat:Later K K' w w:=⟨fun b o h=>(hK' b o).2 (.inl h),fun _ _ _=>rfl⟩
 have hk:∀ j,(H.get j).isSome=true→(HEnv.get ((i,.row e sz es)::H) j).isSome=true∧ρ j=ρ j:=fun j hj=>by
  refine ⟨?_,rfl⟩
  rw [HEnv.get_cons]
  split
  ·rfl
  ·exact hj
 have hbo:∀ {v:Value} {nn:Nat} {zs:List Value} {ww:World} {BB t s:Nat},ww.ownsRow BB t s v nn zs→∀ b,zH v=some b↔v.ownBlock=some b:=by
  intro v nn zs ww BB t s h b
  rcases h.2 with ⟨rfl,_⟩|⟨_,_,_,rfl,_⟩ <;> simp [zH,Value.ownBlock]
 have hne:∀ {j:Nat} {h:HE} {b':Nat},i≠j→H.get j=some h→h.live=true→zH (ρ j)=some b'→(ρ i).ownBlock≠some b':=fun {j h b'} hij hg hl hb e =>
  hf.heap.apart i j _ h b' hij hi hg rfl hl ((hbo hown b').2 e) hb
 refine ⟨h1,h2,K',ρ,⟨hf.below,fun b o h=>(hK' b o).2 (.inl (hf.old b o h)),fun b' o h=>?_,fun b' o h=>?_,hf.others,hf.pt.grown hf.old (row:=(ρ i).ownBlock) ⟨rfl,rfl,rfl,Nat.le_refl _,fun _ _ _=>rfl⟩ hlat (fun b hb=>hf.away i _ b hi rfl ((hbo hown b).2 hb)) (fun b o h=>(hK' b o).1 h |>.elim .inl (fun h=>.inr (.inl h.1))),hf.away.set hi rfl,?_,?_⟩,he.keeps hlat hk⟩
 ·rcases (hK' b' o).1 h with h|⟨h,_⟩
  ·exact hf.new b' o h
  ·exact .inr (hown.lt b' h).1
 ·rcases (hK' b' o).1 h with h|⟨h,_⟩
  ·exact hf.lt b' o h
  ·exact (hown.lt b' h).2
 ·intro j h hg
  rw [HEnv.get_cons] at hg
  split at hg
  ·rename_i e1;subst e1
   simp only [Option.some.injEq] at hg;subst hg
   refine ⟨xs,hown,h0,fun k e he=>?_,fun b' hb o=>?_⟩
   ·obtain ⟨c1,c2⟩:=hcr k e he
    exact ⟨c1,fun k c hc=>let ⟨v,h4,h5,h6⟩:=c2 k c hc;⟨v,h4,h5,h6.later hlat⟩⟩
   ·rw [hK']
    exact ⟨fun h=>(h.resolve_left (hnK b' hb o)).2,fun h=>.inr ⟨hb,h⟩⟩
  ·rename_i hij
   have ho:=hf.heap.ok j h hg
   by_cases hlive:h.live=true
   ·have:=ho.grown (f:=id) (w':=w) (K':=K') (ρ':=ρ) (H':=(i,.row e sz es)::H) (row:=(ρ i).ownBlock) ⟨rfl,rfl,rfl,Nat.le_refl _,fun _ _ _=>rfl⟩ hlat (fun b o h=>(hK' b o).1 h |>.elim .inl (fun h=>.inr (.inl h.1))) (fun av v h=>h.keeps hlat hk) hlive (fun b' hb'=>hne hij hg hlive hb')
    cases h <;> exact this
   ·cases h <;> simp [HE.live] at hlive
    ·trivial
    ·exact ARel.keeps hlat hk ho
 ·intro j k h h' b' hjk hg hg' hl hl'
  have f1:∀ (j:Nat) (hh:HE),HEnv.get ((i,.row e sz es)::H) j=some hh→hh.live=true→∃ h0,H.get j=some h0∧h0.live=true:=by
   intro j hh hj hl
   rw [HEnv.get_cons] at hj
   split at hj
   ·rename_i e';subst e';exact ⟨_,hi,rfl⟩
   ·exact ⟨hh,hj,hl⟩
  obtain ⟨a1,a2,a3⟩:=f1 j h hg hl
  obtain ⟨b1,b2,b3⟩:=f1 k h' hg' hl'
  exact hf.heap.apart j k a1 b1 b' hjk a2 b2 a3 b3
theorem zaa (i:Nat) {e sz:Nat} {es:List PV} (hi:H.get i=some (.mrow e sz es)) (k:AW P n g c env ((i,.row e sz es)::H) QQ):AW P n g c env H QQ:=⟨fun a w hinv=>k.go a w (zcM hi hinv)⟩
theorem qO {H':HEnv} {i:Nat} {t sz:Nat} {es es':List PV} (h:H.get i=some (.mrow t sz es)) (e:es=es') (hs:HSub H H'):HSub H ((i,.mrow t sz es')::H'):=zn (by rw [h,e]) hs
theorem zcG {t:Nat} (i:Nat) (e:TypeId) (sz:Nat) (hsz:0 < sz) (ht:env.get t=some (.pv (.base (.slice none 0 0)))) (hi:H.get i=none) (h:AW P n g c ((t,.own i)::env) ((i,.mrow e sz [])::H) QQ):AW P n g c env H QQ:=by
 refine ⟨fun a w hinv=>h.go a w ?_⟩
 obtain ⟨h1,h2,K,ρ,hf,he⟩:=hinv
 have hev:Evo K K w w:=.refl hf.lt
 refine ⟨h1,h2,K,fun j=>if j=i then .slice none 0 0 else ρ j,hf.fresh hev hi ⟨[],World.ownsRow_nil w _ e sz,hsz,fun i e h=>by simp at h,by simp [Value.ownBlock]⟩ (by simp [zH]),?_⟩
 have he':=he.keeps (hev.later hf.lt) (H':=(i,.mrow e sz [])::H) (Zd hi _ (.slice none 0 0))
 intro t' av hg
 rw [Env.get_cons] at hg
 split at hg
 ·rename_i e';subst e'
  simp only [Option.some.injEq] at hg;subst hg
  obtain ⟨v,hv,hr⟩:=he _ _ ht
  cases hr with
  | pv _ _ hp =>
   cases hp
   refine ⟨_,hv,?_⟩
   have:=ARel.own (K:=K) (w:=w) (ρ:=fun j=>if j=i then .slice none 0 0 else ρ j) (H:=(i,HE.mrow e sz [])::H) i (by simp [HEnv.get_cons])
   simpa using this
 ·exact he' _ _ hg
end
section
variable {P:Program} {tb:Tab} {n:Nat} {g:Base} {H:HEnv} {env:Env} {ops:List Oper} {o:Oper} {rest:List Oper} {Q:Env→HEnv→Prop} {QQ:QC} {c:Code} {K:KK} {w:World} {ρ:Nat→Value} {a:Act}
theorem Qj (htb:yB P tb) {ty e:Nat} {x y:Operand} {i:Nat} {sz:Nat} {es xs:List PV} {full:Bool} {t:Nat} (hg:guardE ops env o=some true)
  (hop:o.op=.call { callee:=.builtin .append,args:=#[x,y],argTypes:=#[ty,ty] }) (hk:tb.k ty=.sl e) (hx:env.val x=some (.own i)) (hi:H.get i=some (.mrow e sz es)) (hy:env.pv H y=some (.slc sz xs full))
  (hzz:(match tb.get e with|some ti=>(match ti.zero with|some z=>ti.size==sz&&z.cells.size==sz|none=>false)|none=>false)=true)
  (hbound:(es.length + xs.length) * (match tb.get e with|some ti=>ti.bytes|none=>0)≤140737488355328) (hb2:es.length + xs.length≤140737488355328) (hd:o.dst=some t) (ht:Nat.blt t n=true)
  (h:AO P n g ops.toArray rest ((t,.own i)::zd7 i env) ((i,.mrow e sz (es++xs))::Xv i H) Q):AO P n g ops.toArray (o::rest) env H Q:=by
 refine ⟨fun a w hinv=>?_⟩
 have hw:=yF hinv hg
 obtain ⟨h1,h2,K,ρ,hf,he⟩:=hinv
 refine wpList_step fun Kc hKc=>?_
 rw [if_pos hw]
 cases hti:tb.get e with
 | none=>simp [hti] at hzz
 | some ti =>
  cases hz:ti.zero with
  | none=>simp [hti,hz] at hzz
  | some z =>
   simp only [hti,hz,Bool.and_eq_true,beq_iff_eq] at hzz hbound
   obtain ⟨tin,q1,q2,q3,q4,_⟩:=Zy htb hti
   have hxr:=yU he hx
   have hyr:=yG (a:=a) hf (x:=y) (fun av hh=>yU he hh) hy
   obtain ⟨us,hown,hsz,hcr,hKK'⟩:=hf.heap.ok i _ hi
   generalize hxv:a.eval x=xv at hxr
   cases hxr with
   | own _ hi' =>
    obtain ⟨news,n1,n2,n3,n4,n5⟩:=WQ hyr
    obtain ⟨v',w',r1,r2,r3⟩:=run_append_own' (P:=P) w g.w0.heap.size ty o.type e tin z sz ti.bytes (qj htb hk) q1 (by rw [q4];exact hz) (by omega) q3 hzz.2 (ρ i) es.length us hown (a.eval y) xs.length news n1
     (n2.imp (fun h=>⟨h.1,by simpa using h.2⟩) (fun ⟨ad,c,hh,hh2,_⟩=>⟨ad,c,hh,hh2⟩)) n3 (by unfold maxLen;omega) hbound hf.below.size
    have hrun:(execOp a.eval o).run P w=.ok (.value v') w':=by
     simp [execOp,hop,resolve,invoke,builtin,hxv,r1]
    unfold Oper.wp
    rw [hrun]
    simp only [Oper.upon]
    obtain ⟨row,hgrow,hrow⟩:∃ row,w.grownBy w' row∧((row=(ρ i).ownBlock∧v'.ownBlock=(ρ i).ownBlock)∨(row=none∧∀ b,v'.ownBlock=some b→w.heap.size≤b)):=by
     rcases r3 with ⟨h1,h2⟩|⟨h1,h2⟩
     ·exact ⟨_,h1,.inl ⟨rfl,h2⟩⟩
     ·exact ⟨_,h1,.inr ⟨rfl,h2⟩⟩
    let K1:KK:=K
    have hcellsame:∀ b o,K b o→w'.cell? ⟨b,o,none⟩=w.cell? ⟨b,o,none⟩:=by
     intro b o hbo
     by_cases hbb:row=some b
     ·rcases hrow with ⟨e1,e2⟩|⟨e1,_⟩
      ·rw [hbb] at e1
       exact absurd hbo (hKK' b e1.symm o)
      ·rw [hbb] at e1;cases e1
     ·exact World.cell?_of_block (hgrow.block b (hf.lt b o hbo) (Ne.symm hbb))
    have hlat:Later K K1 w w':=⟨fun b o h=>h,hcellsame⟩
    have hvlt:=r2.lt
    have hrowB:∀ k,row=some k→g.w0.heap.size≤k:=by
     intro k hk
     rcases hrow with ⟨e1,_⟩|⟨e1,_⟩
     ·rw [hk] at e1;exact (hown.lt k e1.symm).1
     ·rw [hk] at e1;cases e1
    have hnp:∀ b,ρ i=.pointer (some ⟨b,0,none⟩)→False:=by
     intro b hb
     rcases hown.2 with ⟨e1,_⟩|⟨_,_,_,e1,_⟩ <;> rw [e1] at hb <;> cases hb
    have hkill_isSome:∀ j,((Xv i H).get j).isSome=(H.get j).isSome:=by intro j;rw [Yp];cases H.get j <;> rfl
    have hkeep:∀ j,j≠i→(H.get j).isSome=true→(HEnv.get ((i,.mrow e sz (es++xs))::Xv i H) j).isSome=true∧(fun j=>if j=i then v' else ρ j) j=ρ j:=by
     intro j hne hj
     refine ⟨?_,by simp [hne]⟩
     simp only [HEnv.get_nil,HEnv.get_cons];rw [if_neg (Ne.symm hne),hkill_isSome];exact hj
    have htr:∀ av v,ARel K w ρ H av v→ARel K1 w' (fun j=>if j=i then v' else ρ j) ((i,.mrow e sz (es++xs))::Xv i H) (kill i av) v:=fun av v h=>h.kill hlat i hkeep hnp (row_one hf i (by simp [isVal,hi]))
    have hbo:∀ {v:Value} {nn:Nat} {zs:List Value} {ww:World} {BB:Nat},ww.ownsRow BB e sz v nn zs→∀ b,zH v=some b↔v.ownBlock=some b:=by
     intro v nn zs ww BB h b
     rcases h.2 with ⟨rfl,_⟩|⟨_,_,_,rfl,_⟩ <;> simp [zH,Value.ownBlock]
    have hK1:∀ b o,K1 b o→K b o∨row=some b∨w.heap.size≤b:=by
     exact fun b o h=>.inl h
    have hnl:(es++xs).length=es.length + xs.length:=List.length_append
    have hcellsrow:∀ (j:Nat) (o:Obj),row=some j→w.heap[j]?=some o→o.isCells=true:=by
     intro j o hj ho
     rcases hrow with ⟨e1,_⟩|⟨e1,_⟩
     ·rw [hj] at e1
      rcases hown.2 with ⟨h,_⟩|⟨b2,cap,cur,h,_,hh,_⟩
      ·rw [h] at e1;simp [Value.ownBlock] at e1
      ·rw [h] at e1
       simp only [Value.ownBlock,Option.some.injEq] at e1
       subst e1
       rw [hh] at ho;cases ho;rfl
     ·rw [hj] at e1;cases e1
    refine hKc _ _ (h.go _ _ ⟨qF h1,put_defers h2,K1,fun j=>if j=i then v' else ρ j,⟨hf.below.grown hgrow hf.below.size hrowB,fun b o h=>hf.old b o h,fun b o h=>hf.new b o h,fun b o h=>Nat.lt_of_lt_of_le (hf.lt b o h) hgrow.size,hf.others.trans (KeepsOthers.of_grownBy hgrow hcellsrow),hf.pt.grown hf.old hgrow hlat (fun b hb=>?_) hK1,?_,?_,?_⟩,?_⟩)
    ·rcases hrow with ⟨e1,_⟩|⟨e1,_⟩
     ·rw [hb] at e1;exact hf.away i _ b hi rfl ((hbo hown b).2 e1.symm)
     ·rw [hb] at e1;cases e1
    ·intro j hh b hj hl hb
     rw [HEnv.get_cons] at hj
     split at hj
     ·rename_i e';subst e'
      simp only [if_true] at hb
      have hv:=(hbo r2 b).1 hb
      rcases hrow with ⟨_,e2⟩|⟨_,e2⟩
      ·exact hf.away i _ b hi rfl ((hbo hown b).2 (by rw [←e2];exact hv))
      ·exact hf.pt.lt (e2 b hv)
     ·rename_i hne
      simp only [Ne.symm hne,if_false] at hb
      rw [Yp] at hj
      cases hH:H.get j with
      | none=>simp [hH] at hj
      | some e0 =>
       simp only [hH,Option.map_some,Option.some.injEq] at hj
       subst hj
       exact hf.away j e0 b hH (by cases e0 <;> first|rfl|exact hl) hb
    ·intro j hh hj
     simp only [HEnv.get_nil,HEnv.get_cons] at hj
     split at hj
     ·rename_i e';subst e'
      simp only [Option.some.injEq] at hj;subst hj
      simp only [if_true]
      refine ⟨us++news,by rw [hnl];exact r2,hsz,?_,?_⟩
      ·have:=hcr.append hown.1 n4
       intro k c hc
       obtain ⟨t1,t2⟩:=this k c hc
       exact ⟨t1,fun k' c' hc'=>let ⟨v,t3,t4,t5⟩:=t2 k' c' hc';⟨v,t3,t4,t5.later hlat⟩⟩
      ·intro b hb o h
       rcases hrow with ⟨e1,e2⟩|⟨_,e2⟩
       ·exact hKK' b (by rw [←e2];exact hb) o h
       ·have:=e2 b hb
        have:=hf.lt b o h;omega
     ·rename_i hne
      rw [Yp] at hj
      cases hH:H.get j with
      | none=>simp [hH] at hj
      | some e0 =>
       simp only [hH,Option.map_some,Option.some.injEq] at hj
       subst hj
       simp only [Ne.symm hne,if_false]
       by_cases hlive:e0.live=true
       ·have:=(hf.heap.ok j e0 hH).grown (f:=kill i) hgrow hlat hK1 htr hlive (fun b hb hb'=>by
         rcases hrow with ⟨e1,_⟩|⟨e1,_⟩
         ·rw [hb'] at e1
          exact hf.heap.apart i j _ e0 b hne hi hH rfl hlive ((hbo hown b).2 e1.symm) hb
         ·rw [hb'] at e1;cases e1)
        cases e0 <;> exact this
       ·cases e0 <;> simp [HE.live] at hlive
        ·trivial
        ·exact htr _ _ (hf.heap.ok j _ hH)
    ·have e1:∀ (j:Nat) (hh:HE),j≠i→HEnv.get ((i,.mrow e sz (es++xs))::Xv i H) j=some hh→hh.live=true→∃ h0,H.get j=some h0∧h0.live=true:=by
      intro j hh hne hj hl
      simp only [HEnv.get_nil,HEnv.get_cons] at hj
      rw [if_neg (Ne.symm hne),Yp] at hj
      cases hH:H.get j with
      | none=>simp [hH] at hj
      | some e0 =>
       simp only [hH,Option.map_some,Option.some.injEq] at hj
       subst hj
       refine ⟨e0,rfl,?_⟩
       cases e0 <;> first|rfl|exact hl
     have e2:∀ (k:Nat) (hh:HE) (bb:Nat),k≠i→H.get k=some hh→hh.live=true→v'.ownBlock=some bb→zH (ρ k)=some bb→False:=by
      intro k hh bb hne hk hl hv hb
      rcases hrow with ⟨_,e2⟩|⟨_,e2⟩
      ·exact hf.heap.apart i k _ hh bb (Ne.symm hne) hi hk rfl hl ((hbo hown bb).2 (by rw [←e2];exact hv)) hb
      ·have:=e2 bb hv
       have:=((hf.heap.ok k hh hk).block_lt hl hb).2
       omega
     intro j k hh hh' bb hjk hj hk' hlj hlk hbj hbk
     by_cases hji:j=i
     ·subst hji
      have hki:k≠j:=Ne.symm hjk
      obtain ⟨h0,a1,a2⟩:=e1 k hh' hki hk' hlk
      simp only [if_true] at hbj
      simp only [hki,if_false] at hbk
      exact e2 k h0 bb hki a1 a2 ((hbo r2 bb).1 hbj) hbk
     ·obtain ⟨h0,a1,a2⟩:=e1 j hh hji hj hlj
      simp only [hji,if_false] at hbj
      by_cases hki:k=i
      ·subst hki
       simp only [if_true] at hbk
       exact e2 j h0 bb hji a1 a2 ((hbo r2 bb).1 hbk) hbj
      ·obtain ⟨h0',b1,b2⟩:=e1 k hh' hki hk' hlk
       simp only [hki,if_false] at hbk
       exact hf.heap.apart j k h0 h0' bb hjk a1 b1 a2 b2 hbj hbk
    ·rw [hd]
     refine Zv h1 ht ?_ ?_
     ·intro t' av hg'
      rw [zcs] at hg'
      cases hE:env.get t' with
      | none=>simp [hE] at hg'
      | some av0 =>
       simp only [hE,Option.map_some,Option.some.injEq] at hg'
       subst hg'
       obtain ⟨v,v1,v2⟩:=he t' av0 hE
       exact ⟨v,v1,htr _ _ v2⟩
     ·have:=ARel.own (K:=K1) (w:=w') (ρ:=fun j=>if j=i then v' else ρ j) (H:=(i,HE.mrow e sz (es++xs))::Xv i H) i (by simp [HEnv.get_nil,HEnv.get_cons])
      simpa using this
def lpv (env:Env) (H:HEnv) (x:Operand):Option PV:=match env.val x with
 | some (.own i)=>match H.get i with|some (.mrow _ sz es)=>some (.slc sz es false)|_=>env.pv H x
 | _=>env.pv H x
def zry (env:Env) (H:HEnv):List Operand→Option (List PV)
 | []=>some []
 | x::xs=>match lpv env H x,zry env H xs with|some p,some ps=>some (p::ps)|_,_=>none
def zl8 (K:KK) (ρ:Nat→Value) (H:HEnv):KK:=fun b o=>K b o∨∃ i t sz es,H.get i=some (.mrow t sz es)∧(ρ i).ownBlock=some b∧o < es.length * sz
theorem zhx:Later K (zl8 K ρ H) w w:=⟨fun _ _ h=>.inl h,fun _ _ _=>rfl⟩
theorem ztN (hf:FS g K ρ H w) {x:Operand} (hv:∀ av,env.val x=some av→ARel K w ρ H av (a.eval x)) {p:PV} (h:lpv env H x=some p):PRel (zl8 K ρ H) w p (a.eval x):=by
 have old:env.pv H x=some p→PRel (zl8 K ρ H) w p (a.eval x):=fun h=>(yG hf hv h).later zhx
 unfold lpv at h
 split at h
 ·rename_i i hx
  split at h
  ·rename_i t sz es hi
   simp only [Option.some.injEq] at h;subst h
   have hxr:=hv _ hx
   generalize a.eval x=xv at hxr
   cases hxr with
   | own _ _ =>
    obtain ⟨xs,hown,h0,hcr,hnK⟩:=hf.heap.ok i _ hi
    rcases hown.2 with ⟨hr,hz⟩|⟨b,cap,cur,hr,hB,hheap,hle,hcap,hsize,htake⟩
    ·rw [hr]
     have:es=[]:=List.eq_nil_of_length_eq_zero hz
     subst this;exact .nil sz false
    ·by_cases hes:es=[]
     ·subst hes
      have hown':=hown
      rw [hr] at hown' ⊢
      exact .slc sz [] false b 0 cap (fun _=>[]) h0 (Nat.zero_le _) (by simp) (by simp [maxLen]) hcap (fun i e he=>by simp at he) (fun i e k c v he=>by simp at he)
     ·have hown':=hown
      rw [hr] at hown' ⊢
      have hxl:xs.length=es.length * sz:=hown.1
      refine .slc sz es false b 0 cap (fun i=>(xs.drop (i * sz)).take sz) h0 hle (by simp) (by omega) hcap (fun k e he=>?_) (fun k e m c v he hc hvv=>?_)
      ·obtain ⟨c1,c2⟩:=hcr k e he
       have hk:k < es.length:=(List.getElem?_eq_some_iff.1 he).1
       have hle2:k * sz + sz≤es.length * sz:=by rw [←Nat.succ_mul];exact Nat.mul_le_mul_right _ hk
       refine ⟨c1,by rw [List.length_take,List.length_drop];omega,fun m v hm=>?_⟩
       rw [List.getElem?_take] at hm
       split at hm
       ·rename_i hms
        rw [List.getElem?_drop] at hm
        obtain ⟨u,u1,u2,_⟩:=c2 m e.cells[m] (List.getElem?_eq_getElem (by omega))
        rw [u1,Option.some.injEq] at hm;subst hm
        exact ⟨.inr ⟨i,t,sz,es,hi,by rw [hr];rfl,by omega⟩,by rw [Nat.zero_add,hown'.cellAt _ (by omega)];exact u1,u2⟩
       ·cases hm
      ·obtain ⟨c1,c2⟩:=hcr k e he
       obtain ⟨u,u1,u2,u3⟩:=c2 m c hc
       rw [List.getElem?_take] at hvv
       split at hvv
       ·rw [List.getElem?_drop,u1,Option.some.injEq] at hvv
        subst hvv;exact u3.later zhx
       ·cases hvv
  ·exact old h
 ·exact old h
theorem zk8 (hf:FS g K ρ H w):∀ {xs:List Operand} {ps:List PV},(∀ x∈xs,∀ av,env.val x=some av→ARel K w ρ H av (a.eval x))→zry env H xs=some ps→PRels (zl8 K ρ H) w ps (xs.map a.eval)
 | [],ps,_,h=>by simp [zry] at h;subst h;exact .nil
 | x::xs,ps,hv,h=>by
  simp only [zry] at h
  split at h
  ·rename_i v vs e1 e2
   simp only [Option.some.injEq] at h;subst h
   exact .cons (ztN hf (hv x (by simp)) e1) (zk8 hf (fun y hy=>hv y (by simp [hy])) e2)
  ·cases h
theorem zrk {xs:Array Operand} {ts:Array TypeId} {f:FuncId} {args:List PV} {r:Value} {t:Nat} (hg:guardE ops env o=some true) (hop:o.op=.call { callee:=.value (.func f),args:=xs,argTypes:=ts }) (hargs:zry env H xs.toList=some args)
  (hc:ACall P f args (.base r)) (hd:o.dst=some t) (ht:Nat.blt t n=true)
  (h:AO P n g ops.toArray rest ((t,.pv (.base r))::env) H Q):AO P n g ops.toArray (o::rest) env H Q:=by
 refine ⟨fun a w hinv=>?_⟩
 have hw:=yF hinv hg
 obtain ⟨h1,h2,K,ρ,hf,he⟩:=hinv
 refine wpList_step fun KK hKK=>?_
 rw [if_pos hw]
 have hp:=zk8 hf (a:=a) (xs:=xs.toList) (fun x hx av hxx=>yU he hxx) hargs
 have hrun:(execOp a.eval o).run P w=.ok (.enter f (xs.toList.map a.eval).toArray) w:=by
  have e:(xs.toList.map a.eval).toArray=xs.map a.eval:=by rw [←Array.toList_map,Array.toArray_toList]
  rw [e]
  simp [execOp,hop,resolve,Act.eval,Deferred.ofValue,invoke,Zg hc.stands]
 unfold Oper.wp
 rw [hrun]
 simp only [Oper.upon]
 have hlt:∀ b o,zl8 K ρ H b o→b < w.heap.size:=by
  rintro b o (h|⟨i,t,sz,es,hi,hb,_⟩)
  ·exact hf.lt b o h
  ·obtain ⟨us,hown,_⟩:=hf.heap.ok i _ hi
   exact (hown.lt b hb).2
 refine (hc.calls _ w _ hlt hp).mono ?_
 rintro ex w'' ⟨v,K',rfl,hev,hr⟩
 cases hr with
 | base _ hb =>
  have hev2:Evo K K w w'':=⟨hev.below,fun _ _ h=>h,fun _ _ h=>.inl h,fun b o h=>Nat.lt_of_lt_of_le (hf.lt b o h) hev.below.size⟩
  refine hKK _ _ (h.go _ _ ⟨qF h1,put_defers h2,K,ρ,hf.evo hev2,?_⟩)
  rw [hd]
  exact Zv h1 ht (he.keeps (hev2.later hf.lt) (fun j hj=>⟨hj,rfl⟩)) (.pv _ _ (.base _ hb))
end
section
variable {P:Program} {tb:Tab} {g:Base} {H:HEnv} {env:Env} {o:Oper}
theorem zQ (htb:yB P tb) {t e:Nat} {x y:Operand} {i k sz:Nat} {es:List PV} {kk:IntKind} {m:Int} (hop:o.op=.indexAddr t x y) (hx:env.val x=some (.own i)) (hi:H.get i=some (.mrow e sz es))
  (hk:tb.k t=.sl e) (hke:tb.known e=true) (hsz:tb.size e=sz) (hy:env.pv H y=some (.base (.int kk m))) (hm:m=(k:Nat)) (hlt:k < es.length):QStep P g H o env (.ad i (k * sz)):=by
 refine ⟨fun K ρ a w hf hv=>?_⟩
 have hxr:=hv x (by rw [hop];simp [Op.operands]) _ hx
 have hyr:=yG hf (hv y (by rw [hop];simp [Op.operands])) hy
 generalize hxv:a.eval x=xv at hxr
 generalize hyv:a.eval y=yv at hyr
 obtain ⟨xs,hown,h0,hcr,hnK⟩:=hf.heap.ok i _ hi
 subst hm
 cases hyr
 cases hxr with
 | own _ hi' =>
  rcases hown.2 with ⟨hr,hz⟩|⟨b,cap,cur,hr,hB,hheap,hle,hcap,hsize,htake⟩
  ·omega
  ·have hko:tb.k e≠.oth:=by intro h;simp [Tab.known,h] at hke
   have hs:=run_sizeOf htb hko w
   have hrun:(execOp a.eval o).run P w=.ok (.value (.pointer (some ⟨b,k * sz,none⟩))) w:=by
    simp [execOp,hop,hxv,hyv,hr,Instr.indexAt,asIntOf,run_underlying (qj htb hk),hs,hsz,Addr.add_lit]
    intro hh;omega
   rw [hrun]
   exact ZB hf (.ad i (k * sz) b es.length cap hi' hr)
theorem yj (htb:yB P tb) {ty:Nat} {x:Operand} {i k j sz off e:Nat} {es:List PV} {p q:PV} (hop:o.op=.load ty x) (hx:env.val x=some (.ad i off)) (hi:H.get i=some (.mrow e sz es)) (hoff:off=k * sz + j)
  (hp:es[k]?=some p) (hq:zbY tb ty p.cells j=some q):QStep P g H o env (.pv q):=by
 refine ⟨fun K ρ a w hf hv=>?_⟩
 have hxr:=hv x (by rw [hop];simp [Op.operands]) _ hx
 generalize hxv:a.eval x=xv at hxr
 obtain ⟨xs,hown,h0,hcr,hnK⟩:=hf.heap.ok i _ hi
 have hkl:k < es.length:=(List.getElem?_eq_some_iff.1 hp).1
 cases hxr with
 | ad _ _ b m c hi' hρ =>
  have hown':=hown
  rw [hρ] at hown'
  have hm:m=es.length:=by
   rcases hown'.2 with ⟨hr,_⟩|⟨_,_,_,hr,_⟩
   ·simp at hr
   ·simp at hr;exact hr.2.1
  subst hm
  obtain ⟨hl,hc⟩:=hcr k p hp
  have hle:k * sz + sz≤es.length * sz:=by rw [←Nat.succ_mul];exact Nat.mul_le_mul_right _ hkl
  have hlen:xs.length=es.length * sz:=hown.1
  have hcell:∀ (t:Nat) (v:Value),((xs.drop (k * sz)).take sz)[t]?=some v→w.cell? ⟨b,k * sz + t,none⟩=some v:=by
   intro t v hv
   rw [List.getElem?_take] at hv
   split at hv
   ·rw [List.getElem?_drop] at hv
    rw [hown'.cellAt _ (by omega)];exact hv
   ·cases hv
  have hrels:PRels K w p.cells ((xs.drop (k * sz)).take sz):=by
   refine ⟨by rw [List.length_take,List.length_drop];omega,fun t c v hc' hv=>?_⟩
   rw [List.getElem?_take] at hv
   split at hv
   ·rw [List.getElem?_drop] at hv
    obtain ⟨u,hu,_,hr⟩:=hc t c hc'
    rw [hu,Option.some.injEq] at hv;subst hv;exact hr
   ·cases hv
  have hone:∀ v∈(xs.drop (k * sz)).take sz,v.oneCell'=true:=by
   intro v hv
   obtain ⟨t,hlt,rfl⟩:=List.getElem_of_mem hv
   have hlt':t < sz:=by rw [List.length_take] at hlt;omega
   have ht':t < p.cells.length:=by omega
   obtain ⟨u,hu,h1u,_⟩:=hc t p.cells[t] (List.getElem?_eq_getElem ht')
   rw [List.getElem_take,List.getElem_drop]
   have:=(List.getElem?_eq_some_iff.1 hu).2
   rw [this];exact h1u
  obtain ⟨v,hv,hvr⟩:=Qk htb (b:=b) (o:=k * sz) hcell hrels hone hq
  have hrun:(execOp a.eval o).run P w=.ok (.value v) w:=by
   subst hoff
   simp [execOp,hop,hxv,Instr.loadAt,Instr.sureAddr,hv]
  rw [hrun]
  exact ZB hf (.pv _ _ hvr)
end
def za8:HEnv→Bool
 | []=>true
 | (_,.obj _)::_=>false
 | _::e=>za8 e
theorem zja:∀ {e:HEnv},za8 e=true→∀ i h,e.get i=some h→∀ X,h≠.obj X
 | [],_,i,h,hg,_=>by simp [HEnv.get_nil] at hg
 | (j,x)::e,hn,i,h,hg,X=>by
  have hn':za8 e=true∧∀ X,x≠.obj X:=by
   cases x <;> simp_all [za8]
  rw [HEnv.get_cons] at hg
  split at hg
  ·simp only [Option.some.injEq] at hg;subst hg;exact hn'.2 X
  ·exact zja hn'.1 i h hg X
section
variable {P:Program} {tb:Tab} {n:Nat} {g:Base} {K:KK} {w w':World} {ρ:Nat→Value} {H H':HEnv} {env:Env} {a:Act}
structure NC (B:Nat) (w w':World):Prop where
 row:∃ row,w.grownBy w' row∧∀ r,row=some r→B≤r∧∃ o:Obj,w.heap[r]?=some o∧o.isCells=false
theorem NC.cell {B:Nat} (h:NC B w w') {x:Addr} {v:Value} (hc:w.cell? x=some v):w'.cell? x=some v:=by
 obtain ⟨row,hg,hr⟩:=h.row
 exact cell_kept hc hg fun r e=>(hr r e).2
theorem PRel.keepc (h:∀ (x:Addr) (v:Value),w.cell? x=some v→w'.cell? x=some v) {p:PV} {v:Value} (hp:PRel K w p v):PRel K w' p v:=by
 have hrow:∀ {b o:Nat} {vs:List Value},Rows K w b o vs→Rows K w' b o vs:=fun hr k v hv=>⟨(hr k v hv).1,h _ _ (hr k v hv).2.1,(hr k v hv).2.2⟩
 induction hp with
 | base v h1=>exact .base v h1
 | agg cs vs hl h1 _ ih=>exact .agg cs vs hl h1 ih
 | nil sz full=>exact .nil sz full
 | emp sz full a=>exact .emp sz full a
 | slc sz es full b o cap vss h0 hc hf hm hm' hr _ ih=>exact .slc sz es full b o cap vss h0 hc hf hm hm' (fun i e he=>⟨(hr i e he).1,(hr i e he).2.1,hrow (hr i e he).2.2⟩) ih
 | ptr p off b o vs hl hr _ ih=>exact .ptr p off b o vs hl (hrow hr) ih
 | fn f first cap vf vc h1 h2 _ _ ih1 ih2=>exact .fn f first cap vf vc h1 h2 ih1 ih2
 | tup cs vs hl _ ih=>exact .tup cs vs hl ih
theorem PRels.keepc (h:∀ (x:Addr) (v:Value),w.cell? x=some v→w'.cell? x=some v) {ps:List PV} {vs:List Value} (hp:PRels K w ps vs):PRels K w' ps vs :=
 ⟨hp.1,fun k c v hc hv=>(hp.2 k c v hc hv).keepc h⟩
theorem PRel.nc {B:Nat} (h:NC B w w') {p:PV} {v:Value} (hp:PRel K w p v):PRel K w' p v:=hp.keepc fun _ _ hc=>h.cell hc
theorem PRels.nc {B:Nat} (h:NC B w w') {ps:List PV} {vs:List Value} (hp:PRels K w ps vs):PRels K w' ps vs:=hp.keepc fun _ _ hc=>h.cell hc
theorem ARel.nc {B:Nat} (h:NC B w w') {av:AV} {v:Value} (ha:ARel K w ρ H av v):ARel K w' ρ H av v:=by
 induction ha with
 | pv p v hp=>exact .pv p v (hp.nc h)
 | own i hv=>exact .own i hv
 | box i off b hi hb=>exact .box i off b hi hb
 | ad i off b m c hi hb=>exact .ad i off b m c hi hb
 | agg cs vs hl h1 _ ih=>exact .agg cs vs hl h1 ih
 | fn f first cap vf vc h1 h2 _ _ ih1 ih2=>exact .fn f first cap vf vc h1 h2 ih1 ih2
 | any v=>exact .any v
 | any1 v h1 h2=>exact .any1 v h1 h2
theorem NC.block {B:Nat} (h:NC B w w') {b:Nat} {arr:Array Value} {t:TypeId} {x:Nat × Nat} (hb:w.heap[b]?=some (.cells arr t x)):w'.heap[b]?=some (.cells arr t x):=by
 obtain ⟨row,hg,hr⟩:=h.row
 have hlt:=(Array.getElem?_eq_some_iff.1 hb).1
 rw [hg.block b hlt (fun e=>by
  obtain ⟨_,o,ho,hc⟩:=hr b e.symm
  rw [hb] at ho;cases ho;simp [Obj.isCells] at hc)]
 exact hb
theorem HOk.nc {B B0:Nat} (h:NC B0 w w') {e:HE} {r:Value} (hX:∀ X,e≠.obj X) (ho:HOk K w B ρ H e r):HOk K w' B ρ H e r:=by
 cases e with
 | cell v =>
  obtain ⟨b,t,arr,u,rfl,hB,hb,hu,ha,hn⟩:=ho
  exact ⟨b,t,arr,u,rfl,hB,h.block hb,hu.nc h,ha,hn⟩
 | row t sz es =>
  obtain ⟨xs,hown,h0,hc,hk⟩:=ho
  obtain ⟨row,hg,hr⟩:=h.row
  refine ⟨xs,hown.kept hg ?_,h0,fun i e he=>⟨(hc i e he).1,fun k c hkc=>?_⟩,hk⟩
  ·rcases hown.2 with ⟨e,_⟩|⟨b,cap,cur,e,_,hb,_⟩
   ·left;rw [e];rfl
   ·right;rw [e];intro e2
    obtain ⟨_,o,ho,hcc⟩:=hr b e2.symm
    rw [hb] at ho;cases ho;simp [Obj.isCells] at hcc
  ·obtain ⟨v,v1,v2,v3⟩:=(hc i e he).2 k c hkc
   exact ⟨v,v1,v2,v3.nc h⟩
 | mrow t sz es =>
  obtain ⟨xs,hown,h0,hc,hk⟩:=ho
  obtain ⟨row,hg,hr⟩:=h.row
  refine ⟨xs,hown.kept hg ?_,h0,fun i e he=>⟨(hc i e he).1,fun k c hkc=>?_⟩,hk⟩
  ·rcases hown.2 with ⟨e,_⟩|⟨b,cap,cur,e,_,hb,_⟩
   ·left;rw [e];rfl
   ·right;rw [e];intro e2
    obtain ⟨_,o,ho,hcc⟩:=hr b e2.symm
    rw [hb] at ho;cases ho;simp [Obj.isCells] at hcc
  ·obtain ⟨v,v1,v2,v3⟩:=(hc i e he).2 k c hkc
   exact ⟨v,v1,v2,v3.nc h⟩
 | dead=>trivial
 | pin v u=>exact ARel.nc h ho
 | obj X=>exact (hX X rfl).elim
structure Bare (g:Base):Prop where
 ds:g.ds=[]
 pr:∀ b,¬ g.pr b
 k0:∀ b o,g.K0 b o→b < g.w0.heap.size
theorem FS.nc (hf:FS g K ρ H w) (hpr:∀ b,¬ g.pr b) (hk0:∀ b o,g.K0 b o→b < g.w0.heap.size) (hw1:g.w1.heap.size=0) (hno:za8 H=true) (h:NC g.w0.heap.size w w'):FS g K ρ H w':=by
 obtain ⟨row,hg,hr⟩:=h.row
 have hpt:Prot g K w':=⟨fun b hb=>(hpr b hb).elim,fun b o h0=>by
  rw [←hf.pt.kept b o h0]
  refine World.cell?_of_block (hg.block b (hf.lt b o (hf.old b o h0)) fun e=>?_)
  have h1:=(hr b e.symm).1
  have h2:=hk0 b o h0
  omega⟩
 refine ⟨hf.below.grown hg hf.below.size (fun k e=>(hr k e).1),hf.old,hf.new,fun b o hk=>Nat.lt_of_lt_of_le (hf.lt b o hk) hg.size,⟨by rw [hw1];omega,fun k o hk=>by have:=(Array.getElem?_eq_some_iff.1 hk).1;omega⟩,hpt,hf.away,?_,hf.heap.apart⟩
 intro i e hi
 exact (hf.heap.ok i e hi).nc h (zja hno i e hi)
structure AIter (P:Program) (f:FuncId) (cap:List PV) {α:Type} (encs:α→Array Value) (all:List α):Prop where
 stands:zaJ P f
 stops:∀ (K:KK) (w:World) (vc:List Value) (n:Nat),PRels K w cap vc→SeqStopsK Fence.wide n P f vc.toArray encs (fun A B=>(∃ K,PRels K A cap vc)→∃ K,PRels K B cap vc) (fun xs=>xs=all) (fun _=>True) all.length w
def mark (D:Nat):Deferred:={ target:=.collected D,args:=#[] }
structure AW2 (P:Program) (n:Nat) (g:Base) (c:Code) (env:Env) (H:HEnv) (Q:QC):Prop where
 go:∀ a w,Inv n g env H a w→∀ d,2≤d→c.wpIn Fence.wide d P (fun e a' w'=>∃ (g2:Base) (D:Nat),g2.w0=g.w0∧g2.K0=g.K0∧g2.ds=[mark D]∧g.w0.heap.size≤D∧g2.w1.heap[D]?=some (.deferred (some [])) ∧
  ∃ env' H',Inv n g2 env' H' a' w'∧Q e env' H') a w
variable {x y c:Code} {QQ:QC} {ops:List Oper}
def zkh (next:Env→HEnv→Prop):QC
 | .normal,env,H=>next env H
 | _,_,_=>False
theorem zhJ (h:AW P n g x env H (zkh fun env' H'=>AW2 P n g y env' H' QQ)):AW2 P n g (.seq x y) env H QQ :=
 ⟨fun a w hi d hd=>wpIn_seq (wpIn_mono (h.go a w hi none d) fun e a' w' ⟨env',H',h1,h2⟩=>by
  cases e <;> first
   | exact h2.go a' w' h1 d hd
   | exact h2.elim)⟩
theorem zrY (h:AW2 P n g x env H (zkh fun env' H'=>∀ g2:Base,AW P n g2 y env' H' QQ)):AW2 P n g (.seq x y) env H QQ :=
 ⟨fun a w hi d hd=>wpIn_seq (wpIn_mono (h.go a w hi d hd) fun e a' w' ⟨g2,D,q1,q2,q3,q4,q5,env',H',h1,h2⟩=>by
  cases e <;> first
   | exact wpIn_mono ((h2 g2).go a' w' h1 none d) (fun e a2 w2 ⟨env2,H2,k1,k2⟩=>⟨g2,D,q1,q2,q3,q4,q5,env2,H2,k1,k2⟩)
   | exact h2.elim)⟩
theorem zpT {id:Nat} (h:AW2 P n g c env H (zkh fun env' H'=>QQ .normal env' H')):AW2 P n g (.block id c) env H QQ :=
 ⟨fun a w hi d hd=>wpIn_block (wpIn_mono (h.go a w hi d hd) fun e a' w' ⟨g2,D,q1,q2,q3,q4,q5,env',H',h1,h2⟩=>by
  cases e <;> first
   | exact ⟨g2,D,q1,q2,q3,q4,q5,env',H',h1,h2⟩
   | exact h2.elim)⟩
theorem zjN (htb:yB P tb) {f:FuncId} {args:List PV} {r:PV} {fn:Func} (hf:P.funcs[f]?=some fn) (hb:fn.body=some c) (hn:(fn.name == "runtime.NumGoroutine")=false) (hnt:fn.ntmps=n) (hargs:args.length≤n)
  (rs:List ResultVar) (hrs:fn.results.toList=rs) (h:lensOk args→∀ g:Base,g.w1.heap.size=0→Bare g→AW2 P n g c (zgh 0 args) [] (fun e env H=>za8 H=true∧zqq tb rs r e env H)):ACall P f args r:=by
 refine ⟨⟨fn,hf,by simp [hb],hn⟩,fun K w vs hl hv=>?_⟩
 refine callsIn_wide.1 (callsIn_of_wp_marks (F:=Fence.wide) (n:=2) hf hb trivial ?_)
 have hlen:vs.length=args.length:=hv.1
 refine wpIn_mono ((h hv.lensOk (Base.of w K (bare w) []) rfl ⟨rfl,fun _ h=>h,hl⟩).go _ w ⟨by simp [hnt];omega,rfl,K,fun _=>undef,⟨.refl _ _,fun _ _ h=>h,fun _ _ h=>.inl h,hl,WC _ _,.base,.none _ _,⟨by simp [HEnv.get_nil,HEnv.get_cons],by simp [HEnv.get_nil,HEnv.get_cons]⟩⟩,?_⟩ 2 (Nat.le_refl _)) ?_
 ·intro t av hg
  obtain ⟨_,p,hp,rfl⟩:=za5 args 0 t av hg
  have hlt:t < vs.length:=by rw [hlen];exact (List.getElem?_eq_some_iff.1 hp).1
  refine ⟨vs[t],?_,.pv _ _ (hv.2 t p _ hp (List.getElem?_eq_getElem hlt))⟩
  rw [Array.getElem?_append_left (by simpa using hlt)]
  simp [hlt]
 ·rintro e a' w' ⟨g2,D,q1,q2,q3,q4,q5,env1,H',hi,hno,he,env',hent,ps,hps,rfl⟩
  obtain ⟨_,h2,K',ρ',hf2,he0⟩:=hi
  have hD:w'.heap[D]?=some (.deferred (some [])):=hf2.others.same D _ q5 rfl
  have hf':FS (Base.of w K (bare w) []) K' ρ' H' w':=by
   have b1:=hf2.below;rw [q1] at b1
   have b2:=hf2.old;rw [q2] at b2
   have b3:=hf2.new;rw [q1,q2] at b3
   have b5:=hf2.heap;rw [q1] at b5
   exact ⟨b1,b2,b3,hf2.lt,WC _ _,⟨fun _ h=>h.elim,fun b o h0=>World.cell?_of_block (b1.block b (hl b o h0))⟩,.none _ _,b5⟩
  obtain ⟨w3,hw3⟩:∃ w3,w3=w'.putObj D (.deferred none):=⟨_,rfl⟩
  have hnc:NC w.heap.size w' w3:=⟨some D,by rw [hw3];exact grownBy_putObj' _ _ _,fun r e=>by cases e;exact ⟨q4,_,hD,rfl⟩⟩
  have hf3:=hf'.nc (fun _ h=>h) hl rfl hno hnc
  have he':EnvR K' w3 ρ' H' env' a'.tmps:=fun t av ht=>by
   obtain ⟨av0,q1,q2⟩:=hent t av ht
   obtain ⟨v,v1,v2⟩:=he0 t av0 q1
   exact ⟨v,v1,q2 _ _ _ _ _ (v2.nc hnc)⟩
  obtain ⟨us,hrun,hru⟩:=VD htb hf3 he' hps
  have hev:Evo K K' w w3:=⟨hf3.below,hf3.old,hf3.new,hf3.lt⟩
  have hres:(results fn a'.tmps).run P w3=.ok (if hh:us.toArray.size=1 then us.toArray[0] else .tuple us.toArray) w3:=by
   unfold results
   rw [Array.mapM_eq_mapM_toList,hrs]
   simp only [Sem.run_bind,Sem.run_map]
   erw [hrun]
   rfl
  have hval:PRel K' w3 (zi ps) (if hh:us.toArray.size=1 then us.toArray[0] else .tuple us.toArray):=by
   split
   ·rename_i hh
    have hl1:=hru.1
    have hu:us.length=1:=by simpa using hh
    obtain ⟨u,rfl⟩:=List.length_eq_one_iff.1 hu
    obtain ⟨p,rfl⟩:=List.length_eq_one_iff.1 (show ps.length=1 by omega)
    exact hru.2 0 p u (by simp) (by simp)
   ·rename_i hh
    simp at hh
    have:zi ps=.tup ps:=by
     unfold zi
     split
     ·rename_i p;exact absurd (by have:=hru.1;simpa using this) hh
     ·rfl
    rw [this]
    exact .tup ps us hru.1 hru.2
  have hds:a'.defers=[mark D]:=h2.trans q3
  have hleave:LeavesInM Fence.wide 2 P fn a'.tmps (fun e w'=>∃ v K',e=.returned v∧Evo K K' w w'∧PRel K' w' (zi ps) v) a'.defers .returning w':=by
   rw [hds]
   refine ⟨by simp,.inl ⟨D,w3,rfl,by rw [hw3];exact run_takeDeferred hD,?_⟩⟩
   exact ⟨_,hres,_,K',rfl,hev,hval⟩
  rcases he with rfl|rfl
  ·exact hleave
  ·exact hleave
def zrU (ts:List Nat) (env:Env):Bool:=ts.all fun t=>(env.get t).isNone
theorem zpn {α:Type} {tf p0 p1 tv:Nat} {id:Nat} {ty:TypeId} {po:String} {af:Array Edge} {body:Code} {fB:FuncId} {cap:List PV} {encs:α→Array Value} {all:List α} (v0 v1:α→Value) (hit:AIter P fB cap encs all)
  (env2:Env) (HH:List α→HEnv) (b:Nat) (hw1:g.w1.heap.size=0) (hbg:Bare g)
  (henc:∀ x,encs x=#[v0 x,v1 x]) (hv1:∀ x,Qz (v1 x)=true)
  (ht:env.get tf=some (.pv (.fn (.func fB) [] cap))) (hs:Sub env env2) (hft:env2.get tf=some (.pv (.fn (.func fB) [] cap))) (hnd:zlq env2=true) (hfr:zrU [p0,p1,tv] env2=true) (hpp:p0 < n∧p1 < n∧tv < n∧p0≠p1)
  (hfit:Qa H (HH []) env2) (hids:∀ pre,zd5 b (HH pre)=true) (hno:∀ pre,za8 (HH pre)=true)
  (hend:(Qv (HH all) env2&&hIn (HH all) (HH all))=true)
  (hbody:∀ (g2:Base) (us:Nat→Value) (pre:List α) (x:α),pre.length < all.length→AW P n g2 body ((tv,.pv (.base (v1 x)))::env2) (HH pre++yY us b env2) (zkh fun env' H'=>Qa H' (HH (pre++[x])++yY us b env2) []))
  (h:QQ .normal env2 (HH all)):AW2 P n g (.rangeFunc (.tmp tf) #[p0,p1] (.region id #[{ dst:=some tv,op:=.assign (.tmp p1),type:=ty,pos:=po,after:=af,guard:=none }] false) body) env H QQ:=by
 refine ⟨fun a w hinv d hd=>?_⟩
 have hinv2:=(hinv.sub hs).hsub hfit
 obtain ⟨h1,h2,K,ρ,hf,he⟩:=hinv2
 let us:Nat→Value:=fun t=>a.tmps.getD t undef
 have hus:∀ t av,(t,av)∈env2→ARel K w ρ (HH []) av (us t):=by
  intro t av hm
  obtain ⟨v,v1,v2⟩:=he t av (zdu hnd hm)
  have:us t=v:=by simp [us,Array.getD_eq_getD_getElem?,v1]
  rw [this];exact v2
 have hpins:∀ (pre:List α),za8 (HH pre++yY us b env2)=true:=by
  intro pre
  have h3:∀ (e:Env) (k:Nat),za8 (yY us k e)=true:=by
   intro e
   induction e with
   | nil=>intro k;rfl
   | cons x e ih=>intro k;exact ih (k + 1)
  have h4:∀ (A B:HEnv),za8 A=true→za8 B=true→za8 (A++B)=true:=by
   intro A
   induction A with
   | nil=>intro B _ hB;exact hB
   | cons x A ih =>
    intro B hA hB
    obtain ⟨j,x⟩:=x
    cases x <;> simp only [za8,List.cons_append] at hA ⊢ <;> first|exact ih B hA hB|cases hA
  exact h4 _ _ (hno pre) (h3 _ _)
 have hfs0:FS g K ρ (HH []++yY us b env2) w:=by
  have hlat:Later K K w w:=.refl K w
  have hk:∀ j,(HEnv.get (HH []) j).isSome=true→(HEnv.get (HH []++yY us b env2) j).isSome=true∧ρ j=ρ j:=fun j hj=>⟨zO j hj,rfl⟩
  refine ⟨hf.below,hf.old,hf.new,hf.lt,hf.others,hf.pt,fun i h bb _ _ _=>hbg.pr bb,?_,?_⟩
  ·intro i e hi
   rw [get_append] at hi
   cases hh:HEnv.get (HH []) i with
   | some x=>rw [hh] at hi;simp only [Option.some.injEq] at hi;subst hi;exact (hf.heap.ok i _ hh).keeps (.refl hf.lt) hf.lt hk
   | none =>
    rw [hh] at hi
    obtain ⟨_,t,av,hm,rfl⟩:=VY hi
    exact (hus t av hm).keeps hlat hk
  ·intro i j x y bb hij hi hj lx ly bx bby
   have e1:∀ i x,HEnv.get (HH []++yY us b env2) i=some x→x.live=true→HEnv.get (HH []) i=some x:=by
    intro i x hi hl
    rw [get_append] at hi
    cases hh:HEnv.get (HH []) i with
    | some z=>rw [hh] at hi;exact hi
    | none =>
     rw [hh] at hi
     obtain ⟨_,t,av,hm,rfl⟩:=VY hi
     simp [HE.live] at hl
   exact hf.heap.apart i j x y bb hij (e1 i x hi lx) (e1 j y hj ly) lx ly bx bby
 have hread:∀ {K':KK} {ρ':Nat→Value} {pre:List α} {W:World} {g':Base},FS g' K' ρ' (HH pre++yY us b env2) W→∀ t av,env2.get t=some av→a.tmps[t]?=some (us t)∧ARel K' W ρ' (HH pre++yY us b env2) av (us t):=by
  intro K' ρ' pre W g' hf' t av hg
  obtain ⟨v,v1,v2⟩:=he t av hg
  have hu:us t=v:=by simp [us,Array.getD_eq_getD_getElem?,v1]
  obtain ⟨i,hbi,hgi⟩:=zho (us:=us) (b:=b) (zgP hg)
  have hn:HEnv.get (HH pre) i=none:=by
   cases hh:HEnv.get (HH pre) i with
   | none=>rfl
   | some z=>have:=XY (hids pre) i z hh;omega
  have hget:HEnv.get (HH pre++yY us b env2) i=some (.pin av (us t)):=by rw [get_append,hn];exact hgi
  exact ⟨by rw [hu];exact v1,hf'.heap.ok i _ hget⟩
 have hfn:∃ vc,us tf=.func (.func fB) #[] vc.toArray∧PRels K w cap vc:=by
  have:=(hus tf _ (zgP hft))
  cases this with
  | pv _ _ hp =>
   generalize us tf=u at hp
   cases hp with
   | fn _ _ _ vf vc f1 f2 f3 f4 =>
    have:vf=[]:=List.eq_nil_of_length_eq_zero (by simpa using f1)
    subst this
    exact ⟨vc,rfl,f2,f4⟩
 obtain ⟨vc,hvc,hpc⟩:=hfn
 have hev:a.eval (.tmp tf)=.func (.func fB) #[] vc.toArray:=by rw [←hvc];rfl
 have hcapW:∀ {K':KK} {ρ':Nat→Value} {pre:List α} {W:World} {g':Base},FS g' K' ρ' (HH pre++yY us b env2) W→PRels K' W cap vc:=by
  intro K' ρ' pre W g' hf'
  have:=(hread hf' tf _ hft).2
  rw [hvc] at this
  cases this with
  | pv _ _ hp =>
   cases hp with
   | fn _ _ _ vf vc' f1 f2 f3 f4=>exact ⟨f2,f4⟩
 have hseq:=hit.stops K w vc (d - 1) hpc
 let a₁:α→Act:=fun x=>{ tmps:=((a.tmps.setIfInBounds p0 (v0 x)).setIfInBounds p1 (v1 x)).setIfInBounds tv (v1 x),defers:=[] }
 let I:List α→World→Prop:=fun pre W=>∃ K ρ,FS g K ρ (HH pre++yY us b env2) W
 refine wpIn_rangeFunc_ownF (α:=α) (F:=Fence.wide) (n:=d) (w0:=w) (N:=all.length) rfl (by omega) hev trivial (fun args w=>Zg hit.stands args w) hseq
  (fun h1 h2 h=>h2 (h1 h)) (fun W l o o' hl hlo ho _=>fun ⟨K',hK'⟩=>⟨K',hK'.nc (B:=0) ⟨some l,grownBy_putObj' _ _ _,fun r e=>by cases e;exact ⟨Nat.zero_le _,o,hlo,ho⟩⟩⟩) (.refl _ _)
  (fun x=>by rw [henc];rfl) I (fun _ _ _=>False) ?_ (fun _ _ _ _ _ h=>h.elim) ⟨K,ρ,hfs0⟩ a₁ ?_ ?_ ?_ (fun _ _ _ _ _ _ h _=>h.elim)
 ·rintro pre W W' row ⟨K',ρ',hf'⟩ hg hr
  exact ⟨K',ρ',hf'.nc hbg.pr hbg.k0 hw1 (hpins pre) ⟨row,hg,fun r e=>⟨Nat.le_trans hf.below.size (hr r e).1,(hr r e).2⟩⟩⟩
 ·intro l x W KK hKK
  refine wpIn_region_list ?_
  have hK:KK (a₁ x) W:=hKK
  show wpListIn _ _ _ _ _ [_] _ _
  refine wpListIn_plain rfl fun K2 hK2=>?_
  refine ⟨fun _ _=>trivial,?_⟩
  rw [Oper.semAt_eq _ _ _ (fun c hc=>by cases hc)]
  have hrun:∀ ρ:Operand→Value,(execOp ρ { dst:=some tv,op:=.assign (.tmp p1),type:=ty,pos:=po,after:=af,guard:=none:Oper }).run P W=.ok (.value (ρ (.tmp p1))) W:=fun ρ=>by simp [execOp]
  rw [hrun]
  simp only [Oper.uponIn]
  refine hK2 _ _ ?_
  show Exit.then KK _ .normal _ W
  have e1:(({ tmps:=((#[p0,p1]:Array Tmp).zip (encs x)).foldl (fun t (p,v)=>t.setIfInBounds p v) a.tmps,defers:=[] }:Act).put (some tv) (({ tmps:=((#[p0,p1]:Array Tmp).zip (encs x)).foldl (fun t (p,v)=>t.setIfInBounds p v) a.tmps,defers:=[] }:Act).eval (.tmp p1)))=a₁ x:=by
   rw [henc x]
   have hsz:p1 < (a.tmps.setIfInBounds p0 (v0 x)).size:=by simp;omega
   have hz:((#[p0,p1]:Array Tmp).zip #[v0 x,v1 x]).foldl (fun t (p,v)=>t.setIfInBounds p v) a.tmps=(a.tmps.setIfInBounds p0 (v0 x)).setIfInBounds p1 (v1 x):=by
    have hz0:(#[p0,p1]:Array Tmp).zip #[v0 x,v1 x]=#[(p0,v0 x),(p1,v1 x)]:=Array.ext' (by rw [Array.toList_zip];rfl)
    rw [hz0];rfl
   rw [hz]
   simp only [Act.put,Act.eval,a₁]
   congr 2
   simp [Array.getD_eq_getD_getElem?]
   intro h;omega
  rw [e1]
  exact hK
 ·rintro l pre x W ⟨K',ρ',hf'⟩ hlen
  have hf2:FS ⟨g.w0,g.K0,W,[],g.wp,g.pr⟩ K' ρ' (HH pre++yY us b env2) W:=⟨hf'.below,hf'.old,hf'.new,hf'.lt,KeepsOthers.refl W,⟨hf'.pt.same,hf'.pt.kept⟩,hf'.away,hf'.heap⟩
  have hinvB:Inv n ⟨g.w0,g.K0,W,[],g.wp,g.pr⟩ ((tv,.pv (.base (v1 x)))::env2) (HH pre++yY us b env2) (a₁ x) W:=by
   refine ⟨by simp [a₁,h1],rfl,K',ρ',hf2,fun t av hg=>?_⟩
   rw [Env.get_cons] at hg
   split at hg
   ·rename_i e;subst e
    simp only [Option.some.injEq] at hg;subst hg
    refine ⟨v1 x,?_,.pv _ _ (.base _ (hv1 x))⟩
    show (((a.tmps.setIfInBounds p0 (v0 x)).setIfInBounds p1 (v1 x)).setIfInBounds tv (v1 x))[tv]?=some (v1 x)
    exact Array.getElem?_setIfInBounds_self_of_lt (by simp;omega)
   ·rename_i hne
    obtain ⟨q1,q2⟩:=hread hf' t av hg
    have hfresh:∀ p,p∈[p0,p1,tv]→p≠t:=by
     intro p hp e;subst e
     have:=List.all_eq_true.1 hfr p hp
     rw [hg] at this;cases this
    refine ⟨us t,?_,q2⟩
    show (((a.tmps.setIfInBounds p0 (v0 x)).setIfInBounds p1 (v1 x)).setIfInBounds tv (v1 x))[t]?=_
    rw [Array.getElem?_setIfInBounds_ne (hfresh tv (by simp)),Array.getElem?_setIfInBounds_ne (hfresh p1 (by simp)),Array.getElem?_setIfInBounds_ne (hfresh p0 (by simp))]
    exact q1
  refine wpIn_mono ((hbody ⟨g.w0,g.K0,W,[],g.wp,g.pr⟩ us pre x hlen).go (a₁ x) W hinvB (some l) (d - 1 - 1)) ?_
  rintro e a' W' ⟨env',H',hi',hq⟩
  cases e with
  | normal =>
   obtain ⟨_,_,K2,ρ2,hfe,_⟩:=(hi'.sub zT).hsub (H':=HH (pre++[x])++yY us b env2) hq
   refine ⟨hfe.others,fun _=>⟨K2,hcapW hfe⟩,K2,ρ2,⟨hfe.below,hfe.old,hfe.new,hfe.lt,⟨by rw [hw1];omega,fun k o hk=>by have:=(Array.getElem?_eq_some_iff.1 hk).1;omega⟩,⟨hfe.pt.same,hfe.pt.kept⟩,hfe.away,hfe.heap⟩⟩
  | _=>exact hq.elim
 ·rintro D xs W hD rfl ⟨K',ρ',hf'⟩ hWD
  have hend':=hend
  simp only [Bool.and_eq_true] at hend'
  have hfe:FS ⟨g.w0,g.K0,W,[mark D],g.wp,g.pr⟩ K' ρ' (HH xs++yY us b env2) W:=⟨hf'.below,hf'.old,hf'.new,hf'.lt,KeepsOthers.refl W,⟨hf'.pt.same,hf'.pt.kept⟩,hf'.away,hf'.heap⟩
  have hinvE:Inv n ⟨g.w0,g.K0,W,[mark D],g.wp,g.pr⟩ env2 (HH xs++yY us b env2) { a with defers:=mark D::a.defers } W:=by
   refine ⟨h1,?_,K',ρ',hfe,fun t av hg=>?_⟩
   ·show mark D::a.defers=[mark D]
    rw [h2,hbg.ds]
   ·obtain ⟨q1,q2⟩:=hread hf' t av hg
    exact ⟨us t,q1,q2⟩
  have hsub:HSub (HH xs++yY us b env2) (HH xs):=fun i h hi=>by rw [get_append,hi]
  exact ⟨⟨g.w0,g.K0,W,[mark D],g.wp,g.pr⟩,D,rfl,rfl,rfl,Nat.le_trans hf.below.size hD,hWD,env2,HH xs,hinvE.hsub ⟨hsub,hend⟩,h⟩
end
end Go.Cg
