/- A part of the walks by abstract values: no statement of its own. -/
import Derived.Test.YtdlokcmodgccnaaGreatF11
import Derived.Test.YtdlokcmodgccnaaGreatF8
import Derived.Test.YtdlokcmodgccnaaGreatF15
import Derived.Test.YtdlokcmodgccnaaGreatF23
set_option linter.unusedVariables false
set_option linter.unusedSimpArgs false
namespace Go.Cg
section
variable {P:Program} {n:Nat} {g:Base} {H:HEnv} {env:Env} {QQ:QC} {c:Code} {Q:Env→HEnv→Prop} {ops:List Oper}
end
end Go.Cg
namespace Go.Cg
open Go.RowKit
section
variable {P:Program} {tb:Tab} {n:Nat} {g:Base} {K:KK} {w:World} {ρ:Nat→Value} {H:HEnv} {env:Env} {a:Act} {ops:List Oper} {o:Oper} {rest:List Oper} {Q:Env→HEnv→Prop} {QQ:QC} {c:Code}
theorem ziF {sz:Nat} (hz:0 < sz) {es ps:List PV} {xs vs:List Value} {off:Nat} (h:CellsRel K w sz es xs) (hp:CellsRel K w sz ps vs) (hx:xs.length=es.length * sz) (hv:vs.length=ps.length * sz) (ho:off + ps.length≤es.length) :
  CellsRel K w sz (es.take off++ps++es.drop (off + ps.length)) (xs.take (off * sz)++vs++xs.drop (off * sz + vs.length)):=by
 have hmul:off * sz + vs.length=(off + ps.length) * sz:=by rw [hv,Nat.add_mul]
 have hle:(off + ps.length) * sz≤xs.length:=by rw [hx];exact Nat.mul_le_mul_right sz ho
 intro i e he
 rw [YB ho] at he
 split at he
 ·rename_i h1
  obtain ⟨c1,c2⟩:=h i e he
  refine ⟨c1,fun k c hc=>?_⟩
  have hk:k < sz:=by have:=(List.getElem?_eq_some_iff.1 hc).1;omega
  obtain ⟨v,v1,v2,v3⟩:=c2 k c hc
  have hlt:i * sz + k < off * sz:=by
   have:=Nat.mul_le_mul_right sz (show i + 1≤off by omega)
   rw [Nat.add_mul] at this;omega
  exact ⟨v,by rw [YB (by omega),if_pos hlt];exact v1,v2,v3⟩
 ·split at he
  ·rename_i h1 h2
   obtain ⟨c1,c2⟩:=hp (i - off) e he
   refine ⟨c1,fun k c hc=>?_⟩
   have hk:k < sz:=by have:=(List.getElem?_eq_some_iff.1 hc).1;omega
   obtain ⟨v,v1,v2,v3⟩:=c2 k c hc
   have e1:(i - off) * sz + off * sz=i * sz:=by rw [←Nat.add_mul];congr 1;omega
   have hlt:i * sz + k < off * sz + vs.length:=by
    have:=Nat.mul_le_mul_right sz (show i + 1≤off + ps.length by omega)
    rw [Nat.add_mul] at this;omega
   exact ⟨v,by rw [YB (by omega),if_neg (by omega),if_pos hlt,show i * sz + k - off * sz=(i - off) * sz + k by omega];exact v1,v2,v3⟩
  ·rename_i h1 h2
   obtain ⟨c1,c2⟩:=h i e he
   refine ⟨c1,fun k c hc=>?_⟩
   obtain ⟨v,v1,v2,v3⟩:=c2 k c hc
   have hge:off * sz + vs.length≤i * sz:=by rw [hmul];exact Nat.mul_le_mul_right sz (by omega)
   exact ⟨v,by rw [YB (by omega),if_neg (by omega),if_neg (by omega)];exact v1,v2,v3⟩
theorem FS.spliceZ (hf:FS g K ρ H w) {i e b cap off sz:Nat} {es ps:List PV} {cur:Array Value} {vs:List Value} (hi:H.get i=some (.mrow e sz es)) (hρ:ρ i=.slice (some ⟨b,0,none⟩) es.length cap) (hheap:w.heap[b]?=some (.cells cur e (0,0)))
  (hp:CellsRel K w sz ps vs) (hv:vs.length=ps.length * sz) (ho:off + ps.length≤es.length) {arr:Array Value} (harr:arr=(cur.toList.take (off * sz)++vs++cur.toList.drop (off * sz + vs.length)).toArray) :
  FS g K ρ ((i,.mrow e sz (es.take off++ps++es.drop (off + ps.length)))::H) (w.setRow b arr)∧Later K K w (w.setRow b arr):=by
 obtain ⟨xs,hown,h0,hcr,hnK⟩:=hf.heap.ok i _ hi
 rcases hown.2 with ⟨hr,_⟩|⟨b',cap',cur',hr,hB,hheap',hec,hcap,hsize,htake⟩
 ·rw [hρ] at hr;simp at hr
 ·rw [hρ] at hr
  simp only [Value.slice.injEq,Option.some.injEq,Addr.mk.injEq,and_true,true_and] at hr
  obtain ⟨rfl,rfl⟩:=hr
  rw [hheap] at hheap'
  simp only [Option.some.injEq,Obj.cells.injEq,and_true] at hheap'
  subst hheap'
  have hlen:(es.take off++ps++es.drop (off + ps.length)).length=es.length:=by rw [List.length_append,List.length_append,List.length_take,List.length_drop];omega
  have hgrow:w.grownBy (w.setRow b arr) (some b):=⟨rfl,rfl,rfl,by simp,fun k _ hk=>setRow_other w b k _ (fun e=>hk (by simp [e]))⟩
  have hnKb:∀ o,¬ K b o:=hnK b (by rw [hρ];rfl)
  have hlat:Later K K w (w.setRow b arr):=⟨fun _ _ h=>h,fun b' o hk=>by
   have:b'≠b:=by rintro rfl;exact hnKb o hk
   exact cell_setRow_other w b _ ⟨b',o,none⟩ this⟩
  have hxl:xs.length=es.length * sz:=hown.1
  have hmul:off * sz + vs.length=(off + ps.length) * sz:=by rw [hv,Nat.add_mul]
  have hle:off * sz + vs.length≤es.length * sz:=by rw [hmul];exact Nat.mul_le_mul_right sz ho
  have hec':es.length * sz≤cur.size:=by rw [hsize];exact Nat.mul_le_mul_right sz hec
  have hkeep:∀ j,(H.get j).isSome=true→(HEnv.get ((i,.mrow e sz (es.take off++ps++es.drop (off + ps.length)))::H) j).isSome=true∧ρ j=ρ j:=by
   intro j hj
   refine ⟨?_,rfl⟩
   rw [HEnv.get_cons]
   split
   ·rfl
   ·exact hj
  refine ⟨⟨hf.below.grown hgrow hf.below.size (fun k hk=>by simp at hk;omega),hf.old,hf.new,fun b o hk=>by have:=hf.lt b o hk;simpa using this,hf.others.trans (zdz hheap hgrow),hf.pt.grown hf.old hgrow hlat (fun b2 hb2=>by cases hb2;exact hf.away i _ b hi rfl (by rw [hρ];rfl)) (fun _ _ h=>.inl h),hf.away.set hi rfl,?_,?_⟩,hlat⟩
  ·intro j' e' hj
   rw [HEnv.get_cons] at hj
   split at hj
   ·rename_i e1;subst e1
    simp only [Option.some.injEq] at hj;subst hj
    refine ⟨xs.take (off * sz)++vs++xs.drop (off * sz + vs.length),⟨?_,.inr ⟨b,cap,arr,by rw [hρ,hlen],hB,setRow_heap w b cur _ e _ hheap,by rw [hlen];exact hec,hcap,?_,?_⟩⟩,h0,?_,fun b' hb'=>hnK b' hb'⟩
    ·rw [hlen,List.length_append,List.length_append,List.length_take,List.length_drop];omega
    ·rw [←hsize,harr,List.size_toArray,List.length_append,List.length_append,List.length_take,List.length_drop,Array.length_toList];omega
    ·rw [hlen,harr,←htake]
     have h9:cur.toList.length=cur.size:=by simp
     exact zfX (by omega) (by omega)
    ·have:=ziF (off:=off) h0 hcr hp hxl hv ho
     intro i1 e1 he1
     obtain ⟨c1,c2⟩:=this i1 e1 he1
     exact ⟨c1,fun k c hc=>let ⟨v,v1,v2,v3⟩:=c2 k c hc;⟨v,v1,v2,v3.later hlat⟩⟩
   ·rename_i hne
    by_cases hlive:e'.live=true
    ·have:=(hf.heap.ok j' e' hj).grown (f:=id) hgrow hlat (fun b o h=>.inl h) (fun av v h=>h.keeps hlat hkeep) hlive (fun b' hb' e'=>by
      simp at e';subst e'
      exact hf.heap.apart i j' _ _ b hne hi hj rfl hlive (by rw [hρ];rfl) hb')
     cases e' <;> exact this
    ·cases e' <;> simp [HE.live] at hlive
     ·trivial
     ·exact ARel.keeps hlat hkeep (hf.heap.ok j' _ hj)
  ·intro j' k' e1 e2 bb hjk hj hk' hlj hlk hbj hbk
   have f1:∀ (j:Nat) (hh:HE),HEnv.get ((i,.mrow e sz (es.take off++ps++es.drop (off + ps.length)))::H) j=some hh→hh.live=true→∃ h0,H.get j=some h0∧h0.live=true:=by
    intro j hh hj hl
    rw [HEnv.get_cons] at hj
    split at hj
    ·rename_i e';subst e';exact ⟨_,hi,rfl⟩
    ·exact ⟨hh,hj,hl⟩
   obtain ⟨a1,a2,a3⟩:=f1 j' e1 hj hlj
   obtain ⟨b1,b2,b3⟩:=f1 k' e2 hk' hlk
   exact hf.heap.apart j' k' a1 b1 bb hjk a2 b2 a3 b3 hbj hbk
theorem zr6 (sz:Nat) {b n c l h:Nat}:cut sz (.slice (some ⟨b,0,none⟩) n c) l h=.slice (some ⟨b,l * sz,none⟩) (h - l) (c - l):=rfl
theorem zg6 (hf:FS g K ρ H w) {i j e sz:Nat} {u:Value} {es:List PV} (hi:H.get i=some (.mrow e sz es)) (hj:H.get j=some (.pin (.own i) u)) (h0:0 < es.length):u=ρ i∧∃ b cap,ρ i=.slice (some ⟨b,0,none⟩) es.length cap∧es.length≤cap:=by
 have hu:u=ρ i:=by
  have h9:ARel K w ρ H (.own i) u:=hf.heap.ok j _ hj
  cases h9;rfl
 refine ⟨hu,?_⟩
 obtain ⟨xs,hown,_,_,_⟩:=hf.heap.ok i _ hi
 rcases hown.2 with ⟨_,hz⟩|⟨b,cap,cur,hr,_,_,hle,_,_,_⟩
 ·omega
 ·exact ⟨b,cap,hr,hle⟩
theorem Qi (htb:yB P tb) {t e:Nat} {x y:Operand} {i j l h sz:Nat} {u:Value} {es:List PV} {kk:IntKind} {m:Int} (k:Nat) (hop:o.op=.indexAddr t x y) (hx:env.val x=some (.pv (.base (cut sz u l h)))) (hj:H.get j=some (.pin (.own i) u)) (hi:H.get i=some (.mrow e sz es))
  (hk:tb.k t=.sl e) (hke:tb.known e=true) (hsz:tb.size e=sz) (hy:env.pv H y=some (.base (.int kk m))) (hm:m=(k:Nat)) (hlt:l + k < h) (hh:h≤es.length):QStep P g H o env (.ad i ((l + k) * sz)):=by
 refine ⟨fun K ρ a w hf hv=>?_⟩
 have hxr:=hv x (by rw [hop];simp [Op.operands]) _ hx
 have hyr:=yG (a:=a) hf (x:=y) (hv y (by rw [hop];simp [Op.operands])) hy
 generalize hxv:a.eval x=xv at hxr
 generalize hyv:a.eval y=yv at hyr
 obtain ⟨rfl,b,cap,hr,hcap⟩:=zg6 hf hi hj (by omega)
 subst hm
 cases hyr
 cases hxr with
 | pv _ _ hpr =>
  rw [hr,zr6] at hpr
  cases hpr
  have hko:tb.k e≠.oth:=by intro h;simp [Tab.known,h] at hke
  have hs:=run_sizeOf htb hko w
  have hrun:(execOp a.eval o).run P w=.ok (.value (.pointer (some ⟨b,(l + k) * sz,none⟩))) w:=by
   have e1:l * sz + k * sz=(l + k) * sz:=by rw [Nat.add_mul]
   have hk2:k < h - l:=by omega
   simp [execOp,hop,hxv,hyv,Instr.indexAt,asIntOf,run_underlying (qj htb hk),hs,hsz,Addr.add_lit,e1,hk2]
  rw [hrun]
  exact ZB hf (.ad i ((l + k) * sz) b es.length cap (by rw [hi];rfl) hr)
theorem zia (htb:yB P tb) {ty e:Nat} {x:Operand} {i j l h sz:Nat} {u:Value} {es:List PV} (hop:o.op=.call { callee:=.builtin .len,args:=#[x],argTypes:=#[ty] }) (hx:env.val x=some (.pv (.base (cut sz u l h)))) (hj:H.get j=some (.pin (.own i) u)) (hi:H.get i=some (.mrow e sz es)) (hk:tb.k ty=.sl e) (h0:0 < es.length):QStep P g H o env (.pv (.base (.int .i64 ((h - l:Nat):Int)))):=by
 refine ⟨fun K ρ a w hf hv=>?_⟩
 have hxr:=hv x (by rw [hop];simp [Op.operands,Call.operands]) _ hx
 generalize hxv:a.eval x=xv at hxr
 obtain ⟨rfl,b,cap,hr,hcap⟩:=zg6 hf hi hj h0
 cases hxr with
 | pv _ _ hpr =>
  rw [hr,zr6] at hpr
  cases hpr
  have hrun:(execOp a.eval o).run P w=.ok (.value (.int .i64 ((h - l:Nat):Int))) w:=by
   simp [execOp,hop,hxv,resolve,invoke,builtin,Builtin.len_,run_underlying (qj htb hk),goInt]
  rw [hrun]
  exact ZB hf (.pv _ _ (.base _ rfl))
theorem zq7 {sz:Nat} {es:List PV} {full:Bool} {b o cap h:Nat} (hh:h≤es.length) (hp:PRel K w (.slc sz es full) (.slice (some ⟨b,o,none⟩) es.length cap)):PRel K w (.slc sz (es.take h) false) (.slice (some ⟨b,o,none⟩) h cap):=by
 have hl:(es.take h).length=h:=by rw [List.length_take];omega
 generalize hes:es=es' at hp
 generalize hn:es'.length=m at hp
 have sub:∀ {i:Nat} {e:PV},(es.take h)[i]?=some e→es[i]?=some e:=fun {i e} hi=>by
  rw [List.getElem?_take] at hi
  split at hi
  ·exact hi
  ·cases hi
 cases hp with
 | emp =>
  have:es=[]:=hes
  subst this
  simp at hl;subst hl
  exact .emp sz false _
 | slc _ _ _ _ _ _ vss h0 h1 h2 h3 h4 h5 h6 =>
  subst hes
  have:=PRel.slc (K:=K) (w:=w) sz (es.take h) false b o cap vss h0 (by omega) (by simp) (by omega) h4 (fun i e hi=>h5 i e (sub hi)) (fun i e k c v hi=>h6 i e k c v (sub hi))
  rwa [hl] at this
theorem zpF {t i j e sz h:Nat} {u:Value} {es:List PV} {a:Act} {w:World} (ht:env.get t=some (.pv (.base (cut sz u 0 h)))) (hi:H.get i=some (.row e sz es)) (hj:H.get j=some (.pin (.own i) u)) (hh:h≤es.length) (h0:0 < es.length) (hinv:Inv n g env H a w):Inv n g ((t,.pv (.slc sz (es.take h) false))::env) H a w:=by
 obtain ⟨g1,g2,K,ρ,hf,he⟩:=hinv
 refine ⟨g1,g2,K,ρ,hf,fun t' av hg=>?_⟩
 rw [Env.get_cons] at hg
 split at hg
 ·rename_i e1;subst e1
  simp only [Option.some.injEq] at hg;subst hg
  obtain ⟨v,h1,h2⟩:=he _ _ ht
  refine ⟨v,h1,.pv _ _ ?_⟩
  have hu:u=ρ i:=by
   have h9:ARel K w ρ H (.own i) u:=hf.heap.ok j _ hj
   cases h9;rfl
  have hrow:=ze7 hf hi (.own i (by rw [hi];rfl))
  obtain ⟨xs,hown,_,_,_⟩:=hf.heap.ok i _ hi
  cases h2 with
  | pv _ _ hp =>
   rcases hown.2 with ⟨_,hz⟩|⟨b,cap,cur,hr,_,_,hle,_,_,_⟩
   ·omega
   ·rw [hu,hr] at hp
    rw [hr] at hrow
    cases hp
    have:=zq7 hh hrow
    simpa [cut] using this
 ·exact he t' av hg
theorem zom (htb:yB P tb) {t e sz:Nat} {x:Operand} {i j l h:Nat} {u:Value} {es:List PV} {z:PV} {zv:Value} (hg:guardE ops env o=some true) (hop:o.op=.call { callee:=.builtin .clear,args:=#[x],argTypes:=#[t] }) (hk:tb.k t=.sl e)
  (hx:env.val x=some (.pv (.base (cut sz u l h)))) (hj:H.get j=some (.pin (.own i) u)) (hi:H.get i=some (.mrow e sz es)) (hlh:l≤h) (hh:h≤es.length) (h0:0 < es.length)
  (hz:tb.zero e=some zv) (hzz:zfn zv=some z) (hzc:zv.cells.size=sz) (hd:o.dst=none)
  (k:AO P n g ops.toArray rest env ((i,.mrow e sz (es.take l++List.replicate (h - l) z++es.drop (l + (h - l))))::H) Q):AO P n g ops.toArray (o::rest) env H Q:=by
 refine ⟨fun a w hinv=>?_⟩
 have hw:=yF hinv hg
 obtain ⟨g1,g2,K,ρ,hf,he⟩:=hinv
 refine wpList_step fun KK hKK=>?_
 rw [if_pos hw]
 have hxr:=yU he hx
 generalize hxv:a.eval x=xv at hxr
 have hu:u=ρ i:=by
  have h9:ARel K w ρ H (.own i) u:=hf.heap.ok j _ hj
  generalize hru:ρ i=ri
  cases h9 with
  | own _ _=>exact hru
 subst hu
 obtain ⟨xs,hown,hs0,hcr,hnK⟩:=hf.heap.ok i _ hi
 have hzi:(zeroValue e).run P w=.ok zv w:=by
  have hz':=hz
  unfold Tab.zero at hz'
  split at hz'
  ·rename_i ti hti
   obtain ⟨tin,e1,_,_,e4,_⟩:=Zy htb hti
   simp [zeroValue,typeInfo,e1,e4,hz']
  ·cases hz'
 obtain ⟨hzr,hznt⟩:=zh3 (K:=K) (w:=w) hzz
 have hzcr:=Yq hzr
 have hzo:=cells_one hzr hznt
 have hzl:z.cells.length=sz:=by rw [←hzcr.1,←hzc];simp
 have hlen:(Builtin.zeroCells zv.cells (h - l)).toList.length=(h - l) * sz:=by simp [Builtin.zeroCells,hzc]
 have hget:∀ m,m < (h - l) * sz→(Builtin.zeroCells zv.cells (h - l)).toList[m]?=zv.cells[m % sz]?:=by
  intro m hm
  have hm2:m % sz < zv.cells.size:=by rw [hzc];exact Nat.mod_lt _ hs0
  simp only [Builtin.zeroCells,Array.toList_map,List.getElem?_map,hzc]
  rw [Array.toList_range,List.getElem?_range hm]
  simp [Array.getElem?_eq_getElem hm2,getElem!_pos zv.cells (m % sz) hm2]
 have hone:∀ v∈(Builtin.zeroCells zv.cells (h - l)).toList,v.oneCell'=true:=by
  intro v hv
  obtain ⟨m,hm⟩:=List.getElem?_of_mem hv
  have hlt:=(List.getElem?_eq_some_iff.1 hm).1
  rw [hlen] at hlt
  rw [hget m hlt] at hm
  exact hzo v (Array.mem_toList_iff.2 (Array.mem_of_getElem? hm))
 have hrep:CellsRel K w sz (List.replicate (h - l) z) (Builtin.zeroCells zv.cells (h - l)).toList:=by
  intro m p hm
  have hml:m < h - l:=by have:=(List.getElem?_eq_some_iff.1 hm).1;simpa using this
  have hpz:p=z:=by rw [List.getElem?_replicate,if_pos hml] at hm;simpa using hm.symm
  subst hpz
  refine ⟨hzl,fun q c hc=>?_⟩
  have hq:q < sz:=by have:=(List.getElem?_eq_some_iff.1 hc).1;omega
  have hlt:m * sz + q < (h - l) * sz:=by
   have:=Nat.mul_le_mul_right sz (show m + 1≤h - l by omega)
   rw [Nat.add_mul] at this;omega
  have hq2:q < zv.cells.size:=by omega
  refine ⟨zv.cells[q],?_,hzo _ (Array.mem_toList_iff.2 (Array.getElem_mem hq2)),hzcr.2 q c _ hc (by simp [hq2])⟩
  rw [hget _ hlt,Nat.add_comm,Nat.add_mul_mod_self_right,Nat.mod_eq_of_lt hq]
  simp [hq2]
 cases hxr with
 | pv _ _ hpr =>
  cases hpr
  rcases hown.2 with ⟨hr,hz0⟩|⟨b,cap,cur,hr,hB,hheap,hle,hcap,hsize,htake⟩
  ·omega
  ·obtain ⟨arr,harr⟩:∃ arr,arr=(cur.toList.take (l * sz)++(Builtin.zeroCells zv.cells (h - l)).toList++cur.toList.drop (l * sz + (Builtin.zeroCells zv.cells (h - l)).toList.length)).toArray:=⟨_,rfl⟩
   obtain ⟨hfs2,hlat⟩:=FS.spliceZ hf hi hr hheap hrep (by rw [hlen,List.length_replicate]) (by rw [List.length_replicate];omega) harr
   rw [List.length_replicate] at hfs2
   have hfit:l * sz + (Builtin.zeroCells zv.cells (h - l)).toList.length≤cur.size:=by
    rw [hlen,←Nat.add_mul,hsize];exact Nat.mul_le_mul_right sz (by omega)
   have hst:=run_storeCells_at P b (l * sz) e (Builtin.zeroCells zv.cells (h - l)).toList 0 cur w hheap (by omega) hone
   simp only [Nat.add_zero] at hst
   rw [←harr] at hst
   have hrun:(execOp a.eval o).run P w=.ok (.value (.tuple #[])) (w.setRow b arr):=by
    by_cases hz0:h - l=0
    ·have harr2:arr=cur:=by
      have:(Builtin.zeroCells zv.cells (h - l)).toList=[]:=List.eq_nil_of_length_eq_zero (by rw [hlen,hz0,Nat.zero_mul])
      rw [harr,this];simp
     have hset:w.setRow b cur=w:=setRow_self w b cur e (0,0) hheap
     rw [harr2,hset]
     simp [execOp,hop,hxv,hr,resolve,invoke,builtin,Builtin.clear_,run_underlying (qj htb hk),cut,hz0]
    ·obtain ⟨m,hm⟩:∃ m,h - l=m + 1:=⟨h - l - 1,by omega⟩
     rw [hm] at hst
     simp [execOp,hop,hxv,hr,resolve,invoke,builtin,Builtin.clear_,run_underlying (qj htb hk),cut,hm,hzi,hst]
   unfold Oper.wp
   rw [hrun]
   simp only [Oper.upon]
   have hd':a.put o.dst (.tuple #[])=a:=by rw [hd];rfl
   rw [hd']
   refine hKK _ _ (k.go _ _ ⟨g1,g2,K,ρ,hfs2,he.keeps hlat fun m hm=>⟨by rw [HEnv.get_cons];split <;> first|rfl|exact hm,rfl⟩⟩)
end
end Go.Cg
namespace Go.Cg
open Go.Proofs
set_option maxHeartbeats 20000000
section
variable {P:Program} {n:Nat} {g:Base} {H:HEnv} {env:Env} {QQ:QC}
theorem zmK (i:Nat) {a:Act} {w:World} (h:Inv n g env H a w):Inv n g env ((i,.dead)::H) a w:=by
 obtain ⟨g1,g2,K,ρ,hf,he⟩:=h
 exact ⟨g1,g2,K,ρ,hf.kill i,he.keeps (.refl K w) fun j hj=>⟨by rw [HEnv.get_cons];split <;> first|rfl|exact hj,rfl⟩⟩
theorem zqg {t i e sz:Nat} {es:List PV} {a:Act} {w:World} (ht:env.get t=some (.own i)) (hi:H.get i=some (.row e sz es)) (h:Inv n g env H a w):Inv n g ((t,.pv (.slc sz es false))::env) H a w:=by
 obtain ⟨g1,g2,K,ρ,hf,he⟩:=h
 refine ⟨g1,g2,K,ρ,hf,fun t' av hg=>?_⟩
 rw [Env.get_cons] at hg
 split at hg
 ·rename_i e1;subst e1
  simp only [Option.some.injEq] at hg;subst hg
  obtain ⟨v,h1,h2⟩:=he _ _ ht
  exact ⟨v,h1,.pv _ _ (ze7 hf hi h2)⟩
 ·exact he _ _ hg
theorem zdF {t i e sz:Nat} {es:List PV} (ht:env.get t=some (.own i)) (hi:H.get i=some (.mrow e sz es)) (k:QQ .ret ((t,.pv (.slc sz es false))::env) ((i,.dead)::(i,.row e sz es)::H)):AW P n g .ret env H QQ :=
 ⟨fun a w hinv=>(zim k).go a w (zmK i (zqg ht (by rw [HEnv.get_cons,if_pos rfl]) (zcM hi hinv)))⟩
theorem znj {t i j e sz h:Nat} {u:Value} {es:List PV} (ht:env.get t=some (.pv (.base (cut sz u 0 h)))) (hi:H.get i=some (.mrow e sz es)) (hj:H.get j=some (.pin (.own i) u)) (hij:(i==j)=false) (hh:h≤es.length) (h0:0 < es.length) (k:QQ .ret ((t,.pv (.slc sz (es.take h) false))::env) ((i,.dead)::(i,.row e sz es)::H)):AW P n g .ret env H QQ :=
 ⟨fun a w hinv=>(zim k).go a w (zmK i (zpF (i:=i) (j:=j) ht (by rw [HEnv.get_cons,if_pos rfl]) (by rw [HEnv.get_cons,if_neg (by simpa using hij)];exact hj) hh h0 (zcM hi hinv)))⟩
end
theorem zlO (p:Pt) (l:List Pt) (y:Pt):ZY p (l++[y])=ZY p l++(if zfL y (l.getLastD p) then [] else [y]):=by
 induction l generalizing p with
 | nil=>simp [ZY]
 | cons z l ih =>
  rw [List.cons_append,ZY,ZY,ih z]
  have:(z::l).getLastD p=l.getLastD z:=by cases l <;> rfl
  rw [this]
  split <;> simp
theorem zii {l:List Pt} {m:Nat} (h1:1≤m) (h:m < l.length):qH (l.take (m + 1))=qH (l.take m)++(if zfL l[m] (l[m - 1]'(by omega)) then [] else [l[m]]):=by
 rw [List.take_succ_eq_append_getElem h]
 cases l with
 | nil=>simp at h
 | cons x l =>
  obtain ⟨m,rfl⟩:∃ k,m=k + 1:=⟨m - 1,by omega⟩
  simp only [List.take_succ_cons,List.cons_append,qH,zlO,List.getElem_cons_succ,Nat.add_sub_cancel]
  have:(l.take m).getLastD x=(x::l)[m]:=by
   have hm:m≤l.length:=by simp at h;omega
   cases m with
   | zero=>simp
   | succ m=>simp [List.getLastD_eq_getLast?,List.getLast?_take,show m < l.length by omega]
  rw [this]
theorem zfT (a b:Pt):ACall Tryz.prog 144 [zZ a,zZ b] (pb (zfL a b)):=by
 refine zf zh Tryz.func144 rfl (by kernel_rfl) Tryz.ntmps144 (by simp) _ rfl (fun hw gB hgB=>?_)
 repeat' (first|refine sA ?_|refine sC (fun _=>?_) (fun _=>?_)|fail)
 all_goals exact retq rfl rfl
abbrev zPt:PV:=.agg [pi 0,pi 0,pi 0,pi 0]
theorem zkj (l:List Pt) (hl:l.length < 20) (us:Nat→Value) :
  ACallM Tryz.prog 143 [.own 0,.pv (.fn (.func 144) [] [])] (za9 us l) (.pv (pts (qH l))) ([(0,.dead)]++yP us [0]):=by
 refine qA zh Tryz.func143 rfl (by kernel_rfl) Tryz.ntmps143 (by simp) _ rfl (fun gB hw1=>?_)
 by_cases h2:l.length < 2
 ·have hd:decide ((((l.map zZ).length:Nat):Int) < 2)=true:=decide_eq_true (by simp;omega)
  have hcp:qH l=l:=by
   cases l with
   | nil=>rfl
   | cons x l=>cases l with
    | nil=>rfl
    | cons y l=>simp at h2;omega
  repeat' (first|refine zdF (t:=4) (i:=0) rfl rfl ?_|(refine zI ?_;first|refine zbJ zh rfl rfl rfl rfl rfl rfl rfl ?_)|refine sA ?_|refine sC (fun _=>?_) (fun _=>?_)|fail)
  exact ⟨.inr rfl,.inl ⟨_,rfl,by rw [hcp];rfl,tH⟩⟩
 ·have hd:decide ((((l.map zZ).length:Nat):Int) < 2)=false:=decide_eq_false (by simp;omega)
  repeat' (first|refine zdF (t:=4) (i:=0) rfl rfl ?_|(refine zI ?_;first|refine zbJ zh rfl rfl rfl rfl rfl rfl rfl ?_)|refine sA ?_|refine sC (fun _=>?_) (fun _=>?_)|fail)
  refine zo (fun i:Nat=>[(0,.own 0),(1,.pv (.fn (.func 144) [] [])),(5,.pv (pi i))]) (fun _=>za9 us l) (fun i=>1≤i∧i≤l.length∧qH (l.take i)=l.take i) (fun i=>l.length - i) 1 ⟨by omega,by omega,by cases l <;> rfl⟩ (tS) tH ?_
  rintro i ⟨hi1,hi2,hci⟩
  by_cases hlt:i < l.length
  ·have hd':decide (((i:Nat):Int) < (((l.map zZ).length:Nat):Int))=true:=decide_eq_true (by simp;omega)
   have hln:(l.map zZ).length=l.length:=by simp
   have g0:(l.map zZ)[i]?=some (zZ l[i]):=by simp [hlt]
   have g1:(l.map zZ)[i - 1]?=some (zZ (l[i - 1]'(by omega))):=by simp [show i - 1 < l.length by omega]
   have h0:i < (l.map zZ).length:=by simp [hlt]
   have h1:i - 1 < (l.map zZ).length:=by simp;omega
   have hix:IntKind.i64.wrap (((i:Nat):Int) - 1)=((i - 1:Nat):Int):=by rw [wrap_in (by omega) (by omega)];omega
   have hst:=zii hi1 hlt
   have cb:=zfT l[i] (l[i - 1]'(by omega))
   cases hsame:zfL l[i] (l[i - 1]'(by omega))
   ·rw [hsame] at cb hst
    repeat' (first|refine zu rfl (yj (k:=i) (j:=0) zh rfl rfl rfl rfl g0 rfl) rfl rfl ?_|refine AD.step _ _ _ _ _ rfl (yj (k:=i) (j:=0) zh rfl rfl rfl rfl g0 rfl) rfl rfl ?_|refine zu rfl (yj (k:=i - 1) (j:=0) zh rfl rfl rfl rfl g1 rfl) rfl rfl ?_|refine AD.step _ _ _ _ _ rfl (yj (k:=i - 1) (j:=0) zh rfl rfl rfl rfl g1 rfl) rfl rfl ?_|(refine shC ?_;first|refine qV (cb) ?_)|(refine shX ?_;first|refine zu rfl (zQ (k:=i - 1) zh rfl rfl rfl rfl rfl rfl rfl hix h1) rfl rfl ?_|refine AD.step _ _ _ _ _ rfl (zQ (k:=i - 1) zh rfl rfl rfl rfl rfl rfl rfl hix h1) rfl rfl ?_|refine zu rfl (zQ (k:=i) zh rfl rfl rfl rfl rfl rfl rfl rfl h0) rfl rfl ?_|refine AD.step _ _ _ _ _ rfl (zQ (k:=i) zh rfl rfl rfl rfl rfl rfl rfl rfl h0) rfl rfl ?_)|(refine zI ?_;first|refine zbJ zh rfl rfl rfl rfl rfl rfl rfl ?_)|refine sK ?_|refine sC (fun _=>?_) (fun _=>?_)|fail)
    exact ⟨i + 1,⟨by omega,by omega,by rw [hst,hci,List.take_succ_eq_append_getElem hlt];rfl⟩,tD,tS,tH⟩
   ·rw [hsame] at cb hst
    repeat' (first|refine zu rfl (yj (k:=i) (j:=0) zh rfl rfl rfl rfl g0 rfl) rfl rfl ?_|refine AD.step _ _ _ _ _ rfl (yj (k:=i) (j:=0) zh rfl rfl rfl rfl g0 rfl) rfl rfl ?_|refine zu rfl (yj (k:=i - 1) (j:=0) zh rfl rfl rfl rfl g1 rfl) rfl rfl ?_|refine AD.step _ _ _ _ _ rfl (yj (k:=i - 1) (j:=0) zh rfl rfl rfl rfl g1 rfl) rfl rfl ?_|refine zfl zh 0 20 rfl rfl rfl rfl rfl rfl rfl rfl rfl (by omega) (by simp only [List.length_map];omega) (by omega) (by simp only [List.length_map];omega) rfl rfl rfl (fun uu=>?_)|(refine shC ?_;first|refine qV (cb) ?_)|(refine shX ?_;first|refine zu rfl (zQ (k:=i - 1) zh rfl rfl rfl rfl rfl rfl rfl hix h1) rfl rfl ?_|refine AD.step _ _ _ _ _ rfl (zQ (k:=i - 1) zh rfl rfl rfl rfl rfl rfl rfl hix h1) rfl rfl ?_|refine zu rfl (zQ (k:=i) zh rfl rfl rfl rfl rfl rfl rfl rfl h0) rfl rfl ?_|refine AD.step _ _ _ _ _ rfl (zQ (k:=i) zh rfl rfl rfl rfl rfl rfl rfl rfl h0) rfl rfl ?_)|(refine zI ?_;first|refine zbJ zh rfl rfl rfl rfl rfl rfl rfl ?_)|refine sK ?_|refine sC (fun _=>?_) (fun _=>?_)|fail)
    refine zo (fun st:Nat × List Pt=>[(0,.own 0),(1,.pv (.fn (.func 144) [] [])),(5,.pv (pi (qH (l.take (i + st.1))).length)),(6,.pv (.base (cut 4 uu i (l.map zZ).length))),(7,.pv (pi st.1))])
     (fun st=>[(0,.mrow 139 4 ((qH (l.take (i + st.1))++(st.2++l.drop (i + st.1 - 1))).map zZ)),(20,.pin (.own 0) uu),(1000,.pin (.own 0) (us 0))])
     (fun st=>1≤st.1∧i + st.1≤l.length∧(qH (l.take (i + st.1))).length + st.2.length=i + st.1 - 1) (fun st=>l.length - st.1) (1,[])
     ⟨Nat.le_refl _,hlt,by show (qH (l.take (i + 1))).length + 0=i + 1 - 1;rw [hst,hci];simp;omega⟩
     (by repeat (first|exact zT|refine zM rfl ?_|(refine qg rfl ?_ ?_;· (show ((i:Nat):Int)=(((qH (l.take (i + 1))).length:Nat):Int);rw [hst,hci];simp;omega))))
     ⟨qO rfl (by show _=(qH (l.take (i + 1))++([]++l.drop (i + 1 - 1))).map zZ;rw [hst,hci];simp) (by repeat (first|exact zl|refine zn rfl ?_)),rfl⟩ ?_
    rintro ⟨k,mid⟩ ⟨hk0,hkn,hkl⟩
    change 1≤k at hk0
    change i + k≤l.length at hkn
    change (qH (l.take (i + k))).length + mid.length=i + k - 1 at hkl
    obtain ⟨c,hc⟩:∃ c,c=qH (l.take (i + k)):=⟨_,rfl⟩
    show AW _ _ _ _ [(0,.own 0),(1,.pv (.fn (.func 144) [] [])),(5,.pv (pi (qH (l.take (i + k))).length)),(6,.pv (.base (cut 4 uu i (l.map zZ).length))),(7,.pv (pi k))] [(0,.mrow 139 4 ((qH (l.take (i + k))++(mid++l.drop (i + k - 1))).map zZ)),(20,.pin (.own 0) uu),(1000,.pin (.own 0) (us 0))] _
    have hcs:=fun h=>zii (l:=l) (m:=i + k) (by omega) h
    rw [←hc] at hkl hcs ⊢
    obtain ⟨B,hB⟩:∃ B,B=(c++(mid++l.drop (i + k - 1))).map zZ:=⟨_,rfl⟩
    rw [←hB]
    have hBl:B.length=l.length:=by rw [hB];simp;omega
    have hB0:0 < B.length:=by omega
    have hh:(l.map zZ).length≤B.length:=by rw [hBl];simp
    by_cases hkt:i + k < l.length
    ·have hd2:decide (((k:Nat):Int) < (((l.map zZ).length - i:Nat):Int))=true:=decide_eq_true (by simp;omega)
     have hdr:l.drop (i + k - 1)=(l[i + k - 1]'(by omega))::l.drop (i + k):=by rw [List.drop_eq_getElem_cons (by omega)];congr 2;omega
     have hdr2:l.drop (i + k)=l[i + k]::l.drop (i + k + 1):=List.drop_eq_getElem_cons hkt
     have cb:=zfT l[i + k] (l[i + k - 1]'(by omega))
     obtain ⟨y,hy⟩:∃ y,y=l[i + k - 1]'(by omega):=⟨_,rfl⟩
     obtain ⟨x,hx⟩:∃ x,x=l[i + k]:=⟨_,rfl⟩
     have hcs':=hcs hkt
     rw [←hx,←hy] at cb hcs'
     rw [←hy] at hdr
     rw [←hx] at hdr2
     have hB':B=(c++mid).map zZ++zZ y::zZ x::(l.drop (i + k + 1)).map zZ:=by rw [hB,hdr,hdr2];simp
     have hcl:((c++mid).map zZ).length=i + (k - 1):=by simp;omega
     have gy:B[i + (k - 1)]?=some (zZ y):=by rw [hB',List.getElem?_append_right (by omega),hcl];simp
     have gx:B[i + k]?=some (zZ x):=by rw [hB',List.getElem?_append_right (by omega),hcl,show i + k - (i + (k - 1))=1 by omega];rfl
     have hk1:i + k < (l.map zZ).length:=by simp;omega
     have hk2:i + (k - 1) < (l.map zZ).length:=by simp;omega
     have hkx:IntKind.i64.wrap (((k:Nat):Int) - 1)=((k - 1:Nat):Int):=by rw [wrap_in (by omega) (by omega)];omega
     cases hs2:zfL x y
     ·rw [hs2] at cb hcs'
      obtain ⟨z,tl,hz⟩:∃ z tl,mid++[y]=z::tl:=by
       cases mid with
       | nil=>exact ⟨y,[],rfl⟩
       | cons z mid=>exact ⟨z,mid++[y],rfl⟩
      have hB2:B=c.map zZ++zZ z::(tl++l.drop (i + k)).map zZ:=by
       have:c++(mid++y::l.drop (i + k))=c++z::(tl++l.drop (i + k)):=by
        rw [show mid++y::l.drop (i + k)=(mid++[y])++l.drop (i + k) by simp,hz];simp
       rw [hB,hdr,this];simp
      have gz:B[c.length]?=some (zZ z):=by rw [hB2,List.getElem?_append_right (by simp)];simp
      have hcB:c.length < B.length:=by omega
      repeat' (first|refine zu rfl (zia (j:=20) zh rfl rfl rfl rfl rfl hB0) rfl rfl ?_|refine zu rfl (Qi (j:=20) zh (k) rfl rfl rfl rfl rfl rfl rfl rfl rfl hk1 hh) rfl rfl ?_|refine AD.step _ _ _ _ _ rfl (Qi (j:=20) zh (k) rfl rfl rfl rfl rfl rfl rfl rfl rfl hk1 hh) rfl rfl ?_|refine zu rfl (Qi (j:=20) zh (k - 1) rfl rfl rfl rfl rfl rfl rfl rfl hkx hk2 hh) rfl rfl ?_|refine AD.step _ _ _ _ _ rfl (Qi (j:=20) zh (k - 1) rfl rfl rfl rfl rfl rfl rfl rfl hkx hk2 hh) rfl rfl ?_|refine zu rfl (yj (k:=i + k) (j:=0) zh rfl rfl rfl rfl gx rfl) rfl rfl ?_|refine AD.step _ _ _ _ _ rfl (yj (k:=i + k) (j:=0) zh rfl rfl rfl rfl gx rfl) rfl rfl ?_|refine zu rfl (yj (k:=i + (k - 1)) (j:=0) zh rfl rfl rfl rfl gy rfl) rfl rfl ?_|refine AD.step _ _ _ _ _ rfl (yj (k:=i + (k - 1)) (j:=0) zh rfl rfl rfl rfl gy rfl) rfl rfl ?_|(refine shC ?_;first|refine qV (cb) ?_)|(refine shX ?_;first|refine zu rfl (zQ (k:=c.length) zh rfl rfl rfl rfl rfl rfl rfl rfl hcB) rfl rfl ?_|refine AD.step _ _ _ _ _ rfl (zQ (k:=c.length) zh rfl rfl rfl rfl rfl rfl rfl rfl hcB) rfl rfl ?_)|(refine Yw ?_;first|refine VB (k:=c.length) (j:=0) zh rfl rfl rfl rfl rfl gz rfl rfl rfl rfl rfl ?_)|refine sK ?_|refine sC (fun _=>?_) (fun _=>?_)|fail)
      have ht:tl.length=mid.length:=by have:=congrArg List.length hz;simp at this;omega
      have hcc:qH (l.take (i + (k + 1)))=c++[x]:=hcs'
      have hnew:B.set c.length (zZ x)=(qH (l.take (i + (k + 1)))++(tl++l.drop (i + (k + 1) - 1))).map zZ:=by
       rw [hcc,hB2,List.set_append_right _ _ (by simp)];simp
      have e5:IntKind.i64.wrap (((c.length:Nat):Int) + 1)=(((qH (l.take (i + (k + 1)))).length:Nat):Int):=by rw [wrap_in (by omega) (by omega),hcc];simp
      have e7:IntKind.i64.wrap (((k:Nat):Int) + 1)=((k + 1:Nat):Int):=by rw [wrap_in (by omega) (by omega)];omega
      exact ⟨(k + 1,tl),⟨by show 1≤k + 1;omega,by show i + (k + 1)≤l.length;omega,by show (qH (l.take (i + (k + 1)))).length + tl.length=i + (k + 1) - 1;rw [hcc,ht];simp;omega⟩,by show l.length - (k + 1) < l.length - k;omega,by repeat (first|exact zT|refine zM rfl ?_|(refine qg rfl ?_ ?_;· first|exact e5|exact e7)),⟨qO rfl hnew (by repeat (first|exact zl|refine zn rfl ?_)),rfl⟩⟩
     ·rw [hs2] at cb hcs'
      repeat' (first|refine zu rfl (zia (j:=20) zh rfl rfl rfl rfl rfl hB0) rfl rfl ?_|refine zu rfl (Qi (j:=20) zh (k) rfl rfl rfl rfl rfl rfl rfl rfl rfl hk1 hh) rfl rfl ?_|refine AD.step _ _ _ _ _ rfl (Qi (j:=20) zh (k) rfl rfl rfl rfl rfl rfl rfl rfl rfl hk1 hh) rfl rfl ?_|refine zu rfl (Qi (j:=20) zh (k - 1) rfl rfl rfl rfl rfl rfl rfl rfl hkx hk2 hh) rfl rfl ?_|refine AD.step _ _ _ _ _ rfl (Qi (j:=20) zh (k - 1) rfl rfl rfl rfl rfl rfl rfl rfl hkx hk2 hh) rfl rfl ?_|refine zu rfl (yj (k:=i + k) (j:=0) zh rfl rfl rfl rfl gx rfl) rfl rfl ?_|refine AD.step _ _ _ _ _ rfl (yj (k:=i + k) (j:=0) zh rfl rfl rfl rfl gx rfl) rfl rfl ?_|refine zu rfl (yj (k:=i + (k - 1)) (j:=0) zh rfl rfl rfl rfl gy rfl) rfl rfl ?_|refine AD.step _ _ _ _ _ rfl (yj (k:=i + (k - 1)) (j:=0) zh rfl rfl rfl rfl gy rfl) rfl rfl ?_|(refine shC ?_;first|refine qV (cb) ?_)|refine sK ?_|refine sC (fun _=>?_) (fun _=>?_)|fail)
      have hcc:qH (l.take (i + (k + 1)))=c:=by rw [show i + (k + 1)=i + k + 1 by omega,hcs'];simp
      have hnew:B=(qH (l.take (i + (k + 1)))++((mid++[y])++l.drop (i + (k + 1) - 1))).map zZ:=by
       rw [hcc,hB,hdr];simp
      have e5:((c.length:Nat):Int)=(((qH (l.take (i + (k + 1)))).length:Nat):Int):=by rw [hcc]
      have e7:IntKind.i64.wrap (((k:Nat):Int) + 1)=((k + 1:Nat):Int):=by rw [wrap_in (by omega) (by omega)];omega
      exact ⟨(k + 1,mid++[y]),⟨by show 1≤k + 1;omega,by show i + (k + 1)≤l.length;omega,by show (qH (l.take (i + (k + 1)))).length + (mid++[y]).length=i + (k + 1) - 1;rw [hcc];simp;omega⟩,by show l.length - (k + 1) < l.length - k;omega,by repeat (first|exact zT|refine zM rfl ?_|(refine qg rfl ?_ ?_;· first|exact e5|exact e7)),⟨qO rfl hnew (by repeat (first|exact zl|refine zn rfl ?_)),rfl⟩⟩
    ·have hd2:decide (((k:Nat):Int) < (((l.map zZ).length - i:Nat):Int))=false:=decide_eq_false (by simp;omega)
     have hcB:c.length < B.length:=by omega
     have hcl:c=qH l:=by rw [hc,List.take_of_length_le (by omega)]
     have hfin:(B.take c.length++List.replicate (B.length - c.length) zPt++B.drop (c.length + (B.length - c.length))).take c.length=(qH l).map zZ:=by
      rw [List.append_assoc,List.take_append_of_le_length (by simp;omega),List.take_take,Nat.min_self,hB,←hcl];simp
     repeat' (first|refine zu rfl (zia (j:=20) zh rfl rfl rfl rfl rfl hB0) rfl rfl ?_|refine zfl zh 0 21 rfl rfl rfl rfl rfl rfl rfl rfl rfl (by omega) (by omega) (by omega) (by omega) rfl rfl rfl (fun u2=>?_)|refine zfl zh 0 22 rfl rfl rfl rfl rfl rfl rfl rfl rfl (by omega) (by omega) (by simp only [List.length_append,List.length_take,List.length_replicate,List.length_drop,Int.toNat_natCast];omega) (by simp only [List.length_append,List.length_take,List.length_replicate,List.length_drop,Int.toNat_natCast];omega) rfl rfl rfl (fun u3=>?_)|refine znj (t:=4) (i:=0) (j:=22) rfl rfl rfl rfl (by simp only [List.length_append,List.length_take,List.length_replicate,List.length_drop,Int.toNat_natCast];omega) (by simp only [List.length_append,List.length_take,List.length_replicate,List.length_drop,Int.toNat_natCast];omega) ?_|(refine zI ?_;first|refine zom (j:=21) zh rfl rfl rfl rfl rfl rfl (Nat.le_of_lt hcB) (Nat.le_refl _) hB0 rfl rfl rfl rfl ?_)|refine sK ?_|refine sC (fun _=>?_) (fun _=>?_)|fail)
     exact ⟨.inr rfl,.inl ⟨_,rfl,by rw [pts,←hfin];rfl,tH⟩⟩
  ·have hd':decide (((i:Nat):Int) < (((l.map zZ).length:Nat):Int))=false:=decide_eq_false (by simp;omega)
   have hcp:qH l=l:=by rw [List.take_of_length_le (by omega)] at hci;exact hci
   repeat' (first|refine zdF (t:=4) (i:=0) rfl rfl ?_|(refine zI ?_;first|refine zbJ zh rfl rfl rfl rfl rfl rfl rfl ?_)|refine sA ?_|refine sC (fun _=>?_) (fun _=>?_)|fail)
   exact ⟨.inr rfl,.inl ⟨_,rfl,by rw [hcp];rfl,tH⟩⟩
set_option maxHeartbeats 20000000
theorem zkb (x:Pt) (at_:Int):ACall Tryz.prog 140 [.agg [pi x.f,pi x.t],pi at_] (pb (YZ at_ x)):=by
 refine zf zh Tryz.func140 rfl (by kernel_rfl) Tryz.ntmps140 (by simp) _ rfl (fun hw gB hgB=>?_)
 repeat' (first|refine sA ?_|refine sC (fun _=>?_) (fun _=>?_)|fail)
 all_goals (refine retq rfl ?_;simp_all [zi,YZ];try omega)
theorem zac (l:List Cl) (at_:Int) (hl:l.length≤6) (hs:∀ x∈Qo at_ l,SmP x):ACall Tryz.prog 102 [cls l,pi at_] (pts (yh l at_)):=by
 have hlen:(Qo at_ l).length < 20:=by have:=Vt at_ l l.length;rw [Qo];omega
 have hso:∀ us,ACallM _ _ _ _ _ _ _:=fun us=>zon (Qo at_ l) hlen hs us
 have hco:∀ us,ACallM _ _ _ _ _ _ _:=fun us=>zkj (Xa (Qo at_ l)) (by rw [zfx];exact hlen) us
 refine zf zh Tryz.func102 rfl (by kernel_rfl) Tryz.ntmps102 (by simp) _ rfl (fun hw gB hgB=>?_)
 repeat' (first|refine zcG (t:=5) 0 139 4 (by decide) rfl rfl ?_|refine sA ?_|refine sC (fun _=>?_) (fun _=>?_)|fail)
 refine zo (fun k:Nat=>[(1,.pv (pi at_)),(5,.own 0),(10,.pv (cls l)),(11,.pv (pi l.length)),(12,.pv (pi k))]) (fun k=>mrP (Xy at_ l k)) (fun k=>k≤l.length) (fun k=>l.length - k) 0 (by omega) (tS) ⟨qO rfl rfl zl,rfl⟩ ?_
 rintro k hk
 by_cases hlt:k < l.length
 ·have he:(l.map yI)[k]?=some (yI (l.getD k default)):=zaq hlt
  have cp:=zan k (l.getD k default)
  have hal:=Vt at_ l k
  have hpl:=zh4 k (l.getD k default)
  have hnext:Xy at_ l (k + 1)=Xy at_ l k++(zK k (l.getD k default)).filter (YZ at_):=rfl
  obtain ⟨p,hp⟩:∃ p,p=zK k (l.getD k default):=⟨_,rfl⟩
  rw [←hp] at cp hpl hnext
  repeat' (first|(refine shC ?_;first|refine qC cp ?_)|(refine shX ?_;first|refine qX he ?_)|refine sK ?_|refine sC (fun _=>?_) (fun _=>?_)|fail)
  refine zo (fun j:Nat=>[(1,.pv (pi at_)),(5,.own 0),(10,.pv (cls l)),(11,.pv (pi l.length)),(12,.pv (pi k)),(19,.pv (pts p)),(20,.pv (pi p.length)),(21,.pv (pi j))]) (fun j=>mrP (Xy at_ l k++(p.take j).filter (YZ at_))) (fun j=>j≤p.length) (fun j=>p.length - j) 0 (by omega) (tS) ⟨qO rfl (by simp) zl,rfl⟩ ?_
  rintro j hj
  by_cases hlj:j < p.length
  ·have hej:=zA (f:=zZ) hlj
   obtain ⟨x,hx⟩:∃ x,x=p[j]:=⟨_,rfl⟩
   have hst:(p.take (j + 1)).filter (YZ at_)=(p.take j).filter (YZ at_)++if YZ at_ x then [x] else []:=by
    rw [List.take_succ_eq_append_getElem hlj,List.filter_append,←hx]
    cases h:YZ at_ x <;> simp [List.filter,h]
   rw [←hx] at hej
   have ch:=zkb x at_
   have hfl:=List.length_filter_le (YZ at_) (p.take j)
   have htl:(p.take j).length≤3:=by simp;omega
   cases hh:YZ at_ x
   ·rw [hh] at ch hst
    repeat' (first|(refine shC ?_;first|refine qC ch ?_)|(refine shX ?_;first|refine qX hej ?_)|(refine zI ?_;first|refine Qj zh rfl rfl rfl rfl rfl rfl rfl (by show _ * 32≤_;simp;omega) (by simp;omega) rfl rfl ?_)|refine sK ?_|refine sC (fun _=>?_) (fun _=>?_)|fail)
    exact ⟨j + 1,hlj,tD,tS,⟨qO rfl (by rw [hst];simp) zl,rfl⟩⟩
   ·rw [hh] at ch hst
    repeat' (first|(refine shC ?_;first|refine qC ch ?_)|(refine shX ?_;first|refine qX hej ?_)|(refine zI ?_;first|refine Qj zh rfl rfl rfl rfl rfl rfl rfl (by show _ * 32≤_;simp;omega) (by simp;omega) rfl rfl ?_)|refine sK ?_|refine sC (fun _=>?_) (fun _=>?_)|fail)
    exact ⟨j + 1,hlj,tD,tS,⟨qO rfl (by rw [hst];simp) zl,rfl⟩⟩
  ·repeat' (first|refine sK ?_|refine sC (fun _=>?_) (fun _=>?_)|fail)
   exact ⟨k + 1,hlt,tD,tS,⟨qO rfl (by rw [hnext,List.take_of_length_le (by omega)]) zl,rfl⟩⟩
 ·have hk2:k=l.length:=by omega
  subst hk2
  repeat' (first|(refine zL ?_;first|(refine yA (mrP (Qo at_ l)) (mrP (Xa (Qo at_ l))) [] [(5,.own 0)] [0] zy rfl rfl rfl ?_ tS rfl rfl rfl hso ?_;· (repeat (first|exact zl|refine zn rfl ?_)))|(refine yA (mrP (Xa (Qo at_ l))) ([(0,.dead)]) [] [] [0] zy rfl rfl rfl ?_ tS rfl rfl rfl hco ?_;· (repeat (first|exact zl|refine zn rfl ?_))))|refine sK ?_|refine sC (fun _=>?_) (fun _=>?_)|fail)
  exact retq rfl rfl
end Go.Cg
