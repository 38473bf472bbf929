/- A part of the walks by abstract values: no statement of its own. -/
import Derived.Test.YtemhfmmhkimhmaaGreatV15
import Derived.Test.YtemhfmmhkimhmaaGreatV9
import Derived.Test.YtemhfmmhkimhmaaGreatV17
import Derived.Test.YtemhfmmhkimhmaaGreatV23
import Derived.Test.YtemhfmmhkimhmaaGreatV27
set_option linter.unusedVariables false
set_option linter.unusedSimpArgs false
namespace Go.Cg
section
variable {P:Program} {n:Nat} {g:Base} {H:HEnv} {env:Env} {QQ:QC} {c:Code} {Q:Env->HEnv->Prop} {ops:List Oper}
end
end Go.Cg
namespace Go.Cg
open Go.RowKit
section
variable {P:Program} {tb:Tab} {n:Nat} {g:Base} {K:KK} {w:World} {ρ:Nat->Value} {H:HEnv} {env:Env} {a:Act} {ops:List Oper} {o:Oper} {rest:List Oper} {Q:Env->HEnv->Prop} {QQ:QC} {c:Code}
theorem zjJ {sz:Nat} (hz:0 < sz) {es ps:List PV} {xs vs:List Value} {off:Nat} (h:CellsRel K w sz es xs) (hp:CellsRel K w sz ps vs) (hx:xs.length=es.length * sz) (hv:vs.length=ps.length * sz) (ho:off + ps.length<=es.length) :
  CellsRel K w sz (es.take off++ps++es.drop (off + ps.length)) (xs.take (off * sz)++vs++xs.drop (off * sz + vs.length)):=by
 have hmul:off * sz + vs.length=(off + ps.length) * sz:=by rw [hv,Nat.add_mul]
 have hle:(off + ps.length) * sz<=xs.length:=by rw [hx];exact Nat.mul_le_mul_right sz ho
 intro i e he;rw [QA ho] at he;split at he
 ·rename_i h1;obtain ⟨c1,c2⟩:=h i e he;refine ⟨c1,fun k c hc=>?_⟩;have hk:k < sz:=by have:=(List.getElem?_eq_some_iff.1 hc).1;omega
  obtain ⟨v,v1,v2,v3⟩:=c2 k c hc;have hlt:i * sz + k < off * sz:=by
   have:=Nat.mul_le_mul_right sz (show i + 1<=off by omega);rw [Nat.add_mul] at this;omega
  exact ⟨v,by rw [QA zwy62,if_pos hlt];exact v1,v2,v3⟩
 ·split at he
  ·rename_i h1 h2;obtain ⟨c1,c2⟩:=hp (i - off) e he;refine ⟨c1,fun k c hc=>?_⟩;have hk:k < sz:=by have:=(List.getElem?_eq_some_iff.1 hc).1;omega
   obtain ⟨v,v1,v2,v3⟩:=c2 k c hc;have e1:(i - off) * sz + off * sz=i * sz:=by rw [<-Nat.add_mul];congr 1;omega
   have hlt:i * sz + k < off * sz + vs.length:=by
    have:=Nat.mul_le_mul_right sz (show i + 1<=off + ps.length by omega);rw [Nat.add_mul] at this;omega
   exact ⟨v,by rw [QA zwy62,if_neg zwy62,if_pos hlt,show i * sz + k - off * sz=(i - off) * sz + k by omega];exact v1,v2,v3⟩
  ·rename_i h1 h2;obtain ⟨c1,c2⟩:=h i e he;refine ⟨c1,fun k c hc=>?_⟩;obtain ⟨v,v1,v2,v3⟩:=c2 k c hc;have hge:off * sz + vs.length<=i * sz:=by rw [hmul];exact Nat.mul_le_mul_right sz zwy62
   exact ⟨v,by rw [QA zwy62,if_neg zwy62,if_neg zwy62];exact v1,v2,v3⟩
theorem FS.spliceZ (hf:FS g K ρ H w) {i e b cap off sz:Nat} {es ps:List PV} {cur:Array Value} {vs:List Value} (hi:H.get i=some (.mrow e sz es)) (hρ:ρ i=.slice (some ⟨b,0,none⟩) es.length cap) (hheap:w.heap[b]?=some (.cells cur e (0,0)))
  (hp:CellsRel K w sz ps vs) (hv:vs.length=ps.length * sz) (ho:off + ps.length<=es.length) {arr:Array Value} (harr:arr=(cur.toList.take (off * sz)++vs++cur.toList.drop (off * sz + vs.length)).toArray) :
  FS g K ρ ((i,.mrow e sz (es.take off++ps++es.drop (off + ps.length)))::H) (w.setRow b arr)/\Later K K w (w.setRow b arr):=by
 obtain ⟨xs,hown,h0,hcr,hnK⟩:=hf.heap.ok i _ hi;rcases hown.2 with ⟨hr,_⟩|⟨b',cap',cur',hr,hB,hheap',hec,hcap,hsize,htake⟩
 ·rw [hρ] at hr;simp at hr
 ·rw [hρ] at hr;simp only [Value.slice.injEq,Option.some.injEq,Addr.mk.injEq,and_true,true_and] at hr;obtain ⟨rfl,rfl⟩:=hr;rw [hheap] at hheap';simp only [Option.some.injEq,Obj.cells.injEq,and_true] at hheap';subst hheap';have hlen:(es.take off++ps++es.drop (off + ps.length)).length=es.length:=by rw [List.length_append,List.length_append,List.length_take,List.length_drop];omega
  have hgrow:w.grownBy (w.setRow b arr) (some b):=⟨rfl,rfl,rfl,by simp,fun k _ hk=>setRow_other w b k _ (fun e=>hk (by simp [e]))⟩
  have hnKb:∀ o,¬ K b o:=hnK b zwy115;have hlat:Later K K w (w.setRow b arr):=⟨fun _ _ h=>h,fun b' o hk=>by
   have:b'≠b:=by rintro rfl;exact hnKb o hk
   exact cell_setRow_other w b _ ⟨b',o,none⟩ this⟩
  have hxl:xs.length=es.length * sz:=hown.1;have hmul:off * sz + vs.length=(off + ps.length) * sz:=by rw [hv,Nat.add_mul]
  have hle:off * sz + vs.length<=es.length * sz:=by rw [hmul];exact Nat.mul_le_mul_right sz ho
  have hec':es.length * sz<=cur.size:=by rw [hsize];exact Nat.mul_le_mul_right sz hec
  have hkeep:∀ j,(H.get j).isSome=true->(HEnv.get ((i,.mrow e sz (es.take off++ps++es.drop (off + ps.length)))::H) j).isSome=true/\ρ j=ρ j:=by
   intro j hj;refine ⟨?_,rfl⟩;rw [HEnv.get_cons];split
   ·rfl
   ·exact hj
  refine ⟨⟨hf.below.grown hgrow hf.below.size (fun k hk=>by simp at hk;omega),hf.old,hf.new,fun b o hk=>by have:=hf.lt b o hk;simpa using this,hf.others.trans (zeB hheap hgrow),hf.pt.grown hf.old hgrow hlat (fun b2 hb2=>by cases hb2;exact hf.away i _ b hi rfl zwy115) (fun _ _ h=>.inl h),hf.away.set hi rfl,?_,?_⟩,hlat⟩
  ·intro j' e' hj;rw [HEnv.get_cons] at hj;split at hj
   ·rename_i e1;subst e1;simp only [Option.some.injEq] at hj;subst hj;refine ⟨xs.take (off * sz)++vs++xs.drop (off * sz + vs.length),⟨?_,.inr ⟨b,cap,arr,by rw [hρ,hlen],hB,setRow_heap w b cur _ e _ hheap,by rw [hlen];exact hec,hcap,?_,?_⟩⟩,h0,?_,fun b' hb'=>hnK b' hb'⟩
    ·rw [hlen,List.length_append,List.length_append,List.length_take,List.length_drop];omega
    ·rw [<-hsize,harr,List.size_toArray,List.length_append,List.length_append,List.length_take,List.length_drop,Array.length_toList];omega
    ·rw [hlen,harr,<-htake];have h9:cur.toList.length=cur.size:=by simp
     exact zg9 zwy62 zwy62
    ·have:=zjJ (off:=off) h0 hcr hp hxl hv ho;intro i1 e1 he1;obtain ⟨c1,c2⟩:=this i1 e1 he1;exact ⟨c1,fun k c hc=>let ⟨v,v1,v2,v3⟩:=c2 k c hc;⟨v,v1,v2,v3.later hlat⟩⟩
   ·rename_i hne;by_cases hlive:e'.live=true
    ·have:=(hf.heap.ok j' e' hj).grown (f:=id) hgrow hlat (fun b o h=>.inl h) (fun av v h=>h.keeps hlat hkeep) hlive (fun b' hb' e'=>by
      simp at e';subst e';exact hf.heap.apart i j' _ _ b hne hi hj rfl hlive zwy115 hb')
     cases e' <;> exact this
    ·cases e' <;> simp [HE.live] at hlive
     ·trivial
     ·exact ARel.keeps hlat hkeep (hf.heap.ok j' _ hj)
  ·intro j' k' e1 e2 bb hjk hj hk' hlj hlk hbj hbk;have f1:∀ (j:Nat) (hh:HE),HEnv.get ((i,.mrow e sz (es.take off++ps++es.drop (off + ps.length)))::H) j=some hh->hh.live=true->∃ h0,H.get j=some h0/\h0.live=true:=by
    intro j hh hj hl;rw [HEnv.get_cons] at hj;split at hj
    ·rename_i e';subst e';exact ⟨_,hi,rfl⟩
    ·exact ⟨hh,hj,hl⟩
   obtain ⟨a1,a2,a3⟩:=f1 j' e1 hj hlj;obtain ⟨b1,b2,b3⟩:=f1 k' e2 hk' hlk;exact hf.heap.apart j' k' a1 b1 bb hjk a2 b2 a3 b3 hbj hbk
theorem zti (sz:Nat) {b n c l h:Nat}:cut sz (.slice (some ⟨b,0,none⟩) n c) l h=.slice (some ⟨b,l * sz,none⟩) (h - l) (c - l):=rfl
theorem zhU (hf:FS g K ρ H w) {i j e sz:Nat} {u:Value} {es:List PV} (hi:H.get i=some (.mrow e sz es)) (hj:H.get j=some (.pin (.own i) u)) (h0:0 < es.length):u=ρ i/\∃ b cap,ρ i=.slice (some ⟨b,0,none⟩) es.length cap/\es.length<=cap:=by
 have hu:u=ρ i:=by
  have h9:ARel K w ρ H (.own i) u:=hf.heap.ok j _ hj;cases h9;rfl
 refine ⟨hu,?_⟩;obtain ⟨xs,hown,_,_,_⟩:=hf.heap.ok i _ hi;rcases hown.2 with ⟨_,hz⟩|⟨b,cap,cur,hr,_,_,hle,_,_,_⟩
 ·omega
 ·exact ⟨b,cap,hr,hle⟩
theorem Xj (htb:qm P tb) {t e:Nat} {x y:Operand} {i j l h sz:Nat} {u:Value} {es:List PV} {kk:IntKind} {m:Int} (k:Nat) (hop:o.op=.indexAddr t x y) (hx:env.val x=some (.pv (.base (cut sz u l h)))) (hj:H.get j=some (.pin (.own i) u)) (hi:H.get i=some (.mrow e sz es))
  (hk:tb.k t=.sl e) (hke:tb.known e=true) (hsz:tb.size e=sz) (hy:env.pv H y=some (.base (.int kk m))) (hm:m=(k:Nat)) (hlt:l + k < h) (hh:h<=es.length):QStep P g H o env (.ad i ((l + k) * sz)):=by
 refine ⟨fun K ρ a w hf hv=>?_⟩;have hxr:=hv x zwy68 _ hx;have hyr:=qA (a:=a) hf (x:=y) (hv y zwy68) hy;generalize hxv:a.eval x=xv at hxr;generalize hyv:a.eval y=yv at hyr;obtain ⟨rfl,b,cap,hr,hcap⟩:=zhU hf hi hj zwy62;subst hm;cases hyr;cases hxr with
 | pv _ _ hpr =>
  rw [hr,zti] at hpr;cases hpr;have hko:tb.k e≠.oth:=by intro h;simp [Tab.known,h] at hke
  have hs:=run_sizeOf htb hko w;have hrun:(execOp a.eval o).run P w=.ok (.value (.pointer (some ⟨b,(l + k) * sz,none⟩))) w:=by
   have e1:l * sz + k * sz=(l + k) * sz:=by rw [Nat.add_mul]
   have hk2:k < h - l:=by omega
   simp [execOp,hop,hxv,hyv,Instr.indexAt,asIntOf,run_underlying (Zd htb hk),hs,hsz,Addr.add_lit,e1,hk2]
  rw [hrun];exact Yq hf (.ad i ((l + k) * sz) b es.length cap (by rw [hi];rfl) hr)
theorem zie (htb:qm P tb) {ty e:Nat} {x:Operand} {i j l h sz:Nat} {u:Value} {es:List PV} (hop:o.op=.call { callee:=.builtin .len,args:=#[x],argTypes:=#[ty] }) (hx:env.val x=some (.pv (.base (cut sz u l h)))) (hj:H.get j=some (.pin (.own i) u)) (hi:H.get i=some (.mrow e sz es)) (hk:tb.k ty=.sl e) (h0:0 < es.length):QStep P g H o env (.pv (.base (.int .i64 ((h - l:Nat):Int)))):=by
 refine ⟨fun K ρ a w hf hv=>?_⟩;have hxr:=hv x zwy72 _ hx;generalize hxv:a.eval x=xv at hxr;obtain ⟨rfl,b,cap,hr,hcap⟩:=zhU hf hi hj h0;cases hxr with
 | pv _ _ hpr =>
  rw [hr,zti] at hpr;cases hpr;have hrun:(execOp a.eval o).run P w=.ok (.value (.int .i64 ((h - l:Nat):Int))) w:=by
   simp [execOp,hop,hxv,resolve,invoke,builtin,Builtin.len_,run_underlying (Zd htb hk),goInt]
  rw [hrun];exact Yq hf (.pv _ _ (.base _ rfl))
theorem zsV {sz:Nat} {es:List PV} {full:Bool} {b o cap h:Nat} (hh:h<=es.length) (hp:PRel K w (.slc sz es full) (.slice (some ⟨b,o,none⟩) es.length cap)):PRel K w (.slc sz (es.take h) false) (.slice (some ⟨b,o,none⟩) h cap):=by
 have hl:(es.take h).length=h:=by rw [List.length_take];omega
 generalize hes:es=es' at hp;generalize hn:es'.length=m at hp;have sub:∀ {i:Nat} {e:PV},(es.take h)[i]?=some e->es[i]?=some e:=fun {i e} hi=>by
  rw [List.getElem?_take] at hi;split at hi
  ·exact hi
  ·cases hi
 cases hp with
 | emp =>
  have:es=[]:=hes;subst this;simp at hl;subst hl;exact .emp sz false _
 | slc _ _ _ _ _ _ vss h0 h1 h2 h3 h4 h5 h6 =>
  subst hes;have:=PRel.slc (K:=K) (w:=w) sz (es.take h) false b o cap vss h0 zwy62 zwy63 zwy62 h4 (fun i e hi=>h5 i e (sub hi)) (fun i e k c v hi=>h6 i e k c v (sub hi))
  rwa [hl] at this
theorem zq2 {t i j e sz h:Nat} {u:Value} {es:List PV} {a:Act} {w:World} (ht:env.get t=some (.pv (.base (cut sz u 0 h)))) (hi:H.get i=some (.row e sz es)) (hj:H.get j=some (.pin (.own i) u)) (hh:h<=es.length) (h0:0 < es.length) (hinv:Inv n g env H a w):Inv n g ((t,.pv (.slc sz (es.take h) false))::env) H a w:=by
 obtain ⟨g1,g2,K,ρ,hf,he⟩:=hinv;refine ⟨g1,g2,K,ρ,hf,fun t' av hg=>?_⟩;rw [Env.get_cons] at hg;split at hg
 ·rename_i e1;subst e1;simp only [Option.some.injEq] at hg;subst hg;obtain ⟨v,h1,h2⟩:=he _ _ ht;refine ⟨v,h1,.pv _ _ ?_⟩;have hu:u=ρ i:=by
   have h9:ARel K w ρ H (.own i) u:=hf.heap.ok j _ hj;cases h9;rfl
  have hrow:=zgm hf hi (.own i (by rw [hi];rfl));obtain ⟨xs,hown,_,_,_⟩:=hf.heap.ok i _ hi;cases h2 with
  | pv _ _ hp =>
   rcases hown.2 with ⟨_,hz⟩|⟨b,cap,cur,hr,_,_,hle,_,_,_⟩
   ·omega
   ·rw [hu,hr] at hp;rw [hr] at hrow;cases hp;have:=zsV hh hrow;simpa [cut] using this
 ·exact he t' av hg
theorem zpo (htb:qm P tb) {t e sz:Nat} {x:Operand} {i j l h:Nat} {u:Value} {es:List PV} {z:PV} {zv:Value} (hg:guardE ops env o=some true) (hop:o.op=.call { callee:=.builtin .clear,args:=#[x],argTypes:=#[t] }) (hk:tb.k t=.sl e)
  (hx:env.val x=some (.pv (.base (cut sz u l h)))) (hj:H.get j=some (.pin (.own i) u)) (hi:H.get i=some (.mrow e sz es)) (hlh:l<=h) (hh:h<=es.length) (h0:0 < es.length)
  (hz:tb.zero e=some zv) (hzz:zfP zv=some z) (hzc:zv.cells.size=sz) (hd:o.dst=none)
  (k:AO P n g ops.toArray rest env ((i,.mrow e sz (es.take l++List.replicate (h - l) z++es.drop (l + (h - l))))::H) Q):AO P n g ops.toArray (o::rest) env H Q:=by
 refine ⟨fun a w hinv=>?_⟩;have hw:=qw hinv hg;obtain ⟨g1,g2,K,ρ,hf,he⟩:=hinv;refine wpList_step fun KK hKK=>?_
 rw [if_pos hw];have hxr:=qI he hx;generalize hxv:a.eval x=xv at hxr;have hu:u=ρ i:=by
  have h9:ARel K w ρ H (.own i) u:=hf.heap.ok j _ hj;generalize hru:ρ i=ri;cases h9 with
  | own _ _=>exact hru
 subst hu;obtain ⟨xs,hown,hs0,hcr,hnK⟩:=hf.heap.ok i _ hi;have hzi:(zeroValue e).run P w=.ok zv w:=by
  have hz':=hz;unfold Tab.zero at hz';split at hz'
  ·rename_i ti hti;obtain ⟨tin,e1,_,_,e4,_⟩:=Yi htb hti;simp [zeroValue,typeInfo,e1,e4,hz']
  ·cases hz'
 obtain ⟨hzr,hznt⟩:=zil (K:=K) (w:=w) hzz;have hzcr:=Qn hzr;have hzo:=cells_one hzr hznt;have hzl:z.cells.length=sz:=by rw [<-hzcr.1,<-hzc];simp
 have hlen:(Builtin.zeroCells zv.cells (h - l)).toList.length=(h - l) * sz:=by simp [Builtin.zeroCells,hzc]
 have hget:∀ m,m < (h - l) * sz->(Builtin.zeroCells zv.cells (h - l)).toList[m]?=zv.cells[m % sz]?:=by
  intro m hm;have hm2:m % sz < zv.cells.size:=by rw [hzc];exact Nat.mod_lt _ hs0
  simp only [Builtin.zeroCells,Array.toList_map,List.getElem?_map,hzc];rw [Array.toList_range,List.getElem?_range hm];simp [Array.getElem?_eq_getElem hm2,getElem!_pos zv.cells (m % sz) hm2]
 have hone:∀ v∈(Builtin.zeroCells zv.cells (h - l)).toList,v.oneCell'=true:=by
  intro v hv;obtain ⟨m,hm⟩:=List.getElem?_of_mem hv;have hlt:=(List.getElem?_eq_some_iff.1 hm).1;rw [hlen] at hlt;rw [hget m hlt] at hm;exact hzo v (Array.mem_toList_iff.2 (Array.mem_of_getElem? hm))
 have hrep:CellsRel K w sz (List.replicate (h - l) z) (Builtin.zeroCells zv.cells (h - l)).toList:=by
  intro m p hm;have hml:m < h - l:=by have:=(List.getElem?_eq_some_iff.1 hm).1;simpa using this
  have hpz:p=z:=by rw [List.getElem?_replicate,if_pos hml] at hm;simpa using hm.symm
  subst hpz;refine ⟨hzl,fun q c hc=>?_⟩;have hq:q < sz:=by have:=(List.getElem?_eq_some_iff.1 hc).1;omega
  have hlt:m * sz + q < (h - l) * sz:=by
   have:=Nat.mul_le_mul_right sz (show m + 1<=h - l by omega);rw [Nat.add_mul] at this;omega
  have hq2:q < zv.cells.size:=by omega
  refine ⟨zv.cells[q],?_,hzo _ (Array.mem_toList_iff.2 (Array.getElem_mem hq2)),hzcr.2 q c _ hc (by simp [hq2])⟩;rw [hget _ hlt,Nat.add_comm,Nat.add_mul_mod_self_right,Nat.mod_eq_of_lt hq];simp [hq2]
 cases hxr with
 | pv _ _ hpr =>
  cases hpr;rcases hown.2 with ⟨hr,hz0⟩|⟨b,cap,cur,hr,hB,hheap,hle,hcap,hsize,htake⟩
  ·omega
  ·obtain ⟨arr,harr⟩:∃ arr,arr=(cur.toList.take (l * sz)++(Builtin.zeroCells zv.cells (h - l)).toList++cur.toList.drop (l * sz + (Builtin.zeroCells zv.cells (h - l)).toList.length)).toArray:=⟨_,rfl⟩
   obtain ⟨hfs2,hlat⟩:=FS.spliceZ hf hi hr hheap hrep (by rw [hlen,List.length_replicate]) (by rw [List.length_replicate];omega) harr;rw [List.length_replicate] at hfs2;have hfit:l * sz + (Builtin.zeroCells zv.cells (h - l)).toList.length<=cur.size:=by
    rw [hlen,<-Nat.add_mul,hsize];exact Nat.mul_le_mul_right sz zwy62
   have hst:=run_storeCells_at P b (l * sz) e (Builtin.zeroCells zv.cells (h - l)).toList 0 cur w hheap zwy62 hone;simp only [Nat.add_zero] at hst;rw [<-harr] at hst;have hrun:(execOp a.eval o).run P w=.ok (.value (.tuple #[])) (w.setRow b arr):=by
    by_cases hz0:h - l=0
    ·have harr2:arr=cur:=by
      have:(Builtin.zeroCells zv.cells (h - l)).toList=[]:=List.eq_nil_of_length_eq_zero (by rw [hlen,hz0,Nat.zero_mul]);rw [harr,this];simp
     have hset:w.setRow b cur=w:=setRow_self w b cur e (0,0) hheap;rw [harr2,hset];simp [execOp,hop,hxv,hr,resolve,invoke,builtin,Builtin.clear_,run_underlying (Zd htb hk),cut,hz0]
    ·obtain ⟨m,hm⟩:∃ m,h - l=m + 1:=⟨h - l - 1,by omega⟩
     rw [hm] at hst;simp [execOp,hop,hxv,hr,resolve,invoke,builtin,Builtin.clear_,run_underlying (Zd htb hk),cut,hm,hzi,hst]
   unfold Oper.wp;rw [hrun];simp only [Oper.upon];have hd':a.put o.dst (.tuple #[])=a:=by rw [hd];rfl
   rw [hd'];refine hKK _ _ (k.go _ _ ⟨g1,g2,K,ρ,hfs2,he.keeps hlat fun m hm=>⟨by rw [HEnv.get_cons];split <;> first|rfl|exact hm,rfl⟩⟩)
end
end Go.Cg
namespace Go.Cg
open Go.Proofs
set_option maxHeartbeats 20000000
section
variable {P:Program} {n:Nat} {g:Base} {H:HEnv} {env:Env} {QQ:QC}
theorem znP (i:Nat) {a:Act} {w:World} (h:Inv n g env H a w):Inv n g env ((i,.dead)::H) a w:=by
 obtain ⟨g1,g2,K,ρ,hf,he⟩:=h;exact ⟨g1,g2,K,ρ,hf.kill i,he.keeps (.refl K w) fun j hj=>⟨by rw [HEnv.get_cons];split <;> first|rfl|exact hj,rfl⟩⟩
theorem zr4 {t i e sz:Nat} {es:List PV} {a:Act} {w:World} (ht:env.get t=some (.own i)) (hi:H.get i=some (.row e sz es)) (h:Inv n g env H a w):Inv n g ((t,.pv (.slc sz es false))::env) H a w:=by
 obtain ⟨g1,g2,K,ρ,hf,he⟩:=h;refine ⟨g1,g2,K,ρ,hf,fun t' av hg=>?_⟩;rw [Env.get_cons] at hg;split at hg
 ·rename_i e1;subst e1;simp only [Option.some.injEq] at hg;subst hg;obtain ⟨v,h1,h2⟩:=he _ _ ht;exact ⟨v,h1,.pv _ _ (zgm hf hi h2)⟩
 ·exact he _ _ hg
theorem zet {t i e sz:Nat} {es:List PV} (ht:env.get t=some (.own i)) (hi:H.get i=some (.mrow e sz es)) (k:QQ .ret ((t,.pv (.slc sz es false))::env) ((i,.dead)::(i,.row e sz es)::H)):AW P n g .ret env H QQ :=
 ⟨fun a w hinv=>(ziv k).go a w (znP i (zr4 ht (by rw [HEnv.get_cons,if_pos rfl]) (zdh hi hinv)))⟩
theorem zpc {t i j e sz h:Nat} {u:Value} {es:List PV} (ht:env.get t=some (.pv (.base (cut sz u 0 h)))) (hi:H.get i=some (.mrow e sz es)) (hj:H.get j=some (.pin (.own i) u)) (hij:(i==j)=false) (hh:h<=es.length) (h0:0 < es.length) (k:QQ .ret ((t,.pv (.slc sz (es.take h) false))::env) ((i,.dead)::(i,.row e sz es)::H)):AW P n g .ret env H QQ :=
 ⟨fun a w hinv=>(ziv k).go a w (znP i (zq2 (i:=i) (j:=j) ht (by rw [HEnv.get_cons,if_pos rfl]) (by rw [HEnv.get_cons,if_neg (by simpa using hij)];exact hj) hh h0 (zdh hi hinv)))⟩
end
theorem zmv (p:Pt) (l:List Pt) (y:Pt):WL p (l++[y])=WL p l++(if zjM y (l.getLastD p) then [] else [y]):=by
 induction l generalizing p with
 | nil=>simp [WL]
 | cons z l ih =>
  rw [List.cons_append,WL,WL,ih z];have:(z::l).getLastD p=l.getLastD z:=by cases l <;> rfl
  rw [this];split <;> simp
theorem zi9 {l:List Pt} {m:Nat} (h1:1<=m) (h:m < l.length):Yg (l.take (m + 1))=Yg (l.take m)++(if zjM l[m] (l[m - 1]'zwy62) then [] else [l[m]]):=by
 rw [List.take_succ_eq_append_getElem h];cases l with
 | nil=>simp at h
 | cons x l =>
  obtain ⟨m,rfl⟩:∃ k,m=k + 1:=⟨m - 1,by omega⟩
  simp only [List.take_succ_cons,List.cons_append,Yg,zmv,List.getElem_cons_succ,Nat.add_sub_cancel];have:(l.take m).getLastD x=(x::l)[m]:=by
   have hm:m<=l.length:=by simp at h;omega
   cases m with
   | zero=>simp
   | succ m=>simp [List.getLastD_eq_getLast?,List.getLast?_take,show m < l.length by omega]
  rw [this]
theorem zgF (a b:Pt):ACall Tryz.prog 166 [yT a,yT b] (pb (zjM a b)):=by
 refine zh zf Tryz.func166 rfl zws Tryz.ntmps166 zwy63 _ rfl (fun hw gB hgB=>?_)
 repeat' (first|refine sA ?_|refine sC (fun _=>?_) (fun _=>?_)|fail)
 all_goals exact retq rfl rfl
abbrev zPt:PV:=.agg [pi 0,pi 0,pi 0,pi 0]
theorem zwk23 {G:Prop} (h:G:=by repeat' (first|(have:=b0;refine zet (t:=4) (i:=0) rfl rfl ?_)|(have:=b1;refine zy rfl (au (k:=i) (j:=0) g0) rfl rfl ?_)|(have:=b1;refine zq rfl (au (k:=i) (j:=0) g0) rfl rfl ?_)|(have:=b1;refine zy rfl (au (k:=i - 1) (j:=0) g1) rfl rfl ?_)|(have:=b1;refine zq rfl (au (k:=i - 1) (j:=0) g1) rfl rfl ?_)|(refine shC ?_;first|(have:=b1;refine qV (cb) ?_))|(refine shX ?_;first|(have:=b1;refine zy rfl (zM (k:=i - 1) zf rfl rfl rfl rfl rfl rfl rfl hix h1) rfl rfl ?_)|(have:=b1;refine zq rfl (zM (k:=i - 1) zf rfl rfl rfl rfl rfl rfl rfl hix h1) rfl rfl ?_)|(have:=b1;refine zy rfl (aA (k:=i) h0) rfl rfl ?_)|(have:=b1;refine zq rfl (aA (k:=i) h0) rfl rfl ?_))|(have:=b2;refine yw ?_;first|refine zcR zf rfl rfl rfl rfl rfl rfl rfl ?_)|(have:=b0;refine sA ?_)|(have:=b3;refine zy rfl (zie (j:=20) zf rfl rfl rfl rfl rfl hB0) rfl rfl ?_)|(have:=b3;refine zgi zf 0 21 rfl rfl rfl rfl rfl rfl rfl rfl rfl zwy62 zwy62 zwy62 zwy62 rfl rfl rfl (fun u2=>?_))|(have:=b3;refine zgi zf 0 22 rfl rfl rfl rfl rfl rfl rfl rfl rfl zwy62 zwy62 zwy76 zwy76 rfl rfl rfl (fun u3=>?_))|(have:=b3;refine zpc (t:=4) (i:=0) (j:=22) rfl rfl rfl rfl zwy76 zwy76 ?_)|(have:=b3;refine yw ?_;first|refine zpo (j:=21) zf rfl rfl rfl rfl rfl rfl (Nat.le_of_lt hcB) (Nat.le_refl _) hB0 rfl rfl rfl rfl ?_)|(have:=b4;refine sK ?_)|refine sC (fun _=>?_) (fun _=>?_)|(have:=b0;exact ⟨.inr rfl,.inl ⟨_,rfl,by rw [hcp];rfl,tH⟩⟩)|(have:=b1;exact ⟨i + 1,⟨by omega,by omega,by rw [hst,hci,List.take_succ_eq_append_getElem hlt];rfl⟩,tD,tS,tH⟩)|(have:=b3;exact ⟨.inr rfl,.inl ⟨_,rfl,by rw [pts,<-hfin];rfl,tH⟩⟩)|fail)):G:=h
theorem zkV (l:List Pt) (hl:l.length < 20) (us:Nat->Value) :
  ACallM Tryz.prog 165 [.own 0,.pv (.fn (.func 166) [] [])] (zck us l) (.pv (pts (Yg l))) ([(0,.dead)]++qB us [0]):=by
 refine Zk zf Tryz.func165 rfl zws Tryz.ntmps165 zwy63 _ rfl (fun gB hw1=>?_);by_cases h2:l.length < 2
 ·have hd:decide ((((l.map yT).length:Nat):Int) < 2)=true:=decide_eq_true zwy64;have hcp:Yg l=l:=by
   cases l with
   | nil=>rfl
   | cons x l=>cases l with
    | nil=>rfl
    | cons y l=>simp at h2;omega
  have b0:=();have b2:=();exact zwk23
 ·have hd:decide ((((l.map yT).length:Nat):Int) < 2)=false:=decide_eq_false zwy64
  repeat' (first|refine zet (t:=4) (i:=0) rfl rfl ?_|(refine yw ?_;first|refine zcR zf rfl rfl rfl rfl rfl rfl rfl ?_)|refine sA ?_|refine sC (fun _=>?_) (fun _=>?_)|fail)
  refine zL (fun i:Nat=>[(0,.own 0),(1,.pv (.fn (.func 166) [] [])),(5,.pv (pi i))]) (fun _=>zck us l) (fun i=>1<=i/\i<=l.length/\Yg (l.take i)=l.take i) (fun i=>l.length - i) 1 ⟨by omega,by omega,by cases l <;> rfl⟩ (tS) tH ?_;rintro i ⟨hi1,hi2,hci⟩;by_cases hlt:i < l.length
  ·have hd':decide (((i:Nat):Int) < (((l.map yT).length:Nat):Int))=true:=decide_eq_true zwy64;have hln:(l.map yT).length=l.length:=by simp
   have g0:(l.map yT)[i]?=some (yT l[i]):=by simp [hlt]
   have g1:(l.map yT)[i - 1]?=some (yT (l[i - 1]'zwy62)):=by simp [show i - 1 < l.length by omega]
   have h0:i < (l.map yT).length:=by simp [hlt]
   have h1:i - 1 < (l.map yT).length:=by simp;omega
   have hix:IntKind.i64.wrap (((i:Nat):Int) - 1)=((i - 1:Nat):Int):=by rw [wrap_in zwy62 zwy62];omega
   have hst:=zi9 hi1 hlt;have cb:=zgF l[i] (l[i - 1]'zwy62);cases hsame:zjM l[i] (l[i - 1]'zwy62)
   ·rw [hsame] at cb hst;have b1:=();have b2:=();have b4:=();exact zwk23
   ·rw [hsame] at cb hst
    repeat' (first|refine zy rfl (au (k:=i) (j:=0) g0) rfl rfl ?_|refine zq rfl (au (k:=i) (j:=0) g0) rfl rfl ?_|refine zy rfl (au (k:=i - 1) (j:=0) g1) rfl rfl ?_|refine zq rfl (au (k:=i - 1) (j:=0) g1) rfl rfl ?_|refine zgi zf 0 20 rfl rfl rfl rfl rfl rfl rfl rfl rfl zwy62 (by simp only [List.length_map];omega) zwy62 (by simp only [List.length_map];omega) rfl rfl rfl (fun uu=>?_)|(refine shC ?_;first|refine qV (cb) ?_)|(refine shX ?_;first|refine zy rfl (zM (k:=i - 1) zf rfl rfl rfl rfl rfl rfl rfl hix h1) rfl rfl ?_|refine zq rfl (zM (k:=i - 1) zf rfl rfl rfl rfl rfl rfl rfl hix h1) rfl rfl ?_|refine zy rfl (aA (k:=i) h0) rfl rfl ?_|refine zq rfl (aA (k:=i) h0) rfl rfl ?_)|(refine yw ?_;first|refine zcR zf rfl rfl rfl rfl rfl rfl rfl ?_)|refine sK ?_|refine sC (fun _=>?_) (fun _=>?_)|fail)
    refine zL (fun st:Nat × List Pt=>[(0,.own 0),(1,.pv (.fn (.func 166) [] [])),(5,.pv (pi (Yg (l.take (i + st.1))).length)),(6,.pv (.base (cut 4 uu i (l.map yT).length))),(7,.pv (pi st.1))])
     (fun st=>[(0,.mrow 160 4 ((Yg (l.take (i + st.1))++(st.2++l.drop (i + st.1 - 1))).map yT)),(20,.pin (.own 0) uu),(1000,.pin (.own 0) (us 0))])
     (fun st=>1<=st.1/\i + st.1<=l.length/\(Yg (l.take (i + st.1))).length + st.2.length=i + st.1 - 1) (fun st=>l.length - st.1) (1,[])
     ⟨Nat.le_refl _,hlt,by show (Yg (l.take (i + 1))).length + 0=i + 1 - 1;rw [hst,hci];simp;omega⟩
     (by repeat (first|exact yN|refine yB rfl ?_|(refine qZ rfl ?_ ?_;· (show ((i:Nat):Int)=(((Yg (l.take (i + 1))).length:Nat):Int);rw [hst,hci];simp;omega))))
     ⟨Zq rfl (by show _=(Yg (l.take (i + 1))++([]++l.drop (i + 1 - 1))).map yT;rw [hst,hci];simp) zwy67,rfl⟩ ?_
    rintro ⟨k,mid⟩ ⟨hk0,hkn,hkl⟩;change 1<=k at hk0;change i + k<=l.length at hkn;change (Yg (l.take (i + k))).length + mid.length=i + k - 1 at hkl;obtain ⟨c,hc⟩:∃ c,c=Yg (l.take (i + k)):=⟨_,rfl⟩
    show AW _ _ _ _ [(0,.own 0),(1,.pv (.fn (.func 166) [] [])),(5,.pv (pi (Yg (l.take (i + k))).length)),(6,.pv (.base (cut 4 uu i (l.map yT).length))),(7,.pv (pi k))] [(0,.mrow 160 4 ((Yg (l.take (i + k))++(mid++l.drop (i + k - 1))).map yT)),(20,.pin (.own 0) uu),(1000,.pin (.own 0) (us 0))] _
    have hcs:=fun h=>zi9 (l:=l) (m:=i + k) zwy62 h
    rw [<-hc] at hkl hcs ⊢;obtain ⟨B,hB⟩:∃ B,B=(c++(mid++l.drop (i + k - 1))).map yT:=⟨_,rfl⟩
    rw [<-hB];have hBl:B.length=l.length:=by rw [hB];simp;omega
    have hB0:0 < B.length:=by omega
    have hh:(l.map yT).length<=B.length:=by rw [hBl];simp
    by_cases hkt:i + k < l.length
    ·have hd2:decide (((k:Nat):Int) < (((l.map yT).length - i:Nat):Int))=true:=decide_eq_true zwy64;have hdr:l.drop (i + k - 1)=(l[i + k - 1]'zwy62)::l.drop (i + k):=by rw [List.drop_eq_getElem_cons zwy62];congr 2;omega
     have hdr2:l.drop (i + k)=l[i + k]::l.drop (i + k + 1):=List.drop_eq_getElem_cons hkt;have cb:=zgF l[i + k] (l[i + k - 1]'zwy62);obtain ⟨y,hy⟩:∃ y,y=l[i + k - 1]'zwy62:=⟨_,rfl⟩
     obtain ⟨x,hx⟩:∃ x,x=l[i + k]:=⟨_,rfl⟩
     have hcs':=hcs hkt;rw [<-hx,<-hy] at cb hcs';rw [<-hy] at hdr;rw [<-hx] at hdr2;have hB':B=(c++mid).map yT++yT y::yT x::(l.drop (i + k + 1)).map yT:=by rw [hB,hdr,hdr2];simp
     have hcl:((c++mid).map yT).length=i + (k - 1):=by simp;omega
     have gy:B[i + (k - 1)]?=some (yT y):=by rw [hB',List.getElem?_append_right zwy62,hcl];simp
     have gx:B[i + k]?=some (yT x):=by rw [hB',List.getElem?_append_right zwy62,hcl,show i + k - (i + (k - 1))=1 by omega];rfl
     have hk1:i + k < (l.map yT).length:=by simp;omega
     have hk2:i + (k - 1) < (l.map yT).length:=by simp;omega
     have hkx:IntKind.i64.wrap (((k:Nat):Int) - 1)=((k - 1:Nat):Int):=by rw [wrap_in zwy62 zwy62];omega
     cases hs2:zjM x y
     ·rw [hs2] at cb hcs';obtain ⟨z,tl,hz⟩:∃ z tl,mid++[y]=z::tl:=by
       cases mid with
       | nil=>exact ⟨y,[],rfl⟩
       | cons z mid=>exact ⟨z,mid++[y],rfl⟩
      have hB2:B=c.map yT++yT z::(tl++l.drop (i + k)).map yT:=by
       have:c++(mid++y::l.drop (i + k))=c++z::(tl++l.drop (i + k)):=by
        rw [show mid++y::l.drop (i + k)=(mid++[y])++l.drop (i + k) by simp,hz];simp
       rw [hB,hdr,this];simp
      have gz:B[c.length]?=some (yT z):=by rw [hB2,List.getElem?_append_right zwy63];simp
      have hcB:c.length < B.length:=by omega
      repeat' (first|refine zy rfl (zie (j:=20) zf rfl rfl rfl rfl rfl hB0) rfl rfl ?_|refine zy rfl (Xj (j:=20) zf (k) rfl rfl rfl rfl rfl rfl rfl rfl rfl hk1 hh) rfl rfl ?_|refine zq rfl (Xj (j:=20) zf (k) rfl rfl rfl rfl rfl rfl rfl rfl rfl hk1 hh) rfl rfl ?_|refine zy rfl (Xj (j:=20) zf (k - 1) rfl rfl rfl rfl rfl rfl rfl rfl hkx hk2 hh) rfl rfl ?_|refine zq rfl (Xj (j:=20) zf (k - 1) rfl rfl rfl rfl rfl rfl rfl rfl hkx hk2 hh) rfl rfl ?_|refine zy rfl (au (k:=i + k) (j:=0) gx) rfl rfl ?_|refine zq rfl (au (k:=i + k) (j:=0) gx) rfl rfl ?_|refine zy rfl (au (k:=i + (k - 1)) (j:=0) gy) rfl rfl ?_|refine zq rfl (au (k:=i + (k - 1)) (j:=0) gy) rfl rfl ?_|(refine shC ?_;first|refine qV (cb) ?_)|(refine shX ?_;first|refine zy rfl (aA (k:=c.length) hcB) rfl rfl ?_|refine zq rfl (aA (k:=c.length) hcB) rfl rfl ?_)|(refine ZN ?_;first|refine YR (k:=c.length) (j:=0) zf rfl rfl rfl rfl rfl gz rfl rfl rfl rfl rfl ?_)|refine sK ?_|refine sC (fun _=>?_) (fun _=>?_)|fail)
      have ht:tl.length=mid.length:=by have:=congrArg List.length hz;simp at this;omega
      have hcc:Yg (l.take (i + (k + 1)))=c++[x]:=hcs';have hnew:B.set c.length (yT x)=(Yg (l.take (i + (k + 1)))++(tl++l.drop (i + (k + 1) - 1))).map yT:=by
       rw [hcc,hB2,List.set_append_right _ _ zwy63];simp
      have e5:IntKind.i64.wrap (((c.length:Nat):Int) + 1)=(((Yg (l.take (i + (k + 1)))).length:Nat):Int):=by rw [wrap_in zwy62 zwy62,hcc];simp
      have e7:IntKind.i64.wrap (((k:Nat):Int) + 1)=((k + 1:Nat):Int):=by rw [wrap_in zwy62 zwy62];omega
      exact ⟨(k + 1,tl),⟨by show 1<=k + 1;omega,by show i + (k + 1)<=l.length;omega,by show (Yg (l.take (i + (k + 1)))).length + tl.length=i + (k + 1) - 1;rw [hcc,ht];simp;omega⟩,by show l.length - (k + 1) < l.length - k;omega,by repeat (first|exact yN|refine yB rfl ?_|(refine qZ rfl ?_ ?_;· first|exact e5|exact e7)),⟨Zq rfl hnew zwy67,rfl⟩⟩
     ·rw [hs2] at cb hcs'
      repeat' (first|refine zy rfl (zie (j:=20) zf rfl rfl rfl rfl rfl hB0) rfl rfl ?_|refine zy rfl (Xj (j:=20) zf (k) rfl rfl rfl rfl rfl rfl rfl rfl rfl hk1 hh) rfl rfl ?_|refine zq rfl (Xj (j:=20) zf (k) rfl rfl rfl rfl rfl rfl rfl rfl rfl hk1 hh) rfl rfl ?_|refine zy rfl (Xj (j:=20) zf (k - 1) rfl rfl rfl rfl rfl rfl rfl rfl hkx hk2 hh) rfl rfl ?_|refine zq rfl (Xj (j:=20) zf (k - 1) rfl rfl rfl rfl rfl rfl rfl rfl hkx hk2 hh) rfl rfl ?_|refine zy rfl (au (k:=i + k) (j:=0) gx) rfl rfl ?_|refine zq rfl (au (k:=i + k) (j:=0) gx) rfl rfl ?_|refine zy rfl (au (k:=i + (k - 1)) (j:=0) gy) rfl rfl ?_|refine zq rfl (au (k:=i + (k - 1)) (j:=0) gy) rfl rfl ?_|(refine shC ?_;first|refine qV (cb) ?_)|refine sK ?_|refine sC (fun _=>?_) (fun _=>?_)|fail)
      have hcc:Yg (l.take (i + (k + 1)))=c:=by rw [show i + (k + 1)=i + k + 1 by omega,hcs'];simp
      have hnew:B=(Yg (l.take (i + (k + 1)))++((mid++[y])++l.drop (i + (k + 1) - 1))).map yT:=by
       rw [hcc,hB,hdr];simp
      have e5:((c.length:Nat):Int)=(((Yg (l.take (i + (k + 1)))).length:Nat):Int):=by rw [hcc]
      have e7:IntKind.i64.wrap (((k:Nat):Int) + 1)=((k + 1:Nat):Int):=by rw [wrap_in zwy62 zwy62];omega
      exact ⟨(k + 1,mid++[y]),⟨by show 1<=k + 1;omega,by show i + (k + 1)<=l.length;omega,by show (Yg (l.take (i + (k + 1)))).length + (mid++[y]).length=i + (k + 1) - 1;rw [hcc];simp;omega⟩,by show l.length - (k + 1) < l.length - k;omega,by repeat (first|exact yN|refine yB rfl ?_|(refine qZ rfl ?_ ?_;· first|exact e5|exact e7)),⟨Zq rfl hnew zwy67,rfl⟩⟩
    ·have hd2:decide (((k:Nat):Int) < (((l.map yT).length - i:Nat):Int))=false:=decide_eq_false zwy64;have hcB:c.length < B.length:=by omega
     have hcl:c=Yg l:=by rw [hc,List.take_of_length_le zwy62]
     have hfin:(B.take c.length++List.replicate (B.length - c.length) zPt++B.drop (c.length + (B.length - c.length))).take c.length=(Yg l).map yT:=by
      rw [List.append_assoc,List.take_append_of_le_length zwy64,List.take_take,Nat.min_self,hB,<-hcl];simp
     have b3:=();have b4:=();exact zwk23
  ·have hd':decide (((i:Nat):Int) < (((l.map yT).length:Nat):Int))=false:=decide_eq_false zwy64;have hcp:Yg l=l:=by rw [List.take_of_length_le zwy62] at hci;exact hci
   have b0:=();have b2:=();exact zwk23
set_option maxHeartbeats 20000000
theorem zln (x:Pt) (at_:Int):ACall Tryz.prog 162 [.agg [pi x.f,pi x.t],pi at_] (pb (zeK at_ x)):=by
 refine zh zf Tryz.func162 rfl zws Tryz.ntmps162 zwy63 _ rfl (fun hw gB hgB=>?_)
 repeat' (first|refine sA ?_|refine sC (fun _=>?_) (fun _=>?_)|fail)
 all_goals (refine ak ?_;simp_all [zn,zeK];try omega)
theorem zwk24 {G:Prop} (h:G:=by repeat' (first|(refine shC ?_;first|(have:=b0;refine qC ch ?_))|(refine shX ?_;first|(have:=b0;refine qX hej ?_))|(have:=b0;refine yw ?_;first|refine Qy zf rfl rfl rfl rfl rfl rfl rfl zwy107 zwy64 rfl rfl ?_)|(have:=b1;refine zu ?_;first|(refine yH (mrP (zd1 at_ l)) (mrP (WQ (zd1 at_ l))) [] [(5,.own 0)] [0] zi rfl rfl rfl ?_ tS rfl rfl rfl hso ?_;· (repeat (first|exact zB|refine aB ?_)))|(refine yH (mrP (WQ (zd1 at_ l))) ([(0,.dead)]) [] [] [0] zi rfl rfl rfl ?_ tS rfl rfl rfl hco ?_;· (repeat (first|exact zB|refine aB ?_))))|refine sK ?_|refine sC (fun _=>?_) (fun _=>?_)|(have:=b0;exact ⟨j + 1,hlj,tD,tS,⟨Zq rfl (by rw [hst];simp) zB,rfl⟩⟩)|(have:=b2;exact ⟨k + 1,hlt,tD,tS,⟨Zq rfl (by rw [hnext,List.take_of_length_le (by omega)]) zB,rfl⟩⟩)|exact retq rfl rfl|fail)):G:=h
theorem zbb (l:List Cl) (at_:Int) (hl:l.length<=6) (hs:∀ x∈zd1 at_ l,SmP x):ACall Tryz.prog 122 [cls l,pi at_] (pts (qW l at_)):=by
 have hlen:(zd1 at_ l).length < 20:=by have:=zdR at_ l l.length;rw [zd1];omega
 have hso:∀ us,ACallM _ _ _ _ _ _ _:=fun us=>zpm (zd1 at_ l) hlen hs us
 have hco:∀ us,ACallM _ _ _ _ _ _ _:=fun us=>zkV (WQ (zd1 at_ l)) (by rw [zge];exact hlen) us
 refine zh zf Tryz.func122 rfl zws Tryz.ntmps122 zwy63 _ rfl (fun hw gB hgB=>?_)
 repeat' (first|refine zdc (t:=5) 0 160 4 zwy69 rfl rfl ?_|refine sA ?_|refine sC (fun _=>?_) (fun _=>?_)|fail)
 refine zL (fun k:Nat=>[(1,.pv (pi at_)),(5,.own 0),(10,.pv (cls l)),(11,.pv (pi l.length)),(12,.pv (pi k))]) (fun k=>mrP (zc3 at_ l k)) (fun k=>k<=l.length) (fun k=>l.length - k) 0 zwy62 (tS) ⟨Zq rfl rfl zB,rfl⟩ ?_;rintro k hk;by_cases hlt:k < l.length
 ·have he:(l.map qN)[k]?=some (qN (l.getD k default)):=zbI hlt;have cp:=zbJ k (l.getD k default);have hal:=zdR at_ l k;have hpl:=zih k (l.getD k default);have hnext:zc3 at_ l (k + 1)=zc3 at_ l k++(yL k (l.getD k default)).filter (zeK at_):=rfl;obtain ⟨p,hp⟩:∃ p,p=yL k (l.getD k default):=⟨_,rfl⟩
  rw [<-hp] at cp hpl hnext
  repeat' (first|(refine shC ?_;first|refine qC cp ?_)|(refine shX ?_;first|refine qX he ?_)|refine sK ?_|refine sC (fun _=>?_) (fun _=>?_)|fail)
  refine zL (fun j:Nat=>[(1,.pv (pi at_)),(5,.own 0),(10,.pv (cls l)),(11,.pv (pi l.length)),(12,.pv (pi k)),(19,.pv (pts p)),(20,.pv (pi p.length)),(21,.pv (pi j))]) (fun j=>mrP (zc3 at_ l k++(p.take j).filter (zeK at_))) (fun j=>j<=p.length) (fun j=>p.length - j) 0 zwy62 (tS) ⟨Zq rfl zwy63 zB,rfl⟩ ?_;rintro j hj;by_cases hlj:j < p.length
  ·have hej:=zT (f:=yT) hlj;obtain ⟨x,hx⟩:∃ x,x=p[j]:=⟨_,rfl⟩
   have hst:(p.take (j + 1)).filter (zeK at_)=(p.take j).filter (zeK at_)++if zeK at_ x then [x] else []:=by
    rw [List.take_succ_eq_append_getElem hlj,List.filter_append,<-hx];cases h:zeK at_ x <;> simp [List.filter,h]
   rw [<-hx] at hej;have ch:=zln x at_;have hfl:=List.length_filter_le (zeK at_) (p.take j);have htl:(p.take j).length<=3:=by simp;omega
   cases hh:zeK at_ x
   ·rw [hh] at ch hst;have b0:=();exact zwk24
   ·rw [hh] at ch hst;have b0:=();exact zwk24
  ·have b2:=();exact zwk24
 ·have hk2:k=l.length:=by omega
  subst hk2;have b1:=();exact zwk24
set_option maxHeartbeats 20000000
theorem ztq (g:Img) (hF:Fm g) (m:Me) (ar:List Ty) (arg:Int) (t0:Ty) (l:List Ty) (hl:l.length<=100):XC 134 [] (⟨g,m,ar,⟨8,arg,t0⟩⟩:RC) (yM g m ⟨8,arg,t0⟩) uV l:=by
 intro u;refine zI zf Tryz.func134 rfl zws Tryz.ntmps134 zwy63 _ rfl (fun gB hw1=>?_);cases hS1:(qg m.max [kTy 2]) l with
 | error e =>
  have hw:(yM g m ⟨8,arg,t0⟩) l=.error e:=by simp [yM,zA,zG,hS1]
  repeat' (first|refine zo 2 3 rfl rfl rfl ?_|refine zD ((yS u ⟨g,m,ar,⟨8,arg,t0⟩⟩ l)) zi rfl rfl rfl tH ((zX ⟨g,m,ar,⟨8,arg,t0⟩⟩ [kTy 2] _ zwy62 zwy63).bad hS1 u) ?_|(refine shC ?_;first|refine qC (zU 2) ?_)|refine sK ?_|refine sC (fun _=>?_) (fun _=>?_)|fail)
  exact zF hw
 | ok p =>
  obtain ⟨⟨⟩,l1⟩:=p;have hw:(yM g m ⟨8,arg,t0⟩) l=.ok ((),l1):=by simp [yM,zA,zG,hS1]
  repeat' (first|(refine shC ?_;first|refine qC (zU 2) ?_)|(refine zu ?_;first|(refine zx 0 zi rfl rfl ((zX ⟨g,m,ar,⟨8,arg,t0⟩⟩ [kTy 2] _ zwy62 zwy63).ok hS1) rfl rfl rfl rfl rfl ?_))|refine sK ?_|refine sC (fun _=>?_) (fun _=>?_)|fail)
  exact yc hw (yE (.inl rfl) tH)
theorem zsG (g:Img) (hF:Fm g) (m:Me) (ar:List Ty) (arg:Int) (t0:Ty) (l:List Ty) (hl:l.length<=100) (op:Int) (ho:op=9\/op=74):XC 134 [] (⟨g,m,ar,⟨op,arg,t0⟩⟩:RC) (yM g m ⟨op,arg,t0⟩) uV l:=by
 let c:RC:=⟨g,m,ar,⟨op,arg,t0⟩⟩
 rcases ho with rfl|rfl
 all_goals
  intro u;refine zI zf Tryz.func134 rfl zws Tryz.ntmps134 zwy63 _ rfl (fun gB hw1=>?_);cases hS1:(qg m.max [kTy 3]) l with
  | error e =>
   have hw:(yM g m ⟨c.x.op,arg,t0⟩) l=.error e:=by simp [yM,c,zA,zG,hS1]
   repeat' (first|refine zo 5 3 rfl rfl rfl ?_|refine zD ((yS u c l)) zi rfl rfl rfl tH ((zX c [kTy 3] _ zwy62 zwy63).bad hS1 u) ?_|(refine shC ?_;first|refine qC (zU 3) ?_)|refine sK ?_|refine sC (fun _=>?_) (fun _=>?_)|fail)
   exact zF hw
  | ok p =>
   obtain ⟨⟨⟩,l1⟩:=p;have hw:(yM g m ⟨c.x.op,arg,t0⟩) l=.ok ((),l1):=by simp [yM,c,zA,zG,hS1]
   repeat' (first|(refine shC ?_;first|refine qC (zU 3) ?_)|(refine zu ?_;first|(refine zx 0 zi rfl rfl ((zX c [kTy 3] _ zwy62 zwy63).ok hS1) rfl rfl rfl rfl rfl ?_))|refine sK ?_|refine sC (fun _=>?_) (fun _=>?_)|fail)
   exact yc hw (yE (.inl rfl) tH)
theorem zsa (g:Img) (hF:Fm g) (m:Me) (ar:List Ty) (arg:Int) (t0:Ty) (l:List Ty) (hl:l.length<=100):XC 134 [] (⟨g,m,ar,⟨10,arg,t0⟩⟩:RC) (yM g m ⟨10,arg,t0⟩) uV l:=by
 intro u;refine zI zf Tryz.func134 rfl zws Tryz.ntmps134 zwy63 _ rfl (fun gB hw1=>?_);cases hS1:(qg m.max [kTy 8]) l with
 | error e =>
  have hw:(yM g m ⟨10,arg,t0⟩) l=.error e:=by simp [yM,zA,zG,hS1]
  repeat' (first|refine zo 7 3 rfl rfl rfl ?_|refine zD ((yS u ⟨g,m,ar,⟨10,arg,t0⟩⟩ l)) zi rfl rfl rfl tH ((zX ⟨g,m,ar,⟨10,arg,t0⟩⟩ [kTy 8] _ zwy62 zwy63).bad hS1 u) ?_|(refine shC ?_;first|refine qC (zU 8) ?_)|refine sK ?_|refine sC (fun _=>?_) (fun _=>?_)|fail)
  exact zF hw
 | ok p =>
  obtain ⟨⟨⟩,l1⟩:=p;have hw:(yM g m ⟨10,arg,t0⟩) l=.ok ((),l1):=by simp [yM,zA,zG,hS1]
  repeat' (first|(refine shC ?_;first|refine qC (zU 8) ?_)|(refine zu ?_;first|(refine zx 0 zi rfl rfl ((zX ⟨g,m,ar,⟨10,arg,t0⟩⟩ [kTy 8] _ zwy62 zwy63).ok hS1) rfl rfl rfl rfl rfl ?_))|refine sK ?_|refine sC (fun _=>?_) (fun _=>?_)|fail)
  exact yc hw (yE (.inl rfl) tH)
theorem zrD (g:Img) (hF:Fm g) (m:Me) (ar:List Ty) (arg:Int) (t0:Ty) (l:List Ty) (hl:l.length<=100):XC 134 [] (⟨g,m,ar,⟨11,arg,t0⟩⟩:RC) (yM g m ⟨11,arg,t0⟩) uV l:=by
 intro u;refine zI zf Tryz.func134 rfl zws Tryz.ntmps134 zwy63 _ rfl (fun gB hw1=>?_);cases hS1:(Qj) l with
 | error e =>
  have hw:(yM g m ⟨11,arg,t0⟩) l=.error e:=by simp [yM,zA,zG,hS1]
  repeat' (first|refine zo 9 1 rfl rfl rfl ?_|refine zD ((yS u ⟨g,m,ar,⟨11,arg,t0⟩⟩ l)) zi rfl rfl rfl tH ((yx ⟨g,m,ar,⟨11,arg,t0⟩⟩ _ zwy62).bad hS1 u) ?_|refine sK ?_|refine sC (fun _=>?_) (fun _=>?_)|fail)
  exact zF hw
 | ok p =>
  obtain ⟨t,l1⟩:=p;have hl1:l1.length<=100:=by have:=XZ hS1;omega
  cases hS2:(qg m.max [t,t]) l1 with
  | error e =>
   have hw:(yM g m ⟨11,arg,t0⟩) l=.error e:=by simp [yM,zA,zG,hS1,hS2]
   repeat' (first|refine zo 10 4 rfl rfl rfl ?_|refine zD ((yS u ⟨g,m,ar,⟨11,arg,t0⟩⟩ l1)) zi rfl rfl rfl tH ((zX ⟨g,m,ar,⟨11,arg,t0⟩⟩ [t,t] _ zwy62 zwy63).bad hS2 u) ?_|(refine zu ?_;first|(refine zx 0 zi rfl rfl ((yx ⟨g,m,ar,⟨11,arg,t0⟩⟩ _ zwy62).ok hS1) rfl rfl rfl rfl rfl ?_))|refine sK ?_|refine sC (fun _=>?_) (fun _=>?_)|fail)
   exact zF hw
  | ok p =>
   obtain ⟨⟨⟩,l2⟩:=p;have hw:(yM g m ⟨11,arg,t0⟩) l=.ok ((),l2):=by simp [yM,zA,zG,hS1,hS2]
   repeat' (first|(refine zu ?_;first|(refine zx 0 zi rfl rfl ((yx ⟨g,m,ar,⟨11,arg,t0⟩⟩ _ zwy62).ok hS1) rfl rfl rfl rfl rfl ?_)|(refine zx 0 zi rfl rfl ((zX ⟨g,m,ar,⟨11,arg,t0⟩⟩ [t,t] _ zwy62 zwy63).ok hS2) rfl rfl rfl rfl rfl ?_))|refine sK ?_|refine sC (fun _=>?_) (fun _=>?_)|fail)
   exact yc hw (yE (.inl rfl) tH)
theorem zrH (g:Img) (hF:Fm g) (m:Me) (ar:List Ty) (arg:Int) (t0:Ty) (l:List Ty) (hl:l.length<=100):XC 134 [] (⟨g,m,ar,⟨12,arg,t0⟩⟩:RC) (yM g m ⟨12,arg,t0⟩) uV l:=by
 intro u;refine zI zf Tryz.func134 rfl zws Tryz.ntmps134 zwy63 _ rfl (fun gB hw1=>?_);cases hS1:(Qj) l with
 | error e =>
  have hw:(yM g m ⟨12,arg,t0⟩) l=.error e:=by simp [yM,zA,zG,hS1]
  repeat' (first|refine zo 12 1 rfl rfl rfl ?_|refine zD ((yS u ⟨g,m,ar,⟨12,arg,t0⟩⟩ l)) zi rfl rfl rfl tH ((yx ⟨g,m,ar,⟨12,arg,t0⟩⟩ _ zwy62).bad hS1 u) ?_|refine sK ?_|refine sC (fun _=>?_) (fun _=>?_)|fail)
  exact zF hw
 | ok p =>
  obtain ⟨t,l1⟩:=p;have hl1:l1.length<=100:=by have:=XZ hS1;omega
  have hw:(yM g m ⟨12,arg,t0⟩) l=.ok ((),l1):=by simp [yM,zA,zG,hS1]
  repeat' (first|(refine zu ?_;first|(refine zx 0 zi rfl rfl ((yx ⟨g,m,ar,⟨12,arg,t0⟩⟩ _ zwy62).ok hS1) rfl rfl rfl rfl rfl ?_))|refine sK ?_|refine sC (fun _=>?_) (fun _=>?_)|fail)
  exact yc hw (yE (.inl rfl) tH)
theorem zqz (g:Img) (hF:Fm g) (m:Me) (ar:List Ty) (arg:Int) (t0:Ty) (l:List Ty) (hl:l.length<=100):XC 134 [] (⟨g,m,ar,⟨75,arg,t0⟩⟩:RC) (yM g m ⟨75,arg,t0⟩) uV l:=by
 intro u;refine zI zf Tryz.func134 rfl zws Tryz.ntmps134 zwy63 _ rfl (fun gB hw1=>?_);cases hS1:(YG g (kTy 3)) l with
 | error e =>
  have hw:(yM g m ⟨75,arg,t0⟩) l=.error e:=by simp [yM,zA,zG,hS1]
  repeat' (first|refine zo 14 2 rfl rfl rfl ?_|refine zD ((yS u ⟨g,m,ar,⟨75,arg,t0⟩⟩ l)) zi rfl rfl rfl tH ((qx ⟨g,m,ar,⟨75,arg,t0⟩⟩ hF (kTy 3) _ zwy62).bad hS1 u) ?_|(refine shC ?_;first|refine qC (zU 3) ?_)|refine sK ?_|refine sC (fun _=>?_) (fun _=>?_)|fail)
  exact zF hw
 | ok p =>
  obtain ⟨⟨⟩,l1⟩:=p;have hl1:l1.length<=100:=by have:=VX hS1;omega
  have hw:(yM g m ⟨75,arg,t0⟩) l=.ok ((),l1):=by simp [yM,zA,zG,hS1]
  repeat' (first|(refine shC ?_;first|refine qC (zU 3) ?_)|(refine zu ?_;first|(refine zx 0 zi rfl rfl ((qx ⟨g,m,ar,⟨75,arg,t0⟩⟩ hF (kTy 3) _ zwy62).ok hS1) rfl rfl rfl rfl rfl ?_))|refine sK ?_|refine sC (fun _=>?_) (fun _=>?_)|fail)
  exact yc hw (yE (.inl rfl) tH)
theorem zsF (g:Img) (hF:Fm g) (m:Me) (ar:List Ty) (arg:Int) (t0:Ty) (l:List Ty) (hl:l.length<=100) (op:Int) (ho:op=1\/op=47):XC 134 [] (⟨g,m,ar,⟨op,arg,t0⟩⟩:RC) (yM g m ⟨op,arg,t0⟩) uV l:=by
 let c:RC:=⟨g,m,ar,⟨op,arg,t0⟩⟩
 rcases ho with rfl|rfl
 all_goals
  intro u;refine zI zf Tryz.func134 rfl zws Tryz.ntmps134 zwy63 _ rfl (fun gB hw1=>?_);have hw:(yM g m ⟨c.x.op,arg,t0⟩) l=.ok ((),l):=by simp [yM,c,zA,zG]
  repeat' (first|refine sK ?_|refine sC (fun _=>?_) (fun _=>?_)|fail)
  exact yc hw (yE (.inl rfl) tH)
theorem zwk72 {G:Prop} (h:G:=by repeat' (first|(have:=b0;refine zo 17 8 rfl rfl rfl ?_)|(have:=b0;refine zD ((yS u ⟨g,m,ar,⟨67,arg,t0⟩⟩ l)) zi rfl rfl rfl tH ((zX ⟨g,m,ar,⟨67,arg,t0⟩⟩ [⟨9,arg,0,false⟩] _ zwy62 zwy63).bad hS4 u) ?_)|(have:=b1;refine zo 16 10 rfl rfl rfl ?_)|(have:=b2;refine zD ([]) zi rfl rfl rfl tH (yu zwy92 8) ?_)|(have:=b3;refine zD ([]) zi rfl rfl rfl tH (yu zwy66 8) ?_)|(refine shC ?_;first|refine qC ca ?_|(have:=b4;refine qC cb ?_)|(have:=b5;refine zy rfl (zJ rfl rfl (zH zwy92 8)) rfl rfl ?_)|(have:=b5;refine zq rfl (zJ rfl rfl (zH zwy92 8)) rfl rfl ?_))|(have:=b6;refine zu ?_;first|(refine ay 0 (cm.ok em) ?_))|(have:=b7;refine zu ?_;first|(refine zx 0 zi rfl rfl ((zX ⟨g,m,ar,⟨67,arg,t0⟩⟩ [⟨9,arg,0,false⟩] _ zwy62 zwy63).ok hS4) rfl rfl rfl rfl rfl ?_)|(refine ay 0 (cm.ok em) ?_))|refine sK ?_|refine sC (fun _=>?_) (fun _=>?_)|exact zF hw|exact yc hw (yE (.inl rfl) tH)|fail)):G:=h
theorem zr0 (g:Img) (hF:Fm g) (m:Me) (ar:List Ty) (arg:Int) (t0:Ty) (l:List Ty) (hl:l.length<=100) (h0:0<=arg) (h1:arg.toNat < g.methods.length):XC 134 [] (⟨g,m,ar,⟨67,arg,t0⟩⟩:RC) (yM g m ⟨67,arg,t0⟩) uV l:=by
 intro u;refine zI zf Tryz.func134 rfl zws Tryz.ntmps134 zwy63 _ rfl (fun gB hw1=>?_);have cm:XC 179 [] (⟨g,m,ar,⟨67,arg,t0⟩⟩:RC) (pure (mAt g arg):SM Me) (fun d=>.pv (zY d)) l:=zbw _ l h0 h1;have em:(pure (mAt g arg):SM Me) l=.ok (mAt g arg,l):=rfl;obtain ⟨d,hd⟩:∃ d,mAt g arg=d:=⟨_,rfl⟩
 rw [hd] at cm em;have ca:=Qs d 4;have cb:=Qs d 16;cases hC1:(qU d.flags 4)
 ·rw [hC1] at ca;cases hC2:(qU d.flags 16)
  ·rw [hC2] at cb;cases hS4:(qg m.max [⟨9,arg,0,false⟩]) l with
   | error e =>
    have hw:(yM g m ⟨67,arg,t0⟩) l=.error e:=by simp [yM,hd,zA,zG,hC1,hC2,zO,emptyS,hS4]
    have b0:=();have b4:=();have b5:=();have b6:=();exact zwk72
   | ok p =>
    obtain ⟨⟨⟩,l4⟩:=p;have hw:(yM g m ⟨67,arg,t0⟩) l=.ok ((),l4):=by simp [yM,hd,zA,zG,hC1,hC2,zO,emptyS,hS4]
    have b4:=();have b5:=();have b7:=();exact zwk72
  ·rw [hC2] at cb;have hw:(yM g m ⟨67,arg,t0⟩) l=.error 8:=by simp [yM,hd,zA,zG,hC1,hC2,zO,emptyS]
   have b1:=();have b2:=();have b4:=();have b6:=();exact zwk72
 ·rw [hC1] at ca;have hw:(yM g m ⟨67,arg,t0⟩) l=.error 8:=by simp [yM,hd,zA,zG,hC1,zO,emptyS]
  have b1:=();have b3:=();have b6:=();exact zwk72
theorem zwk73 {G:Prop} (h:G:=by repeat' (first|(have:=b0;refine zo 4 6 rfl rfl rfl ?_)|(have:=b1;refine zD ([]) zi rfl rfl rfl tH (yu zwy123 9) ?_)|(have:=b2;refine zo 3 6 rfl rfl rfl ?_)|(have:=b2;refine zD ((yS u ⟨g,m,ar,⟨46,arg,t0⟩⟩ l)) zi rfl rfl rfl tH ((qx ⟨g,m,ar,⟨46,arg,t0⟩⟩ hF (m.ret) _ zwy62).bad hS2 u) ?_)|(have:=b3;refine zD ([]) zi rfl rfl rfl tH (yu (by simpa using hN3) 9) ?_)|refine zy rfl (aj (ps:=(yU m.ret))) rfl rfl ?_|refine zq rfl (aj (ps:=(yU m.ret))) rfl rfl ?_|(refine shC ?_;first|(have:=b4;refine zy rfl (zJ rfl rfl (zH zwy123 9)) rfl rfl ?_)|(have:=b4;refine zq rfl (zJ rfl rfl (zH zwy123 9)) rfl rfl ?_)|(have:=b5;refine zy rfl (zJ rfl rfl (zH (by simpa using hN3) 9)) rfl rfl ?_)|(have:=b5;refine zq rfl (zJ rfl rfl (zH (by simpa using hN3) 9)) rfl rfl ?_))|(have:=b6;refine zu ?_;first|(refine zx 0 zi rfl rfl ((qx ⟨g,m,ar,⟨46,arg,t0⟩⟩ hF (m.ret) _ zwy62).ok hS2) rfl rfl rfl rfl rfl ?_))|refine sK ?_|refine sC (fun _=>?_) (fun _=>?_)|exact zaT hw|exact zfl hw (ziM (.inl rfl) tH)|fail)):G:=h
theorem zu1 (g:Img) (hF:Fm g) (m:Me) (ar:List Ty) (arg:Int) (t0:Ty) (l:List Ty) (hl:l.length<=100) (u:Value):QF Tryz.prog 133 [.box 0 0] (yS u (⟨g,m,ar,⟨46,arg,t0⟩⟩:RC) l) (zoH u (⟨g,m,ar,⟨46,arg,t0⟩⟩:RC) ((ZL g m 46) l)):=by
 revert u;intro u;refine zI zf Tryz.func133 rfl zws Tryz.ntmps133 zwy63 _ rfl (fun gB hw1=>?_);cases hC1:(m.ret.kind != 1)
 ·skip;cases hN2:(l.length==0)
  ·have hw:(ZL g m 46) l=.error 9:=by simp [ZL,zA,zG,hC1,zO,emptyS,hN2]
   have b0:=();have b1:=();exact zwk73
  ·skip;have hw:(ZL g m 46) l=.ok ((),[]):=by simp [ZL,zA,zG,hC1,zO,emptyS,hN2,zcu]
   have b4:=();exact zwk73
 ·skip;cases hS2:(YG g (m.ret)) l with
  | error e =>
   have hw:(ZL g m 46) l=.error e:=by simp [ZL,zA,zG,hC1,hS2]
   have b2:=();exact zwk73
  | ok p =>
   obtain ⟨⟨⟩,l2⟩:=p;have hl2:l2.length<=100:=by have:=VX hS2;omega
   cases hN3:(l2.length==0)
   ·have hw:(ZL g m 46) l=.error 9:=by simp [ZL,zA,zG,hC1,hS2,zO,emptyS,hN3]
    have b0:=();have b3:=();have b6:=();exact zwk73
   ·skip;have hw:(ZL g m 46) l=.ok ((),[]):=by simp [ZL,zA,zG,hC1,hS2,zO,emptyS,hN3,zcu]
    have b5:=();have b6:=();exact zwk73
theorem zwk74 {G:Prop} (h:G:=by repeat' (first|(have:=b0;refine zo 6 1 rfl rfl rfl ?_)|(have:=b0;refine zD ((yS u ⟨g,m,ar,⟨69,arg,t0⟩⟩ l)) zi rfl rfl rfl tH ((yx ⟨g,m,ar,⟨69,arg,t0⟩⟩ _ zwy62).bad hS1 u) ?_)|(have:=b1;refine zo 6 3 rfl rfl rfl ?_)|(have:=b1;refine zD ([]) zi rfl rfl rfl tH (yu zwy88 10) ?_)|(refine shC ?_;first|(have:=b2;refine qC cx ?_)|(have:=b3;refine zy rfl (zJ rfl rfl (zH zwy88 10)) rfl rfl ?_)|(have:=b3;refine zq rfl (zJ rfl rfl (zH zwy88 10)) rfl rfl ?_))|(have:=b2;refine zu ?_;first|(refine zx 0 zi rfl rfl ((yx ⟨g,m,ar,⟨69,arg,t0⟩⟩ _ zwy62).ok hS1) rfl rfl rfl rfl rfl ?_))|refine sK ?_|refine sC (fun _=>?_) (fun _=>?_)|exact zaT hw|exact zfl hw (ziM (.inl rfl) tH)|fail)):G:=h
theorem zuB (g:Img) (hF:Fm g) (m:Me) (ar:List Ty) (arg:Int) (t0:Ty) (l:List Ty) (hl:l.length<=100) (u:Value):QF Tryz.prog 133 [.box 0 0] (yS u (⟨g,m,ar,⟨69,arg,t0⟩⟩:RC) l) (zoH u (⟨g,m,ar,⟨69,arg,t0⟩⟩:RC) ((ZL g m 69) l)):=by
 revert u;intro u;refine zI zf Tryz.func133 rfl zws Tryz.ntmps133 zwy63 _ rfl (fun gB hw1=>?_);cases hS1:(Qj) l with
 | error e =>
  have hw:(ZL g m 69) l=.error e:=by simp [ZL,zA,zG,hS1]
  have b0:=();exact zwk74
 | ok p =>
  obtain ⟨t,l1⟩:=p;have hl1:l1.length<=100:=by have:=XZ hS1;omega
  have cx:=qY t;cases hC3:(object t)
  ·rw [hC3] at cx;have hw:(ZL g m 69) l=.error 10:=by simp [ZL,zA,zG,hS1,hC3,zO,emptyS]
   have b1:=();have b2:=();exact zwk74
  ·rw [hC3] at cx;have hw:(ZL g m 69) l=.ok ((),[]):=by simp [ZL,zA,zG,hS1,hC3,zO,emptyS,zcu]
   have b2:=();have b3:=();exact zwk74
theorem zwk75 {G:Prop} (h:G:=by repeat' (first|(have:=b0;refine zo 8 2 rfl rfl rfl ?_)|(have:=b0;refine zD ((yS u ⟨g,m,ar,⟨73,arg,t0⟩⟩ l)) zi rfl rfl rfl tH ((qx ⟨g,m,ar,⟨73,arg,t0⟩⟩ hF (kTy 2) _ zwy62).bad hS1 u) ?_)|(have:=b1;refine zo 9 6 rfl rfl rfl ?_)|(have:=b1;refine zD ([]) zi rfl rfl rfl tH (yu zwy123 9) ?_)|(refine shC ?_;first|(have:=b2;refine zy rfl (zJ rfl rfl (zH zwy123 9)) rfl rfl ?_)|(have:=b2;refine zq rfl (zJ rfl rfl (zH zwy123 9)) rfl rfl ?_)|refine qC (zU 2) ?_)|(have:=b3;refine zu ?_;first|(refine zx 0 zi rfl rfl ((qx ⟨g,m,ar,⟨73,arg,t0⟩⟩ hF (kTy 2) _ zwy62).ok hS1) rfl rfl rfl rfl rfl ?_))|refine sK ?_|refine sC (fun _=>?_) (fun _=>?_)|exact zaT hw|exact zfl hw (ziM (.inl rfl) tH)|fail)):G:=h
theorem zvr (g:Img) (hF:Fm g) (m:Me) (ar:List Ty) (arg:Int) (t0:Ty) (l:List Ty) (hl:l.length<=100) (u:Value):QF Tryz.prog 133 [.box 0 0] (yS u (⟨g,m,ar,⟨73,arg,t0⟩⟩:RC) l) (zoH u (⟨g,m,ar,⟨73,arg,t0⟩⟩:RC) ((ZL g m 73) l)):=by
 revert u;intro u;refine zI zf Tryz.func133 rfl zws Tryz.ntmps133 zwy63 _ rfl (fun gB hw1=>?_);cases hS1:(YG g (kTy 2)) l with
 | error e =>
  have hw:(ZL g m 73) l=.error e:=by simp [ZL,zA,zG,hS1]
  have b0:=();exact zwk75
 | ok p =>
  obtain ⟨⟨⟩,l1⟩:=p;have hl1:l1.length<=100:=by have:=VX hS1;omega
  cases hN2:(l1.length==0)
  ·have hw:(ZL g m 73) l=.error 9:=by simp [ZL,zA,zG,hS1,zO,emptyS,hN2]
   have b1:=();have b3:=();exact zwk75
  ·skip;have hw:(ZL g m 73) l=.ok ((),[]):=by simp [ZL,zA,zG,hS1,zO,emptyS,hN2,zcu]
   have b2:=();have b3:=();exact zwk75
theorem zu6 (g:Img) (hF:Fm g) (m:Me) (ar:List Ty) (arg:Int) (t0:Ty) (l:List Ty) (hl:l.length<=100) (op:Int) (ho:op=70\/op=71\/op=72) (u:Value):QF Tryz.prog 133 [.box 0 0] (yS u (⟨g,m,ar,⟨op,arg,t0⟩⟩:RC) l) (zoH u (⟨g,m,ar,⟨op,arg,t0⟩⟩:RC) ((ZL g m op) l)):=by
 let c:RC:=⟨g,m,ar,⟨op,arg,t0⟩⟩
 rcases ho with rfl|rfl|rfl
 all_goals
  revert u;intro u;refine zI zf Tryz.func133 rfl zws Tryz.ntmps133 zwy63 _ rfl (fun gB hw1=>?_);have hw:(ZL g m c.x.op) l=.ok ((),[]):=by simp [ZL,c,zA,zG,zcu]
  repeat' (first|refine sK ?_|refine sC (fun _=>?_) (fun _=>?_)|fail)
  exact zfl hw (ziM (.inl rfl) tH)
set_option maxHeartbeats 20000000
theorem zwy (g:Img) (hF:Fm g) (m:Me) (ar:List Ty) (arg:Int) (t0:Ty) (l:List Ty) (hl:l.length<=100) (h0:0<=arg):XC 124 [] (⟨g,m,ar,⟨2,arg,t0⟩⟩:RC) (Zb g ar m ⟨2,arg,t0⟩) uV l:=by
 intro u;refine zI zf Tryz.func124 rfl zws Tryz.ntmps124 zwy63 _ rfl (fun gB hw1=>?_);cases hS1:(zbc ⟨2,arg,t0⟩ ar) l with
 | error e =>
  have hw:(Zb g ar m ⟨2,arg,t0⟩) l=.error e:=by simp [Zb,zA,zG,hS1]
  repeat' (first|refine zo 6 2 rfl rfl rfl ?_|refine zD ((yS u ⟨g,m,ar,⟨2,arg,t0⟩⟩ l)) zi rfl rfl rfl tH ((Zv ⟨g,m,ar,⟨2,arg,t0⟩⟩ ar _ h0).bad hS1 u) ?_|refine sK ?_|refine sC (fun _=>?_) (fun _=>?_)|fail)
  exact zF hw
 | ok p =>
  obtain ⟨t,l1⟩:=p;have hl1:l1.length<=100:=by have:=zba hS1;omega
  cases hS2:(qg m.max [t]) l1 with
  | error e =>
   have hw:(Zb g ar m ⟨2,arg,t0⟩) l=.error e:=by simp [Zb,zA,zG,hS1,hS2]
   repeat' (first|refine zo 11 3 rfl rfl rfl ?_|refine zD ((yS u ⟨g,m,ar,⟨2,arg,t0⟩⟩ l1)) zi rfl rfl rfl tH ((zX ⟨g,m,ar,⟨2,arg,t0⟩⟩ [t] _ zwy62 zwy63).bad hS2 u) ?_|(refine zu ?_;first|(refine zx 0 zi rfl rfl ((Zv ⟨g,m,ar,⟨2,arg,t0⟩⟩ ar _ h0).ok hS1) rfl rfl rfl rfl rfl ?_))|refine sK ?_|refine sC (fun _=>?_) (fun _=>?_)|fail)
   exact zF hw
  | ok p =>
   obtain ⟨⟨⟩,l2⟩:=p;have hw:(Zb g ar m ⟨2,arg,t0⟩) l=.ok ((),l2):=by simp [Zb,zA,zG,hS1,hS2]
   repeat' (first|(refine zu ?_;first|(refine zx 0 zi rfl rfl ((Zv ⟨g,m,ar,⟨2,arg,t0⟩⟩ ar _ h0).ok hS1) rfl rfl rfl rfl rfl ?_)|(refine zx 0 zi rfl rfl ((zX ⟨g,m,ar,⟨2,arg,t0⟩⟩ [t] _ zwy62 zwy63).ok hS2) rfl rfl rfl rfl rfl ?_))|refine sK ?_|refine sC (fun _=>?_) (fun _=>?_)|fail)
   exact yc hw (yE (.inl rfl) tH)
theorem zvS (g:Img) (hF:Fm g) (m:Me) (ar:List Ty) (arg:Int) (t0:Ty) (l:List Ty) (hl:l.length<=100) (h0:0<=arg):XC 124 [] (⟨g,m,ar,⟨3,arg,t0⟩⟩:RC) (Zb g ar m ⟨3,arg,t0⟩) uV l:=by
 intro u;refine zI zf Tryz.func124 rfl zws Tryz.ntmps124 zwy63 _ rfl (fun gB hw1=>?_);cases hS1:(zbc ⟨3,arg,t0⟩ ar) l with
 | error e =>
  have hw:(Zb g ar m ⟨3,arg,t0⟩) l=.error e:=by simp [Zb,zA,zG,hS1]
  repeat' (first|refine zo 6 2 rfl rfl rfl ?_|refine zD ((yS u ⟨g,m,ar,⟨3,arg,t0⟩⟩ l)) zi rfl rfl rfl tH ((Zv ⟨g,m,ar,⟨3,arg,t0⟩⟩ ar _ h0).bad hS1 u) ?_|refine sK ?_|refine sC (fun _=>?_) (fun _=>?_)|fail)
  exact zF hw
 | ok p =>
  obtain ⟨t,l1⟩:=p;have hl1:l1.length<=100:=by have:=zba hS1;omega
  cases hS2:(YG g t) l1 with
  | error e =>
   have hw:(Zb g ar m ⟨3,arg,t0⟩) l=.error e:=by simp [Zb,zA,zG,hS1,hS2]
   repeat' (first|refine zo 14 2 rfl rfl rfl ?_|refine zD ((yS u ⟨g,m,ar,⟨3,arg,t0⟩⟩ l1)) zi rfl rfl rfl tH ((qx ⟨g,m,ar,⟨3,arg,t0⟩⟩ hF t _ zwy62).bad hS2 u) ?_|(refine zu ?_;first|(refine zx 0 zi rfl rfl ((Zv ⟨g,m,ar,⟨3,arg,t0⟩⟩ ar _ h0).ok hS1) rfl rfl rfl rfl rfl ?_))|refine sK ?_|refine sC (fun _=>?_) (fun _=>?_)|fail)
   exact zF hw
  | ok p =>
   obtain ⟨⟨⟩,l2⟩:=p;have hw:(Zb g ar m ⟨3,arg,t0⟩) l=.ok ((),l2):=by simp [Zb,zA,zG,hS1,hS2]
   repeat' (first|(refine zu ?_;first|(refine zx 0 zi rfl rfl ((Zv ⟨g,m,ar,⟨3,arg,t0⟩⟩ ar _ h0).ok hS1) rfl rfl rfl rfl rfl ?_)|(refine zx 0 zi rfl rfl ((qx ⟨g,m,ar,⟨3,arg,t0⟩⟩ hF t _ zwy62).ok hS2) rfl rfl rfl rfl rfl ?_))|refine sK ?_|refine sC (fun _=>?_) (fun _=>?_)|fail)
   exact yc hw (yE (.inl rfl) tH)
theorem zv7 (g:Img) (hF:Fm g) (m:Me) (ar:List Ty) (arg:Int) (t0:Ty) (l:List Ty) (hl:l.length<=100) (h0:0<=arg):XC 124 [] (⟨g,m,ar,⟨4,arg,t0⟩⟩:RC) (Zb g ar m ⟨4,arg,t0⟩) uV l:=by
 intro u;refine zI zf Tryz.func124 rfl zws Tryz.ntmps124 zwy63 _ rfl (fun gB hw1=>?_);cases hS1:(zbc ⟨4,arg,t0⟩ ar) l with
 | error e =>
  have hw:(Zb g ar m ⟨4,arg,t0⟩) l=.error e:=by simp [Zb,zA,zG,hS1]
  repeat' (first|refine zo 6 2 rfl rfl rfl ?_|refine zD ((yS u ⟨g,m,ar,⟨4,arg,t0⟩⟩ l)) zi rfl rfl rfl tH ((Zv ⟨g,m,ar,⟨4,arg,t0⟩⟩ ar _ h0).bad hS1 u) ?_|refine sK ?_|refine sC (fun _=>?_) (fun _=>?_)|fail)
  exact zF hw
 | ok p =>
  obtain ⟨t,l1⟩:=p;have hl1:l1.length<=100:=by have:=zba hS1;omega
  cases hS2:(QN m.max t) l1 with
  | error e =>
   have hw:(Zb g ar m ⟨4,arg,t0⟩) l=.error e:=by simp [Zb,zA,zG,hS1,hS2]
   repeat' (first|refine zo 8 2 rfl rfl rfl ?_|refine zD ((yS u ⟨g,m,ar,⟨4,arg,t0⟩⟩ l1)) zi rfl rfl rfl tH ((zaD ⟨g,m,ar,⟨4,arg,t0⟩⟩ t _ zwy62).bad hS2 u) ?_|(refine zu ?_;first|(refine zx 0 zi rfl rfl ((Zv ⟨g,m,ar,⟨4,arg,t0⟩⟩ ar _ h0).ok hS1) rfl rfl rfl rfl rfl ?_))|refine sK ?_|refine sC (fun _=>?_) (fun _=>?_)|fail)
   exact zF hw
  | ok p =>
   obtain ⟨⟨⟩,l2⟩:=p;have hw:(Zb g ar m ⟨4,arg,t0⟩) l=.ok ((),l2):=by simp [Zb,zA,zG,hS1,hS2]
   repeat' (first|(refine zu ?_;first|(refine zx 0 zi rfl rfl ((Zv ⟨g,m,ar,⟨4,arg,t0⟩⟩ ar _ h0).ok hS1) rfl rfl rfl rfl rfl ?_)|(refine zx 0 zi rfl rfl ((zaD ⟨g,m,ar,⟨4,arg,t0⟩⟩ t _ zwy62).ok hS2) rfl rfl rfl rfl rfl ?_))|refine sK ?_|refine sC (fun _=>?_) (fun _=>?_)|fail)
   exact yc hw (yE (.inl rfl) tH)
theorem zv9 (g:Img) (hF:Fm g) (m:Me) (ar:List Ty) (arg:Int) (t0:Ty) (l:List Ty) (hl:l.length<=100) (h0:0<=arg):XC 124 [] (⟨g,m,ar,⟨5,arg,t0⟩⟩:RC) (Zb g ar m ⟨5,arg,t0⟩) uV l:=by
 intro u;refine zI zf Tryz.func124 rfl zws Tryz.ntmps124 zwy63 _ rfl (fun gB hw1=>?_);cases hS1:(zbc ⟨5,arg,t0⟩ m.locals) l with
 | error e =>
  have hw:(Zb g ar m ⟨5,arg,t0⟩) l=.error e:=by simp [Zb,zA,zG,hS1]
  repeat' (first|refine zo 6 2 rfl rfl rfl ?_|refine zD ((yS u ⟨g,m,ar,⟨5,arg,t0⟩⟩ l)) zi rfl rfl rfl tH ((Zv ⟨g,m,ar,⟨5,arg,t0⟩⟩ m.locals _ h0).bad hS1 u) ?_|refine sK ?_|refine sC (fun _=>?_) (fun _=>?_)|fail)
  exact zF hw
 | ok p =>
  obtain ⟨t,l1⟩:=p;have hl1:l1.length<=100:=by have:=zba hS1;omega
  cases hS2:(qg m.max [t]) l1 with
  | error e =>
   have hw:(Zb g ar m ⟨5,arg,t0⟩) l=.error e:=by simp [Zb,zA,zG,hS1,hS2]
   repeat' (first|refine zo 11 3 rfl rfl rfl ?_|refine zD ((yS u ⟨g,m,ar,⟨5,arg,t0⟩⟩ l1)) zi rfl rfl rfl tH ((zX ⟨g,m,ar,⟨5,arg,t0⟩⟩ [t] _ zwy62 zwy63).bad hS2 u) ?_|(refine zu ?_;first|(refine zx 0 zi rfl rfl ((Zv ⟨g,m,ar,⟨5,arg,t0⟩⟩ m.locals _ h0).ok hS1) rfl rfl rfl rfl rfl ?_))|refine sK ?_|refine sC (fun _=>?_) (fun _=>?_)|fail)
   exact zF hw
  | ok p =>
   obtain ⟨⟨⟩,l2⟩:=p;have hw:(Zb g ar m ⟨5,arg,t0⟩) l=.ok ((),l2):=by simp [Zb,zA,zG,hS1,hS2]
   repeat' (first|(refine zu ?_;first|(refine zx 0 zi rfl rfl ((Zv ⟨g,m,ar,⟨5,arg,t0⟩⟩ m.locals _ h0).ok hS1) rfl rfl rfl rfl rfl ?_)|(refine zx 0 zi rfl rfl ((zX ⟨g,m,ar,⟨5,arg,t0⟩⟩ [t] _ zwy62 zwy63).ok hS2) rfl rfl rfl rfl rfl ?_))|refine sK ?_|refine sC (fun _=>?_) (fun _=>?_)|fail)
   exact yc hw (yE (.inl rfl) tH)
theorem zvO (g:Img) (hF:Fm g) (m:Me) (ar:List Ty) (arg:Int) (t0:Ty) (l:List Ty) (hl:l.length<=100) (h0:0<=arg):XC 124 [] (⟨g,m,ar,⟨6,arg,t0⟩⟩:RC) (Zb g ar m ⟨6,arg,t0⟩) uV l:=by
 intro u;refine zI zf Tryz.func124 rfl zws Tryz.ntmps124 zwy63 _ rfl (fun gB hw1=>?_);cases hS1:(zbc ⟨6,arg,t0⟩ m.locals) l with
 | error e =>
  have hw:(Zb g ar m ⟨6,arg,t0⟩) l=.error e:=by simp [Zb,zA,zG,hS1]
  repeat' (first|refine zo 6 2 rfl rfl rfl ?_|refine zD ((yS u ⟨g,m,ar,⟨6,arg,t0⟩⟩ l)) zi rfl rfl rfl tH ((Zv ⟨g,m,ar,⟨6,arg,t0⟩⟩ m.locals _ h0).bad hS1 u) ?_|refine sK ?_|refine sC (fun _=>?_) (fun _=>?_)|fail)
  exact zF hw
 | ok p =>
  obtain ⟨t,l1⟩:=p;have hl1:l1.length<=100:=by have:=zba hS1;omega
  cases hS2:(YG g t) l1 with
  | error e =>
   have hw:(Zb g ar m ⟨6,arg,t0⟩) l=.error e:=by simp [Zb,zA,zG,hS1,hS2]
   repeat' (first|refine zo 14 2 rfl rfl rfl ?_|refine zD ((yS u ⟨g,m,ar,⟨6,arg,t0⟩⟩ l1)) zi rfl rfl rfl tH ((qx ⟨g,m,ar,⟨6,arg,t0⟩⟩ hF t _ zwy62).bad hS2 u) ?_|(refine zu ?_;first|(refine zx 0 zi rfl rfl ((Zv ⟨g,m,ar,⟨6,arg,t0⟩⟩ m.locals _ h0).ok hS1) rfl rfl rfl rfl rfl ?_))|refine sK ?_|refine sC (fun _=>?_) (fun _=>?_)|fail)
   exact zF hw
  | ok p =>
   obtain ⟨⟨⟩,l2⟩:=p;have hw:(Zb g ar m ⟨6,arg,t0⟩) l=.ok ((),l2):=by simp [Zb,zA,zG,hS1,hS2]
   repeat' (first|(refine zu ?_;first|(refine zx 0 zi rfl rfl ((Zv ⟨g,m,ar,⟨6,arg,t0⟩⟩ m.locals _ h0).ok hS1) rfl rfl rfl rfl rfl ?_)|(refine zx 0 zi rfl rfl ((qx ⟨g,m,ar,⟨6,arg,t0⟩⟩ hF t _ zwy62).ok hS2) rfl rfl rfl rfl rfl ?_))|refine sK ?_|refine sC (fun _=>?_) (fun _=>?_)|fail)
   exact yc hw (yE (.inl rfl) tH)
theorem zwd (g:Img) (hF:Fm g) (m:Me) (ar:List Ty) (arg:Int) (t0:Ty) (l:List Ty) (hl:l.length<=100) (h0:0<=arg):XC 124 [] (⟨g,m,ar,⟨7,arg,t0⟩⟩:RC) (Zb g ar m ⟨7,arg,t0⟩) uV l:=by
 intro u;refine zI zf Tryz.func124 rfl zws Tryz.ntmps124 zwy63 _ rfl (fun gB hw1=>?_);cases hS1:(zbc ⟨7,arg,t0⟩ m.locals) l with
 | error e =>
  have hw:(Zb g ar m ⟨7,arg,t0⟩) l=.error e:=by simp [Zb,zA,zG,hS1]
  repeat' (first|refine zo 6 2 rfl rfl rfl ?_|refine zD ((yS u ⟨g,m,ar,⟨7,arg,t0⟩⟩ l)) zi rfl rfl rfl tH ((Zv ⟨g,m,ar,⟨7,arg,t0⟩⟩ m.locals _ h0).bad hS1 u) ?_|refine sK ?_|refine sC (fun _=>?_) (fun _=>?_)|fail)
  exact zF hw
 | ok p =>
  obtain ⟨t,l1⟩:=p;have hl1:l1.length<=100:=by have:=zba hS1;omega
  cases hS2:(QN m.max t) l1 with
  | error e =>
   have hw:(Zb g ar m ⟨7,arg,t0⟩) l=.error e:=by simp [Zb,zA,zG,hS1,hS2]
   repeat' (first|refine zo 8 2 rfl rfl rfl ?_|refine zD ((yS u ⟨g,m,ar,⟨7,arg,t0⟩⟩ l1)) zi rfl rfl rfl tH ((zaD ⟨g,m,ar,⟨7,arg,t0⟩⟩ t _ zwy62).bad hS2 u) ?_|(refine zu ?_;first|(refine zx 0 zi rfl rfl ((Zv ⟨g,m,ar,⟨7,arg,t0⟩⟩ m.locals _ h0).ok hS1) rfl rfl rfl rfl rfl ?_))|refine sK ?_|refine sC (fun _=>?_) (fun _=>?_)|fail)
   exact zF hw
  | ok p =>
   obtain ⟨⟨⟩,l2⟩:=p;have hw:(Zb g ar m ⟨7,arg,t0⟩) l=.ok ((),l2):=by simp [Zb,zA,zG,hS1,hS2]
   repeat' (first|(refine zu ?_;first|(refine zx 0 zi rfl rfl ((Zv ⟨g,m,ar,⟨7,arg,t0⟩⟩ m.locals _ h0).ok hS1) rfl rfl rfl rfl rfl ?_)|(refine zx 0 zi rfl rfl ((zaD ⟨g,m,ar,⟨7,arg,t0⟩⟩ t _ zwy62).ok hS2) rfl rfl rfl rfl rfl ?_))|refine sK ?_|refine sC (fun _=>?_) (fun _=>?_)|fail)
   exact yc hw (yE (.inl rfl) tH)
end Go.Cg
