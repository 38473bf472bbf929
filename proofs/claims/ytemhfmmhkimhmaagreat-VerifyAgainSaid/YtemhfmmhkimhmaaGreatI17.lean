/- A part of the walks by abstract values: no statement of its own. -/
import Derived.Test.YtemhfmmhkimhmaaGreatI13
import Derived.Test.YtemhfmmhkimhmaaGreatI8
import Derived.Test.YtemhfmmhkimhmaaGreatI7
set_option linter.unusedVariables false
set_option linter.unusedSimpArgs false
namespace Go.Cg
open Go.RowKit
section
variable {P:Program} {tb:Tab} {n:Nat} {g:Base} {H:HEnv} {env:Env} {ops:List Oper} {o:Oper} {rest:List Oper} {Q:Env->HEnv->Prop} {QQ:QC} {c:Code} {K:KK} {w:World} {ρ:Nat->Value} {a:Act}
theorem zqc {x:Operand} {i off:Nat} (hop:o.op=.nilCheck x) (hx:env.val x=some (.ad i off)):QStep P g H o env (.ad i off):=by
 refine ⟨fun K ρ a w hf hv=>?_⟩;have hxr:=hv x zwy68 _ hx;generalize hxv:a.eval x=xv at hxr;cases hxr with
 | ad _ _ b m c hi hb =>
  have hrun:(execOp a.eval o).run P w=.ok (.value (.pointer (some ⟨b,off,none⟩))) w:=by simp [execOp,hop,hxv]
  rw [hrun];exact Yq hf (.ad i off b m c hi hb)
theorem zqS (htb:yZ P tb) {t f:Nat} {x:Operand} {i off o' ft s:Nat} {fs:List (Nat × Nat × Nat)} (hop:o.op=.fieldAddr t x f) (hx:env.val x=some (.ad i off)) (hk:∃ q,tb.k t=.agg fs q) (hfe:fs[f]?=some (o',ft,s)) (hs:zft tb ft s=true):QStep P g H o env (.ad i (off + o')):=by
 refine ⟨fun K ρ a w hf hv=>?_⟩;obtain ⟨q,hk⟩:=hk;simp only [zft,Bool.and_eq_true,bne_iff_ne,beq_iff_eq] at hs;obtain ⟨F,hF,hfs',_⟩:=zcy htb hk;have hf':∃ fl:Field,F[f]?=some fl/\fl.offset=o'/\fl.type=ft:=by
  rw [<-hfs',List.getElem?_map,Array.getElem?_toList] at hfe;cases hfl:F[f]? with
  | none=>simp [hfl] at hfe
  | some fl=>simp [hfl] at hfe;exact ⟨fl,rfl,hfe.1,hfe.2.1⟩
 obtain ⟨fl,hfl,rfl,rfl⟩:=hf';have hko:tb.k fl.type≠.oth:=by intro e;simp [Tab.known,e] at hs
 have hsz:=run_sizeOf htb hko w;have hne:tb.size fl.type≠0:=by omega
 have hxr:=hv x zwy68 _ hx;generalize hxv:a.eval x=xv at hxr;cases hxr with
 | ad _ _ b m c hi hb =>
  have hrun:(execOp a.eval o).run P w=.ok (.value (.pointer (some ⟨b,off + fl.offset,none⟩))) w:=by
   simp [execOp,hop,Instr.fieldAt,run_underlying hF,hfl,hxv,Instr.sureAddr,fieldPlace,hsz,hne,Addr.add_lit]
  rw [hrun];exact Yq hf (.ad i (off + fl.offset) b m c hi hb)
theorem zoG (htb:yZ P tb) {ty e:Nat} {x:Operand} {i sz:Nat} {es:List PV} (hop:o.op=.call { callee:=.builtin .len,args:=#[x],argTypes:=#[ty] }) (hx:env.val x=some (.own i)) (hi:H.get i=some (.mrow e sz es)) (hk:tb.k ty=.sl e):QStep P g H o env (.pv (.base (.int .i64 es.length))):=by
 refine ⟨fun K ρ a w hf hv=>?_⟩;have hxr:=hv x zwy70 _ hx;generalize hxv:a.eval x=xv at hxr;obtain ⟨us,hown,hsz,hcr,hKK'⟩:=hf.heap.ok i _ hi;cases hxr with
 | own _ _ =>
  have hrun:(execOp a.eval o).run P w=.ok (.value (.int .i64 es.length)) w:=by
   have hl:∃ ad c,ρ i=.slice ad es.length c:=by
    rcases hown.2 with ⟨h,h2⟩|⟨b,cap,cur,h,_⟩
    ·exact ⟨none,0,by rw [h,h2]⟩
    ·exact ⟨_,_,h⟩
   obtain ⟨ad,c,hl⟩:=hl;simp [execOp,hop,resolve,invoke,builtin,Builtin.len_,hxv,hl,run_underlying (Zd htb hk),goInt]
  rw [hrun];exact Yq hf (.pv _ _ (.base _ rfl))
theorem zs7 (i j:Nat) (hi:(H.get i).isSome=true) (_:H.get j=none) (k:∀ u,AW P n g c env ((j,.pin (.own i) u)::H) QQ):AW P n g c env H QQ:=by
 refine ⟨fun a w hinv=>?_⟩;obtain ⟨g1,g2,K,ρ,hf,he⟩:=hinv;have hkk:∀ m,(H.get m).isSome=true->(HEnv.get ((j,.pin (.own i) (ρ i))::H) m).isSome=true/\ρ m=ρ m:=by
  intro m hm;refine ⟨?_,rfl⟩;rw [HEnv.get_cons];split <;> first|rfl|exact hm
 have hlive:∀ m hh,HEnv.get ((j,.pin (.own i) (ρ i))::H) m=some hh->hh.live=true->H.get m=some hh:=by
  intro m hh hm hl;rw [HEnv.get_cons] at hm;split at hm
  ·simp only [Option.some.injEq] at hm;subst hm;simp [HE.live] at hl
  ·exact hm
 refine (k (ρ i)).go a w ⟨g1,g2,K,ρ,⟨hf.below,hf.old,hf.new,hf.lt,hf.others,hf.pt,fun m hh bb hm hl hb=>hf.away m hh bb (hlive m hh hm hl) hl hb,fun m hh hm=>?_,fun m m' hh hh' bb hmm hm hm' hl hl'=>hf.heap.apart m m' hh hh' bb hmm (hlive m hh hm hl) (hlive m' hh' hm' hl') hl hl'⟩,he.keeps (.refl K w) hkk⟩;rw [HEnv.get_cons] at hm;split at hm
 ·simp only [Option.some.injEq] at hm;subst hm;have hold:ARel K w ρ H (.own i) (ρ i):=.own i hi;exact hold.keeps (.refl K w) hkk
 ·exact (hf.heap.ok m hh hm).keeps (.refl hf.lt) hf.lt hkk
theorem zh2 (i:Nat) {t sz:Nat} {es es':List PV} (hi:H.get i=some (.mrow t sz es)) (e:es=es') (k:AW P n g c env ((i,.mrow t sz es')::H) QQ):AW P n g c env H QQ:=by
 subst e;refine ⟨fun a w hinv=>?_⟩;obtain ⟨g1,g2,K,ρ,hf,he⟩:=hinv;have heq:∀ m,HEnv.get ((i,.mrow t sz es)::H) m=H.get m:=by
  intro m;rw [HEnv.get_cons];split
  ·rename_i e;subst e;exact hi.symm
  ·rfl
 have hkk:∀ m,(H.get m).isSome=true->(HEnv.get ((i,.mrow t sz es)::H) m).isSome=true/\ρ m=ρ m:=fun m hm=>⟨by rw [heq];exact hm,rfl⟩
 refine k.go a w ⟨g1,g2,K,ρ,⟨hf.below,hf.old,hf.new,hf.lt,hf.others,hf.pt,fun m hh bb hm=>hf.away m hh bb (by rw [<-heq];exact hm),fun m hh hm=>?_,fun m m' hh hh' bb hmm hm hm'=>hf.heap.apart m m' hh hh' bb hmm (by rw [<-heq];exact hm) (by rw [<-heq];exact hm')⟩,he.keeps (.refl K w) hkk⟩;rw [heq] at hm;exact (hf.heap.ok m hh hm).keeps (.refl hf.lt) hf.lt hkk
theorem ACallM.tells {f:FuncId} {args args':List AV} {H':HEnv} {r:AV} {lone:Bool} (h:ACallM P f args H r H' lone) (hl:args'.length=args.length) (ht:∀ (k:Nat) (c c':AV),args[k]?=some c->args'[k]?=some c'->c'=c\/∃ p p',c=.pv p/\c'=.pv p'/\PTells p' p):ACallM P f args' H r H' lone :=
 ⟨h.stands,fun g K ρ w vs hw1 hf hv=>h.calls g K ρ w vs hw1 hf ⟨by rw [hv.1,hl],fun k c v hc hvv=>by
  have hlt:k < args'.length:=by rw [hl];exact (List.getElem?_eq_some_iff.1 hc).1
  have hr:=hv.2 k _ v (List.getElem?_eq_getElem hlt) hvv;rcases ht k c _ hc (List.getElem?_eq_getElem hlt) with e|⟨p,p',rfl,e,hp⟩
  ·rw [e] at hr;exact hr
  ·rw [e] at hr;cases hr with
   | pv _ _ hr=>exact .pv _ _ (hp _ _ _ hr)⟩⟩
end
end Go.Cg
namespace Go.Cg
theorem sM {Q P:Prop} (k:Q) (h:Q->P:=by
  intro k;first
  | exact zy rfl (zoG zf rfl rfl rfl rfl) rfl rfl k
  | exact zy rfl (zqc rfl rfl) rfl rfl k
  | exact zy rfl (zqS zf rfl rfl ⟨_,rfl⟩ rfl rfl) rfl rfl k
  | exact zq rfl (zoG zf rfl rfl rfl rfl) rfl rfl k
  | exact zq rfl (zqc rfl rfl) rfl rfl k
  | exact zq rfl (zqS zf rfl rfl ⟨_,rfl⟩ rfl rfl) rfl rfl k
  | fail):P:=h k
end Go.Cg
namespace Go.Cg
open Go.RowKit
section
variable {P:Program} {tb:Tab} {n:Nat} {g:Base} {K:KK} {w:World} {ρ:Nat->Value} {H:HEnv} {env:Env} {a:Act} {ops:List Oper} {o:Oper} {rest:List Oper} {Q:Env->HEnv->Prop} {QQ:QC} {c:Code}
theorem zjF {sz:Nat} (hz:0 < sz) {es ps:List PV} {xs vs:List Value} {off:Nat} (h:CellsRel K w sz es xs) (hp:CellsRel K w sz ps vs) (hx:xs.length=es.length * sz) (hv:vs.length=ps.length * sz) (ho:off + ps.length<=es.length) :
  CellsRel K w sz (es.take off++ps++es.drop (off + ps.length)) (xs.take (off * sz)++vs++xs.drop (off * sz + vs.length)):=by
 have hmul:off * sz + vs.length=(off + ps.length) * sz:=by rw [hv,Nat.add_mul]
 have hle:(off + ps.length) * sz<=xs.length:=by rw [hx];exact Nat.mul_le_mul_right sz ho
 intro i e he;rw [QA ho] at he;split at he
 ·rename_i h1;obtain ⟨c1,c2⟩:=h i e he;refine ⟨c1,fun k c hc=>?_⟩;have hk:k < sz:=by have:=(List.getElem?_eq_some_iff.1 hc).1;omega
  obtain ⟨v,v1,v2,v3⟩:=c2 k c hc;have hlt:i * sz + k < off * sz:=by
   have:=Nat.mul_le_mul_right sz (show i + 1<=off by omega);rw [Nat.add_mul] at this;omega
  exact ⟨v,by rw [QA zwy62,if_pos hlt];exact v1,v2,v3⟩
 ·split at he
  ·rename_i h1 h2;obtain ⟨c1,c2⟩:=hp (i - off) e he;refine ⟨c1,fun k c hc=>?_⟩;have hk:k < sz:=by have:=(List.getElem?_eq_some_iff.1 hc).1;omega
   obtain ⟨v,v1,v2,v3⟩:=c2 k c hc;have e1:(i - off) * sz + off * sz=i * sz:=by rw [<-Nat.add_mul];congr 1;omega
   have hlt:i * sz + k < off * sz + vs.length:=by
    have:=Nat.mul_le_mul_right sz (show i + 1<=off + ps.length by omega);rw [Nat.add_mul] at this;omega
   exact ⟨v,by rw [QA zwy62,if_neg zwy62,if_pos hlt,show i * sz + k - off * sz=(i - off) * sz + k by omega];exact v1,v2,v3⟩
  ·rename_i h1 h2;obtain ⟨c1,c2⟩:=h i e he;refine ⟨c1,fun k c hc=>?_⟩;obtain ⟨v,v1,v2,v3⟩:=c2 k c hc;have hge:off * sz + vs.length<=i * sz:=by rw [hmul];exact Nat.mul_le_mul_right sz zwy62
   exact ⟨v,by rw [QA zwy62,if_neg zwy62,if_neg zwy62];exact v1,v2,v3⟩
theorem FS.spliceZ (hf:FS g K ρ H w) {i e b cap off sz:Nat} {es ps:List PV} {cur:Array Value} {vs:List Value} (hi:H.get i=some (.mrow e sz es)) (hρ:ρ i=.slice (some ⟨b,0,none⟩) es.length cap) (hheap:w.heap[b]?=some (.cells cur e (0,0)))
  (hp:CellsRel K w sz ps vs) (hv:vs.length=ps.length * sz) (ho:off + ps.length<=es.length) {arr:Array Value} (harr:arr=(cur.toList.take (off * sz)++vs++cur.toList.drop (off * sz + vs.length)).toArray) :
  FS g K ρ ((i,.mrow e sz (es.take off++ps++es.drop (off + ps.length)))::H) (w.setRow b arr)/\Later K K w (w.setRow b arr):=by
 obtain ⟨xs,hown,h0,hcr,hnK⟩:=hf.heap.ok i _ hi;rcases hown.2 with ⟨hr,_⟩|⟨b',cap',cur',hr,hB,hheap',hec,hcap,hsize,htake⟩
 ·rw [hρ] at hr;simp at hr
 ·rw [hρ] at hr;simp only [Value.slice.injEq,Option.some.injEq,Addr.mk.injEq,and_true,true_and] at hr;obtain ⟨rfl,rfl⟩:=hr;rw [hheap] at hheap';simp only [Option.some.injEq,Obj.cells.injEq,and_true] at hheap';subst hheap';have hlen:(es.take off++ps++es.drop (off + ps.length)).length=es.length:=by rw [List.length_append,List.length_append,List.length_take,List.length_drop];omega
  have hgrow:w.grownBy (w.setRow b arr) (some b):=⟨rfl,rfl,rfl,by simp,fun k _ hk=>setRow_other w b k _ (fun e=>hk (by simp [e]))⟩
  have hnKb:∀ o,¬ K b o:=hnK b zwy115;have hlat:Later K K w (w.setRow b arr):=⟨fun _ _ h=>h,fun b' o hk=>by
   have:b'≠b:=by rintro rfl;exact hnKb o hk
   exact cell_setRow_other w b _ ⟨b',o,none⟩ this⟩
  have hxl:xs.length=es.length * sz:=hown.1;have hmul:off * sz + vs.length=(off + ps.length) * sz:=by rw [hv,Nat.add_mul]
  have hle:off * sz + vs.length<=es.length * sz:=by rw [hmul];exact Nat.mul_le_mul_right sz ho
  have hec':es.length * sz<=cur.size:=by rw [hsize];exact Nat.mul_le_mul_right sz hec
  have hkeep:∀ j,(H.get j).isSome=true->(HEnv.get ((i,.mrow e sz (es.take off++ps++es.drop (off + ps.length)))::H) j).isSome=true/\ρ j=ρ j:=by
   intro j hj;refine ⟨?_,rfl⟩;rw [HEnv.get_cons];split
   ·rfl
   ·exact hj
  refine ⟨⟨hf.below.grown hgrow hf.below.size (fun k hk=>by simp at hk;omega),hf.old,hf.new,fun b o hk=>by have:=hf.lt b o hk;simpa using this,hf.others.trans (zeC hheap hgrow),hf.pt.grown hf.old hgrow hlat (fun b2 hb2=>by cases hb2;exact hf.away i _ b hi rfl zwy115) (fun _ _ h=>.inl h),hf.away.set hi rfl,?_,?_⟩,hlat⟩
  ·intro j' e' hj;rw [HEnv.get_cons] at hj;split at hj
   ·rename_i e1;subst e1;simp only [Option.some.injEq] at hj;subst hj;refine ⟨xs.take (off * sz)++vs++xs.drop (off * sz + vs.length),⟨?_,.inr ⟨b,cap,arr,by rw [hρ,hlen],hB,setRow_heap w b cur _ e _ hheap,by rw [hlen];exact hec,hcap,?_,?_⟩⟩,h0,?_,fun b' hb'=>hnK b' hb'⟩
    ·rw [hlen,List.length_append,List.length_append,List.length_take,List.length_drop];omega
    ·rw [<-hsize,harr,List.size_toArray,List.length_append,List.length_append,List.length_take,List.length_drop,Array.length_toList];omega
    ·rw [hlen,harr,<-htake];have h9:cur.toList.length=cur.size:=by simp
     exact zg2 zwy62 zwy62
    ·have:=zjF (off:=off) h0 hcr hp hxl hv ho;intro i1 e1 he1;obtain ⟨c1,c2⟩:=this i1 e1 he1;exact ⟨c1,fun k c hc=>let ⟨v,v1,v2,v3⟩:=c2 k c hc;⟨v,v1,v2,v3.later hlat⟩⟩
   ·rename_i hne;by_cases hlive:e'.live=true
    ·have:=(hf.heap.ok j' e' hj).grown (f:=id) hgrow hlat (fun b o h=>.inl h) (fun av v h=>h.keeps hlat hkeep) hlive (fun b' hb' e'=>by
      simp at e';subst e';exact hf.heap.apart i j' _ _ b hne hi hj rfl hlive zwy115 hb')
     cases e' <;> exact this
    ·cases e' <;> simp [HE.live] at hlive
     ·trivial
     ·exact ARel.keeps hlat hkeep (hf.heap.ok j' _ hj)
  ·intro j' k' e1 e2 bb hjk hj hk' hlj hlk hbj hbk;have f1:∀ (j:Nat) (hh:HE),HEnv.get ((i,.mrow e sz (es.take off++ps++es.drop (off + ps.length)))::H) j=some hh->hh.live=true->∃ h0,H.get j=some h0/\h0.live=true:=by
    intro j hh hj hl;rw [HEnv.get_cons] at hj;split at hj
    ·rename_i e';subst e';exact ⟨_,hi,rfl⟩
    ·exact ⟨hh,hj,hl⟩
   obtain ⟨a1,a2,a3⟩:=f1 j' e1 hj hlj;obtain ⟨b1,b2,b3⟩:=f1 k' e2 hk' hlk;exact hf.heap.apart j' k' a1 b1 bb hjk a2 b2 a3 b3 hbj hbk
theorem zt0 (sz:Nat) {b n c l h:Nat}:cut sz (.slice (some ⟨b,0,none⟩) n c) l h=.slice (some ⟨b,l * sz,none⟩) (h - l) (c - l):=rfl
theorem zi9 (hf:FS g K ρ H w) {i j e sz:Nat} {u:Value} {es:List PV} (hi:H.get i=some (.mrow e sz es)) (hj:H.get j=some (.pin (.own i) u)) (h0:0 < es.length):u=ρ i/\∃ b cap,ρ i=.slice (some ⟨b,0,none⟩) es.length cap/\es.length<=cap:=by
 have hu:u=ρ i:=by
  have h9:ARel K w ρ H (.own i) u:=hf.heap.ok j _ hj;cases h9;rfl
 refine ⟨hu,?_⟩;obtain ⟨xs,hown,_,_,_⟩:=hf.heap.ok i _ hi;rcases hown.2 with ⟨_,hz⟩|⟨b,cap,cur,hr,_,_,hle,_,_,_⟩
 ·omega
 ·exact ⟨b,cap,hr,hle⟩
theorem Xl (htb:yZ P tb) {t e:Nat} {x y:Operand} {i j l h sz:Nat} {u:Value} {es:List PV} {kk:IntKind} {m:Int} (k:Nat) (hop:o.op=.indexAddr t x y) (hx:env.val x=some (.pv (.base (cut sz u l h)))) (hj:H.get j=some (.pin (.own i) u)) (hi:H.get i=some (.mrow e sz es))
  (hk:tb.k t=.sl e) (hke:tb.known e=true) (hsz:tb.size e=sz) (hy:env.pv H y=some (.base (.int kk m))) (hm:m=(k:Nat)) (hlt:l + k < h) (hh:h<=es.length):QStep P g H o env (.ad i ((l + k) * sz)):=by
 refine ⟨fun K ρ a w hf hv=>?_⟩;have hxr:=hv x zwy68 _ hx;have hyr:=qy (a:=a) hf (x:=y) (hv y zwy68) hy;generalize hxv:a.eval x=xv at hxr;generalize hyv:a.eval y=yv at hyr;obtain ⟨rfl,b,cap,hr,hcap⟩:=zi9 hf hi hj zwy62;subst hm;cases hyr;cases hxr with
 | pv _ _ hpr =>
  rw [hr,zt0] at hpr;cases hpr;have hko:tb.k e≠.oth:=by intro h;simp [Tab.known,h] at hke
  have hs:=run_sizeOf htb hko w;have hrun:(execOp a.eval o).run P w=.ok (.value (.pointer (some ⟨b,(l + k) * sz,none⟩))) w:=by
   have e1:l * sz + k * sz=(l + k) * sz:=by rw [Nat.add_mul]
   have hk2:k < h - l:=by omega
   simp [execOp,hop,hxv,hyv,Instr.indexAt,asIntOf,run_underlying (Zd htb hk),hs,hsz,Addr.add_lit,e1,hk2]
  rw [hrun];exact Yq hf (.ad i ((l + k) * sz) b es.length cap (by rw [hi];rfl) hr)
theorem zji (htb:yZ P tb) {ty e:Nat} {x:Operand} {i j l h sz:Nat} {u:Value} {es:List PV} (hop:o.op=.call { callee:=.builtin .len,args:=#[x],argTypes:=#[ty] }) (hx:env.val x=some (.pv (.base (cut sz u l h)))) (hj:H.get j=some (.pin (.own i) u)) (hi:H.get i=some (.mrow e sz es)) (hk:tb.k ty=.sl e) (h0:0 < es.length):QStep P g H o env (.pv (.base (.int .i64 ((h - l:Nat):Int)))):=by
 refine ⟨fun K ρ a w hf hv=>?_⟩;have hxr:=hv x zwy70 _ hx;generalize hxv:a.eval x=xv at hxr;obtain ⟨rfl,b,cap,hr,hcap⟩:=zi9 hf hi hj h0;cases hxr with
 | pv _ _ hpr =>
  rw [hr,zt0] at hpr;cases hpr;have hrun:(execOp a.eval o).run P w=.ok (.value (.int .i64 ((h - l:Nat):Int))) w:=by
   simp [execOp,hop,hxv,resolve,invoke,builtin,Builtin.len_,run_underlying (Zd htb hk),goInt]
  rw [hrun];exact Yq hf (.pv _ _ (.base _ rfl))
theorem zsS {sz:Nat} {es:List PV} {full:Bool} {b o cap h:Nat} (hh:h<=es.length) (hp:PRel K w (.slc sz es full) (.slice (some ⟨b,o,none⟩) es.length cap)):PRel K w (.slc sz (es.take h) false) (.slice (some ⟨b,o,none⟩) h cap):=by
 have hl:(es.take h).length=h:=by rw [List.length_take];omega
 generalize hes:es=es' at hp;generalize hn:es'.length=m at hp;have sub:∀ {i:Nat} {e:PV},(es.take h)[i]?=some e->es[i]?=some e:=fun {i e} hi=>by
  rw [List.getElem?_take] at hi;split at hi
  ·exact hi
  ·cases hi
 cases hp with
 | emp =>
  have:es=[]:=hes;subst this;simp at hl;subst hl;exact .emp sz false _
 | slc _ _ _ _ _ _ vss h0 h1 h2 h3 h4 h5 h6 =>
  subst hes;have:=PRel.slc (K:=K) (w:=w) sz (es.take h) false b o cap vss h0 zwy62 zwy63 zwy62 h4 (fun i e hi=>h5 i e (sub hi)) (fun i e k c v hi=>h6 i e k c v (sub hi))
  rwa [hl] at this
theorem zr1 {t i j e sz h:Nat} {u:Value} {es:List PV} {a:Act} {w:World} (ht:env.get t=some (.pv (.base (cut sz u 0 h)))) (hi:H.get i=some (.row e sz es)) (hj:H.get j=some (.pin (.own i) u)) (hh:h<=es.length) (h0:0 < es.length) (hinv:Inv n g env H a w):Inv n g ((t,.pv (.slc sz (es.take h) false))::env) H a w:=by
 obtain ⟨g1,g2,K,ρ,hf,he⟩:=hinv;refine ⟨g1,g2,K,ρ,hf,fun t' av hg=>?_⟩;rw [Env.get_cons] at hg;split at hg
 ·rename_i e1;subst e1;simp only [Option.some.injEq] at hg;subst hg;obtain ⟨v,h1,h2⟩:=he _ _ ht;refine ⟨v,h1,.pv _ _ ?_⟩;have hu:u=ρ i:=by
   have h9:ARel K w ρ H (.own i) u:=hf.heap.ok j _ hj;cases h9;rfl
  have hrow:=zdK hf hi (.own i (by rw [hi];rfl));obtain ⟨xs,hown,_,_,_⟩:=hf.heap.ok i _ hi;cases h2 with
  | pv _ _ hp =>
   rcases hown.2 with ⟨_,hz⟩|⟨b,cap,cur,hr,_,_,hle,_,_,_⟩
   ·omega
   ·rw [hu,hr] at hp;rw [hr] at hrow;cases hp;have:=zsS hh hrow;simpa [cut] using this
 ·exact he t' av hg
theorem zpU (htb:yZ P tb) {t e sz:Nat} {x:Operand} {i j l h:Nat} {u:Value} {es:List PV} {z:PV} {zv:Value} (hg:guardE ops env o=some true) (hop:o.op=.call { callee:=.builtin .clear,args:=#[x],argTypes:=#[t] }) (hk:tb.k t=.sl e)
  (hx:env.val x=some (.pv (.base (cut sz u l h)))) (hj:H.get j=some (.pin (.own i) u)) (hi:H.get i=some (.mrow e sz es)) (hlh:l<=h) (hh:h<=es.length) (h0:0 < es.length)
  (hz:tb.zero e=some zv) (hzz:zgz zv=some z) (hzc:zv.cells.size=sz) (hd:o.dst=none)
  (k:AO P n g ops.toArray rest env ((i,.mrow e sz (es.take l++List.replicate (h - l) z++es.drop (l + (h - l))))::H) Q):AO P n g ops.toArray (o::rest) env H Q:=by
 refine ⟨fun a w hinv=>?_⟩;have hw:=qx hinv hg;obtain ⟨g1,g2,K,ρ,hf,he⟩:=hinv;refine wpList_step fun KK hKK=>?_
 rw [if_pos hw];have hxr:=qO he hx;generalize hxv:a.eval x=xv at hxr;have hu:u=ρ i:=by
  have h9:ARel K w ρ H (.own i) u:=hf.heap.ok j _ hj;generalize hru:ρ i=ri;cases h9 with
  | own _ _=>exact hru
 subst hu;obtain ⟨xs,hown,hs0,hcr,hnK⟩:=hf.heap.ok i _ hi;have hzi:(zeroValue e).run P w=.ok zv w:=by
  have hz':=hz;unfold Tab.zero at hz';split at hz'
  ·rename_i ti hti;obtain ⟨tin,e1,_,_,e4,_⟩:=Ym htb hti;simp [zeroValue,typeInfo,e1,e4,hz']
  ·cases hz'
 obtain ⟨hzr,hznt⟩:=zjw (K:=K) (w:=w) hzz;have hzcr:=Qo hzr;have hzo:=cells_one hzr hznt;have hzl:z.cells.length=sz:=by rw [<-hzcr.1,<-hzc];simp
 have hlen:(Builtin.zeroCells zv.cells (h - l)).toList.length=(h - l) * sz:=by simp [Builtin.zeroCells,hzc]
 have hget:∀ m,m < (h - l) * sz->(Builtin.zeroCells zv.cells (h - l)).toList[m]?=zv.cells[m % sz]?:=by
  intro m hm;have hm2:m % sz < zv.cells.size:=by rw [hzc];exact Nat.mod_lt _ hs0
  simp only [Builtin.zeroCells,Array.toList_map,List.getElem?_map,hzc];rw [Array.toList_range,List.getElem?_range hm];simp [Array.getElem?_eq_getElem hm2,getElem!_pos zv.cells (m % sz) hm2]
 have hone:∀ v∈(Builtin.zeroCells zv.cells (h - l)).toList,v.oneCell'=true:=by
  intro v hv;obtain ⟨m,hm⟩:=List.getElem?_of_mem hv;have hlt:=(List.getElem?_eq_some_iff.1 hm).1;rw [hlen] at hlt;rw [hget m hlt] at hm;exact hzo v (Array.mem_toList_iff.2 (Array.mem_of_getElem? hm))
 have hrep:CellsRel K w sz (List.replicate (h - l) z) (Builtin.zeroCells zv.cells (h - l)).toList:=by
  intro m p hm;have hml:m < h - l:=by have:=(List.getElem?_eq_some_iff.1 hm).1;simpa using this
  have hpz:p=z:=by rw [List.getElem?_replicate,if_pos hml] at hm;simpa using hm.symm
  subst hpz;refine ⟨hzl,fun q c hc=>?_⟩;have hq:q < sz:=by have:=(List.getElem?_eq_some_iff.1 hc).1;omega
  have hlt:m * sz + q < (h - l) * sz:=by
   have:=Nat.mul_le_mul_right sz (show m + 1<=h - l by omega);rw [Nat.add_mul] at this;omega
  have hq2:q < zv.cells.size:=by omega
  refine ⟨zv.cells[q],?_,hzo _ (Array.mem_toList_iff.2 (Array.getElem_mem hq2)),hzcr.2 q c _ hc (by simp [hq2])⟩;rw [hget _ hlt,Nat.add_comm,Nat.add_mul_mod_self_right,Nat.mod_eq_of_lt hq];simp [hq2]
 cases hxr with
 | pv _ _ hpr =>
  cases hpr;rcases hown.2 with ⟨hr,hz0⟩|⟨b,cap,cur,hr,hB,hheap,hle,hcap,hsize,htake⟩
  ·omega
  ·obtain ⟨arr,harr⟩:∃ arr,arr=(cur.toList.take (l * sz)++(Builtin.zeroCells zv.cells (h - l)).toList++cur.toList.drop (l * sz + (Builtin.zeroCells zv.cells (h - l)).toList.length)).toArray:=⟨_,rfl⟩
   obtain ⟨hfs2,hlat⟩:=FS.spliceZ hf hi hr hheap hrep (by rw [hlen,List.length_replicate]) (by rw [List.length_replicate];omega) harr;rw [List.length_replicate] at hfs2;have hfit:l * sz + (Builtin.zeroCells zv.cells (h - l)).toList.length<=cur.size:=by
    rw [hlen,<-Nat.add_mul,hsize];exact Nat.mul_le_mul_right sz zwy62
   have hst:=run_storeCells_at P b (l * sz) e (Builtin.zeroCells zv.cells (h - l)).toList 0 cur w hheap zwy62 hone;simp only [Nat.add_zero] at hst;rw [<-harr] at hst;have hrun:(execOp a.eval o).run P w=.ok (.value (.tuple #[])) (w.setRow b arr):=by
    by_cases hz0:h - l=0
    ·have harr2:arr=cur:=by
      have:(Builtin.zeroCells zv.cells (h - l)).toList=[]:=List.eq_nil_of_length_eq_zero (by rw [hlen,hz0,Nat.zero_mul]);rw [harr,this];simp
     have hset:w.setRow b cur=w:=setRow_self w b cur e (0,0) hheap;rw [harr2,hset];simp [execOp,hop,hxv,hr,resolve,invoke,builtin,Builtin.clear_,run_underlying (Zd htb hk),cut,hz0]
    ·obtain ⟨m,hm⟩:∃ m,h - l=m + 1:=⟨h - l - 1,by omega⟩
     rw [hm] at hst;simp [execOp,hop,hxv,hr,resolve,invoke,builtin,Builtin.clear_,run_underlying (Zd htb hk),cut,hm,hzi,hst]
   unfold Oper.wp;rw [hrun];simp only [Oper.upon];have hd':a.put o.dst (.tuple #[])=a:=by rw [hd];rfl
   rw [hd'];refine hKK _ _ (k.go _ _ ⟨g1,g2,K,ρ,hfs2,he.keeps hlat fun m hm=>⟨by rw [HEnv.get_cons];split <;> first|rfl|exact hm,rfl⟩⟩)
end
section
variable {P:Program} {n:Nat} {g:Base} {H:HEnv} {env:Env} {c:Code} {QQ:QC} {ops l:List Oper} {Q:Env->HEnv->Prop}
end
section
variable {P:Program} {n:Nat} {g:Base} {K:KK} {w:World} {ρ:Nat->Value} {H:HEnv} {env:Env} {ops l:List Oper} {Q:Env->HEnv->Prop} {c:Code} {QQ:QC}
theorem zvS {j:Nat} {p:PV} {u:Value} (hf:FS g K ρ H w) (hj:H.get j=some (.pin (.pv p) u)):PRel K w p u:=by
 have:ARel K w ρ H (.pv p) u:=hf.heap.ok j _ hj;cases this with|pv _ _ h=>exact h
end
end Go.Cg
