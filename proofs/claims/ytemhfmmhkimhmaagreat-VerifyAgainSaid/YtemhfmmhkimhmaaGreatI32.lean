/- A part of the walks by abstract values: no statement of its own. -/
import Derived.Test.YtemhfmmhkimhmaaGreatI16
import Derived.Test.YtemhfmmhkimhmaaGreatI17
import Derived.Test.YtemhfmmhkimhmaaGreatI13
import Derived.Test.YtemhfmmhkimhmaaGreatI12
import Derived.Test.YtemhfmmhkimhmaaGreatI30
import Derived.Test.YtemhfmmhkimhmaaGreatI26
import Derived.Test.YtemhfmmhkimhmaaGreatI27
import Derived.Test.YtemhfmmhkimhmaaGreatI15
set_option linter.unusedVariables false
set_option linter.unusedSimpArgs false
namespace Go.Cg
open Go.RowKit
section
variable {P:Program} {tb:Tab} {n:Nat} {g:Base} {K:KK} {w:World} {ρ:Nat->Value} {H H0 H1 N N1:HEnv} {env:Env} {a:Act} {o:Oper} {r:AV} {c:Code} {QQ:QC} {ops l rest:List Oper} {Q:Env->HEnv->Prop}
theorem zjb (htb:yZ P tb) {ty e:Nat} {x y:Operand} {i:Nat} (j:Nat) {sz:Nat} {es xs:List PV} {full:Bool}
  (hop:o.op=.call { callee:=.builtin .append,args:=#[x,y],argTypes:=#[ty,ty] }) (hk:tb.k ty=.sl e) (hx:env.val x=some (.own i)) (hi:H.get i=some (.mrow e sz es)) (hj:H.get j=none) (hy:env.pv H y=some (.slc sz xs full))
  (hzz:(match tb.get e with|some ti=>(match ti.zero with|some z=>ti.size==sz&&z.cells.size==sz|none=>false)|none=>false)=true)
  (hbound:(es.length + xs.length) * (match tb.get e with|some ti=>ti.bytes|none=>0)<=140737488355328) (hb2:es.length + xs.length<=140737488355328) :
  EStepN P g H ((j,.mrow e sz (es++xs))::(i,.dead)::H) H ((j,.mrow e sz (es++xs))::(i,.dead)::H) o env (.own j) none:=by
 refine ⟨fun K ρ a w hf hv=>.inr ⟨rfl,?_⟩⟩;obtain ⟨v',w',K',hrun,hlat,hf'⟩:=zoU (a:=a) true htb hop hk hx hi hj hy hzz hbound hb2 hf hv;refine ⟨v',w',K',_,.inl hrun,hf',hlat,fun k hk=>?_,?_⟩
 ·have hne:k≠j:=by rintro rfl;simp [hj] at hk
  simp [hne]
 ·have:=ARel.own (K:=K') (w:=w') (ρ:=fun k=>if k=j then v' else ρ k) (H:=(j,HE.mrow e sz (es++xs))::(i,.dead)::H) j zwy108;simpa using this
theorem zvT (t j:Nat) {u:Value} {av:AV} (hg:env.get t=some (.pv (.base u))) (hj:H.get j=some (.pin av u)) (h:QStep P g H o ((t,av)::env) r):QStep P g H o env r:=by
 refine ⟨fun K ρ a w hf hv=>h.go K ρ a w hf fun x hx av' hav=>?_⟩;by_cases hxt:x=.tmp t
 ·subst hxt;have e1:Env.val ((t,av)::env) (.tmp t)=some av:=by simp [Env.val,Env.get_cons]
  rw [e1,Option.some.injEq] at hav;subst hav;have h1:=hv (.tmp t) hx (.pv (.base u)) hg;have h2:=hf.heap.ok j _ hj;generalize a.eval (.tmp t)=v at h1 ⊢;cases h1 with
  | pv _ _ hp=>cases hp;exact h2
 ·refine hv x hx av' ?_;cases x with
  | tmp t' =>
   have:t≠t':=fun e=>hxt (by rw [e])
   simpa [Env.val,Env.get_cons,this] using hav
  | _=>exact hav
theorem zlx (t j:Nat) {u:Value} {av:AV} {pan:Option Value} (hg:env.get t=some (.pv (.base u))) (hj:H0.get j=some (.pin av u)) (hN:Zz N av=true) (h:EStepN P g H0 H1 N N1 o ((t,av)::env) r pan):EStepN P g H0 H1 N N1 o env r pan:=by
 refine ⟨fun K ρ a w hf hv=>h.go K ρ a w hf fun x hx av' hav=>?_⟩;by_cases hxt:x=.tmp t
 ·subst hxt;have e1:Env.val ((t,av)::env) (.tmp t)=some av:=by simp [Env.val,Env.get_cons]
  rw [e1,Option.some.injEq] at hav;subst hav;have h1:=hv (.tmp t) hx (.pv (.base u)) hg;have h2:ARel K w ρ H0 av u:=hf.heap.ok j _ hj;generalize a.eval (.tmp t)=v at h1 ⊢;cases h1 with
  | pv _ _ hp=>cases hp;exact h2.refs hN
 ·refine hv x hx av' ?_;cases x with
  | tmp t' =>
   have:t≠t':=fun e=>hxt (by rw [e])
   simpa [Env.val,Env.get_cons,this] using hav
  | _=>exact hav
theorem zl3 {e:Env} (h:EStepN P g H0 H1 H0 H1 o e r none) (hk:qB N H0=true) (hr:Zz N1 r=true):EStepN P g H0 H1 N N1 o e r none:=by
 refine ⟨fun K ρ a w hf hv=>?_⟩;rcases h.go K ρ a w hf (fun x hx av hav=>(hv x hx av hav).keeps (.refl K w) fun j hj=>⟨ZN hk j hj,rfl⟩) with ⟨f,vs,h1,h2⟩|⟨_,v,w',K',ρ',h1,h2,h3,h4,h5⟩
 ·exact .inl ⟨f,vs,h1,h2.mono fun ex w' ⟨v,K',ρ',q1,q2,q3,q4,q5⟩=>⟨v,K',ρ',q1,q2,q3,fun j hj=>q4 j (ZN hk j hj),q5.refs hr⟩⟩
 ·exact .inr ⟨rfl,v,w',K',ρ',h1,h2,h3,fun j hj=>h4 j (ZN hk j hj),h5.refs hr⟩
theorem ztz {i j:Nat} (hf:FS g K ρ H w) (hi:(H.get i).isSome=true) (hj:H.get j=none):FS g K ρ ((j,.pin (.own i) (ρ i))::H) w:=by
 have hkk:∀ m,(H.get m).isSome=true->(HEnv.get ((j,.pin (.own i) (ρ i))::H) m).isSome=true/\ρ m=ρ m:=by
  intro m hm;refine ⟨?_,rfl⟩;rw [HEnv.get_cons];split <;> first|rfl|exact hm
 have hlive:∀ m hh,HEnv.get ((j,.pin (.own i) (ρ i))::H) m=some hh->hh.live=true->H.get m=some hh:=by
  intro m hh hm hl;rw [HEnv.get_cons] at hm;split at hm
  ·simp only [Option.some.injEq] at hm;subst hm;simp [HE.live] at hl
  ·exact hm
 refine ⟨hf.below,hf.old,hf.new,hf.lt,hf.others,hf.pt,fun m hh bb hm hl hb=>hf.away m hh bb (hlive m hh hm hl) hl hb,fun m hh hm=>?_,fun m m' hh hh' bb hmm hm hm' hl hl'=>hf.heap.apart m m' hh hh' bb hmm (hlive m hh hm hl) (hlive m' hh' hm' hl') hl hl'⟩;rw [HEnv.get_cons] at hm;split at hm
 ·simp only [Option.some.injEq] at hm;subst hm;exact .own i (hkk i hi).1
 ·exact (hf.heap.ok m hh hm).keeps (.refl hf.lt) hf.lt hkk
theorem zjZ {i j:Nat} {u:Value}:∀ m,(H.get m).isSome=true->(HEnv.get ((j,.pin (.own i) u)::H) m).isSome=true/\ρ m=ρ m:=by
 intro m hm;refine ⟨?_,rfl⟩;rw [HEnv.get_cons];split <;> first|rfl|exact hm
theorem own_base {i:Nat} {e sz:Nat} {es:List PV} (hf:FS g K ρ H w) (hi:H.get i=some (.mrow e sz es)):Xh (ρ i)=true:=by
 obtain ⟨us,hown,_⟩:=hf.heap.ok i _ hi;rcases hown.2 with ⟨h,_⟩|⟨b2,cap,cur,h,_⟩ <;> rw [h] <;> rfl
theorem zsB (t j:Nat) {i e sz:Nat} {es:List PV} (hg:env.get t=some (.own i)) (hi:H.get i=some (.mrow e sz es)) (hj:H.get j=none) (k:∀ u,AO P n g ops.toArray l ((t,.pv (.base u))::env) ((j,.pin (.own i) u)::H) Q):AO P n g ops.toArray l env H Q:=by
 refine ⟨fun a w hinv=>?_⟩;obtain ⟨g1,g2,K,ρ,hf,he⟩:=hinv;refine (k (ρ i)).go a w ⟨g1,g2,K,ρ,ztz hf (by rw [hi];rfl) hj,fun t' av' h'=>?_⟩;rw [Env.get_cons] at h';split at h'
 ·rename_i e1;subst e1;simp only [Option.some.injEq] at h';subst h';obtain ⟨v,v1,v2⟩:=he _ _ hg;cases v2 with
  | own _ _=>exact ⟨_,v1,.pv _ _ (.base _ (own_base hf hi))⟩
 ·obtain ⟨v,v1,v2⟩:=he t' av' h';exact ⟨v,v1,v2.keeps (.refl K w) zjZ⟩
theorem zmo (b k j:Nat) {i e sz:Nat} {es:List PV} {cs:List AV} (hb:H.get b=some (.cell (.agg cs))) (hk:cs[k]?=some (.own i)) (hi:H.get i=some (.mrow e sz es)) (hj:H.get j=none) (kk:∀ u,AW P n g c env ((b,.cell (.agg (cs.set k (.pv (.base u)))))::(j,.pin (.own i) u)::H) QQ):AW P n g c env H QQ:=by
 refine ⟨fun a w hinv=>?_⟩;obtain ⟨g1,g2,K,ρ,hf,he⟩:=hinv;have hbj:b≠j:=by rintro rfl;rw [hb] at hj;cases hj
 have hkk:∀ m,(H.get m).isSome=true->(HEnv.get ((b,.cell (.agg (cs.set k (.pv (.base (ρ i))))))::(j,.pin (.own i) (ρ i))::H) m).isSome=true/\ρ m=ρ m:=by
  intro m hm;refine ⟨?_,rfl⟩;rw [HEnv.get_cons];split
  ·rfl
  ·exact (zjZ (ρ:=ρ) m hm).1
 have h1:=ztz hf (i:=i) (j:=j) (by rw [hi];rfl) hj;have old:∀ m hh,HEnv.get ((b,.cell (.agg (cs.set k (.pv (.base (ρ i))))))::(j,.pin (.own i) (ρ i))::H) m=some hh->hh.live=true->∃ h2,HEnv.get ((j,.pin (.own i) (ρ i))::H) m=some h2/\h2.live=true:=by
  intro m hh hm hl;rw [HEnv.get_cons] at hm;split at hm
  ·rename_i e1;subst e1;exact ⟨.cell (.agg cs),by rw [HEnv.get_cons,if_neg (Ne.symm hbj)];exact hb,rfl⟩
  ·exact ⟨hh,hm,hl⟩
 refine (kk (ρ i)).go a w ⟨g1,g2,K,ρ,⟨hf.below,hf.old,hf.new,hf.lt,hf.others,hf.pt,fun m hh bb hm hl hbb=>?_,fun m hh hm=>?_,fun m m' hh hh' bb hmm hm hm' hl hl'=>?_⟩,fun t av ht=>?_⟩
 ·obtain ⟨h2,e2,l2⟩:=old m hh hm hl;exact h1.away m h2 bb e2 l2 hbb
 ·rw [HEnv.get_cons] at hm;split at hm
  ·rename_i e1;subst e1;simp only [Option.some.injEq] at hm;subst hm;obtain ⟨b',t,arr,u,q1,q2,q3,q4,q5,q6⟩:=hf.heap.ok b _ hb;refine ⟨b',t,arr,u,q1,q2,q3,?_,q5,q6⟩;cases q4 with
   | agg _ vs v1 v2 v3 =>
    refine .agg _ vs (by rw [List.length_set];exact v1) v2 fun k' c' v' hc' hv'=>?_
    rw [List.getElem?_set] at hc';split at hc'
    ·rename_i ek;subst ek;split at hc'
     ·simp only [Option.some.injEq] at hc';subst hc';have h3:=v3 k _ v' hk hv';cases h3 with
      | own _ _=>exact .pv _ _ (.base _ (own_base hf hi))
     ·cases hc'
    ·exact (v3 k' c' v' hc' hv').keeps (.refl K w) hkk
  ·have h3:=h1.heap.ok m hh hm;refine h3.keeps (.refl hf.lt) hf.lt fun q hq=>⟨?_,rfl⟩
   rw [HEnv.get_cons];split <;> first|rfl|exact hq
 ·obtain ⟨h2,e2,l2⟩:=old m hh hm hl;obtain ⟨h3,e3,l3⟩:=old m' hh' hm' hl';exact h1.heap.apart m m' h2 h3 bb hmm e2 e3 l2 l3
 ·obtain ⟨v,v1,v2⟩:=he t av ht;exact ⟨v,v1,v2.keeps (.refl K w) hkk⟩
theorem zmk (i j:Nat) {e sz:Nat} {es:List PV} {u:Value} (hi:H.get i=some (.row e sz es)) (hj:H.get j=some (.pin (.own i) u)) (k:AW P n g c env ((j,.pin (.pv (.slc sz es false)) u)::H) QQ):AW P n g c env H QQ:=by
 refine ⟨fun a w hinv=>?_⟩;obtain ⟨g1,g2,K,ρ,hf,he⟩:=hinv;have hkk:∀ m,(H.get m).isSome=true->(HEnv.get ((j,.pin (.pv (.slc sz es false)) u)::H) m).isSome=true/\ρ m=ρ m:=by
  intro m hm;refine ⟨?_,rfl⟩;rw [HEnv.get_cons];split <;> first|rfl|exact hm
 have hlive:∀ m hh,HEnv.get ((j,.pin (.pv (.slc sz es false)) u)::H) m=some hh->hh.live=true->H.get m=some hh:=by
  intro m hh hm hl;rw [HEnv.get_cons] at hm;split at hm
  ·simp only [Option.some.injEq] at hm;subst hm;simp [HE.live] at hl
  ·exact hm
 refine k.go a w ⟨g1,g2,K,ρ,⟨hf.below,hf.old,hf.new,hf.lt,hf.others,hf.pt,fun m hh bb hm hl hb=>hf.away m hh bb (hlive m hh hm hl) hl hb,fun m hh hm=>?_,fun m m' hh hh' bb hmm hm hm' hl hl'=>hf.heap.apart m m' hh hh' bb hmm (hlive m hh hm hl) (hlive m' hh' hm' hl') hl hl'⟩,fun t av ht=>?_⟩
 ·rw [HEnv.get_cons] at hm;split at hm
  ·simp only [Option.some.injEq] at hm;subst hm;exact .pv _ _ (zdK hf hi (hf.heap.ok j _ hj))
  ·exact (hf.heap.ok m hh hm).keeps (.refl hf.lt) hf.lt hkk
 ·obtain ⟨v,v1,v2⟩:=he t av ht;exact ⟨v,v1,v2.keeps (.refl K w) hkk⟩
theorem zht {a:Act} {K:KK} {w:World} {ρ:Nat->Value} {ty e:TypeId} {x y:Operand} {sz:Nat} {es xs:List PV} {full:Bool} (i:Nat) (htb:yZ P tb) (hop:o.op=.call { callee:=.builtin .append,args:=#[x,y],argTypes:=#[ty,ty] }) (hk:tb.k ty=.sl e)
  (hx:env.pv H x=some (.slc sz es true)\/(es=[]/\env.pv H x=some (.base (.slice none 0 0)))) (hy:env.pv H y=some (.slc sz xs full)) (hx0:0 < xs.length)
  (hzz:(match tb.get e with|some ti=>(match ti.zero with|some z=>ti.size==sz&&z.cells.size==sz&&Nat.blt 0 sz|none=>false)|none=>false)=true)
  (hbound:(es.length + xs.length) * (match tb.get e with|some ti=>ti.bytes|none=>0)<=140737488355328) (hb2:es.length + xs.length<=140737488355328) (hi:H.get i=none)
  (hf:FS g K ρ H w) (hv:∀ z∈o.op.operands,∀ av,env.val z=some av->ARel K w ρ H av (a.eval z)) :
  ∃ v' w' K',(execOp a.eval o).run P w=.ok (.value v') w'/\Later K K' w w'/\FS g K' (fun j=>if j=i then v' else ρ j) ((i,.mrow e sz (es++xs))::H) w':=by
 have hvx:∀ av,env.val x=some av->ARel K w ρ H av (a.eval x):=hv x zwy70;have hvy:∀ av,env.val y=some av->ARel K w ρ H av (a.eval y):=hv y zwy70;cases hti:tb.get e with
 | none=>simp [hti] at hzz
 | some ti =>
  cases hz:ti.zero with
  | none=>simp [hti,hz] at hzz
  | some z =>
   simp only [hti,hz,Bool.and_eq_true,beq_iff_eq] at hzz hbound;obtain ⟨⟨z1,z2⟩,z3⟩:=hzz;have hsz:0 < sz:=Nat.le_of_ble_eq_true z3;obtain ⟨tin,q1,q2,q3,q4,_⟩:=Ym htb hti;have hyr:=qy (a:=a) hf (x:=y) hvy hy;obtain ⟨news,n1,n2,n3,n4,n5⟩:=WV hyr;have hxr:PRel K w (.slc sz es true) (a.eval x):=by
    rcases hx with hx|⟨rfl,hx⟩
    ·exact qy (a:=a) hf (x:=x) hvx hx
    ·have:=qy (a:=a) hf (x:=x) hvx hx;generalize a.eval x=xv at this ⊢;cases this;exact .nil sz true
   obtain ⟨us,m1,m2,m3,m4,m5⟩:=WV hxr;have hall:(us++news).length=(es.length + xs.length) * sz:=by rw [List.length_append,m1,n1,Nat.add_mul]
   have hone:∀ v∈us++news,v.oneCell'=true:=fun v hv'=>(List.mem_append.1 hv').elim (m3 v) (n3 v)
   have hcr:=m4.append m1 n4;have hsmall:es.length + xs.length<=9223372036854775807:=by omega
   have hrun0:∀ {v':Value} {w':World},(Builtin.append_ #[ty,ty] o.type #[a.eval x,a.eval y]).run P w=.ok v' w'->(execOp a.eval o).run P w=.ok (.value v') w':=by
    intro v' w' h;simp [execOp,hop,resolve,invoke,builtin,h]
   have hns:tin.size=sz:=by omega
   obtain ⟨cap,arr,hc1,hc2,hsize,htake,hrun⟩:∃ (cap:Nat) (arr:Array Value),es.length + xs.length<=cap/\cap<=maxLen/\arr.size=cap * sz/\arr.toList.take ((es.length + xs.length) * sz)=us++news /\
     (execOp a.eval o).run P w=.ok (.value (.slice (some ⟨w.heap.size,0,none⟩) (es.length + xs.length) cap)) (w.drew.alloc (.cells arr e)):=by
    rcases n2 with ⟨hy0,hxl⟩|⟨ad',c',hy1,hy2,_,hxc⟩
    ·omega
    ·rcases m2 with ⟨e1,hel⟩|⟨ad1,c1,e1,e2,hfull,hle⟩
     ·have hes:es=[]:=List.eq_nil_of_length_eq_zero hel;subst hes;have hus:us=[]:=List.eq_nil_of_length_eq_zero (by simpa using m1);subst hus;have hr:=run_append_nil (P:=P) w ty o.type e tin z (Zd htb hk) q1 zwy110 ad' xs.length c' news zwy117 hy2 zwy62 (by simp at hsmall;omega) (by rw [q3];simp at hbound;omega);refine ⟨grownCap w xs.length 0 e,news.toArray++Builtin.zeroCells z.cells (grownCap w xs.length 0 e - xs.length),by simpa using grownCap_ge w xs.length 0 e,grownCap_le_maxLen w _ _ e (by unfold maxLen;simp at hsmall;omega),?_,?_,?_⟩
      ·have:=grownCap_ge w xs.length 0 e;simp only [Array.size_append,List.size_toArray,size_zeroCells,n1,z2];rw [<-Nat.add_mul];first|done|(congr 1;omega)
      ·rw [Array.toList_append];simp only [List.length_nil,Nat.zero_add,List.nil_append];rw [<-n1,List.take_left' rfl]
      ·rw [hrun0 zwy109];simp
     ·have hc1:c1=es.length:=hfull rfl;subst hc1;have hr:=run_append_grow (P:=P) w ty o.type e tin z (Zd htb hk) q1 zwy110 ad1 es.length es.length us (by rw [hns];exact m1) e2 ad' xs.length c' news zwy117 hy2 zwy62 zwy62 (growslice_fits zwy62 (by rw [q3];exact hbound));refine ⟨grownCap w (es.length + xs.length) es.length e,us.toArray++news.toArray++Builtin.zeroCells z.cells (grownCap w (es.length + xs.length) es.length e - (es.length + xs.length)),grownCap_ge w _ _ e,grownCap_le_maxLen w _ _ e zwy111,?_,?_,?_⟩
      ·have:=grownCap_ge w (es.length + xs.length) es.length e;simp only [Array.size_append,List.size_toArray,size_zeroCells,n1,m1,z2];rw [<-Nat.add_mul,<-Nat.add_mul];first|done|(congr 1;omega)
      ·rw [Array.toList_append,Array.toList_append];rw [<-hall,List.take_left' zwy63]
      ·rw [hrun0 zwy109]
   have hevd:Evo K K w w.drew:=(Evo.refl hf.lt).drew;have h4:=zaN (w:=w.drew) hevd.lt arr e 0;have h3:Evo K K w.drew (w.drew.alloc (.cells arr e)):=⟨h4.below,fun _ _ h=>h,fun _ _ h=>.inl h,fun b o h=>h4.lt b o (h4.sub b o h)⟩
   have hev:=hevd.trans h3;have hlat:=hev.later hf.lt;have hds:w.drew.heap.size=w.heap.size:=rfl;refine ⟨_,_,_,hrun,hlat,hf.fresh hev hi ⟨us++news,⟨?_,.inr ⟨w.heap.size,cap,arr,?_,hf.below.size,?_,?_,hc2,hsize,?_⟩⟩,hsz,?_,?_⟩ ?_⟩
   ·rw [hall,List.length_append]
   ·simp
   ·have:=heap_alloc_new w.drew (.cells arr e);rw [hds] at this;exact this
   ·rw [List.length_append];exact hc1
   ·rw [List.length_append];exact htake
   ·intro k e' he';obtain ⟨r1,r2⟩:=hcr k e' he';exact ⟨r1,fun k c hc=>let ⟨v,e1,e2,e3⟩:=r2 k c hc;⟨v,e1,e2,e3.later hlat⟩⟩
   ·intro b hb o' h;simp [Value.ownBlock] at hb;have:=hf.lt _ _ h;omega
   ·intro b hb;simp [yE] at hb;omega
theorem ziq {ty e:TypeId} {x y:Operand} {sz d:Nat} {es xs:List PV} {full:Bool} (i:Nat) (htb:yZ P tb) (hg:guardE ops env o=some true) (hop:o.op=.call { callee:=.builtin .append,args:=#[x,y],argTypes:=#[ty,ty] }) (hk:tb.k ty=.sl e)
  (hx:env.pv H x=some (.slc sz es true)\/(es=[]/\env.pv H x=some (.base (.slice none 0 0)))) (hy:env.pv H y=some (.slc sz xs full)) (hx0:0 < xs.length)
  (hzz:(match tb.get e with|some ti=>(match ti.zero with|some z=>ti.size==sz&&z.cells.size==sz&&Nat.blt 0 sz|none=>false)|none=>false)=true)
  (hbound:(es.length + xs.length) * (match tb.get e with|some ti=>ti.bytes|none=>0)<=140737488355328) (hb2:es.length + xs.length<=140737488355328) (hi:H.get i=none) (hd:o.dst=some d) (ht:Nat.blt d n=true)
  (h:AO P n g ops.toArray rest ((d,.own i)::env) ((i,.mrow e sz (es++xs))::H) Q):AO P n g ops.toArray (o::rest) env H Q:=by
 refine ⟨fun a w hinv=>?_⟩;have hw:=qx hinv hg;obtain ⟨h1,h2,K,ρ,hf,he⟩:=hinv;refine wpList_step fun KK hKK=>?_
 rw [if_pos hw];obtain ⟨v',w',K',hrun,hlat,hf'⟩:=zht (a:=a) i htb hop hk hx hy hx0 hzz hbound hb2 hi hf (fun z _ av hz=>qO he hz);unfold Oper.wp;rw [hrun];simp only [Oper.upon];refine hKK _ _ (h.go _ _ ⟨Zy h1,put_defers h2,_,_,hf',?_⟩);rw [hd];refine Yg h1 ht (he.keeps hlat (Zg hi _ _)) ?_;have:=ARel.own (K:=K') (w:=w') (ρ:=fun j=>if j=i then v' else ρ j) (H:=(i,HE.mrow e sz (es++xs))::H) i zwy108;simpa using this
end
section
variable {P:Program} {n:Nat} {g:Base} {H:HEnv} {env:Env} {ops l:List Oper} {Q:Env->HEnv->Prop}
end
end Go.Cg
namespace Go.Cg
open Go.Proofs
def BdS {α:Type} (max:Int) (act:SM α):Prop:=∀ l a l',act l=.ok (a,l')->((l'.length:Int)<=max\/l'.length<=l.length)/\l'.length<=l.length + 1
theorem zfv {α:Type} {max:Int} {act:SM α} (h:LeS act):BdS max act:=fun l a l' hx=>⟨.inr (h l a l' hx),by have:=h l a l' hx;omega⟩
theorem Xt {α β:Type} {max:Int} {x:SM α} {f:α->SM β} (hx:LeS x) (hf:∀ a,BdS max (f a)):BdS max (x >>= f):=fun l b l' h=>by
 rw [zB] at h;cases hxl:x l with
 | error e=>rw [hxl] at h;cases h
 | ok p =>
  obtain ⟨a,l1⟩:=p;rw [hxl] at h;have h1:=hf a l1 b l' h;have h2:=hx l a l1 hxl;exact ⟨h1.1.imp (fun h=>h) (fun h=>by omega),by omega⟩
theorem zif (max:Int) (t:Ty):BdS max (qg max [t]):=fun l a l' h=>by
 unfold qg at h;split at h
 ·rename_i hm;cases h;simp at hm ⊢;omega
 ·cases h
theorem zxb (max:Int):BdS max (do let t <-Qp;qg max [t,t]):=fun l a l' h=>by
 rcases YL l with e|⟨t,l1,e,e2⟩
 ·rw [zge e] at h;cases h
 ·rw [zxD e] at h;unfold qg at h;split at h
  ·rename_i hm;cases h;subst e2;simp at hm ⊢;omega
  ·cases h
theorem zuo:LeS zcH:=fun l a l' h=>by cases h;simp
theorem zpn:LeS ZO:=fun l a l' h=>zby h
theorem one_le:LeS zdf:=fun l a l' h=>ze4 h
theorem zkG:LeS ZC:=fun l a l' h=>zeB h
theorem zvv (x:Ins) (ls:List Ty):LeS (zbc x ls):=fun l a l' h=>zbj h
theorem zj7 (g:Img) (f:Fd) (it:Bool):LeS (Zt g f it):=fun l a l' h=>zcM h
theorem zt6 (x:Ins):LeS (Vk x):=fun l a l' h=>zcc h
theorem zo3 (max:Int) (t:Ty):BdS max (QV max t):=Xt (VE _ _) fun _=>zif _ _
theorem zrl (max:Int) (c:Me):BdS max (YV max c):=by
 unfold YV;split
 ·exact zif _ _
 ·exact zfv (zcp _)
theorem zwG {α:Type} {max:Int} {p:Prop} [Decidable p] {x y:SM α} (hx:BdS max x) (hy:BdS max y):BdS max (if p then x else y):=by split <;> assumption
theorem zwy (g:Img) (ar:List Ty) (m:Me) (x:Ins):BdS m.max (doS g ar m x):=by
 unfold doS Zb qG ZR qJ yG Ze yJ yC yx ZP yN
 try dsimp only
 repeat' (first|with_reducible exact zif _ _|with_reducible exact zxb _|with_reducible exact zfv (zcp _)|with_reducible exact zfv (VE _ _)|with_reducible exact zfv (zkZ _ _)|with_reducible exact zfv (zi1 _ _)|with_reducible exact zfv (zj7 _ _ _)|with_reducible exact zfv zkG|with_reducible exact zfv zuo|with_reducible exact zo3 _ _|with_reducible exact zrl _ _|with_reducible exact zfv zbQ|with_reducible refine Xt (zcp _) fun _=>?_|with_reducible refine Xt (VE _ _) fun _=>?_|with_reducible refine Xt (zbQ) fun _=>?_|with_reducible refine Xt (zkZ _ _) fun _=>?_|with_reducible refine Xt (zi1 _ _) fun _=>?_|with_reducible refine Xt (zpn) fun _=>?_|with_reducible refine Xt (one_le) fun _=>?_|with_reducible refine Xt (zkG) fun _=>?_|with_reducible refine Xt (zvv _ _) fun _=>?_|with_reducible refine Xt (zj7 _ _ _) fun _=>?_|with_reducible refine Xt (zt6 _) fun _=>?_|with_reducible refine Xt (empty_le _) fun _=>?_|with_reducible refine zwG ?_ ?_|split|dsimp only)
def Zh (c:List Pt) (at_:Int):Nat:=(c.takeWhile fun x=>x.p==1&&x.f==at_).length
def zxd (x y:Pt):Bool:=x.c==y.c&&(x.p==y.p&&true)
def zaT:List Pt->List Pt->Bool
 | [],[]=>true
 | x::a,y::b=>zxd x y&&zaT a b
 | _,_=>false
def zjN (b:List Pt) (to:Int) (a:List Pt):Bool:=(List.range (Zh b to + 1)).any fun k=>zaT (b.drop k) a
def zc3 (l:List Cl) (i to:Int):Bool:=zjN (qL l to) to (qL l i)
def zxl (l:List Cl) (r:Pt):Bool:=r.p==3||r.p==2&&(l.getD r.c.toNat default).kind != 1&&(l.getD r.c.toNat default).kind != 2
def VH (l:List Cl) (b:List Pt) (to:Int):List Pt->Bool
 | []=>zjN b to []
 | r::a=>if zjN b to (r::a) then true else if zxl l r then false else VH l b to a
def zjc (l:List Cl) (i to:Int):Bool:=VH l (qL l to) to (qL l i)
def Qw (m:Me) (i:Int):Int:=if decide (1<=(qj m i).op)&&decide ((qj m i).op<=75) then (ofI (qj m i).op).2.2 else 0
def opV (m:Me) (i:Int):Int:=if decide (i < 0)||decide ((m.code.length:Int)<=i) then 0 else (qj m i).op
def zb2 (w:Int):Bool:=w==0||w==2
def Vh (w:Int):Bool:=w==1||(w==2||w==4)
def onV (m:Me) (i:Int):Int :=
 if zb2 (Qw m i)&&!decide (i + 1 < (m.code.length:Int)) then 11
 else if zb2 (Qw m i)&&!zc3 m.clauses i (i + 1) then 12
 else if !Vh (Qw m i) then 0
 else if Qw m i==4 then (if zjc m.clauses i (qj m i).arg then 0 else 12)
 else if zc3 m.clauses i (qj m i).arg then 0 else 12
def clV (m:Me) (r:Pt):Cl:=m.clauses.getD r.c.toNat default
def XT (m:Me) (r:Pt) (a b:Int):Bool:=r.p==2&&((clV m r).kind==a||(clV m r).kind==b)
def Zf (m:Me) (i:Int):Int :=
 if opV m i==46 then (if (qL m.clauses i).isEmpty then 0 else 12)
 else if opV m i==70 then (match (qL m.clauses i).find? (fun r=>r.p != 1) with|none=>12|some r=>if XT m r 1 2 then 0 else 12)
 else if opV m i==72 then (match qL m.clauses i with|[]=>12|r::_=>if XT m r 3 4 then 0 else 12)
 else if opV m i==73 then (match qL m.clauses i with|[]=>12|r::_=>if r.p==3&&(clV m r).hf==i + 1 then 0 else 12)
 else 0
def Xd (g:Img) (m:Me) (i:Int):Me:=mAt g (qj m (i + 1)).arg
def tailV (g:Img) (m:Me) (i:Int):Int :=
 if opV m i != 47 then 0
 else if !((opV m (i + 1)==43||opV m (i + 1)==44)&&opV m (i + 2)==46&&(qL m.clauses i).isEmpty) then 11
 else if !tyB (Xd g m i).ret m.ret then 10
 else if (Qs g (Xd g m i)).any (fun t=>t.ref) then 13 else 0
def QJ (m:Me) (i:Int):Int:=if opV m i==68&&opV m (i - 1) != 67 then 11 else 0
def YT (g:Img) (m:Me) (i:Int):Int :=
 if onV m i != 0 then onV m i else if Zf m i != 0 then Zf m i else if tailV g m i != 0 then tailV g m i else QJ m i
def zcn (m:Me):Bool:=!(qL m.clauses 0).any fun r=>r.p != 1||(clV m r).tf != 0
def zbf (g:Img) (m:Me):Int × Int :=
 match (List.range m.code.length).find? (fun i:Nat=>YT g m i != 0) with
 | some i=>(((i:Nat):Int),YT g m i)
 | none=>if zcn m then (0,0) else (0,12)
structure VS where
 st:List (List Ty)
 kn:List Bool
 wk:Int
def qo (i:Int) (l:List Ty) (s:VS):VS:=⟨s.st.set i.toNat l,s.kn.set i.toNat true,s.wk⟩
def YO (s:VS) (c:Cl):VS :=
 if c.kind==1 then qo c.hf [c.t] s
 else if c.kind==2 then qo c.filter [⟨4,0,0,false⟩] (qo c.hf [⟨4,0,0,false⟩] s)
 else qo c.hf [] s
def zbd (m:Me):VS:=m.clauses.foldl YO (qo 0 [] ⟨List.replicate m.code.length [],List.replicate m.code.length false,0⟩)
def zdO (m:Me) (i to:Int):Bool:=m.clauses.any fun c=>c.tf==to&&(decide (i < c.tf)||decide (c.tt<=i))
def Xe (s:VS) (i:Int):List Ty:=s.st.getD i.toNat []
def toV (g:Img) (m:Me) (i to:Int) (l:List Ty) (s:VS):Except Int VS :=
 if !(l.isEmpty||!zdO m i to) then .error 9
 else if decide (to<=i) then (if zcu g l (Xe s to) then .ok { s with wk:=s.wk + (1 + l.length) } else .error 14)
 else if !s.kn.getD to.toNat false then .ok (qo to l { s with wk:=s.wk + (1 + l.length) })
 else if (Yt g (Xe s to) l).2==0 then .ok { s with st:=s.st.set to.toNat (Yt g (Xe s to) l).1,wk:=s.wk + (1 + l.length) }
 else .error (Yt g (Xe s to) l).2
def zec (g:Img) (m:Me) (i:Int) (l:List Ty) (s:VS):Except Int VS :=
 match (if zb2 (Qw m i) then toV g m i (i + 1) l s else .ok s) with
 | .error e=>.error e
 | .ok s'=>if Vh (Qw m i) then toV g m i (qj m i).arg l s' else .ok s'
def zch (g:Img) (k:Int) (i:Int) (s:VS):Except Int VS :=
 match stepS g k i (Xe s i) with
 | .error e=>.error e
 | .ok p=>zec g (mAt g k) i p.2 { s with kn:=s.kn.set i.toNat true,wk:=s.wk + 1 }
def goV (g:Img) (k:Int):Nat->Nat->VS->Except (Int × Int) VS
 | 0,_,s=>.ok s
 | f + 1,i,s=>match zch g k i s with|.error e=>.error (((i:Nat):Int),e)|.ok s'=>goV g k f (i + 1) s'
def QD (g:Img) (k:Int):Except (Int × Int) VS :=
 if (zbf g (mAt g k)).2 != 0 then .error (zbf g (mAt g k)) else goV g k (mAt g k).code.length 0 (zbd (mAt g k))
structure OkV (n:Nat) (s:VS):Prop where
 len:s.st.length=n
 st:∀ l∈s.st,l.length<=12
theorem zdM {s:VS} {n:Nat} (h:OkV n s) (i:Int):(Xe s i).length<=12:=by
 unfold Xe;rw [List.getD_eq_getElem?_getD];cases hs:s.st[i.toNat]? with
 | none=>simp
 | some l=>exact h.st l (List.mem_of_getElem? hs)
theorem zep {n:Nat} {s:VS} (h:OkV n s) {l:List Ty} (hl:l.length<=12) (i:Nat) (kn:List Bool) (wk:Int):OkV n ⟨s.st.set i l,kn,wk⟩ :=
 ⟨by simp [h.len],fun x hx=>by
  rcases List.mem_or_eq_of_mem_set hx with hx|hx
  ·exact h.st x hx
  ·rw [hx];exact hl⟩
theorem zv8 {n:Nat} {s:VS} (h:OkV n s) (c:Cl):OkV n (YO s c):=by
 unfold YO;split
 ·exact zep h zwy63 _ _ _
 ·split
  ·exact zep (s:=qo c.hf [⟨4,0,0,false⟩] s) (zep h zwy63 _ _ _) zwy63 _ _ _
  ·exact zep h zwy63 _ _ _
theorem znj {n:Nat}:∀ (l:List Cl) {s:VS},OkV n s->OkV n (l.foldl YO s)
 | [],_,h=>h
 | c::l,_,h=>znj l (zv8 h c)
theorem zos:∀ (l:List Cl) (s:VS),(l.foldl YO s).wk=s.wk
 | [],_=>rfl
 | c::l,s=>by
  rw [List.foldl_cons,zos l];unfold YO;split
  ·rfl
  ·split <;> rfl
theorem ztZ (m:Me):OkV m.code.length (zbd m)/\(zbd m).wk=0 :=
 ⟨znj _ (zep ⟨by simp,fun l hl=>by rw [List.eq_of_mem_replicate hl];simp⟩ zwy63 _ _ _),by rw [zbd,zos];rfl⟩
theorem zl9 (g:Img):∀ (a b out:List Ty),a.length=b.length->(zeq g a b out).2=0->(zeq g a b out).1.length=out.length + a.length
 | [],[],out,_,_=>by simp [zeq]
 | x::a,y::b,out,h,h2=>by
  rw [zeq] at h2 ⊢;split at h2
  ·rename_i h3;simp at h3;exact absurd h2 h3
  ·rename_i h3;rw [if_neg h3,zl9 g a b _ zwy102 h2];simp;omega
 | [],_::_,_,h,_=>by simp at h
 | _::_,[],_,h,_=>by simp at h
theorem zoB {g:Img} {a b:List Ty} (h:(Yt g a b).2=0):(Yt g a b).1.length=a.length:=by
 unfold Yt at h ⊢;split
 ·rename_i h1;rw [if_pos h1] at h;simp at h
 ·rename_i h1;rw [if_neg h1] at h;rw [zl9 g a b [] zwy98 h];simp
theorem zte {g:Img} {m:Me} {i to:Int} {l:List Ty} {n:Nat} {s s':VS} (h:OkV n s) (hl:l.length<=12) (ht:toV g m i to l s=.ok s'):OkV n s'/\s'.wk=s.wk + (1 + l.length):=by
 unfold toV at ht;split at ht
 ·cases ht
 ·split at ht
  ·split at ht
   ·cases ht;exact ⟨⟨h.len,h.st⟩,rfl⟩
   ·cases ht
  ·split at ht
   ·cases ht;exact ⟨zep h hl _ _ _,rfl⟩
   ·split at ht
    ·rename_i he;cases ht;exact ⟨zep h (by rw [zoB (by simpa using he)];exact zdM h to) _ _ _,rfl⟩
    ·cases ht
theorem zvz {g:Img} {m:Me} {i:Int} {l:List Ty} {n:Nat} {s s':VS} (h:OkV n s) (hl:l.length<=12) (ht:zec g m i l s=.ok s'):OkV n s'/\s.wk<=s'.wk/\s'.wk<=s.wk + 26:=by
 unfold zec at ht;split at ht
 ·cases ht
 ·rename_i s1 h1;have k1:OkV n s1/\s.wk<=s1.wk/\s1.wk<=s.wk + 13:=by
   split at h1
   ·obtain ⟨a,b⟩:=zte h hl h1;exact ⟨a,by omega,by omega⟩
   ·cases h1;exact ⟨h,by omega,by omega⟩
  split at ht
  ·obtain ⟨a,b⟩:=zte k1.1 hl ht;exact ⟨a,by omega,by omega⟩
  ·cases ht;exact ⟨k1.1,by omega,by omega⟩
theorem zwO {g:Img} {k i:Int} {n:Nat} {s s':VS} (hm:(mAt g k).max<=12) (h:OkV n s) (ht:zch g k i s=.ok s'):OkV n s'/\s.wk + 1<=s'.wk/\s'.wk<=s.wk + 27:=by
 unfold zch at ht;split at ht
 ·cases ht
 ·rename_i p hp;obtain ⟨⟨⟩,l2⟩:=p;have hb:=(zwy g (Qs g (mAt g k)) (mAt g k) (qj (mAt g k) i) _ _ _ hp).1;have hg:=zdM h i;obtain ⟨a,b,c⟩:=zvz (s:={ s with kn:=s.kn.set i.toNat true,wk:=s.wk + 1 }) ⟨h.len,h.st⟩ (show l2.length<=12 by rcases hb with hb|hb <;> omega) ht;exact ⟨a,by simpa using b,by simp only at c;omega⟩
set_option maxHeartbeats 20000000
theorem zhe (c:List Pt) (at_:Int):Zh c at_<=c.length:=by
 unfold Zh;induction c with
 | nil=>simp
 | cons x c ih=>rw [List.takeWhile_cons];split <;> simp;omega
theorem zjU (x:Pt) (c:List Pt) (at_:Int):Zh (x::c) at_=if x.p==1&&x.f==at_ then Zh c at_ + 1 else 0:=by
 unfold Zh;rw [List.takeWhile_cons];split <;> simp
theorem zfg (c:List Pt) (at_:Int) (hl:c.length<=1000):ACall Tryz.prog 159 [pts c,pi at_] (pi (Zh c at_)):=by
 refine zh zf Tryz.func159 rfl zws Tryz.ntmps159 zwy63 _ rfl (fun hw gB hgB=>?_)
 repeat' (first|refine sA ?_|refine sC (fun _=>?_) (fun _=>?_)|fail)
 refine zL (fun k:Nat=>[(0,.pv (pts c)),(1,.pv (pi at_)),(5,.pv (pi k))]) (fun _=>[]) (fun k=>k<=c.length/\Zh c at_=k + Zh (c.drop k) at_) (fun k=>c.length - k) 0 ⟨by omega,by simp⟩ (tS) tH ?_;rintro k ⟨hk,hr⟩;by_cases hlt:k < c.length
 ·have he:=zS (f:=yT) hlt;have hd:decide (((k:Nat):Int) < (((c.map yT).length:Nat):Int))=true:=decide_eq_true zwy64;rw [drop_cons hlt,zjU] at hr;generalize c[k]=x at he hr;cases h1:(x.p==1)
  ·rw [h1] at hr
   repeat' (first|(refine shX ?_;first|refine qX he ?_)|refine sK ?_|refine sC (fun _=>?_) (fun _=>?_)|fail)
   all_goals (refine ak ?_;simp [zn,hr])
  ·cases h2:(x.f==at_)
   ·rw [h1,h2] at hr
    repeat' (first|(refine shX ?_;first|refine qX he ?_)|refine sK ?_|refine sC (fun _=>?_) (fun _=>?_)|fail)
    all_goals (refine ak ?_;simp [zn,hr])
   ·rw [h1,h2] at hr
    repeat' (first|(refine shX ?_;first|refine qX he ?_)|refine sK ?_|refine sC (fun _=>?_) (fun _=>?_)|fail)
    all_goals exact ⟨k + 1,⟨hlt,by rw [hr];simp;omega⟩,tD,tS,tH⟩
 ·have hd:decide (((k:Nat):Int) < (((c.map yT).length:Nat):Int))=false:=decide_eq_false zwy64;rw [drop_end zwy62] at hr
  repeat' (first|refine sK ?_|refine sC (fun _=>?_) (fun _=>?_)|fail)
  have hz:Zh c at_=k:=hr;all_goals (refine ak ?_;rw [hz];rfl)
theorem zp0 (x y:Pt):ACall Tryz.prog 212 [yT x,yT y] (pb (zxd x y)):=by
 refine zh zf Tryz.func212 rfl zws Tryz.ntmps212 zwy63 _ rfl (fun hw gB hgB=>?_)
 repeat' (first|refine sA ?_|refine sC (fun _=>?_) (fun _=>?_)|fail)
 exact retq rfl rfl
theorem zkb:∀ {a b:List Pt},a.length≠b.length->zaT a b=false
 | [],[],h=>by simp at h
 | [],_::_,_=>rfl
 | _::_,[],_=>rfl
 | x::a,y::b,h=>by rw [zaT,zkb (a:=a) (b:=b) zwy102,Bool.and_false]
theorem zoI (a b:List Pt) (hl:a.length<=1000):ACall Tryz.prog 211 [pts a,pts b,.fn (.func 212) [] []] (pb (zaT a b)):=by
 refine zh zf Tryz.func211 rfl zws Tryz.ntmps211 zwy63 _ rfl (fun hw gB hgB=>?_);by_cases hlen:a.length=b.length
 ·have hc:((((a.map yT).length:Nat):Int) != (((b.map yT).length:Nat):Int))=false:=by simp [hlen]
  repeat' (first|refine sA ?_|refine sC (fun _=>?_) (fun _=>?_)|fail)
  refine zL (fun k:Nat=>[(1,.pv (pts b)),(2,.pv (.fn (.func 212) [] [])),(15,.pv (pts a)),(16,.pv (pi a.length)),(17,.pv (pi k))]) (fun _=>[]) (fun k=>k<=a.length/\zaT a b=zaT (a.drop k) (b.drop k)) (fun k=>a.length - k) 0 ⟨by omega,rfl⟩ (tS) tH ?_;rintro k ⟨hk,hr⟩;by_cases hlt:k < a.length
  ·have he:=zS (f:=yT) hlt;have he2:=zS (f:=yT) (show k < b.length by omega);rw [drop_cons hlt,drop_cons (show k < b.length by omega),zaT] at hr;generalize a[k]=x at he hr;generalize b[k]=y at he2 hr;have cs:=zp0 x y;cases hs:zxd x y
   ·rw [hs] at cs hr
    repeat' (first|(refine shC ?_;first|refine qV (cs) ?_)|(refine shX ?_;first|refine qX he ?_|refine qX he2 ?_)|refine sK ?_|refine sC (fun _=>?_) (fun _=>?_)|fail)
    all_goals (refine ak ?_;simp [zn,hr])
   ·rw [hs] at cs hr
    repeat' (first|(refine shC ?_;first|refine qV (cs) ?_)|(refine shX ?_;first|refine qX he ?_|refine qX he2 ?_)|refine sK ?_|refine sC (fun _=>?_) (fun _=>?_)|fail)
    exact ⟨k + 1,⟨hlt,hr⟩,tD,tS,tH⟩
  ·rw [drop_end zwy62,drop_end zwy62] at hr
   repeat' (first|refine sK ?_|refine sC (fun _=>?_) (fun _=>?_)|fail)
   all_goals (refine ak ?_;rw [hr];rfl)
 ·have hc:((((a.map yT).length:Nat):Int) != (((b.map yT).length:Nat):Int))=true:=by simp;omega
  have hr:=zkb hlen
  repeat' (first|refine sA ?_|refine sC (fun _=>?_) (fun _=>?_)|fail)
  all_goals (refine ak ?_;rw [hr];rfl)
theorem zkt (a b:List Pt) (hl:a.length<=1000):ACall Tryz.prog 160 [pts a,pts b] (pb (zaT a b)):=by
 have c:=zoI a b hl;refine zh zf Tryz.func160 rfl zws Tryz.ntmps160 zwy63 _ rfl (fun hw gB hgB=>?_)
 repeat' (first|(refine shC ?_;first|refine qC c ?_)|refine sA ?_|refine sC (fun _=>?_) (fun _=>?_)|fail)
 exact retq rfl rfl
theorem zmv {b a:List Pt} {to:Int} {k:Nat} (hk:k<=Zh b to) (h:zaT (b.drop k) a=true):zjN b to a=true:=by
 rw [zjN,List.any_eq_true];exact ⟨k,List.mem_range.2 zwy62,h⟩
theorem zqM {b a:List Pt} {to:Int} (h:∀ j,j < Zh b to + 1->zaT (b.drop j) a=false):zjN b to a=false:=by
 rw [zjN,List.any_eq_false];intro k hk;rw [h k (List.mem_range.1 hk)];simp
set_option maxHeartbeats 20000000
theorem zb3 {l:List Cl} {at_:Int} (hl:l.length<=6):(qL l at_).length<=18:=by have:=zo8 l at_;omega
theorem zeu (l:List Cl) (at_:Int) (hl:l.length<=6) (hs:∀ x∈zea at_ l,SmP x):ACall Tryz.prog 84 [cls l,pi at_] (.slc 2 ((qL l at_).map fun x=>.agg [pi x.c,pi x.p]) false):=by
 have cc:=zbe l at_ hl hs;have hcl:=zb3 (at_:=at_) hl;obtain ⟨c,hc⟩:∃ c,c=qL l at_:=⟨_,rfl⟩
 rw [<-hc] at cc hcl ⊢;refine zh zf Tryz.func84 rfl zws Tryz.ntmps84 zwy63 _ rfl (fun hw gB hgB=>?_)
 repeat' (first|refine Za (t:=5) 20 122 2 zwy69 rfl rfl ?_|(refine shC ?_;first|refine qC cc ?_)|refine sA ?_|refine sC (fun _=>?_) (fun _=>?_)|fail)
 refine zL (fun k:Nat=>[(5,.own 20),(10,.pv (pts c)),(11,.pv (pi c.length)),(12,.pv (pi k))]) (fun k=>[(20,.row 122 2 ((c.take k).map fun x=>.agg [pi x.c,pi x.p]))]) (fun k=>k<=c.length) (fun k=>c.length - k) 0 zwy62 (tS) ⟨aB zC,rfl⟩ ?_;rintro k hk;by_cases hlt:k < c.length
 ·have he:=zS (f:=yT) hlt;have hst:(c.take (k + 1)).map (fun x=>PV.agg [pi x.c,pi x.p])=(c.take k).map (fun x=>PV.agg [pi x.c,pi x.p])++[.agg [pi c[k].c,pi c[k].p]]:=by rw [List.take_succ_eq_append_getElem hlt,List.map_append];rfl
  generalize c[k]=x at he hst;have htl:(c.take k).length<=18:=by simp;omega
  repeat' (first|(refine shX ?_;first|refine qX he ?_)|(refine yj ?_;first|refine yV zf rfl rfl rfl rfl rfl rfl rfl (by show _ * 16<=_;simp;omega) zwy64 rfl rfl ?_)|refine sK ?_|refine sC (fun _=>?_) (fun _=>?_)|fail)
  exact ⟨k + 1,hlt,tD,tS,⟨zA (by rw [hst];rfl) zC,rfl⟩⟩
 ·have hk2:k=c.length:=by omega
  subst hk2
  repeat' (first|refine sK ?_|refine sC (fun _=>?_) (fun _=>?_)|fail)
  exact retq rfl (by rw [List.take_length];rfl)
theorem zkB (l:List Cl) (i to:Int) (hl:l.length<=6) (hs:∀ x∈zea i l,SmP x) (hs2:∀ x∈zea to l,SmP x):ACall Tryz.prog 116 [cls l,pi i,pi to] (pb (zc3 l i to)):=by
 have c1:=zbe l i hl hs;have c2:=zbe l to hl hs2;have ha:=zb3 (at_:=i) hl;have hb:=zb3 (at_:=to) hl;rw [zc3];obtain ⟨a,haa⟩:∃ a,a=qL l i:=⟨_,rfl⟩
 obtain ⟨b,hbb⟩:∃ b,b=qL l to:=⟨_,rfl⟩
 rw [<-haa] at c1 ha ⊢;rw [<-hbb] at c2 hb ⊢;have ce:=zfg b to zwy62;have hel:=zhe b to;refine zh zf Tryz.func116 rfl zws Tryz.ntmps116 zwy63 _ rfl (fun hw gB hgB=>?_)
 repeat' (first|(refine shC ?_;first|refine qC c1 ?_|refine qC c2 ?_)|refine sA ?_|refine sC (fun _=>?_) (fun _=>?_)|fail)
 refine zL (fun k:Nat=>[(2,.pv (pi to)),(7,.pv (pts a)),(8,.pv (pts b)),(9,.pv (pi k))]) (fun _=>[]) (fun k=>k<=Zh b to + 1/\∀ j,j < k->zaT (b.drop j) a=false) (fun k=>Zh b to + 1 - k) 0 ⟨by omega,fun j hj=>absurd hj (Nat.not_lt_zero j)⟩ (tS) tH ?_;rintro k ⟨hk,hno⟩;by_cases hlt:k < Zh b to + 1
 ·have hd:decide (((k:Nat):Int)<=((Zh b to:Nat):Int))=true:=decide_eq_true zwy62;have cs:=zkt ((b.take b.length).drop k) a zwy64;have ht:(b.take b.length).drop k=b.drop k:=by rw [List.take_length]
  cases hsm:zaT (b.drop k) a
  ·rw [ht,hsm,<-ht] at cs
   repeat' (first|refine zy rfl (ZG (xs:=b) (f:=yT) k b.length zf rfl rfl rfl rfl rfl rfl (by simp [Xb]) zwy62 zwy62) rfl rfl ?_|(refine shC ?_;first|refine qC ce ?_|refine qC cs ?_)|refine sK ?_|refine sC (fun _=>?_) (fun _=>?_)|fail)
   exact ⟨k + 1,⟨hlt,fun j hj=>by
    by_cases e:j=k
    ·subst e;exact hsm
    ·exact hno j zwy62⟩,tD,tS,tH⟩
  ·rw [ht,hsm,<-ht] at cs
   repeat' (first|refine zy rfl (ZG (xs:=b) (f:=yT) k b.length zf rfl rfl rfl rfl rfl rfl (by simp [Xb]) zwy62 zwy62) rfl rfl ?_|(refine shC ?_;first|refine qC ce ?_|refine qC cs ?_)|refine sK ?_|refine sC (fun _=>?_) (fun _=>?_)|fail)
   exact retq rfl (by rw [zmv (by omega) hsm];rfl)
 ·have hd:decide (((k:Nat):Int)<=((Zh b to:Nat):Int))=false:=decide_eq_false zwy62
  repeat' (first|(refine shC ?_;first|refine qC ce ?_)|refine sK ?_|refine sC (fun _=>?_) (fun _=>?_)|fail)
  exact retq rfl (by rw [zqM fun j hj=>hno j (by omega)];rfl)
theorem zlQ {l:List Cl} {a b:List Pt} {to:Int} {k:Nat} (h:k < a.length) (hn:zjN b to (a.drop k)=false):VH l b to (a.drop k)=if zxl l a[k] then false else VH l b to (a.drop (k + 1)):=by
 rw [drop_cons h] at hn ⊢;rw [VH,hn];simp
theorem zph (l:List Cl) (i to:Int) (hl:l.length<=6) (hs:∀ x∈zea i l,SmP x) (hs2:∀ x∈zea to l,SmP x):ACall Tryz.prog 117 [cls l,pi i,pi to] (pb (zjc l i to)):=by
 have c1:=zbe l i hl hs;have c2:=zbe l to hl hs2;have ha:=zb3 (at_:=i) hl;have hb:=zb3 (at_:=to) hl;have hmem:∀ x∈qL l i,∃ j,j < l.length/\x.c=(j:Int):=by
  intro x hx;obtain ⟨j,h1,h2,_⟩:=zeE hx;refine ⟨j,h1,?_⟩;unfold yK at h2;split at h2 <;> simp at h2 <;> (rcases h2 with h|h|h <;> first|rfl|(rw [h])|skip) <;> simp_all
 rw [zjc];obtain ⟨a,haa⟩:∃ a,a=qL l i:=⟨_,rfl⟩
 obtain ⟨b,hbb⟩:∃ b,b=qL l to:=⟨_,rfl⟩
 rw [<-haa] at c1 ha hmem ⊢;rw [<-hbb] at c2 hb ⊢;have ce:=zfg b to zwy62;have hel:=zhe b to;refine zh zf Tryz.func117 rfl zws Tryz.ntmps117 zwy63 _ rfl (fun hw gB hgB=>?_)
 repeat' (first|(refine shC ?_;first|refine qC c1 ?_|refine qC c2 ?_)|refine sA ?_|refine sC (fun _=>?_) (fun _=>?_)|fail)
 refine zL (fun o:Nat=>[(0,.pv (cls l)),(2,.pv (pi to)),(7,.pv (pts a)),(8,.pv (pts b)),(9,.pv (pi o))]) (fun _=>[]) (fun o=>o<=a.length/\VH l b to a=VH l b to (a.drop o)) (fun o=>a.length + 1 - o) 0 ⟨by omega,rfl⟩ (tS) tH ?_;rintro o ⟨ho,hr⟩;have hdo:decide (((o:Nat):Int)<=(((a.map yT).length:Nat):Int))=true:=decide_eq_true zwy64
 repeat' (first|refine sK ?_|refine sC (fun _=>?_) (fun _=>?_)|fail)
 refine zL (fun k:Nat=>[(0,.pv (cls l)),(2,.pv (pi to)),(7,.pv (pts a)),(8,.pv (pts b)),(9,.pv (pi o)),(10,.pv (pi k))]) (fun _=>[]) (fun k=>k<=Zh b to + 1/\∀ j,j < k->zaT (b.drop j) (a.drop o)=false) (fun k=>Zh b to + 1 - k) 0 ⟨by omega,fun j hj=>absurd hj (Nat.not_lt_zero j)⟩ (tS) tH ?_;rintro k ⟨hk,hno⟩;have hda:(a.take a.length).drop o=a.drop o:=by rw [List.take_length]
 by_cases hlt:k < Zh b to + 1
 ·have hd:decide (((k:Nat):Int)<=((Zh b to:Nat):Int))=true:=decide_eq_true zwy62;have cs:=zkt ((b.take b.length).drop k) ((a.take a.length).drop o) zwy64;have ht:(b.take b.length).drop k=b.drop k:=by rw [List.take_length]
  cases hsm:zaT (b.drop k) (a.drop o)
  ·rw [ht,hda,hsm,<-ht,<-hda] at cs
   repeat' (first|refine zq rfl (ZG (xs:=b) (f:=yT) k b.length zf rfl rfl rfl rfl rfl rfl (by simp [Xb]) zwy62 zwy62) rfl rfl ?_|refine zq rfl (ZG (xs:=a) (f:=yT) o a.length zf rfl rfl rfl rfl rfl rfl (by simp [Xb]) zwy62 zwy62) rfl rfl ?_|(refine shC ?_;first|refine qC ce ?_|refine qC cs ?_)|refine sK ?_|refine sC (fun _=>?_) (fun _=>?_)|fail)
   exact ⟨k + 1,⟨hlt,fun j hj=>by
    by_cases e:j=k
    ·subst e;exact hsm
    ·exact hno j zwy62⟩,tD,tS,tH⟩
  ·rw [ht,hda,hsm,<-ht,<-hda] at cs;have hy:VH l b to (a.drop o)=true:=by
    have:=zmv (show k<=Zh b to by omega) hsm;generalize a.drop o=A at this;cases A with
    | nil=>exact this
    | cons r A=>rw [VH,if_pos this]
   repeat' (first|refine zq rfl (ZG (xs:=b) (f:=yT) k b.length zf rfl rfl rfl rfl rfl rfl (by simp [Xb]) zwy62 zwy62) rfl rfl ?_|refine zq rfl (ZG (xs:=a) (f:=yT) o a.length zf rfl rfl rfl rfl rfl rfl (by simp [Xb]) zwy62 zwy62) rfl rfl ?_|(refine shC ?_;first|refine qC ce ?_|refine qC cs ?_)|refine sK ?_|refine sC (fun _=>?_) (fun _=>?_)|fail)
   exact retq rfl (by rw [hr,hy];rfl)
 ·have hd:decide (((k:Nat):Int)<=((Zh b to:Nat):Int))=false:=decide_eq_false zwy62;have hn:zjN b to (a.drop o)=false:=zqM fun j hj=>hno j zwy62
  by_cases hoe:o < a.length
  ·have hoq:(((o:Nat):Int)==(((a.map yT).length:Nat):Int))=false:=by simp;omega
   have hst:=zlQ (l:=l) hoe hn;have he:=zS (f:=yT) hoe;obtain ⟨j,hj,hxc⟩:=hmem a[o] (List.getElem_mem hoe);generalize a[o]=x at he hst hxc;have hec:=zbn hj;have hec':(l.map qR)[x.c.toNat]?=some (qR (l.getD x.c.toNat default)):=by rw [hxc];exact hec
   have h0:0<=x.c:=by omega
   rw [hst] at hr;obtain ⟨cl,hcl⟩:∃ cl,cl=l.getD x.c.toNat default:=⟨_,rfl⟩
   rw [zxl] at hr;rw [<-hcl] at hec' hr;rcases Bool.eq_false_or_eq_true (x.p==3) with h3|h3 <;> rcases Bool.eq_false_or_eq_true (x.p==2) with h2|h2 <;> rcases Bool.eq_false_or_eq_true (cl.kind==1) with k1|k1 <;> rcases Bool.eq_false_or_eq_true (cl.kind==2) with k2|k2 <;> (
    have k1':(cl.kind != 1)=!(cl.kind==1):=rfl;have k2':(cl.kind != 2)=!(cl.kind==2):=rfl;rw [k1] at k1';rw [k2] at k2'
    repeat' (first|(refine shC ?_;first|refine qC ce ?_)|(refine shX ?_;first|refine qX he ?_|refine zy rfl (ah h0 hec') rfl rfl ?_|refine zq rfl (ah h0 hec') rfl rfl ?_)|refine sK ?_|refine sC (fun _=>?_) (fun _=>?_)|fail)
    all_goals first|exact retq rfl (by rw [hr];simp_all [zn];done)|exact ⟨o + 1,⟨hoe,by rw [hr];simp_all⟩,tD,tS,tH⟩)
  ·have hoq:(((o:Nat):Int)==(((a.map yT).length:Nat):Int))=true:=by simp;omega
   rw [drop_end zwy62] at hr hn;have hf:VH l b to []=false:=hn
   repeat' (first|(refine shC ?_;first|refine qC ce ?_)|refine sK ?_|refine sC (fun _=>?_) (fun _=>?_)|fail)
   exact retq rfl (by rw [hr,hf];rfl)
set_option maxHeartbeats 20000000
theorem zt1 (g:Img) (hF:Fm g) (m:Me) (ar:List Ty) (arg:Int) (t0:Ty) (l:List Ty) (hl:l.length<=100):XC 134 [] (⟨g,m,ar,⟨8,arg,t0⟩⟩:RC) (yN g m ⟨8,arg,t0⟩) uV l:=by
 intro u;refine zI zf Tryz.func134 rfl zws Tryz.ntmps134 zwy63 _ rfl (fun gB hw1=>?_);cases hS1:(qg m.max [kTy 2]) l with
 | error e =>
  have hw:(yN g m ⟨8,arg,t0⟩) l=.error e:=by simp [yN,zB,zG,hS1]
  repeat' (first|refine zo 2 3 rfl rfl rfl ?_|refine zF ((yS u ⟨g,m,ar,⟨8,arg,t0⟩⟩ l)) zi rfl rfl rfl tH ((zX ⟨g,m,ar,⟨8,arg,t0⟩⟩ [kTy 2] _ zwy62 zwy63).bad hS1 u) ?_|(refine shC ?_;first|refine qC (zT 2) ?_)|refine sK ?_|refine sC (fun _=>?_) (fun _=>?_)|fail)
  exact zD hw
 | ok p =>
  obtain ⟨⟨⟩,l1⟩:=p;have hw:(yN g m ⟨8,arg,t0⟩) l=.ok ((),l1):=by simp [yN,zB,zG,hS1]
  repeat' (first|(refine shC ?_;first|refine qC (zT 2) ?_)|(refine zu ?_;first|(refine zx 0 zi rfl rfl ((zX ⟨g,m,ar,⟨8,arg,t0⟩⟩ [kTy 2] _ zwy62 zwy63).ok hS1) rfl rfl rfl rfl rfl ?_))|refine sK ?_|refine sC (fun _=>?_) (fun _=>?_)|fail)
  exact yc hw (yD (.inl rfl) tH)
theorem zuv (g:Img) (hF:Fm g) (m:Me) (ar:List Ty) (arg:Int) (t0:Ty) (l:List Ty) (hl:l.length<=100) (op:Int) (ho:op=9\/op=74):XC 134 [] (⟨g,m,ar,⟨op,arg,t0⟩⟩:RC) (yN g m ⟨op,arg,t0⟩) uV l:=by
 let c:RC:=⟨g,m,ar,⟨op,arg,t0⟩⟩
 rcases ho with rfl|rfl
 all_goals
  intro u;refine zI zf Tryz.func134 rfl zws Tryz.ntmps134 zwy63 _ rfl (fun gB hw1=>?_);cases hS1:(qg m.max [kTy 3]) l with
  | error e =>
   have hw:(yN g m ⟨c.x.op,arg,t0⟩) l=.error e:=by simp [yN,c,zB,zG,hS1]
   repeat' (first|refine zo 5 3 rfl rfl rfl ?_|refine zF ((yS u c l)) zi rfl rfl rfl tH ((zX c [kTy 3] _ zwy62 zwy63).bad hS1 u) ?_|(refine shC ?_;first|refine qC (zT 3) ?_)|refine sK ?_|refine sC (fun _=>?_) (fun _=>?_)|fail)
   exact zD hw
  | ok p =>
   obtain ⟨⟨⟩,l1⟩:=p;have hw:(yN g m ⟨c.x.op,arg,t0⟩) l=.ok ((),l1):=by simp [yN,c,zB,zG,hS1]
   repeat' (first|(refine shC ?_;first|refine qC (zT 3) ?_)|(refine zu ?_;first|(refine zx 0 zi rfl rfl ((zX c [kTy 3] _ zwy62 zwy63).ok hS1) rfl rfl rfl rfl rfl ?_))|refine sK ?_|refine sC (fun _=>?_) (fun _=>?_)|fail)
   exact yc hw (yD (.inl rfl) tH)
theorem zq2 (g:Img) (hF:Fm g) (m:Me) (ar:List Ty) (arg:Int) (t0:Ty) (l:List Ty) (hl:l.length<=100):XC 134 [] (⟨g,m,ar,⟨10,arg,t0⟩⟩:RC) (yN g m ⟨10,arg,t0⟩) uV l:=by
 intro u;refine zI zf Tryz.func134 rfl zws Tryz.ntmps134 zwy63 _ rfl (fun gB hw1=>?_);cases hS1:(qg m.max [kTy 8]) l with
 | error e =>
  have hw:(yN g m ⟨10,arg,t0⟩) l=.error e:=by simp [yN,zB,zG,hS1]
  repeat' (first|refine zo 7 3 rfl rfl rfl ?_|refine zF ((yS u ⟨g,m,ar,⟨10,arg,t0⟩⟩ l)) zi rfl rfl rfl tH ((zX ⟨g,m,ar,⟨10,arg,t0⟩⟩ [kTy 8] _ zwy62 zwy63).bad hS1 u) ?_|(refine shC ?_;first|refine qC (zT 8) ?_)|refine sK ?_|refine sC (fun _=>?_) (fun _=>?_)|fail)
  exact zD hw
 | ok p =>
  obtain ⟨⟨⟩,l1⟩:=p;have hw:(yN g m ⟨10,arg,t0⟩) l=.ok ((),l1):=by simp [yN,zB,zG,hS1]
  repeat' (first|(refine shC ?_;first|refine qC (zT 8) ?_)|(refine zu ?_;first|(refine zx 0 zi rfl rfl ((zX ⟨g,m,ar,⟨10,arg,t0⟩⟩ [kTy 8] _ zwy62 zwy63).ok hS1) rfl rfl rfl rfl rfl ?_))|refine sK ?_|refine sC (fun _=>?_) (fun _=>?_)|fail)
  exact yc hw (yD (.inl rfl) tH)
theorem zsd (g:Img) (hF:Fm g) (m:Me) (ar:List Ty) (arg:Int) (t0:Ty) (l:List Ty) (hl:l.length<=100):XC 134 [] (⟨g,m,ar,⟨11,arg,t0⟩⟩:RC) (yN g m ⟨11,arg,t0⟩) uV l:=by
 intro u;refine zI zf Tryz.func134 rfl zws Tryz.ntmps134 zwy63 _ rfl (fun gB hw1=>?_);cases hS1:(Qp) l with
 | error e =>
  have hw:(yN g m ⟨11,arg,t0⟩) l=.error e:=by simp [yN,zB,zG,hS1]
  repeat' (first|refine zo 9 1 rfl rfl rfl ?_|refine zF ((yS u ⟨g,m,ar,⟨11,arg,t0⟩⟩ l)) zi rfl rfl rfl tH ((yw ⟨g,m,ar,⟨11,arg,t0⟩⟩ _ zwy62).bad hS1 u) ?_|refine sK ?_|refine sC (fun _=>?_) (fun _=>?_)|fail)
  exact zD hw
 | ok p =>
  obtain ⟨t,l1⟩:=p;have hl1:l1.length<=100:=by have:=Wh hS1;omega
  cases hS2:(qg m.max [t,t]) l1 with
  | error e =>
   have hw:(yN g m ⟨11,arg,t0⟩) l=.error e:=by simp [yN,zB,zG,hS1,hS2]
   repeat' (first|refine zo 10 4 rfl rfl rfl ?_|refine zF ((yS u ⟨g,m,ar,⟨11,arg,t0⟩⟩ l1)) zi rfl rfl rfl tH ((zX ⟨g,m,ar,⟨11,arg,t0⟩⟩ [t,t] _ zwy62 zwy63).bad hS2 u) ?_|(refine zu ?_;first|(refine zx 0 zi rfl rfl ((yw ⟨g,m,ar,⟨11,arg,t0⟩⟩ _ zwy62).ok hS1) rfl rfl rfl rfl rfl ?_))|refine sK ?_|refine sC (fun _=>?_) (fun _=>?_)|fail)
   exact zD hw
  | ok p =>
   obtain ⟨⟨⟩,l2⟩:=p;have hw:(yN g m ⟨11,arg,t0⟩) l=.ok ((),l2):=by simp [yN,zB,zG,hS1,hS2]
   repeat' (first|(refine zu ?_;first|(refine zx 0 zi rfl rfl ((yw ⟨g,m,ar,⟨11,arg,t0⟩⟩ _ zwy62).ok hS1) rfl rfl rfl rfl rfl ?_)|(refine zx 0 zi rfl rfl ((zX ⟨g,m,ar,⟨11,arg,t0⟩⟩ [t,t] _ zwy62 zwy63).ok hS2) rfl rfl rfl rfl rfl ?_))|refine sK ?_|refine sC (fun _=>?_) (fun _=>?_)|fail)
   exact yc hw (yD (.inl rfl) tH)
theorem zr2 (g:Img) (hF:Fm g) (m:Me) (ar:List Ty) (arg:Int) (t0:Ty) (l:List Ty) (hl:l.length<=100):XC 134 [] (⟨g,m,ar,⟨12,arg,t0⟩⟩:RC) (yN g m ⟨12,arg,t0⟩) uV l:=by
 intro u;refine zI zf Tryz.func134 rfl zws Tryz.ntmps134 zwy63 _ rfl (fun gB hw1=>?_);cases hS1:(Qp) l with
 | error e =>
  have hw:(yN g m ⟨12,arg,t0⟩) l=.error e:=by simp [yN,zB,zG,hS1]
  repeat' (first|refine zo 12 1 rfl rfl rfl ?_|refine zF ((yS u ⟨g,m,ar,⟨12,arg,t0⟩⟩ l)) zi rfl rfl rfl tH ((yw ⟨g,m,ar,⟨12,arg,t0⟩⟩ _ zwy62).bad hS1 u) ?_|refine sK ?_|refine sC (fun _=>?_) (fun _=>?_)|fail)
  exact zD hw
 | ok p =>
  obtain ⟨t,l1⟩:=p;have hl1:l1.length<=100:=by have:=Wh hS1;omega
  have hw:(yN g m ⟨12,arg,t0⟩) l=.ok ((),l1):=by simp [yN,zB,zG,hS1]
  repeat' (first|(refine zu ?_;first|(refine zx 0 zi rfl rfl ((yw ⟨g,m,ar,⟨12,arg,t0⟩⟩ _ zwy62).ok hS1) rfl rfl rfl rfl rfl ?_))|refine sK ?_|refine sC (fun _=>?_) (fun _=>?_)|fail)
  exact yc hw (yD (.inl rfl) tH)
theorem zst (g:Img) (hF:Fm g) (m:Me) (ar:List Ty) (arg:Int) (t0:Ty) (l:List Ty) (hl:l.length<=100):XC 134 [] (⟨g,m,ar,⟨75,arg,t0⟩⟩:RC) (yN g m ⟨75,arg,t0⟩) uV l:=by
 intro u;refine zI zf Tryz.func134 rfl zws Tryz.ntmps134 zwy63 _ rfl (fun gB hw1=>?_);cases hS1:(YK g (kTy 3)) l with
 | error e =>
  have hw:(yN g m ⟨75,arg,t0⟩) l=.error e:=by simp [yN,zB,zG,hS1]
  repeat' (first|refine zo 14 2 rfl rfl rfl ?_|refine zF ((yS u ⟨g,m,ar,⟨75,arg,t0⟩⟩ l)) zi rfl rfl rfl tH ((qw ⟨g,m,ar,⟨75,arg,t0⟩⟩ hF (kTy 3) _ zwy62).bad hS1 u) ?_|(refine shC ?_;first|refine qC (zT 3) ?_)|refine sK ?_|refine sC (fun _=>?_) (fun _=>?_)|fail)
  exact zD hw
 | ok p =>
  obtain ⟨⟨⟩,l1⟩:=p;have hl1:l1.length<=100:=by have:=VL hS1;omega
  have hw:(yN g m ⟨75,arg,t0⟩) l=.ok ((),l1):=by simp [yN,zB,zG,hS1]
  repeat' (first|(refine shC ?_;first|refine qC (zT 3) ?_)|(refine zu ?_;first|(refine zx 0 zi rfl rfl ((qw ⟨g,m,ar,⟨75,arg,t0⟩⟩ hF (kTy 3) _ zwy62).ok hS1) rfl rfl rfl rfl rfl ?_))|refine sK ?_|refine sC (fun _=>?_) (fun _=>?_)|fail)
  exact yc hw (yD (.inl rfl) tH)
theorem zs5 (g:Img) (hF:Fm g) (m:Me) (ar:List Ty) (arg:Int) (t0:Ty) (l:List Ty) (hl:l.length<=100) (op:Int) (ho:op=1\/op=47):XC 134 [] (⟨g,m,ar,⟨op,arg,t0⟩⟩:RC) (yN g m ⟨op,arg,t0⟩) uV l:=by
 let c:RC:=⟨g,m,ar,⟨op,arg,t0⟩⟩
 rcases ho with rfl|rfl
 all_goals
  intro u;refine zI zf Tryz.func134 rfl zws Tryz.ntmps134 zwy63 _ rfl (fun gB hw1=>?_);have hw:(yN g m ⟨c.x.op,arg,t0⟩) l=.ok ((),l):=by simp [yN,c,zB,zG]
  repeat' (first|refine sK ?_|refine sC (fun _=>?_) (fun _=>?_)|fail)
  exact yc hw (yD (.inl rfl) tH)
theorem zwk73 {G:Prop} (h:G:=by repeat' (first|(have:=b0;refine zo 17 8 rfl rfl rfl ?_)|(have:=b0;refine zF ((yS u ⟨g,m,ar,⟨67,arg,t0⟩⟩ l)) zi rfl rfl rfl tH ((zX ⟨g,m,ar,⟨67,arg,t0⟩⟩ [⟨9,arg,0,false⟩] _ zwy62 zwy63).bad hS4 u) ?_)|(have:=b1;refine zo 16 10 rfl rfl rfl ?_)|(have:=b2;refine zF ([]) zi rfl rfl rfl tH (yu zwy93 8) ?_)|(have:=b3;refine zF ([]) zi rfl rfl rfl tH (yu zwy66 8) ?_)|(refine shC ?_;first|refine qC ca ?_|(have:=b4;refine qC cb ?_)|(have:=b5;refine zy rfl (zJ rfl rfl (zH zwy93 8)) rfl rfl ?_)|(have:=b5;refine zq rfl (zJ rfl rfl (zH zwy93 8)) rfl rfl ?_))|(have:=b6;refine zu ?_;first|(refine ay 0 (cm.ok em) ?_))|(have:=b7;refine zu ?_;first|(refine zx 0 zi rfl rfl ((zX ⟨g,m,ar,⟨67,arg,t0⟩⟩ [⟨9,arg,0,false⟩] _ zwy62 zwy63).ok hS4) rfl rfl rfl rfl rfl ?_)|(refine ay 0 (cm.ok em) ?_))|refine sK ?_|refine sC (fun _=>?_) (fun _=>?_)|exact zD hw|exact yc hw (yD (.inl rfl) tH)|fail)):G:=h
theorem zsw (g:Img) (hF:Fm g) (m:Me) (ar:List Ty) (arg:Int) (t0:Ty) (l:List Ty) (hl:l.length<=100) (h0:0<=arg) (h1:arg.toNat < g.methods.length):XC 134 [] (⟨g,m,ar,⟨67,arg,t0⟩⟩:RC) (yN g m ⟨67,arg,t0⟩) uV l:=by
 intro u;refine zI zf Tryz.func134 rfl zws Tryz.ntmps134 zwy63 _ rfl (fun gB hw1=>?_);have cm:XC 179 [] (⟨g,m,ar,⟨67,arg,t0⟩⟩:RC) (pure (mAt g arg):SM Me) (fun d=>.pv (zY d)) l:=zbI _ l h0 h1;have em:(pure (mAt g arg):SM Me) l=.ok (mAt g arg,l):=rfl;obtain ⟨d,hd⟩:∃ d,mAt g arg=d:=⟨_,rfl⟩
 rw [hd] at cm em;have ca:=Qn d 4;have cb:=Qn d 16;cases hC1:(qQ d.flags 4)
 ·rw [hC1] at ca;cases hC2:(qQ d.flags 16)
  ·rw [hC2] at cb;cases hS4:(qg m.max [⟨9,arg,0,false⟩]) l with
   | error e =>
    have hw:(yN g m ⟨67,arg,t0⟩) l=.error e:=by simp [yN,hd,zB,zG,hC1,hC2,zN,emptyS,hS4]
    have b0:=();have b4:=();have b5:=();have b6:=();exact zwk73
   | ok p =>
    obtain ⟨⟨⟩,l4⟩:=p;have hw:(yN g m ⟨67,arg,t0⟩) l=.ok ((),l4):=by simp [yN,hd,zB,zG,hC1,hC2,zN,emptyS,hS4]
    have b4:=();have b5:=();have b7:=();exact zwk73
  ·rw [hC2] at cb;have hw:(yN g m ⟨67,arg,t0⟩) l=.error 8:=by simp [yN,hd,zB,zG,hC1,hC2,zN,emptyS]
   have b1:=();have b2:=();have b4:=();have b6:=();exact zwk73
 ·rw [hC1] at ca;have hw:(yN g m ⟨67,arg,t0⟩) l=.error 8:=by simp [yN,hd,zB,zG,hC1,zN,emptyS]
  have b1:=();have b3:=();have b6:=();exact zwk73
theorem zwk74 {G:Prop} (h:G:=by repeat' (first|(have:=b0;refine zo 4 6 rfl rfl rfl ?_)|(have:=b1;refine zF ([]) zi rfl rfl rfl tH (yu zwy121 9) ?_)|(have:=b2;refine zo 3 6 rfl rfl rfl ?_)|(have:=b2;refine zF ((yS u ⟨g,m,ar,⟨46,arg,t0⟩⟩ l)) zi rfl rfl rfl tH ((qw ⟨g,m,ar,⟨46,arg,t0⟩⟩ hF (m.ret) _ zwy62).bad hS2 u) ?_)|(have:=b3;refine zF ([]) zi rfl rfl rfl tH (yu (by simpa using hN3) 9) ?_)|refine zy rfl (aj (ps:=(yU m.ret))) rfl rfl ?_|refine zq rfl (aj (ps:=(yU m.ret))) rfl rfl ?_|(refine shC ?_;first|(have:=b4;refine zy rfl (zJ rfl rfl (zH zwy121 9)) rfl rfl ?_)|(have:=b4;refine zq rfl (zJ rfl rfl (zH zwy121 9)) rfl rfl ?_)|(have:=b5;refine zy rfl (zJ rfl rfl (zH (by simpa using hN3) 9)) rfl rfl ?_)|(have:=b5;refine zq rfl (zJ rfl rfl (zH (by simpa using hN3) 9)) rfl rfl ?_))|(have:=b6;refine zu ?_;first|(refine zx 0 zi rfl rfl ((qw ⟨g,m,ar,⟨46,arg,t0⟩⟩ hF (m.ret) _ zwy62).ok hS2) rfl rfl rfl rfl rfl ?_))|refine sK ?_|refine sC (fun _=>?_) (fun _=>?_)|exact zba hw|exact zfL hw (ziB (.inl rfl) tH)|fail)):G:=h
theorem zvn (g:Img) (hF:Fm g) (m:Me) (ar:List Ty) (arg:Int) (t0:Ty) (l:List Ty) (hl:l.length<=100) (u:Value):QO Tryz.prog 133 [.box 0 0] (yS u (⟨g,m,ar,⟨46,arg,t0⟩⟩:RC) l) (zo4 u (⟨g,m,ar,⟨46,arg,t0⟩⟩:RC) ((ZP g m 46) l)):=by
 revert u;intro u;refine zI zf Tryz.func133 rfl zws Tryz.ntmps133 zwy63 _ rfl (fun gB hw1=>?_);cases hC1:(m.ret.kind != 1)
 ·skip;cases hN2:(l.length==0)
  ·have hw:(ZP g m 46) l=.error 9:=by simp [ZP,zB,zG,hC1,zN,emptyS,hN2]
   have b0:=();have b1:=();exact zwk74
  ·skip;have hw:(ZP g m 46) l=.ok ((),[]):=by simp [ZP,zB,zG,hC1,zN,emptyS,hN2,zcH]
   have b4:=();exact zwk74
 ·skip;cases hS2:(YK g (m.ret)) l with
  | error e =>
   have hw:(ZP g m 46) l=.error e:=by simp [ZP,zB,zG,hC1,hS2]
   have b2:=();exact zwk74
  | ok p =>
   obtain ⟨⟨⟩,l2⟩:=p;have hl2:l2.length<=100:=by have:=VL hS2;omega
   cases hN3:(l2.length==0)
   ·have hw:(ZP g m 46) l=.error 9:=by simp [ZP,zB,zG,hC1,hS2,zN,emptyS,hN3]
    have b0:=();have b3:=();have b6:=();exact zwk74
   ·skip;have hw:(ZP g m 46) l=.ok ((),[]):=by simp [ZP,zB,zG,hC1,hS2,zN,emptyS,hN3,zcH]
    have b5:=();have b6:=();exact zwk74
theorem zwk75 {G:Prop} (h:G:=by repeat' (first|(have:=b0;refine zo 6 1 rfl rfl rfl ?_)|(have:=b0;refine zF ((yS u ⟨g,m,ar,⟨69,arg,t0⟩⟩ l)) zi rfl rfl rfl tH ((yw ⟨g,m,ar,⟨69,arg,t0⟩⟩ _ zwy62).bad hS1 u) ?_)|(have:=b1;refine zo 6 3 rfl rfl rfl ?_)|(have:=b1;refine zF ([]) zi rfl rfl rfl tH (yu zwy88 10) ?_)|(refine shC ?_;first|(have:=b2;refine qC cx ?_)|(have:=b3;refine zy rfl (zJ rfl rfl (zH zwy88 10)) rfl rfl ?_)|(have:=b3;refine zq rfl (zJ rfl rfl (zH zwy88 10)) rfl rfl ?_))|(have:=b2;refine zu ?_;first|(refine zx 0 zi rfl rfl ((yw ⟨g,m,ar,⟨69,arg,t0⟩⟩ _ zwy62).ok hS1) rfl rfl rfl rfl rfl ?_))|refine sK ?_|refine sC (fun _=>?_) (fun _=>?_)|exact zba hw|exact zfL hw (ziB (.inl rfl) tH)|fail)):G:=h
theorem zvY (g:Img) (hF:Fm g) (m:Me) (ar:List Ty) (arg:Int) (t0:Ty) (l:List Ty) (hl:l.length<=100) (u:Value):QO Tryz.prog 133 [.box 0 0] (yS u (⟨g,m,ar,⟨69,arg,t0⟩⟩:RC) l) (zo4 u (⟨g,m,ar,⟨69,arg,t0⟩⟩:RC) ((ZP g m 69) l)):=by
 revert u;intro u;refine zI zf Tryz.func133 rfl zws Tryz.ntmps133 zwy63 _ rfl (fun gB hw1=>?_);cases hS1:(Qp) l with
 | error e =>
  have hw:(ZP g m 69) l=.error e:=by simp [ZP,zB,zG,hS1]
  have b0:=();exact zwk75
 | ok p =>
  obtain ⟨t,l1⟩:=p;have hl1:l1.length<=100:=by have:=Wh hS1;omega
  have cx:=qY t;cases hC3:(object t)
  ·rw [hC3] at cx;have hw:(ZP g m 69) l=.error 10:=by simp [ZP,zB,zG,hS1,hC3,zN,emptyS]
   have b1:=();have b2:=();exact zwk75
  ·rw [hC3] at cx;have hw:(ZP g m 69) l=.ok ((),[]):=by simp [ZP,zB,zG,hS1,hC3,zN,emptyS,zcH]
   have b2:=();have b3:=();exact zwk75
theorem zwk76 {G:Prop} (h:G:=by repeat' (first|(have:=b0;refine zo 8 2 rfl rfl rfl ?_)|(have:=b0;refine zF ((yS u ⟨g,m,ar,⟨73,arg,t0⟩⟩ l)) zi rfl rfl rfl tH ((qw ⟨g,m,ar,⟨73,arg,t0⟩⟩ hF (kTy 2) _ zwy62).bad hS1 u) ?_)|(have:=b1;refine zo 9 6 rfl rfl rfl ?_)|(have:=b1;refine zF ([]) zi rfl rfl rfl tH (yu zwy121 9) ?_)|(refine shC ?_;first|(have:=b2;refine zy rfl (zJ rfl rfl (zH zwy121 9)) rfl rfl ?_)|(have:=b2;refine zq rfl (zJ rfl rfl (zH zwy121 9)) rfl rfl ?_)|refine qC (zT 2) ?_)|(have:=b3;refine zu ?_;first|(refine zx 0 zi rfl rfl ((qw ⟨g,m,ar,⟨73,arg,t0⟩⟩ hF (kTy 2) _ zwy62).ok hS1) rfl rfl rfl rfl rfl ?_))|refine sK ?_|refine sC (fun _=>?_) (fun _=>?_)|exact zba hw|exact zfL hw (ziB (.inl rfl) tH)|fail)):G:=h
theorem zvV (g:Img) (hF:Fm g) (m:Me) (ar:List Ty) (arg:Int) (t0:Ty) (l:List Ty) (hl:l.length<=100) (u:Value):QO Tryz.prog 133 [.box 0 0] (yS u (⟨g,m,ar,⟨73,arg,t0⟩⟩:RC) l) (zo4 u (⟨g,m,ar,⟨73,arg,t0⟩⟩:RC) ((ZP g m 73) l)):=by
 revert u;intro u;refine zI zf Tryz.func133 rfl zws Tryz.ntmps133 zwy63 _ rfl (fun gB hw1=>?_);cases hS1:(YK g (kTy 2)) l with
 | error e =>
  have hw:(ZP g m 73) l=.error e:=by simp [ZP,zB,zG,hS1]
  have b0:=();exact zwk76
 | ok p =>
  obtain ⟨⟨⟩,l1⟩:=p;have hl1:l1.length<=100:=by have:=VL hS1;omega
  cases hN2:(l1.length==0)
  ·have hw:(ZP g m 73) l=.error 9:=by simp [ZP,zB,zG,hS1,zN,emptyS,hN2]
   have b1:=();have b3:=();exact zwk76
  ·skip;have hw:(ZP g m 73) l=.ok ((),[]):=by simp [ZP,zB,zG,hS1,zN,emptyS,hN2,zcH]
   have b2:=();have b3:=();exact zwk76
theorem zwd (g:Img) (hF:Fm g) (m:Me) (ar:List Ty) (arg:Int) (t0:Ty) (l:List Ty) (hl:l.length<=100) (op:Int) (ho:op=70\/op=71\/op=72) (u:Value):QO Tryz.prog 133 [.box 0 0] (yS u (⟨g,m,ar,⟨op,arg,t0⟩⟩:RC) l) (zo4 u (⟨g,m,ar,⟨op,arg,t0⟩⟩:RC) ((ZP g m op) l)):=by
 let c:RC:=⟨g,m,ar,⟨op,arg,t0⟩⟩
 rcases ho with rfl|rfl|rfl
 all_goals
  revert u;intro u;refine zI zf Tryz.func133 rfl zws Tryz.ntmps133 zwy63 _ rfl (fun gB hw1=>?_);have hw:(ZP g m c.x.op) l=.ok ((),[]):=by simp [ZP,c,zB,zG,zcH]
  repeat' (first|refine sK ?_|refine sC (fun _=>?_) (fun _=>?_)|fail)
  exact zfL hw (ziB (.inl rfl) tH)
set_option maxHeartbeats 20000000
theorem zaZ {P:Program} {t xt:TypeId} {k0:IntKind} {v:Value} {w:World} (hu:P.underlying t=some (.int k0)):(Instr.typeAssert (.iface t v) xt t true).run P w=.ok (.tuple #[v,.bool true]) w:=by
 simp [Instr.typeAssert,run_underlying hu]
theorem zaf {P:Program} {t xt:TypeId} {k0:IntKind} {z:Value} {w:World} (hu:P.underlying t=some (.int k0)) (hz:(zeroValue t).run P w=.ok z w):(Instr.typeAssert .nilIface xt t true).run P w=.ok (.tuple #[z,.bool false]) w:=by
 simp [Instr.typeAssert,run_underlying hu,hz]
abbrev rbH (o e:PV) (p1 p2:Value):HEnv:=[(1,.cell (.pv o)),(2,.cell (.pv e)),(2001,.pin (.box 1 0) p1),(2002,.pin (.box 2 0) p2)]
theorem zrx (p1 p2:Value) (e:Int):DCall Tryz.prog 86 (rbH (.base (.slice none 0 0)) (pi 0) p1 p2) [.box 1 0,.box 2 0] (.panicking [{ v:=flt e,recovered:=false }]) (.panicking [{ v:=flt e,recovered:=true }]) (rbH (.base (.slice none 0 0)) (pi e) p1 p2):=by
 refine Wy Tryz.func86 rfl zws rfl (fun g K ρ w vs hds hf hv c₀ cs hu=>?_);obtain ⟨v1,v2,rfl⟩:=zoy hv.1;have r1:=hv.2 0 _ v1 rfl rfl;have r2:=hv.2 1 _ v2 rfl rfl;refine wpS_seq ?_;refine wpS_region ?_;have h1:=zaZ (P:=Tryz.prog) (xt:=20) (v:=.int .i64 e) (w:=w) Tryz.underlying125;simp [wpOpsS,go_sem,recoverD,hu,Tryz.ntmps86,Exit.thenS,flt,h1];refine zfY (n:=11) (g:=g) (env:=[(0,.box 1 0),(1,.box 2 0),(2,.pv (pi e)),(3,.pv (pb true))]) (H:=rbH (.base (.slice none 0 0)) (pi 0) p1 p2) (QQ:=zsh (rbH (.base (.slice none 0 0)) (pi e) p1 p2)) ?_
  ⟨by simp,by rw [hds],K,ρ,hf,YD (v:=v1) zwy63 r1 (YD (v:=v2) zwy63 r2 (YD (v:=.int .i64 e) zwy63 (.pv _ _ (.base _ rfl)) (YD (v:=.bool true) zwy63 (.pv _ _ (.base _ rfl)) zb0)))⟩
  (fun ex a' w' env' H' hi hq=>⟨hq.1,hi.defers.trans hds,rfl,zfW hi hq.2⟩)
 repeat' (first|refine sK ?_|refine sC (fun _=>?_) (fun _=>?_)|fail)
 exact ⟨.inl rfl,tH⟩
theorem zpV (o e:PV) (p1 p2:Value):DCall Tryz.prog 86 (rbH o e p1 p2) [.box 1 0,.box 2 0] .returning .returning (rbH o e p1 p2):=by
 refine Wy Tryz.func86 rfl zws rfl (fun g K ρ w vs hds hf hv c₀ cs hu=>?_);obtain ⟨v1,v2,rfl⟩:=zoy hv.1;refine wpS_seq ?_;refine wpS_region ?_;have hz:=ziP (P:=Tryz.prog) (w:=w) (z:=.int .i64 0) zf (ty:=125) rfl;have h1:=zaf (P:=Tryz.prog) (xt:=20) (w:=w) Tryz.underlying125 hz;simp [wpOpsS,go_sem,recoverD,hu,Tryz.ntmps86,Exit.thenS,h1];refine zfY (n:=11) (g:=g) (env:=[(3,.pv (pb false))]) (H:=rbH o e p1 p2) (QQ:=zsh (rbH o e p1 p2)) ?_
  ⟨by simp,by rw [hds],K,ρ,hf,YD (v:=.bool false) zwy63 (.pv _ _ (.base _ rfl)) zb0⟩
  (fun ex a' w' env' H' hi hq=>⟨hq.1,hi.defers.trans hds,by cases c₀;simp_all,zfW hi hq.2⟩)
 repeat' (first|refine sK ?_|refine sC (fun _=>?_) (fun _=>?_)|fail)
 exact ⟨.inl rfl,tH⟩
end Go.Cg
