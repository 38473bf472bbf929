/- A part of the walks by abstract values: no statement of its own. -/
import Derived.Test.YtmgdpkcmbnlklaaGreatA23
import Derived.Test.YtmgdpkcmbnlklaaGreatA20
import Derived.Test.YtmgdpkcmbnlklaaGreatA11
set_option linter.unusedVariables false
set_option linter.unusedSimpArgs false
namespace Go.Cg
open Go.RowKit
section
variable {P:Program} {tb:Tab} {n:Nat} {g:Base} {K:KK} {w:World} {ρ:Nat→Value} {H H0 H1 N N1:HEnv} {env:Env} {a:Act} {o:Oper} {r:AV} {c:Code} {QQ:QC} {ops l rest:List Oper} {Q:Env→HEnv→Prop}
theorem zgp (htb:yc P tb) {ty e:Nat} {x y:Operand} {i j:Nat} {sz:Nat} {es xs:List PV} {full:Bool}
  (hop:o.op=.call { callee:=.builtin .append,args:=#[x,y],argTypes:=#[ty,ty] }) (hk:tb.k ty=.sl e) (hx:env.val x=some (.own i)) (hi:H.get i=some (.mrow e sz es)) (hj:H.get j=none) (hy:env.pv H y=some (.slc sz xs full))
  (hzz:(match tb.get e with|some ti=>(match ti.zero with|some z=>ti.size==sz&&z.cells.size==sz|none=>false)|none=>false)=true)
  (hbound:(es.length + xs.length) * (match tb.get e with|some ti=>ti.bytes|none=>0)≤140737488355328) (hb2:es.length + xs.length≤140737488355328)
  (hf:FS g K ρ H w) (hv:∀ z∈o.op.operands,∀ av,env.val z=some av→ARel K w ρ H av (a.eval z)) :
  ∃ v' w' K',(execOp a.eval o).run P w=.ok (.value v') w'∧Later K K' w w'∧FS g K' (fun k=>if k=j then v' else ρ k) ((j,.mrow e sz (es++xs))::(i,.dead)::H) w':=by
 have hxr:=hv x (by rw [hop];simp [Op.operands,Call.operands]) _ hx
 have hvy:∀ av,env.val y=some av→ARel K w ρ H av (a.eval y):=hv y (by rw [hop];simp [Op.operands,Call.operands])
 have hij:j≠i:=by rintro rfl;rw [hi] at hj;cases hj
 cases hti:tb.get e with
 | none=>simp [hti] at hzz
 | some ti =>
  cases hz:ti.zero with
  | none=>simp [hti,hz] at hzz
  | some z =>
   simp only [hti,hz,Bool.and_eq_true,beq_iff_eq] at hzz hbound
   obtain ⟨tin,q1,q2,q3,q4,_⟩:=yN htb hti
   have hyr:=zT (a:=a) hf (x:=y) hvy hy
   obtain ⟨us,hown,hsz,hcr,hKK'⟩:=hf.heap.ok i _ hi
   generalize hxv:a.eval x=xv at hxr
   cases hxr with
   | own _ hi' =>
    obtain ⟨news,n1,n2,n3,n4,n5⟩:=Zo hyr
    obtain ⟨v',w',r1,r2,r3⟩:=run_append_own' (P:=P) w g.w0.heap.size ty o.type e tin z sz ti.bytes (yw htb hk) q1 (by rw [q4];exact hz) (by omega) q3 hzz.2 (ρ i) es.length us hown (a.eval y) xs.length news n1
     (n2.imp (fun h=>⟨h.1,by simpa using h.2⟩) (fun ⟨ad,c,hh,hh2,_⟩=>⟨ad,c,hh,hh2⟩)) n3 (by unfold maxLen;omega) hbound hf.below.size
    have hrun:(execOp a.eval o).run P w=.ok (.value v') w':=by
     simp [execOp,hop,resolve,invoke,builtin,hxv,r1]
    obtain ⟨row,hgrow,hrow⟩:∃ row,w.grownBy w' row∧((row=(ρ i).ownBlock∧v'.ownBlock=(ρ i).ownBlock)∨(row=none∧∀ b,v'.ownBlock=some b→w.heap.size≤b)):=by
     rcases r3 with ⟨h1,h2⟩|⟨h1,h2⟩
     ·exact ⟨_,h1,.inl ⟨rfl,h2⟩⟩
     ·exact ⟨_,h1,.inr ⟨rfl,h2⟩⟩
    let K1:KK:=K
    have hcellsame:∀ b o,K b o→w'.cell? ⟨b,o,none⟩=w.cell? ⟨b,o,none⟩:=by
     intro b o hbo
     by_cases hbb:row=some b
     ·rcases hrow with ⟨e1,e2⟩|⟨e1,_⟩
      ·rw [hbb] at e1
       exact absurd hbo (hKK' b e1.symm o)
      ·rw [hbb] at e1;cases e1
     ·exact World.cell?_of_block (hgrow.block b (hf.lt b o hbo) (Ne.symm hbb))
    have hlat:Later K K1 w w':=⟨fun b o h=>h,hcellsame⟩
    have hvlt:=r2.lt
    have hrowB:∀ k,row=some k→g.w0.heap.size≤k:=by
     intro k hk
     rcases hrow with ⟨e1,_⟩|⟨e1,_⟩
     ·rw [hk] at e1;exact (hown.lt k e1.symm).1
     ·rw [hk] at e1;cases e1
    have hkeep:∀ k,(H.get k).isSome=true→(HEnv.get ((j,.mrow e sz (es++xs))::(i,.dead)::H) k).isSome=true∧(fun k=>if k=j then v' else ρ k) k=ρ k:=by
     intro k hk
     have hne:k≠j:=by rintro rfl;simp [hj] at hk
     refine ⟨?_,by simp [hne]⟩
     rw [HEnv.get_cons,if_neg (Ne.symm hne),HEnv.get_cons]
     split <;> first|rfl|exact hk
    have htr:∀ av v,ARel K w ρ H av v→ARel K1 w' (fun k=>if k=j then v' else ρ k) ((j,.mrow e sz (es++xs))::(i,.dead)::H) (id av) v:=fun av v h=>h.keeps hlat hkeep
    have hbo:∀ {v:Value} {nn:Nat} {zs:List Value} {ww:World} {BB:Nat},ww.ownsRow BB e sz v nn zs→∀ b,zq v=some b↔v.ownBlock=some b:=by
     intro v nn zs ww BB h b
     rcases h.2 with ⟨rfl,_⟩|⟨_,_,_,rfl,_⟩ <;> simp [zq,Value.ownBlock]
    have hK1:∀ b o,K1 b o→K b o∨row=some b∨w.heap.size≤b:=by
     exact fun b o h=>.inl h
    have hnl:(es++xs).length=es.length + xs.length:=List.length_append
    have hcellsrow:∀ (j:Nat) (o:Obj),row=some j→w.heap[j]?=some o→o.isCells=true:=by
     intro j o hj ho
     rcases hrow with ⟨e1,_⟩|⟨e1,_⟩
     ·rw [hj] at e1
      rcases hown.2 with ⟨h,_⟩|⟨b2,cap,cur,h,_,hh,_⟩
      ·rw [h] at e1;simp [Value.ownBlock] at e1
      ·rw [h] at e1
       simp only [Value.ownBlock,Option.some.injEq] at e1
       subst e1
       rw [hh] at ho;cases ho;rfl
     ·rw [hj] at e1;cases e1
    have old:∀ (k:Nat) (hh:HE),k≠j→HEnv.get ((j,.mrow e sz (es++xs))::(i,.dead)::H) k=some hh→hh.live=true→k≠i∧H.get k=some hh:=by
     intro k hh hne hk hl
     rw [HEnv.get_cons,if_neg (Ne.symm hne),HEnv.get_cons] at hk
     split at hk
     ·simp only [Option.some.injEq] at hk;subst hk;cases hl
     ·rename_i h;exact ⟨Ne.symm h,hk⟩
    have apt:∀ (k:Nat) (hh:HE) (bb:Nat),k≠i→H.get k=some hh→hh.live=true→v'.ownBlock=some bb→zq (ρ k)=some bb→False:=by
     intro k hh bb hne hk hl hv hb
     rcases hrow with ⟨_,e2⟩|⟨_,e2⟩
     ·exact hf.heap.apart i k _ hh bb (Ne.symm hne) hi hk rfl hl ((hbo hown bb).2 (by rw [←e2];exact hv)) hb
     ·have:=e2 bb hv
      have:=((hf.heap.ok k hh hk).block_lt hl hb).2
      omega
    refine ⟨v',w',K1,hrun,hlat,⟨hf.below.grown hgrow hf.below.size hrowB,hf.old,hf.new,fun b o h=>Nat.lt_of_lt_of_le (hf.lt b o h) hgrow.size,hf.others.trans (KeepsOthers.of_grownBy hgrow hcellsrow),hf.pt.grown hf.old hgrow hlat (fun b hb=>?_) hK1,?_,?_,?_⟩⟩
    ·rcases hrow with ⟨e1,_⟩|⟨e1,_⟩
     ·rw [hb] at e1;exact hf.away i _ b hi rfl ((hbo hown b).2 e1.symm)
     ·rw [hb] at e1;cases e1
    ·intro k hh b hk hl hb
     by_cases hkj:k=j
     ·subst hkj
      simp only [if_true] at hb
      have hv:=(hbo r2 b).1 hb
      rcases hrow with ⟨_,e2⟩|⟨_,e2⟩
      ·exact hf.away i _ b hi rfl ((hbo hown b).2 (by rw [←e2];exact hv))
      ·exact hf.pt.lt (e2 b hv)
     ·obtain ⟨h1,h2⟩:=old k hh hkj hk hl
      simp only [hkj,if_false] at hb
      exact hf.away k hh b h2 hl hb
    ·intro k hh hk
     by_cases hkj:k=j
     ·subst hkj
      rw [HEnv.get_cons,if_pos rfl,Option.some.injEq] at hk;subst hk
      simp only [if_true]
      refine ⟨us++news,by rw [hnl];exact r2,hsz,?_,?_⟩
      ·have:=hcr.append hown.1 n4
       intro k c hc
       obtain ⟨t1,t2⟩:=this k c hc
       exact ⟨t1,fun k' c' hc'=>let ⟨v,t3,t4,t5⟩:=t2 k' c' hc';⟨v,t3,t4,t5.later hlat⟩⟩
      ·intro b hb o h
       rcases hrow with ⟨e1,e2⟩|⟨_,e2⟩
       ·exact hKK' b (by rw [←e2];exact hb) o h
       ·have:=e2 b hb
        have:=hf.lt b o h;omega
     ·simp only [hkj,if_false]
      by_cases hlive:hh.live=true
      ·obtain ⟨h1,h2⟩:=old k hh hkj hk hlive
       have:=(hf.heap.ok k hh h2).grown (f:=id) hgrow hlat hK1 htr hlive (fun b hb hb'=>by
        rcases hrow with ⟨e1,_⟩|⟨e1,_⟩
        ·rw [hb'] at e1
         exact hf.heap.apart i k _ hh b (Ne.symm h1) hi h2 rfl hlive ((hbo hown b).2 e1.symm) hb
        ·rw [hb'] at e1;cases e1)
       cases hh <;> exact this
      ·cases hh <;> simp [HE.live] at hlive
       ·trivial
       ·rw [HEnv.get_cons,if_neg (Ne.symm hkj),HEnv.get_cons] at hk
        split at hk
        ·cases hk
        ·exact htr _ _ (hf.heap.ok k _ hk)
    ·intro p q hp hq bb hpq hkp hkq hlp hlq hbp hbq
     by_cases hpj:p=j
     ·subst hpj
      have hqp:q≠p:=Ne.symm hpq
      obtain ⟨h1,h2⟩:=old q hq hqp hkq hlq
      simp only [if_true] at hbp
      simp only [hqp,if_false] at hbq
      exact apt q hq bb h1 h2 hlq ((hbo r2 bb).1 hbp) hbq
     ·obtain ⟨h1,h2⟩:=old p hp hpj hkp hlp
      simp only [hpj,if_false] at hbp
      by_cases hqj:q=j
      ·subst hqj
       simp only [if_true] at hbq
       exact apt p hp bb h1 h2 hlp ((hbo r2 bb).1 hbq) hbp
      ·obtain ⟨h3,h4⟩:=old q hq hqj hkq hlq
       simp only [hqj,if_false] at hbq
       exact hf.heap.apart p q hp hq bb hpq h2 h4 hlp hlq hbp hbq
theorem zdf (htb:yc P tb) {ty e:Nat} {x y:Operand} {i:Nat} (j:Nat) {sz:Nat} {es xs:List PV} {full:Bool}
  (hop:o.op=.call { callee:=.builtin .append,args:=#[x,y],argTypes:=#[ty,ty] }) (hk:tb.k ty=.sl e) (hx:env.val x=some (.own i)) (hi:H.get i=some (.mrow e sz es)) (hj:H.get j=none) (hy:env.pv H y=some (.slc sz xs full))
  (hzz:(match tb.get e with|some ti=>(match ti.zero with|some z=>ti.size==sz&&z.cells.size==sz|none=>false)|none=>false)=true)
  (hbound:(es.length + xs.length) * (match tb.get e with|some ti=>ti.bytes|none=>0)≤140737488355328) (hb2:es.length + xs.length≤140737488355328) :
  EStepN P g H ((j,.mrow e sz (es++xs))::(i,.dead)::H) H ((j,.mrow e sz (es++xs))::(i,.dead)::H) o env (.own j) none:=by
 refine ⟨fun K ρ a w hf hv=>.inr ⟨rfl,?_⟩⟩
 obtain ⟨v',w',K',hrun,hlat,hf'⟩:=zgp (a:=a) htb hop hk hx hi hj hy hzz hbound hb2 hf hv
 refine ⟨v',w',K',_,.inl hrun,hf',hlat,fun k hk=>?_,?_⟩
 ·have hne:k≠j:=by rintro rfl;simp [hj] at hk
  simp [hne]
 ·have:=ARel.own (K:=K') (w:=w') (ρ:=fun k=>if k=j then v' else ρ k) (H:=(j,HE.mrow e sz (es++xs))::(i,.dead)::H) j (by simp [HEnv.get_cons])
  simpa using this
theorem zfC (t j:Nat) {u:Value} {av:AV} (hg:env.get t=some (.pv (.base u))) (hj:H.get j=some (.pin av u)) (h:QStep P g H o ((t,av)::env) r):QStep P g H o env r:=by
 refine ⟨fun K ρ a w hf hv=>h.go K ρ a w hf fun x hx av' hav=>?_⟩
 by_cases hxt:x=.tmp t
 ·subst hxt
  have e1:Env.val ((t,av)::env) (.tmp t)=some av:=by simp [Env.val,Env.get_cons]
  rw [e1,Option.some.injEq] at hav;subst hav
  have h1:=hv (.tmp t) hx (.pv (.base u)) hg
  have h2:=hf.heap.ok j _ hj
  generalize a.eval (.tmp t)=v at h1 ⊢
  cases h1 with
  | pv _ _ hp=>cases hp;exact h2
 ·refine hv x hx av' ?_
  cases x with
  | tmp t' =>
   have:t≠t':=fun e=>hxt (by rw [e])
   simpa [Env.val,Env.get_cons,this] using hav
  | _=>exact hav
theorem zf6 (t j:Nat) {u:Value} {av:AV} {pan:Option Value} (hg:env.get t=some (.pv (.base u))) (hj:H0.get j=some (.pin av u)) (hN:yE N av=true) (h:EStepN P g H0 H1 N N1 o ((t,av)::env) r pan):EStepN P g H0 H1 N N1 o env r pan:=by
 refine ⟨fun K ρ a w hf hv=>h.go K ρ a w hf fun x hx av' hav=>?_⟩
 by_cases hxt:x=.tmp t
 ·subst hxt
  have e1:Env.val ((t,av)::env) (.tmp t)=some av:=by simp [Env.val,Env.get_cons]
  rw [e1,Option.some.injEq] at hav;subst hav
  have h1:=hv (.tmp t) hx (.pv (.base u)) hg
  have h2:ARel K w ρ H0 av u:=hf.heap.ok j _ hj
  generalize a.eval (.tmp t)=v at h1 ⊢
  cases h1 with
  | pv _ _ hp=>cases hp;exact h2.refs hN
 ·refine hv x hx av' ?_
  cases x with
  | tmp t' =>
   have:t≠t':=fun e=>hxt (by rw [e])
   simpa [Env.val,Env.get_cons,this] using hav
  | _=>exact hav
theorem zah {ty e:TypeId} {x y:Operand} {sz:Nat} {full:Bool} {tb:Tab} (htb:yc P tb) (hop:o.op=.call { callee:=.builtin .append,args:=#[x,y],argTypes:=#[ty,ty] }) (hk:tb.k ty=.sl e)
  (hx:env.pv H x=some (.base (.slice none 0 0))) (hy:env.pv H y=some (.slc sz [] full)) (hke:(tb.get e).isSome=true):QStep P g H o env (.pv (.base (.slice none 0 0))):=by
 refine ⟨fun K ρ a w hf hv=>?_⟩
 cases hti:tb.get e with
 | none=>simp [hti] at hke
 | some ti =>
  obtain ⟨tin,q1,q2,q3,q4,_⟩:=yN htb hti
  have hxr:=zT (a:=a) hf (x:=x) (hv x (by rw [hop];simp [Op.operands,Call.operands])) hx
  have hyr:=zT (a:=a) hf (x:=y) (hv y (by rw [hop];simp [Op.operands,Call.operands])) hy
  obtain ⟨news,n1,n2,n3,n4,n5⟩:=Zo hyr
  have hnews:news=[]:=List.eq_nil_of_length_eq_zero (by simpa using n1)
  subst hnews
  generalize hxv:a.eval x=xv at hxr
  cases hxr
  have hrun:(execOp a.eval o).run P w=.ok (.value (.slice none 0 0)) w:=by
   have h0:(Builtin.append_ #[ty,ty] o.type #[.slice none 0 0,a.eval y]).run P w=.ok (.slice none 0 0) w:=by
    rcases n2 with ⟨e1,_⟩|⟨ad1,c1,e1,_⟩
    ·rw [e1];simp [Builtin.append_,run_underlying (yw htb hk),sizeOf,typeInfo,q1,Builtin.lenOf,Builtin.firstCells]
    ·rw [e1];simp [Builtin.append_,run_underlying (yw htb hk),sizeOf,typeInfo,q1,Builtin.lenOf,Builtin.firstCells,loadCells,loadCellsFrom]
   simp [execOp,hop,resolve,invoke,builtin,hxv,h0]
  rw [hrun]
  exact qA hf (.pv _ _ (.base _ rfl))
theorem zfQ {e:Env} (h:EStepN P g H0 H1 H0 H1 o e r none) (hk:yO N H0=true) (hr:yE N1 r=true):EStepN P g H0 H1 N N1 o e r none:=by
 refine ⟨fun K ρ a w hf hv=>?_⟩
 rcases h.go K ρ a w hf (fun x hx av hav=>(hv x hx av hav).keeps (.refl K w) fun j hj=>⟨qG hk j hj,rfl⟩) with ⟨f,vs,h1,h2⟩|⟨_,v,w',K',ρ',h1,h2,h3,h4,h5⟩
 ·exact .inl ⟨f,vs,h1,h2.mono fun ex w' ⟨v,K',ρ',q1,q2,q3,q4,q5⟩=>⟨v,K',ρ',q1,q2,q3,fun j hj=>q4 j (qG hk j hj),q5.refs hr⟩⟩
 ·exact .inr ⟨rfl,v,w',K',ρ',h1,h2,h3,fun j hj=>h4 j (qG hk j hj),h5.refs hr⟩
theorem zc1 (L k:Nat) (_:ops.length=L) (hok:YL ops k=true) (hB:qH (zx k ops 0) ((zx k ops 0).take k)=true) (hT:Yz (zx k ops 0) k=true) (hk:Nat.ble k (zx k ops 0).length=true)
  (h:AD P n g H (zx k ops 0) (fun env'=>AO P n g (zx k ops 0).toArray ((zx k ops 0).drop k) env' H (fun env' H'=>QQ .normal env' H')) ((zx k ops 0).take k) env):DR P n g ops env H QQ:=by
 obtain ⟨s⟩:=XK h
 have hk:=Nat.le_of_ble_eq_true hk
 refine ⟨fun a w hi=>?_⟩
 have hlen:=ZU k ops 0
 refine QE hok _ _ _ _ (by simp) ?_ ?_
 ·intro j o ho hl
  have hlt:=(List.getElem?_eq_some_iff.1 ho).1
  simp [Array.getD_eq_getD_getElem?,hlt] at hl
 obtain ⟨h1,h2,K,ρ,hf,he⟩:=hi
 have hev:Evo K K w { w with drawn:=w.drawn + 1 }:=(Evo.refl hf.lt).drew
 have hlk:((zx k ops 0).take k).length=k:=by simp;omega
 have hsz:ops.toArray.size=(zx k ops 0).length:=by simp [hlen]
 rw [hsz]
 generalize zx k ops 0=ops' at *
 refine Qc (l:=ops'.take k) (by rw [hlk]) s hB (by rw [hlk];exact hT) (fun env' a' w' h hi'=>?_) _ _ _ _ (by simp) ⟨h1,h2,by simp,by rw [hlk];exact hk,?_,?_,K,ρ,hf.evo hev,?_,?_⟩
 ·rw [hlk]
  exact ql (fun e a' w' ⟨env',H',h1,h2,h3⟩=>⟨env',H',h1,.inl h2,by rw [h2];exact h3⟩) (h.go a' w' hi')
 ·intro j _ hj
  simp [Array.getD_eq_getD_getElem?,hj]
 ·intro i o ho hli
  have hlt:=(List.getElem?_eq_some_iff.1 ho).1
  have:i < ops'.length:=by simp at hlt;omega
  simp [Array.getD_eq_getD_getElem?,this] at hli
 ·intro i o ri t ho hli
  have hlt:=(List.getElem?_eq_some_iff.1 ho).1
  have:i < ops'.length:=by simp at hlt;omega
  simp [Array.getD_eq_getD_getElem?,this] at hli
 ·intro t av hav _
  obtain ⟨v,v1,v2⟩:=he t av hav
  exact ⟨v,v1,v2.later (hev.later hf.lt)⟩
theorem qK (t:Nat) (_:(env.get t).isSome=true) (env2:Env) (H2:HEnv) (hs:Sub env env2) (hH:Xr H H2 env2) (k:AW P n g c env2 H2 QQ):AW P n g c env H QQ :=
 ⟨fun a w hi=>k.go a w ((hi.sub hs).hsub hH)⟩
theorem zgl {i j:Nat} (hf:FS g K ρ H w) (hi:(H.get i).isSome=true) (hj:H.get j=none):FS g K ρ ((j,.pin (.own i) (ρ i))::H) w:=by
 have hkk:∀ m,(H.get m).isSome=true→(HEnv.get ((j,.pin (.own i) (ρ i))::H) m).isSome=true∧ρ m=ρ m:=by
  intro m hm
  refine ⟨?_,rfl⟩
  rw [HEnv.get_cons];split <;> first|rfl|exact hm
 have hlive:∀ m hh,HEnv.get ((j,.pin (.own i) (ρ i))::H) m=some hh→hh.live=true→H.get m=some hh:=by
  intro m hh hm hl
  rw [HEnv.get_cons] at hm
  split at hm
  ·simp only [Option.some.injEq] at hm;subst hm;simp [HE.live] at hl
  ·exact hm
 refine ⟨hf.below,hf.old,hf.new,hf.lt,hf.others,hf.pt,fun m hh bb hm hl hb=>hf.away m hh bb (hlive m hh hm hl) hl hb,fun m hh hm=>?_,fun m m' hh hh' bb hmm hm hm' hl hl'=>hf.heap.apart m m' hh hh' bb hmm (hlive m hh hm hl) (hlive m' hh' hm' hl') hl hl'⟩
 rw [HEnv.get_cons] at hm
 split at hm
 ·simp only [Option.some.injEq] at hm;subst hm
  exact .own i (hkk i hi).1
 ·exact (hf.heap.ok m hh hm).keeps (.refl hf.lt) hf.lt hkk
theorem VJ {i j:Nat} {u:Value}:∀ m,(H.get m).isSome=true→(HEnv.get ((j,.pin (.own i) u)::H) m).isSome=true∧ρ m=ρ m:=by
 intro m hm
 refine ⟨?_,rfl⟩
 rw [HEnv.get_cons];split <;> first|rfl|exact hm
theorem own_base {i:Nat} {e sz:Nat} {es:List PV} (hf:FS g K ρ H w) (hi:H.get i=some (.mrow e sz es)):Yc (ρ i)=true:=by
 obtain ⟨us,hown,_⟩:=hf.heap.ok i _ hi
 rcases hown.2 with ⟨h,_⟩|⟨b2,cap,cur,h,_⟩ <;> rw [h] <;> rfl
theorem zkl (t j:Nat) {i e sz:Nat} {es:List PV} (hg:env.get t=some (.own i)) (hi:H.get i=some (.mrow e sz es)) (hj:H.get j=none) (k:∀ u,AO P n g ops.toArray l ((t,.pv (.base u))::env) ((j,.pin (.own i) u)::H) Q):AO P n g ops.toArray l env H Q:=by
 refine ⟨fun a w hinv=>?_⟩
 obtain ⟨g1,g2,K,ρ,hf,he⟩:=hinv
 refine (k (ρ i)).go a w ⟨g1,g2,K,ρ,zgl hf (by rw [hi];rfl) hj,fun t' av' h'=>?_⟩
 rw [Env.get_cons] at h'
 split at h'
 ·rename_i e1;subst e1
  simp only [Option.some.injEq] at h';subst h'
  obtain ⟨v,v1,v2⟩:=he _ _ hg
  cases v2 with
  | own _ _=>exact ⟨_,v1,.pv _ _ (.base _ (own_base hf hi))⟩
 ·obtain ⟨v,v1,v2⟩:=he t' av' h'
  exact ⟨v,v1,v2.keeps (.refl K w) VJ⟩
theorem zjZ (t j:Nat) {i e sz:Nat} {es:List PV} (hg:env.get t=some (.own i)) (hi:H.get i=some (.mrow e sz es)) (hj:H.get j=none) (k:∀ u,AW P n g c ((t,.pv (.base u))::env) ((j,.pin (.own i) u)::H) QQ):AW P n g c env H QQ:=by
 refine ⟨fun a w hinv=>?_⟩
 obtain ⟨g1,g2,K,ρ,hf,he⟩:=hinv
 refine (k (ρ i)).go a w ⟨g1,g2,K,ρ,zgl hf (by rw [hi];rfl) hj,fun t' av' h'=>?_⟩
 rw [Env.get_cons] at h'
 split at h'
 ·rename_i e1;subst e1
  simp only [Option.some.injEq] at h';subst h'
  obtain ⟨v,v1,v2⟩:=he _ _ hg
  cases v2 with
  | own _ _=>exact ⟨_,v1,.pv _ _ (.base _ (own_base hf hi))⟩
 ·obtain ⟨v,v1,v2⟩:=he t' av' h'
  exact ⟨v,v1,v2.keeps (.refl K w) VJ⟩
theorem zcJ (b k j:Nat) {i e sz:Nat} {es:List PV} {cs:List AV} (hb:H.get b=some (.cell (.agg cs))) (hk:cs[k]?=some (.own i)) (hi:H.get i=some (.mrow e sz es)) (hj:H.get j=none) (kk:∀ u,AW P n g c env ((b,.cell (.agg (cs.set k (.pv (.base u)))))::(j,.pin (.own i) u)::H) QQ):AW P n g c env H QQ:=by
 refine ⟨fun a w hinv=>?_⟩
 obtain ⟨g1,g2,K,ρ,hf,he⟩:=hinv
 have hbj:b≠j:=by rintro rfl;rw [hb] at hj;cases hj
 have hkk:∀ m,(H.get m).isSome=true→(HEnv.get ((b,.cell (.agg (cs.set k (.pv (.base (ρ i))))))::(j,.pin (.own i) (ρ i))::H) m).isSome=true∧ρ m=ρ m:=by
  intro m hm
  refine ⟨?_,rfl⟩
  rw [HEnv.get_cons]
  split
  ·rfl
  ·exact (VJ (ρ:=ρ) m hm).1
 have h1:=zgl hf (i:=i) (j:=j) (by rw [hi];rfl) hj
 have old:∀ m hh,HEnv.get ((b,.cell (.agg (cs.set k (.pv (.base (ρ i))))))::(j,.pin (.own i) (ρ i))::H) m=some hh→hh.live=true→∃ h2,HEnv.get ((j,.pin (.own i) (ρ i))::H) m=some h2∧h2.live=true:=by
  intro m hh hm hl
  rw [HEnv.get_cons] at hm
  split at hm
  ·rename_i e1;subst e1
   exact ⟨.cell (.agg cs),by rw [HEnv.get_cons,if_neg (Ne.symm hbj)];exact hb,rfl⟩
  ·exact ⟨hh,hm,hl⟩
 refine (kk (ρ i)).go a w ⟨g1,g2,K,ρ,⟨hf.below,hf.old,hf.new,hf.lt,hf.others,hf.pt,fun m hh bb hm hl hbb=>?_,fun m hh hm=>?_,fun m m' hh hh' bb hmm hm hm' hl hl'=>?_⟩,fun t av ht=>?_⟩
 ·obtain ⟨h2,e2,l2⟩:=old m hh hm hl
  exact h1.away m h2 bb e2 l2 hbb
 ·rw [HEnv.get_cons] at hm
  split at hm
  ·rename_i e1;subst e1
   simp only [Option.some.injEq] at hm;subst hm
   obtain ⟨b',t,arr,u,q1,q2,q3,q4,q5,q6⟩:=hf.heap.ok b _ hb
   refine ⟨b',t,arr,u,q1,q2,q3,?_,q5,q6⟩
   cases q4 with
   | agg _ vs v1 v2 v3 =>
    refine .agg _ vs (by rw [List.length_set];exact v1) v2 fun k' c' v' hc' hv'=>?_
    rw [List.getElem?_set] at hc'
    split at hc'
    ·rename_i ek;subst ek
     split at hc'
     ·simp only [Option.some.injEq] at hc';subst hc'
      have h3:=v3 k _ v' hk hv'
      cases h3 with
      | own _ _=>exact .pv _ _ (.base _ (own_base hf hi))
     ·cases hc'
    ·exact (v3 k' c' v' hc' hv').keeps (.refl K w) hkk
  ·have h3:=h1.heap.ok m hh hm
   refine h3.keeps (.refl hf.lt) hf.lt fun q hq=>⟨?_,rfl⟩
   rw [HEnv.get_cons];split <;> first|rfl|exact hq
 ·obtain ⟨h2,e2,l2⟩:=old m hh hm hl
  obtain ⟨h3,e3,l3⟩:=old m' hh' hm' hl'
  exact h1.heap.apart m m' h2 h3 bb hmm e2 e3 l2 l3
 ·obtain ⟨v,v1,v2⟩:=he t av ht
  exact ⟨v,v1,v2.keeps (.refl K w) hkk⟩
theorem VL (i j:Nat) (e:TypeId) (sz:Nat) (hsz:0 < sz) (hi:H.get i=none) (hj:H.get j=none) (hij:i≠j) (k:AW P n g c env ((j,.pin (.own i) (.slice none 0 0))::(i,.mrow e sz [])::H) QQ):AW P n g c env H QQ:=by
 refine ⟨fun a w hinv=>?_⟩
 obtain ⟨g1,g2,K,ρ,hf,he⟩:=hinv
 have hf1:FS g K (fun m=>if m=i then .slice none 0 0 else ρ m) ((i,.mrow e sz [])::H) w:=hf.fresh (.refl hf.lt) hi ⟨[],World.ownsRow_nil w _ e sz,hsz,fun i e h=>by simp at h,by simp [Value.ownBlock]⟩ (by simp [zq])
 have hf2:=zgl hf1 (i:=i) (j:=j) (by rw [HEnv.get_cons,if_pos rfl];rfl) (by rw [HEnv.get_cons,if_neg hij];exact hj)
 simp only [if_true] at hf2
 refine k.go a w ⟨g1,g2,K,_,hf2,fun t av ht=>?_⟩
 obtain ⟨v,v1,v2⟩:=he t av ht
 exact ⟨v,v1,(v2.keeps (.refl K w) (yu hi (.mrow e sz []) (.slice none 0 0))).keeps (.refl K w) VJ⟩
theorem zgI (i j:Nat) {e sz:Nat} {es:List PV} {u:Value} (hi:H.get i=some (.row e sz es)) (hj:H.get j=some (.pin (.own i) u)) (k:AW P n g c env ((j,.pin (.pv (.slc sz es false)) u)::H) QQ):AW P n g c env H QQ:=by
 refine ⟨fun a w hinv=>?_⟩
 obtain ⟨g1,g2,K,ρ,hf,he⟩:=hinv
 have hkk:∀ m,(H.get m).isSome=true→(HEnv.get ((j,.pin (.pv (.slc sz es false)) u)::H) m).isSome=true∧ρ m=ρ m:=by
  intro m hm
  refine ⟨?_,rfl⟩
  rw [HEnv.get_cons];split <;> first|rfl|exact hm
 have hlive:∀ m hh,HEnv.get ((j,.pin (.pv (.slc sz es false)) u)::H) m=some hh→hh.live=true→H.get m=some hh:=by
  intro m hh hm hl
  rw [HEnv.get_cons] at hm
  split at hm
  ·simp only [Option.some.injEq] at hm;subst hm;simp [HE.live] at hl
  ·exact hm
 refine k.go a w ⟨g1,g2,K,ρ,⟨hf.below,hf.old,hf.new,hf.lt,hf.others,hf.pt,fun m hh bb hm hl hb=>hf.away m hh bb (hlive m hh hm hl) hl hb,fun m hh hm=>?_,fun m m' hh hh' bb hmm hm hm' hl hl'=>hf.heap.apart m m' hh hh' bb hmm (hlive m hh hm hl) (hlive m' hh' hm' hl') hl hl'⟩,fun t av ht=>?_⟩
 ·rw [HEnv.get_cons] at hm
  split at hm
  ·simp only [Option.some.injEq] at hm;subst hm
   exact .pv _ _ (zfh hf hi (hf.heap.ok j _ hj))
  ·exact (hf.heap.ok m hh hm).keeps (.refl hf.lt) hf.lt hkk
 ·obtain ⟨v,v1,v2⟩:=he t av ht
  exact ⟨v,v1,v2.keeps (.refl K w) hkk⟩
theorem zcN {a:Act} {K:KK} {w:World} {ρ:Nat→Value} {ty e:TypeId} {x y:Operand} {sz:Nat} {es xs:List PV} {full:Bool} (i:Nat) (htb:yc P tb) (hop:o.op=.call { callee:=.builtin .append,args:=#[x,y],argTypes:=#[ty,ty] }) (hk:tb.k ty=.sl e)
  (hx:env.pv H x=some (.slc sz es true)∨(es=[]∧env.pv H x=some (.base (.slice none 0 0)))) (hy:env.pv H y=some (.slc sz xs full)) (hx0:0 < xs.length)
  (hzz:(match tb.get e with|some ti=>(match ti.zero with|some z=>ti.size==sz&&z.cells.size==sz&&Nat.blt 0 sz|none=>false)|none=>false)=true)
  (hbound:(es.length + xs.length) * (match tb.get e with|some ti=>ti.bytes|none=>0)≤140737488355328) (hb2:es.length + xs.length≤140737488355328) (hi:H.get i=none)
  (hf:FS g K ρ H w) (hv:∀ z∈o.op.operands,∀ av,env.val z=some av→ARel K w ρ H av (a.eval z)) :
  ∃ v' w' K',(execOp a.eval o).run P w=.ok (.value v') w'∧Later K K' w w'∧FS g K' (fun j=>if j=i then v' else ρ j) ((i,.mrow e sz (es++xs))::H) w':=by
 have hvx:∀ av,env.val x=some av→ARel K w ρ H av (a.eval x):=hv x (by rw [hop];simp [Op.operands,Call.operands])
 have hvy:∀ av,env.val y=some av→ARel K w ρ H av (a.eval y):=hv y (by rw [hop];simp [Op.operands,Call.operands])
 cases hti:tb.get e with
 | none=>simp [hti] at hzz
 | some ti =>
  cases hz:ti.zero with
  | none=>simp [hti,hz] at hzz
  | some z =>
   simp only [hti,hz,Bool.and_eq_true,beq_iff_eq] at hzz hbound
   obtain ⟨⟨z1,z2⟩,z3⟩:=hzz
   have hsz:0 < sz:=Nat.le_of_ble_eq_true z3
   obtain ⟨tin,q1,q2,q3,q4,_⟩:=yN htb hti
   have hyr:=zT (a:=a) hf (x:=y) hvy hy
   obtain ⟨news,n1,n2,n3,n4,n5⟩:=Zo hyr
   have hxr:PRel K w (.slc sz es true) (a.eval x):=by
    rcases hx with hx|⟨rfl,hx⟩
    ·exact zT (a:=a) hf (x:=x) hvx hx
    ·have:=zT (a:=a) hf (x:=x) hvx hx
     generalize a.eval x=xv at this ⊢
     cases this
     exact .nil sz true
   obtain ⟨us,m1,m2,m3,m4,m5⟩:=Zo hxr
   have hall:(us++news).length=(es.length + xs.length) * sz:=by rw [List.length_append,m1,n1,Nat.add_mul]
   have hone:∀ v∈us++news,v.oneCell'=true:=fun v hv'=>(List.mem_append.1 hv').elim (m3 v) (n3 v)
   have hcr:=m4.append m1 n4
   have hsmall:es.length + xs.length≤9223372036854775807:=by omega
   have hrun0:∀ {v':Value} {w':World},(Builtin.append_ #[ty,ty] o.type #[a.eval x,a.eval y]).run P w=.ok v' w'→(execOp a.eval o).run P w=.ok (.value v') w':=by
    intro v' w' h
    simp [execOp,hop,resolve,invoke,builtin,h]
   have hns:tin.size=sz:=by omega
   obtain ⟨cap,arr,hc1,hc2,hsize,htake,hrun⟩:∃ (cap:Nat) (arr:Array Value),es.length + xs.length≤cap∧cap≤maxLen∧arr.size=cap * sz∧arr.toList.take ((es.length + xs.length) * sz)=us++news ∧
     (execOp a.eval o).run P w=.ok (.value (.slice (some ⟨w.heap.size,0,none⟩) (es.length + xs.length) cap)) (w.drew.alloc (.cells arr e)):=by
    rcases n2 with ⟨hy0,hxl⟩|⟨ad',c',hy1,hy2,_,hxc⟩
    ·omega
    ·rcases m2 with ⟨e1,hel⟩|⟨ad1,c1,e1,e2,hfull,hle⟩
     ·have hes:es=[]:=List.eq_nil_of_length_eq_zero hel
      subst hes
      have hus:us=[]:=List.eq_nil_of_length_eq_zero (by simpa using m1)
      subst hus
      have hr:=run_append_nil (P:=P) w ty o.type e tin z (yw htb hk) q1 (by rw [q4];exact hz) ad' xs.length c' news (by rw [hns];exact n1) hy2 (by omega) (by simp at hsmall;omega) (by rw [q3];simp at hbound;omega)
      refine ⟨grownCap w xs.length 0 e,news.toArray++Builtin.zeroCells z.cells (grownCap w xs.length 0 e - xs.length),by simpa using grownCap_ge w xs.length 0 e,grownCap_le_maxLen w _ _ e (by unfold maxLen;simp at hsmall;omega),?_,?_,?_⟩
      ·have:=grownCap_ge w xs.length 0 e
       simp only [Array.size_append,List.size_toArray,size_zeroCells,n1,z2]
       rw [←Nat.add_mul];first|done|(congr 1;omega)
      ·rw [Array.toList_append]
       simp only [List.length_nil,Nat.zero_add,List.nil_append]
       rw [←n1,List.take_left' rfl]
      ·rw [hrun0 (by rw [e1,hy1];exact hr)];simp
     ·have hc1:c1=es.length:=hfull rfl
      subst hc1
      have hr:=run_append_grow (P:=P) w ty o.type e tin z (yw htb hk) q1 (by rw [q4];exact hz) ad1 es.length es.length us (by rw [hns];exact m1) e2 ad' xs.length c' news (by rw [hns];exact n1) hy2 (by omega) (by omega) (growslice_fits (by omega) (by rw [q3];exact hbound))
      refine ⟨grownCap w (es.length + xs.length) es.length e,us.toArray++news.toArray++Builtin.zeroCells z.cells (grownCap w (es.length + xs.length) es.length e - (es.length + xs.length)),grownCap_ge w _ _ e,grownCap_le_maxLen w _ _ e (by unfold maxLen;omega),?_,?_,?_⟩
      ·have:=grownCap_ge w (es.length + xs.length) es.length e
       simp only [Array.size_append,List.size_toArray,size_zeroCells,n1,m1,z2]
       rw [←Nat.add_mul,←Nat.add_mul];first|done|(congr 1;omega)
      ·rw [Array.toList_append,Array.toList_append]
       rw [←hall,List.take_left' (by simp)]
      ·rw [hrun0 (by rw [e1,hy1];exact hr)]
   have hevd:Evo K K w w.drew:=(Evo.refl hf.lt).drew
   have h4:=Qz (w:=w.drew) hevd.lt arr e 0
   have h3:Evo K K w.drew (w.drew.alloc (.cells arr e)):=⟨h4.below,fun _ _ h=>h,fun _ _ h=>.inl h,fun b o h=>h4.lt b o (h4.sub b o h)⟩
   have hev:=hevd.trans h3
   have hlat:=hev.later hf.lt
   have hds:w.drew.heap.size=w.heap.size:=rfl
   refine ⟨_,_,_,hrun,hlat,hf.fresh hev hi ⟨us++news,⟨?_,.inr ⟨w.heap.size,cap,arr,?_,hf.below.size,?_,?_,hc2,hsize,?_⟩⟩,hsz,?_,?_⟩ ?_⟩
   ·rw [hall,List.length_append]
   ·simp
   ·have:=heap_alloc_new w.drew (.cells arr e);rw [hds] at this;exact this
   ·rw [List.length_append];exact hc1
   ·rw [List.length_append];exact htake
   ·intro k e' he'
    obtain ⟨r1,r2⟩:=hcr k e' he'
    exact ⟨r1,fun k c hc=>let ⟨v,e1,e2,e3⟩:=r2 k c hc;⟨v,e1,e2,e3.later hlat⟩⟩
   ·intro b hb o' h
    simp [Value.ownBlock] at hb
    have:=hf.lt _ _ h
    omega
   ·intro b hb;simp [zq] at hb;omega
theorem QW {ty e:TypeId} {x y:Operand} {sz d:Nat} {es xs:List PV} {full:Bool} (i:Nat) (htb:yc P tb) (hg:guardE ops env o=some true) (hop:o.op=.call { callee:=.builtin .append,args:=#[x,y],argTypes:=#[ty,ty] }) (hk:tb.k ty=.sl e)
  (hx:env.pv H x=some (.slc sz es true)∨(es=[]∧env.pv H x=some (.base (.slice none 0 0)))) (hy:env.pv H y=some (.slc sz xs full)) (hx0:0 < xs.length)
  (hzz:(match tb.get e with|some ti=>(match ti.zero with|some z=>ti.size==sz&&z.cells.size==sz&&Nat.blt 0 sz|none=>false)|none=>false)=true)
  (hbound:(es.length + xs.length) * (match tb.get e with|some ti=>ti.bytes|none=>0)≤140737488355328) (hb2:es.length + xs.length≤140737488355328) (hi:H.get i=none) (hd:o.dst=some d) (ht:Nat.blt d n=true)
  (h:AO P n g ops.toArray rest ((d,.own i)::env) ((i,.mrow e sz (es++xs))::H) Q):AO P n g ops.toArray (o::rest) env H Q:=by
 refine ⟨fun a w hinv=>?_⟩
 have hw:=yh hinv hg
 obtain ⟨h1,h2,K,ρ,hf,he⟩:=hinv
 refine wpList_step fun KK hKK=>?_
 rw [if_pos hw]
 obtain ⟨v',w',K',hrun,hlat,hf'⟩:=zcN (a:=a) i htb hop hk hx hy hx0 hzz hbound hb2 hi hf (fun z _ av hz=>yA he hz)
 unfold Oper.wp
 rw [hrun]
 simp only [Oper.upon]
 refine hKK _ _ (h.go _ _ ⟨yB h1,put_defers h2,_,_,hf',?_⟩)
 rw [hd]
 refine yY h1 ht (he.keeps hlat (yu hi _ _)) ?_
 have:=ARel.own (K:=K') (w:=w') (ρ:=fun j=>if j=i then v' else ρ j) (H:=(i,HE.mrow e sz (es++xs))::H) i (by simp [HEnv.get_cons])
 simpa using this
end
section
variable {P:Program} {n:Nat} {g:Base} {H:HEnv} {env:Env} {ops l:List Oper} {Q:Env→HEnv→Prop}
theorem qy (t j:Nat) {u:Value} {av:AV} (hg:env.get t=some (.pv (.base u))) (hj:H.get j=some (.pin av u)) (k:AO P n g ops.toArray l ((t,av)::env) H Q):AO P n g ops.toArray l env H Q:=by
 refine ⟨fun a w hinv=>?_⟩
 obtain ⟨g1,g2,K,ρ,hf,he⟩:=hinv
 refine k.go a w ⟨g1,g2,K,ρ,hf,fun t' av' h'=>?_⟩
 rw [Env.get_cons] at h'
 split at h'
 ·rename_i e
  subst e
  simp only [Option.some.injEq] at h'
  subst h'
  obtain ⟨v,v1,v2⟩:=he _ _ hg
  cases v2 with
  | pv _ _ hp =>
   cases hp
   exact ⟨u,v1,hf.heap.ok j _ hj⟩
 ·exact he t' av' h'
theorem zgE {c:Code} {QQ:QC} (t:Nat) (_:(env.get t).isSome=true) (σ:Nat→Nat) (hσ:Inj σ) (env2:Env) (Hc:HEnv) (hs:zgo σ env2 env) (he2:Zz Hc env2=true) (hp:PartOf σ Hc H) (hin:hIn Hc Hc=true) (k:AW P n g c env2 Hc QQ):AW P n g c env H QQ:=zko σ hσ env2 Hc hs he2 hp hin k
end
end Go.Cg
