/- A part of the walks by abstract values: no statement of its own. -/
import Derived.Test.YtoeplllgofpddaaGreatU13
import Derived.Test.YtoeplllgofpddaaGreatU8
import Derived.Test.YtoeplllgofpddaaGreatU3
import Derived.Test.YtoeplllgofpddaaGreatU21
import Derived.Test.YtoeplllgofpddaaGreatU22
set_option linter.unusedVariables false
set_option linter.unusedSimpArgs false
namespace Go.Cg
open Go.RowKit
section
variable {P:Program} {tb:Tab} {g:Base} {K:KK} {w:World} {ρ:Nat→Value} {H:HEnv} {env:Env} {a:Act} {o:Oper}
theorem zea {ty e:TypeId} {x y:Operand} {sz:Nat} {es xs:List PV} {full:Bool} (i:Nat) (htb:qp P tb) (hop:o.op=.call { callee:=.builtin .append,args:=#[x,y],argTypes:=#[ty,ty] }) (hk:tb.k ty=.sl e)
  (hx:env.pv H x=some (.slc sz es true)∨(es=[]∧env.pv H x=some (.base (.slice none 0 0)))) (hy:env.pv H y=some (.slc sz xs full)) (hx0:0 < xs.length)
  (hzz:(match tb.get e with|some ti=>(match ti.zero with|some z=>ti.size==sz&&z.cells.size==sz&&Nat.blt 0 sz|none=>false)|none=>false)=true)
  (hbound:(es.length + xs.length) * (match tb.get e with|some ti=>ti.bytes|none=>0)≤140737488355328) (hb2:es.length + xs.length≤140737488355328) (hi:H.get i=none):EStepN P g H ((i,.row e sz (es++xs))::H) H ((i,.row e sz (es++xs))::H) o env (.own i) none:=by
 refine ⟨fun K ρ a w hf hv=>.inr ⟨rfl,?_⟩⟩
 obtain ⟨v',w',K',hrun,hlat,hf'⟩:=zci (a:=a) i htb hop hk hx hy hx0 hzz hbound hb2 hi hf hv
 refine ⟨v',w',K',_,hrun,hf',hlat,fun j hj=>(qO (ρ:=ρ) hi (.row e sz (es++xs)) v' j hj).2,?_⟩
 have:=ARel.own (K:=K') (w:=w') (ρ:=fun j=>if j=i then v' else ρ j) (H:=(i,HE.row e sz (es++xs))::H) i (by simp [HEnv.get_nil,HEnv.get_cons])
 simpa using this
theorem zmK (htb:qp P tb) {ty e:Nat} {x y:Operand} {i j:Nat} {sz:Nat} {es xs:List PV} {full:Bool}
  (hop:o.op=.call { callee:=.builtin .append,args:=#[x,y],argTypes:=#[ty,ty] }) (hk:tb.k ty=.sl e) (hx:env.val x=some (.own i)) (hi:H.get i=some (.row e sz es)) (hj:H.get j=none) (hy:env.pv H y=some (.slc sz xs full))
  (hzz:(match tb.get e with|some ti=>(match ti.zero with|some z=>ti.size==sz&&z.cells.size==sz|none=>false)|none=>false)=true)
  (hbound:(es.length + xs.length) * (match tb.get e with|some ti=>ti.bytes|none=>0)≤140737488355328) (hb2:es.length + xs.length≤140737488355328)
  (hf:FS g K ρ H w) (hv:∀ z∈o.op.operands,∀ av,env.val z=some av→ARel K w ρ H av (a.eval z)) :
  ∃ v' w' K',(execOp a.eval o).run P w=.ok (.value v') w'∧Later K K' w w'∧FS g K' (fun k=>if k=j then v' else ρ k) ((j,.row e sz (es++xs))::(i,.dead)::H) w':=by
 have hxr:=hv x (by rw [hop];simp [Op.operands,Call.operands]) _ hx
 have hvy:∀ av,env.val y=some av→ARel K w ρ H av (a.eval y):=hv y (by rw [hop];simp [Op.operands,Call.operands])
 have hij:j≠i:=by rintro rfl;rw [hi] at hj;cases hj
 cases hti:tb.get e with
 | none=>simp [hti] at hzz
 | some ti =>
  cases hz:ti.zero with
  | none=>simp [hti,hz] at hzz
  | some z =>
   simp only [hti,hz,Bool.and_eq_true,beq_iff_eq] at hzz hbound
   obtain ⟨tin,q1,q2,q3,q4,_⟩:=ZH htb hti
   have hyr:=qo (a:=a) hf (x:=y) hvy hy
   obtain ⟨us,hown,hsz,hcr,hKK'⟩:=hf.heap.ok i _ hi
   generalize hxv:a.eval x=xv at hxr
   cases hxr with
   | own _ hi' =>
    obtain ⟨news,n1,n2,n3,n4,n5⟩:=Xx hyr
    obtain ⟨v',w',r1,r2,r3⟩:=run_append_own' (P:=P) w g.w0.heap.size ty o.type e tin z sz ti.bytes (Zl htb hk) q1 (by rw [q4];exact hz) (by omega) q3 hzz.2 (ρ i) es.length us hown (a.eval y) xs.length news n1
     (n2.imp (fun h=>⟨h.1,by simpa using h.2⟩) (fun ⟨ad,c,hh,hh2,_⟩=>⟨ad,c,hh,hh2⟩)) n3 (by unfold maxLen;omega) hbound hf.below.size
    have hrun:(execOp a.eval o).run P w=.ok (.value v') w':=by
     simp [execOp,hop,resolve,invoke,builtin,hxv,r1]
    obtain ⟨row,hgrow,hrow⟩:∃ row,w.grownBy w' row∧((row=(ρ i).ownBlock∧v'.ownBlock=(ρ i).ownBlock)∨(row=none∧∀ b,v'.ownBlock=some b→w.heap.size≤b)):=by
     rcases r3 with ⟨h1,h2⟩|⟨h1,h2⟩
     ·exact ⟨_,h1,.inl ⟨rfl,h2⟩⟩
     ·exact ⟨_,h1,.inr ⟨rfl,h2⟩⟩
    let K1:KK:=fun b o=>K b o∨(v'.ownBlock=some b∧o < (es.length + xs.length) * sz)
    have hcellsame:∀ b o,K b o→w'.cell? ⟨b,o,none⟩=w.cell? ⟨b,o,none⟩:=by
     intro b o hbo
     by_cases hbb:row=some b
     ·rcases hrow with ⟨e1,e2⟩|⟨e1,_⟩
      ·rw [hbb] at e1
       have hlt:=(hKK' b e1.symm o).1 hbo
       have hu:us[o]?=some (us[o]'(by rw [hown.1];exact hlt)):=List.getElem?_eq_getElem _
       have c1:=hown.cells e1.symm o _ hu
       have hu':(us++news)[o]?=some (us[o]'(by rw [hown.1];exact hlt)):=by rw [List.getElem?_append_left (by rw [hown.1];exact hlt)];exact hu
       have c2:=r2.cells (g:=b) (by rw [e2];exact e1.symm) o _ hu'
       rw [Addr.add_lit,Nat.zero_add] at c1 c2
       rw [c1,c2]
      ·rw [hbb] at e1;cases e1
     ·exact World.cell?_of_block (hgrow.block b (hf.lt b o hbo) (Ne.symm hbb))
    have hlat:Later K K1 w w':=⟨fun b o h=>.inl h,hcellsame⟩
    have hvlt:=r2.lt
    have hrowB:∀ k,row=some k→g.w0.heap.size≤k:=by
     intro k hk
     rcases hrow with ⟨e1,_⟩|⟨e1,_⟩
     ·rw [hk] at e1;exact (hown.lt k e1.symm).1
     ·rw [hk] at e1;cases e1
    have hkeep:∀ k,(H.get k).isSome=true→(HEnv.get ((j,.row e sz (es++xs))::(i,.dead)::H) k).isSome=true∧(fun k=>if k=j then v' else ρ k) k=ρ k:=by
     intro k hk
     have hne:k≠j:=by rintro rfl;simp [hj] at hk
     refine ⟨?_,by simp [hne]⟩
     rw [HEnv.get_cons,if_neg (Ne.symm hne),HEnv.get_cons]
     split <;> first|rfl|exact hk
    have htr:∀ av v,ARel K w ρ H av v→ARel K1 w' (fun k=>if k=j then v' else ρ k) ((j,.row e sz (es++xs))::(i,.dead)::H) (id av) v:=fun av v h=>h.keeps hlat hkeep
    have hbo:∀ {v:Value} {nn:Nat} {zs:List Value} {ww:World} {BB:Nat},ww.ownsRow BB e sz v nn zs→∀ b,zY v=some b↔v.ownBlock=some b:=by
     intro v nn zs ww BB h b
     rcases h.2 with ⟨rfl,_⟩|⟨_,_,_,rfl,_⟩ <;> simp [zY,Value.ownBlock]
    have hK1:∀ b o,K1 b o→K b o∨row=some b∨w.heap.size≤b:=by
     rintro b o (h|⟨h,_⟩)
     ·exact .inl h
     ·rcases hrow with ⟨e1,e2⟩|⟨_,e2⟩
      ·exact .inr (.inl (by rw [e1,←e2];exact h))
      ·exact .inr (.inr (e2 b h))
    have hnl:(es++xs).length=es.length + xs.length:=List.length_append
    have hcellsrow:∀ (j:Nat) (o:Obj),row=some j→w.heap[j]?=some o→o.isCells=true:=by
     intro j o hj ho
     rcases hrow with ⟨e1,_⟩|⟨e1,_⟩
     ·rw [hj] at e1
      rcases hown.2 with ⟨h,_⟩|⟨b2,cap,cur,h,_,hh,_⟩
      ·rw [h] at e1;simp [Value.ownBlock] at e1
      ·rw [h] at e1
       simp only [Value.ownBlock,Option.some.injEq] at e1
       subst e1
       rw [hh] at ho;cases ho;rfl
     ·rw [hj] at e1;cases e1
    have old:∀ (k:Nat) (hh:HE),k≠j→HEnv.get ((j,.row e sz (es++xs))::(i,.dead)::H) k=some hh→hh.live=true→k≠i∧H.get k=some hh:=by
     intro k hh hne hk hl
     rw [HEnv.get_cons,if_neg (Ne.symm hne),HEnv.get_cons] at hk
     split at hk
     ·simp only [Option.some.injEq] at hk;subst hk;cases hl
     ·rename_i h;exact ⟨Ne.symm h,hk⟩
    have apt:∀ (k:Nat) (hh:HE) (bb:Nat),k≠i→H.get k=some hh→hh.live=true→v'.ownBlock=some bb→zY (ρ k)=some bb→False:=by
     intro k hh bb hne hk hl hv hb
     rcases hrow with ⟨_,e2⟩|⟨_,e2⟩
     ·exact hf.heap.apart i k _ hh bb (Ne.symm hne) hi hk rfl hl ((hbo hown bb).2 (by rw [←e2];exact hv)) hb
     ·have:=e2 bb hv
      have:=((hf.heap.ok k hh hk).block_lt hl hb).2
      omega
    refine ⟨v',w',K1,hrun,hlat,⟨hf.below.grown hgrow hf.below.size hrowB,fun b o h=>.inl (hf.old b o h),?_,?_,hf.others.trans (KeepsOthers.of_grownBy hgrow hcellsrow),hf.pt.grown hf.old hgrow hlat (fun b hb=>?_) hK1,?_,?_,?_⟩⟩
    ·rintro b o (h|⟨h,_⟩)
     ·exact hf.new b o h
     ·exact .inr (hvlt b h).1
    ·rintro b o (h|⟨h,_⟩)
     ·exact Nat.lt_of_lt_of_le (hf.lt b o h) hgrow.size
     ·exact (hvlt b h).2
    ·rcases hrow with ⟨e1,_⟩|⟨e1,_⟩
     ·rw [hb] at e1;exact hf.away i _ b hi rfl ((hbo hown b).2 e1.symm)
     ·rw [hb] at e1;cases e1
    ·intro k hh b hk hl hb
     by_cases hkj:k=j
     ·subst hkj
      simp only [if_true] at hb
      have hv:=(hbo r2 b).1 hb
      rcases hrow with ⟨_,e2⟩|⟨_,e2⟩
      ·exact hf.away i _ b hi rfl ((hbo hown b).2 (by rw [←e2];exact hv))
      ·exact hf.pt.lt (e2 b hv)
     ·obtain ⟨h1,h2⟩:=old k hh hkj hk hl
      simp only [hkj,if_false] at hb
      exact hf.away k hh b h2 hl hb
    ·intro k hh hk
     by_cases hkj:k=j
     ·subst hkj
      rw [HEnv.get_cons,if_pos rfl,Option.some.injEq] at hk;subst hk
      simp only [if_true]
      refine ⟨us++news,by rw [hnl];exact r2,hsz,?_,?_⟩
      ·have:=hcr.append hown.1 n4
       intro k c hc
       obtain ⟨t1,t2⟩:=this k c hc
       exact ⟨t1,fun k' c' hc'=>let ⟨v,t3,t4,t5⟩:=t2 k' c' hc';⟨v,t3,t4,t5.later hlat⟩⟩
      ·intro b hb o
       rw [hnl]
       refine ⟨?_,fun h=>.inr ⟨hb,h⟩⟩
       rintro (h|⟨_,h⟩)
       ·rcases hrow with ⟨e1,e2⟩|⟨_,e2⟩
        ·have:=(hKK' b (by rw [←e2];exact hb) o).1 h
         have:=Nat.mul_le_mul_right sz (show es.length≤es.length + xs.length by omega)
         omega
        ·have:=e2 b hb
         have:=hf.lt b o h;omega
       ·exact h
     ·simp only [hkj,if_false]
      by_cases hlive:hh.live=true
      ·obtain ⟨h1,h2⟩:=old k hh hkj hk hlive
       have:=(hf.heap.ok k hh h2).grown (f:=id) hgrow hlat hK1 htr hlive (fun b hb hb'=>by
        rcases hrow with ⟨e1,_⟩|⟨e1,_⟩
        ·rw [hb'] at e1
         exact hf.heap.apart i k _ hh b (Ne.symm h1) hi h2 rfl hlive ((hbo hown b).2 e1.symm) hb
        ·rw [hb'] at e1;cases e1)
       cases hh <;> exact this
      ·cases hh <;> simp [HE.live] at hlive
       ·trivial
       ·rw [HEnv.get_cons,if_neg (Ne.symm hkj),HEnv.get_cons] at hk
        split at hk
        ·cases hk
        ·exact htr _ _ (hf.heap.ok k _ hk)
    ·intro p q hp hq bb hpq hkp hkq hlp hlq hbp hbq
     by_cases hpj:p=j
     ·subst hpj
      have hqp:q≠p:=Ne.symm hpq
      obtain ⟨h1,h2⟩:=old q hq hqp hkq hlq
      simp only [if_true] at hbp
      simp only [hqp,if_false] at hbq
      exact apt q hq bb h1 h2 hlq ((hbo r2 bb).1 hbp) hbq
     ·obtain ⟨h1,h2⟩:=old p hp hpj hkp hlp
      simp only [hpj,if_false] at hbp
      by_cases hqj:q=j
      ·subst hqj
       simp only [if_true] at hbq
       exact apt p hp bb h1 h2 hlp ((hbo r2 bb).1 hbq) hbp
      ·obtain ⟨h3,h4⟩:=old q hq hqj hkq hlq
       simp only [hqj,if_false] at hbq
       exact hf.heap.apart p q hp hq bb hpq h2 h4 hlp hlq hbp hbq
theorem zh3 (htb:qp P tb) {ty e:Nat} {x y:Operand} {i:Nat} (j:Nat) {sz:Nat} {es xs:List PV} {full:Bool}
  (hop:o.op=.call { callee:=.builtin .append,args:=#[x,y],argTypes:=#[ty,ty] }) (hk:tb.k ty=.sl e) (hx:env.val x=some (.own i)) (hi:H.get i=some (.row e sz es)) (hj:H.get j=none) (hy:env.pv H y=some (.slc sz xs full))
  (hzz:(match tb.get e with|some ti=>(match ti.zero with|some z=>ti.size==sz&&z.cells.size==sz|none=>false)|none=>false)=true)
  (hbound:(es.length + xs.length) * (match tb.get e with|some ti=>ti.bytes|none=>0)≤140737488355328) (hb2:es.length + xs.length≤140737488355328) :
  EStepN P g H ((j,.row e sz (es++xs))::(i,.dead)::H) H ((j,.row e sz (es++xs))::(i,.dead)::H) o env (.own j) none:=by
 refine ⟨fun K ρ a w hf hv=>.inr ⟨rfl,?_⟩⟩
 obtain ⟨v',w',K',hrun,hlat,hf'⟩:=zmK (a:=a) htb hop hk hx hi hj hy hzz hbound hb2 hf hv
 refine ⟨v',w',K',_,hrun,hf',hlat,fun k hk=>?_,?_⟩
 ·have hne:k≠j:=by rintro rfl;simp [hj] at hk
  simp [hne]
 ·have:=ARel.own (K:=K') (w:=w') (ρ:=fun k=>if k=j then v' else ρ k) (H:=(j,HE.row e sz (es++xs))::(i,.dead)::H) j (by simp [HEnv.get_nil,HEnv.get_cons])
  simpa using this
end
end Go.Cg
namespace Go.Cg
open Go.Proofs
abbrev zt4 (a b:List Ty):PV:=.agg [tys a,tys b]
theorem znS (a b:List Ty):tys (a++b)=.slc 4 (a.map yJ++b.map yJ) false:=by rw [tys,List.map_append]
abbrev srB (M:Me):HEnv:=[(0,.cell (.pv (yL M)))]
def srH (M:Me) (la lb:List Ty):Nat→HEnv
 | 0=>srB M
 | 1=>(1,.row 60 4 ([]++la.map yJ))::srB M
 | _=>(2,.row 60 4 (([]++la.map yJ)++lb.map yJ))::(1,.dead)::(1,.row 60 4 ([]++la.map yJ))::srB M
theorem zlK (M:Me) (la lb:List Ty):∀ q p,q≤p→p≤3→YQ (srH M la lb q) (srH M la lb p)=true:=by
 intro q p h1 h2
 have hp:p=0∨p=1∨p=2∨p=3:=by omega
 have hq:q=0∨q=1∨q=2∨q=3:=by omega
 rcases hp with rfl|rfl|rfl|rfl <;> rcases hq with rfl|rfl|rfl|rfl <;> first|rfl|omega
theorem zqu (M:Me) (la lb:List Ty) {gB:Base}:∀ p,p≤3→∀ K ρ w,FS gB K ρ (srH M la lb p) w→FS gB K ρ (srB M) w:=by
 intro p hp K ρ w h
 have hp:p=0∨p=1∨p=2∨p=3:=by omega
 rcases hp with rfl|rfl|rfl|rfl
 ·exact h
 ·exact h.narrow (e:=[]) tH
 ·exact h.narrow (e:=[]) tH
 ·exact h.narrow (e:=[]) tH
set_option maxHeartbeats 8000000 in
theorem zij (g:Img) (hx:OkA g) (m a:Int) (la lb:List Ty):ACall Tryz.prog 7 [zH g,zrt m a,zt4 la lb] (pb true):=by
 have c1:=ze9 g
 have c2:=zcz g m a
 refine zh zf Tryz.func7 rfl (by kernel_rfl) Tryz.ntmps7 (by simp) _ rfl (fun hw gB hgB=>?_)
 cases hl:zaq g
 rotate_left 1
 ·rw [hl] at c1
  repeat' (first|refine AD.step _ _ _ _ _ rfl (yc 0 zf rfl rfl rfl rfl rfl rfl rfl) rfl rfl ?_|refine AD.step _ _ _ _ _ rfl (yc 1 zf rfl rfl rfl rfl rfl rfl rfl) rfl rfl ?_|(refine shC ?_;first|refine qC yT ?_|refine qC c1 ?_)|refine sK ?_|refine sC (fun _=>?_) (fun _=>?_)|fail)
  all_goals exact retq rfl rfl
 rw [hl] at c1
 by_cases hn:(20:Int) < (((la.map yJ).length:Nat):Int)
 ·have hd:=decide_eq_true hn
  repeat' (first|refine AD.step _ _ _ _ _ rfl (yc 0 zf rfl rfl rfl rfl rfl rfl rfl) rfl rfl ?_|refine AD.step _ _ _ _ _ rfl (yc 1 zf rfl rfl rfl rfl rfl rfl rfl) rfl rfl ?_|(refine shC ?_;first|refine qC yT ?_|refine qC c1 ?_|refine qC c2 ?_)|refine sK ?_|refine sC (fun _=>?_) (fun _=>?_)|fail)
  all_goals exact retq rfl rfl
 have hd:=decide_eq_false hn
 by_cases hn2:(20:Int) < (((lb.map yJ).length:Nat):Int)
 ·have hd2:=decide_eq_true hn2
  repeat' (first|refine AD.step _ _ _ _ _ rfl (yc 0 zf rfl rfl rfl rfl rfl rfl rfl) rfl rfl ?_|refine AD.step _ _ _ _ _ rfl (yc 1 zf rfl rfl rfl rfl rfl rfl rfl) rfl rfl ?_|(refine shC ?_;first|refine qC yT ?_|refine qC c1 ?_|refine qC c2 ?_)|refine sK ?_|refine sC (fun _=>?_) (fun _=>?_)|fail)
  all_goals exact retq rfl rfl
 have hd2:=decide_eq_false hn2
 cases ht:zdC g m a
 ·rw [ht] at c2
  repeat' (first|refine AD.step _ _ _ _ _ rfl (yc 0 zf rfl rfl rfl rfl rfl rfl rfl) rfl rfl ?_|refine AD.step _ _ _ _ _ rfl (yc 1 zf rfl rfl rfl rfl rfl rfl rfl) rfl rfl ?_|(refine shC ?_;first|refine qC yT ?_|refine qC c1 ?_|refine qC c2 ?_)|refine sK ?_|refine sC (fun _=>?_) (fun _=>?_)|fail)
  all_goals exact retq rfl rfl
 rw [ht] at c2
 obtain ⟨hc,hm,_,h0,h1⟩:=zeD ht
 have h1:a.toNat < (mAt g m).code.length:=by omega
 rw [List.length_map] at hn hn2
 have c3:=Vw g hx hc
 have c4:=Qs g hc hm h0 h1 lb (by omega)
 have c5:=Qs g hc hm h0 h1 (la++lb) (by simp;omega)
 have hem:=ZF hm
 have hei:((mAt g m).code.map ZP)[a.toNat]?=some (ZP (WY (mAt g m) a)):=by rw [WY,zL h1];exact yu h1
 have hrs:=ztS g (XD g (mAt g m)) (mAt g m) (WY (mAt g m) a)
 have hS0:∀ l,stepS g m a l=doS g (XD g (mAt g m)) (mAt g m) (WY (mAt g m) a) l:=fun _=>rfl
 rw [znS,hS0] at c5
 rw [hS0] at c4
 have hnz:=zsR g (XD g (mAt g m)) (mAt g m) (WY (mAt g m) a)
 generalize mAt g m=M at *
 generalize WY M a=x at *
 by_cases hE:x.op=46∨69≤x.op∧x.op≤73
 ·by_cases e46:x.op=46
  ·have hb:=beq_iff_eq.2 e46
   repeat' (first|refine AD.step _ _ _ _ _ rfl (yc 0 zf rfl rfl rfl rfl rfl rfl rfl) rfl rfl ?_|refine AD.step _ _ _ _ _ rfl (yc 1 zf rfl rfl rfl rfl rfl rfl rfl) rfl rfl ?_|(refine shC ?_;first|refine qC yT ?_|refine qC c1 ?_|refine qC c2 ?_)|(refine shX ?_;first|refine zB rfl (zl zf rfl rfl rfl rfl rfl rfl hm.1 hem) rfl rfl ?_|refine AD.step _ _ _ _ _ rfl (zl zf rfl rfl rfl rfl rfl rfl hm.1 hem) rfl rfl ?_|refine zB rfl (zl zf rfl rfl rfl rfl rfl rfl h0 hei) rfl rfl ?_|refine AD.step _ _ _ _ _ rfl (zl zf rfl rfl rfl rfl rfl rfl h0 hei) rfl rfl ?_)|refine sK ?_|refine sC (fun _=>?_) (fun _=>?_)|fail)
   all_goals exact retq rfl rfl
  ·have hb:=beq_eq_false_iff_ne.2 e46
   have hb1:decide (69≤x.op)=true:=decide_eq_true (by omega)
   have hb2:decide (x.op≤73)=true:=decide_eq_true (by omega)
   repeat' (first|refine AD.step _ _ _ _ _ rfl (yc 0 zf rfl rfl rfl rfl rfl rfl rfl) rfl rfl ?_|refine AD.step _ _ _ _ _ rfl (yc 1 zf rfl rfl rfl rfl rfl rfl rfl) rfl rfl ?_|(refine shC ?_;first|refine qC yT ?_|refine qC c1 ?_|refine qC c2 ?_)|(refine shX ?_;first|refine zB rfl (zl zf rfl rfl rfl rfl rfl rfl hm.1 hem) rfl rfl ?_|refine AD.step _ _ _ _ _ rfl (zl zf rfl rfl rfl rfl rfl rfl hm.1 hem) rfl rfl ?_|refine zB rfl (zl zf rfl rfl rfl rfl rfl rfl h0 hei) rfl rfl ?_|refine AD.step _ _ _ _ _ rfl (zl zf rfl rfl rfl rfl rfl rfl h0 hei) rfl rfl ?_)|refine sK ?_|refine sC (fun _=>?_) (fun _=>?_)|fail)
   all_goals exact retq rfl rfl
 have hrs:=hrs hE
 have hb:(x.op==46)=false:=beq_eq_false_iff_ne.2 fun h=>hE (.inl h)
 have hb3:(decide (69≤x.op)&&decide (x.op≤73))=false:=by
  rw [Bool.eq_false_iff];intro h;simp only [Bool.and_eq_true,decide_eq_true_eq] at h;exact hE (.inr h)
 have hb1:decide (69≤x.op)=true→decide (x.op≤73)=false:=fun h=>by rw [h] at hb3;exact hb3
 cases hS:doS g (XD g M) M x lb with
 | error e =>
  have hne:(e != 0)=true:=bne_iff_ne.2 (hnz _ _ hS)
  rw [hS] at c4
  cases hb5:decide (69≤x.op)
  ·repeat' (first|refine AD.step _ _ _ _ _ rfl (yc 0 zf rfl rfl rfl rfl rfl rfl rfl) rfl rfl ?_|refine AD.step _ _ _ _ _ rfl (yc 1 zf rfl rfl rfl rfl rfl rfl rfl) rfl rfl ?_|(refine shC ?_;first|refine qC yT ?_|refine qC c1 ?_|refine qC c2 ?_|refine qC c3 ?_|refine qC c4 ?_)|(refine shX ?_;first|refine zB rfl (zl zf rfl rfl rfl rfl rfl rfl hm.1 hem) rfl rfl ?_|refine AD.step _ _ _ _ _ rfl (zl zf rfl rfl rfl rfl rfl rfl hm.1 hem) rfl rfl ?_|refine zB rfl (zl zf rfl rfl rfl rfl rfl rfl h0 hei) rfl rfl ?_|refine AD.step _ _ _ _ _ rfl (zl zf rfl rfl rfl rfl rfl rfl h0 hei) rfl rfl ?_)|refine sK ?_|refine sC (fun _=>?_) (fun _=>?_)|fail)
   all_goals exact retq rfl rfl
  ·have hb6:=hb1 hb5
   repeat' (first|refine AD.step _ _ _ _ _ rfl (yc 0 zf rfl rfl rfl rfl rfl rfl rfl) rfl rfl ?_|refine AD.step _ _ _ _ _ rfl (yc 1 zf rfl rfl rfl rfl rfl rfl rfl) rfl rfl ?_|(refine shC ?_;first|refine qC yT ?_|refine qC c1 ?_|refine qC c2 ?_|refine qC c3 ?_|refine qC c4 ?_)|(refine shX ?_;first|refine zB rfl (zl zf rfl rfl rfl rfl rfl rfl hm.1 hem) rfl rfl ?_|refine AD.step _ _ _ _ _ rfl (zl zf rfl rfl rfl rfl rfl rfl hm.1 hem) rfl rfl ?_|refine zB rfl (zl zf rfl rfl rfl rfl rfl rfl h0 hei) rfl rfl ?_|refine AD.step _ _ _ _ _ rfl (zl zf rfl rfl rfl rfl rfl rfl h0 hei) rfl rfl ?_)|refine sK ?_|refine sC (fun _=>?_) (fun _=>?_)|fail)
   all_goals exact retq rfl rfl
 | ok p =>
  obtain ⟨⟨⟩,l2⟩:=p
  have hrl:=hrs lb () l2 hS la
  replace c4:ACall Tryz.prog 27 [.ptr (zH g) 0,pi m,pi a,tys lb] (.tup [tys l2,pi 0]):=by rw [hS] at c4;exact c4
  cases hb5:decide (69≤x.op)
  rotate_left 1
  have hb6:=hb1 hb5
  all_goals
   by_cases hfit:M.max < IntKind.i64.wrap ((((la.map yJ).length:Nat):Int) + (((l2.map yJ).length:Nat):Int))
   ·have hd4:=decide_eq_true hfit
    repeat' (first|refine AD.step _ _ _ _ _ rfl (yc 0 zf rfl rfl rfl rfl rfl rfl rfl) rfl rfl ?_|refine AD.step _ _ _ _ _ rfl (yc 1 zf rfl rfl rfl rfl rfl rfl rfl) rfl rfl ?_|(refine shC ?_;first|refine qC yT ?_|refine qC c1 ?_|refine qC c2 ?_|refine qC c3 ?_|refine qC c4 ?_)|(refine shX ?_;first|refine zB rfl (zl zf rfl rfl rfl rfl rfl rfl hm.1 hem) rfl rfl ?_|refine AD.step _ _ _ _ _ rfl (zl zf rfl rfl rfl rfl rfl rfl hm.1 hem) rfl rfl ?_|refine zB rfl (zl zf rfl rfl rfl rfl rfl rfl h0 hei) rfl rfl ?_|refine AD.step _ _ _ _ _ rfl (zl zf rfl rfl rfl rfl rfl rfl h0 hei) rfl rfl ?_)|refine sK ?_|refine sC (fun _=>?_) (fun _=>?_)|fail)
    all_goals exact retq rfl rfl
   ·have hd4:=decide_eq_false hfit
    have hb7:=(zsQ _ _ _ _ _ _ _ hS).2
    have c5':ACall Tryz.prog 27 [.ptr (zH g) 0,pi m,pi a,.slc 4 (la.map yJ++lb.map yJ) false] (.tup [tys (la++l2),pi 0]):=by
     rw [hrl (by rw [List.length_map,List.length_map,wrap_in (by omega) (by omega)] at hfit;omega)] at c5
     exact c5
    have c6:=zah (la++l2) (la++l2)
    rw [decide_eq_true rfl] at c6
    have h2l:=hb7
    by_cases hla:la=[]
    ·subst hla
     simp only [List.nil_append,List.map_nil] at c5' c6
     repeat' (first|refine AD.step _ _ _ _ _ rfl (yc 0 zf rfl rfl rfl rfl rfl rfl rfl) rfl rfl ?_|refine AD.step _ _ _ _ _ rfl (yc 1 zf rfl rfl rfl rfl rfl rfl rfl) rfl rfl ?_|refine AD.step _ _ _ _ _ rfl (zbj zf rfl rfl rfl rfl rfl) rfl rfl ?_|refine AD.step _ _ _ _ _ rfl (Qq zf rfl rfl (.inl rfl) rfl rfl (by show _ * 32≤_;simp;omega) (by simp;omega)) rfl rfl ?_|refine AD.step _ _ _ _ _ rfl (YK zf rfl rfl rfl rfl rfl) rfl rfl ?_|refine zB rfl (YK zf rfl rfl rfl rfl rfl) rfl rfl ?_|refine zB rfl (zbj zf rfl rfl rfl rfl rfl) rfl rfl ?_|refine zB rfl (Qq zf rfl rfl (.inl rfl) rfl rfl (by show _ * 32≤_;simp;omega) (by simp;omega)) rfl rfl ?_|(refine shC ?_;first|refine qC yT ?_|refine qC c1 ?_|refine qC c2 ?_|refine qC c3 ?_|refine qC c4 ?_|refine qC c5' ?_|refine qC c6 ?_)|(refine shX ?_;first|refine zB rfl (zl zf rfl rfl rfl rfl rfl rfl hm.1 hem) rfl rfl ?_|refine AD.step _ _ _ _ _ rfl (zl zf rfl rfl rfl rfl rfl rfl hm.1 hem) rfl rfl ?_|refine zB rfl (zl zf rfl rfl rfl rfl rfl rfl h0 hei) rfl rfl ?_|refine AD.step _ _ _ _ _ rfl (zl zf rfl rfl rfl rfl rfl rfl h0 hei) rfl rfl ?_)|refine sK ?_|refine sC (fun _=>?_) (fun _=>?_)|fail)
     all_goals first|exact retq rfl rfl|(fail)
    ·have hp:0 < (la.map yJ).length:=by rw [List.length_map];exact List.length_pos_iff.2 hla
     rw [znS] at c6 c5'
     repeat' (first|refine AD.step _ _ _ _ _ rfl (yc 0 zf rfl rfl rfl rfl rfl rfl rfl) rfl rfl ?_|refine AD.step _ _ _ _ _ rfl (yc 1 zf rfl rfl rfl rfl rfl rfl rfl) rfl rfl ?_|refine AD.step _ _ _ _ _ rfl (YK zf rfl rfl rfl rfl rfl) rfl rfl ?_|refine zB rfl (YK zf rfl rfl rfl rfl rfl) rfl rfl ?_|refine zbt 16 16 [7,9,10] (srH M la lb) (srH M la lb) (srB M) none rfl (by kernel_rfl) (by kernel_rfl) (by kernel_rfl) (by kernel_rfl) (by kernel_rfl) (by kernel_rfl) rfl (zqu M la lb) rfl (zlK M la lb) (fun q h=>zlK M la lb q 3 h (Nat.le_refl 3)) tH rfl (fun v hv=>by cases hv) ?_|refine zbL 7 [1,2] (.own 1) rfl rfl rfl rfl rfl ?_|refine zbL 1 [0] (.own 2) rfl rfl rfl rfl rfl ?_|refine zbL 0 [] (.pv (.tup [.slc 4 (la.map yJ++l2.map yJ) false,pi 0])) rfl rfl rfl rfl rfl ?_|refine zgB ?_|refine ⟨⟨rfl,zea 1 zf rfl rfl (.inl rfl) rfl hp rfl (by show _ * 32≤_;simp;omega) (by simp;omega) rfl,.inr (by kernel_rfl)⟩,?_⟩|refine ⟨⟨rfl,zh3 zf 2 rfl rfl rfl rfl rfl rfl rfl (by show _ * 32≤_;simp;omega) (by simp;omega),.inr (by kernel_rfl)⟩,?_⟩|intro _|refine zfi ?_|refine ⟨⟨rfl,zfJ rfl rfl (fun _ _ _ h=>h) c5',.inl rfl⟩,?_⟩|refine zox 109 rfl rfl ?_|(refine shC ?_;first|refine qC yT ?_|refine qC c1 ?_|refine qC c2 ?_|refine qC c3 ?_|refine qC c4 ?_|refine qC c5' ?_|refine qC c6 ?_)|(refine shX ?_;first|refine zB rfl (zl zf rfl rfl rfl rfl rfl rfl hm.1 hem) rfl rfl ?_|refine AD.step _ _ _ _ _ rfl (zl zf rfl rfl rfl rfl rfl rfl hm.1 hem) rfl rfl ?_|refine zB rfl (zl zf rfl rfl rfl rfl rfl rfl h0 hei) rfl rfl ?_|refine AD.step _ _ _ _ _ rfl (zl zf rfl rfl rfl rfl rfl rfl h0 hei) rfl rfl ?_)|(refine yH ?_;first|refine QW 5 zf rfl rfl rfl (.inl rfl) rfl hp rfl (by show _ * 32≤_;simp;omega) (by simp;omega) rfl rfl rfl ?_|refine yU zf rfl rfl rfl rfl rfl rfl rfl (by show _ * 32≤_;simp;omega) (by simp;omega) rfl rfl ?_)|refine sK ?_|refine sC (fun _=>?_) (fun _=>?_)|fail)
     all_goals first|exact retq rfl rfl|(fail)
end Go.Cg
