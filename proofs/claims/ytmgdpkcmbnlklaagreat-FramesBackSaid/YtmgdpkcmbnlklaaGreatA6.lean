/- A part of the walks by abstract values: no statement of its own. -/
import Derived.Test.YtmgdpkcmbnlklaaGreatA5
import Derived.WalkSpells
import Derived.Maps.Own
import Derived.Maps.Views
set_option linter.unusedVariables false
set_option linter.unusedSimpArgs false
namespace Go.Cg
open Go.RowKit
section
variable {P:Program} {tb:Tab} {n:Nat} {g:Base} {K K':KK} {w w':World} {ρ ρ':Nat→Value} {H H':HEnv} {env:Env} {a:Act} {ops:List Oper} {o:Oper} {rest:List Oper} {Q:Env→HEnv→Prop} {QQ:QC} {c:Code}
theorem zjF {t:TypeId} {x i:Operand} {s:ByteArray} {k:IntKind} {m:Int} {b:UInt8} (htb:yc P tb) (hop:o.op=.index t x i) (hk:tb.k t=.str) (hx:env.pv H x=some (.base (.string s))) (hi:env.pv H i=some (.base (.int k m))) (h0:0≤m) (hb:s[m.toNat]?=some b) :
  QStep P g H o env (.pv (.base (.int .u8 b.toNat))):=by
 refine ⟨fun K ρ a w hf hv=>?_⟩
 have hxr:=zT hf (hv x (by rw [hop];simp [Op.operands])) hx
 have hir:=zT hf (hv i (by rw [hop];simp [Op.operands])) hi
 generalize hxv:a.eval x=xv at hxr
 generalize hiv:a.eval i=iv at hir
 cases hir;cases hxr
 have:(execOp a.eval o).run P w=.ok (.value (.int .u8 b.toNat)) w:=by
  simp [execOp,hop,hxv,hiv,Instr.index,asIntOf,run_underlying (zfM htb hk),h0,hb]
 rw [this]
 exact qA hf (.pv _ _ (.base _ rfl))
def VD (env:Env) (H:HEnv) (d:Int):Option Operand→Option Int
 | none=>some d
 | some x=>match env.pv H x with|some (.base (.int _ m))=>some m|_=>none
theorem zbP (hf:FS g K ρ H w) {x:Option Operand} {d m:Int} (hv:∀ y∈x.toArray,∀ av,env.val y=some av→ARel K w ρ H av (a.eval y)) (h:VD env H d x=some m) :
  (x=none∧m=d)∨∃ y k,x=some y∧a.eval y=.int k m:=by
 cases x with
 | none=>simp [VD] at h;exact .inl ⟨rfl,h.symm⟩
 | some y =>
  simp only [VD] at h
  split at h
  ·rename_i k m' hm
   simp only [Option.some.injEq] at h;subst h
   have:=zT hf (hv y (by simp)) hm
   generalize hyv:a.eval y=yv at this
   cases this
   exact .inr ⟨y,k,rfl,hyv⟩
  ·cases h
theorem zg7 {t e:TypeId} {parts:Array (Nat × Operand)} (htb:yc P tb) (hop:o.op=.buildSlice t 0 parts) (hp:parts=#[]) (hk:tb.k t=.sl e) (hke:tb.known e=true) (hsz:Nat.blt 0 (tb.size e)=true):QStep P g H o env (.pv (.slc (tb.size e) [] true)):=by
 refine ⟨fun K ρ a w hf hv=>?_⟩
 subst hp
 have hko:tb.k e≠.oth:=by intro h;simp [Tab.known,h] at hke
 have hs:=run_sizeOf htb hko w
 have hrun:(execOp a.eval o).run P w=.ok (.value (.slice (some ⟨w.heap.size,0,none⟩) 0 0)) (w.alloc (.cells #[] e)):=by
  have e0:Array.range 0=#[]:=Array.eq_empty_of_size_eq_zero (by simp)
  simp [execOp,hop,Instr.buildSlice,run_underlying (yw htb hk),hs,Instr.fill,newRow,e0]
 rw [hrun]
 refine ⟨_,Qz hf.lt #[] e 0,.pv _ _ ?_⟩
 have:=PRel.slc (K:=Wj K w 0) (w:=w.alloc (.cells #[] e)) (tb.size e) [] true w.heap.size 0 0 (fun _=>[]) (Nat.le_of_ble_eq_true hsz) (Nat.le_refl _) (fun _=>rfl) (by simp [maxLen]) (by simp [maxLen]) (fun i e h=>by simp at h) (fun i e k c v h=>by simp at h)
 exact this
theorem WH {t e:TypeId} {x:Operand} {lo hi:Option Operand} {sz:Nat} {es:List PV} {full:Bool} {l h:Int} (htb:yc P tb) (hop:o.op=.slice t x lo hi none) (hk:tb.k t=.sl e) (hke:tb.known e=true) (hsz:tb.size e=sz) (hx:env.pv H x=some (.slc sz es full))
  (hlo:VD env H 0 lo=some l) (hhi:VD env H es.length hi=some h) (h0:0≤l) (h1:l≤h) (h2:h≤es.length):QStep P g H o env (.pv (.slc sz ((es.take h.toNat).drop l.toNat) false)):=by
 refine ⟨fun K ρ a w hf hv=>?_⟩
 have hxr:=zT hf (hv x (by rw [hop];simp [Op.operands])) hx
 generalize hxv:a.eval x=xv at hxr
 have el:=zbP (a:=a) hf (x:=lo) (fun y hy=>hv y (by rw [hop];simp [Op.operands] at hy ⊢;exact .inr (.inl hy))) hlo
 have eh:=zbP (a:=a) hf (x:=hi) (fun y hy=>hv y (by rw [hop];simp [Op.operands] at hy ⊢;exact .inr (.inr hy))) hhi
 have hko:tb.k e≠.oth:=by intro h;simp [Tab.known,h] at hke
 have hs:=run_sizeOf htb hko w
 have hh0:0≤h:=by omega
 have hlh:l≤((h.toNat:Nat):Int):=by omega
 have bounds:∀ cap:Nat,es.length≤cap→(Instr.sliceBounds true es.length cap (lo.map a.eval) (hi.map a.eval) none).run P w=.ok (l.toNat,h.toNat,cap) w:=by
  intro cap hcap
  have hhc:h≤(cap:Int):=by omega
  rcases el with ⟨rfl,rfl⟩|⟨y,k,rfl,hy⟩ <;> rcases eh with ⟨rfl,rfl⟩|⟨z,k',rfl,hz⟩
  ·simp [Instr.sliceBounds]
  ·simp [hz,Instr.sliceBounds,Instr.sliceBound,asIntOf,hhc,hh0]
  ·simp [hy,Instr.sliceBounds,Instr.sliceBound,asIntOf,h0,h1]
  ·simp [hy,hz,Instr.sliceBounds,Instr.sliceBound,asIntOf,h0,hlh,hhc,hh0]
   intro hc;omega
 cases hxr with
 | nil =>
  simp only [List.length_nil,Int.natCast_zero] at h2 bounds
  have e1:l=0:=by omega
  have e2:h=0:=by omega
  subst e1 e2
  have hrun:(execOp a.eval o).run P w=.ok (.value (.slice none 0 0)) w:=by
   have:=bounds 0 (Nat.le_refl _)
   simp [execOp,hop,hxv,Instr.sliceAt,Instr.slice,run_underlying (yw htb hk),this,hs]
  rw [hrun]
  exact qA hf (.pv _ _ (by simpa using PRel.nil (K:=K) (w:=w) sz false))
 | emp _ _ ad =>
  simp only [List.length_nil,Int.natCast_zero] at h2 bounds
  have e1:l=0:=by omega
  have e2:h=0:=by omega
  subst e1 e2
  have hrun:(execOp a.eval o).run P w=.ok (.value (.slice (some ad) 0 0)) w:=by
   have:=bounds 0 (Nat.le_refl _)
   simp [execOp,hop,hxv,Instr.sliceAt,Instr.slice,run_underlying (yw htb hk),this,hs]
  rw [hrun]
  exact qA hf (.pv _ _ (by simpa using PRel.emp (K:=K) (w:=w) sz false ad))
 | slc _ _ _ b off cap vss q0 q1 q2 q3 q4 q5 q6 =>
  have hb:=bounds cap q1
  have hlen:((es.take h.toNat).drop l.toNat).length=h.toNat - l.toNat:=by simp;omega
  have hget:∀ i e,((es.take h.toNat).drop l.toNat)[i]?=some e→es[l.toNat + i]?=some e:=by
   intro i e he
   rw [List.getElem?_drop,List.getElem?_take] at he
   split at he
   ·exact he
   ·cases he
  have hrun:(execOp a.eval o).run P w=.ok (.value (.slice (if cap=l.toNat then some ⟨b,off,none⟩ else some ⟨b,off + l.toNat * sz,none⟩) (h.toNat - l.toNat) (cap - l.toNat))) w:=by
   simp [execOp,hop,hxv,Instr.sliceAt,Instr.slice,run_underlying (yw htb hk),hb,hs,hsz,Addr.add_lit]
  rw [hrun]
  refine qA hf (.pv _ _ ?_)
  have key:∀ off',(off'=off + l.toNat * sz∨h.toNat - l.toNat=0)→PRel K w (.slc sz ((es.take h.toNat).drop l.toNat) false) (.slice (some ⟨b,off',none⟩) (h.toNat - l.toNat) (cap - l.toNat)):=by
   intro off' hoff
   have:=PRel.slc (K:=K) (w:=w) sz ((es.take h.toNat).drop l.toNat) false b off' (cap - l.toNat) (fun i=>vss (l.toNat + i)) q0 (by rw [hlen];omega) (by simp) (by rw [hlen];omega) (by omega)
    (fun i e he=>by
     have he':=hget i e he
     obtain ⟨r1,r2,r3⟩:=q5 _ e he'
     refine ⟨r1,r2,?_⟩
     rcases hoff with rfl|hz
     ·rw [Nat.add_assoc,←Nat.add_mul];exact r3
     ·have:=(List.getElem?_eq_some_iff.1 he).1;rw [hlen] at this;omega)
    (fun i e k c v he=>q6 _ e k c v (hget i e he))
   rw [hlen] at this
   exact this
  split
  ·rename_i hcl
   exact key off (.inr (by omega))
  ·exact key _ (.inl rfl)
theorem zbt {ty e:TypeId} {x y:Operand} {sz:Nat} {es xs:List PV} {full:Bool} (htb:yc P tb) (hop:o.op=.call { callee:=.builtin .append,args:=#[x,y],argTypes:=#[ty,ty] }) (hk:tb.k ty=.sl e)
  (hx:env.pv H x=some (.slc sz es true)∨(es=[]∧env.pv H x=some (.base (.slice none 0 0)))) (hy:env.pv H y=some (.slc sz xs full))
  (hzz:(match tb.get e with|some ti=>(match ti.zero with|some z=>ti.size==sz&&z.cells.size==sz&&Nat.blt 0 sz|none=>false)|none=>false)=true)
  (hbound:(es.length + xs.length) * (match tb.get e with|some ti=>ti.bytes|none=>0)≤140737488355328) (hb2:es.length + xs.length≤140737488355328):QStep P g H o env (.pv (.slc sz (es++xs) false)):=by
 refine ⟨fun K ρ a w hf hv=>?_⟩
 cases hti:tb.get e with
 | none=>simp [hti] at hzz
 | some ti =>
  cases hz:ti.zero with
  | none=>simp [hti,hz] at hzz
  | some z =>
   simp only [hti,hz,Bool.and_eq_true,beq_iff_eq] at hzz hbound
   obtain ⟨⟨z1,z2⟩,z3⟩:=hzz
   have hsz:0 < sz:=Nat.le_of_ble_eq_true z3
   obtain ⟨tin,q1,q2,q3,q4,_⟩:=yN htb hti
   have hyr:=zT hf (hv y (by rw [hop];simp [Op.operands,Call.operands])) hy
   obtain ⟨news,n1,n2,n3,n4,n5⟩:=Zo hyr
   have hxr:PRel K w (.slc sz es true) (a.eval x):=by
    rcases hx with hx|⟨rfl,hx⟩
    ·exact zT hf (hv x (by rw [hop];simp [Op.operands,Call.operands])) hx
    ·have:=zT hf (hv x (by rw [hop];simp [Op.operands,Call.operands])) hx
     generalize a.eval x=xv at this ⊢
     cases this
     exact .nil sz true
   obtain ⟨us,m1,m2,m3,m4,m5⟩:=Zo hxr
   have hall:(us++news).length=(es.length + xs.length) * sz:=by rw [List.length_append,m1,n1,Nat.add_mul]
   have hone:∀ v∈us++news,v.oneCell'=true:=fun v hv'=>(List.mem_append.1 hv').elim (m3 v) (n3 v)
   have hcr:=m4.append m1 n4
   have fin:∀ (w2:World) (cap:Nat) (junk:List Value),Evo K K w w2→es.length + xs.length≤cap→cap≤maxLen→∀ (w3:World) (arr:Array Value),arr=(us++news++junk).toArray→w3=w2.alloc (.cells arr e) →
     ∃ K',Evo K K' w w3∧PRel K' w3 (.slc sz (es++xs) false) (.slice (some ⟨w2.heap.size,0,none⟩) (es.length + xs.length) cap):=by
    rintro w2 cap junk hev hc1 hc2 w3 arr rfl rfl
    have hlt2:∀ b o,K b o→b < w2.heap.size:=hev.lt
    have h3:=Qz hlt2 (us++news++junk).toArray e ((us++news).length)
    refine ⟨_,hev.trans h3,?_⟩
    have hlat:=(hev.trans h3).later hf.lt
    have hcell:∀ j v,(us++news)[j]?=some v→Wj K w2 (us++news).length w2.heap.size j∧(w2.alloc (.cells (us++news++junk).toArray e)).cell? ⟨w2.heap.size,j,none⟩=some v:=by
     intro j v hj
     have hjl:=(List.getElem?_eq_some_iff.1 hj).1
     refine ⟨.inr ⟨rfl,hjl⟩,?_⟩
     rw [World.cell?_alloc_new]
     simp only [List.getElem?_toArray]
     rw [List.getElem?_append_left hjl];exact hj
    have:=PRel.slc (K:=Wj K w2 (us++news).length) (w:=w2.alloc (.cells (us++news++junk).toArray e)) sz (es++xs) false w2.heap.size 0 cap (fun i=>((us++news).drop (i * sz)).take sz) hsz (by rw [List.length_append];exact hc1) (by simp) (by rw [List.length_append];unfold maxLen;omega) hc2
     (fun i e' he=>by
      obtain ⟨r1,r2⟩:=hcr i e' he
      have hi:=(List.getElem?_eq_some_iff.1 he).1
      rw [List.length_append] at hi
      have hil:=Nat.mul_le_mul_right sz (show i + 1≤es.length + xs.length by omega)
      rw [Nat.add_mul] at hil
      refine ⟨r1,by simp only [List.length_take,List.length_drop];omega,?_⟩
      intro k v hv'
      rw [List.getElem?_take] at hv'
      split at hv'
      ·rw [List.getElem?_drop] at hv'
       obtain ⟨c1,c2⟩:=hcell _ v hv'
       rw [Nat.zero_add]
       exact ⟨c1,c2,hone v (List.mem_of_getElem? hv')⟩
      ·cases hv')
     (fun i e' k c v he hc hv'=>by
      obtain ⟨r1,r2⟩:=hcr i e' he
      obtain ⟨v',e1,_,e3⟩:=r2 k c hc
      rw [List.getElem?_take] at hv'
      split at hv'
      ·rw [List.getElem?_drop,e1] at hv'
       cases hv'
       exact e3.later hlat
      ·cases hv')
    rw [show (es++xs).length=es.length + xs.length from List.length_append] at this
    exact this
   have hsmall:es.length + xs.length≤9223372036854775807:=by omega
   have hrun0:∀ {v':Value} {w':World},(Builtin.append_ #[ty,ty] o.type #[a.eval x,a.eval y]).run P w=.ok v' w'→(execOp a.eval o).run P w=.ok (.value v') w':=by
    intro v' w' h
    simp [execOp,hop,resolve,invoke,builtin,h]
   have hcapmax:∀ need old,need≤9223372036854775807→grownCap w need old e≤maxLen:=fun need old h=>grownCap_le_maxLen w need old e (by unfold maxLen;omega)
   have hevd:Evo K K w w.drew:=(Evo.refl hf.lt).drew
   rcases n2 with ⟨hy0,hxl⟩|⟨ad',c',hy1,hy2,_,hxc⟩
   ·
    have hxs:xs=[]:=List.eq_nil_of_length_eq_zero hxl
    subst hxs
    have hrun:(Builtin.append_ #[ty,ty] o.type #[a.eval x,a.eval y]).run P w=.ok (a.eval x) w:=by
     rcases m2 with ⟨e1,_⟩|⟨ad1,c1,e1,_,_,hle⟩
     ·rw [e1,hy0];simp [Builtin.append_,run_underlying (yw htb hk),sizeOf,typeInfo,q1,Builtin.lenOf,Builtin.firstCells]
     ·rw [e1,hy0];simp [Builtin.append_,run_underlying (yw htb hk),sizeOf,typeInfo,q1,Builtin.lenOf,Builtin.firstCells,hle,storeCells]
    rw [hrun0 hrun]
    refine qA hf ?_
    rw [List.append_nil]
    exact YC sz es true _ _ ρ H _ (.pv _ _ hxr)
   ·by_cases hx0:xs.length=0
    ·have hxs:xs=[]:=List.eq_nil_of_length_eq_zero hx0
     subst hxs
     have hnews:news=[]:=List.eq_nil_of_length_eq_zero (by simpa using n1)
     have hrun:(Builtin.append_ #[ty,ty] o.type #[a.eval x,a.eval y]).run P w=.ok (a.eval x) w:=by
      rcases m2 with ⟨e1,_⟩|⟨ad1,c1,e1,_,_,hle⟩
      ·rw [e1,hy1];simp [Builtin.append_,run_underlying (yw htb hk),sizeOf,typeInfo,q1,Builtin.lenOf,Builtin.firstCells,loadCells,loadCellsFrom]
      ·rw [e1,hy1];simp [Builtin.append_,run_underlying (yw htb hk),sizeOf,typeInfo,q1,Builtin.lenOf,Builtin.firstCells,hle,storeCells,loadCells,loadCellsFrom]
     rw [hrun0 hrun]
     refine qA hf ?_
     rw [List.append_nil]
     exact YC sz es true _ _ ρ H _ (.pv _ _ hxr)
    ·have hns:tin.size=sz:=by omega
     rcases m2 with ⟨e1,hel⟩|⟨ad1,c1,e1,e2,hfull,hle⟩
     ·have hes:es=[]:=List.eq_nil_of_length_eq_zero hel
      subst hes
      have hus:us=[]:=List.eq_nil_of_length_eq_zero (by simpa using m1)
      subst hus
      have hr:=run_append_nil (P:=P) w ty o.type e tin z (yw htb hk) q1 (by rw [q4];exact hz) ad' xs.length c' news (by rw [hns];exact n1) hy2 (by omega) (by simp at hsmall;omega) (by rw [q3];simp at hbound;omega)
      rw [hrun0 (by rw [e1,hy1];exact hr)]
      obtain ⟨K',f1,f2⟩:=fin w.drew (grownCap w xs.length 0 e) (Builtin.zeroCells z.cells (grownCap w xs.length 0 e - xs.length)).toList hevd (by simpa using grownCap_ge w xs.length 0 e) (hcapmax _ _ (by simp at hsmall;omega)) _ (news.toArray++Builtin.zeroCells z.cells (grownCap w xs.length 0 e - xs.length)) (by apply Array.ext';simp) rfl
      refine ⟨K',?_,.pv _ _ ?_⟩
      ·simpa using f1
      ·simpa using f2
     ·have hc1:c1=es.length:=hfull rfl
      subst hc1
      have hr:=run_append_grow (P:=P) w ty o.type e tin z (yw htb hk) q1 (by rw [q4];exact hz) ad1 es.length es.length us (by rw [hns];exact m1) e2 ad' xs.length c' news (by rw [hns];exact n1) hy2 (by omega) (by omega) (growslice_fits (by omega) (by rw [q3];exact hbound))
      rw [hrun0 (by rw [e1,hy1];exact hr)]
      obtain ⟨K',f1,f2⟩:=fin w.drew (grownCap w (es.length + xs.length) es.length e) (Builtin.zeroCells z.cells (grownCap w (es.length + xs.length) es.length e - (es.length + xs.length))).toList hevd (grownCap_ge w _ _ e) (hcapmax _ _ hsmall) _ (us.toArray++news.toArray++Builtin.zeroCells z.cells (grownCap w (es.length + xs.length) es.length e - (es.length + xs.length))) (by apply Array.ext';simp) rfl
      refine ⟨K',?_,.pv _ _ ?_⟩
      ·simpa using f1
      ·simpa using f2
theorem zg1 {t:TypeId} {x y:Operand} {sz:Nat} {es:List PV} {full:Bool} {e d:Nat} {t':TypeId} (htb:yc P tb) (hg:guardE ops env o=some true) (hop:o.op=.binOp .eql t x y t') (hk:tb.k t=.sl e) (hx:env.pv H x=some (.slc sz es full)) (hy:env.pv H y=some (.base (.slice none 0 0))) (hd:o.dst=some d) (ht:Nat.blt d n=true)
  (h:∀ b:Bool,(b=true→es=[])→AO P n g ops.toArray rest ((d,.pv (.base (.bool b)))::env) H Q):AO P n g ops.toArray (o::rest) env H Q:=by
 refine ⟨fun a w hinv=>?_⟩
 have hw:=yh hinv hg
 obtain ⟨h1,h2,K,ρ,hf,he⟩:=hinv
 refine wpList_step fun Kc hKc=>?_
 rw [if_pos hw]
 have hxr:=zT (a:=a) hf (x:=x) (fun av hh=>yA he hh) hx
 have hyr:=zT (a:=a) hf (x:=y) (fun av hh=>yA he hh) hy
 generalize hxv:a.eval x=xv at hxr
 generalize hyv:a.eval y=yv at hyr
 cases hyr
 have key:∀ (b:Bool),(b=true→es=[])→(execOp a.eval o).run P w=.ok (.value (.bool b)) w→Oper.wp P o a w Kc (fun e a' w'=>∃ env' H',Inv n g env' H' a' w'∧e=.normal∧Q env' H'):=by
  intro b hb hrun
  unfold Oper.wp
  rw [hrun]
  simp only [Oper.upon]
  exact hKc _ _ ((h b hb).go _ _ ⟨yB h1,put_defers h2,K,ρ,hf,by rw [hd];exact yY h1 ht he (.pv _ _ (.base _ rfl))⟩)
 cases hxr with
 | nil =>
  refine key true (fun _=>rfl) ?_
  have:(binOp .eql t (.slice none 0 0) (.slice none 0 0)).run P w=.ok (.bool true) w:=by
   exact Lib.run_eql_slice_nil w t e _ _ _ _ _ (yw htb hk)
  simp [execOp,hop,hxv,hyv,eqGuard,this]
 | emp _ _ ad =>
  refine key false (by simp) ?_
  have:(binOp .eql t (.slice (some ad) 0 0) (.slice none 0 0)).run P w=.ok (.bool false) w:=by
   exact Lib.run_eql_slice_nil w t e _ _ _ _ _ (yw htb hk)
  simp [execOp,hop,hxv,hyv,eqGuard,this]
 | slc _ _ _ b off cap vss q0 q1 q2 q3 q4 q5 q6 =>
  refine key false (by simp) ?_
  have:(binOp .eql t (.slice (some ⟨b,off,none⟩) es.length cap) (.slice none 0 0)).run P w=.ok (.bool false) w:=by
   exact Lib.run_eql_slice_nil w t e _ _ _ _ _ (yw htb hk)
  simp [execOp,hop,hxv,hyv,eqGuard,this]
end
end Go.Cg
namespace Go.Cg
structure Ty where
 kind:Int
 index:Int
 dims:Int
 ref:Bool
 deriving DecidableEq,Inhabited
structure TD where
 name:ByteArray
 flags:Int
 ext:Int
 faces:List Int
 deriving Inhabited
structure Fd where
 name:ByteArray
 owner:Int
 ty:Ty
 static:Bool
 deriving Inhabited
structure Ins where
 op:Int
 arg:Int
 t:Ty
 deriving Inhabited,DecidableEq
structure Cl where
 kind:Int
 tf:Int
 tt:Int
 hf:Int
 ht:Int
 filter:Int
 t:Ty
 deriving Inhabited,DecidableEq
structure Me where
 name:ByteArray
 owner:Int
 flags:Int
 params:List Ty
 ret:Ty
 locals:List Ty
 max:Int
 code:List Ins
 clauses:List Cl
 deriving Inhabited
structure Img where
 types:List TD
 fields:List Fd
 methods:List Me
 entry:Int
 deriving Inhabited
abbrev pi (n:Int):PV:=.base (.int .i64 n)
abbrev pb (b:Bool):PV:=.base (.bool b)
abbrev ps (s:ByteArray):PV:=.base (.string s)
def ints (l:List Int):PV:=.slc 1 (l.map pi) false
def yZ (t:Ty):PV:=.agg [pi t.kind,pi t.index,pi t.dims,pb t.ref]
def tys (l:List Ty):PV:=.slc 4 (l.map yZ) false
def ZE (t:TD):PV:=.agg [ps t.name,pi t.flags,pi t.ext,ints t.faces]
def YA (f:Fd):PV:=.agg [ps f.name,pi f.owner,pi f.ty.kind,pi f.ty.index,pi f.ty.dims,pb f.ty.ref,pb f.static]
def YU (x:Ins):PV:=.agg [pi x.op,pi x.arg,pi x.t.kind,pi x.t.index,pi x.t.dims,pb x.t.ref]
def QY (c:Cl):PV:=.agg [pi c.kind,pi c.tf,pi c.tt,pi c.hf,pi c.ht,pi c.filter,pi c.t.kind,pi c.t.index,pi c.t.dims,pb c.t.ref]
def YG (m:Me):PV:=.agg [ps m.name,pi m.owner,pi m.flags,tys m.params,pi m.ret.kind,pi m.ret.index,pi m.ret.dims,pb m.ret.ref,tys m.locals,pi m.max,.slc 6 (m.code.map YU) false,.slc 10 (m.clauses.map QY) false]
def zO (g:Img):PV:=.agg [.slc 4 (g.types.map ZE) false,.slc 7 (g.fields.map YA) false,.slc 12 (g.methods.map YG) false,pi g.entry]
theorem wrap_in {a:Int} (h1 : -9223372036854775808≤a) (h2:a≤9223372036854775807):IntKind.i64.wrap a=a:=by
 unfold IntKind.wrap
 simp only [IntKind.bits,IntKind.signed]
 simp
 split <;> omega
theorem Xl {env env':Env} {t:Nat} {k:IntKind} {a b:Int} (h:env.get t=some (.pv (.base (.int k a)))) (e:a=b) (hs:Sub env env'):Sub env ((t,.pv (.base (.int k b)))::env'):=qE (by rw [h,e]) hs
theorem QN {P:Program} {n:Nat} {g:Base} {x y:Code} {env:Env} {H:HEnv} {QQ:QC} {t:Nat} {b:Bool} (hc:env.get t=some (.pv (.base (.bool b)))) (hb:b=true) (h:AW P n g x env H QQ):AW P n g (.cond (.tmp t) x y) env H QQ:=by subst hb;exact WG hc h
theorem YX {P:Program} {n:Nat} {g:Base} {x y:Code} {env:Env} {H:HEnv} {QQ:QC} {t:Nat} {b:Bool} (hc:env.get t=some (.pv (.base (.bool b)))) (hb:b=false) (h:AW P n g y env H QQ):AW P n g (.cond (.tmp t) x y) env H QQ:=by subst hb;exact Xx hc h
theorem zbf {P:Program} {n:Nat} {g:Base} {ops l:List Oper} {Q:Env→HEnv→Prop} {o:Oper} {env:Env} {H:HEnv} {t:Nat} {b:Bool} (c:Bool) (_:yL ops o=some t) (hb:env.get t=some (.pv (.base (.bool b)))) (hc:b=c)
  (h:AO P n g ops.toArray (o::l) ((t,.pv (.base (.bool c)))::env) H Q):AO P n g ops.toArray (o::l) env H Q:=⟨fun a w hi=>h.go a w (zdy hi hb hc)⟩
theorem zbk {P:Program} {n:Nat} {g:Base} {H:HEnv} {ops l:List Oper} {Q:Env→Prop} {o:Oper} {t:Nat} {env:Env} {b:Bool} (c:Bool) (_:yL ops o=some t) (hb:env.get t=some (.pv (.base (.bool b)))) (hc:b=c)
  (h:AD P n g H ops Q (o::l) ((t,.pv (.base (.bool c)))::env)):AD P n g H ops Q (o::l) env:=by
 subst hc
 refine .case _ _ _ _ hb (fun e=>?_) (fun e=>?_) <;> (subst e;exact h)
theorem zG {P:Program} {n:Nat} {g:Base} {ops:Array Oper} {rest:List Oper} {env:Env} {H:HEnv} {Q:Env→HEnv→Prop} {d:Option Tmp} {ty:TypeId} {po:String} {af:Array Edge} {gu:Option (Nat × Bool)} {f:Operand} {xs:Array Operand} {ts:Array TypeId} (h:AO P n g ops (⟨d,.call ⟨.value f,xs,ts⟩,ty,po,af,gu⟩::rest) env H Q):AO P n g ops (⟨d,.call ⟨.value f,xs,ts⟩,ty,po,af,gu⟩::rest) env H Q:=h
theorem ziX {P:Program} {n:Nat} {g:Base} {ops rest:List Oper} {env:Env} {H:HEnv} {Q:Env→Prop} {d:Option Tmp} {ty:TypeId} {po:String} {af:Array Edge} {gu:Option (Nat × Bool)} {f:Operand} {xs:Array Operand} {ts:Array TypeId} (h:AD P n g H ops Q (⟨d,.call ⟨.value f,xs,ts⟩,ty,po,af,gu⟩::rest) env):AD P n g H ops Q (⟨d,.call ⟨.value f,xs,ts⟩,ty,po,af,gu⟩::rest) env:=h
theorem yC {P:Program} {n:Nat} {g:Base} {ops:Array Oper} {rest:List Oper} {env:Env} {H:HEnv} {Q:Env→HEnv→Prop} {d:Option Tmp} {ty:TypeId} {po:String} {af:Array Edge} {gu:Option (Nat × Bool)} {b:Builtin} {xs:Array Operand} {ts:Array TypeId} (h:AO P n g ops (⟨d,.call ⟨.builtin b,xs,ts⟩,ty,po,af,gu⟩::rest) env H Q):AO P n g ops (⟨d,.call ⟨.builtin b,xs,ts⟩,ty,po,af,gu⟩::rest) env H Q:=h
theorem zkV {P:Program} {n:Nat} {g:Base} {ops:Array Oper} {rest:List Oper} {env:Env} {H:HEnv} {Q:Env→HEnv→Prop} {d:Option Tmp} {ty:TypeId} {po:String} {af:Array Edge} {gu:Option (Nat × Bool)} {u:TypeId} {x i:Operand} (h:AO P n g ops (⟨d,.indexAddr u x i,ty,po,af,gu⟩::rest) env H Q):AO P n g ops (⟨d,.indexAddr u x i,ty,po,af,gu⟩::rest) env H Q:=h
theorem zk6 {P:Program} {n:Nat} {g:Base} {ops rest:List Oper} {env:Env} {H:HEnv} {Q:Env→Prop} {d:Option Tmp} {ty:TypeId} {po:String} {af:Array Edge} {gu:Option (Nat × Bool)} {u:TypeId} {x i:Operand} (h:AD P n g H ops Q (⟨d,.indexAddr u x i,ty,po,af,gu⟩::rest) env):AD P n g H ops Q (⟨d,.indexAddr u x i,ty,po,af,gu⟩::rest) env:=h
theorem zhN {P:Program} {n:Nat} {g:Base} {ops:Array Oper} {rest:List Oper} {env:Env} {H:HEnv} {Q:Env→HEnv→Prop} {d:Option Tmp} {ty:TypeId} {po:String} {af:Array Edge} {gu:Option (Nat × Bool)} {u:TypeId} {x i:Operand} (h:AO P n g ops (⟨d,.index u x i,ty,po,af,gu⟩::rest) env H Q):AO P n g ops (⟨d,.index u x i,ty,po,af,gu⟩::rest) env H Q:=h
theorem yj {P:Program} {n:Nat} {g:Base} {ops:Array Oper} {rest:List Oper} {env:Env} {H:HEnv} {Q:Env→HEnv→Prop} {d:Option Tmp} {ty:TypeId} {po:String} {af:Array Edge} {gu:Option (Nat × Bool)} {u:TypeId} {x y:Operand} (h:AO P n g ops (⟨d,.store u x y,ty,po,af,gu⟩::rest) env H Q):AO P n g ops (⟨d,.store u x y,ty,po,af,gu⟩::rest) env H Q:=h
theorem zcB {P:Program} {n:Nat} {g:Base} {ops:Array Oper} {rest:List Oper} {env:Env} {H:HEnv} {Q:Env→HEnv→Prop} {d:Option Tmp} {ty:TypeId} {po:String} {af:Array Edge} {gu:Option (Nat × Bool)} {u:TypeId} (h:AO P n g ops (⟨d,.alloc u,ty,po,af,gu⟩::rest) env H Q):AO P n g ops (⟨d,.alloc u,ty,po,af,gu⟩::rest) env H Q:=h
theorem VX {P:Program} {n:Nat} {g:Base} {ops:Array Oper} {rest:List Oper} {env:Env} {H:HEnv} {Q:Env→HEnv→Prop} {d:Option Tmp} {ty:TypeId} {po:String} {af:Array Edge} {gu:Option (Nat × Bool)} {u:TypeId} {x:Operand} (h:AO P n g ops (⟨d,.box u x,ty,po,af,gu⟩::rest) env H Q):AO P n g ops (⟨d,.box u x,ty,po,af,gu⟩::rest) env H Q:=h
theorem zmh {P:Program} {n:Nat} {g:Base} {ops:Array Oper} {l:List Oper} {env:Env} {H:HEnv} {Q:Env→HEnv→Prop} (h:AO P n g ops l env H Q):AO P n g ops l env H Q:=h
theorem zmc {P:Program} {n:Nat} {g:Base} {ops l:List Oper} {env:Env} {H:HEnv} {Q:Env→Prop} (h:AD P n g H ops Q l env):AD P n g H ops Q l env:=h
theorem zdF {P:Program} {n:Nat} {g:Base} {c:Operand} {x y:Code} {env:Env} {H:HEnv} {QQ:QC} (h:AW P n g (.cond c x y) env H QQ):AW P n g (.cond c x y) env H QQ:=h
theorem retq {tb:Tab} {rs:List ResultVar} {r:PV} {env:Env} {H:HEnv} {ps:List PV} (h:zcl tb H env rs=some ps) (hr:zl ps=r):zmN tb rs r .ret env H:=⟨.inr rfl,env,.refl env,ps,h,hr⟩
theorem Wq {tb:Tab} {rs:List ResultVar} {r:PV} {env:Env} {H:HEnv} {ps:List PV} {t:Nat} {a b:AV} (he:env.get t=some a) (ht:Tells a b) (h:zcl tb H ((t,b)::env) rs=some ps) (hr:zl ps=r):zmN tb rs r .ret env H:=⟨.inr rfl,_,.one he ht,ps,h,hr⟩
theorem zlN {P:Program} {n:Nat} {g:Base} {H:HEnv} {ops l:List Oper} {Q:Env→Prop} {o:Oper} {t:Nat} {env:Env} {b:Bool} (_:yL ops o=some t) (hb:env.get t=some (.pv (.base (.bool b))))
  (h1:b=true→AD P n g H ops Q (o::l) ((t,.pv (.base (.bool true)))::env)) (h2:b=false→AD P n g H ops Q (o::l) ((t,.pv (.base (.bool false)))::env)):AD P n g H ops Q (o::l) env:=.case _ _ _ _ hb h1 h2
theorem zd8 (a b:Ty):(a.kind==b.kind&&(a.index==b.index&&(a.dims==b.dims&&(a.ref==b.ref&&true))))=decide (a=b):=by
 obtain ⟨a1,a2,a3,a4⟩:=a;obtain ⟨b1,b2,b3,b4⟩:=b
 simp [Ty.mk.injEq,Bool.beq_eq_decide_eq,←Bool.decide_and]
theorem sA {Q P:Prop} (k:Q) (h:Q→P:=by
  intro k
  first
  | (refine yj ?_;first|exact zgB zk rfl rfl rfl rfl rfl rfl rfl rfl rfl k)
  | (refine zcB ?_;first|exact yX zk 0 rfl rfl rfl rfl rfl rfl rfl k|exact yX zk 1 rfl rfl rfl rfl rfl rfl rfl k|exact yX zk 2 rfl rfl rfl rfl rfl rfl rfl k|exact yX zk 3 rfl rfl rfl rfl rfl rfl rfl k|exact yX zk 4 rfl rfl rfl rfl rfl rfl rfl k|exact yX zk 5 rfl rfl rfl rfl rfl rfl rfl k)
  | (refine zmh ?_;first|exact zja zk rfl rfl rfl rfl k|exact ziJ k|exact zi8 rfl rfl rfl k|(refine zbf true rfl rfl ?_ k;(assumption))|(refine zbf false rfl rfl ?_ k;(assumption)))
  | (refine zmc ?_;first|exact AD.step _ _ _ _ _ rfl (zb4 zk rfl) rfl rfl k|exact AD.nil _ k|exact AD.skip _ _ _ _ rfl rfl rfl k|(refine zbk true rfl rfl ?_ k;(assumption))|(refine zbk false rfl rfl ?_ k;(assumption)))
  | exact zkU k|exact zfb k|exact zhV k
  | (refine zdF ?_;first|exact WG rfl k|exact Xx rfl k|(refine QN rfl ?_ k;(assumption))|(refine YX rfl ?_ k;(assumption)))
  | exact zjl k|exact zjh k|exact zle k|exact zi2 (by kernel_rfl) (by kernel_rfl) k|fail):P:=h k
theorem sK {Q P:Prop} (k:Q) (h:Q→P:=by
  intro k
  first
  | (refine yj ?_;first|exact zgB zk rfl rfl rfl rfl rfl rfl rfl rfl rfl k)
  | (refine zcB ?_;first|exact yX zk 0 rfl rfl rfl rfl rfl rfl rfl k|exact yX zk 1 rfl rfl rfl rfl rfl rfl rfl k|exact yX zk 2 rfl rfl rfl rfl rfl rfl rfl k|exact yX zk 3 rfl rfl rfl rfl rfl rfl rfl k|exact yX zk 4 rfl rfl rfl rfl rfl rfl rfl k|exact yX zk 5 rfl rfl rfl rfl rfl rfl rfl k)
  | (refine zmh ?_;first|exact zja zk rfl rfl rfl rfl k|exact ziJ k|exact zi8 rfl rfl rfl k|(refine zbf true rfl rfl ?_ k;(first|assumption|(simp <;> omega)))|(refine zbf false rfl rfl ?_ k;(first|assumption|(simp <;> omega))))
  | (refine zmc ?_;first|exact AD.step _ _ _ _ _ rfl (zb4 zk rfl) rfl rfl k|exact AD.nil _ k|exact AD.skip _ _ _ _ rfl rfl rfl k|(refine zbk true rfl rfl ?_ k;(first|assumption|(simp <;> omega)))|(refine zbk false rfl rfl ?_ k;(first|assumption|(simp <;> omega))))
  | exact zkU k|exact zfb k|exact zhV k
  | (refine zdF ?_;first|exact WG rfl k|exact Xx rfl k|(refine QN rfl ?_ k;(first|assumption|(simp <;> omega)))|(refine YX rfl ?_ k;(first|assumption|(simp <;> omega))))
  | exact zjl k|exact zjh k|exact zle k|exact zi2 (by kernel_rfl) (by kernel_rfl) k|fail):P:=h k
theorem sC {P A B C D:Prop} (x:A→B) (y:C→D) (h:(A→B)→(C→D)→P:=by
  intro x y;first|exact zlt rfl rfl x y|exact zlN rfl rfl x y|exact zlx rfl x y|fail):P:=h x y
theorem shC {Q P:Prop} (k:Q) (h:Q→P:=by intro k;first|exact zG k|exact ziX k|fail):P:=h k
theorem shX {Q P:Prop} (k:Q) (h:Q→P:=by intro k;first|exact zkV k|exact zk6 k|fail):P:=h k
theorem shI {Q P:Prop} (k:Q) (h:Q→P:=by intro k;first|exact zhN k|exact ad_sh_index k|fail):P:=h k
theorem qC {Q P C:Prop} (c:C) (k:Q) (h:C→Q→P:=by intro c k;first|exact zy rfl (Qd rfl rfl c) rfl rfl k|exact AD.step _ _ _ _ _ rfl (Qd rfl rfl c) rfl rfl k|fail):P:=h c k
theorem qV {Q P C:Prop} (c:C) (k:Q) (h:C→Q→P:=by intro c k;first|exact zy rfl (zjb rfl rfl rfl c) rfl rfl k|exact AD.step _ _ _ _ _ rfl (zjb rfl rfl rfl c) rfl rfl k|fail):P:=h c k
theorem qX {Q P E:Prop} (e:E) (k:Q) (h:E→Q→P:=by intro he k;first|exact zy rfl (zL zk rfl rfl rfl rfl rfl rfl (by omega) he) rfl rfl k|exact AD.step _ _ _ _ _ rfl (zL zk rfl rfl rfl rfl rfl rfl (by omega) he) rfl rfl k|fail):P:=h e k
theorem tS {P:Prop} (h:P:=by repeat (first|exact qO|refine qE rfl ?_|(refine Xl rfl ?_ ?_;· (first|(rw [wrap_in (by omega) (by omega)] <;> omega)|(dsimp only;rw [wrap_in (by omega) (by omega)] <;> omega)|(simp;done))))):P:=h
theorem tH {A:Prop} {α:Type} {x y:α} (h:A:=by repeat (first|exact zi|refine zh rfl ?_)) (e:x=y:=by rfl):A∧x=y:=⟨h,e⟩
theorem tD {P:Prop} (h:P:=by dsimp only;omega):P:=h
end Go.Cg
namespace Go.Cg
open Go.RowKit
structure ACallR (P:Program) (f:FuncId) (args:List PV) (e:TypeId) (sz:Nat) (es:List PV):Prop where
 stands:Ve P f
 calls:∀ (K:KK) (w:World) (vs:List Value),(∀ b o,K b o→b < w.heap.size)→PRels K w args vs →
  Calls P f vs.toArray w fun ex w'=>∃ v K' xs,ex=.returned v∧Evo K K' w w'∧w'.ownsRow w.heap.size e sz v es.length xs∧CellsRel K' w' sz es xs∧(∀ b,v.ownBlock=some b→∀ o,K' b o↔o < es.length * sz)
section
variable {P:Program} {tb:Tab} {n:Nat} {g:Base} {H:HEnv} {env:Env} {ops:List Oper} {o:Oper} {rest:List Oper} {Q:Env→HEnv→Prop}
theorem zeI {w:World} {B B':Nat} {e:TypeId} {sz:Nat} {v:Value} {n:Nat} {xs:List Value} (hB:B'≤B) (h:w.ownsRow B e sz v n xs):w.ownsRow B' e sz v n xs:=by
 obtain ⟨h1,h2⟩:=h
 refine ⟨h1,h2.imp id ?_⟩
 rintro ⟨g,cap,cur,a,b,c⟩
 exact ⟨g,cap,cur,a,Nat.le_trans hB b,c⟩
theorem zgw {xs:Array Operand} {ts:Array TypeId} {f:FuncId} {args es:List PV} {e:TypeId} {sz t:Nat} (i:Nat) (hg:guardE ops env o=some true) (hop:o.op=.call { callee:=.value (.func f),args:=xs,argTypes:=ts }) (hargs:pvs env H xs.toList=some args)
  (hc:ACallR P f args e sz es) (h0:0 < sz) (hi:H.get i=none) (hd:o.dst=some t) (ht:Nat.blt t n=true)
  (h:AO P n g ops.toArray rest ((t,.own i)::env) ((i,.row e sz es)::H) Q):AO P n g ops.toArray (o::rest) env H Q:=by
 refine ⟨fun a w hinv=>?_⟩
 have hw:=yh hinv hg
 obtain ⟨h1,h2,K,ρ,hf,he⟩:=hinv
 refine wpList_step fun KK hKK=>?_
 rw [if_pos hw]
 have hp:=zby hf (a:=a) (xs:=xs.toList) (fun x hx av hxx=>yA he hxx) hargs
 have hrun:(execOp a.eval o).run P w=.ok (.enter f (xs.toList.map a.eval).toArray) w:=by
  have e:(xs.toList.map a.eval).toArray=xs.map a.eval:=by rw [←Array.toList_map,Array.toArray_toList]
  rw [e]
  simp [execOp,hop,resolve,Act.eval,Deferred.ofValue,invoke,Zd hc.stands]
 unfold Oper.wp
 rw [hrun]
 simp only [Oper.upon]
 refine (hc.calls K w _ hf.lt hp).mono ?_
 rintro ex w'' ⟨v,K',us,rfl,hev,hown,hcr,hk⟩
 have hlow:=zeI hf.below.size hown
 refine hKK _ _ (h.go _ _ ⟨yB h1,put_defers h2,K',fun j=>if j=i then v else ρ j,hf.fresh hev hi ⟨us,by simpa using hlow,h0,hcr,by simpa using hk⟩ ?_,?_⟩)
 ·intro b hb
  refine (hown.lt b ?_).1
  rcases hown.2 with ⟨rfl,_⟩|⟨g,_,_,rfl,_⟩
  ·simp [zq] at hb
  ·simpa [zq,Value.ownBlock] using hb
 ·rw [hd]
  refine yY h1 ht (he.keeps (hev.later hf.lt) (yu hi _ _)) ?_
  have:=ARel.own (K:=K') (w:=w'') (ρ:=fun j=>if j=i then v else ρ j) (H:=(i,HE.row e sz es)::H) i (by simp [HEnv.get_nil,HEnv.get_cons])
  simpa using this
def znp (t:Nat) (e:TypeId) (sz:Nat) (es:List PV):QC:=fun ex env H=>(ex=.normal∨ex=.ret)∧∃ i,env.get t=some (.own i)∧H.get i=some (.row e sz es)
theorem za4 {fn:Func} {c:Code} {f:FuncId} {args:List PV} {t:Nat} {e:TypeId} {sz:Nat} {es:List PV} (hf:P.funcs[f]?=some fn) (hb:fn.body=some c) (hn:(fn.name == "runtime.NumGoroutine")=false) (hnt:fn.ntmps=n) (hargs:args.length≤n)
  (hrs:fn.results.toList=[.tmp t]) (h:lensOk args→∀ g:Base,Plain g→AW P n g c (ze3 0 args) [] (znp t e sz es)):ACallR P f args e sz es:=by
 refine ⟨⟨fn,hf,by simp [hb],hn⟩,fun K w vs hl hv=>?_⟩
 refine calls_of_wp hf hb ?_
 have hlen:vs.length=args.length:=hv.1
 refine wp_mono (wpIn_wide.1 ((h hv.lensOk (Base.of w K (bare w) []) ⟨rfl,hl⟩).go _ w ⟨by simp [hnt];omega,rfl,K,fun _=>undef,⟨.refl _ _,fun _ _ h=>h,fun _ _ h=>.inl h,hl,zcH _ _,.base,.none _ _,⟨by simp [HEnv.get_nil,HEnv.get_cons],by simp [HEnv.get_nil,HEnv.get_cons]⟩⟩,?_⟩ none 0)) ?_
 ·intro t av hg
  obtain ⟨_,p,hp,rfl⟩:=zbN args 0 t av hg
  have hlt:t < vs.length:=by rw [hlen];exact (List.getElem?_eq_some_iff.1 hp).1
  refine ⟨vs[t],?_,.pv _ _ (hv.2 t p _ hp (List.getElem?_eq_getElem hlt))⟩
  rw [Array.getElem?_append_left (by simpa using hlt)]
  simp [hlt]
 ·rintro ex a' w' ⟨env1,H',hi,he,i,hgi,hHi⟩
  obtain ⟨_,h2,K',ρ',hf',he0⟩:=hi
  obtain ⟨v,v1,v2⟩:=he0 t _ hgi
  cases v2
  obtain ⟨xs,hown,hsz,hcr,hk⟩:=hf'.heap.ok i _ hHi
  have hev:Evo K K' w w':=⟨hf'.below,hf'.old,hf'.new,hf'.lt⟩
  have hres:(results fn a'.tmps).run P w'=.ok (ρ' i) w':=by
   unfold results
   rw [Array.mapM_eq_mapM_toList,hrs]
   simp [Array.getD_eq_getD_getElem?,v1]
  rcases he with rfl|rfl
  ·exact ⟨h2,_,hres,_,K',xs,rfl,hev,hown,hcr,hk⟩
  ·exact ⟨h2,_,hres,_,K',xs,rfl,hev,hown,hcr,hk⟩
end
end Go.Cg
namespace Go.Cg
theorem Xk {α:Type} {P:Program} {tb:Tab} {g:Base} {H:HEnv} {env:Env} {o:Oper} {f:α→PV} {xs:List α} {t e:TypeId} {x:Operand} {lo hi:Option Operand} {sz:Nat} {full:Bool} (l h:Nat) (htb:yc P tb) (hop:o.op=.slice t x lo hi none) (hk:tb.k t=.sl e) (hke:tb.known e=true) (hsz:tb.size e=sz) (hx:env.pv H x=some (.slc sz (xs.map f) full))
  (hlo:VD env H 0 lo=some (l:Int)) (hhi:VD env H (xs.map f).length hi=some (h:Int)) (h1:l≤h) (h2:h≤xs.length):QStep P g H o env (.pv (.slc sz (((xs.take h).drop l).map f) false)):=by
 have:=WH (g:=g) htb hop hk hke hsz hx hlo hhi (by omega) (by omega) (by simp;omega)
 simpa [List.map_take,List.map_drop] using this
end Go.Cg
namespace Go.Cg
open Go.RowKit
def zV (ja js t' m:Nat) (o:Oper) (j:Nat):Oper :=
 match Nat.beq j ja with
 | true=>{ o with op:=.move (.tmp m) }
 | false=>match Nat.beq j js with
  | true=>{ o with op:=.move (.tmp m),dst:=some t' }
  | false=>o
def yM (ja js t' m:Nat):List Oper→Nat→List Oper
 | [],_=>[]
 | o::os,j=>zV ja js t' m o j::yM ja js t' m os (j + 1)
theorem WV (ja js t' m:Nat):∀ (ops:List Oper) (k j:Nat),(yM ja js t' m ops k)[j]?=(ops[j]?).map fun o=>zV ja js t' m o (k + j)
 | [],k,j=>by simp [yM]
 | o::os,k,j=>by
  cases j with
  | zero=>simp [yM]
  | succ j=>simp only [yM,List.getElem?_cons_succ];rw [WV ja js t' m os (k + 1) j];congr;funext o;congr 1;omega
theorem Yv (ja js t' m:Nat):∀ (ops:List Oper) (k:Nat),(yM ja js t' m ops k).length=ops.length
 | [],k=>rfl
 | o::os,k=>by simp [yM,Yv ja js t' m os (k + 1)]
theorem zdd {ja js t' m:Nat} {o:Oper} {j:Nat}:(zV ja js t' m o j).after=o.after:=by
 unfold zV
 split
 ·rfl
 ·split <;> rfl
theorem Vj {ja js t' m:Nat} {o:Oper} {j:Nat}:(zV ja js t' m o j).guard=o.guard:=by
 unfold zV
 split
 ·rfl
 ·split <;> rfl
theorem zeV {ja js t' m:Nat} {o:Oper} {j:Nat} (h1:j≠ja) (h2:j≠js):zV ja js t' m o j=o:=by
 unfold zV
 have e1:Nat.beq j ja=false:=by cases h:Nat.beq j ja;rfl;exact absurd (Nat.eq_of_beq_eq_true h) h1
 have e2:Nat.beq j js=false:=by cases h:Nat.beq j js;rfl;exact absurd (Nat.eq_of_beq_eq_true h) h2
 rw [e1,e2]
theorem WA {ja js t' m:Nat} {o:Oper} {j:Nat} (h2:j≠js):(zV ja js t' m o j).dst=o.dst:=by
 unfold zV
 have e2:Nat.beq j js=false:=by cases h:Nat.beq j js;rfl;exact absurd (Nat.eq_of_beq_eq_true h) h2
 rw [e2]
 split <;> rfl
section
variable {P:Program} {tb:Tab} {n:Nat} {g:Base} {K K':KK} {w w':World} {ρ:Nat→Value} {H:HEnv} {env:Env} {a:Act} {ops rest:List Oper} {Q:Env→Prop}
theorem zj5 {t m:Nat} {ty:TypeId} {po:String} {af:Array Edge} (hm:env.get m=none) (ht:Nat.blt t n=true) (h:AD P n g H ops Q rest ((t,.any)::env)):AD P n g H ops Q (⟨some t,.move (.tmp m),ty,po,af,none⟩::rest) env:=by
 refine .step _ _ _ .any t rfl ⟨fun K ρ a w hf hv=>?_⟩ rfl ht h
 simp only [execOp,Act.eval]
 exact ⟨K,.refl hf.lt,.any _⟩
structure Blk (g:Base) (K:KK) (ρ:Nat→Value) (H:HEnv) (w:World) (b:Nat) (ty:TypeId) (arr:Array Value):Prop where
 base:g.w0.heap.size≤b
 heap:w.heap[b]?=some (.cells arr ty (0,0))
 noK:∀ o,¬ K b o
 apart:∀ (j:Nat) (h:HE),H.get j=some h→h.live=true→zq (ρ j)=some b→False
 far:¬ g.pr b
theorem Blk.evo {b:Nat} {ty:TypeId} {arr:Array Value} (h:Blk g K ρ H w b ty arr) (hev:Evo K K' w w'):Blk g K' ρ H w' b ty arr:=by
 have hlt:b < w.heap.size:=(Array.getElem?_eq_some_iff.1 h.heap).1
 exact ⟨h.base,by rw [hev.below.block b hlt];exact h.heap,fun o ho=>(hev.new b o ho).elim (h.noK o) (fun h2=>by omega),h.apart,h.far⟩
theorem Blk.own {b i:Nat} {ty:TypeId} {arr:Array Value} (h:Blk g K ρ H w b ty arr) (hf:FS g K ρ H w) (hi:H.get i=none) {v:AV} {u:Value} (hu:ARel K w ρ H v u) (hc:u.cells=arr) :
  FS g K (fun j=>if j=i then .pointer (some ⟨b,0,none⟩) else ρ j) ((i,.cell v)::H) w:=by
 have hk:=yu (ρ:=ρ) hi (.cell v) (.pointer (some ⟨b,0,none⟩))
 have hlat:=Later.refl K w
 refine ⟨hf.below,hf.old,hf.new,hf.lt,hf.others,hf.pt,hf.away.fresh (fun b2 hb2=>by cases hb2;exact h.far),?_,?_⟩
 ·intro j e hj
  simp only [HEnv.get_nil,HEnv.get_cons] at hj
  split at hj
  ·rename_i e';subst e';simp only [Option.some.injEq] at hj;subst hj
   exact ⟨b,ty,arr,u,by simp,h.base,h.heap,hu.keeps hlat hk,hc,h.noK⟩
  ·rename_i hne
   have:=(hf.heap.ok j e hj).keeps (.refl hf.lt) hf.lt hk
   simpa [Ne.symm hne] using this
 ·intro j k h1 h2 bb hjk hj hk' hlj hlk hbj hbk
  simp only [HEnv.get_nil,HEnv.get_cons] at hj hk'
  split at hj
  ·rename_i e';subst e'
   split at hk'
   ·rename_i e'';exact hjk (by omega)
   ·rename_i hne
    simp only [if_true] at hbj
    simp only [zq,Option.some.injEq] at hbj
    subst hbj
    simp only [Ne.symm hne,if_false] at hbk
    exact h.apart k h2 hk' hlk hbk
  ·rename_i hne
   simp only [Ne.symm hne,if_false] at hbj
   split at hk'
   ·rename_i e'';subst e''
    simp only [if_true] at hbk
    simp only [zq,Option.some.injEq] at hbk
    subst hbk
    exact h.apart j h1 hj hlj hbj
   ·rename_i hne'
    simp only [Ne.symm hne',if_false] at hbk
    exact hf.heap.apart j k h1 h2 bb hjk hj hk' hlj hlk hbj hbk
theorem Blk.set {b:Nat} {ty:TypeId} {arr arr':Array Value} (h:Blk g K ρ H w b ty arr) (hf:FS g K ρ H w) :
  FS g K ρ H (w.setRow b arr')∧Blk g K ρ H (w.setRow b arr') b ty arr'∧Later K K w (w.setRow b arr'):=by
 have hgrow:w.grownBy (w.setRow b arr') (some b):=⟨rfl,rfl,rfl,by simp,fun k _ hk=>setRow_other w b k _ (fun e=>hk (by simp [e]))⟩
 have hlat:Later K K w (w.setRow b arr'):=⟨fun _ _ h=>h,fun b' o hk=>by
  have:b'≠b:=by rintro rfl;exact h.noK o hk
  exact cell_setRow_other w b _ ⟨b',o,none⟩ this⟩
 refine ⟨⟨hf.below.grown hgrow hf.below.size (fun k hk=>by simp at hk;have:=h.base;omega),hf.old,hf.new,fun b o hk=>by have:=hf.lt b o hk;simpa using this,hf.others.trans (zaE h.heap hgrow),hf.pt.grown hf.old hgrow hlat (fun b2 hb2=>by cases hb2;exact h.far) (fun _ _ h=>.inl h),hf.away,?_,hf.heap.apart⟩,⟨h.base,setRow_heap w b arr _ ty _ h.heap,h.noK,h.apart,h.far⟩,hlat⟩
 intro j e hj
 by_cases hlive:e.live=true
 ·have:=(hf.heap.ok j e hj).grown (f:=id) hgrow hlat (fun b o h=>.inl h) (fun av v h=>h.keeps hlat (fun j hj=>⟨hj,rfl⟩)) hlive (fun b' hb' e'=>by
   simp at e';subst e'
   exact h.apart j e hj hlive hb')
  cases e <;> exact this
 ·cases e <;> simp [HE.live] at hlive
  ·trivial
  ·exact ARel.keeps hlat (fun j hj=>⟨hj,rfl⟩) (hf.heap.ok j _ hj)
structure MidX (P:Program) (n:Nat) (g:Base) (H:HEnv) (ops:List Oper) (env:Env) (Q:Env→Prop) (s:Script P n g H ops ops env Q) (listed:Array Bool) (a:Act) (w:World) (K:KK) (ρ:Nat→Value):Prop where
 size:a.tmps.size=n
 defers:a.defers=g.ds
 lsize:listed.size=ops.length
 closed:∀ (i:Nat) (o:Oper),ops[i]?=some o→listed.getD i true=true→∀ j,zA o j=true→listed.getD j false=true
 fs:FS g K ρ H w
 hl:∀ (i:Nat) (o:Oper) (ri:AV) (t:Nat),ops[i]?=some o→listed.getD i true=true→s.r[i]?=some ri→o.dst=some t→∃ v,a.tmps[t]?=some v∧ARel K w ρ H ri v
 he:∀ (t:Nat) (av:AV),env.get t=some av→(∀ (i:Nat) (o:Oper),ops[i]?=some o→listed.getD i true=true→o.dst≠some t)→∃ v,a.tmps[t]?=some v∧ARel K w ρ H av v
theorem MidX.mid {s:Script P n g H ops ops env Q} {listed:Array Bool} (h:MidX P n g H ops env Q s listed a w K ρ):Mid P n g H ops ops env Q s listed a w :=
 ⟨h.size,h.defers,h.lsize,Nat.le_refl _,fun j h1 h2=>by omega,h.closed,K,ρ,h.fs,h.hl,h.he⟩
theorem zck {s:Script P n g H ops ops env Q} {listed:Array Bool} (hm:MidX P n g H ops env Q s listed a w K ρ) {j:Nat} {o:Oper} (ho:ops[j]?=some o) (hready:∀ i,zA o i=true→listed.getD i false=true) :
  ∀ (i:Nat) (o:Oper),ops[i]?=some o→(listed.setIfInBounds j true).getD i true=true→∀ k,zA o k=true→(listed.setIfInBounds j true).getD k false=true:=by
 have hjlt:j < listed.size:=by rw [hm.lsize];exact (List.getElem?_eq_some_iff.1 ho).1
 intro i o' ho' hli k hk
 by_cases hij:i=j
 ·subst hij
  rw [ho] at ho';cases ho'
  have:=hready k hk
  by_cases hkj:k=i
  ·subst hkj;exact zN hjlt
  ·rw [zo hkj];exact this
 ·rw [zo hij] at hli
  have:=hm.closed i o' ho' hli k hk
  by_cases hkj:k=j
  ·subst hkj;exact zN hjlt
  ·rw [zo hkj];exact this
theorem MidX.next {s:Script P n g H ops ops env Q} {listed:Array Bool} (hB:qH ops ops=true) (hm:MidX P n g H ops env Q s listed a w K ρ) {j:Nat} {o:Oper} {rj:AV} {t:Nat} (ho:ops[j]?=some o) (hr:s.r[j]?=some rj) (hd:o.dst=some t) (ht:t < n)
  (hun:listed.getD j true=false) (hready:∀ i,zA o i=true→listed.getD i false=true) {K':KK} {w':World} {v:Value}
  (hfs:FS g K' ρ H w') (hlat:Later K K' w w') (hv:ARel K' w' ρ H rj v):MidX P n g H ops env Q s (listed.setIfInBounds j true) (a.put (some t) v) w' K' ρ:=by
 have hjlt:j < listed.size:=by rw [hm.lsize];exact (List.getElem?_eq_some_iff.1 ho).1
 obtain ⟨_,hdst,_⟩:=Zr hB ho
 refine ⟨yB hm.size,put_defers hm.defers,by simp [hm.lsize],zck hm ho hready,hfs,?_,?_⟩
 ·intro i o' ri t' ho' hli hri hd'
  by_cases hij:i=j
  ·subst hij
   rw [ho] at ho';cases ho'
   rw [hr] at hri;cases hri
   rw [hd] at hd';cases hd'
   exact ⟨v,by simp only [Act.put];rw [Array.getElem?_setIfInBounds_self_of_lt (by rw [hm.size];exact ht)],hv⟩
  ·rw [zo hij] at hli
   obtain ⟨u,h1,h2⟩:=hm.hl i o' ri t' ho' hli hri hd'
   have hne:t≠t':=by
    rintro rfl
    exact hdst i o' t ho' hd' hij hd
   exact ⟨u,by simp only [Act.put];rw [Array.getElem?_setIfInBounds_ne hne];exact h1,h2.later hlat⟩
 ·intro t' av hav hno
  have hne:t≠t':=by
   rintro rfl
   exact hno j o ho (zN hjlt) hd
  obtain ⟨u,h1,h2⟩:=hm.he t' av hav (fun i o' ho' hli hd'=>by
   by_cases hij:i=j
   ·subst hij;rw [hun] at hli;cases hli
   ·exact hno i o' ho' (by rw [zo hij];exact hli) hd')
  exact ⟨u,by simp only [Act.put];rw [Array.getElem?_setIfInBounds_ne hne];exact h1,h2.later hlat⟩
theorem MidX.nop {s:Script P n g H ops ops env Q} {listed:Array Bool} (hm:MidX P n g H ops env Q s listed a w K ρ) {j:Nat} {o:Oper} {rj:AV} {t:Nat} {w':World} (ho:ops[j]?=some o) (hr:s.r[j]?=some rj) (hany:∀ u,ARel K w' ρ H rj u) (hd:o.dst=some t) (ht:t < n)
  (hun:listed.getD j true=false) (hready:∀ i,zA o i=true→listed.getD i false=true)
  (hfs:FS g K ρ H w') (hlat:Later K K w w'):MidX P n g H ops env Q s (listed.setIfInBounds j true) a w' K ρ:=by
 have hjlt:j < listed.size:=by rw [hm.lsize];exact (List.getElem?_eq_some_iff.1 ho).1
 refine ⟨hm.size,hm.defers,by simp [hm.lsize],zck hm ho hready,hfs,?_,?_⟩
 ·intro i o' ri t' ho' hli hri hd'
  by_cases hij:i=j
  ·subst hij
   rw [ho] at ho';cases ho'
   rw [hr] at hri;cases hri
   rw [hd] at hd';cases hd'
   exact ⟨a.tmps[t]'(by rw [hm.size];exact ht),Array.getElem?_eq_getElem _,hany _⟩
  ·rw [zo hij] at hli
   obtain ⟨u,h1,h2⟩:=hm.hl i o' ri t' ho' hli hri hd'
   exact ⟨u,h1,h2.later hlat⟩
 ·intro t' av hav hno
  obtain ⟨u,h1,h2⟩:=hm.he t' av hav (fun i o' ho' hli hd'=>by
   by_cases hij:i=j
   ·subst hij;rw [hun] at hli;cases hli
   ·exact hno i o' ho' (by rw [zo hij];exact hli) hd')
  exact ⟨u,h1,h2.later hlat⟩
theorem MidX.done {s:Script P n g H ops ops env Q} {listed:Array Bool} (hm:MidX P n g H ops env Q s listed a w K ρ) (hall:∀ j,j < ops.length→listed.getD j true=true):EnvR K w ρ H s.last a.tmps:=by
 intro t av hav
 have hlast:(s.e++[s.last])[ops.length]?=some s.last:=by rw [List.getElem?_append_right (by rw [s.lene];exact Nat.le_refl _),s.lene];simp
 rcases s.src ops.length s.last hlast t av hav with ⟨i,o,ri,h1,h2,h3,h4,h5,_⟩|⟨h1,av0,h2,h3⟩
 ·obtain ⟨v,v1,v2⟩:=hm.hl i o ri t h2 (hall i h1) h4 h3
  exact ⟨v,v1,h5 _ _ _ _ _ v2⟩
 ·obtain ⟨v,v1,v2⟩:=hm.he t av0 h2 (fun i o ho _=>h1 i o (List.getElem?_eq_some_iff.1 ho).1 ho)
  exact ⟨v,v1,h3 _ _ _ _ _ v2⟩
theorem MidX.early {s:Script P n g H ops ops env Q} {listed:Array Bool} (hB:qH ops ops=true) (hm:MidX P n g H ops env Q s listed a w K ρ) {jx tx:Nat} {ox:Oper} {v:AV} (hox:ops[jx]?=some ox) (hdx:ox.dst=some tx) (hlx:listed.getD jx true=true) (hv:s.last.get tx=some v) :
  ∃ u,a.tmps[tx]?=some u∧ARel K w ρ H v u:=by
 have hlast:(s.e++[s.last])[ops.length]?=some s.last:=by rw [List.getElem?_append_right (by rw [s.lene];exact Nat.le_refl _),s.lene];simp
 rcases s.src ops.length s.last hlast tx v hv with ⟨i,o,ri,h1,h2,h3,h4,h5,_⟩|⟨h1,av0,h2,h3⟩
 ·have hij:i=jx:=Classical.byContradiction fun hne=>(Zr hB hox).2.1 i o tx h2 h3 hne hdx
  subst hij
  obtain ⟨u,u1,u2⟩:=hm.hl i o ri tx h2 hlx h4 h3
  exact ⟨u,u1,h5 _ _ _ _ _ u2⟩
 ·exact absurd hdx (h1 jx ox (List.getElem?_eq_some_iff.1 hox).1 hox)
theorem zkY (hev:Evo K K' w w):Later K' K w w:=by
 refine ⟨fun b o h=>(hev.new b o h).elim id (fun h2=>?_),fun _ _ _=>rfl⟩
 have:=hev.lt b o h
 omega
theorem zdJ (a:Act) {s:Script P n g H ops ops env Q} {j:Nat} {o:Oper} {rj:AV} (ho:ops[j]?=some o) (hr:s.r[j]?=some rj) (hop:o.op=.move (.tmp n)) (hg:o.guard=none) (henv:env.get n=none) (hf:FS g K ρ H w) (u:Value):ARel K w ρ H rj u:=by
 have hj:=(List.getElem?_eq_some_iff.1 ho).1
 have hej:s.e[j]?=some (s.e[j]'(by rw [s.lene];exact hj)):=List.getElem?_eq_getElem _
 generalize s.e[j]'(by rw [s.lene];exact hj)=ej at hej
 have hno:ej.get n=none:=by
  cases hc:ej.get n with
  | none=>rfl
  | some av =>
   exfalso
   rcases s.src j ej (by rw [List.getElem?_append_left (List.getElem?_eq_some_iff.1 hej).1];exact hej) n av hc with ⟨i,o',ri,h1,h2,h3,h4,_⟩|⟨_,av0,h2,_⟩
   ·have hi:=(List.getElem?_eq_some_iff.1 h2).1
    obtain ⟨t,e1,e2,_⟩:=s.ok i o' ri _ h2 h4 (List.getElem?_eq_getElem (by rw [s.lene];exact hi))
    rw [h3] at e1;have e3:=Option.some.inj e1;subst e3;exact Nat.lt_irrefl _ e2
   ·rw [henv] at h2;cases h2
 obtain ⟨t,hd,ht,hor⟩:=s.ok j o rj ej ho hr hej
 have hgt:guardE ops ej o=some true:=by simp [guardE,yL,hg]
 rcases hor with ⟨_,hq⟩|⟨hgf,_⟩
 ·have:=hq.go K ρ { a with tmps:=Array.replicate (n + 1) u } w hf (fun x hx av hav=>by
   rw [hop] at hx
   simp [Op.operands] at hx
   subst hx
   simp [Env.val,hno] at hav)
  rw [show (execOp (Act.eval { a with tmps:=Array.replicate (n + 1) u }) o).run P w=.ok (.value u) w by
   simp [execOp,hop,Act.eval,Array.getD_eq_getD_getElem?]] at this
  obtain ⟨K',hev,hr'⟩:=this
  exact hr'.later (zkY hev)
 ·rw [hgt] at hgf;cases hgf
end
end Go.Cg
namespace Go.Cg
open Go.RowKit Go.Maps Go.WideElems
def qW (us:Nat→Value):Nat→Env→HEnv
 | _,[]=>[]
 | b,(t,av)::e=>(b,.pin av (us t))::qW us (b + 1) e
def zi1:Env→Bool
 | []=>true
 | (t,_)::e=>(Env.get e t).isNone&&zi1 e
def zch (b:Nat):HEnv→Bool
 | []=>true
 | (i,_)::e=>Nat.blt i b&&zch b e
theorem get_append {H G:HEnv} {i:Nat}:HEnv.get (H++G) i=match HEnv.get H i with|some h=>some h|none=>HEnv.get G i:=by
 induction H with
 | nil=>rfl
 | cons x H ih =>
  obtain ⟨j,h⟩:=x
  rw [List.cons_append,HEnv.get_cons,HEnv.get_cons]
  split
  ·rfl
  ·exact ih
theorem YK {b:Nat}:∀ {H:HEnv},zch b H=true→∀ i h,H.get i=some h→i < b
 | [],_,i,h,hg=>by simp [HEnv.get_nil] at hg
 | (j,x)::e,hi,i,h,hg=>by
  simp only [zch,Bool.and_eq_true] at hi
  rw [HEnv.get_cons] at hg
  split at hg
  ·rename_i e';subst e';exact Nat.le_of_ble_eq_true hi.1
  ·exact YK hi.2 i h hg
theorem Vt {us:Nat→Value}:∀ {e:Env} {b i:Nat} {h:HE},HEnv.get (qW us b e) i=some h→b≤i∧∃ t av,(t,av)∈e∧h=.pin av (us t)
 | [],b,i,h,hg=>by simp [qW,HEnv.get_nil] at hg
 | (t,av)::e,b,i,h,hg=>by
  rw [qW,HEnv.get_cons] at hg
  split at hg
  ·rename_i e';subst e'
   simp only [Option.some.injEq] at hg;subst hg
   exact ⟨Nat.le_refl _,t,av,by simp,rfl⟩
  ·obtain ⟨h1,t',av',h2,h3⟩:=Vt hg
   exact ⟨by omega,t',av',by simp [h2],h3⟩
theorem zhG {us:Nat→Value}:∀ {e:Env} {b:Nat} {t:Nat} {av:AV},(t,av)∈e→∃ i,b≤i∧HEnv.get (qW us b e) i=some (.pin av (us t))
 | [],b,t,av,h=>by simp at h
 | (t',av')::e,b,t,av,h=>by
  simp only [List.mem_cons,Prod.mk.injEq] at h
  rcases h with ⟨rfl,rfl⟩|h
  ·exact ⟨b,Nat.le_refl _,by rw [qW,HEnv.get_cons,if_pos rfl]⟩
  ·obtain ⟨i,h1,h2⟩:=zhG (b:=b + 1) h
   exact ⟨i,by omega,by rw [qW,HEnv.get_cons,if_neg (by omega)];exact h2⟩
theorem zjz:∀ {e:Env} {t:Nat} {av:AV},e.get t=some av→(t,av)∈e
 | [],t,av,h=>by simp [Env.get_nil] at h
 | (t',av')::e,t,av,h=>by
  rw [Env.get_cons] at h
  split at h
  ·rename_i e';subst e';simp only [Option.some.injEq] at h;subst h;simp
  ·simp [zjz h]
theorem zdv:∀ {e:Env},zi1 e=true→∀ {t:Nat} {av:AV},(t,av)∈e→e.get t=some av
 | [],_,t,av,h=>by simp at h
 | (t',av')::e,hn,t,av,h=>by
  simp only [zi1,Bool.and_eq_true,Option.isNone_iff_eq_none] at hn
  rw [Env.get_cons]
  simp only [List.mem_cons,Prod.mk.injEq] at h
  rcases h with ⟨rfl,rfl⟩|h
  ·simp
  ·have:=zdv hn.2 h
   split
   ·rename_i e';subst e';rw [hn.1] at this;cases this
   ·exact this
def Qj (K:KK) (w:World) (ρ:Nat→Value) (H:HEnv) (ars:List AV) (vs:List Value):Prop :=
 vs.length=ars.length∧∀ (k:Nat) (c:AV) (v:Value),ars[k]?=some c→vs[k]?=some v→ARel K w ρ H c v
structure ACallH (P:Program) (f:FuncId) (args:List AV) (H H':HEnv):Prop where
 stands:Ve P f
 calls:∀ (g:Base) (K:KK) (ρ:Nat→Value) (w:World) (vs:List Value),Plain g→FS g K ρ H w→Qj K w ρ H args vs →
  Calls P f vs.toArray w fun e w'=>∃ K' ρ',e=.returned (.tuple #[])∧FS g K' ρ' H' w'
def zaw:Nat→List AV→Env
 | _,[]=>[]
 | k,p::ps=>(k,p)::zaw (k + 1) ps
def znm (H':HEnv):QC:=fun ex _ H=>(ex=.normal∨ex=.ret)∧Xr H H' []
section
variable {P:Program} {tb:Tab} {n:Nat} {g:Base} {K:KK} {w:World} {ρ:Nat→Value} {H H':HEnv} {env:Env} {a:Act} {ops:List Oper} {o:Oper} {rest:List Oper} {Q:Env→HEnv→Prop} {f:FuncId} {args:List AV}
theorem WE:∀ (ps:List AV) (k t:Nat) (av:AV),(zaw k ps).get t=some av→k≤t∧ps[t - k]?=some av
 | [],k,t,av,h=>by simp [zaw,Env.get_nil] at h
 | p::ps,k,t,av,h=>by
  simp only [zaw,Env.get_cons] at h
  split at h
  ·rename_i e;subst e;simp only [Option.some.injEq] at h;exact ⟨Nat.le_refl _,by simp [h]⟩
  ·obtain ⟨h1,h2⟩:=WE ps (k + 1) t av h
   refine ⟨by omega,?_⟩
   rw [show t - k=(t - (k + 1)) + 1 by omega]
   simpa using h2
theorem zgj {fn:Func} {c:Code} (hf:P.funcs[f]?=some fn) (hb:fn.body=some c) (hn:(fn.name == "runtime.NumGoroutine")=false) (hnt:fn.ntmps=n) (hargs:args.length≤n) (hrs:fn.results=#[])
  (h:∀ g:Base,Plain g→AW P n g c (zaw 0 args) H (znm H')):ACallH P f args H H':=by
 refine ⟨⟨fn,hf,by simp [hb],hn⟩,fun g0 K ρ w vs hw1 hfs0 hv=>?_⟩
 obtain ⟨g,hg0⟩:∃ g:Base,g=⟨g0.w0,g0.K0,g0.w1,[],g0.wp,g0.pr⟩:=⟨_,rfl⟩
 have hfs:FS g K ρ H w:=by subst hg0;exact ⟨hfs0.below,hfs0.old,hfs0.new,hfs0.lt,hfs0.others,⟨hfs0.pt.same,hfs0.pt.kept⟩,hfs0.away,hfs0.heap⟩
 refine calls_of_wp hf hb ?_
 have hlen:vs.length=args.length:=hv.1
 refine wp_mono (wpIn_wide.1 ((h g (by subst hg0;exact hw1)).go _ w ⟨by simp [hnt];omega,by subst hg0;rfl,K,ρ,hfs,?_⟩ none 0)) ?_
 ·intro t av hg
  obtain ⟨_,hp⟩:=WE args 0 t av hg
  have hlt:t < vs.length:=by rw [hlen];exact (List.getElem?_eq_some_iff.1 hp).1
  refine ⟨vs[t],?_,hv.2 t av _ hp (List.getElem?_eq_getElem hlt)⟩
  rw [Array.getElem?_append_left (by simpa using hlt)]
  simp [hlt]
 ·rintro e a' w' ⟨env1,H1,hi,he,hfit⟩
  have hi2:Inv n g [] H' a' w':=(hi.sub qO).hsub hfit
  obtain ⟨_,h2,K',ρ',hf1,_⟩:=hi2
  subst hg0
  have hf':FS g0 K' ρ' H' w':=⟨hf1.below,hf1.old,hf1.new,hf1.lt,hf1.others,⟨hf1.pt.same,hf1.pt.kept⟩,hf1.away,hf1.heap⟩
  have hres:(results fn a'.tmps).run P w'=.ok (.tuple #[]) w':=by
   unfold results
   rw [hrs,Array.mapM_eq_mapM_toList]
   rfl
  rcases he with rfl|rfl
  ·exact ⟨h2,_,hres,K',ρ',rfl,hf'⟩
  ·exact ⟨h2,_,hres,K',ρ',rfl,hf'⟩
def avs (env:Env):List Operand→Option (List AV)
 | []=>some []
 | x::xs=>match env.val x,avs env xs with|some v,some vs=>some (v::vs)|_,_=>none
theorem VT (he:EnvR K w ρ H env a.tmps):∀ {xs:List Operand} {ars:List AV},avs env xs=some ars→Qj K w ρ H ars (xs.map a.eval)
 | [],ars,h=>by simp [avs] at h;subst h;exact ⟨rfl,fun k c v h=>by simp at h⟩
 | x::xs,ars,h=>by
  simp only [avs] at h
  split at h
  ·rename_i v vs h1 h2
   simp only [Option.some.injEq] at h;subst h
   obtain ⟨l1,l2⟩:=VT he h2
   refine ⟨by simpa using l1,fun k c u hc hu=>?_⟩
   cases k with
   | zero=>simp at hc hu;subst hc hu;exact yA he h1
   | succ k=>simp at hc hu;exact l2 k c u hc (by simpa using hu)
  ·cases h
theorem zF {G:HEnv} (j:Nat) (h:(H.get j).isSome=true):(HEnv.get (H++G) j).isSome=true:=by
 rw [get_append]
 cases hh:H.get j with
 | none=>simp [hh] at h
 | some x=>rfl
theorem zgA {t d:Tmp} {xs:Array Operand} {ts:Array TypeId} {first cap ars:List AV} (env2:Env) (H':HEnv) (b:Nat) (hw1:Plain g) (hg:guardE ops env o=some true) (hop:o.op=.call { callee:=.value (.tmp t),args:=xs,argTypes:=ts })
  (ht:env.get t=some (.fn (.func f) first cap)) (hargs:avs env xs.toList=some ars) (hs:Sub env env2) (hnd:zi1 env2=true) (hb:zch b H=true) (hb':zch b H'=true)
  (hfit:(Zz H' env2&&hIn H' H')=true) (hd:o.dst=some d) (hdt:Nat.blt d n=true)
  (hc:∀ us,ACallH P f (first++ars++cap) (H++qW us b env2) (H'++qW us b env2))
  (h:AO P n g ops.toArray rest ((d,.pv (.tup []))::env2) H' Q):AO P n g ops.toArray (o::rest) env H Q:=by
 refine ⟨fun a w hinv=>?_⟩
 have hw:=yh hinv hg
 have hinv2:=hinv.sub hs
 obtain ⟨h1,h2,K,ρ,hf,he⟩:=hinv
 have he2:EnvR K w ρ H env2 a.tmps:=fun t av ht=>he t av (hs t av ht)
 refine wpList_step fun KK hKK=>?_
 rw [if_pos hw]
 let us:Nat→Value:=fun t=>a.tmps.getD t undef
 have hus:∀ t av,(t,av)∈env2→ARel K w ρ H av (us t):=by
  intro t av hm
  obtain ⟨v,v1,v2⟩:=he2 t av (zdv hnd hm)
  have:us t=v:=by simp [us,Array.getD_eq_getD_getElem?,v1]
  rw [this];exact v2
 have hlat:Later K K w w:=.refl K w
 have hk:∀ j,(H.get j).isSome=true→(HEnv.get (H++qW us b env2) j).isSome=true∧ρ j=ρ j:=fun j hj=>⟨zF j hj,rfl⟩
 have hfs:FS g K ρ (H++qW us b env2) w:=by
  have e1:∀ i x,HEnv.get (H++qW us b env2) i=some x→x.live=true→H.get i=some x:=by
   intro i x hi hl
   rw [get_append] at hi
   cases hh:H.get i with
   | some z=>rw [hh] at hi;exact hi
   | none =>
    rw [hh] at hi
    obtain ⟨_,t,av,hm,rfl⟩:=Vt hi
    simp [HE.live] at hl
  refine ⟨hf.below,hf.old,hf.new,hf.lt,hf.others,hf.pt,fun i h bb hi hl=>hf.away i h bb (e1 i h hi hl) hl,?_,?_⟩
  ·intro i e hi
   rw [get_append] at hi
   cases hh:H.get i with
   | some x=>rw [hh] at hi;simp only [Option.some.injEq] at hi;subst hi;exact (hf.heap.ok i _ hh).keeps (.refl hf.lt) hf.lt hk
   | none =>
    rw [hh] at hi
    obtain ⟨_,t,av,hm,rfl⟩:=Vt hi
    exact (hus t av hm).keeps hlat hk
  ·intro i j x y bb hij hi hj lx ly bx bby
   have e1:∀ i x,HEnv.get (H++qW us b env2) i=some x→x.live=true→H.get i=some x:=by
    intro i x hi hl
    rw [get_append] at hi
    cases hh:H.get i with
    | some z=>rw [hh] at hi;exact hi
    | none =>
     rw [hh] at hi
     obtain ⟨_,t,av,hm,rfl⟩:=Vt hi
     simp [HE.live] at hl
   exact hf.heap.apart i j x y bb hij (e1 i x hi lx) (e1 j y hj ly) lx ly bx bby
 have hfn:=yA he (x:=.tmp t) ht
 generalize hfv:a.eval (.tmp t)=fv at hfn
 cases hfn with
 | fn _ _ _ vf vc f1 f2 f3 f4 =>
  have hpa:=VT (a:=a) he hargs
  have hall:Qj K w ρ (H++qW us b env2) (first++ars++cap) (vf++xs.toList.map a.eval++vc):=by
   refine ⟨by have:=hpa.1;simp at this;simp [f1,f2,this],fun k c v hc hv=>?_⟩
   have:ARel K w ρ H c v:=by
    rw [List.append_assoc,List.getElem?_append] at hc hv
    split at hc
    ·rename_i hl
     rw [if_pos (by omega)] at hv
     exact f3 k c v hc hv
    ·rename_i hl
     rw [if_neg (by omega)] at hv
     rw [f1] at hv
     rw [List.getElem?_append] at hc hv
     have e:(xs.toList.map a.eval).length=ars.length:=hpa.1
     split at hc
     ·rename_i hl2
      rw [if_pos (by omega)] at hv
      exact hpa.2 _ c v hc hv
     ·rename_i hl2
      rw [if_neg (by omega),e] at hv
      exact f4 _ c v hc hv
   exact this.keeps hlat hk
  have hrun:(execOp a.eval o).run P w=.ok (.enter f (vf++xs.toList.map a.eval++vc).toArray) w:=by
   have e:(vf++xs.toList.map a.eval++vc).toArray=vf.toArray++xs.map a.eval++vc.toArray:=by
    rw [show xs.map a.eval=(xs.toList.map a.eval).toArray by rw [←Array.toList_map,Array.toArray_toList]]
    simp
   rw [e]
   simp [execOp,hop,resolve,hfv,Deferred.ofValue,invoke,Zd (hc us).stands]
  unfold Oper.wp
  rw [hrun]
  simp only [Oper.upon]
  refine ((hc us).calls g K ρ w _ hw1 hfs hall).mono fun e w'' ⟨K',ρ',e1,hfs'⟩=>?_
  subst e1
  have hinv':Inv n g env2 (H'++qW us b env2) a w'':=by
   refine ⟨h1,h2,K',ρ',hfs',fun t av ht=>?_⟩
   obtain ⟨i,hi1,hi2⟩:=zhG (us:=us) (b:=b) (zjz ht)
   have hno:H'.get i=none:=by
    cases hh:H'.get i with
    | none=>rfl
    | some x=>have:=YK hb' i x hh;omega
   have hget:HEnv.get (H'++qW us b env2) i=some (.pin av (us t)):=by rw [get_append,hno];exact hi2
   have hrel:=hfs'.heap.ok i _ hget
   obtain ⟨v,v1,_⟩:=he2 t av ht
   have:us t=v:=by simp [us,Array.getD_eq_getD_getElem?,v1]
   exact ⟨v,v1,by rw [←this];exact hrel⟩
  have hinv3:Inv n g env2 H' a w'':=hinv'.hsub ⟨fun i x hi=>by rw [get_append,hi],hfit⟩
  obtain ⟨q1,q2,K3,ρ3,q3,q4⟩:=hinv3
  refine hKK _ _ (h.go _ _ ⟨yB q1,put_defers q2,K3,ρ3,q3,?_⟩)
  rw [hd]
  exact yY q1 hdt q4 (.pv _ _ (.tup [] [] rfl (by simp)))
end
end Go.Cg
namespace Go.Cg
open Go.RowKit
section
variable {P:Program} {tb:Tab} {g:Base} {H:HEnv} {env:Env} {o:Oper}
theorem zhi {t e len:Nat} {x i:Operand} {cs:List PV} {k:IntKind} {m:Int} {p:PV} (j:Nat) (htb:yc P tb) (hop:o.op=.index t x i) (hk:tb.k t=.arr len e) (hke:tb.known e=true)
  (hx:env.pv H x=some (.agg cs)) (hi:env.pv H i=some (.base (.int k m))) (hm:m=(j:Int)) (hj:Nat.blt j len=true) (hp:Vk tb e cs (j * tb.size e)=some p):QStep P g H o env (.pv p):=by
 subst hm
 refine ⟨fun K ρ a w hf hv=>?_⟩
 have hxr:=zT hf (hv x (by rw [hop];simp [Op.operands])) hx
 have hir:=zT hf (hv i (by rw [hop];simp [Op.operands])) hi
 generalize hxv:a.eval x=xv at hxr
 generalize hiv:a.eval i=iv at hir
 cases hir
 have hlt:j < len:=Nat.le_of_ble_eq_true hj
 have hko:tb.k e≠.oth:=by intro h;simp [Tab.known,h] at hke
 cases hxr with
 | agg _ vs h1 ho h2 =>
  obtain ⟨v,h3,h4⟩:=WX htb (P:=P) ⟨h1,h2⟩ ho hp w
  have hs:=run_sizeOf htb hko w
  have:(execOp a.eval o).run P w=.ok (.value v) w:=by
   simp [execOp,hop,hxv,hiv,Instr.index,asIntOf,run_underlying (zju htb hk),hs,h3,hlt]
  rw [this]
  exact qA hf (.pv _ _ h4)
end
end Go.Cg
