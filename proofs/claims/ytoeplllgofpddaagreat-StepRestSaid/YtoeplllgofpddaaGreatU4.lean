/- A part of the walks by abstract values: no statement of its own. -/
import Derived.Test.YtoeplllgofpddaaGreatU3
import Derived.WalkSpells
import Derived.Test.YtoeplllgofpddaaGreatU2
import Derived.Test.YtoeplllgofpddaaGreatProg
import Derived.KernelRfl
set_option linter.unusedVariables false
set_option linter.unusedSimpArgs false
namespace Go.Cg
open Go.RowKit
section
variable {P:Program} {tb:Tab} {n:Nat} {g:Base} {K K':KK} {w w':World} {ρ ρ':Nat→Value} {H H':HEnv} {env:Env} {a:Act} {ops:List Oper} {o:Oper} {rest:List Oper} {Q:Env→HEnv→Prop} {QQ:QC} {c:Code}
theorem WI {t:TypeId} {x i:Operand} {s:ByteArray} {k:IntKind} {m:Int} {b:UInt8} (htb:qp P tb) (hop:o.op=.index t x i) (hk:tb.k t=.str) (hx:env.pv H x=some (.base (.string s))) (hi:env.pv H i=some (.base (.int k m))) (h0:0≤m) (hb:s[m.toNat]?=some b) :
  QStep P g H o env (.pv (.base (.int .u8 b.toNat))):=by
 refine ⟨fun K ρ a w hf hv=>?_⟩
 have hxr:=qo hf (hv x (by rw [hop];simp [Op.operands])) hx
 have hir:=qo hf (hv i (by rw [hop];simp [Op.operands])) hi
 generalize hxv:a.eval x=xv at hxr
 generalize hiv:a.eval i=iv at hir
 cases hir;cases hxr
 have:(execOp a.eval o).run P w=.ok (.value (.int .u8 b.toNat)) w:=by
  simp [execOp,hop,hxv,hiv,Instr.index,asIntOf,run_underlying (zbW htb hk),h0,hb]
 rw [this]
 exact Yh hf (.pv _ _ (.base _ rfl))
def zaY (env:Env) (H:HEnv) (d:Int):Option Operand→Option Int
 | none=>some d
 | some x=>match env.pv H x with|some (.base (.int _ m))=>some m|_=>none
theorem zc0 (hf:FS g K ρ H w) {x:Option Operand} {d m:Int} (hv:∀ y∈x.toArray,∀ av,env.val y=some av→ARel K w ρ H av (a.eval y)) (h:zaY env H d x=some m) :
  (x=none∧m=d)∨∃ y k,x=some y∧a.eval y=.int k m:=by
 cases x with
 | none=>simp [zaY] at h;exact .inl ⟨rfl,h.symm⟩
 | some y =>
  simp only [zaY] at h
  split at h
  ·rename_i k m' hm
   simp only [Option.some.injEq] at h;subst h
   have:=qo hf (hv y (by simp)) hm
   generalize hyv:a.eval y=yv at this
   cases this
   exact .inr ⟨y,k,rfl,hyv⟩
  ·cases h
theorem zlF {t:TypeId} {x:Operand} {lo hi:Option Operand} {s:ByteArray} {l h:Int} (htb:qp P tb) (hop:o.op=.slice t x lo hi none) (hk:tb.k t=.str) (hx:env.pv H x=some (.base (.string s))) (hlo:zaY env H 0 lo=some l) (hhi:zaY env H s.size hi=some h)
  (h0:0≤l) (h1:l≤h) (h2:h≤s.size):QStep P g H o env (.pv (.base (.string (s.extract l.toNat h.toNat)))):=by
 refine ⟨fun K ρ a w hf hv=>?_⟩
 have hxr:=qo hf (hv x (by rw [hop];simp [Op.operands])) hx
 generalize hxv:a.eval x=xv at hxr
 cases hxr with
 | base _ hok =>
 have el:=zc0 (a:=a) hf (x:=lo) (fun y hy=>hv y (by rw [hop];simp [Op.operands] at hy ⊢;exact .inr (.inl hy))) hlo
 have eh:=zc0 (a:=a) hf (x:=hi) (fun y hy=>hv y (by rw [hop];simp [Op.operands] at hy ⊢;exact .inr (.inr hy))) hhi
 have hh:h≤((s.size:Nat):Int):=h2
 have hh0:0≤h:=by omega
 have hlh:l≤((h.toNat:Nat):Int):=by omega
 have hrun:(execOp a.eval o).run P w=.ok (.value (.string (s.extract l.toNat h.toNat))) w:=by
  rcases el with ⟨rfl,rfl⟩|⟨y,k,rfl,hy⟩ <;> rcases eh with ⟨rfl,rfl⟩|⟨z,k',rfl,hz⟩
  ·simp [execOp,hop,hxv,Instr.sliceAt,Instr.slice,Instr.sliceBounds,run_underlying (zbW htb hk)]
  ·simp [execOp,hop,hxv,hz,Instr.sliceAt,Instr.slice,Instr.sliceBounds,Instr.sliceBound,asIntOf,run_underlying (zbW htb hk),hh,hh0]
  ·simp [execOp,hop,hxv,hy,Instr.sliceAt,Instr.slice,Instr.sliceBounds,Instr.sliceBound,asIntOf,run_underlying (zbW htb hk),h0,h1]
  ·simp [execOp,hop,hxv,hy,hz,Instr.sliceAt,Instr.slice,Instr.sliceBounds,Instr.sliceBound,asIntOf,run_underlying (zbW htb hk),h0,hlh,hh,hh0]
   intro hc;omega
 rw [hrun]
 refine Yh hf (.pv _ _ (.base _ ?_))
 simp only [Xh,decide_eq_true_eq] at hok ⊢
 simp only [ByteArray.size_extract]
 omega
theorem YK {t e:TypeId} {parts:Array (Nat × Operand)} (htb:qp P tb) (hop:o.op=.buildSlice t 0 parts) (hp:parts=#[]) (hk:tb.k t=.sl e) (hke:tb.known e=true) (hsz:Nat.blt 0 (tb.size e)=true):QStep P g H o env (.pv (.slc (tb.size e) [] true)):=by
 refine ⟨fun K ρ a w hf hv=>?_⟩
 subst hp
 have hko:tb.k e≠.oth:=by intro h;simp [Tab.known,h] at hke
 have hs:=run_sizeOf htb hko w
 have hrun:(execOp a.eval o).run P w=.ok (.value (.slice (some ⟨w.heap.size,0,none⟩) 0 0)) (w.alloc (.cells #[] e)):=by
  have e0:Array.range 0=#[]:=Array.eq_empty_of_size_eq_zero (by simp)
  simp [execOp,hop,Instr.buildSlice,run_underlying (Zl htb hk),hs,Instr.fill,newRow,e0]
 rw [hrun]
 refine ⟨_,zbh hf.lt #[] e 0,.pv _ _ ?_⟩
 have:=PRel.slc (K:=zbD K w 0) (w:=w.alloc (.cells #[] e)) (tb.size e) [] true w.heap.size 0 0 (fun _=>[]) (Nat.le_of_ble_eq_true hsz) (Nat.le_refl _) (fun _=>rfl) (by simp [maxLen]) (by simp [maxLen]) (fun i e h=>by simp at h) (fun i e k c v h=>by simp at h)
 exact this
theorem zsy {t e:TypeId} {x:Operand} {lo hi:Option Operand} {sz:Nat} {es:List PV} {full:Bool} {l h:Int} (htb:qp P tb) (hop:o.op=.slice t x lo hi none) (hk:tb.k t=.sl e) (hke:tb.known e=true) (hsz:tb.size e=sz) (hx:env.pv H x=some (.slc sz es full))
  (hlo:zaY env H 0 lo=some l) (hhi:zaY env H es.length hi=some h) (h0:0≤l) (h1:l≤h) (h2:h≤es.length):QStep P g H o env (.pv (.slc sz ((es.take h.toNat).drop l.toNat) false)):=by
 refine ⟨fun K ρ a w hf hv=>?_⟩
 have hxr:=qo hf (hv x (by rw [hop];simp [Op.operands])) hx
 generalize hxv:a.eval x=xv at hxr
 have el:=zc0 (a:=a) hf (x:=lo) (fun y hy=>hv y (by rw [hop];simp [Op.operands] at hy ⊢;exact .inr (.inl hy))) hlo
 have eh:=zc0 (a:=a) hf (x:=hi) (fun y hy=>hv y (by rw [hop];simp [Op.operands] at hy ⊢;exact .inr (.inr hy))) hhi
 have hko:tb.k e≠.oth:=by intro h;simp [Tab.known,h] at hke
 have hs:=run_sizeOf htb hko w
 have hh0:0≤h:=by omega
 have hlh:l≤((h.toNat:Nat):Int):=by omega
 have bounds:∀ cap:Nat,es.length≤cap→(Instr.sliceBounds true es.length cap (lo.map a.eval) (hi.map a.eval) none).run P w=.ok (l.toNat,h.toNat,cap) w:=by
  intro cap hcap
  have hhc:h≤(cap:Int):=by omega
  rcases el with ⟨rfl,rfl⟩|⟨y,k,rfl,hy⟩ <;> rcases eh with ⟨rfl,rfl⟩|⟨z,k',rfl,hz⟩
  ·simp [Instr.sliceBounds]
  ·simp [hz,Instr.sliceBounds,Instr.sliceBound,asIntOf,hhc,hh0]
  ·simp [hy,Instr.sliceBounds,Instr.sliceBound,asIntOf,h0,h1]
  ·simp [hy,hz,Instr.sliceBounds,Instr.sliceBound,asIntOf,h0,hlh,hhc,hh0]
   intro hc;omega
 cases hxr with
 | nil =>
  simp only [List.length_nil,Int.natCast_zero] at h2 bounds
  have e1:l=0:=by omega
  have e2:h=0:=by omega
  subst e1 e2
  have hrun:(execOp a.eval o).run P w=.ok (.value (.slice none 0 0)) w:=by
   have:=bounds 0 (Nat.le_refl _)
   simp [execOp,hop,hxv,Instr.sliceAt,Instr.slice,run_underlying (Zl htb hk),this,hs]
  rw [hrun]
  exact Yh hf (.pv _ _ (by simpa using PRel.nil (K:=K) (w:=w) sz false))
 | emp _ _ ad =>
  simp only [List.length_nil,Int.natCast_zero] at h2 bounds
  have e1:l=0:=by omega
  have e2:h=0:=by omega
  subst e1 e2
  have hrun:(execOp a.eval o).run P w=.ok (.value (.slice (some ad) 0 0)) w:=by
   have:=bounds 0 (Nat.le_refl _)
   simp [execOp,hop,hxv,Instr.sliceAt,Instr.slice,run_underlying (Zl htb hk),this,hs]
  rw [hrun]
  exact Yh hf (.pv _ _ (by simpa using PRel.emp (K:=K) (w:=w) sz false ad))
 | slc _ _ _ b off cap vss q0 q1 q2 q3 q4 q5 q6 =>
  have hb:=bounds cap q1
  have hlen:((es.take h.toNat).drop l.toNat).length=h.toNat - l.toNat:=by simp;omega
  have hget:∀ i e,((es.take h.toNat).drop l.toNat)[i]?=some e→es[l.toNat + i]?=some e:=by
   intro i e he
   rw [List.getElem?_drop,List.getElem?_take] at he
   split at he
   ·exact he
   ·cases he
  have hrun:(execOp a.eval o).run P w=.ok (.value (.slice (if cap=l.toNat then some ⟨b,off,none⟩ else some ⟨b,off + l.toNat * sz,none⟩) (h.toNat - l.toNat) (cap - l.toNat))) w:=by
   simp [execOp,hop,hxv,Instr.sliceAt,Instr.slice,run_underlying (Zl htb hk),hb,hs,hsz,Addr.add_lit]
  rw [hrun]
  refine Yh hf (.pv _ _ ?_)
  have key:∀ off',(off'=off + l.toNat * sz∨h.toNat - l.toNat=0)→PRel K w (.slc sz ((es.take h.toNat).drop l.toNat) false) (.slice (some ⟨b,off',none⟩) (h.toNat - l.toNat) (cap - l.toNat)):=by
   intro off' hoff
   have:=PRel.slc (K:=K) (w:=w) sz ((es.take h.toNat).drop l.toNat) false b off' (cap - l.toNat) (fun i=>vss (l.toNat + i)) q0 (by rw [hlen];omega) (by simp) (by rw [hlen];omega) (by omega)
    (fun i e he=>by
     have he':=hget i e he
     obtain ⟨r1,r2,r3⟩:=q5 _ e he'
     refine ⟨r1,r2,?_⟩
     rcases hoff with rfl|hz
     ·rw [Nat.add_assoc,←Nat.add_mul];exact r3
     ·have:=(List.getElem?_eq_some_iff.1 he).1;rw [hlen] at this;omega)
    (fun i e k c v he=>q6 _ e k c v (hget i e he))
   rw [hlen] at this
   exact this
  split
  ·rename_i hcl
   exact key off (.inr (by omega))
  ·exact key _ (.inl rfl)
theorem Qq {ty e:TypeId} {x y:Operand} {sz:Nat} {es xs:List PV} {full:Bool} (htb:qp P tb) (hop:o.op=.call { callee:=.builtin .append,args:=#[x,y],argTypes:=#[ty,ty] }) (hk:tb.k ty=.sl e)
  (hx:env.pv H x=some (.slc sz es true)∨(es=[]∧env.pv H x=some (.base (.slice none 0 0)))) (hy:env.pv H y=some (.slc sz xs full))
  (hzz:(match tb.get e with|some ti=>(match ti.zero with|some z=>ti.size==sz&&z.cells.size==sz&&Nat.blt 0 sz|none=>false)|none=>false)=true)
  (hbound:(es.length + xs.length) * (match tb.get e with|some ti=>ti.bytes|none=>0)≤140737488355328) (hb2:es.length + xs.length≤140737488355328):QStep P g H o env (.pv (.slc sz (es++xs) false)):=by
 refine ⟨fun K ρ a w hf hv=>?_⟩
 cases hti:tb.get e with
 | none=>simp [hti] at hzz
 | some ti =>
  cases hz:ti.zero with
  | none=>simp [hti,hz] at hzz
  | some z =>
   simp only [hti,hz,Bool.and_eq_true,beq_iff_eq] at hzz hbound
   obtain ⟨⟨z1,z2⟩,z3⟩:=hzz
   have hsz:0 < sz:=Nat.le_of_ble_eq_true z3
   obtain ⟨tin,q1,q2,q3,q4,_⟩:=ZH htb hti
   have hyr:=qo hf (hv y (by rw [hop];simp [Op.operands,Call.operands])) hy
   obtain ⟨news,n1,n2,n3,n4,n5⟩:=Xx hyr
   have hxr:PRel K w (.slc sz es true) (a.eval x):=by
    rcases hx with hx|⟨rfl,hx⟩
    ·exact qo hf (hv x (by rw [hop];simp [Op.operands,Call.operands])) hx
    ·have:=qo hf (hv x (by rw [hop];simp [Op.operands,Call.operands])) hx
     generalize a.eval x=xv at this ⊢
     cases this
     exact .nil sz true
   obtain ⟨us,m1,m2,m3,m4,m5⟩:=Xx hxr
   have hall:(us++news).length=(es.length + xs.length) * sz:=by rw [List.length_append,m1,n1,Nat.add_mul]
   have hone:∀ v∈us++news,v.oneCell'=true:=fun v hv'=>(List.mem_append.1 hv').elim (m3 v) (n3 v)
   have hcr:=m4.append m1 n4
   have fin:∀ (w2:World) (cap:Nat) (junk:List Value),Evo K K w w2→es.length + xs.length≤cap→cap≤maxLen→∀ (w3:World) (arr:Array Value),arr=(us++news++junk).toArray→w3=w2.alloc (.cells arr e) →
     ∃ K',Evo K K' w w3∧PRel K' w3 (.slc sz (es++xs) false) (.slice (some ⟨w2.heap.size,0,none⟩) (es.length + xs.length) cap):=by
    rintro w2 cap junk hev hc1 hc2 w3 arr rfl rfl
    have hlt2:∀ b o,K b o→b < w2.heap.size:=hev.lt
    have h3:=zbh hlt2 (us++news++junk).toArray e ((us++news).length)
    refine ⟨_,hev.trans h3,?_⟩
    have hlat:=(hev.trans h3).later hf.lt
    have hcell:∀ j v,(us++news)[j]?=some v→zbD K w2 (us++news).length w2.heap.size j∧(w2.alloc (.cells (us++news++junk).toArray e)).cell? ⟨w2.heap.size,j,none⟩=some v:=by
     intro j v hj
     have hjl:=(List.getElem?_eq_some_iff.1 hj).1
     refine ⟨.inr ⟨rfl,hjl⟩,?_⟩
     rw [World.cell?_alloc_new]
     simp only [List.getElem?_toArray]
     rw [List.getElem?_append_left hjl];exact hj
    have:=PRel.slc (K:=zbD K w2 (us++news).length) (w:=w2.alloc (.cells (us++news++junk).toArray e)) sz (es++xs) false w2.heap.size 0 cap (fun i=>((us++news).drop (i * sz)).take sz) hsz (by rw [List.length_append];exact hc1) (by simp) (by rw [List.length_append];unfold maxLen;omega) hc2
     (fun i e' he=>by
      obtain ⟨r1,r2⟩:=hcr i e' he
      have hi:=(List.getElem?_eq_some_iff.1 he).1
      rw [List.length_append] at hi
      have hil:=Nat.mul_le_mul_right sz (show i + 1≤es.length + xs.length by omega)
      rw [Nat.add_mul] at hil
      refine ⟨r1,by simp only [List.length_take,List.length_drop];omega,?_⟩
      intro k v hv'
      rw [List.getElem?_take] at hv'
      split at hv'
      ·rw [List.getElem?_drop] at hv'
       obtain ⟨c1,c2⟩:=hcell _ v hv'
       rw [Nat.zero_add]
       exact ⟨c1,c2,hone v (List.mem_of_getElem? hv')⟩
      ·cases hv')
     (fun i e' k c v he hc hv'=>by
      obtain ⟨r1,r2⟩:=hcr i e' he
      obtain ⟨v',e1,_,e3⟩:=r2 k c hc
      rw [List.getElem?_take] at hv'
      split at hv'
      ·rw [List.getElem?_drop,e1] at hv'
       cases hv'
       exact e3.later hlat
      ·cases hv')
    rw [show (es++xs).length=es.length + xs.length from List.length_append] at this
    exact this
   have hsmall:es.length + xs.length≤9223372036854775807:=by omega
   have hrun0:∀ {v':Value} {w':World},(Builtin.append_ #[ty,ty] o.type #[a.eval x,a.eval y]).run P w=.ok v' w'→(execOp a.eval o).run P w=.ok (.value v') w':=by
    intro v' w' h
    simp [execOp,hop,resolve,invoke,builtin,h]
   have hcapmax:∀ need old,need≤9223372036854775807→grownCap w need old e≤maxLen:=fun need old h=>grownCap_le_maxLen w need old e (by unfold maxLen;omega)
   have hevd:Evo K K w w.drew:=(Evo.refl hf.lt).drew
   rcases n2 with ⟨hy0,hxl⟩|⟨ad',c',hy1,hy2,_,hxc⟩
   ·
    have hxs:xs=[]:=List.eq_nil_of_length_eq_zero hxl
    subst hxs
    have hrun:(Builtin.append_ #[ty,ty] o.type #[a.eval x,a.eval y]).run P w=.ok (a.eval x) w:=by
     rcases m2 with ⟨e1,_⟩|⟨ad1,c1,e1,_,_,hle⟩
     ·rw [e1,hy0];simp [Builtin.append_,run_underlying (Zl htb hk),sizeOf,typeInfo,q1,Builtin.lenOf,Builtin.firstCells]
     ·rw [e1,hy0];simp [Builtin.append_,run_underlying (Zl htb hk),sizeOf,typeInfo,q1,Builtin.lenOf,Builtin.firstCells,hle,storeCells]
    rw [hrun0 hrun]
    refine Yh hf ?_
    rw [List.append_nil]
    exact zdH sz es true _ _ ρ H _ (.pv _ _ hxr)
   ·by_cases hx0:xs.length=0
    ·have hxs:xs=[]:=List.eq_nil_of_length_eq_zero hx0
     subst hxs
     have hnews:news=[]:=List.eq_nil_of_length_eq_zero (by simpa using n1)
     have hrun:(Builtin.append_ #[ty,ty] o.type #[a.eval x,a.eval y]).run P w=.ok (a.eval x) w:=by
      rcases m2 with ⟨e1,_⟩|⟨ad1,c1,e1,_,_,hle⟩
      ·rw [e1,hy1];simp [Builtin.append_,run_underlying (Zl htb hk),sizeOf,typeInfo,q1,Builtin.lenOf,Builtin.firstCells,loadCells,loadCellsFrom]
      ·rw [e1,hy1];simp [Builtin.append_,run_underlying (Zl htb hk),sizeOf,typeInfo,q1,Builtin.lenOf,Builtin.firstCells,hle,storeCells,loadCells,loadCellsFrom]
     rw [hrun0 hrun]
     refine Yh hf ?_
     rw [List.append_nil]
     exact zdH sz es true _ _ ρ H _ (.pv _ _ hxr)
    ·have hns:tin.size=sz:=by omega
     rcases m2 with ⟨e1,hel⟩|⟨ad1,c1,e1,e2,hfull,hle⟩
     ·have hes:es=[]:=List.eq_nil_of_length_eq_zero hel
      subst hes
      have hus:us=[]:=List.eq_nil_of_length_eq_zero (by simpa using m1)
      subst hus
      have hr:=run_append_nil (P:=P) w ty o.type e tin z (Zl htb hk) q1 (by rw [q4];exact hz) ad' xs.length c' news (by rw [hns];exact n1) hy2 (by omega) (by simp at hsmall;omega) (by rw [q3];simp at hbound;omega)
      rw [hrun0 (by rw [e1,hy1];exact hr)]
      obtain ⟨K',f1,f2⟩:=fin w.drew (grownCap w xs.length 0 e) (Builtin.zeroCells z.cells (grownCap w xs.length 0 e - xs.length)).toList hevd (by simpa using grownCap_ge w xs.length 0 e) (hcapmax _ _ (by simp at hsmall;omega)) _ (news.toArray++Builtin.zeroCells z.cells (grownCap w xs.length 0 e - xs.length)) (by apply Array.ext';simp) rfl
      refine ⟨K',?_,.pv _ _ ?_⟩
      ·simpa using f1
      ·simpa using f2
     ·have hc1:c1=es.length:=hfull rfl
      subst hc1
      have hr:=run_append_grow (P:=P) w ty o.type e tin z (Zl htb hk) q1 (by rw [q4];exact hz) ad1 es.length es.length us (by rw [hns];exact m1) e2 ad' xs.length c' news (by rw [hns];exact n1) hy2 (by omega) (by omega) (growslice_fits (by omega) (by rw [q3];exact hbound))
      rw [hrun0 (by rw [e1,hy1];exact hr)]
      obtain ⟨K',f1,f2⟩:=fin w.drew (grownCap w (es.length + xs.length) es.length e) (Builtin.zeroCells z.cells (grownCap w (es.length + xs.length) es.length e - (es.length + xs.length))).toList hevd (grownCap_ge w _ _ e) (hcapmax _ _ hsmall) _ (us.toArray++news.toArray++Builtin.zeroCells z.cells (grownCap w (es.length + xs.length) es.length e - (es.length + xs.length))) (by apply Array.ext';simp) rfl
      refine ⟨K',?_,.pv _ _ ?_⟩
      ·simpa using f1
      ·simpa using f2
theorem XH {t:TypeId} {x y:Operand} {sz:Nat} {es:List PV} {full:Bool} {e d:Nat} {t':TypeId} (htb:qp P tb) (hg:guardE ops env o=some true) (hop:o.op=.binOp .eql t x y t') (hk:tb.k t=.sl e) (hx:env.pv H x=some (.slc sz es full)) (hy:env.pv H y=some (.base (.slice none 0 0))) (hd:o.dst=some d) (ht:Nat.blt d n=true)
  (h:∀ b:Bool,(b=true→es=[])→AO P n g ops.toArray rest ((d,.pv (.base (.bool b)))::env) H Q):AO P n g ops.toArray (o::rest) env H Q:=by
 refine ⟨fun a w hinv=>?_⟩
 have hw:=qE hinv hg
 obtain ⟨h1,h2,K,ρ,hf,he⟩:=hinv
 refine wpList_step fun Kc hKc=>?_
 rw [if_pos hw]
 have hxr:=qo (a:=a) hf (x:=x) (fun av hh=>qQ he hh) hx
 have hyr:=qo (a:=a) hf (x:=y) (fun av hh=>qQ he hh) hy
 generalize hxv:a.eval x=xv at hxr
 generalize hyv:a.eval y=yv at hyr
 cases hyr
 have key:∀ (b:Bool),(b=true→es=[])→(execOp a.eval o).run P w=.ok (.value (.bool b)) w→Oper.wp P o a w Kc (fun e a' w'=>∃ env' H',Inv n g env' H' a' w'∧e=.normal∧Q env' H'):=by
  intro b hb hrun
  unfold Oper.wp
  rw [hrun]
  simp only [Oper.upon]
  exact hKc _ _ ((h b hb).go _ _ ⟨Zg h1,put_defers h2,K,ρ,hf,by rw [hd];exact Yp h1 ht he (.pv _ _ (.base _ rfl))⟩)
 cases hxr with
 | nil =>
  refine key true (fun _=>rfl) ?_
  have:(binOp .eql t (.slice none 0 0) (.slice none 0 0)).run P w=.ok (.bool true) w:=by
   exact Lib.run_eql_slice_nil w t e _ _ _ _ _ (Zl htb hk)
  simp [execOp,hop,hxv,hyv,eqGuard,this]
 | emp _ _ ad =>
  refine key false (by simp) ?_
  have:(binOp .eql t (.slice (some ad) 0 0) (.slice none 0 0)).run P w=.ok (.bool false) w:=by
   exact Lib.run_eql_slice_nil w t e _ _ _ _ _ (Zl htb hk)
  simp [execOp,hop,hxv,hyv,eqGuard,this]
 | slc _ _ _ b off cap vss q0 q1 q2 q3 q4 q5 q6 =>
  refine key false (by simp) ?_
  have:(binOp .eql t (.slice (some ⟨b,off,none⟩) es.length cap) (.slice none 0 0)).run P w=.ok (.bool false) w:=by
   exact Lib.run_eql_slice_nil w t e _ _ _ _ _ (Zl htb hk)
  simp [execOp,hop,hxv,hyv,eqGuard,this]
end
end Go.Cg
namespace Go.Cg
structure Ty where
 kind:Int
 index:Int
 dims:Int
 ref:Bool
 deriving DecidableEq,Inhabited
structure TD where
 name:ByteArray
 flags:Int
 ext:Int
 faces:List Int
 deriving Inhabited
structure Fd where
 name:ByteArray
 owner:Int
 ty:Ty
 static:Bool
 deriving Inhabited
structure Ins where
 op:Int
 arg:Int
 t:Ty
 deriving Inhabited,DecidableEq
structure Cl where
 kind:Int
 tf:Int
 tt:Int
 hf:Int
 ht:Int
 filter:Int
 t:Ty
 deriving Inhabited,DecidableEq
structure Me where
 name:ByteArray
 owner:Int
 flags:Int
 params:List Ty
 ret:Ty
 locals:List Ty
 max:Int
 code:List Ins
 clauses:List Cl
 deriving Inhabited
structure Img where
 types:List TD
 fields:List Fd
 methods:List Me
 entry:Int
 deriving Inhabited
abbrev pi (n:Int):PV:=.base (.int .i64 n)
abbrev pb (b:Bool):PV:=.base (.bool b)
abbrev ps (s:ByteArray):PV:=.base (.string s)
def ints (l:List Int):PV:=.slc 1 (l.map pi) false
def yJ (t:Ty):PV:=.agg [pi t.kind,pi t.index,pi t.dims,pb t.ref]
def tys (l:List Ty):PV:=.slc 4 (l.map yJ) false
def ZA (t:TD):PV:=.agg [ps t.name,pi t.flags,pi t.ext,ints t.faces]
def ZK (f:Fd):PV:=.agg [ps f.name,pi f.owner,pi f.ty.kind,pi f.ty.index,pi f.ty.dims,pb f.ty.ref,pb f.static]
def ZP (x:Ins):PV:=.agg [pi x.op,pi x.arg,pi x.t.kind,pi x.t.index,pi x.t.dims,pb x.t.ref]
def ZB (c:Cl):PV:=.agg [pi c.kind,pi c.tf,pi c.tt,pi c.hf,pi c.ht,pi c.filter,pi c.t.kind,pi c.t.index,pi c.t.dims,pb c.t.ref]
def yL (m:Me):PV:=.agg [ps m.name,pi m.owner,pi m.flags,tys m.params,pi m.ret.kind,pi m.ret.index,pi m.ret.dims,pb m.ret.ref,tys m.locals,pi m.max,.slc 6 (m.code.map ZP) false,.slc 10 (m.clauses.map ZB) false]
def zH (g:Img):PV:=.agg [.slc 4 (g.types.map ZA) false,.slc 7 (g.fields.map ZK) false,.slc 12 (g.methods.map yL) false,pi g.entry]
theorem wrap_in {a:Int} (h1 : -9223372036854775808≤a) (h2:a≤9223372036854775807):IntKind.i64.wrap a=a:=by
 unfold IntKind.wrap
 simp only [IntKind.bits,IntKind.signed]
 simp
 split <;> omega
theorem Zc {env env':Env} {t:Nat} {k:IntKind} {a b:Int} (h:env.get t=some (.pv (.base (.int k a)))) (e:a=b) (hs:Sub env env'):Sub env ((t,.pv (.base (.int k b)))::env'):=yG (by rw [h,e]) hs
theorem zkO {P:Program} {n:Nat} {g:Base} {x y:Code} {env:Env} {H:HEnv} {QQ:QC} {t:Nat} {b:Bool} (hc:env.get t=some (.pv (.base (.bool b)))) (hb:b=true) (h:AW P n g x env H QQ):AW P n g (.cond (.tmp t) x y) env H QQ:=by subst hb;exact zbI hc h
theorem zkX {P:Program} {n:Nat} {g:Base} {x y:Code} {env:Env} {H:HEnv} {QQ:QC} {t:Nat} {b:Bool} (hc:env.get t=some (.pv (.base (.bool b)))) (hb:b=false) (h:AW P n g y env H QQ):AW P n g (.cond (.tmp t) x y) env H QQ:=by subst hb;exact zaV hc h
theorem zdO {P:Program} {n:Nat} {g:Base} {ops l:List Oper} {Q:Env→HEnv→Prop} {o:Oper} {env:Env} {H:HEnv} {t:Nat} {b:Bool} (c:Bool) (_:Zf ops o=some t) (hb:env.get t=some (.pv (.base (.bool b)))) (hc:b=c)
  (h:AO P n g ops.toArray (o::l) ((t,.pv (.base (.bool c)))::env) H Q):AO P n g ops.toArray (o::l) env H Q:=⟨fun a w hi=>h.go a w (zhJ hi hb hc)⟩
theorem zd0 {P:Program} {n:Nat} {g:Base} {H:HEnv} {ops l:List Oper} {Q:Env→Prop} {o:Oper} {t:Nat} {env:Env} {b:Bool} (c:Bool) (_:Zf ops o=some t) (hb:env.get t=some (.pv (.base (.bool b)))) (hc:b=c)
  (h:AD P n g H ops Q (o::l) ((t,.pv (.base (.bool c)))::env)):AD P n g H ops Q (o::l) env:=by
 subst hc
 refine .case _ _ _ _ hb (fun e=>?_) (fun e=>?_) <;> (subst e;exact h)
theorem zu {P:Program} {n:Nat} {g:Base} {ops:Array Oper} {rest:List Oper} {env:Env} {H:HEnv} {Q:Env→HEnv→Prop} {d:Option Tmp} {ty:TypeId} {po:String} {af:Array Edge} {gu:Option (Nat × Bool)} {f:Operand} {xs:Array Operand} {ts:Array TypeId} (h:AO P n g ops (⟨d,.call ⟨.value f,xs,ts⟩,ty,po,af,gu⟩::rest) env H Q):AO P n g ops (⟨d,.call ⟨.value f,xs,ts⟩,ty,po,af,gu⟩::rest) env H Q:=h
theorem znz {P:Program} {n:Nat} {g:Base} {ops rest:List Oper} {env:Env} {H:HEnv} {Q:Env→Prop} {d:Option Tmp} {ty:TypeId} {po:String} {af:Array Edge} {gu:Option (Nat × Bool)} {f:Operand} {xs:Array Operand} {ts:Array TypeId} (h:AD P n g H ops Q (⟨d,.call ⟨.value f,xs,ts⟩,ty,po,af,gu⟩::rest) env):AD P n g H ops Q (⟨d,.call ⟨.value f,xs,ts⟩,ty,po,af,gu⟩::rest) env:=h
theorem yH {P:Program} {n:Nat} {g:Base} {ops:Array Oper} {rest:List Oper} {env:Env} {H:HEnv} {Q:Env→HEnv→Prop} {d:Option Tmp} {ty:TypeId} {po:String} {af:Array Edge} {gu:Option (Nat × Bool)} {b:Builtin} {xs:Array Operand} {ts:Array TypeId} (h:AO P n g ops (⟨d,.call ⟨.builtin b,xs,ts⟩,ty,po,af,gu⟩::rest) env H Q):AO P n g ops (⟨d,.call ⟨.builtin b,xs,ts⟩,ty,po,af,gu⟩::rest) env H Q:=h
theorem zqD {P:Program} {n:Nat} {g:Base} {ops:Array Oper} {rest:List Oper} {env:Env} {H:HEnv} {Q:Env→HEnv→Prop} {d:Option Tmp} {ty:TypeId} {po:String} {af:Array Edge} {gu:Option (Nat × Bool)} {u:TypeId} {x i:Operand} (h:AO P n g ops (⟨d,.indexAddr u x i,ty,po,af,gu⟩::rest) env H Q):AO P n g ops (⟨d,.indexAddr u x i,ty,po,af,gu⟩::rest) env H Q:=h
theorem zrK {P:Program} {n:Nat} {g:Base} {ops rest:List Oper} {env:Env} {H:HEnv} {Q:Env→Prop} {d:Option Tmp} {ty:TypeId} {po:String} {af:Array Edge} {gu:Option (Nat × Bool)} {u:TypeId} {x i:Operand} (h:AD P n g H ops Q (⟨d,.indexAddr u x i,ty,po,af,gu⟩::rest) env):AD P n g H ops Q (⟨d,.indexAddr u x i,ty,po,af,gu⟩::rest) env:=h
theorem zlc {P:Program} {n:Nat} {g:Base} {ops:Array Oper} {rest:List Oper} {env:Env} {H:HEnv} {Q:Env→HEnv→Prop} {d:Option Tmp} {ty:TypeId} {po:String} {af:Array Edge} {gu:Option (Nat × Bool)} {u:TypeId} {x i:Operand} (h:AO P n g ops (⟨d,.index u x i,ty,po,af,gu⟩::rest) env H Q):AO P n g ops (⟨d,.index u x i,ty,po,af,gu⟩::rest) env H Q:=h
theorem zkK {P:Program} {n:Nat} {g:Base} {ops rest:List Oper} {env:Env} {H:HEnv} {Q:Env→Prop} {d:Option Tmp} {ty:TypeId} {po:String} {af:Array Edge} {gu:Option (Nat × Bool)} {u:TypeId} {x i:Operand} (h:AD P n g H ops Q (⟨d,.index u x i,ty,po,af,gu⟩::rest) env):AD P n g H ops Q (⟨d,.index u x i,ty,po,af,gu⟩::rest) env:=h
theorem Xq {P:Program} {n:Nat} {g:Base} {ops:Array Oper} {rest:List Oper} {env:Env} {H:HEnv} {Q:Env→HEnv→Prop} {d:Option Tmp} {ty:TypeId} {po:String} {af:Array Edge} {gu:Option (Nat × Bool)} {u:TypeId} {x y:Operand} (h:AO P n g ops (⟨d,.store u x y,ty,po,af,gu⟩::rest) env H Q):AO P n g ops (⟨d,.store u x y,ty,po,af,gu⟩::rest) env H Q:=h
theorem zfB {P:Program} {n:Nat} {g:Base} {ops:Array Oper} {rest:List Oper} {env:Env} {H:HEnv} {Q:Env→HEnv→Prop} {d:Option Tmp} {ty:TypeId} {po:String} {af:Array Edge} {gu:Option (Nat × Bool)} {u:TypeId} (h:AO P n g ops (⟨d,.alloc u,ty,po,af,gu⟩::rest) env H Q):AO P n g ops (⟨d,.alloc u,ty,po,af,gu⟩::rest) env H Q:=h
theorem VU {P:Program} {n:Nat} {g:Base} {ops:Array Oper} {rest:List Oper} {env:Env} {H:HEnv} {Q:Env→HEnv→Prop} {d:Option Tmp} {ty:TypeId} {po:String} {af:Array Edge} {gu:Option (Nat × Bool)} {u:TypeId} {x:Operand} (h:AO P n g ops (⟨d,.box u x,ty,po,af,gu⟩::rest) env H Q):AO P n g ops (⟨d,.box u x,ty,po,af,gu⟩::rest) env H Q:=h
theorem zsU {P:Program} {n:Nat} {g:Base} {ops:Array Oper} {l:List Oper} {env:Env} {H:HEnv} {Q:Env→HEnv→Prop} (h:AO P n g ops l env H Q):AO P n g ops l env H Q:=h
theorem zsV {P:Program} {n:Nat} {g:Base} {ops l:List Oper} {env:Env} {H:HEnv} {Q:Env→Prop} (h:AD P n g H ops Q l env):AD P n g H ops Q l env:=h
theorem zhu {P:Program} {n:Nat} {g:Base} {c:Operand} {x y:Code} {env:Env} {H:HEnv} {QQ:QC} (h:AW P n g (.cond c x y) env H QQ):AW P n g (.cond c x y) env H QQ:=h
def ztZ (env2:Env) (H2:HEnv) (QQ:QC):QC
 | .normal,env',H'=>Sub env' env2∧Wn H' H2 env2
 | e,env',H'=>QQ e env' H'
theorem Qo {P:Program} {n:Nat} {g:Base} {x y:Code} {env:Env} {H:HEnv} {QQ:QC} (env2:Env) (H2:HEnv) (h1:AW P n g x env H (ztZ env2 H2 QQ)) (h2:AW P n g y env2 H2 QQ):AW P n g (.seq x y) env H QQ :=
 zjB (h1.mono fun e env' H' hq=>by
  cases e <;> first
   | exact ⟨fun a w hi=>h2.go a w ((hi.sub hq.1).hsub hq.2)⟩
   | exact hq)
theorem zed {env env':Env} {t:Nat} {a b:Bool} (h:env.get t=some (.pv (.base (.bool a)))) (e:a=b) (hs:Sub env env'):Sub env ((t,.pv (.base (.bool b)))::env'):=yG (by rw [h,e]) hs
theorem retq {tb:Tab} {rs:List ResultVar} {r:PV} {env:Env} {H:HEnv} {ps:List PV} (h:zaJ tb H env rs=some ps) (hr:zk ps=r):zpI tb rs r .ret env H:=⟨.inr rfl,env,.refl env,ps,h,hr⟩
theorem ZN {tb:Tab} {rs:List ResultVar} {r:PV} {env:Env} {H:HEnv} {ps:List PV} (h:zaJ tb H env rs=some ps) (hr:zk ps=r):zpI tb rs r .normal env H:=⟨.inl rfl,env,.refl env,ps,h,hr⟩
theorem zcp {tb:Tab} {rs:List ResultVar} {r:PV} {env:Env} {H:HEnv} {ps:List PV} {t:Nat} {a b:AV} (he:env.get t=some a) (ht:Tells a b) (h:zaJ tb H ((t,b)::env) rs=some ps) (hr:zk ps=r):zpI tb rs r .ret env H:=⟨.inr rfl,_,.one he ht,ps,h,hr⟩
theorem zrW {P:Program} {n:Nat} {g:Base} {H:HEnv} {ops l:List Oper} {Q:Env→Prop} {o:Oper} {t:Nat} {env:Env} {b:Bool} (_:Zf ops o=some t) (hb:env.get t=some (.pv (.base (.bool b))))
  (h1:b=true→AD P n g H ops Q (o::l) ((t,.pv (.base (.bool true)))::env)) (h2:b=false→AD P n g H ops Q (o::l) ((t,.pv (.base (.bool false)))::env)):AD P n g H ops Q (o::l) env:=.case _ _ _ _ hb h1 h2
theorem QA (a b:Ty):(a.kind==b.kind&&(a.index==b.index&&(a.dims==b.dims&&(a.ref==b.ref&&true))))=decide (a=b):=by
 obtain ⟨a1,a2,a3,a4⟩:=a;obtain ⟨b1,b2,b3,b4⟩:=b
 simp [Ty.mk.injEq,Bool.beq_eq_decide_eq,←Bool.decide_and]
theorem sA {Q P:Prop} (k:Q) (h:Q→P:=by
  intro k
  first
  | (refine Xq ?_;first|exact zlS zf rfl rfl rfl rfl rfl rfl rfl rfl rfl k)
  | (refine zfB ?_;first|exact ZO zf 0 rfl rfl rfl rfl rfl rfl rfl k|exact ZO zf 1 rfl rfl rfl rfl rfl rfl rfl k|exact ZO zf 2 rfl rfl rfl rfl rfl rfl rfl k|exact ZO zf 3 rfl rfl rfl rfl rfl rfl rfl k|exact ZO zf 4 rfl rfl rfl rfl rfl rfl rfl k|exact ZO zf 5 rfl rfl rfl rfl rfl rfl rfl k)
  | (refine zsU ?_;first|exact znU zf rfl rfl rfl rfl k|exact znD k|exact zoc rfl rfl rfl k|(refine zdO true rfl rfl ?_ k;(assumption))|(refine zdO false rfl rfl ?_ k;(assumption)))
  | (refine zsV ?_;first|exact AD.step _ _ _ _ _ rfl (zc1 zf rfl) rfl rfl k|exact AD.nil _ k|exact AD.skip _ _ _ _ rfl rfl rfl k|(refine zd0 true rfl rfl ?_ k;(assumption))|(refine zd0 false rfl rfl ?_ k;(assumption)))
  | exact zjB k|exact ziE k|exact zkS k
  | (refine zhu ?_;first|exact zbI rfl k|exact zaV rfl k|(refine zkO rfl ?_ k;(assumption))|(refine zkX rfl ?_ k;(assumption)))
  | exact zn6 k|exact zoa k|exact zmD k|exact zod (by kernel_rfl) (by kernel_rfl) k|fail):P:=h k
theorem sK {Q P:Prop} (k:Q) (h:Q→P:=by
  intro k
  first
  | (refine Xq ?_;first|exact zlS zf rfl rfl rfl rfl rfl rfl rfl rfl rfl k)
  | (refine zfB ?_;first|exact ZO zf 0 rfl rfl rfl rfl rfl rfl rfl k|exact ZO zf 1 rfl rfl rfl rfl rfl rfl rfl k|exact ZO zf 2 rfl rfl rfl rfl rfl rfl rfl k|exact ZO zf 3 rfl rfl rfl rfl rfl rfl rfl k|exact ZO zf 4 rfl rfl rfl rfl rfl rfl rfl k|exact ZO zf 5 rfl rfl rfl rfl rfl rfl rfl k)
  | (refine zsU ?_;first|exact znU zf rfl rfl rfl rfl k|exact znD k|exact zoc rfl rfl rfl k|(refine zdO true rfl rfl ?_ k;(first|assumption|(simp <;> omega)))|(refine zdO false rfl rfl ?_ k;(first|assumption|(simp <;> omega))))
  | (refine zsV ?_;first|exact AD.step _ _ _ _ _ rfl (zc1 zf rfl) rfl rfl k|exact AD.nil _ k|exact AD.skip _ _ _ _ rfl rfl rfl k|(refine zd0 true rfl rfl ?_ k;(first|assumption|(simp <;> omega)))|(refine zd0 false rfl rfl ?_ k;(first|assumption|(simp <;> omega))))
  | exact zjB k|exact ziE k|exact zkS k
  | (refine zhu ?_;first|exact zbI rfl k|exact zaV rfl k|(refine zkO rfl ?_ k;(first|assumption|(simp <;> omega)))|(refine zkX rfl ?_ k;(first|assumption|(simp <;> omega))))
  | exact zn6 k|exact zoa k|exact zmD k|exact zod (by kernel_rfl) (by kernel_rfl) k|fail):P:=h k
theorem sC {P A B C D:Prop} (x:A→B) (y:C→D) (h:(A→B)→(C→D)→P:=by
  intro x y;first|exact zsa rfl rfl x y|exact zrW rfl rfl x y|exact zsh rfl x y|fail):P:=h x y
theorem shC {Q P:Prop} (k:Q) (h:Q→P:=by intro k;first|exact zu k|exact znz k|fail):P:=h k
theorem shX {Q P:Prop} (k:Q) (h:Q→P:=by intro k;first|exact zqD k|exact zrK k|fail):P:=h k
theorem shI {Q P:Prop} (k:Q) (h:Q→P:=by intro k;first|exact zlc k|exact zkK k|fail):P:=h k
theorem qC {Q P C:Prop} (c:C) (k:Q) (h:C→Q→P:=by intro c k;first|exact zB rfl (zG rfl rfl c) rfl rfl k|exact AD.step _ _ _ _ _ rfl (zG rfl rfl c) rfl rfl k|fail):P:=h c k
theorem qV {Q P C:Prop} (c:C) (k:Q) (h:C→Q→P:=by intro c k;first|exact zB rfl (zn5 rfl rfl rfl c) rfl rfl k|exact AD.step _ _ _ _ _ rfl (zn5 rfl rfl rfl c) rfl rfl k|fail):P:=h c k
theorem qX {Q P E:Prop} (e:E) (k:Q) (h:E→Q→P:=by intro he k;first|exact zB rfl (zl zf rfl rfl rfl rfl rfl rfl (by omega) he) rfl rfl k|exact AD.step _ _ _ _ _ rfl (zl zf rfl rfl rfl rfl rfl rfl (by omega) he) rfl rfl k|fail):P:=h e k
theorem tS {P:Prop} (h:P:=by repeat (first|exact yS|refine yG rfl ?_|(refine Zc rfl ?_ ?_;· (first|(rw [wrap_in (by omega) (by omega)] <;> omega)|(dsimp only;rw [wrap_in (by omega) (by omega)] <;> omega)|(simp;done))))):P:=h
theorem tH {A:Prop} {α:Type} {x y:α} (h:A:=by repeat (first|exact zK|refine zT rfl ?_)) (e:x=y:=by rfl):A∧x=y:=⟨h,e⟩
theorem tD {P:Prop} (h:P:=by dsimp only;omega):P:=h
end Go.Cg
namespace Go.Cg
open Go.Proofs
def tb:Tab:=.node 151 ⟨1,8,some (.int .u64 0),.int .u64⟩
 (.node 75 ⟨1,8,some (.nilFunc),.scalar⟩
  (.node 37 ⟨1,8,some (.nilFunc),.scalar⟩
   (.node 18 ⟨1,8,some (.agg #[.pointer none]),.agg [(0,17,1)] false⟩
    (.node 9 ⟨1,16,some (.string ByteArray.empty),.str⟩
     (.node 4 ⟨1,1,some (.bool false),.bool⟩
      (.node 2 ⟨1,8,some (.int .i64 0),.int .i64⟩
       (.node 1 ⟨1,8,some (.nilFunc),.scalar⟩
        (.node 0 ⟨1,0,some (.tuple #[]),.scalar⟩
         (.leaf)
         (.leaf))
        (.leaf))
       (.node 3 ⟨1,8,some (.int .i64 0),.int .i64⟩
        (.leaf)
        (.leaf)))
      (.node 7 ⟨4,24,some (.agg #[.int .i64 0,.int .i64 0,.bool false,.int .u8 0]),.agg [(0,2,1),(1,3,1),(2,4,1),(3,6,1)] true⟩
       (.node 6 ⟨1,1,some (.int .u8 0),.int .u8⟩
        (.node 5 ⟨1,1,some (.int .u8 0),.int .u8⟩
         (.leaf)
         (.leaf))
        (.leaf))
       (.node 8 ⟨4,24,some (.agg #[.int .i64 0,.int .i64 0,.bool false,.int .u8 0]),.agg [(0,2,1),(1,3,1),(2,4,1),(3,6,1)] true⟩
        (.leaf)
        (.leaf))))
     (.node 14 ⟨2,24,some (.agg #[.string ByteArray.empty,.int .u64 0]),.agg [(0,9,1),(1,12,1)] false⟩
      (.node 12 ⟨1,8,some (.int .u64 0),.int .u64⟩
       (.node 11 ⟨1,16,some (.string ByteArray.empty),.str⟩
        (.node 10 ⟨1,16,some (.string ByteArray.empty),.str⟩
         (.leaf)
         (.leaf))
        (.leaf))
       (.node 13 ⟨2,24,some (.agg #[.string ByteArray.empty,.int .u64 0]),.agg [(0,9,1),(1,12,1)] false⟩
        (.leaf)
        (.leaf)))
      (.node 16 ⟨1,8,some (.pointer none),.ptr 293⟩
       (.node 15 ⟨1,8,some (.pointer none),.ptr 290⟩
        (.leaf)
        (.leaf))
       (.node 17 ⟨1,8,some (.pointer none),.ptr 301⟩
        (.leaf)
        (.leaf)))))
    (.node 28 ⟨1,8,some (.nilFunc),.scalar⟩
     (.node 23 ⟨1,8,some (.nilFunc),.scalar⟩
      (.node 21 ⟨1,4,some (.int .i32 0),.int .i32⟩
       (.node 20 ⟨1,16,some (.nilIface),.scalar⟩
        (.node 19 ⟨1,8,some (.agg #[.pointer none]),.agg [(0,17,1)] false⟩
         (.leaf)
         (.leaf))
        (.leaf))
       (.node 22 ⟨1,24,some (.slice none 0 0),.sl 36⟩
        (.leaf)
        (.leaf)))
      (.node 26 ⟨1,8,some (.nilFunc),.scalar⟩
       (.node 25 ⟨1,8,some (.pointer none),.ptr 120⟩
        (.node 24 ⟨1,8,some (.nilFunc),.scalar⟩
         (.leaf)
         (.leaf))
        (.leaf))
       (.node 27 ⟨1,8,some (.pointer none),.ptr 82⟩
        (.leaf)
        (.leaf))))
     (.node 33 ⟨1,8,some (.int .u64 0),.int .u64⟩
      (.node 31 ⟨2,32,some (.agg #[.int .i64 0,.slice none 0 0]),.agg [(0,3,1),(1,30,1)] true⟩
       (.node 30 ⟨1,24,some (.slice none 0 0),.sl 89⟩
        (.node 29 ⟨1,8,some (.pointer none),.ptr 32⟩
         (.leaf)
         (.leaf))
        (.leaf))
       (.node 32 ⟨2,32,some (.agg #[.int .i64 0,.slice none 0 0]),.agg [(0,3,1),(1,30,1)] true⟩
        (.leaf)
        (.leaf)))
      (.node 35 ⟨5,56,some (.agg #[.int .i64 0,.int .i64 0,.int .i64 0,.int .u64 0,.slice none 0 0]),.agg [(0,3,1),(1,3,1),(2,3,1),(3,33,1),(4,34,1)] true⟩
       (.node 34 ⟨1,24,some (.slice none 0 0),.sl 33⟩
        (.leaf)
        (.leaf))
       (.node 36 ⟨5,56,some (.agg #[.int .i64 0,.int .i64 0,.int .i64 0,.int .u64 0,.slice none 0 0]),.agg [(0,3,1),(1,3,1),(2,3,1),(3,33,1),(4,34,1)] true⟩
        (.leaf)
        (.leaf))))))
   (.node 56 ⟨1,8,some (.nilFunc),.scalar⟩
    (.node 47 ⟨1,24,some (.slice none 0 0),.sl 136⟩
     (.node 42 ⟨1,8,some (.nilFunc),.scalar⟩
      (.node 40 ⟨1,8,some (.nilFunc),.scalar⟩
       (.node 39 ⟨1,8,some (.nilFunc),.scalar⟩
        (.node 38 ⟨1,8,some (.nilFunc),.scalar⟩
         (.leaf)
         (.leaf))
        (.leaf))
       (.node 41 ⟨1,8,some (.nilFunc),.scalar⟩
        (.leaf)
        (.leaf)))
      (.node 45 ⟨1,8,some (.nilFunc),.scalar⟩
       (.node 44 ⟨1,8,some (.nilFunc),.scalar⟩
        (.node 43 ⟨1,8,some (.nilFunc),.scalar⟩
         (.leaf)
         (.leaf))
        (.leaf))
       (.node 46 ⟨1,24,some (.slice none 0 0),.sl 99⟩
        (.leaf)
        (.leaf))))
     (.node 52 ⟨2,16,some (.agg #[.int .i64 0,.int .i64 0]),.agg [(0,3,1),(1,3,1)] true⟩
      (.node 50 ⟨4,80,some (.agg #[.slice none 0 0,.slice none 0 0,.slice none 0 0,.int .i64 0]),.agg [(0,46,1),(1,47,1),(2,48,1),(3,3,1)] true⟩
       (.node 49 ⟨4,80,some (.agg #[.slice none 0 0,.slice none 0 0,.slice none 0 0,.int .i64 0]),.agg [(0,46,1),(1,47,1),(2,48,1),(3,3,1)] true⟩
        (.node 48 ⟨1,24,some (.slice none 0 0),.sl 70⟩
         (.leaf)
         (.leaf))
        (.leaf))
       (.node 51 ⟨2,16,some (.agg #[.int .i64 0,.int .i64 0]),.agg [(0,3,1),(1,3,1)] true⟩
        (.leaf)
        (.leaf)))
      (.node 54 ⟨2,48,some (.agg #[.slice none 0 0,.slice none 0 0]),.arr 2 53⟩
       (.node 53 ⟨1,24,some (.slice none 0 0),.sl 60⟩
        (.leaf)
        (.leaf))
       (.node 55 ⟨1,8,some (.nilFunc),.scalar⟩
        (.leaf)
        (.leaf)))))
    (.node 66 ⟨1,8,some (.nilFunc),.scalar⟩
     (.node 61 ⟨1,8,some (.pointer none),.ptr 107⟩
      (.node 59 ⟨4,32,some (.agg #[.int .i64 0,.int .i64 0,.int .i64 0,.bool false]),.agg [(0,3,1),(1,3,1),(2,3,1),(3,4,1)] true⟩
       (.node 58 ⟨1,8,some (.nilFunc),.scalar⟩
        (.node 57 ⟨1,8,some (.nilFunc),.scalar⟩
         (.leaf)
         (.leaf))
        (.leaf))
       (.node 60 ⟨4,32,some (.agg #[.int .i64 0,.int .i64 0,.int .i64 0,.bool false]),.agg [(0,3,1),(1,3,1),(2,3,1),(3,4,1)] true⟩
        (.leaf)
        (.leaf)))
      (.node 64 ⟨1,0,some (.tuple #[.slice none 0 0,.int .i64 0]),.scalar⟩
       (.node 63 ⟨1,8,some (.int .i64 0),.int .i64⟩
        (.node 62 ⟨1,8,some (.nilFunc),.scalar⟩
         (.leaf)
         (.leaf))
        (.leaf))
       (.node 65 ⟨1,8,some (.nilFunc),.scalar⟩
        (.leaf)
        (.leaf))))
     (.node 71 ⟨1,8,some (.nilFunc),.scalar⟩
      (.node 69 ⟨12,168,some (.agg #[.string ByteArray.empty,.int .i64 0,.int .i64 0,.slice none 0 0,.int .i64 0,.int .i64 0,.int .i64 0,.bool false,.slice none 0 0,.int .i64 0,.slice none 0 0,.slice none 0 0]),.agg [(0,9,1),(1,3,1),(2,3,1),(3,53,1),(4,60,4),(8,53,1),(9,3,1),(10,67,1),(11,68,1)] true⟩
       (.node 68 ⟨1,24,some (.slice none 0 0),.sl 144⟩
        (.node 67 ⟨1,24,some (.slice none 0 0),.sl 73⟩
         (.leaf)
         (.leaf))
        (.leaf))
       (.node 70 ⟨12,168,some (.agg #[.string ByteArray.empty,.int .i64 0,.int .i64 0,.slice none 0 0,.int .i64 0,.int .i64 0,.int .i64 0,.bool false,.slice none 0 0,.int .i64 0,.slice none 0 0,.slice none 0 0]),.agg [(0,9,1),(1,3,1),(2,3,1),(3,53,1),(4,60,4),(8,53,1),(9,3,1),(10,67,1),(11,68,1)] true⟩
        (.leaf)
        (.leaf)))
      (.node 73 ⟨6,48,some (.agg #[.int .i64 0,.int .i64 0,.int .i64 0,.int .i64 0,.int .i64 0,.bool false]),.agg [(0,3,1),(1,2,1),(2,60,4)] true⟩
       (.node 72 ⟨6,48,some (.agg #[.int .i64 0,.int .i64 0,.int .i64 0,.int .i64 0,.int .i64 0,.bool false]),.agg [(0,3,1),(1,2,1),(2,60,4)] true⟩
        (.leaf)
        (.leaf))
       (.node 74 ⟨1,8,some (.nilFunc),.scalar⟩
        (.leaf)
        (.leaf)))))))
  (.node 113 ⟨24,344,some (.agg #[.slice none 0 0,.slice none 0 0,.slice none 0 0,.int .i64 0,.string ByteArray.empty,.int .i64 0,.int .i64 0,.slice none 0 0,.int .i64 0,.int .i64 0,.int .i64 0,.bool false,.slice none 0 0,.int .i64 0,.slice none 0 0,.slice none 0 0,.slice none 0 0,.int .i64 0,.int .i64 0,.int .i64 0,.int .i64 0,.int .i64 0,.bool false,.slice none 0 0]),.agg [(0,50,4),(4,70,12),(16,53,1),(17,73,6),(23,53,1)] true⟩
   (.node 94 ⟨5,40,some (.agg #[.int .i64 0,.int .i64 0,.int .u64 0,.int .u64 0,.int .i64 0]),.agg [(0,3,1),(1,3,1),(2,33,1),(3,33,1),(4,3,1)] true⟩
    (.node 85 ⟨1,8,some (.nilFunc),.scalar⟩
     (.node 80 ⟨1,24,some (.slice none 0 0),.sl 95⟩
      (.node 78 ⟨1,8,some (.nilFunc),.scalar⟩
       (.node 77 ⟨4,48,some (.agg #[.int .i64 0,.int .i64 0,.int .u64 0,.slice none 0 0]),.agg [(0,3,1),(1,3,1),(2,33,1),(3,34,1)] true⟩
        (.node 76 ⟨4,48,some (.agg #[.int .i64 0,.int .i64 0,.int .u64 0,.slice none 0 0]),.agg [(0,3,1),(1,3,1),(2,33,1),(3,34,1)] true⟩
         (.leaf)
         (.leaf))
        (.leaf))
       (.node 79 ⟨1,8,some (.nilFunc),.scalar⟩
        (.leaf)
        (.leaf)))
      (.node 83 ⟨1,8,some (.nilFunc),.scalar⟩
       (.node 82 ⟨3,40,some (.agg #[.pointer none,.int .i64 0,.slice none 0 0]),.agg [(0,25,1),(1,3,1),(2,80,1)] true⟩
        (.node 81 ⟨3,40,some (.agg #[.pointer none,.int .i64 0,.slice none 0 0]),.agg [(0,25,1),(1,3,1),(2,80,1)] true⟩
         (.leaf)
         (.leaf))
        (.leaf))
       (.node 84 ⟨1,8,some (.nilFunc),.scalar⟩
        (.leaf)
        (.leaf))))
     (.node 90 ⟨1,8,some (.nilFunc),.scalar⟩
      (.node 88 ⟨5,72,some (.agg #[.int .i64 0,.int .i64 0,.int .i64 0,.slice none 0 0,.slice none 0 0]),.agg [(0,3,1),(1,3,1),(2,3,1),(3,34,1),(4,34,1)] true⟩
       (.node 87 ⟨1,8,some (.nilFunc),.scalar⟩
        (.node 86 ⟨1,8,some (.nilFunc),.scalar⟩
         (.leaf)
         (.leaf))
        (.leaf))
       (.node 89 ⟨5,72,some (.agg #[.int .i64 0,.int .i64 0,.int .i64 0,.slice none 0 0,.slice none 0 0]),.agg [(0,3,1),(1,3,1),(2,3,1),(3,34,1),(4,34,1)] true⟩
        (.leaf)
        (.leaf)))
      (.node 92 ⟨1,8,some (.pointer none),.ptr 95⟩
       (.node 91 ⟨1,8,some (.nilFunc),.scalar⟩
        (.leaf)
        (.leaf))
       (.node 93 ⟨1,8,some (.nilFunc),.scalar⟩
        (.leaf)
        (.leaf)))))
    (.node 104 ⟨1,8,some (.nilFunc),.scalar⟩
     (.node 99 ⟨4,56,some (.agg #[.string ByteArray.empty,.int .i64 0,.int .i64 0,.slice none 0 0]),.agg [(0,9,1),(1,3,1),(2,3,1),(3,97,1)] true⟩
      (.node 97 ⟨1,24,some (.slice none 0 0),.sl 3⟩
       (.node 96 ⟨1,8,some (.nilFunc),.scalar⟩
        (.node 95 ⟨5,40,some (.agg #[.int .i64 0,.int .i64 0,.int .u64 0,.int .u64 0,.int .i64 0]),.agg [(0,3,1),(1,3,1),(2,33,1),(3,33,1),(4,3,1)] true⟩
         (.leaf)
         (.leaf))
        (.leaf))
       (.node 98 ⟨4,56,some (.agg #[.string ByteArray.empty,.int .i64 0,.int .i64 0,.slice none 0 0]),.agg [(0,9,1),(1,3,1),(2,3,1),(3,97,1)] true⟩
        (.leaf)
        (.leaf)))
      (.node 102 ⟨2,16,some (.agg #[.int .i64 0,.int .i64 0]),.agg [(0,3,1),(1,3,1)] true⟩
       (.node 101 ⟨2,16,some (.agg #[.int .i64 0,.int .i64 0]),.agg [(0,3,1),(1,3,1)] true⟩
        (.node 100 ⟨1,8,some (.nilFunc),.scalar⟩
         (.leaf)
         (.leaf))
        (.leaf))
       (.node 103 ⟨1,0,some (.tuple #[.agg #[.int .i64 0,.int .i64 0],.int .i64 0]),.scalar⟩
        (.leaf)
        (.leaf))))
     (.node 109 ⟨1,0,some (.tuple #[.int .i64 0,.bool false]),.scalar⟩
      (.node 107 ⟨4,80,some (.agg #[.slice none 0 0,.slice none 0 0,.slice none 0 0,.int .i64 0]),.agg [(0,50,4)] true⟩
       (.node 106 ⟨4,80,some (.agg #[.slice none 0 0,.slice none 0 0,.slice none 0 0,.int .i64 0]),.agg [(0,50,4)] true⟩
        (.node 105 ⟨1,8,some (.nilFunc),.scalar⟩
         (.leaf)
         (.leaf))
        (.leaf))
       (.node 108 ⟨1,8,some (.int .i64 0),.int .i64⟩
        (.leaf)
        (.leaf)))
      (.node 111 ⟨1,8,some (.nilFunc),.scalar⟩
       (.node 110 ⟨1,8,some (.pointer none),.ptr 113⟩
        (.leaf)
        (.leaf))
       (.node 112 ⟨24,344,some (.agg #[.slice none 0 0,.slice none 0 0,.slice none 0 0,.int .i64 0,.string ByteArray.empty,.int .i64 0,.int .i64 0,.slice none 0 0,.int .i64 0,.int .i64 0,.int .i64 0,.bool false,.slice none 0 0,.int .i64 0,.slice none 0 0,.slice none 0 0,.slice none 0 0,.int .i64 0,.int .i64 0,.int .i64 0,.int .i64 0,.int .i64 0,.bool false,.slice none 0 0]),.agg [(0,50,4),(4,70,12),(16,53,1),(17,73,6),(23,53,1)] true⟩
        (.leaf)
        (.leaf))))))
   (.node 132 ⟨1,8,some (.nilFunc),.scalar⟩
    (.node 123 ⟨1,8,some (.nilFunc),.scalar⟩
     (.node 118 ⟨1,24,some (.slice none 0 0),.sl 53⟩
      (.node 116 ⟨1,8,some (.nilFunc),.scalar⟩
       (.node 115 ⟨1,0,some (.tuple #[.int .i64 0,.int .i64 0]),.scalar⟩
        (.node 114 ⟨1,8,some (.nilFunc),.scalar⟩
         (.leaf)
         (.leaf))
        (.leaf))
       (.node 117 ⟨1,8,some (.map none),.map 60 3⟩
        (.leaf)
        (.leaf)))
      (.node 121 ⟨1,8,some (.nilFunc),.scalar⟩
       (.node 120 ⟨8,112,some (.agg #[.slice none 0 0,.slice none 0 0,.slice none 0 0,.map none,.int .u64 0,.int .u64 0,.int .u64 0,.int .i64 0]),.agg [(0,34,1),(1,118,1),(2,97,1),(3,117,1),(4,33,1),(5,33,1),(6,33,1),(7,3,1)] true⟩
        (.node 119 ⟨8,112,some (.agg #[.slice none 0 0,.slice none 0 0,.slice none 0 0,.map none,.int .u64 0,.int .u64 0,.int .u64 0,.int .i64 0]),.agg [(0,34,1),(1,118,1),(2,97,1),(3,117,1),(4,33,1),(5,33,1),(6,33,1),(7,3,1)] true⟩
         (.leaf)
         (.leaf))
        (.leaf))
       (.node 122 ⟨1,8,some (.nilFunc),.scalar⟩
        (.leaf)
        (.leaf))))
     (.node 128 ⟨1,8,some (.nilFunc),.scalar⟩
      (.node 126 ⟨1,0,some (.tuple #[.agg #[.int .i64 0,.int .i64 0],.int .i64 0]),.scalar⟩
       (.node 125 ⟨1,8,some (.nilFunc),.scalar⟩
        (.node 124 ⟨1,8,some (.nilFunc),.scalar⟩
         (.leaf)
         (.leaf))
        (.leaf))
       (.node 127 ⟨1,8,some (.nilFunc),.scalar⟩
        (.leaf)
        (.leaf)))
      (.node 130 ⟨1,8,some (.nilFunc),.scalar⟩
       (.node 129 ⟨1,8,some (.nilFunc),.scalar⟩
        (.leaf)
        (.leaf))
       (.node 131 ⟨1,8,some (.nilFunc),.scalar⟩
        (.leaf)
        (.leaf)))))
    (.node 142 ⟨1,8,some (.nilFunc),.scalar⟩
     (.node 137 ⟨1,8,some (.nilFunc),.scalar⟩
      (.node 135 ⟨7,64,some (.agg #[.string ByteArray.empty,.int .i64 0,.int .i64 0,.int .i64 0,.int .i64 0,.bool false,.bool false]),.agg [(0,9,1),(1,3,1),(2,60,4),(6,4,1)] true⟩
       (.node 134 ⟨1,8,some (.nilFunc),.scalar⟩
        (.node 133 ⟨1,8,some (.nilFunc),.scalar⟩
         (.leaf)
         (.leaf))
        (.leaf))
       (.node 136 ⟨7,64,some (.agg #[.string ByteArray.empty,.int .i64 0,.int .i64 0,.int .i64 0,.int .i64 0,.bool false,.bool false]),.agg [(0,9,1),(1,3,1),(2,60,4),(6,4,1)] true⟩
        (.leaf)
        (.leaf)))
      (.node 140 ⟨1,8,some (.nilFunc),.scalar⟩
       (.node 139 ⟨1,8,some (.pointer none),.ptr 70⟩
        (.node 138 ⟨1,8,some (.nilFunc),.scalar⟩
         (.leaf)
         (.leaf))
        (.leaf))
       (.node 141 ⟨1,8,some (.nilFunc),.scalar⟩
        (.leaf)
        (.leaf))))
     (.node 147 ⟨1,8,some (.nilFunc),.scalar⟩
      (.node 145 ⟨1,0,some (.tuple #[.agg #[.int .i64 0,.int .i64 0,.int .i64 0,.bool false],.bool false]),.scalar⟩
       (.node 144 ⟨10,80,some (.agg #[.int .i64 0,.int .i64 0,.int .i64 0,.int .i64 0,.int .i64 0,.int .i64 0,.int .i64 0,.int .i64 0,.int .i64 0,.bool false]),.agg [(0,3,1),(1,3,1),(2,3,1),(3,3,1),(4,3,1),(5,3,1),(6,60,4)] true⟩
        (.node 143 ⟨10,80,some (.agg #[.int .i64 0,.int .i64 0,.int .i64 0,.int .i64 0,.int .i64 0,.int .i64 0,.int .i64 0,.int .i64 0,.int .i64 0,.bool false]),.agg [(0,3,1),(1,3,1),(2,3,1),(3,3,1),(4,3,1),(5,3,1),(6,60,4)] true⟩
         (.leaf)
         (.leaf))
        (.leaf))
       (.node 146 ⟨1,8,some (.nilFunc),.scalar⟩
        (.leaf)
        (.leaf)))
      (.node 149 ⟨1,8,some (.nilFunc),.scalar⟩
       (.node 148 ⟨1,8,some (.nilFunc),.scalar⟩
        (.leaf)
        (.leaf))
       (.node 150 ⟨1,8,some (.nilFunc),.scalar⟩
        (.leaf)
        (.leaf))))))))
 (.node 227 ⟨1,0,some (.tuple #[.slice none 0 0,.int .i64 0]),.scalar⟩
  (.node 189 ⟨1,24,some (.agg #[.slice none 0 0]),.agg [(0,97,1)] true⟩
   (.node 170 ⟨1,8,some (.nilFunc),.scalar⟩
    (.node 161 ⟨1,8,some (.nilFunc),.scalar⟩
     (.node 156 ⟨3,32,some (.agg #[.string ByteArray.empty,.int .i64 0,.int .i64 0]),.agg [(0,9,1),(1,3,1),(2,3,1)] true⟩
      (.node 154 ⟨1,8,some (.nilFunc),.scalar⟩
       (.node 153 ⟨1,8,some (.nilFunc),.scalar⟩
        (.node 152 ⟨1,8,some (.nilFunc),.scalar⟩
         (.leaf)
         (.leaf))
        (.leaf))
       (.node 155 ⟨3,32,some (.agg #[.string ByteArray.empty,.int .i64 0,.int .i64 0]),.agg [(0,9,1),(1,3,1),(2,3,1)] true⟩
        (.leaf)
        (.leaf)))
      (.node 159 ⟨1,8,some (.nilFunc),.scalar⟩
       (.node 158 ⟨1,8,some (.nilFunc),.scalar⟩
        (.node 157 ⟨1,0,some (.tuple #[.agg #[.string ByteArray.empty,.int .i64 0,.int .i64 0],.int .i64 0]),.scalar⟩
         (.leaf)
         (.leaf))
        (.leaf))
       (.node 160 ⟨1,8,some (.nilFunc),.scalar⟩
        (.leaf)
        (.leaf))))
     (.node 166 ⟨1,8,some (.nilFunc),.scalar⟩
      (.node 164 ⟨1,8,some (.nilFunc),.scalar⟩
       (.node 163 ⟨1,8,some (.nilFunc),.scalar⟩
        (.node 162 ⟨1,8,some (.nilFunc),.scalar⟩
         (.leaf)
         (.leaf))
        (.leaf))
       (.node 165 ⟨1,8,some (.nilFunc),.scalar⟩
        (.leaf)
        (.leaf)))
      (.node 168 ⟨1,8,some (.nilFunc),.scalar⟩
       (.node 167 ⟨1,8,some (.nilFunc),.scalar⟩
        (.leaf)
        (.leaf))
       (.node 169 ⟨1,8,some (.nilFunc),.scalar⟩
        (.leaf)
        (.leaf)))))
    (.node 180 ⟨1,0,some (.tuple #[.agg #[.string ByteArray.empty,.int .i64 0,.int .i64 0],.int .i64 0]),.scalar⟩
     (.node 175 ⟨1,8,some (.nilFunc),.scalar⟩
      (.node 173 ⟨1,8,some (.nilFunc),.scalar⟩
       (.node 172 ⟨1,8,some (.nilFunc),.scalar⟩
        (.node 171 ⟨1,8,some (.nilFunc),.scalar⟩
         (.leaf)
         (.leaf))
        (.leaf))
       (.node 174 ⟨1,8,some (.nilFunc),.scalar⟩
        (.leaf)
        (.leaf)))
      (.node 178 ⟨1,0,some (.tuple #[.int .i64 0,.int .i64 0]),.scalar⟩
       (.node 177 ⟨1,8,some (.nilFunc),.scalar⟩
        (.node 176 ⟨1,8,some (.nilFunc),.scalar⟩
         (.leaf)
         (.leaf))
        (.leaf))
       (.node 179 ⟨1,8,some (.nilFunc),.scalar⟩
        (.leaf)
        (.leaf))))
     (.node 185 ⟨1,8,some (.nilFunc),.scalar⟩
      (.node 183 ⟨1,8,some (.nilFunc),.scalar⟩
       (.node 182 ⟨1,8,some (.nilFunc),.scalar⟩
        (.node 181 ⟨1,8,some (.nilFunc),.scalar⟩
         (.leaf)
         (.leaf))
        (.leaf))
       (.node 184 ⟨1,8,some (.nilFunc),.scalar⟩
        (.leaf)
        (.leaf)))
      (.node 187 ⟨1,8,some (.pointer none),.ptr 189⟩
       (.node 186 ⟨1,8,some (.nilFunc),.scalar⟩
        (.leaf)
        (.leaf))
       (.node 188 ⟨1,24,some (.agg #[.slice none 0 0]),.agg [(0,97,1)] true⟩
        (.leaf)
        (.leaf))))))
   (.node 208 ⟨1,8,some (.nilFunc),.scalar⟩
    (.node 199 ⟨1,8,some (.nilFunc),.scalar⟩
     (.node 194 ⟨1,8,some (.nilFunc),.scalar⟩
      (.node 192 ⟨1,8,some (.nilFunc),.scalar⟩
       (.node 191 ⟨5,88,some (.agg #[.pointer none,.slice none 0 0,.slice none 0 0,.slice none 0 0,.int .i64 0]),.agg [(0,187,1),(1,50,4)] true⟩
        (.node 190 ⟨5,88,some (.agg #[.pointer none,.slice none 0 0,.slice none 0 0,.slice none 0 0,.int .i64 0]),.agg [(0,187,1),(1,50,4)] true⟩
         (.leaf)
         (.leaf))
        (.leaf))
       (.node 193 ⟨1,8,some (.nilFunc),.scalar⟩
        (.leaf)
        (.leaf)))
      (.node 197 ⟨1,8,some (.nilFunc),.scalar⟩
       (.node 196 ⟨1,0,some (.tuple #[.slice none 0 0,.slice none 0 0,.int .i64 0]),.scalar⟩
        (.node 195 ⟨1,8,some (.nilFunc),.scalar⟩
         (.leaf)
         (.leaf))
        (.leaf))
       (.node 198 ⟨1,8,some (.nilFunc),.scalar⟩
        (.leaf)
        (.leaf))))
     (.node 204 ⟨1,8,some (.nilFunc),.scalar⟩
      (.node 202 ⟨1,8,some (.nilFunc),.scalar⟩
       (.node 201 ⟨1,8,some (.nilFunc),.scalar⟩
        (.node 200 ⟨4,32,some (.agg #[.int .i64 0,.int .i64 0,.int .i64 0,.bool false]),.agg [(0,3,1),(1,3,1),(2,3,1),(3,4,1)] true⟩
         (.leaf)
         (.leaf))
        (.leaf))
       (.node 203 ⟨1,8,some (.map none),.map 3 3⟩
        (.leaf)
        (.leaf)))
      (.node 206 ⟨1,8,some (.nilFunc),.scalar⟩
       (.node 205 ⟨1,8,some (.nilFunc),.scalar⟩
        (.leaf)
        (.leaf))
       (.node 207 ⟨1,8,some (.nilFunc),.scalar⟩
        (.leaf)
        (.leaf)))))
    (.node 218 ⟨1,8,some (.nilFunc),.scalar⟩
     (.node 213 ⟨1,8,some (.nilFunc),.scalar⟩
      (.node 211 ⟨1,8,some (.nilFunc),.scalar⟩
       (.node 210 ⟨1,8,some (.nilFunc),.scalar⟩
        (.node 209 ⟨1,8,some (.nilFunc),.scalar⟩
         (.leaf)
         (.leaf))
        (.leaf))
       (.node 212 ⟨1,8,some (.nilFunc),.scalar⟩
        (.leaf)
        (.leaf)))
      (.node 216 ⟨1,0,some (.tuple #[.int .i64 0,.int .i64 0]),.scalar⟩
       (.node 215 ⟨1,8,some (.int .i64 0),.int .i64⟩
        (.node 214 ⟨1,8,some (.nilFunc),.scalar⟩
         (.leaf)
         (.leaf))
        (.leaf))
       (.node 217 ⟨1,8,some (.nilFunc),.scalar⟩
        (.leaf)
        (.leaf))))
     (.node 223 ⟨1,4,some (.int .u32 0),.int .u32⟩
      (.node 221 ⟨1,8,some (.nilFunc),.scalar⟩
       (.node 220 ⟨1,0,some (.tuple #[.int .i64 0,.bool false]),.scalar⟩
        (.node 219 ⟨1,8,some (.nilFunc),.scalar⟩
         (.leaf)
         (.leaf))
        (.leaf))
       (.node 222 ⟨1,8,some (.nilFunc),.scalar⟩
        (.leaf)
        (.leaf)))
      (.node 225 ⟨1,8,some (.nilFunc),.scalar⟩
       (.node 224 ⟨1,8,some (.nilFunc),.scalar⟩
        (.leaf)
        (.leaf))
       (.node 226 ⟨1,24,some (.slice none 0 0),.sl 5⟩
        (.leaf)
        (.leaf)))))))
  (.node 265 ⟨1,8,some (.nilFunc),.scalar⟩
   (.node 246 ⟨1,8,some (.nilFunc),.scalar⟩
    (.node 237 ⟨1,8,some (.nilFunc),.scalar⟩
     (.node 232 ⟨1,8,some (.nilFunc),.scalar⟩
      (.node 230 ⟨1,8,some (.nilFunc),.scalar⟩
       (.node 229 ⟨1,8,some (.nilFunc),.scalar⟩
        (.node 228 ⟨1,8,some (.nilFunc),.scalar⟩
         (.leaf)
         (.leaf))
        (.leaf))
       (.node 231 ⟨1,8,some (.nilFunc),.scalar⟩
        (.leaf)
        (.leaf)))
      (.node 235 ⟨1,8,some (.nilFunc),.scalar⟩
       (.node 234 ⟨1,8,some (.nilFunc),.scalar⟩
        (.node 233 ⟨1,8,some (.nilFunc),.scalar⟩
         (.leaf)
         (.leaf))
        (.leaf))
       (.node 236 ⟨1,8,some (.nilFunc),.scalar⟩
        (.leaf)
        (.leaf))))
     (.node 242 ⟨1,8,some (.nilFunc),.scalar⟩
      (.node 240 ⟨1,8,some (.nilFunc),.scalar⟩
       (.node 239 ⟨1,8,some (.nilFunc),.scalar⟩
        (.node 238 ⟨1,8,some (.int .u64 0),.int .u64⟩
         (.leaf)
         (.leaf))
        (.leaf))
       (.node 241 ⟨1,8,some (.pointer none),.ptr 3⟩
        (.leaf)
        (.leaf)))
      (.node 244 ⟨1,8,some (.nilFunc),.scalar⟩
       (.node 243 ⟨1,8,some (.nilFunc),.scalar⟩
        (.leaf)
        (.leaf))
       (.node 245 ⟨1,8,some (.nilFunc),.scalar⟩
        (.leaf)
        (.leaf)))))
    (.node 256 ⟨2,16,some (.agg #[.int .i64 0,.int .i64 0]),.agg [(0,3,1),(1,3,1)] true⟩
     (.node 251 ⟨1,8,some (.nilFunc),.scalar⟩
      (.node 249 ⟨1,8,some (.pointer none),.ptr 238⟩
       (.node 248 ⟨1,8,some (.nilFunc),.scalar⟩
        (.node 247 ⟨1,8,some (.nilFunc),.scalar⟩
         (.leaf)
         (.leaf))
        (.leaf))
       (.node 250 ⟨1,8,some (.nilFunc),.scalar⟩
        (.leaf)
        (.leaf)))
      (.node 254 ⟨1,8,some (.nilFunc),.scalar⟩
       (.node 253 ⟨1,8,some (.nilFunc),.scalar⟩
        (.node 252 ⟨1,8,some (.nilFunc),.scalar⟩
         (.leaf)
         (.leaf))
        (.leaf))
       (.node 255 ⟨1,8,some (.nilFunc),.scalar⟩
        (.leaf)
        (.leaf))))
     (.node 261 ⟨2,16,some (.agg #[.int .i64 0,.int .i64 0]),.agg [(0,3,1),(1,3,1)] true⟩
      (.node 259 ⟨1,24,some (.slice none 0 0),.sl 264⟩
       (.node 258 ⟨1,8,some (.nilFunc),.scalar⟩
        (.node 257 ⟨2,16,some (.agg #[.int .i64 0,.int .i64 0]),.agg [(0,3,1),(1,3,1)] true⟩
         (.leaf)
         (.leaf))
        (.leaf))
       (.node 260 ⟨1,8,some (.nilFunc),.scalar⟩
        (.leaf)
        (.leaf)))
      (.node 263 ⟨4,32,some (.agg #[.int .i64 0,.int .i64 0,.int .i64 0,.int .i64 0]),.agg [(0,262,2),(2,257,2)] true⟩
       (.node 262 ⟨2,16,some (.agg #[.int .i64 0,.int .i64 0]),.agg [(0,3,1),(1,3,1)] true⟩
        (.leaf)
        (.leaf))
       (.node 264 ⟨4,32,some (.agg #[.int .i64 0,.int .i64 0,.int .i64 0,.int .i64 0]),.agg [(0,262,2),(2,257,2)] true⟩
        (.leaf)
        (.leaf))))))
   (.node 284 ⟨1,8,some (.nilFunc),.scalar⟩
    (.node 275 ⟨1,8,some (.nilFunc),.scalar⟩
     (.node 270 ⟨1,8,some (.nilFunc),.scalar⟩
      (.node 268 ⟨1,8,some (.nilFunc),.scalar⟩
       (.node 267 ⟨1,8,some (.nilFunc),.scalar⟩
        (.node 266 ⟨1,8,some (.nilFunc),.scalar⟩
         (.leaf)
         (.leaf))
        (.leaf))
       (.node 269 ⟨1,8,some (.nilFunc),.scalar⟩
        (.leaf)
        (.leaf)))
      (.node 273 ⟨1,8,some (.nilFunc),.scalar⟩
       (.node 272 ⟨1,8,some (.nilFunc),.scalar⟩
        (.node 271 ⟨1,0,some (.tuple #[.int .u64 0,.int .u64 0]),.scalar⟩
         (.leaf)
         (.leaf))
        (.leaf))
       (.node 274 ⟨5,20,some (.agg #[.int .u32 0,.int .u32 0,.int .u32 0,.int .u32 0,.int .u32 0]),.arr 5 223⟩
        (.leaf)
        (.leaf))))
     (.node 280 ⟨1,8,some (.nilFunc),.scalar⟩
      (.node 278 ⟨1,0,some (.tuple #[.int .i64 0,.int .i64 0]),.scalar⟩
       (.node 277 ⟨1,8,some (.nilFunc),.scalar⟩
        (.node 276 ⟨1,8,some (.nilFunc),.scalar⟩
         (.leaf)
         (.leaf))
        (.leaf))
       (.node 279 ⟨1,8,some (.nilFunc),.scalar⟩
        (.leaf)
        (.leaf)))
      (.node 282 ⟨1,8,some (.nilFunc),.scalar⟩
       (.node 281 ⟨1,0,some (.tuple #[.int .u32 0,.int .u32 0]),.scalar⟩
        (.leaf)
        (.leaf))
       (.node 283 ⟨1,0,some (.tuple #[.int .u64 0,.int .u64 0]),.scalar⟩
        (.leaf)
        (.leaf)))))
    (.node 294 ⟨1,1,some (.int .u8 0),.int .u8⟩
     (.node 289 ⟨4,40,some (.agg #[.pointer none,.pointer none,.pointer none,.string ByteArray.empty]),.agg [(0,17,1),(1,17,1),(2,17,1),(3,9,1)] false⟩
      (.node 287 ⟨1,8,some (.nilFunc),.scalar⟩
       (.node 286 ⟨1,8,some (.nilFunc),.scalar⟩
        (.node 285 ⟨1,8,some (.nilFunc),.scalar⟩
         (.leaf)
         (.leaf))
        (.leaf))
       (.node 288 ⟨1,8,some (.nilFunc),.scalar⟩
        (.leaf)
        (.leaf)))
      (.node 292 ⟨0,0,some (.agg #[]),.agg [(0,291,0)] false⟩
       (.node 291 ⟨0,0,some (.agg #[]),.arr 0 16⟩
        (.node 290 ⟨4,40,some (.agg #[.pointer none,.pointer none,.pointer none,.string ByteArray.empty]),.agg [(0,17,1),(1,17,1),(2,17,1),(3,9,1)] false⟩
         (.leaf)
         (.leaf))
        (.leaf))
       (.node 293 ⟨0,0,some (.agg #[]),.agg [(0,291,0)] false⟩
        (.leaf)
        (.leaf))))
     (.node 299 ⟨1,4,some (.int .i32 0),.int .i32⟩
      (.node 297 ⟨1,8,some (.pointer none),.ptr 5⟩
       (.node 296 ⟨1,8,some (.nilFunc),.scalar⟩
        (.node 295 ⟨1,1,some (.int .u8 0),.int .u8⟩
         (.leaf)
         (.leaf))
        (.leaf))
       (.node 298 ⟨1,4,some (.int .i32 0),.int .i32⟩
        (.leaf)
        (.leaf)))
      (.node 301 ⟨11,48,some (.agg #[.int .u64 0,.int .u64 0,.int .u32 0,.int .u8 0,.int .u8 0,.int .u8 0,.int .u8 0,.nilFunc,.pointer none,.int .i32 0,.int .i32 0]),.agg [(0,12,1),(1,12,1),(2,223,1),(3,294,1),(4,5,1),(5,5,1),(6,295,1),(7,296,1),(8,297,1),(9,298,1),(10,299,1)] false⟩
       (.node 300 ⟨11,48,some (.agg #[.int .u64 0,.int .u64 0,.int .u32 0,.int .u8 0,.int .u8 0,.int .u8 0,.int .u8 0,.nilFunc,.pointer none,.int .i32 0,.int .i32 0]),.agg [(0,12,1),(1,12,1),(2,223,1),(3,294,1),(4,5,1),(5,5,1),(6,295,1),(7,296,1),(8,297,1),(9,298,1),(10,299,1)] false⟩
        (.leaf)
        (.leaf))
       (.node 302 ⟨1,8,some (.pointer none),.scalar⟩
        (.leaf)
        (.leaf))))))))
theorem zf:qp Tryz.prog tb:=zqq (by kernel_rfl)
set_option maxHeartbeats 20000000
def object (t:Ty):Bool:=!t.ref&&(decide (0 < t.dims)||t.kind==4||t.kind==5||t.kind==7||t.kind==8)
theorem Za (t:Ty):ACall Tryz.prog 135 [yJ t] (pb (object t)):=by
 refine zh zf Tryz.func135 rfl (by kernel_rfl) Tryz.ntmps135 (by simp) _ rfl (fun hw gB hgB=>?_)
 repeat' (first|refine sA ?_|refine sC (fun _=>?_) (fun _=>?_)|fail)
 all_goals (first|refine retq rfl ?_|refine ZN rfl ?_)
 all_goals (first|(simp_all [zk,object];done)|(simp_all [zk,object];omega))
def there (g:Img) (t:Int):Bool:=decide (0≤t)&&decide (t < g.types.length)
theorem YF (g:Img) (t:Int):ACall Tryz.prog 155 [zH g,pi t] (pb (there g t)):=by
 refine zh zf Tryz.func155 rfl (by kernel_rfl) Tryz.ntmps155 (by simp) _ rfl (fun hw gB hgB=>?_)
 repeat' (first|refine sA ?_|refine sC (fun _=>?_) (fun _=>?_)|fail)
 all_goals (first|refine retq rfl ?_|refine ZN rfl ?_)
 all_goals (first|(simp_all [zk,there];done)|(simp_all [zk,there];omega))
theorem YV (g:Img) (t:Int):ACall Tryz.prog 97 [zH g,pi t] (pb (there g t)):=by
 refine zh zf Tryz.func97 rfl (by kernel_rfl) Tryz.ntmps97 (by simp) _ rfl (fun hw gB hgB=>?_)
 repeat' (first|refine sA ?_|refine sC (fun _=>?_) (fun _=>?_)|fail)
 all_goals (first|refine retq rfl ?_|refine ZN rfl ?_)
 all_goals (first|(simp_all [zk,there];done)|(simp_all [zk,there];omega))
def plain (t:Ty) (k:Int):Bool:=t.kind==k&&t.dims==0&&!t.ref
theorem zam (t:Ty) (k:Int):ACall Tryz.prog 173 [yJ t,pi k] (pb (plain t k)):=by
 refine zh zf Tryz.func173 rfl (by kernel_rfl) Tryz.ntmps173 (by simp) _ rfl (fun hw gB hgB=>?_)
 repeat' (first|refine sA ?_|refine sC (fun _=>?_) (fun _=>?_)|fail)
 all_goals (first|refine retq rfl ?_|refine ZN rfl ?_)
 all_goals (first|(simp_all [zk,plain];done)|(simp_all [zk,plain];omega))
theorem zmr:ACall Tryz.prog 175 [] (yJ ⟨7,0,0,false⟩):=by
 refine zh zf Tryz.func175 rfl (by kernel_rfl) Tryz.ntmps175 (by simp) _ rfl (fun hw gB hgB=>?_)
 repeat' (first|refine sA ?_|refine sC (fun _=>?_) (fun _=>?_)|fail)
 exact retq rfl rfl
set_option maxHeartbeats 20000000
theorem zcD {l:List Int} (h:(ints l).lenOk):l.length≤9223372036854775807:=by
 simp [ints,PV.lenOk,maxLen] at h;exact h.1
theorem qB {l:List Int} {k:Nat} (h:k < l.length):(l.map pi)[k]?=some (pi l[k]):=by simp [h]
theorem WJ {l:List Ty} {k:Nat} (h:k < l.length):(l.map yJ)[k]?=some (yJ l[k]):=by simp [h]
theorem zdh {α:Type} [DecidableEq α] {l:List α} {k:Nat} {n:α} (h:k < l.length) (hno:n∉l.take k) (hne:¬ l[k]=n):n∉l.take (k + 1):=by
 rw [List.take_succ_eq_append_getElem h]
 simp only [List.mem_append,List.mem_singleton,not_or]
 exact ⟨hno,fun e=>hne e.symm⟩
theorem Qu (l:List Int) (n:Int):ACall Tryz.prog 110 [ints l,pi n] (pb (decide (n∈l))):=by
 refine zh zf Tryz.func110 rfl (by kernel_rfl) Tryz.ntmps110 (by simp) _ rfl (fun hw gB hgB=>?_)
 have hl:=zcD hw.1
 repeat' (first|refine sA ?_|refine sC (fun _=>?_) (fun _=>?_)|fail)
 refine zJ (fun k:Nat=>[(0,.pv (ints l)),(1,.pv (pi n)),(5,.pv (pi k))]) (fun _=>[]) (fun k=>k≤l.length∧n∉l.take k) (fun k=>l.length - k) 0 ⟨by simp,by simp⟩ (tS) tH ?_
 rintro k ⟨hk,hno⟩
 by_cases hlt:k < l.length
 ·have he:=qB hlt
  repeat' (first|(refine shX ?_;first|refine qX he ?_)|refine sK ?_|refine sC (fun _=>?_) (fun _=>?_)|fail)
  ·rename_i h
   refine retq rfl ?_
   have:n∈l:=by have:=List.getElem_mem hlt;simp at h;rwa [h] at this
   simp [zk,this]
  ·rename_i h
   simp at h
   exact ⟨k + 1,⟨by omega,zdh hlt hno h⟩,tD,tS,tH⟩
 ·repeat' (first|refine sK ?_|refine sC (fun _=>?_) (fun _=>?_)|fail)
  refine retq rfl ?_
  have:n∉l:=by rw [List.take_of_length_le (by omega)] at hno;exact hno
  simp [zk,this]
def idx (l:List Int) (v:Int):Int:=if v∈l then (l.findIdx (· == v):Nat) else -1
theorem zhn (l:List Int) (n:Int):ACall Tryz.prog 212 [ints l,pi n] (pi (idx l n)):=by
 refine zh zf Tryz.func212 rfl (by kernel_rfl) Tryz.ntmps212 (by simp) _ rfl (fun hw gB hgB=>?_)
 have hl:=zcD hw.1
 repeat' (first|refine sA ?_|refine sC (fun _=>?_) (fun _=>?_)|fail)
 refine zJ (fun k:Nat=>[(0,.pv (ints l)),(1,.pv (pi n)),(7,.pv (pi l.length)),(8,.pv (pi k))]) (fun _=>[]) (fun k=>k≤l.length∧n∉l.take k) (fun k=>l.length - k) 0 ⟨by simp,by simp⟩ (by repeat (first|exact yS|refine yG rfl ?_|(refine Zc rfl ?_ ?_;· simp))) tH ?_
 rintro k ⟨hk,hno⟩
 by_cases hlt:k < l.length
 ·have he:=qB hlt
  repeat' (first|(refine shX ?_;first|refine qX he ?_)|refine sK ?_|refine sC (fun _=>?_) (fun _=>?_)|fail)
  ·rename_i h
   refine retq rfl ?_
   simp at h
   have hm:n∈l:=by have:=List.getElem_mem hlt;rwa [←h] at this
   have hi:l.findIdx (· == n)=k:=by
    rw [List.findIdx_eq hlt]
    refine ⟨by simp [h],fun j hj=>?_⟩
    simp only [beq_eq_false_iff_ne]
    intro e
    refine hno ?_
    rw [←e,List.mem_take_iff_getElem]
    exact ⟨j,by omega,rfl⟩
   simp [zk,idx,hm,hi]
  ·rename_i h
   simp at h
   exact ⟨k + 1,⟨by omega,zdh hlt hno (fun e=>h e.symm)⟩,tD,tS,tH⟩
 ·repeat' (first|refine sK ?_|refine sC (fun _=>?_) (fun _=>?_)|fail)
  refine retq rfl ?_
  have:n∉l:=by rw [List.take_of_length_le (by omega)] at hno;exact hno
  simp [zk,idx,this]
theorem Qi (l:List Int) (n:Int):ACall Tryz.prog 183 [ints l,pi n] (pb (decide (n∈l))):=by
 refine zh zf Tryz.func183 rfl (by kernel_rfl) Tryz.ntmps183 (by simp) _ rfl (fun hw gB hgB=>?_)
 repeat' (first|(refine shC ?_;first|refine qC (zhn _ _) ?_)|refine sA ?_|refine sC (fun _=>?_) (fun _=>?_)|fail)
 refine retq rfl ?_
 by_cases h:n∈l <;> simp [zk,idx,h]
set_option maxHeartbeats 20000000
theorem zb1 {l:List Ty} (h:(tys l).lenOk):l.length≤9223372036854775807:=by
 simp [tys,PV.lenOk,maxLen] at h;exact h.1
theorem zel {α:Type} {a b:List α} {k:Nat} (ha:k < a.length) (hb:k < b.length) (h:a.take k=b.take k) (e:a[k]=b[k]):a.take (k + 1)=b.take (k + 1):=by
 rw [List.take_succ_eq_append_getElem ha,List.take_succ_eq_append_getElem hb,h,e]
theorem zah (a b:List Ty):ACall Tryz.prog 28 [tys a,tys b] (pb (decide (a=b))):=by
 refine zh zf Tryz.func28 rfl (by kernel_rfl) Tryz.ntmps28 (by simp) _ rfl (fun hw gB hgB=>?_)
 have hl:=zb1 hw.1
 by_cases hlen:a.length=b.length
 ·repeat' (first|refine sK ?_|refine sC (fun _=>?_) (fun _=>?_)|fail)
  refine zJ (fun k:Nat=>[(0,.pv (tys a)),(1,.pv (tys b)),(5,.pv (pi k))]) (fun _=>[]) (fun k=>k≤a.length∧a.take k=b.take k) (fun k=>a.length - k) 0 ⟨by simp,by simp⟩ (tS) tH ?_
  rintro k ⟨hk,hno⟩
  by_cases hlt:k < a.length
  ·have he:=WJ hlt
   have hltb:k < b.length:=by omega
   have he':=WJ hltb
   repeat' (first|(refine shX ?_;first|refine qX he ?_|refine qX he' ?_)|refine sK ?_|refine sC (fun _=>?_) (fun _=>?_)|fail)
   ·rename_i h
    refine retq rfl ?_
    have:a≠b:=by
     rintro rfl
     simp at h
    simp [zk,this]
   ·rename_i h
    have e:a[k]=b[k]:=by
     simp only [Bool.not_eq_false'] at h
     rw [QA] at h
     simpa using h
    exact ⟨k + 1,⟨by omega,zel hlt hltb hno e⟩,tD,tS,tH⟩
  ·repeat' (first|refine sK ?_|refine sC (fun _=>?_) (fun _=>?_)|fail)
   refine retq rfl ?_
   rw [List.take_of_length_le (by omega),List.take_of_length_le (by omega)] at hno
   simp [zk,hno]
 ·repeat' (first|refine sK ?_|refine sC (fun _=>?_) (fun _=>?_)|fail)
  refine retq rfl ?_
  have:a≠b:=by rintro rfl;exact hlen rfl
  simp [zk,this]
def Zw (t:Ty):Bool :=
 if decide (t.dims < 0)||decide (3 < t.dims)||decide (t.index < 0) then false
 else if t.kind==1 then t.dims==0&&!t.ref&&t.index==0
 else if t.kind==2||t.kind==3||t.kind==4 then t.index==0
 else if t.kind==5||t.kind==6 then decide (t.index < 32)
 else if t.kind==7 then decide (t.index≤7)
 else false
theorem zdp (t:Ty):ACall Tryz.prog 50 [yJ t] (pb (Zw t)):=by
 refine zh zf Tryz.func50 rfl (by kernel_rfl) Tryz.ntmps50 (by simp) _ rfl (fun hw gB hgB=>?_)
 repeat' (first|refine sA ?_|refine sC (fun _=>?_) (fun _=>?_)|fail)
 all_goals (first|refine retq rfl ?_|refine ZN rfl ?_)
 all_goals (first|(simp_all [zk,Zw];done)|(simp_all [zk,Zw];omega))
def Zy (t:Ty) (place:Int):Bool :=
 if !Zw t then false
 else if place==1 then t.kind != 1&&!t.ref
 else if place==2 then t.kind != 1
 else if place==3 then !t.ref
 else true
theorem zhr (t:Ty) (p:Int):ACall Tryz.prog 277 [yJ t,pi p] (pb (Zy t p)):=by
 refine zh zf Tryz.func277 rfl (by kernel_rfl) Tryz.ntmps277 (by simp) _ rfl (fun hw gB hgB=>?_)
 repeat' (first|(refine shC ?_;first|refine qC (zdp _) ?_)|refine sA ?_|refine sC (fun _=>?_) (fun _=>?_)|fail)
 all_goals (first|refine retq rfl ?_|refine ZN rfl ?_)
 all_goals (first|(simp_all [zk,Zy];done)|(simp_all [zk,Zy];omega))
def zeZ (t:Ty) (n:Int):Bool:=(t.kind != 5&&t.kind != 6)||decide (t.index < n)
theorem zl8 (t:Ty) (n:Int):ACall Tryz.prog 278 [yJ t,pi n] (pb (zeZ t n)):=by
 refine zh zf Tryz.func278 rfl (by kernel_rfl) Tryz.ntmps278 (by simp) _ rfl (fun hw gB hgB=>?_)
 repeat' (first|refine sA ?_|refine sC (fun _=>?_) (fun _=>?_)|fail)
 all_goals (first|refine retq rfl ?_|refine ZN rfl ?_)
 all_goals (first|(simp_all [zk,zeZ];done)|(simp_all [zk,zeZ];omega))
def QG (t:Ty) (p n:Int):Bool:=Zy t p&&zeZ t n
theorem za5 (t:Ty) (p n:Int):ACall Tryz.prog 259 [yJ t,pi p,pi n] (pb (QG t p n)):=by
 refine zh zf Tryz.func259 rfl (by kernel_rfl) Tryz.ntmps259 (by simp) _ rfl (fun hw gB hgB=>?_)
 repeat' (first|(refine shC ?_;first|refine qC (zhr _ _) ?_|refine qC (zl8 _ _) ?_)|refine sA ?_|refine sC (fun _=>?_) (fun _=>?_)|fail)
 all_goals (first|refine retq rfl ?_|refine ZN rfl ?_)
 all_goals (first|(simp_all [zk,QG];done)|(simp_all [zk,QG];omega))
end Go.Cg
namespace Go.Cg
theorem BL:(∀ b:Bool,(b&&true)=b)∧(∀ b:Bool,(true&&b)=b)∧(∀ b:Bool,(b&&false)=false)∧(∀ b:Bool,(false&&b)=false)∧(∀ b:Bool,(b||true)=true)∧(∀ b:Bool,(true||b)=true)∧(∀ b:Bool,(b||false)=b)
  ∧ (∀ b:Bool,(false||b)=b)∧((!true)=false)∧((!false)=true):=by simp
theorem drop_cons {α:Type} {l:List α} {k:Nat} (h:k < l.length):l.drop k=l[k]::l.drop (k + 1):=List.drop_eq_getElem_cons h
theorem Yl {α:Type} {l:List α} {p:α→Bool} {k:Nat} (h:k < l.length):(l.drop k).all p=(p l[k]&&(l.drop (k + 1)).all p):=by rw [drop_cons h];rfl
theorem WS {α:Type} {l:List α} {p:α→Bool} {k:Nat} (h:k < l.length):(l.drop k).any p=(p l[k]||(l.drop (k + 1)).any p):=by rw [drop_cons h];rfl
theorem drop_end {α:Type} {l:List α} {k:Nat} (h:l.length≤k):l.drop k=[]:=List.drop_eq_nil_of_le h
end Go.Cg
namespace Go.Cg
open Go.Proofs
set_option maxHeartbeats 20000000
def zjw (b:UInt8):Bool:=!(decide ((b.toNat:Int) < 33)||decide (126 < (b.toNat:Int)))
def Vm (s:ByteArray):Bool:=s.data.toList.all zjw&&(decide (0 < (s.size:Int))&&decide ((s.size:Int)≤24))
theorem zn0 {s:ByteArray} (h:(ps s).lenOk):s.size≤9223372036854775807:=by
 simp [PV.lenOk,Xh,maxLen] at h;exact of_decide_eq_true h
theorem zem {s:ByteArray} {k:Nat} (h:k < s.size):s[((k:Int)).toNat]?=some (s.data.toList[k]'(by simpa using h)):=by
 simp only [Int.toNat_natCast]
 rw [getElem?_pos s k h]
 simp [ByteArray.getElem_eq_getElem_data]
theorem zcW (s:ByteArray):ACall Tryz.prog 258 [ps s] (pb (Vm s)):=by
 refine zh zf Tryz.func258 rfl (by kernel_rfl) Tryz.ntmps258 (by simp) _ rfl (fun hw gB hgB=>?_)
 have hl:=zn0 hw.1
 repeat' (first|refine sA ?_|refine sC (fun _=>?_) (fun _=>?_)|fail)
 refine zJ (fun k:Nat=>[(0,.pv (ps s)),(3,.pv (pi k))]) (fun _=>[]) (fun k=>k≤s.size∧s.data.toList.all zjw=(s.data.toList.drop k).all zjw) (fun k=>s.size - k) 0 ⟨by simp,by simp⟩ (tS) tH ?_
 rintro k ⟨hk,hr⟩
 by_cases hlt:k < s.size
 ·have hb:=zem hlt
  rw [Yl (by simpa using hlt)] at hr
  repeat' (first|(refine shI ?_;first|refine zB rfl (WI zf rfl rfl rfl rfl (by omega) hb) rfl rfl ?_|refine AD.step _ _ _ _ _ rfl (WI zf rfl rfl rfl rfl (by omega) hb) rfl rfl ?_)|refine sK ?_|refine sC (fun _=>?_) (fun _=>?_)|fail)
  all_goals first
   | exact ⟨k + 1,⟨by omega,by simp_all [zjw]⟩,tD,tS,tH⟩
   | (refine retq rfl ?_;simp_all [zk,Vm,zjw];done)
 ·rw [drop_end (by simp;omega)] at hr
  repeat' (first|refine sK ?_|refine sC (fun _=>?_) (fun _=>?_)|fail)
  all_goals (refine retq rfl ?_;simp_all [zk,Vm];done)
def zaU (o:Int):Int × Int :=
 if o==1 then (2147483647,-2147483648) else if o==2 then (9223372036854775807,-9223372036854775808) else if o==3 then (11,0) else if o==4 then (6,0) else if o==5 then (159,0)
 else if o==6||o==7 then (63,0) else (0,0)
theorem zpF (o:Int):ACall Tryz.prog 306 [pi o] (.tup [pi (zaU o).1,pi (zaU o).2]):=by
 refine zh zf Tryz.func306 rfl (by kernel_rfl) Tryz.ntmps306 (by simp) _ rfl (fun hw gB hgB=>?_)
 repeat' (first|refine sA ?_|refine sC (fun _=>?_) (fun _=>?_)|fail)
 all_goals (refine retq rfl ?_)
 all_goals (simp_all [zk,zaU])
end Go.Cg
