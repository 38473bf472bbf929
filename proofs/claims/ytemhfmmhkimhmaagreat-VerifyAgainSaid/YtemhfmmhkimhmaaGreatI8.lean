/- A part of the walks by abstract values: no statement of its own. -/
import Derived.Test.YtemhfmmhkimhmaaGreatI6
import Derived.WalkSpells
import Derived.Maps.Own
import Derived.Maps.Views
set_option linter.unusedVariables false
set_option linter.unusedSimpArgs false
namespace Go.Cg
open Go.RowKit
section
variable {P:Program} {tb:Tab} {n:Nat} {g:Base} {K K':KK} {w w':World} {ρ ρ':Nat->Value} {H H':HEnv} {env:Env} {a:Act} {ops:List Oper} {o:Oper} {rest:List Oper} {Q:Env->HEnv->Prop} {QQ:QC} {c:Code}
theorem VF {t:TypeId} {x i:Operand} {s:ByteArray} {k:IntKind} {m:Int} {b:UInt8} (htb:yZ P tb) (hop:o.op=.index t x i) (hk:tb.k t=.str) (hx:env.pv H x=some (.base (.string s))) (hi:env.pv H i=some (.base (.int k m))) (h0:0<=m) (hb:s[m.toNat]?=some b) :
  QStep P g H o env (.pv (.base (.int .u8 b.toNat))):=by
 refine ⟨fun K ρ a w hf hv=>?_⟩;have hxr:=qy hf (hv x zwy68) hx;have hir:=qy hf (hv i zwy68) hi;generalize hxv:a.eval x=xv at hxr;generalize hiv:a.eval i=iv at hir;cases hir;cases hxr;have:(execOp a.eval o).run P w=.ok (.value (.int .u8 b.toNat)) w:=by
  simp [execOp,hop,hxv,hiv,Instr.index,asIntOf,run_underlying (zcG htb hk),h0,hb]
 rw [this];exact Yq hf (.pv _ _ (.base _ rfl))
def Xb (env:Env) (H:HEnv) (d:Int):Option Operand->Option Int
 | none=>some d
 | some x=>match env.pv H x with|some (.base (.int _ m))=>some m|_=>none
theorem zaJ (hf:FS g K ρ H w) {x:Option Operand} {d m:Int} (hv:∀ y∈x.toArray,∀ av,env.val y=some av->ARel K w ρ H av (a.eval y)) (h:Xb env H d x=some m) :
  (x=none/\m=d)\/∃ y k,x=some y/\a.eval y=.int k m:=by
 cases x with
 | none=>simp [Xb] at h;exact .inl ⟨rfl,h.symm⟩
 | some y =>
  simp only [Xb] at h;split at h
  ·rename_i k m' hm;simp only [Option.some.injEq] at h;subst h;have:=qy hf (hv y zwy63) hm;generalize hyv:a.eval y=yv at this;cases this;exact .inr ⟨y,k,rfl,hyv⟩
  ·cases h
theorem znH {t:TypeId} {x:Operand} {lo hi:Option Operand} {s:ByteArray} {l h:Int} (htb:yZ P tb) (hop:o.op=.slice t x lo hi none) (hk:tb.k t=.str) (hx:env.pv H x=some (.base (.string s))) (hlo:Xb env H 0 lo=some l) (hhi:Xb env H s.size hi=some h)
  (h0:0<=l) (h1:l<=h) (h2:h<=s.size):QStep P g H o env (.pv (.base (.string (s.extract l.toNat h.toNat)))):=by
 refine ⟨fun K ρ a w hf hv=>?_⟩;have hxr:=qy hf (hv x zwy68) hx;generalize hxv:a.eval x=xv at hxr;cases hxr with
 | base _ hok =>
 have el:=zaJ (a:=a) hf (x:=lo) (fun y hy=>hv y (by rw [hop];simp [Op.operands] at hy ⊢;exact .inr (.inl hy))) hlo;have eh:=zaJ (a:=a) hf (x:=hi) (fun y hy=>hv y (by rw [hop];simp [Op.operands] at hy ⊢;exact .inr (.inr hy))) hhi;have hh:h<=((s.size:Nat):Int):=h2;have hh0:0<=h:=by omega
 have hlh:l<=((h.toNat:Nat):Int):=by omega
 have hrun:(execOp a.eval o).run P w=.ok (.value (.string (s.extract l.toNat h.toNat))) w:=by
  rcases el with ⟨rfl,rfl⟩|⟨y,k,rfl,hy⟩ <;> rcases eh with ⟨rfl,rfl⟩|⟨z,k',rfl,hz⟩
  ·simp [execOp,hop,hxv,Instr.sliceAt,Instr.slice,Instr.sliceBounds,run_underlying (zcG htb hk)]
  ·simp [execOp,hop,hxv,hz,Instr.sliceAt,Instr.slice,Instr.sliceBounds,Instr.sliceBound,asIntOf,run_underlying (zcG htb hk),hh,hh0]
  ·simp [execOp,hop,hxv,hy,Instr.sliceAt,Instr.slice,Instr.sliceBounds,Instr.sliceBound,asIntOf,run_underlying (zcG htb hk),h0,h1]
  ·simp [execOp,hop,hxv,hy,hz,Instr.sliceAt,Instr.slice,Instr.sliceBounds,Instr.sliceBound,asIntOf,run_underlying (zcG htb hk),h0,hlh,hh,hh0];intro hc;omega
 rw [hrun];refine Yq hf (.pv _ _ (.base _ ?_));simp only [Xh,decide_eq_true_eq] at hok ⊢;simp only [ByteArray.size_extract];omega
theorem WI {t e:TypeId} {parts:Array (Nat × Operand)} (htb:yZ P tb) (hop:o.op=.buildSlice t 0 parts) (hp:parts=#[]) (hk:tb.k t=.sl e) (hke:tb.known e=true) (hsz:Nat.blt 0 (tb.size e)=true):QStep P g H o env (.pv (.slc (tb.size e) [] true)):=by
 refine ⟨fun K ρ a w hf hv=>?_⟩;subst hp;have hko:tb.k e≠.oth:=by intro h;simp [Tab.known,h] at hke
 have hs:=run_sizeOf htb hko w;have hrun:(execOp a.eval o).run P w=.ok (.value (.slice (some ⟨w.heap.size,0,none⟩) 0 0)) (w.alloc (.cells #[] e)):=by
  have e0:Array.range 0=#[]:=Array.eq_empty_of_size_eq_zero zwy63;simp [execOp,hop,Instr.buildSlice,run_underlying (Zd htb hk),hs,Instr.fill,newRow,e0]
 rw [hrun];refine ⟨_,zaN hf.lt #[] e 0,.pv _ _ ?_⟩;have:=PRel.slc (K:=zcr K w 0) (w:=w.alloc (.cells #[] e)) (tb.size e) [] true w.heap.size 0 0 (fun _=>[]) (Nat.le_of_ble_eq_true hsz) (Nat.le_refl _) (fun _=>rfl) (by simp [maxLen]) (by simp [maxLen]) (fun i e h=>by simp at h) (fun i e k c v h=>by simp at h);exact this
theorem zvs {t e:TypeId} {x:Operand} {lo hi:Option Operand} {sz:Nat} {es:List PV} {full:Bool} {l h:Int} (htb:yZ P tb) (hop:o.op=.slice t x lo hi none) (hk:tb.k t=.sl e) (hke:tb.known e=true) (hsz:tb.size e=sz) (hx:env.pv H x=some (.slc sz es full))
  (hlo:Xb env H 0 lo=some l) (hhi:Xb env H es.length hi=some h) (h0:0<=l) (h1:l<=h) (h2:h<=es.length):QStep P g H o env (.pv (.slc sz ((es.take h.toNat).drop l.toNat) false)):=by
 refine ⟨fun K ρ a w hf hv=>?_⟩;have hxr:=qy hf (hv x zwy68) hx;generalize hxv:a.eval x=xv at hxr;have el:=zaJ (a:=a) hf (x:=lo) (fun y hy=>hv y (by rw [hop];simp [Op.operands] at hy ⊢;exact .inr (.inl hy))) hlo;have eh:=zaJ (a:=a) hf (x:=hi) (fun y hy=>hv y (by rw [hop];simp [Op.operands] at hy ⊢;exact .inr (.inr hy))) hhi;have hko:tb.k e≠.oth:=by intro h;simp [Tab.known,h] at hke
 have hs:=run_sizeOf htb hko w;have hh0:0<=h:=by omega
 have hlh:l<=((h.toNat:Nat):Int):=by omega
 have bounds:∀ cap:Nat,es.length<=cap->(Instr.sliceBounds true es.length cap (lo.map a.eval) (hi.map a.eval) none).run P w=.ok (l.toNat,h.toNat,cap) w:=by
  intro cap hcap;have hhc:h<=(cap:Int):=by omega
  rcases el with ⟨rfl,rfl⟩|⟨y,k,rfl,hy⟩ <;> rcases eh with ⟨rfl,rfl⟩|⟨z,k',rfl,hz⟩
  ·simp [Instr.sliceBounds]
  ·simp [hz,Instr.sliceBounds,Instr.sliceBound,asIntOf,hhc,hh0]
  ·simp [hy,Instr.sliceBounds,Instr.sliceBound,asIntOf,h0,h1]
  ·simp [hy,hz,Instr.sliceBounds,Instr.sliceBound,asIntOf,h0,hlh,hhc,hh0];intro hc;omega
 cases hxr with
 | nil =>
  simp only [List.length_nil,Int.natCast_zero] at h2 bounds;have e1:l=0:=by omega
  have e2:h=0:=by omega
  subst e1 e2;have hrun:(execOp a.eval o).run P w=.ok (.value (.slice none 0 0)) w:=by
   have:=bounds 0 (Nat.le_refl _);simp [execOp,hop,hxv,Instr.sliceAt,Instr.slice,run_underlying (Zd htb hk),this,hs]
  rw [hrun];exact Yq hf (.pv _ _ (by simpa using PRel.nil (K:=K) (w:=w) sz false))
 | emp _ _ ad =>
  simp only [List.length_nil,Int.natCast_zero] at h2 bounds;have e1:l=0:=by omega
  have e2:h=0:=by omega
  subst e1 e2;have hrun:(execOp a.eval o).run P w=.ok (.value (.slice (some ad) 0 0)) w:=by
   have:=bounds 0 (Nat.le_refl _);simp [execOp,hop,hxv,Instr.sliceAt,Instr.slice,run_underlying (Zd htb hk),this,hs]
  rw [hrun];exact Yq hf (.pv _ _ (by simpa using PRel.emp (K:=K) (w:=w) sz false ad))
 | slc _ _ _ b off cap vss q0 q1 q2 q3 q4 q5 q6 =>
  have hb:=bounds cap q1;have hlen:((es.take h.toNat).drop l.toNat).length=h.toNat - l.toNat:=by simp;omega
  have hget:∀ i e,((es.take h.toNat).drop l.toNat)[i]?=some e->es[l.toNat + i]?=some e:=by
   intro i e he;rw [List.getElem?_drop,List.getElem?_take] at he;split at he
   ·exact he
   ·cases he
  have hrun:(execOp a.eval o).run P w=.ok (.value (.slice (if cap=l.toNat then some ⟨b,off,none⟩ else some ⟨b,off + l.toNat * sz,none⟩) (h.toNat - l.toNat) (cap - l.toNat))) w:=by
   simp [execOp,hop,hxv,Instr.sliceAt,Instr.slice,run_underlying (Zd htb hk),hb,hs,hsz,Addr.add_lit]
  rw [hrun];refine Yq hf (.pv _ _ ?_);have key:∀ off',(off'=off + l.toNat * sz\/h.toNat - l.toNat=0)->PRel K w (.slc sz ((es.take h.toNat).drop l.toNat) false) (.slice (some ⟨b,off',none⟩) (h.toNat - l.toNat) (cap - l.toNat)):=by
   intro off' hoff;have:=PRel.slc (K:=K) (w:=w) sz ((es.take h.toNat).drop l.toNat) false b off' (cap - l.toNat) (fun i=>vss (l.toNat + i)) q0 (by rw [hlen];omega) zwy63 (by rw [hlen];omega) zwy62
    (fun i e he=>by
     have he':=hget i e he;obtain ⟨r1,r2,r3⟩:=q5 _ e he';refine ⟨r1,r2,?_⟩;rcases hoff with rfl|hz
     ·rw [Nat.add_assoc,<-Nat.add_mul];exact r3
     ·have:=(List.getElem?_eq_some_iff.1 he).1;rw [hlen] at this;omega)
    (fun i e k c v he=>q6 _ e k c v (hget i e he))
   rw [hlen] at this;exact this
  split
  ·rename_i hcl;exact key off (.inr zwy62)
  ·exact key _ (.inl rfl)
theorem Qq {ty e:TypeId} {x y:Operand} {sz:Nat} {es xs:List PV} {full:Bool} (htb:yZ P tb) (hop:o.op=.call { callee:=.builtin .append,args:=#[x,y],argTypes:=#[ty,ty] }) (hk:tb.k ty=.sl e)
  (hx:env.pv H x=some (.slc sz es true)\/(es=[]/\env.pv H x=some (.base (.slice none 0 0)))) (hy:env.pv H y=some (.slc sz xs full))
  (hzz:(match tb.get e with|some ti=>(match ti.zero with|some z=>ti.size==sz&&z.cells.size==sz&&Nat.blt 0 sz|none=>false)|none=>false)=true)
  (hbound:(es.length + xs.length) * (match tb.get e with|some ti=>ti.bytes|none=>0)<=140737488355328) (hb2:es.length + xs.length<=140737488355328):QStep P g H o env (.pv (.slc sz (es++xs) false)):=by
 refine ⟨fun K ρ a w hf hv=>?_⟩;cases hti:tb.get e with
 | none=>simp [hti] at hzz
 | some ti =>
  cases hz:ti.zero with
  | none=>simp [hti,hz] at hzz
  | some z =>
   simp only [hti,hz,Bool.and_eq_true,beq_iff_eq] at hzz hbound;obtain ⟨⟨z1,z2⟩,z3⟩:=hzz;have hsz:0 < sz:=Nat.le_of_ble_eq_true z3;obtain ⟨tin,q1,q2,q3,q4,_⟩:=Ym htb hti;have hyr:=qy hf (hv y zwy70) hy;obtain ⟨news,n1,n2,n3,n4,n5⟩:=WV hyr;have hxr:PRel K w (.slc sz es true) (a.eval x):=by
    rcases hx with hx|⟨rfl,hx⟩
    ·exact qy hf (hv x zwy70) hx
    ·have:=qy hf (hv x zwy70) hx;generalize a.eval x=xv at this ⊢;cases this;exact .nil sz true
   obtain ⟨us,m1,m2,m3,m4,m5⟩:=WV hxr;have hall:(us++news).length=(es.length + xs.length) * sz:=by rw [List.length_append,m1,n1,Nat.add_mul]
   have hone:∀ v∈us++news,v.oneCell'=true:=fun v hv'=>(List.mem_append.1 hv').elim (m3 v) (n3 v)
   have hcr:=m4.append m1 n4;have fin:∀ (w2:World) (cap:Nat) (junk:List Value),Evo K K w w2->es.length + xs.length<=cap->cap<=maxLen->∀ (w3:World) (arr:Array Value),arr=(us++news++junk).toArray->w3=w2.alloc (.cells arr e) ->
     ∃ K',Evo K K' w w3/\PRel K' w3 (.slc sz (es++xs) false) (.slice (some ⟨w2.heap.size,0,none⟩) (es.length + xs.length) cap):=by
    rintro w2 cap junk hev hc1 hc2 w3 arr rfl rfl;have hlt2:∀ b o,K b o->b < w2.heap.size:=hev.lt;have h3:=zaN hlt2 (us++news++junk).toArray e ((us++news).length);refine ⟨_,hev.trans h3,?_⟩;have hlat:=(hev.trans h3).later hf.lt;have hcell:∀ j v,(us++news)[j]?=some v->zcr K w2 (us++news).length w2.heap.size j/\(w2.alloc (.cells (us++news++junk).toArray e)).cell? ⟨w2.heap.size,j,none⟩=some v:=by
     intro j v hj;have hjl:=(List.getElem?_eq_some_iff.1 hj).1;refine ⟨.inr ⟨rfl,hjl⟩,?_⟩;rw [World.cell?_alloc_new];simp only [List.getElem?_toArray];rw [List.getElem?_append_left hjl];exact hj
    have:=PRel.slc (K:=zcr K w2 (us++news).length) (w:=w2.alloc (.cells (us++news++junk).toArray e)) sz (es++xs) false w2.heap.size 0 cap (fun i=>((us++news).drop (i * sz)).take sz) hsz (by rw [List.length_append];exact hc1) zwy63 (by rw [List.length_append];unfold maxLen;omega) hc2
     (fun i e' he=>by
      obtain ⟨r1,r2⟩:=hcr i e' he;have hi:=(List.getElem?_eq_some_iff.1 he).1;rw [List.length_append] at hi;have hil:=Nat.mul_le_mul_right sz (show i + 1<=es.length + xs.length by omega);rw [Nat.add_mul] at hil;refine ⟨r1,by simp only [List.length_take,List.length_drop];omega,?_⟩;intro k v hv';rw [List.getElem?_take] at hv';split at hv'
      ·rw [List.getElem?_drop] at hv';obtain ⟨c1,c2⟩:=hcell _ v hv';rw [Nat.zero_add];exact ⟨c1,c2,hone v (List.mem_of_getElem? hv')⟩
      ·cases hv')
     (fun i e' k c v he hc hv'=>by
      obtain ⟨r1,r2⟩:=hcr i e' he;obtain ⟨v',e1,_,e3⟩:=r2 k c hc;rw [List.getElem?_take] at hv';split at hv'
      ·rw [List.getElem?_drop,e1] at hv';cases hv';exact e3.later hlat
      ·cases hv')
    rw [show (es++xs).length=es.length + xs.length from List.length_append] at this;exact this
   have hsmall:es.length + xs.length<=9223372036854775807:=by omega
   have hrun0:∀ {v':Value} {w':World},(Builtin.append_ #[ty,ty] o.type #[a.eval x,a.eval y]).run P w=.ok v' w'->(execOp a.eval o).run P w=.ok (.value v') w':=by
    intro v' w' h;simp [execOp,hop,resolve,invoke,builtin,h]
   have hcapmax:∀ need old,need<=9223372036854775807->grownCap w need old e<=maxLen:=fun need old h=>grownCap_le_maxLen w need old e zwy111
   have hevd:Evo K K w w.drew:=(Evo.refl hf.lt).drew;rcases n2 with ⟨hy0,hxl⟩|⟨ad',c',hy1,hy2,_,hxc⟩
   ·
    have hxs:xs=[]:=List.eq_nil_of_length_eq_zero hxl;subst hxs;have hrun:(Builtin.append_ #[ty,ty] o.type #[a.eval x,a.eval y]).run P w=.ok (a.eval x) w:=by
     rcases m2 with ⟨e1,_⟩|⟨ad1,c1,e1,_,_,hle⟩
     ·rw [e1,hy0];simp [Builtin.append_,run_underlying (Zd htb hk),sizeOf,typeInfo,q1,Builtin.lenOf,Builtin.firstCells]
     ·rw [e1,hy0];simp [Builtin.append_,run_underlying (Zd htb hk),sizeOf,typeInfo,q1,Builtin.lenOf,Builtin.firstCells,hle,storeCells]
    rw [hrun0 hrun];refine Yq hf ?_;rw [List.append_nil];exact zeQ sz es true _ _ ρ H _ (.pv _ _ hxr)
   ·by_cases hx0:xs.length=0
    ·have hxs:xs=[]:=List.eq_nil_of_length_eq_zero hx0;subst hxs;have hnews:news=[]:=List.eq_nil_of_length_eq_zero (by simpa using n1);have hrun:(Builtin.append_ #[ty,ty] o.type #[a.eval x,a.eval y]).run P w=.ok (a.eval x) w:=by
      rcases m2 with ⟨e1,_⟩|⟨ad1,c1,e1,_,_,hle⟩
      ·rw [e1,hy1];simp [Builtin.append_,run_underlying (Zd htb hk),sizeOf,typeInfo,q1,Builtin.lenOf,Builtin.firstCells,loadCells,loadCellsFrom]
      ·rw [e1,hy1];simp [Builtin.append_,run_underlying (Zd htb hk),sizeOf,typeInfo,q1,Builtin.lenOf,Builtin.firstCells,hle,storeCells,loadCells,loadCellsFrom]
     rw [hrun0 hrun];refine Yq hf ?_;rw [List.append_nil];exact zeQ sz es true _ _ ρ H _ (.pv _ _ hxr)
    ·have hns:tin.size=sz:=by omega
     rcases m2 with ⟨e1,hel⟩|⟨ad1,c1,e1,e2,hfull,hle⟩
     ·have hes:es=[]:=List.eq_nil_of_length_eq_zero hel;subst hes;have hus:us=[]:=List.eq_nil_of_length_eq_zero (by simpa using m1);subst hus;have hr:=run_append_nil (P:=P) w ty o.type e tin z (Zd htb hk) q1 zwy110 ad' xs.length c' news zwy117 hy2 zwy62 (by simp at hsmall;omega) (by rw [q3];simp at hbound;omega);rw [hrun0 zwy109];obtain ⟨K',f1,f2⟩:=fin w.drew (grownCap w xs.length 0 e) (Builtin.zeroCells z.cells (grownCap w xs.length 0 e - xs.length)).toList hevd (by simpa using grownCap_ge w xs.length 0 e) (hcapmax _ _ (by simp at hsmall;omega)) _ (news.toArray++Builtin.zeroCells z.cells (grownCap w xs.length 0 e - xs.length)) (by apply Array.ext';simp) rfl;refine ⟨K',?_,.pv _ _ ?_⟩
      ·simpa using f1
      ·simpa using f2
     ·have hc1:c1=es.length:=hfull rfl;subst hc1;have hr:=run_append_grow (P:=P) w ty o.type e tin z (Zd htb hk) q1 zwy110 ad1 es.length es.length us (by rw [hns];exact m1) e2 ad' xs.length c' news zwy117 hy2 zwy62 zwy62 (growslice_fits zwy62 (by rw [q3];exact hbound));rw [hrun0 zwy109];obtain ⟨K',f1,f2⟩:=fin w.drew (grownCap w (es.length + xs.length) es.length e) (Builtin.zeroCells z.cells (grownCap w (es.length + xs.length) es.length e - (es.length + xs.length))).toList hevd (grownCap_ge w _ _ e) (hcapmax _ _ hsmall) _ (us.toArray++news.toArray++Builtin.zeroCells z.cells (grownCap w (es.length + xs.length) es.length e - (es.length + xs.length))) (by apply Array.ext';simp) rfl;refine ⟨K',?_,.pv _ _ ?_⟩
      ·simpa using f1
      ·simpa using f2
theorem WB {t:TypeId} {x y:Operand} {sz:Nat} {es:List PV} {full:Bool} {e d:Nat} {t':TypeId} (htb:yZ P tb) (hg:guardE ops env o=some true) (hop:o.op=.binOp .eql t x y t') (hk:tb.k t=.sl e) (hx:env.pv H x=some (.slc sz es full)) (hy:env.pv H y=some (.base (.slice none 0 0))) (hd:o.dst=some d) (ht:Nat.blt d n=true)
  (h:∀ b:Bool,(b=true->es=[])->AO P n g ops.toArray rest ((d,.pv (.base (.bool b)))::env) H Q):AO P n g ops.toArray (o::rest) env H Q:=by
 refine ⟨fun a w hinv=>?_⟩;have hw:=qx hinv hg;obtain ⟨h1,h2,K,ρ,hf,he⟩:=hinv;refine wpList_step fun Kc hKc=>?_
 rw [if_pos hw];have hxr:=qy (a:=a) hf (x:=x) (fun av hh=>qO he hh) hx;have hyr:=qy (a:=a) hf (x:=y) (fun av hh=>qO he hh) hy;generalize hxv:a.eval x=xv at hxr;generalize hyv:a.eval y=yv at hyr;cases hyr;have key:∀ (b:Bool),(b=true->es=[])->(execOp a.eval o).run P w=.ok (.value (.bool b)) w->Oper.wp P o a w Kc (fun e a' w'=>∃ env' H',Inv n g env' H' a' w'/\e=.normal/\Q env' H'):=by
  intro b hb hrun;unfold Oper.wp;rw [hrun];simp only [Oper.upon];exact hKc _ _ ((h b hb).go _ _ ⟨Zy h1,put_defers h2,K,ρ,hf,by rw [hd];exact Yg h1 ht he (.pv _ _ (.base _ rfl))⟩)
 cases hxr with
 | nil =>
  refine key true (fun _=>rfl) ?_;have:(binOp .eql t (.slice none 0 0) (.slice none 0 0)).run P w=.ok (.bool true) w:=by
   exact Lib.run_eql_slice_nil w t e _ _ _ _ _ (Zd htb hk)
  simp [execOp,hop,hxv,hyv,eqGuard,this]
 | emp _ _ ad =>
  refine key false zwy63 ?_;have:(binOp .eql t (.slice (some ad) 0 0) (.slice none 0 0)).run P w=.ok (.bool false) w:=by
   exact Lib.run_eql_slice_nil w t e _ _ _ _ _ (Zd htb hk)
  simp [execOp,hop,hxv,hyv,eqGuard,this]
 | slc _ _ _ b off cap vss q0 q1 q2 q3 q4 q5 q6 =>
  refine key false zwy63 ?_;have:(binOp .eql t (.slice (some ⟨b,off,none⟩) es.length cap) (.slice none 0 0)).run P w=.ok (.bool false) w:=by
   exact Lib.run_eql_slice_nil w t e _ _ _ _ _ (Zd htb hk)
  simp [execOp,hop,hxv,hyv,eqGuard,this]
end
end Go.Cg
namespace Go.Cg
structure Ty where
 kind:Int
 index:Int
 dims:Int
 ref:Bool
 deriving DecidableEq,Inhabited
structure TD where
 name:ByteArray
 flags:Int
 ext:Int
 faces:List Int
 deriving Inhabited
structure Fd where
 name:ByteArray
 owner:Int
 ty:Ty
 static:Bool
 deriving Inhabited
structure Ins where
 op:Int
 arg:Int
 t:Ty
 deriving Inhabited,DecidableEq
structure Cl where
 kind:Int
 tf:Int
 tt:Int
 hf:Int
 ht:Int
 filter:Int
 t:Ty
 deriving Inhabited,DecidableEq
structure Me where
 name:ByteArray
 owner:Int
 flags:Int
 params:List Ty
 ret:Ty
 locals:List Ty
 max:Int
 code:List Ins
 clauses:List Cl
 deriving Inhabited
structure Img where
 types:List TD
 fields:List Fd
 methods:List Me
 entry:Int
 deriving Inhabited
abbrev pi (n:Int):PV:=.base (.int .i64 n)
abbrev pb (b:Bool):PV:=.base (.bool b)
abbrev ps (s:ByteArray):PV:=.base (.string s)
def ints (l:List Int):PV:=.slc 1 (l.map pi) false
def yI (t:Ty):PV:=.agg [pi t.kind,pi t.index,pi t.dims,pb t.ref]
def tys (l:List Ty):PV:=.slc 4 (l.map yI) false
def Zw (t:TD):PV:=.agg [ps t.name,pi t.flags,pi t.ext,ints t.faces]
def ZI (f:Fd):PV:=.agg [ps f.name,pi f.owner,pi f.ty.kind,pi f.ty.index,pi f.ty.dims,pb f.ty.ref,pb f.static]
def yM (x:Ins):PV:=.agg [pi x.op,pi x.arg,pi x.t.kind,pi x.t.index,pi x.t.dims,pb x.t.ref]
def qR (c:Cl):PV:=.agg [pi c.kind,pi c.tf,pi c.tt,pi c.hf,pi c.ht,pi c.filter,pi c.t.kind,pi c.t.index,pi c.t.dims,pb c.t.ref]
def zY (m:Me):PV:=.agg [ps m.name,pi m.owner,pi m.flags,tys m.params,pi m.ret.kind,pi m.ret.index,pi m.ret.dims,pb m.ret.ref,tys m.locals,pi m.max,.slc 6 (m.code.map yM) false,.slc 10 (m.clauses.map qR) false]
def zK (g:Img):PV:=.agg [.slc 4 (g.types.map Zw) false,.slc 7 (g.fields.map ZI) false,.slc 12 (g.methods.map zY) false,pi g.entry]
theorem wrap_in {a:Int} (h1 : -9223372036854775808<=a) (h2:a<=9223372036854775807):IntKind.i64.wrap a=a:=by
 unfold IntKind.wrap;simp only [IntKind.bits,IntKind.signed];simp;split <;> omega
theorem qW {env env':Env} {t:Nat} {k:IntKind} {a b:Int} (h:env.get t=some (.pv (.base (.int k a)))) (e:a=b) (hs:Sub env env'):Sub env ((t,.pv (.base (.int k b)))::env'):=yA (by rw [h,e]) hs
theorem ziT {P:Program} {n:Nat} {g:Base} {x y:Code} {env:Env} {H:HEnv} {QQ:QC} {t:Nat} {b:Bool} (hc:env.get t=some (.pv (.base (.bool b)))) (hb:b=true) (h:AW P n g x env H QQ):AW P n g (.cond (.tmp t) x y) env H QQ:=by subst hb;exact zcJ hc h
theorem zfr {P:Program} {n:Nat} {g:Base} {x y:Code} {env:Env} {H:HEnv} {QQ:QC} {t:Nat} {b:Bool} (hc:env.get t=some (.pv (.base (.bool b)))) (hb:b=false) (h:AW P n g y env H QQ):AW P n g (.cond (.tmp t) x y) env H QQ:=by subst hb;exact zbM hc h
theorem zfE {P:Program} {n:Nat} {g:Base} {ops l:List Oper} {Q:Env->HEnv->Prop} {o:Oper} {env:Env} {H:HEnv} {t:Nat} {b:Bool} (c:Bool) (_:XR ops o=some t) (hb:env.get t=some (.pv (.base (.bool b)))) (hc:b=c)
  (h:AO P n g ops.toArray (o::l) ((t,.pv (.base (.bool c)))::env) H Q):AO P n g ops.toArray (o::l) env H Q:=⟨fun a w hi=>h.go a w (ziI hi hb hc)⟩
theorem zfi {P:Program} {n:Nat} {g:Base} {H:HEnv} {ops l:List Oper} {Q:Env->Prop} {o:Oper} {t:Nat} {env:Env} {b:Bool} (c:Bool) (_:XR ops o=some t) (hb:env.get t=some (.pv (.base (.bool b)))) (hc:b=c)
  (h:AD P n g H ops Q (o::l) ((t,.pv (.base (.bool c)))::env)):AD P n g H ops Q (o::l) env:=by
 subst hc;refine .case _ _ _ _ hb (fun e=>?_) (fun e=>?_) <;> (subst e;exact h)
theorem zu {P:Program} {n:Nat} {g:Base} {ops:Array Oper} {rest:List Oper} {env:Env} {H:HEnv} {Q:Env->HEnv->Prop} {d:Option Tmp} {ty:TypeId} {po:String} {af:Array Edge} {gu:Option (Nat × Bool)} {f:Operand} {xs:Array Operand} {ts:Array TypeId} (h:AO P n g ops (⟨d,.call ⟨.value f,xs,ts⟩,ty,po,af,gu⟩::rest) env H Q):AO P n g ops (⟨d,.call ⟨.value f,xs,ts⟩,ty,po,af,gu⟩::rest) env H Q:=h
theorem zoV {P:Program} {n:Nat} {g:Base} {ops rest:List Oper} {env:Env} {H:HEnv} {Q:Env->Prop} {d:Option Tmp} {ty:TypeId} {po:String} {af:Array Edge} {gu:Option (Nat × Bool)} {f:Operand} {xs:Array Operand} {ts:Array TypeId} (h:AD P n g H ops Q (⟨d,.call ⟨.value f,xs,ts⟩,ty,po,af,gu⟩::rest) env):AD P n g H ops Q (⟨d,.call ⟨.value f,xs,ts⟩,ty,po,af,gu⟩::rest) env:=h
theorem yj {P:Program} {n:Nat} {g:Base} {ops:Array Oper} {rest:List Oper} {env:Env} {H:HEnv} {Q:Env->HEnv->Prop} {d:Option Tmp} {ty:TypeId} {po:String} {af:Array Edge} {gu:Option (Nat × Bool)} {b:Builtin} {xs:Array Operand} {ts:Array TypeId} (h:AO P n g ops (⟨d,.call ⟨.builtin b,xs,ts⟩,ty,po,af,gu⟩::rest) env H Q):AO P n g ops (⟨d,.call ⟨.builtin b,xs,ts⟩,ty,po,af,gu⟩::rest) env H Q:=h
theorem zuq {P:Program} {n:Nat} {g:Base} {ops:Array Oper} {rest:List Oper} {env:Env} {H:HEnv} {Q:Env->HEnv->Prop} {d:Option Tmp} {ty:TypeId} {po:String} {af:Array Edge} {gu:Option (Nat × Bool)} {u:TypeId} {x i:Operand} (h:AO P n g ops (⟨d,.indexAddr u x i,ty,po,af,gu⟩::rest) env H Q):AO P n g ops (⟨d,.indexAddr u x i,ty,po,af,gu⟩::rest) env H Q:=h
theorem zuk {P:Program} {n:Nat} {g:Base} {ops rest:List Oper} {env:Env} {H:HEnv} {Q:Env->Prop} {d:Option Tmp} {ty:TypeId} {po:String} {af:Array Edge} {gu:Option (Nat × Bool)} {u:TypeId} {x i:Operand} (h:AD P n g H ops Q (⟨d,.indexAddr u x i,ty,po,af,gu⟩::rest) env):AD P n g H ops Q (⟨d,.indexAddr u x i,ty,po,af,gu⟩::rest) env:=h
theorem zm6 {P:Program} {n:Nat} {g:Base} {ops:Array Oper} {rest:List Oper} {env:Env} {H:HEnv} {Q:Env->HEnv->Prop} {d:Option Tmp} {ty:TypeId} {po:String} {af:Array Edge} {gu:Option (Nat × Bool)} {u:TypeId} {x i:Operand} (h:AO P n g ops (⟨d,.index u x i,ty,po,af,gu⟩::rest) env H Q):AO P n g ops (⟨d,.index u x i,ty,po,af,gu⟩::rest) env H Q:=h
theorem znh {P:Program} {n:Nat} {g:Base} {ops rest:List Oper} {env:Env} {H:HEnv} {Q:Env->Prop} {d:Option Tmp} {ty:TypeId} {po:String} {af:Array Edge} {gu:Option (Nat × Bool)} {u:TypeId} {x i:Operand} (h:AD P n g H ops Q (⟨d,.index u x i,ty,po,af,gu⟩::rest) env):AD P n g H ops Q (⟨d,.index u x i,ty,po,af,gu⟩::rest) env:=h
theorem Yb {P:Program} {n:Nat} {g:Base} {ops:Array Oper} {rest:List Oper} {env:Env} {H:HEnv} {Q:Env->HEnv->Prop} {d:Option Tmp} {ty:TypeId} {po:String} {af:Array Edge} {gu:Option (Nat × Bool)} {u:TypeId} {x y:Operand} (h:AO P n g ops (⟨d,.store u x y,ty,po,af,gu⟩::rest) env H Q):AO P n g ops (⟨d,.store u x y,ty,po,af,gu⟩::rest) env H Q:=h
theorem zg8 {P:Program} {n:Nat} {g:Base} {ops:Array Oper} {rest:List Oper} {env:Env} {H:HEnv} {Q:Env->HEnv->Prop} {d:Option Tmp} {ty:TypeId} {po:String} {af:Array Edge} {gu:Option (Nat × Bool)} {u:TypeId} (h:AO P n g ops (⟨d,.alloc u,ty,po,af,gu⟩::rest) env H Q):AO P n g ops (⟨d,.alloc u,ty,po,af,gu⟩::rest) env H Q:=h
theorem Xy {P:Program} {n:Nat} {g:Base} {ops:Array Oper} {rest:List Oper} {env:Env} {H:HEnv} {Q:Env->HEnv->Prop} {d:Option Tmp} {ty:TypeId} {po:String} {af:Array Edge} {gu:Option (Nat × Bool)} {u:TypeId} {x:Operand} (h:AO P n g ops (⟨d,.box u x,ty,po,af,gu⟩::rest) env H Q):AO P n g ops (⟨d,.box u x,ty,po,af,gu⟩::rest) env H Q:=h
theorem zwl {P:Program} {n:Nat} {g:Base} {ops:Array Oper} {l:List Oper} {env:Env} {H:HEnv} {Q:Env->HEnv->Prop} (h:AO P n g ops l env H Q):AO P n g ops l env H Q:=h
theorem zwB {P:Program} {n:Nat} {g:Base} {ops l:List Oper} {env:Env} {H:HEnv} {Q:Env->Prop} (h:AD P n g H ops Q l env):AD P n g H ops Q l env:=h
theorem zix {P:Program} {n:Nat} {g:Base} {c:Operand} {x y:Code} {env:Env} {H:HEnv} {QQ:QC} (h:AW P n g (.cond c x y) env H QQ):AW P n g (.cond c x y) env H QQ:=h
def zxY (env2:Env) (H2:HEnv) (QQ:QC):QC
 | .normal,env',H'=>Sub env' env2/\Qx H' H2 env2
 | e,env',H'=>QQ e env' H'
theorem Xo {P:Program} {n:Nat} {g:Base} {x y:Code} {env:Env} {H:HEnv} {QQ:QC} (env2:Env) (H2:HEnv) (h1:AW P n g x env H (zxY env2 H2 QQ)) (h2:AW P n g y env2 H2 QQ):AW P n g (.seq x y) env H QQ :=
 zlP (h1.mono fun e env' H' hq=>by
  cases e <;> first
   | exact ⟨fun a w hi=>h2.go a w ((hi.sub hq.1).hsub hq.2)⟩
   | exact hq)
theorem ze0 {env env':Env} {t:Nat} {a b:Bool} (h:env.get t=some (.pv (.base (.bool a)))) (e:a=b) (hs:Sub env env'):Sub env ((t,.pv (.base (.bool b)))::env'):=yA (by rw [h,e]) hs
theorem retq {tb:Tab} {rs:List ResultVar} {r:PV} {env:Env} {H:HEnv} {ps:List PV} (h:zan tb H env rs=some ps) (hr:zn ps=r):zsK tb rs r .ret env H:=⟨.inr rfl,env,.refl env,ps,h,hr⟩
theorem ak {tb:Tab} {rs:List ResultVar} {r:PV} {env:Env} {H:HEnv} {ps:List PV} (hr:zn ps=r) (h:zan tb H env rs=some ps:=by exact rfl):zsK tb rs r .ret env H:=retq h hr
theorem Yi {tb:Tab} {rs:List ResultVar} {r:PV} {env:Env} {H:HEnv} {ps:List PV} (h:zan tb H env rs=some ps) (hr:zn ps=r):zsK tb rs r .normal env H:=⟨.inl rfl,env,.refl env,ps,h,hr⟩
theorem zbV {tb:Tab} {rs:List ResultVar} {r:PV} {env:Env} {H:HEnv} {ps:List PV} {t:Nat} {a b:AV} (he:env.get t=some a) (ht:Tells a b) (h:zan tb H ((t,b)::env) rs=some ps) (hr:zn ps=r):zsK tb rs r .ret env H:=⟨.inr rfl,_,.one he ht,ps,h,hr⟩
theorem zu7 {P:Program} {n:Nat} {g:Base} {H:HEnv} {ops l:List Oper} {Q:Env->Prop} {o:Oper} {t:Nat} {env:Env} {b:Bool} (_:XR ops o=some t) (hb:env.get t=some (.pv (.base (.bool b))))
  (h1:b=true->AD P n g H ops Q (o::l) ((t,.pv (.base (.bool true)))::env)) (h2:b=false->AD P n g H ops Q (o::l) ((t,.pv (.base (.bool false)))::env)):AD P n g H ops Q (o::l) env:=.case _ _ _ _ hb h1 h2
theorem XQ (a b:Ty):(a.kind==b.kind&&(a.index==b.index&&(a.dims==b.dims&&(a.ref==b.ref&&true))))=decide (a=b):=by
 obtain ⟨a1,a2,a3,a4⟩:=a;obtain ⟨b1,b2,b3,b4⟩:=b;simp [Ty.mk.injEq,Bool.beq_eq_decide_eq,<-Bool.decide_and]
theorem sA {Q P:Prop} (k:Q) (h:Q->P:=by
  intro k;first
  | (refine Yb ?_;first|exact zoA zf rfl rfl rfl rfl rfl rfl rfl rfl rfl k)
  | (refine zg8 ?_;first|exact ZU zf 0 rfl rfl rfl rfl rfl rfl rfl k|exact ZU zf 1 rfl rfl rfl rfl rfl rfl rfl k|exact ZU zf 2 rfl rfl rfl rfl rfl rfl rfl k|exact ZU zf 3 rfl rfl rfl rfl rfl rfl rfl k|exact ZU zf 4 rfl rfl rfl rfl rfl rfl rfl k|exact ZU zf 5 rfl rfl rfl rfl rfl rfl rfl k)
  | (refine zwl ?_;first|exact zqe zf rfl rfl rfl rfl k|exact zp1 k|exact zqy rfl rfl rfl k|(refine zfE true rfl rfl ?_ k;(assumption))|(refine zfE false rfl rfl ?_ k;(assumption)))
  | (refine zwB ?_;first|exact zq rfl (zd3 zf rfl) rfl rfl k|exact AD.nil _ k|exact AD.skip _ _ _ _ rfl rfl rfl k|(refine zfi true rfl rfl ?_ k;(assumption))|(refine zfi false rfl rfl ?_ k;(assumption)))
  | exact zlP k|exact zki k|exact znG k
  | (refine zix ?_;first|exact zcJ rfl k|exact zbM rfl k|(refine ziT rfl ?_ k;(assumption))|(refine zfr rfl ?_ k;(assumption)))
  | exact zqQ k|exact zqJ k|exact zh4 k|exact zqm zws zws k|fail):P:=h k
theorem sK {Q P:Prop} (k:Q) (h:Q->P:=by
  intro k;first
  | (refine Yb ?_;first|exact zoA zf rfl rfl rfl rfl rfl rfl rfl rfl rfl k)
  | (refine zg8 ?_;first|exact ZU zf 0 rfl rfl rfl rfl rfl rfl rfl k|exact ZU zf 1 rfl rfl rfl rfl rfl rfl rfl k|exact ZU zf 2 rfl rfl rfl rfl rfl rfl rfl k|exact ZU zf 3 rfl rfl rfl rfl rfl rfl rfl k|exact ZU zf 4 rfl rfl rfl rfl rfl rfl rfl k|exact ZU zf 5 rfl rfl rfl rfl rfl rfl rfl k)
  | (refine zwl ?_;first|exact zqe zf rfl rfl rfl rfl k|exact zp1 k|exact zqy rfl rfl rfl k|(refine zfE true rfl rfl ?_ k;(first|assumption|(simp <;> omega)))|(refine zfE false rfl rfl ?_ k;(first|assumption|(simp <;> omega))))
  | (refine zwB ?_;first|exact zq rfl (zd3 zf rfl) rfl rfl k|exact AD.nil _ k|exact AD.skip _ _ _ _ rfl rfl rfl k|(refine zfi true rfl rfl ?_ k;(first|assumption|(simp <;> omega)))|(refine zfi false rfl rfl ?_ k;(first|assumption|(simp <;> omega))))
  | exact zlP k|exact zki k|exact znG k
  | (refine zix ?_;first|exact zcJ rfl k|exact zbM rfl k|(refine ziT rfl ?_ k;(first|assumption|(simp <;> omega)))|(refine zfr rfl ?_ k;(first|assumption|(simp <;> omega))))
  | exact zqQ k|exact zqJ k|exact zh4 k|exact zqm zws zws k|fail):P:=h k
theorem sC {P A B C D:Prop} (x:A->B) (y:C->D) (h:(A->B)->(C->D)->P:=by
  intro x y;first|exact zvk rfl rfl x y|exact zu7 rfl rfl x y|exact zvi rfl x y|fail):P:=h x y
theorem shC {Q P:Prop} (k:Q) (h:Q->P:=by intro k;first|exact zu k|exact zoV k|fail):P:=h k
theorem shX {Q P:Prop} (k:Q) (h:Q->P:=by intro k;first|exact zuq k|exact zuk k|fail):P:=h k
theorem shI {Q P:Prop} (k:Q) (h:Q->P:=by intro k;first|exact zm6 k|exact znh k|fail):P:=h k
theorem qC {Q P C:Prop} (c:C) (k:Q) (h:C->Q->P:=by intro c k;first|exact zy rfl (zJ rfl rfl c) rfl rfl k|exact zq rfl (zJ rfl rfl c) rfl rfl k|fail):P:=h c k
theorem qV {Q P C:Prop} (c:C) (k:Q) (h:C->Q->P:=by intro c k;first|exact zy rfl (zqp rfl rfl rfl c) rfl rfl k|exact zq rfl (zqp rfl rfl rfl c) rfl rfl k|fail):P:=h c k
theorem qX {Q P E:Prop} (e:E) (k:Q) (h:E->Q->P:=by intro he k;first|exact zy rfl (zk zf rfl rfl rfl rfl rfl rfl zwy62 he) rfl rfl k|exact zq rfl (zk zf rfl rfl rfl rfl rfl rfl zwy62 he) rfl rfl k|fail):P:=h e k
theorem tS {P:Prop} (h:P:=by repeat (first|exact yO|refine yA rfl ?_|(refine qW rfl ?_ ?_;· (first|(rw [wrap_in zwy62 zwy62] <;> omega)|(dsimp only;rw [wrap_in zwy62 zwy62] <;> omega)|(simp;done))))):P:=h
theorem tH {A:Prop} {α:Type} {x y:α} (h:A:=by repeat (first|exact zC|refine aB ?_)) (e:x=y:=by rfl):A/\x=y:=⟨h,e⟩
theorem tD {P:Prop} (h:P:=by dsimp only;omega):P:=h
end Go.Cg
namespace Go.Cg
open Go.RowKit
structure ACallR (P:Program) (f:FuncId) (args:List PV) (e:TypeId) (sz:Nat) (es:List PV):Prop where
 stands:zaY P f
 calls:∀ (K:KK) (w:World) (vs:List Value),(∀ b o,K b o->b < w.heap.size)->PRels K w args vs ->
  Calls P f vs.toArray w fun ex w'=>∃ v K' xs,ex=.returned v/\Evo K K' w w'/\w'.ownsRow w.heap.size e sz v es.length xs/\CellsRel K' w' sz es xs/\(∀ b,v.ownBlock=some b->∀ o,K' b o↔o < es.length * sz)
section
variable {P:Program} {tb:Tab} {n:Nat} {g:Base} {H:HEnv} {env:Env} {ops:List Oper} {o:Oper} {rest:List Oper} {Q:Env->HEnv->Prop}
theorem zjJ {w:World} {B B':Nat} {e:TypeId} {sz:Nat} {v:Value} {n:Nat} {xs:List Value} (hB:B'<=B) (h:w.ownsRow B e sz v n xs):w.ownsRow B' e sz v n xs:=by
 obtain ⟨h1,h2⟩:=h;refine ⟨h1,h2.imp id ?_⟩;rintro ⟨g,cap,cur,a,b,c⟩;exact ⟨g,cap,cur,a,Nat.le_trans hB b,c⟩
theorem zdj {xs:Array Operand} {ts:Array TypeId} {f:FuncId} {args es:List PV} {e:TypeId} {sz t:Nat} (i:Nat) (hg:guardE ops env o=some true) (hop:o.op=.call { callee:=.value (.func f),args:=xs,argTypes:=ts }) (hargs:pvs env H xs.toList=some args)
  (hc:ACallR P f args e sz es) (h0:0 < sz) (hi:H.get i=none) (hd:o.dst=some t) (ht:Nat.blt t n=true)
  (h:AO P n g ops.toArray rest ((t,.own i)::env) ((i,.row e sz es)::H) Q):AO P n g ops.toArray (o::rest) env H Q:=by
 refine ⟨fun a w hinv=>?_⟩;have hw:=qx hinv hg;obtain ⟨h1,h2,K,ρ,hf,he⟩:=hinv;refine wpList_step fun KK hKK=>?_
 rw [if_pos hw];have hp:=zdY hf (a:=a) (xs:=xs.toList) (fun x hx av hxx=>qO he hxx) hargs;have hrun:(execOp a.eval o).run P w=.ok (.enter f (xs.toList.map a.eval).toArray) w:=by
  have e:(xs.toList.map a.eval).toArray=xs.map a.eval:=by rw [<-Array.toList_map,Array.toArray_toList]
  rw [e];simp [execOp,hop,resolve,Act.eval,Deferred.ofValue,invoke,ZL hc.stands]
 unfold Oper.wp;rw [hrun];simp only [Oper.upon];refine (hc.calls K w _ hf.lt hp).mono ?_;rintro ex w'' ⟨v,K',us,rfl,hev,hown,hcr,hk⟩;have hlow:=zjJ hf.below.size hown;refine hKK _ _ (h.go _ _ ⟨Zy h1,put_defers h2,K',fun j=>if j=i then v else ρ j,hf.fresh hev hi ⟨us,by simpa using hlow,h0,hcr,by simpa using hk⟩ ?_,?_⟩)
 ·intro b hb;refine (hown.lt b ?_).1;rcases hown.2 with ⟨rfl,_⟩|⟨g,_,_,rfl,_⟩
  ·simp [yE] at hb
  ·simpa [yE,Value.ownBlock] using hb
 ·rw [hd];refine Yg h1 ht (he.keeps (hev.later hf.lt) (Zg hi _ _)) ?_;have:=ARel.own (K:=K') (w:=w'') (ρ:=fun j=>if j=i then v else ρ j) (H:=(i,HE.row e sz es)::H) i zwy81;simpa using this
theorem zkd (htb:yZ P tb) {t e d:Nat} {parts:Array (Nat × Operand)} (i:Nat) (hg:guardE ops env o=some true) (hop:o.op=.buildSlice t 0 parts) (hp:parts=#[]) (hk:tb.k t=.sl e) (hke:tb.known e=true) (hsz:Nat.blt 0 (tb.size e)=true) (hi:H.get i=none) (hd:o.dst=some d) (ht:Nat.blt d n=true)
  (h:AO P n g ops.toArray rest ((d,.own i)::env) ((i,.row e (tb.size e) [])::H) Q):AO P n g ops.toArray (o::rest) env H Q:=by
 refine ⟨fun a w hinv=>?_⟩;have hw:=qx hinv hg;obtain ⟨h1,h2,K,ρ,hf,he⟩:=hinv;refine wpList_step fun KK hKK=>?_
 rw [if_pos hw];subst hp;have hko:tb.k e≠.oth:=by intro h;simp [Tab.known,h] at hke
 have hs:=run_sizeOf htb hko w;have hrun:(execOp a.eval o).run P w=.ok (.value (.slice (some ⟨w.heap.size,0,none⟩) 0 0)) (w.alloc (.cells #[] e)):=by
  have e0:Array.range 0=#[]:=Array.eq_empty_of_size_eq_zero zwy63;simp [execOp,hop,Instr.buildSlice,run_underlying (Zd htb hk),hs,Instr.fill,newRow,e0]
 unfold Oper.wp;rw [hrun];simp only [Oper.upon];have hev:Evo K K w (w.alloc (.cells #[] e)):=⟨(Below.refl _ _).alloc (Nat.le_refl _) _,fun _ _ h=>h,fun _ _ h=>.inl h,fun b o h=>by have:=hf.lt b o h;simp;omega⟩
 refine hKK _ _ (h.go _ _ ⟨Zy h1,put_defers h2,K,fun j=>if j=i then .slice (some ⟨w.heap.size,0,none⟩) 0 0 else ρ j,hf.fresh hev hi ⟨[],⟨by simp,.inr ⟨w.heap.size,0,#[],by simp,hf.below.size,heap_alloc_new w _,Nat.le_refl _,by simp [maxLen],by simp,by simp⟩⟩,Nat.le_of_ble_eq_true hsz,fun i e h=>by simp at h,?_⟩ zwy113,?_⟩)
 ·intro b hb o;simp [Value.ownBlock] at hb;subst hb;refine ⟨fun h=>?_,fun h=>by simp at h⟩;have:=hf.lt _ _ h;omega
 ·rw [hd];refine Yg h1 ht (he.keeps (hev.later hf.lt) (Zg hi _ _)) ?_;have:=ARel.own (K:=K) (w:=w.alloc (.cells #[] e)) (ρ:=fun j=>if j=i then .slice (some ⟨w.heap.size,0,none⟩) 0 0 else ρ j) (H:=(i,HE.row e (tb.size e) [])::H) i zwy81;simpa using this
def zxV (t:Nat) (e:TypeId) (sz:Nat) (es:List PV):QC:=fun ex env H=>(ex=.normal\/ex=.ret)/\∃ i,env.get t=some (.own i)/\H.get i=some (.row e sz es)
theorem zeV {fn:Func} {c:Code} {f:FuncId} {args:List PV} {t:Nat} {e:TypeId} {sz:Nat} {es:List PV} (hf:P.funcs[f]?=some fn) (hb:fn.body=some c) (hn:(fn.name == "runtime.NumGoroutine")=false) (hnt:fn.ntmps=n) (hargs:args.length<=n)
  (hrs:fn.results.toList=[.tmp t]) (h:lensOk args->∀ g:Base,Plain g->AW P n g c (zhm 0 args) [] (zxV t e sz es)):ACallR P f args e sz es:=by
 refine ⟨⟨fn,hf,by simp [hb],hn⟩,fun K w vs hl hv=>?_⟩;refine calls_of_wp hf hb ?_;have hlen:vs.length=args.length:=hv.1;refine wp_mono (wpIn_wide.1 ((h hv.lensOk (Base.of w K (bare w) []) ⟨rfl,hl⟩).go _ w ⟨by simp [hnt];omega,rfl,K,fun _=>undef,⟨.refl _ _,fun _ _ h=>h,fun _ _ h=>.inl h,hl,VQ _ _,.base,.none _ _,⟨by simp [HEnv.get_nil,HEnv.get_cons],by simp [HEnv.get_nil,HEnv.get_cons]⟩⟩,?_⟩ none 0)) ?_
 ·intro t av hg;obtain ⟨_,p,hp,rfl⟩:=zbX args 0 t av hg;have hlt:t < vs.length:=by rw [hlen];exact (List.getElem?_eq_some_iff.1 hp).1
  refine ⟨vs[t],?_,.pv _ _ (hv.2 t p _ hp (List.getElem?_eq_getElem hlt))⟩;rw [Array.getElem?_append_left zwy80];simp [hlt]
 ·rintro ex a' w' ⟨env1,H',hi,he,i,hgi,hHi⟩;obtain ⟨_,h2,K',ρ',hf',he0⟩:=hi;obtain ⟨v,v1,v2⟩:=he0 t _ hgi;cases v2;obtain ⟨xs,hown,hsz,hcr,hk⟩:=hf'.heap.ok i _ hHi;have hev:Evo K K' w w':=⟨hf'.below,hf'.old,hf'.new,hf'.lt⟩
  have hres:(results fn a'.tmps).run P w'=.ok (ρ' i) w':=by
   unfold results;rw [Array.mapM_eq_mapM_toList,hrs];simp [Array.getD_eq_getD_getElem?,v1]
  rcases he with rfl|rfl
  ·exact ⟨h2,_,hres,_,K',xs,rfl,hev,hown,hcr,hk⟩
  ·exact ⟨h2,_,hres,_,K',xs,rfl,hev,hown,hcr,hk⟩
end
end Go.Cg
namespace Go.Cg
open Go.RowKit Go.Maps Go.WideElems
def qP (us:Nat->Value):Nat->Env->HEnv
 | _,[]=>[]
 | b,(t,av)::e=>(b,.pin av (us t))::qP us (b + 1) e
def zog:Env->Bool
 | []=>true
 | (t,_)::e=>(Env.get e t).isNone&&zog e
def zfa (b:Nat):HEnv->Bool
 | []=>true
 | (i,_)::e=>Nat.blt i b&&zfa b e
theorem get_append {H G:HEnv} {i:Nat}:HEnv.get (H++G) i=match HEnv.get H i with|some h=>some h|none=>HEnv.get G i:=by
 induction H with
 | nil=>rfl
 | cons x H ih =>
  obtain ⟨j,h⟩:=x;rw [List.cons_append,HEnv.get_cons,HEnv.get_cons];split
  ·rfl
  ·exact ih
theorem zdL {b:Nat}:∀ {H:HEnv},zfa b H=true->∀ i h,H.get i=some h->i < b
 | [],_,i,h,hg=>by simp [HEnv.get_nil] at hg
 | (j,x)::e,hi,i,h,hg=>by
  simp only [zfa,Bool.and_eq_true] at hi;rw [HEnv.get_cons] at hg;split at hg
  ·rename_i e';subst e';exact Nat.le_of_ble_eq_true hi.1
  ·exact zdL hi.2 i h hg
theorem zbh {us:Nat->Value}:∀ {e:Env} {b i:Nat} {h:HE},HEnv.get (qP us b e) i=some h->b<=i/\∃ t av,(t,av)∈e/\h=.pin av (us t)
 | [],b,i,h,hg=>by simp [qP,HEnv.get_nil] at hg
 | (t,av)::e,b,i,h,hg=>by
  rw [qP,HEnv.get_cons] at hg;split at hg
  ·rename_i e';subst e';simp only [Option.some.injEq] at hg;subst hg;exact ⟨Nat.le_refl _,t,av,by simp,rfl⟩
  ·obtain ⟨h1,t',av',h2,h3⟩:=zbh hg;exact ⟨by omega,t',av',by simp [h2],h3⟩
theorem zih {us:Nat->Value}:∀ {e:Env} {b:Nat} {t:Nat} {av:AV},(t,av)∈e->∃ i,b<=i/\HEnv.get (qP us b e) i=some (.pin av (us t))
 | [],b,t,av,h=>by simp at h
 | (t',av')::e,b,t,av,h=>by
  simp only [List.mem_cons,Prod.mk.injEq] at h;rcases h with ⟨rfl,rfl⟩|h
  ·exact ⟨b,Nat.le_refl _,by rw [qP,HEnv.get_cons,if_pos rfl]⟩
  ·obtain ⟨i,h1,h2⟩:=zih (b:=b + 1) h;exact ⟨i,by omega,by rw [qP,HEnv.get_cons,if_neg zwy62];exact h2⟩
theorem zhH:∀ {e:Env} {t:Nat} {av:AV},e.get t=some av->(t,av)∈e
 | [],t,av,h=>by simp [Env.get_nil] at h
 | (t',av')::e,t,av,h=>by
  rw [Env.get_cons] at h;split at h
  ·rename_i e';subst e';simp only [Option.some.injEq] at h;subst h;simp
  ·simp [zhH h]
theorem zeK:∀ {e:Env},zog e=true->∀ {t:Nat} {av:AV},(t,av)∈e->e.get t=some av
 | [],_,t,av,h=>by simp at h
 | (t',av')::e,hn,t,av,h=>by
  simp only [zog,Bool.and_eq_true,Option.isNone_iff_eq_none] at hn;rw [Env.get_cons];simp only [List.mem_cons,Prod.mk.injEq] at h;rcases h with ⟨rfl,rfl⟩|h
  ·simp
  ·have:=zeK hn.2 h;split
   ·rename_i e';subst e';rw [hn.1] at this;cases this
   ·exact this
def Qh (K:KK) (w:World) (ρ:Nat->Value) (H:HEnv) (ars:List AV) (vs:List Value):Prop :=
 vs.length=ars.length/\∀ (k:Nat) (c:AV) (v:Value),ars[k]?=some c->vs[k]?=some v->ARel K w ρ H c v
structure ACallH (P:Program) (f:FuncId) (args:List AV) (H H':HEnv):Prop where
 stands:zaY P f
 calls:∀ (g:Base) (K:KK) (ρ:Nat->Value) (w:World) (vs:List Value),Plain g->FS g K ρ H w->Qh K w ρ H args vs ->
  Calls P f vs.toArray w fun e w'=>∃ K' ρ',e=.returned (.tuple #[])/\FS g K' ρ' H' w'
def WM:Nat->List AV->Env
 | _,[]=>[]
 | k,p::ps=>(k,p)::WM (k + 1) ps
def zxT (H':HEnv):QC:=fun ex _ H=>(ex=.normal\/ex=.ret)/\Qx H H' []
section
variable {P:Program} {tb:Tab} {n:Nat} {g:Base} {K:KK} {w:World} {ρ:Nat->Value} {H H':HEnv} {env:Env} {a:Act} {ops:List Oper} {o:Oper} {rest:List Oper} {Q:Env->HEnv->Prop} {f:FuncId} {args:List AV}
theorem Vu:∀ (ps:List AV) (k t:Nat) (av:AV),(WM k ps).get t=some av->k<=t/\ps[t - k]?=some av
 | [],k,t,av,h=>by simp [WM,Env.get_nil] at h
 | p::ps,k,t,av,h=>by
  simp only [WM,Env.get_cons] at h;split at h
  ·rename_i e;subst e;simp only [Option.some.injEq] at h;exact ⟨Nat.le_refl _,by simp [h]⟩
  ·obtain ⟨h1,h2⟩:=Vu ps (k + 1) t av h;refine ⟨by omega,?_⟩;rw [show t - k=(t - (k + 1)) + 1 by omega];simpa using h2
theorem zlh {fn:Func} {c:Code} (hf:P.funcs[f]?=some fn) (hb:fn.body=some c) (hn:(fn.name == "runtime.NumGoroutine")=false) (hnt:fn.ntmps=n) (hargs:args.length<=n) (hrs:fn.results=#[])
  (h:∀ g:Base,Plain g->AW P n g c (WM 0 args) H (zxT H')):ACallH P f args H H':=by
 refine ⟨⟨fn,hf,by simp [hb],hn⟩,fun g0 K ρ w vs hw1 hfs0 hv=>?_⟩;obtain ⟨g,hg0⟩:∃ g:Base,g=⟨g0.w0,g0.K0,g0.w1,[],g0.wp,g0.pr⟩:=⟨_,rfl⟩
 have hfs:FS g K ρ H w:=by subst hg0;exact ⟨hfs0.below,hfs0.old,hfs0.new,hfs0.lt,hfs0.others,⟨hfs0.pt.same,hfs0.pt.kept⟩,hfs0.away,hfs0.heap⟩
 refine calls_of_wp hf hb ?_;have hlen:vs.length=args.length:=hv.1;refine wp_mono (wpIn_wide.1 ((h g (by subst hg0;exact hw1)).go _ w ⟨by simp [hnt];omega,by subst hg0;rfl,K,ρ,hfs,?_⟩ none 0)) ?_
 ·intro t av hg;obtain ⟨_,hp⟩:=Vu args 0 t av hg;have hlt:t < vs.length:=by rw [hlen];exact (List.getElem?_eq_some_iff.1 hp).1
  refine ⟨vs[t],?_,hv.2 t av _ hp (List.getElem?_eq_getElem hlt)⟩;rw [Array.getElem?_append_left zwy80];simp [hlt]
 ·rintro e a' w' ⟨env1,H1,hi,he,hfit⟩;have hi2:Inv n g [] H' a' w':=(hi.sub yO).hsub hfit;obtain ⟨_,h2,K',ρ',hf1,_⟩:=hi2;subst hg0;have hf':FS g0 K' ρ' H' w':=⟨hf1.below,hf1.old,hf1.new,hf1.lt,hf1.others,⟨hf1.pt.same,hf1.pt.kept⟩,hf1.away,hf1.heap⟩
  have hres:(results fn a'.tmps).run P w'=.ok (.tuple #[]) w':=by
   unfold results;rw [hrs,Array.mapM_eq_mapM_toList];rfl
  rcases he with rfl|rfl
  ·exact ⟨h2,_,hres,K',ρ',rfl,hf'⟩
  ·exact ⟨h2,_,hres,K',ρ',rfl,hf'⟩
def avs (env:Env):List Operand->Option (List AV)
 | []=>some []
 | x::xs=>match env.val x,avs env xs with|some v,some vs=>some (v::vs)|_,_=>none
theorem zbB (he:EnvR K w ρ H env a.tmps):∀ {xs:List Operand} {ars:List AV},avs env xs=some ars->Qh K w ρ H ars (xs.map a.eval)
 | [],ars,h=>by simp [avs] at h;subst h;exact ⟨rfl,fun k c v h=>by simp at h⟩
 | x::xs,ars,h=>by
  simp only [avs] at h;split at h
  ·rename_i v vs h1 h2;simp only [Option.some.injEq] at h;subst h;obtain ⟨l1,l2⟩:=zbB he h2;refine ⟨by simpa using l1,fun k c u hc hu=>?_⟩;cases k with
   | zero=>simp at hc hu;subst hc hu;exact qO he h1
   | succ k=>simp at hc hu;exact l2 k c u hc (by simpa using hu)
  ·cases h
theorem ZX {G:HEnv} (j:Nat) (h:(H.get j).isSome=true):(HEnv.get (H++G) j).isSome=true:=by
 rw [get_append];cases hh:H.get j with
 | none=>simp [hh] at h
 | some x=>rfl
theorem znF {t d:Tmp} {xs:Array Operand} {ts:Array TypeId} {first cap ars:List AV} (env2:Env) (H':HEnv) (b:Nat) (hw1:Plain g) (hg:guardE ops env o=some true) (hop:o.op=.call { callee:=.value (.tmp t),args:=xs,argTypes:=ts })
  (ht:env.get t=some (.fn (.func f) first cap)) (hargs:avs env xs.toList=some ars) (hs:Sub env env2) (hnd:zog env2=true) (hb:zfa b H=true) (hb':zfa b H'=true)
  (hfit:(Xi H' env2&&hIn H' H')=true) (hd:o.dst=some d) (hdt:Nat.blt d n=true)
  (hc:∀ us,ACallH P f (first++ars++cap) (H++qP us b env2) (H'++qP us b env2))
  (h:AO P n g ops.toArray rest ((d,.pv (.tup []))::env2) H' Q):AO P n g ops.toArray (o::rest) env H Q:=by
 refine ⟨fun a w hinv=>?_⟩;have hw:=qx hinv hg;have hinv2:=hinv.sub hs;obtain ⟨h1,h2,K,ρ,hf,he⟩:=hinv;have he2:EnvR K w ρ H env2 a.tmps:=fun t av ht=>he t av (hs t av ht)
 refine wpList_step fun KK hKK=>?_
 rw [if_pos hw];let us:Nat->Value:=fun t=>a.tmps.getD t undef
 have hus:∀ t av,(t,av)∈env2->ARel K w ρ H av (us t):=by
  intro t av hm;obtain ⟨v,v1,v2⟩:=he2 t av (zeK hnd hm);have:us t=v:=by simp [us,Array.getD_eq_getD_getElem?,v1]
  rw [this];exact v2
 have hlat:Later K K w w:=.refl K w;have hk:∀ j,(H.get j).isSome=true->(HEnv.get (H++qP us b env2) j).isSome=true/\ρ j=ρ j:=fun j hj=>⟨ZX j hj,rfl⟩
 have hfs:FS g K ρ (H++qP us b env2) w:=by
  have e1:∀ i x,HEnv.get (H++qP us b env2) i=some x->x.live=true->H.get i=some x:=by
   intro i x hi hl;rw [get_append] at hi;cases hh:H.get i with
   | some z=>rw [hh] at hi;exact hi
   | none =>
    rw [hh] at hi;obtain ⟨_,t,av,hm,rfl⟩:=zbh hi;simp [HE.live] at hl
  refine ⟨hf.below,hf.old,hf.new,hf.lt,hf.others,hf.pt,fun i h bb hi hl=>hf.away i h bb (e1 i h hi hl) hl,?_,?_⟩
  ·intro i e hi;rw [get_append] at hi;cases hh:H.get i with
   | some x=>rw [hh] at hi;simp only [Option.some.injEq] at hi;subst hi;exact (hf.heap.ok i _ hh).keeps (.refl hf.lt) hf.lt hk
   | none =>
    rw [hh] at hi;obtain ⟨_,t,av,hm,rfl⟩:=zbh hi;exact (hus t av hm).keeps hlat hk
  ·intro i j x y bb hij hi hj lx ly bx bby;have e1:∀ i x,HEnv.get (H++qP us b env2) i=some x->x.live=true->H.get i=some x:=by
    intro i x hi hl;rw [get_append] at hi;cases hh:H.get i with
    | some z=>rw [hh] at hi;exact hi
    | none =>
     rw [hh] at hi;obtain ⟨_,t,av,hm,rfl⟩:=zbh hi;simp [HE.live] at hl
   exact hf.heap.apart i j x y bb hij (e1 i x hi lx) (e1 j y hj ly) lx ly bx bby
 have hfn:=qO he (x:=.tmp t) ht;generalize hfv:a.eval (.tmp t)=fv at hfn;cases hfn with
 | fn _ _ _ vf vc f1 f2 f3 f4 =>
  have hpa:=zbB (a:=a) he hargs;have hall:Qh K w ρ (H++qP us b env2) (first++ars++cap) (vf++xs.toList.map a.eval++vc):=by
   refine ⟨by have:=hpa.1;simp at this;simp [f1,f2,this],fun k c v hc hv=>?_⟩;have:ARel K w ρ H c v:=by
    rw [List.append_assoc,List.getElem?_append] at hc hv;split at hc
    ·rename_i hl;rw [if_pos zwy62] at hv;exact f3 k c v hc hv
    ·rename_i hl;rw [if_neg zwy62] at hv;rw [f1] at hv;rw [List.getElem?_append] at hc hv;have e:(xs.toList.map a.eval).length=ars.length:=hpa.1;split at hc
     ·rename_i hl2;rw [if_pos zwy62] at hv;exact hpa.2 _ c v hc hv
     ·rename_i hl2;rw [if_neg zwy62,e] at hv;exact f4 _ c v hc hv
   exact this.keeps hlat hk
  have hrun:(execOp a.eval o).run P w=.ok (.enter f (vf++xs.toList.map a.eval++vc).toArray) w:=by
   have e:(vf++xs.toList.map a.eval++vc).toArray=vf.toArray++xs.map a.eval++vc.toArray:=by
    rw [show xs.map a.eval=(xs.toList.map a.eval).toArray by rw [<-Array.toList_map,Array.toArray_toList]];simp
   rw [e];simp [execOp,hop,resolve,hfv,Deferred.ofValue,invoke,ZL (hc us).stands]
  unfold Oper.wp;rw [hrun];simp only [Oper.upon];refine ((hc us).calls g K ρ w _ hw1 hfs hall).mono fun e w'' ⟨K',ρ',e1,hfs'⟩=>?_
  subst e1;have hinv':Inv n g env2 (H'++qP us b env2) a w'':=by
   refine ⟨h1,h2,K',ρ',hfs',fun t av ht=>?_⟩;obtain ⟨i,hi1,hi2⟩:=zih (us:=us) (b:=b) (zhH ht);have hno:H'.get i=none:=by
    cases hh:H'.get i with
    | none=>rfl
    | some x=>have:=zdL hb' i x hh;omega
   have hget:HEnv.get (H'++qP us b env2) i=some (.pin av (us t)):=by rw [get_append,hno];exact hi2
   have hrel:=hfs'.heap.ok i _ hget;obtain ⟨v,v1,_⟩:=he2 t av ht;have:us t=v:=by simp [us,Array.getD_eq_getD_getElem?,v1]
   exact ⟨v,v1,by rw [<-this];exact hrel⟩
  have hinv3:Inv n g env2 H' a w'':=hinv'.hsub ⟨fun i x hi=>by rw [get_append,hi],hfit⟩;obtain ⟨q1,q2,K3,ρ3,q3,q4⟩:=hinv3;refine hKK _ _ (h.go _ _ ⟨Zy q1,put_defers q2,K3,ρ3,q3,?_⟩);rw [hd];exact Yg q1 hdt q4 (.pv _ _ (.tup [] [] rfl zwy63))
end
end Go.Cg
namespace Go.Cg
open Go.RowKit
section
variable {P:Program} {tb:Tab} {n:Nat} {g:Base} {H:HEnv} {env:Env} {ops:List Oper} {o:Oper} {rest:List Oper} {Q:Env->HEnv->Prop}
theorem zdg {a:Act} {K:KK} {w:World} {ρ:Nat->Value} {ty e:TypeId} {x y:Operand} {sz:Nat} {es xs:List PV} {full:Bool} (i:Nat) (htb:yZ P tb) (hop:o.op=.call { callee:=.builtin .append,args:=#[x,y],argTypes:=#[ty,ty] }) (hk:tb.k ty=.sl e)
  (hx:env.pv H x=some (.slc sz es true)\/(es=[]/\env.pv H x=some (.base (.slice none 0 0)))) (hy:env.pv H y=some (.slc sz xs full)) (hx0:0 < xs.length)
  (hzz:(match tb.get e with|some ti=>(match ti.zero with|some z=>ti.size==sz&&z.cells.size==sz&&Nat.blt 0 sz|none=>false)|none=>false)=true)
  (hbound:(es.length + xs.length) * (match tb.get e with|some ti=>ti.bytes|none=>0)<=140737488355328) (hb2:es.length + xs.length<=140737488355328) (hi:H.get i=none)
  (hf:FS g K ρ H w) (hv:∀ z∈o.op.operands,∀ av,env.val z=some av->ARel K w ρ H av (a.eval z)) :
  ∃ v' w' K',(execOp a.eval o).run P w=.ok (.value v') w'/\Later K K' w w'/\FS g K' (fun j=>if j=i then v' else ρ j) ((i,.row e sz (es++xs))::H) w':=by
 have hvx:∀ av,env.val x=some av->ARel K w ρ H av (a.eval x):=hv x zwy70;have hvy:∀ av,env.val y=some av->ARel K w ρ H av (a.eval y):=hv y zwy70;cases hti:tb.get e with
 | none=>simp [hti] at hzz
 | some ti =>
  cases hz:ti.zero with
  | none=>simp [hti,hz] at hzz
  | some z =>
   simp only [hti,hz,Bool.and_eq_true,beq_iff_eq] at hzz hbound;obtain ⟨⟨z1,z2⟩,z3⟩:=hzz;have hsz:0 < sz:=Nat.le_of_ble_eq_true z3;obtain ⟨tin,q1,q2,q3,q4,_⟩:=Ym htb hti;have hyr:=qy (a:=a) hf (x:=y) hvy hy;obtain ⟨news,n1,n2,n3,n4,n5⟩:=WV hyr;have hxr:PRel K w (.slc sz es true) (a.eval x):=by
    rcases hx with hx|⟨rfl,hx⟩
    ·exact qy (a:=a) hf (x:=x) hvx hx
    ·have:=qy (a:=a) hf (x:=x) hvx hx;generalize a.eval x=xv at this ⊢;cases this;exact .nil sz true
   obtain ⟨us,m1,m2,m3,m4,m5⟩:=WV hxr;have hall:(us++news).length=(es.length + xs.length) * sz:=by rw [List.length_append,m1,n1,Nat.add_mul]
   have hone:∀ v∈us++news,v.oneCell'=true:=fun v hv'=>(List.mem_append.1 hv').elim (m3 v) (n3 v)
   have hcr:=m4.append m1 n4;have hsmall:es.length + xs.length<=9223372036854775807:=by omega
   have hrun0:∀ {v':Value} {w':World},(Builtin.append_ #[ty,ty] o.type #[a.eval x,a.eval y]).run P w=.ok v' w'->(execOp a.eval o).run P w=.ok (.value v') w':=by
    intro v' w' h;simp [execOp,hop,resolve,invoke,builtin,h]
   have hns:tin.size=sz:=by omega
   obtain ⟨cap,arr,hc1,hc2,hsize,htake,hrun⟩:∃ (cap:Nat) (arr:Array Value),es.length + xs.length<=cap/\cap<=maxLen/\arr.size=cap * sz/\arr.toList.take ((es.length + xs.length) * sz)=us++news /\
     (execOp a.eval o).run P w=.ok (.value (.slice (some ⟨w.heap.size,0,none⟩) (es.length + xs.length) cap)) (w.drew.alloc (.cells arr e)):=by
    rcases n2 with ⟨hy0,hxl⟩|⟨ad',c',hy1,hy2,_,hxc⟩
    ·omega
    ·rcases m2 with ⟨e1,hel⟩|⟨ad1,c1,e1,e2,hfull,hle⟩
     ·have hes:es=[]:=List.eq_nil_of_length_eq_zero hel;subst hes;have hus:us=[]:=List.eq_nil_of_length_eq_zero (by simpa using m1);subst hus;have hr:=run_append_nil (P:=P) w ty o.type e tin z (Zd htb hk) q1 zwy110 ad' xs.length c' news zwy117 hy2 zwy62 (by simp at hsmall;omega) (by rw [q3];simp at hbound;omega);refine ⟨grownCap w xs.length 0 e,news.toArray++Builtin.zeroCells z.cells (grownCap w xs.length 0 e - xs.length),by simpa using grownCap_ge w xs.length 0 e,grownCap_le_maxLen w _ _ e (by unfold maxLen;simp at hsmall;omega),?_,?_,?_⟩
      ·have:=grownCap_ge w xs.length 0 e;simp only [Array.size_append,List.size_toArray,size_zeroCells,n1,z2];rw [<-Nat.add_mul];first|done|(congr 1;omega)
      ·rw [Array.toList_append];simp only [List.length_nil,Nat.zero_add,List.nil_append];rw [<-n1,List.take_left' rfl]
      ·rw [hrun0 zwy109];simp
     ·have hc1:c1=es.length:=hfull rfl;subst hc1;have hr:=run_append_grow (P:=P) w ty o.type e tin z (Zd htb hk) q1 zwy110 ad1 es.length es.length us (by rw [hns];exact m1) e2 ad' xs.length c' news zwy117 hy2 zwy62 zwy62 (growslice_fits zwy62 (by rw [q3];exact hbound));refine ⟨grownCap w (es.length + xs.length) es.length e,us.toArray++news.toArray++Builtin.zeroCells z.cells (grownCap w (es.length + xs.length) es.length e - (es.length + xs.length)),grownCap_ge w _ _ e,grownCap_le_maxLen w _ _ e zwy111,?_,?_,?_⟩
      ·have:=grownCap_ge w (es.length + xs.length) es.length e;simp only [Array.size_append,List.size_toArray,size_zeroCells,n1,m1,z2];rw [<-Nat.add_mul,<-Nat.add_mul];first|done|(congr 1;omega)
      ·rw [Array.toList_append,Array.toList_append];rw [<-hall,List.take_left' zwy63]
      ·rw [hrun0 zwy109]
   have hevd:Evo K K w w.drew:=(Evo.refl hf.lt).drew;have h3:=zaN (w:=w.drew) hevd.lt arr e ((es.length + xs.length) * sz);have hev:=hevd.trans h3;have hlat:=hev.later hf.lt;have hds:w.drew.heap.size=w.heap.size:=rfl;refine ⟨_,_,_,hrun,hlat,hf.fresh hev hi ⟨us++news,⟨?_,.inr ⟨w.heap.size,cap,arr,?_,hf.below.size,?_,?_,hc2,hsize,?_⟩⟩,hsz,?_,?_⟩ ?_⟩
   ·rw [hall,List.length_append]
   ·simp
   ·have:=heap_alloc_new w.drew (.cells arr e);rw [hds] at this;exact this
   ·rw [List.length_append];exact hc1
   ·rw [List.length_append];exact htake
   ·intro k e' he';obtain ⟨r1,r2⟩:=hcr k e' he';exact ⟨r1,fun k c hc=>let ⟨v,e1,e2,e3⟩:=r2 k c hc;⟨v,e1,e2,e3.later hlat⟩⟩
   ·intro b hb o';simp [Value.ownBlock] at hb;subst hb;rw [List.length_append];constructor
    ·rintro (h|⟨_,h⟩)
     ·have:=hf.lt _ _ h;omega
     ·exact h
    ·intro h;exact .inr ⟨hds.symm,h⟩
   ·intro b hb;simp [yE] at hb;omega
theorem VJ {ty e:TypeId} {x y:Operand} {sz d:Nat} {es xs:List PV} {full:Bool} (i:Nat) (htb:yZ P tb) (hg:guardE ops env o=some true) (hop:o.op=.call { callee:=.builtin .append,args:=#[x,y],argTypes:=#[ty,ty] }) (hk:tb.k ty=.sl e)
  (hx:env.pv H x=some (.slc sz es true)\/(es=[]/\env.pv H x=some (.base (.slice none 0 0)))) (hy:env.pv H y=some (.slc sz xs full)) (hx0:0 < xs.length)
  (hzz:(match tb.get e with|some ti=>(match ti.zero with|some z=>ti.size==sz&&z.cells.size==sz&&Nat.blt 0 sz|none=>false)|none=>false)=true)
  (hbound:(es.length + xs.length) * (match tb.get e with|some ti=>ti.bytes|none=>0)<=140737488355328) (hb2:es.length + xs.length<=140737488355328) (hi:H.get i=none) (hd:o.dst=some d) (ht:Nat.blt d n=true)
  (h:AO P n g ops.toArray rest ((d,.own i)::env) ((i,.row e sz (es++xs))::H) Q):AO P n g ops.toArray (o::rest) env H Q:=by
 refine ⟨fun a w hinv=>?_⟩;have hw:=qx hinv hg;obtain ⟨h1,h2,K,ρ,hf,he⟩:=hinv;refine wpList_step fun KK hKK=>?_
 rw [if_pos hw];obtain ⟨v',w',K',hrun,hlat,hf'⟩:=zdg (a:=a) i htb hop hk hx hy hx0 hzz hbound hb2 hi hf (fun z _ av hz=>qO he hz);unfold Oper.wp;rw [hrun];simp only [Oper.upon];refine hKK _ _ (h.go _ _ ⟨Zy h1,put_defers h2,_,_,hf',?_⟩);rw [hd];refine Yg h1 ht (he.keeps hlat (Zg hi _ _)) ?_;have:=ARel.own (K:=K') (w:=w') (ρ:=fun j=>if j=i then v' else ρ j) (H:=(i,HE.row e sz (es++xs))::H) i zwy81;simpa using this
end
end Go.Cg
namespace Go.Cg
theorem ZG {α:Type} {P:Program} {tb:Tab} {g:Base} {H:HEnv} {env:Env} {o:Oper} {f:α->PV} {xs:List α} {t e:TypeId} {x:Operand} {lo hi:Option Operand} {sz:Nat} {full:Bool} (l h:Nat) (htb:yZ P tb) (hop:o.op=.slice t x lo hi none) (hk:tb.k t=.sl e) (hke:tb.known e=true) (hsz:tb.size e=sz) (hx:env.pv H x=some (.slc sz (xs.map f) full))
  (hlo:Xb env H 0 lo=some (l:Int)) (hhi:Xb env H (xs.map f).length hi=some (h:Int)) (h1:l<=h) (h2:h<=xs.length):QStep P g H o env (.pv (.slc sz (((xs.take h).drop l).map f) false)):=by
 have:=zvs (g:=g) htb hop hk hke hsz hx hlo hhi zwy62 zwy62 zwy64;simpa [List.map_take,List.map_drop] using this
theorem zef {P:Program} {tb:Tab} {g:Base} {H:HEnv} {env:Env} {o:Oper} {x:Int} (htb:yZ P tb) (h:opE tb H env o=some (.pv (.base (.int .i64 (IntKind.i64.wrap x))))) (h1 : -9223372036854775808<=x) (h2:x<=9223372036854775807):QStep P g H o env (.pv (.base (.int .i64 x))):=by
 rw [wrap_in h1 h2] at h;exact zd3 htb h
end Go.Cg
namespace Go.Cg
open Go.RowKit
section
variable {P:Program} {tb:Tab} {g:Base} {H:HEnv} {env:Env} {o:Oper}
theorem zmg {t e len:Nat} {x i:Operand} {cs:List PV} {k:IntKind} {m:Int} {p:PV} (j:Nat) (htb:yZ P tb) (hop:o.op=.index t x i) (hk:tb.k t=.arr len e) (hke:tb.known e=true)
  (hx:env.pv H x=some (.agg cs)) (hi:env.pv H i=some (.base (.int k m))) (hm:m=(j:Int)) (hj:Nat.blt j len=true) (hp:zcY tb e cs (j * tb.size e)=some p):QStep P g H o env (.pv p):=by
 subst hm;refine ⟨fun K ρ a w hf hv=>?_⟩;have hxr:=qy hf (hv x zwy68) hx;have hir:=qy hf (hv i zwy68) hi;generalize hxv:a.eval x=xv at hxr;generalize hiv:a.eval i=iv at hir;cases hir;have hlt:j < len:=Nat.le_of_ble_eq_true hj;have hko:tb.k e≠.oth:=by intro h;simp [Tab.known,h] at hke
 cases hxr with
 | agg _ vs h1 ho h2 =>
  obtain ⟨v,h3,h4⟩:=zdn htb (P:=P) ⟨h1,h2⟩ ho hp w;have hs:=run_sizeOf htb hko w;have:(execOp a.eval o).run P w=.ok (.value v) w:=by
   simp [execOp,hop,hxv,hiv,Instr.index,asIntOf,run_underlying (zqG htb hk),hs,h3,hlt]
  rw [this];exact Yq hf (.pv _ _ h4)
end
theorem zgP {P:Program} {tb:Tab} {g:Base} {H:HEnv} {env:Env} {o:Oper} {t e len:Nat} {parts:Array (Nat × Operand)} {z:Value} {cells:Array Value} (vs:List (Nat × Value)) (htb:yZ P tb) (hop:o.op=.build t parts) (hk:tb.k t=.arr len e) (hke:tb.known e=true) (hz:tb.zero t=some z)
  (hp:parts.toList=vs.map fun x=>(x.1,.const x.2)) (hf:Instr.fill (fun i=>some (i * tb.size e,tb.size e)) z.cells vs=some cells) (hok:cells.toList.all Xh=true):QStep P g H o env (.pv (.agg (cells.toList.map .base))):=by
 refine ⟨fun K ρ a w hfs hv=>?_⟩;have hko:tb.k e≠.oth:=by intro h;simp [Tab.known,h] at hke
 have hs:=run_sizeOf htb hko w;have hzi:∃ i,P.info? t=some i/\i.zero=some z:=by
  unfold Tab.zero at hz;split at hz
  ·rename_i ti hti;obtain ⟨i,e1,_,_,e4,_⟩:=Ym htb hti;exact ⟨i,e1,by rw [e4];exact hz⟩
  ·cases hz
 obtain ⟨i,hi,hiz⟩:=hzi;have hp2:(parts.map fun x=>(x.1,a.eval x.2)).toList=vs:=by
  rw [Array.toList_map,hp,List.map_map]
  conv=>rhs;rw [<-List.map_id vs]
  apply List.map_congr_left;intro x _;rfl
 have hrun:(execOp a.eval o).run P w=.ok (.value (.agg cells)) w:=by
  simp only [execOp,hop,Instr.build,Sem.run_bind,zeroValue,typeInfo,run_program,hi,hiz,Result.andThen_ok,Sem.run_pure,run_underlying (zqG htb hk),hs,hp2,hf]
 rw [hrun];have hone:=List.all_eq_true.1 hok;refine Yq hfs (.pv _ _ ?_);have:=PRel.agg (K:=K) (w:=w) (cells.toList.map .base) cells.toList zwy63 (fun v hv=>zii (hone v hv)) (fun k c v hc hv=>by
  rw [List.getElem?_map] at hc;rw [hv] at hc;simp at hc;subst hc;exact .base v (hone v (List.mem_of_getElem? hv)))
 simpa using this
theorem zgu {P:Program} {tb:Tab} {g:Base} {H:HEnv} {env:Env} {o:Oper} {ty e:TypeId} {x y:Operand} {sz:Nat} {es:List PV} {full full':Bool} (htb:yZ P tb) (hop:o.op=.call { callee:=.builtin .append,args:=#[x,y],argTypes:=#[ty,ty] }) (hk:tb.k ty=.sl e)
  (hx:env.pv H x=some (.slc sz es full)) (hy:env.pv H y=some (.slc sz [] full')) (hke:tb.known e=true):QStep P g H o env (.pv (.slc sz es full)):=by
 refine ⟨fun K ρ a w hf hv=>?_⟩;have hyr:=qy hf (hv y zwy70) hy;have hxr:=qy hf (hv x zwy70) hx;obtain ⟨news,n1,n2,n3,n4,n5⟩:=WV hyr;obtain ⟨us,m1,m2,m3,m4,m5⟩:=WV hxr;have hnews:news=[]:=List.eq_nil_of_length_eq_zero (by simpa using n1);have hko:tb.k e≠.oth:=by intro h;simp [Tab.known,h] at hke
 have hs:=run_sizeOf (P:=P) htb hko;have hrun:(Builtin.append_ #[ty,ty] o.type #[a.eval x,a.eval y]).run P w=.ok (a.eval x) w:=by
  rcases n2 with ⟨hy0,_⟩|⟨ad',c',hy1,hy2,_,hxc⟩
  ·rcases m2 with ⟨e1,_⟩|⟨ad1,c1,e1,_,_,hle⟩
   ·rw [e1,hy0];simp [Builtin.append_,run_underlying (Zd htb hk),hs,Builtin.lenOf,Builtin.firstCells]
   ·rw [e1,hy0];simp [Builtin.append_,run_underlying (Zd htb hk),hs,Builtin.lenOf,Builtin.firstCells,hle,storeCells]
  ·rcases m2 with ⟨e1,_⟩|⟨ad1,c1,e1,_,_,hle⟩
   ·rw [e1,hy1];simp [Builtin.append_,run_underlying (Zd htb hk),hs,Builtin.lenOf,Builtin.firstCells,loadCells,loadCellsFrom]
   ·rw [e1,hy1];simp [Builtin.append_,run_underlying (Zd htb hk),hs,Builtin.lenOf,Builtin.firstCells,hle,storeCells,loadCells,loadCellsFrom]
 have:(execOp a.eval o).run P w=.ok (.value (a.eval x)) w:=by
  simp [execOp,hop,resolve,invoke,builtin,hrun]
 rw [this];exact Yq hf (.pv _ _ hxr)
end Go.Cg
