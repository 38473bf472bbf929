/- A part of the walks by abstract values: no statement of its own. -/
import Derived.Test.YtdbgicaoddibdaaGreatT3
import Derived.Test.YtdbgicaoddibdaaGreatT6
import Derived.Test.YtdbgicaoddibdaaGreatT12
import Derived.Test.YtdbgicaoddibdaaGreatT7
import Derived.Test.YtdbgicaoddibdaaGreatT9
import Derived.Laws.Pointers
import Derived.Laws.CopyRow
set_option linter.unusedVariables false
set_option linter.unusedSimpArgs false
namespace Go.Cg
open Go.RowKit
section
variable {P:Program} {n:Nat} {g:Base} {H:HEnv} {env:Env} {c:Code} {QQ:QC} {K:KK} {w:World} {ρ:Nat→Value}
def aggOf:AV→Option (List AV)
 | .agg cs=>some cs
 | .pv (.agg ps)=>some (ps.map .pv)
 | _=>none
theorem ARel.aggOf {v:AV} {cs:List AV} {u:Value} (h:ARel K w ρ H v u) (hc:Cg.aggOf v=some cs):ARel K w ρ H (.agg cs) u:=by
 cases h with
 | pv p v hp =>
  cases hp <;> simp [Cg.aggOf] at hc;rename_i ps vs h1 h2 h3;subst hc;refine .agg _ vs zwy99 h2 fun k c v hc hv=>?_
  simp only [List.getElem?_map,Option.map_eq_some_iff] at hc;obtain ⟨p,hp,rfl⟩:=hc;exact .pv _ _ (h3 k p v hp hv)
 | agg ds vs h1 h2 h3=>simp only [Cg.aggOf,Option.some.injEq] at hc;subst hc;exact .agg _ vs h1 h2 h3
 | _=>simp [Cg.aggOf] at hc
end
end Go.Cg
namespace Go.Cg
theorem ZK {α:Type} {P:Program} {tb:Tab} {g:Base} {H:HEnv} {env:Env} {o:Oper} {f:α→PV} {xs:List α} {t e:TypeId} {x:Operand} {lo hi:Option Operand} {sz:Nat} {full:Bool} (l h:Nat) (htb:yR P tb) (hop:o.op=.slice t x lo hi none) (hk:tb.k t=.sl e) (hke:tb.known e=true) (hsz:tb.size e=sz) (hx:env.pv H x=some (.slc sz (xs.map f) full))
  (hlo:Xj env H 0 lo=some (l:Int)) (hhi:Xj env H (xs.map f).length hi=some (h:Int)) (h1:l≤h) (h2:h≤xs.length):QStep P g H o env (.pv (.slc sz (((xs.take h).drop l).map f) false)):=by
 have:=zvR (g:=g) htb hop hk hke hsz hx hlo hhi zwy62 zwy62 zwy64;simpa [List.map_take,List.map_drop] using this
theorem zdJ {P:Program} {tb:Tab} {g:Base} {H:HEnv} {env:Env} {o:Oper} {x:Int} (htb:yR P tb) (h:opE tb H env o=some (.pv (.base (.int .i64 (IntKind.i64.wrap x))))) (h1 : -9223372036854775808≤x) (h2:x≤9223372036854775807):QStep P g H o env (.pv (.base (.int .i64 x))):=by
 rw [wrap_in h1 h2] at h;exact zak htb h
end Go.Cg
namespace Go.Cg
open Go.RowKit
section
variable {P:Program} {tb:Tab} {n:Nat} {g:Base} {H:HEnv} {env:Env} {ops:List Oper} {o:Oper} {rest:List Oper} {Q:Env→HEnv→Prop} {QQ:QC} {c:Code} {K:KK} {w:World} {ρ:Nat→Value} {a:Act}
theorem XI (htb:yR P tb) {ty e:Nat} {x y:Operand} {i:Nat} {sz:Nat} {es xs:List PV} {full:Bool} {t:Nat} (hg:guardE ops env o=some true)
  (hop:o.op=.call { callee:=.builtin .append,args:=#[x,y],argTypes:=#[ty,ty] }) (hk:tb.k ty=.sl e) (hx:env.val x=some (.own i)) (hi:H.get i=some (.mrow e sz es)) (hy:env.pv H y=some (.slc sz xs full))
  (hzz:(match tb.get e with|some ti=>(match ti.zero with|some z=>ti.size==sz&&z.cells.size==sz|none=>false)|none=>false)=true)
  (hbound:(es.length + xs.length) * (match tb.get e with|some ti=>ti.bytes|none=>0)≤140737488355328) (hb2:es.length + xs.length≤140737488355328) (hd:o.dst=some t) (ht:Nat.blt t n=true)
  (h:AO P n g ops.toArray rest ((t,.own i)::zdo i env) ((i,.mrow e sz (es++xs))::zbx i H) Q):AO P n g ops.toArray (o::rest) env H Q:=zhN true htb hg hop hk hx hi hy hzz hbound hb2 hd ht h
def lpv (env:Env) (H:HEnv) (x:Operand):Option PV:=match env.val x with
 | some (.own i)=>match H.get i with|some (.mrow _ sz es)=>some (.slc sz es false)|_=>env.pv H x
 | _=>env.pv H x
def ztN (env:Env) (H:HEnv):List Operand→Option (List PV)
 | []=>some []
 | x::xs=>match lpv env H x,ztN env H xs with|some p,some ps=>some (p::ps)|_,_=>none
def zmw (K:KK) (ρ:Nat→Value) (H:HEnv):KK:=fun b o=>K b o∨∃ i t sz es,H.get i=some (.mrow t sz es)∧(ρ i).ownBlock=some b∧o < es.length * sz
theorem ziO:Later K (zmw K ρ H) w w:=⟨fun _ _ h=>.inl h,fun _ _ _=>rfl⟩
theorem zvg (hf:FS g K ρ H w) {x:Operand} (hv:∀ av,env.val x=some av→ARel K w ρ H av (a.eval x)) {p:PV} (h:lpv env H x=some p):PRel (zmw K ρ H) w p (a.eval x):=by
 have old:env.pv H x=some p→PRel (zmw K ρ H) w p (a.eval x):=fun h=>(qc hf hv h).later ziO
 unfold lpv at h;split at h
 ·rename_i i hx;split at h
  ·rename_i t sz es hi;simp only [Option.some.injEq] at h;subst h;have hxr:=hv _ hx;generalize a.eval x=xv at hxr;cases hxr with
   | own _ _ =>
    obtain ⟨xs,hown,h0,hcr,hnK⟩:=hf.heap.ok i _ hi;rcases hown.2 with ⟨hr,hz⟩|⟨b,cap,cur,hr,hB,hheap,hle,hcap,hsize,htake⟩
    ·rw [hr];have:es=[]:=List.eq_nil_of_length_eq_zero hz;subst this;exact .nil sz false
    ·by_cases hes:es=[]
     ·subst hes;have hown':=hown;rw [hr] at hown' ⊢;exact .slc sz [] false b 0 cap (fun _=>[]) h0 (Nat.zero_le _) zwy63 zwy120 hcap (fun i e he=>by simp at he) (fun i e k c v he=>by simp at he)
     ·have hown':=hown;rw [hr] at hown' ⊢;have hxl:xs.length=es.length * sz:=hown.1;refine .slc sz es false b 0 cap (fun i=>(xs.drop (i * sz)).take sz) h0 hle zwy63 zwy62 hcap (fun k e he=>?_) (fun k e m c v he hc hvv=>?_)
      ·obtain ⟨c1,c2⟩:=hcr k e he;have hk:k < es.length:=(List.getElem?_eq_some_iff.1 he).1;have hle2:k * sz + sz≤es.length * sz:=by rw [←Nat.succ_mul];exact Nat.mul_le_mul_right _ hk
       refine ⟨c1,by rw [List.length_take,List.length_drop];omega,fun m v hm=>?_⟩;rw [List.getElem?_take] at hm;split at hm
       ·rename_i hms;rw [List.getElem?_drop] at hm;obtain ⟨u,u1,u2,_⟩:=c2 m e.cells[m] (List.getElem?_eq_getElem zwy62);rw [u1,Option.some.injEq] at hm;subst hm;exact ⟨.inr ⟨i,t,sz,es,hi,by rw [hr];rfl,by omega⟩,by rw [Nat.zero_add,hown'.cellAt _ zwy62];exact u1,u2⟩
       ·cases hm
      ·obtain ⟨c1,c2⟩:=hcr k e he;obtain ⟨u,u1,u2,u3⟩:=c2 m c hc;rw [List.getElem?_take] at hvv;split at hvv
       ·rw [List.getElem?_drop,u1,Option.some.injEq] at hvv;subst hvv;exact u3.later ziO
       ·cases hvv
  ·exact old h
 ·exact old h
theorem zmW (hf:FS g K ρ H w):∀ {xs:List Operand} {ps:List PV},(∀ x∈xs,∀ av,env.val x=some av→ARel K w ρ H av (a.eval x))→ztN env H xs=some ps→PRels (zmw K ρ H) w ps (xs.map a.eval)
 | [],ps,_,h=>by simp [ztN] at h;subst h;exact .nil
 | x::xs,ps,hv,h=>by
  simp only [ztN] at h;split at h
  ·rename_i v vs e1 e2;simp only [Option.some.injEq] at h;subst h;exact .cons (zvg hf (hv x zwy63) e1) (zmW hf (fun y hy=>hv y zwy113) e2)
  ·cases h
theorem zuj {xs:Array Operand} {ts:Array TypeId} {f:FuncId} {args:List PV} {r:Value} {t:Nat} (hg:guardE ops env o=some true) (hop:o.op=.call { callee:=.value (.func f),args:=xs,argTypes:=ts }) (hargs:ztN env H xs.toList=some args)
  (hc:ACall P f args (.base r)) (hd:o.dst=some t) (ht:Nat.blt t n=true)
  (h:AO P n g ops.toArray rest ((t,.pv (.base r))::env) H Q):AO P n g ops.toArray (o::rest) env H Q:=by
 refine ⟨fun a w hinv=>?_⟩;have hw:=yT hinv hg;obtain ⟨h1,h2,K,ρ,hf,he⟩:=hinv;refine wpList_step fun KK hKK=>?_
 rw [if_pos hw];have hp:=zmW hf (a:=a) (xs:=xs.toList) (fun x hx av hxx=>qA he hxx) hargs;have hrun:(execOp a.eval o).run P w=.ok (.enter f (xs.toList.map a.eval).toArray) w:=by
  have e:(xs.toList.map a.eval).toArray=xs.map a.eval:=by rw [←Array.toList_map,Array.toArray_toList]
  rw [e];simp [execOp,hop,resolve,Act.eval,Deferred.ofValue,invoke,Ze hc.stands]
 unfold Oper.wp;rw [hrun];simp only [Oper.upon];have hlt:∀ b o,zmw K ρ H b o→b < w.heap.size:=by
  rintro b o (h|⟨i,t,sz,es,hi,hb,_⟩)
  ·exact hf.lt b o h
  ·obtain ⟨us,hown,_⟩:=hf.heap.ok i _ hi;exact (hown.lt b hb).2
 refine (hc.calls _ w _ hlt hp).mono ?_;rintro ex w'' ⟨v,K',rfl,hev,hr⟩;cases hr with
 | base _ hb =>
  have hev2:Evo K K w w'':=⟨hev.below,fun _ _ h=>h,fun _ _ h=>.inl h,fun b o h=>Nat.lt_of_lt_of_le (hf.lt b o h) hev.below.size⟩
  refine hKK _ _ (h.go _ _ ⟨qW h1,put_defers h2,K,ρ,hf.evo hev2,?_⟩);rw [hd];exact Zo h1 ht (he.keeps (hev2.later hf.lt) (fun j hj=>⟨hj,rfl⟩)) (.pv _ _ (.base _ hb))
end
section
variable {P:Program} {tb:Tab} {g:Base} {H:HEnv} {env:Env} {o:Oper}
theorem zK (htb:yR P tb) {t e:Nat} {x y:Operand} {i k sz:Nat} {es:List PV} {kk:IntKind} {m:Int} (hop:o.op=.indexAddr t x y) (hx:env.val x=some (.own i)) (hi:H.get i=some (.mrow e sz es))
  (hk:tb.k t=.sl e) (hke:tb.known e=true) (hsz:tb.size e=sz) (hy:env.pv H y=some (.base (.int kk m))) (hm:m=(k:Nat)) (hlt:k < es.length):QStep P g H o env (.ad i (k * sz)):=by
 refine ⟨fun K ρ a w hf hv=>?_⟩;have hxr:=hv x zwy69 _ hx;have hyr:=qc hf (hv y zwy69) hy;generalize hxv:a.eval x=xv at hxr;generalize hyv:a.eval y=yv at hyr;obtain ⟨xs,hown,h0,hcr,hnK⟩:=hf.heap.ok i _ hi;subst hm;cases hyr;cases hxr with
 | own _ hi' =>
  rcases hown.2 with ⟨hr,hz⟩|⟨b,cap,cur,hr,hB,hheap,hle,hcap,hsize,htake⟩
  ·omega
  ·have hko:tb.k e≠.oth:=by intro h;simp [Tab.known,h] at hke
   have hs:=run_sizeOf htb hko w;have hrun:(execOp a.eval o).run P w=.ok (.value (.pointer (some ⟨b,k * sz,none⟩))) w:=by
    simp [execOp,hop,hxv,hyv,hr,Instr.indexAt,asIntOf,run_underlying (qY htb hk),hs,hsz,Addr.add_lit];intro hh;omega
   rw [hrun];exact ZP hf (.ad i (k * sz) b es.length cap hi' hr)
theorem ak {t e:Nat} {x y:Operand} {i k sz:Nat} {es:List PV} {kk:IntKind} {m:Int} (hlt:k < es.length) (htb:yR P tb:=by exact zf) (hop:o.op=.indexAddr t x y:=by exact rfl) (hx:env.val x=some (.own i):=by exact rfl) (hi:H.get i=some (.mrow e sz es):=by exact rfl) (hk:tb.k t=.sl e:=by exact rfl) (hke:tb.known e=true:=by exact rfl) (hsz:tb.size e=sz:=by exact rfl) (hy:env.pv H y=some (.base (.int kk m)):=by exact rfl) (hm:m=(k:Nat):=by exact rfl):QStep P g H o env (.ad i (k * sz)):=zK htb hop hx hi hk hke hsz hy hm hlt
theorem zM (htb:yR P tb) {ty:Nat} {x:Operand} {i k j sz off e:Nat} {es:List PV} {p q:PV} (hop:o.op=.load ty x) (hx:env.val x=some (.ad i off)) (hi:H.get i=some (.mrow e sz es)) (hoff:off=k * sz + j)
  (hp:es[k]?=some p) (hq:zcl tb ty p.cells j=some q):QStep P g H o env (.pv q):=by
 refine ⟨fun K ρ a w hf hv=>?_⟩;have hxr:=hv x zwy69 _ hx;generalize hxv:a.eval x=xv at hxr;obtain ⟨xs,hown,h0,hcr,hnK⟩:=hf.heap.ok i _ hi;have hkl:k < es.length:=(List.getElem?_eq_some_iff.1 hp).1;cases hxr with
 | ad _ _ b m c hi' hρ =>
  have hown':=hown;rw [hρ] at hown';have hm:m=es.length:=by
   rcases hown'.2 with ⟨hr,_⟩|⟨_,_,_,hr,_⟩
   ·simp at hr
   ·simp at hr;exact hr.2.1
  subst hm;obtain ⟨hl,hc⟩:=hcr k p hp;have hle:k * sz + sz≤es.length * sz:=by rw [←Nat.succ_mul];exact Nat.mul_le_mul_right _ hkl
  have hlen:xs.length=es.length * sz:=hown.1;have hcell:∀ (t:Nat) (v:Value),((xs.drop (k * sz)).take sz)[t]?=some v→w.cell? ⟨b,k * sz + t,none⟩=some v:=by
   intro t v hv;rw [List.getElem?_take] at hv;split at hv
   ·rw [List.getElem?_drop] at hv;rw [hown'.cellAt _ zwy62];exact hv
   ·cases hv
  have hrels:PRels K w p.cells ((xs.drop (k * sz)).take sz):=by
   refine ⟨by rw [List.length_take,List.length_drop];omega,fun t c v hc' hv=>?_⟩;rw [List.getElem?_take] at hv;split at hv
   ·rw [List.getElem?_drop] at hv;obtain ⟨u,hu,_,hr⟩:=hc t c hc';rw [hu,Option.some.injEq] at hv;subst hv;exact hr
   ·cases hv
  have hone:∀ v∈(xs.drop (k * sz)).take sz,v.oneCell'=true:=by
   intro v hv;obtain ⟨t,hlt,rfl⟩:=List.getElem_of_mem hv;have hlt':t < sz:=by rw [List.length_take] at hlt;omega
   have ht':t < p.cells.length:=by omega
   obtain ⟨u,hu,h1u,_⟩:=hc t p.cells[t] (List.getElem?_eq_getElem ht');rw [List.getElem_take,List.getElem_drop];have:=(List.getElem?_eq_some_iff.1 hu).2;rw [this];exact h1u
  obtain ⟨v,hv,hvr⟩:=QU htb (b:=b) (o:=k * sz) hcell hrels hone hq;have hrun:(execOp a.eval o).run P w=.ok (.value v) w:=by
   subst hoff;simp [execOp,hop,hxv,Instr.loadAt,Instr.sureAddr,hv]
  rw [hrun];exact ZP hf (.pv _ _ hvr)
theorem au {ty:Nat} {x:Operand} {i k j sz off e:Nat} {es:List PV} {p q:PV} (hp:es[k]?=some p) (htb:yR P tb:=by exact zf) (hop:o.op=.load ty x:=by exact rfl) (hx:env.val x=some (.ad i off):=by exact rfl) (hi:H.get i=some (.mrow e sz es):=by exact rfl) (hoff:off=k * sz + j:=by exact rfl) (hq:zcl tb ty p.cells j=some q:=by exact rfl):QStep P g H o env (.pv q):=zM htb hop hx hi hoff hp hq
end
end Go.Cg
namespace Go.Cg
open Go.RowKit Go.Maps Go.WideElems Go.ChangeMaps Go.MapKept
def MapSet (P:Program) (kt et:TypeId) (met:List Int) (o:Obj):Prop :=
 ∃ es clock,o=.map es clock∧Fit (H:=Unit) P kt (plainElem P et) es clock∧es.size≤met.length ∧
  ∀ x,(Lit.int .i64 x).wf=true→(DataW.map ((es.toList.map (rg P kt (plainElem (H:=Unit) P et))).foldr DataW.insert [])).atKey (.int .i64 x) (.lit (.int .i64 0))=.lit (.int .i64 (if x∈met then 1 else 0))
section
variable {P:Program} {tb:Tab} {n:Nat} {g:Base} {K:KK} {w:World} {ρ:Nat→Value} {H:HEnv} {env:Env} {a:Act} {ops:List Oper} {o:Oper} {rest:List Oper} {Q:Env→HEnv→Prop}
theorem zoL (kt et:TypeId):MapSet P kt et [] (.map #[] 0) :=
 ⟨#[],0,rfl,⟨by simp,stamped_empty 0,by simp⟩,Nat.le_refl _,fun x _=>by simp;rfl⟩
theorem zo4 {t kt et d:Nat} (i:Nat) (hg:guardE ops env o=some true) (hop:o.op=.makeMap t none) (hi:H.get i=none) (hd:o.dst=some d) (ht:Nat.blt d n=true)
  (h:AO P n g ops.toArray rest ((d,.own i)::env) ((i,.obj (MapSet P kt et []))::H) Q):AO P n g ops.toArray (o::rest) env H Q:=by
 refine ⟨fun a w hinv=>?_⟩;have hw:=yT hinv hg;obtain ⟨h1,h2,K,ρ,hf,he⟩:=hinv;refine wpList_step fun KK hKK=>?_
 rw [if_pos hw];have hrun:(execOp a.eval o).run P w=.ok (.value (.map (some w.heap.size))) (w.alloc (.map #[] 0)):=by
  simp [execOp,hop,run_makeMap]
 unfold Oper.wp;rw [hrun];simp only [Oper.upon];have hev:Evo K K w (w.alloc (.map #[] 0)):=⟨(Below.refl _ _).alloc (Nat.le_refl _) _,fun _ _ h=>h,fun _ _ h=>.inl h,fun b o h=>by have:=hf.lt b o h;simp;omega⟩
 refine hKK _ _ (h.go _ _ ⟨qW h1,put_defers h2,K,fun j=>if j=i then .map (some w.heap.size) else ρ j,hf.fresh hev hi ⟨w.heap.size,.map #[] 0,rfl,hf.below.size,heap_alloc_new w _,zoL kt et,fun o ho=>by have:=hf.lt _ o ho;omega⟩ zwy112,?_⟩);rw [hd];have:=ARel.own (K:=K) (w:=w.alloc (.map #[] 0)) (ρ:=fun j=>if j=i then .map (some w.heap.size) else ρ j) (H:=(i,HE.obj (MapSet P kt et []))::H) i zwy94;exact Zo h1 ht (he.keeps (hev.later hf.lt) (Za hi _ _)) (by simpa using this)
theorem zqL {kt et:TypeId} {met:List Int} {b:Nat} {ob:Obj} (hb:w.heap[b]?=some ob) (h:MapSet P kt et met ob) :
  ∃ D:DataW Unit,w.ownsMap P kt (plainElem P et) b met.length D∧∀ x,(Lit.int .i64 x).wf=true→D.atKey (.int .i64 x) (.lit (.int .i64 0))=.lit (.int .i64 (if x∈met then 1 else 0)):=by
 obtain ⟨es,clock,rfl,F,hs,hat⟩:=h;exact ⟨_,⟨es,clock,hb,F,hs,rfl⟩,hat⟩
theorem zdk {t kt et:Nat} (htb:yR P tb) (h:tb.k t=.map kt et):P.underlying t=some (.map kt et):=by
 obtain ⟨d,i,h1,_,_,h2⟩:=VX htb h zwy63;cases d <;> simp [zjA] at h2;obtain ⟨rfl,rfl⟩:=h2;exact h1
theorem ztn {t kt et:Nat} {m x:Operand} {i:Nat} {met:List Int} {k:Int} (htb:yR P tb) (hop:o.op=.lookup t m x false) (hk:tb.k t=.map kt et) (hkt:tb.k kt=.int .i64) (het:tb.k et=.int .i64) (hz:tb.zero et=some (.int .i64 0))
  (hm:env.val m=some (.own i)) (hi:H.get i=some (.obj (MapSet P kt et met))) (hx:env.pv H x=some (.base (.int .i64 k))) (hwf:(Lit.int .i64 k).wf=true) :
  QStep P g H o env (.pv (.base (.int .i64 (if k∈met then 1 else 0)))):=by
 refine ⟨fun K ρ a w hf hv=>?_⟩;have hmr:=hv m zwy69 _ hm;have hxr:=qc hf (hv x zwy69) hx;generalize hmv:a.eval m=mv at hmr;generalize hxv:a.eval x=xv at hxr;cases hxr;obtain ⟨b,ob,hr,hB,hheap,hX,hn⟩:=hf.heap.ok i _ hi;cases hmr with
 | own _ _ =>
  obtain ⟨D,hown,hat⟩:=zqL hheap hX;have hzi:(zeroValue et).run P w=.ok (.int .i64 0) w:=by
   unfold Tab.zero at hz;split at hz
   ·rename_i ti hti;obtain ⟨i,e1,_,_,e4,_⟩:=ZJ htb hti;simp [zeroValue,typeInfo,e1,e4,hz]
   ·cases hz
  obtain ⟨c,hrun,hc,hwc⟩:=hown.lookup_int (t:=t) (int_keyed (Xi htb hkt)) (zdk htb hk) (Xi htb het) hzi (keyOf_int_mk (Xi htb hkt) hwf);rw [hat k hwf] at hc;simp only [DataW.lit.injEq,Lit.int.injEq,true_and] at hc;subst hc;have:(execOp a.eval o).run P w=.ok (.value (.int .i64 (if k∈met then 1 else 0))) w:=by
   rw [←hr] at hrun;simp [execOp,hop,hmv,hxv,hrun,Result.andThen]
  rw [this];exact ZP hf (.pv _ _ (.base _ rfl))
theorem zkB {t kt et:Nat} {m x:Operand} {i:Nat} {met:List Int} {k c:Int} (hc:(if k∈met then (1:Int) else 0)=c) (htb:yR P tb) (hop:o.op=.lookup t m x false) (hk:tb.k t=.map kt et) (hkt:tb.k kt=.int .i64) (het:tb.k et=.int .i64) (hz:tb.zero et=some (.int .i64 0))
  (hm:env.val m=some (.own i)) (hi:H.get i=some (.obj (MapSet P kt et met))) (hx:env.pv H x=some (.base (.int .i64 k))) (hwf:(Lit.int .i64 k).wf=true) :
  QStep P g H o env (.pv (.base (.int .i64 c))):=by
 subst hc;exact ztn htb hop hk hkt het hz hm hi hx hwf
theorem zwa {l:List Oper} (env2:Env) (H2:HEnv) (hs:Sub env env2) (hf:Yj H H2 env2) (h:AO P n g ops.toArray l env2 H2 Q):AO P n g ops.toArray l env H Q:=⟨fun a w hi=>h.go a w ((hi.sub hs).hsub hf)⟩
theorem zlL {t kt et:Nat} {m x v:Operand} {i:Nat} {met:List Int} {k:Int} (hw1:g.w1.heap.size=0) (htb:yR P tb) (hg:guardE ops env o=some true) (hop:o.op=.mapUpdate t m x v) (hk:tb.k t=.map kt et) (hkt:tb.k kt=.int .i64) (het:tb.k et=.int .i64)
  (hm:env.val m=some (.own i)) (hi:H.get i=some (.obj (MapSet P kt et met))) (hx:env.pv H x=some (.base (.int .i64 k))) (hv:env.pv H v=some (.base (.int .i64 1))) (hwf:(Lit.int .i64 k).wf=true) (hlen:met.length < maxLen) (hd:o.dst=none)
  (h:AO P n g ops.toArray rest env ((i,.obj (MapSet P kt et (met++[k])))::H) Q):AO P n g ops.toArray (o::rest) env H Q:=by
 refine ⟨fun a w hinv=>?_⟩;have hw:=yT hinv hg;obtain ⟨h1,h2,K,ρ,hf,he⟩:=hinv;refine wpList_step fun KK hKK=>?_
 rw [if_pos hw];have hmr:=qA he hm;have hxr:=qc (a:=a) hf (x:=x) (fun av hh=>qA he hh) hx;have hvr:=qc (a:=a) hf (x:=v) (fun av hh=>qA he hh) hv;generalize hmv:a.eval m=mv at hmr;generalize hxv:a.eval x=xv at hxr;generalize hvv:a.eval v=vv at hvr;cases hxr;cases hvr;obtain ⟨b,ob,hr,hB,hheap,hX,hnK⟩:=hf.heap.ok i _ hi;cases hmr with
 | own _ _ =>
  obtain ⟨D,hown,hat⟩:=zqL hheap hX;have h1wf:(Lit.int .i64 1).wf=true:=by decide
  obtain ⟨w',hrun,hown',hgrow⟩:=hown.update (t:=t) (int_keyed (Xi htb hkt)) (zdk htb hk) hlen (val:=.int .i64 1) (keyOf_int_mk (Xi htb hkt) hwf) (plainElem_int (Xi htb het) h1wf);have hrun':(execOp a.eval o).run P w=.ok .skip w':=by
   rw [←hr] at hrun;simp [execOp,hop,hmv,hxv,hvv,hrun,Result.andThen]
  have hX':∃ ob',w'.heap[b]?=some ob'∧MapSet P kt et (met++[k]) ob':=by
   obtain ⟨es,clock,hb,F,hs,hD⟩:=hown';refine ⟨_,hb,es,clock,rfl,F,by simpa using hs,fun y hy=>?_⟩;rw [←hD];by_cases e:y=k
   ·subst e;rw [atKey_put_same hown.isMap (by simp [WideAt.IsKeyLit])];simp
   ·rw [atKey_put_other (by simpa using e),hat y hy];simp [e]
  obtain ⟨ob',hb',hX2⟩:=hX';unfold Oper.wp;rw [hrun'];simp only [Oper.upon];have hlat:Later K K w w':=⟨fun _ _ h=>h,fun b' o hk=>by
   have hne:b'≠b:=by rintro rfl;exact hnK o hk
   exact World.cell?_of_block (hgrow.block b' (hf.lt b' o hk) (by simp [hne]))⟩
  have hkeep:∀ j,(H.get j).isSome=true→(HEnv.get ((i,.obj (MapSet P kt et (met++[k])))::H) j).isSome=true∧ρ j=ρ j:=by
   intro j hj;refine ⟨?_,rfl⟩;simp only [HEnv.get_nil,HEnv.get_cons];split
   ·rfl
   ·exact hj
  have hd':a.put o.dst undef=a:=by rw [hd];rfl
  rw [hd'];refine hKK _ _ (h.go _ _ ⟨h1,h2,K,ρ,⟨hf.below.grown hgrow hf.below.size (fun k hk=>by simp at hk;omega),hf.old,hf.new,fun b o hk=>Nat.lt_of_lt_of_le (hf.lt b o hk) hgrow.size,⟨by rw [hw1];omega,fun k o hk=>by have:=(Array.getElem?_eq_some_iff.1 hk).1;omega⟩,hf.pt.grown hf.old hgrow hlat (fun b2 hb2=>by cases hb2;exact hf.away i _ b hi rfl zwy109) (fun _ _ h=>.inl h),hf.away.set hi rfl,?_,?_⟩,he.keeps hlat hkeep⟩)
  ·intro j e hj;simp only [HEnv.get_nil,HEnv.get_cons] at hj;split at hj
   ·rename_i e';subst e';simp only [Option.some.injEq] at hj;subst hj;exact ⟨b,ob',hr,hB,hb',hX2,hnK⟩
   ·rename_i hne;by_cases hlive:e.live=true
    ·have:=(hf.heap.ok j e hj).grown (f:=id) hgrow hlat (fun b o h=>.inl h) (fun av v h=>h.keeps hlat hkeep) hlive (fun b' hb' e'=>by
      simp at e';subst e';exact hf.heap.apart i j _ e b hne hi hj rfl hlive zwy109 hb')
     cases e <;> exact this
    ·cases e <;> simp [HE.live] at hlive
     ·trivial
     ·exact ARel.keeps hlat hkeep (hf.heap.ok j _ hj)
  ·intro j k2 e e' bb hjk hj hk' hlj hlk hbj hbk;have e1:∀ (j:Nat) (hh:HE),HEnv.get ((i,.obj (MapSet P kt et (met++[k])))::H) j=some hh→hh.live=true→∃ h0,H.get j=some h0∧h0.live=true:=by
    intro j hh hj hl;rw [HEnv.get_cons] at hj;split at hj
    ·rename_i e';subst e';exact ⟨_,hi,rfl⟩
    ·exact ⟨hh,hj,hl⟩
   obtain ⟨a1,a2,a3⟩:=e1 j e hj hlj;obtain ⟨b1,b2,b3⟩:=e1 k2 e' hk' hlk;exact hf.heap.apart j k2 a1 b1 bb hjk a2 b2 a3 b3 hbj hbk
end
end Go.Cg
namespace Go.Cg
open Go.RowKit
def PTells (a b:PV):Prop:=∀ (K:KK) (w:World) (v:Value),PRel K w a v→PRel K w b v
theorem PTells.refl (a:PV):PTells a a:=fun _ _ _ h=>h
def PTL (cs ds:List PV):Prop:=cs.length=ds.length∧∀ (k:Nat) (c d:PV),cs[k]?=some c→ds[k]?=some d→PTells c d
theorem XR:PTL [] []:=⟨rfl,by simp⟩
theorem ql {c d:PV} {cs ds:List PV} (h:PTells c d) (hs:PTL cs ds):PTL (c::cs) (d::ds):=by
 refine ⟨by simp [hs.1],fun k c' d' hc hd=>?_⟩;cases k with
 | zero=>simp at hc hd;subst hc hd;exact h
 | succ k=>exact hs.2 k c' d' zwy117 (by simpa using hd)
theorem Qz (sz:Nat) (f:Bool):PTells (.base (.slice none 0 0)) (.slc sz [] f):=fun K w v h=>by cases h;exact .nil sz f
theorem zw5 {cs ds:List PV} (h:PTL cs ds):PTells (.agg cs) (.agg ds):=fun K w v hp=>by
 cases hp with
 | agg _ vs hl ho hr =>
  refine .agg ds vs (by rw [hl,h.1]) ho fun k d v hd hv=>?_
  have hk:k < cs.length:=by
   rcases Nat.lt_or_ge k cs.length with h'|h'
   ·exact h'
   ·rw [List.getElem?_eq_none zwy62] at hv;cases hv
  exact h.2 k _ d (List.getElem?_eq_getElem hk) hd K w v (hr k _ v (List.getElem?_eq_getElem hk) hv)
def PCL (es ds:List PV):Prop:=es.length=ds.length∧∀ (k:Nat) (c d:PV),es[k]?=some c→ds[k]?=some d→PTL c.cells d.cells
theorem zcg:PCL [] []:=⟨rfl,by simp⟩
theorem Xq {c d:PV} {cs ds:List PV} (h:PTL c.cells d.cells) (hs:PCL cs ds):PCL (c::cs) (d::ds):=by
 refine ⟨by simp [hs.1],fun k c' d' hc hd=>?_⟩;cases k with
 | zero=>simp at hc hd;subst hc hd;exact h
 | succ k=>exact hs.2 k c' d' zwy117 (by simpa using hd)
theorem zdT {sz:Nat} {es ds:List PV} {f:Bool} (h:PCL es ds):PTells (.slc sz es f) (.slc sz ds false):=fun K w v hp=>by
 obtain ⟨hl,hc⟩:=h;cases hp with
 | nil=>have:ds=[]:=List.eq_nil_of_length_eq_zero (by simpa using hl.symm);subst this;exact .nil sz false
 | emp _ _ a=>have:ds=[]:=List.eq_nil_of_length_eq_zero (by simpa using hl.symm);subst this;exact .emp sz false a
 | slc _ _ _ b o cap vss h0 h1 h2 h3 h4 h5 h6 =>
  rw [hl];have hget:∀ (i:Nat) (d:PV),ds[i]?=some d→∃ e,es[i]?=some e:=fun i d hd=>by
   have:i < es.length:=by
    rcases Nat.lt_or_ge i es.length with h'|h'
    ·exact h'
    ·rw [List.getElem?_eq_none zwy62] at hd;cases hd
   exact ⟨_,List.getElem?_eq_getElem this⟩
  refine .slc sz ds false b o cap vss h0 zwy62 zwy63 zwy62 h4 (fun i d hd=>?_) (fun i d k c v hd hk hv=>?_)
  ·obtain ⟨e,he⟩:=hget i d hd;obtain ⟨a1,a2,a3⟩:=h5 i e he;exact ⟨by rw [←(hc i e d he hd).1];exact a1,a2,a3⟩
  ·obtain ⟨e,he⟩:=hget i d hd;have hh:=hc i e d he hd;have hk':k < e.cells.length:=by
    rcases Nat.lt_or_ge k e.cells.length with h'|h'
    ·exact h'
    ·rw [List.getElem?_eq_none (by rw [←hh.1];exact h')] at hk;cases hk
   exact hh.2 k _ c (List.getElem?_eq_getElem hk') hk K w v (h6 i e k _ v he (List.getElem?_eq_getElem hk') hv)
theorem PTells.tells {a b:PV} (h:PTells a b):Tells (.pv a) (.pv b):=fun K w ρ H v hr=>by
 cases hr with|pv _ _ hp=>exact .pv _ _ (h K w v hp)
section
variable {P:Program} {n:Nat} {g:Base} {H:HEnv} {env:Env} {a:Act} {w:World} {ops:List Oper} {Q:Env→HEnv→Prop} {c:Code} {QQ:QC}
theorem zrp {t:Nat} {x y:AV} (ht:env.get t=some x) (h:Tells x y) (hinv:Inv n g env H a w):Inv n g ((t,y)::env) H a w:=by
 obtain ⟨h1,h2,K,ρ,hf,he⟩:=hinv;refine ⟨h1,h2,K,ρ,hf,fun t' av hg=>?_⟩;rw [Env.get_cons] at hg;split at hg
 ·rename_i e;subst e;simp only [Option.some.injEq] at hg;subst hg;obtain ⟨v,hv,hr⟩:=he _ _ ht;exact ⟨v,hv,h K w ρ H v hr⟩
 ·exact he _ _ hg
theorem Qq {l:List Oper} {x y:PV} (t:Nat) (h:PTells x y) (ht:env.get t=some (.pv x)) (k:AO P n g ops.toArray l ((t,.pv y)::env) H Q):AO P n g ops.toArray l env H Q :=
 ⟨fun a w hi=>k.go a w (zrp ht h.tells hi)⟩
theorem zif {t i off:Nat} {p:PV} (hp:p.notTup=true) (ht:env.get t=some (.box i off)) (hi:H.get i=some (.cell (.pv p))) (hinv:Inv n g env H a w):Inv n g ((t,.pv (.ptr p off))::env) ((i,.dead)::H) a w:=by
 obtain ⟨h1,h2,K,ρ,hf,he⟩:=hinv;obtain ⟨b,ty,arr,u,hr,hB,hheap,hu,harr,hn⟩:=hf.heap.ok i _ hi;obtain ⟨K',hK'⟩:∃ K':KK,∀ b' o,K' b' o↔(K b' o∨(b'=b∧o < arr.size)):=⟨fun b' o=>K b' o∨(b'=b∧o < arr.size),fun _ _=>Iff.rfl⟩
 have hlat:Later K K' w w:=⟨fun b o h=>(hK' b o).2 (.inl h),fun _ _ _=>rfl⟩
 have hk:∀ j,(H.get j).isSome=true→(HEnv.get ((i,.dead)::H) j).isSome=true∧ρ j=ρ j:=fun j hj=>by
  refine ⟨?_,rfl⟩;rw [HEnv.get_cons];split
  ·rfl
  ·exact hj
 have hblt:b < w.heap.size:=(Array.getElem?_eq_some_iff.1 hheap).1;have hne:∀ {j:Nat} {h:HE} {b':Nat},i≠j→H.get j=some h→h.live=true→yj (ρ j)=some b'→b'≠b:=fun {j h b'} hij hg hl hb e=>by
  subst e;exact hf.heap.apart i j _ h b' hij hi hg rfl hl zwy109 hb
 refine ⟨h1,h2,K',ρ,⟨hf.below,fun b o h=>(hK' b o).2 (.inl (hf.old b o h)),fun b' o h=>?_,fun b' o h=>?_,hf.others,hf.pt.grown hf.old (row:=some b) ⟨rfl,rfl,rfl,Nat.le_refl _,fun _ _ _=>rfl⟩ hlat (fun b2 hb2=>by cases hb2;exact hf.away i _ b hi rfl zwy109) (fun b2 o h=>(hK' b2 o).1 h |>.elim .inl (fun h=>.inr (.inl (by rw [h.1])))),hf.away.set hi rfl,?_,?_⟩,fun t' av hg=>?_⟩
 ·rcases (hK' b' o).1 h with h|⟨rfl,_⟩
  ·exact hf.new b' o h
  ·exact .inr hB
 ·rcases (hK' b' o).1 h with h|⟨rfl,_⟩
  ·exact hf.lt b' o h
  ·exact hblt
 ·intro j h hg;rw [HEnv.get_cons] at hg;split at hg
  ·simp only [Option.some.injEq] at hg;subst hg;trivial
  ·rename_i hij;have ho:=hf.heap.ok j h hg;cases h with
   | cell v =>
    obtain ⟨b',t',arr',u',hr',hB',hh',hu',ha',hn'⟩:=ho;refine ⟨b',t',arr',u',hr',hB',hh',hu'.keeps hlat hk,ha',fun o ho=>?_⟩;rcases (hK' b' o).1 ho with h|⟨h,_⟩
    ·exact hn' o h
    ·exact hne hij hg rfl (by rw [hr'];rfl) h
   | row t' sz es =>
    obtain ⟨xs,hown,h0,hc,hkk⟩:=ho;refine ⟨xs,hown,h0,fun k e he=>?_,fun b' hb o=>?_⟩
    ·obtain ⟨c1,c2⟩:=hc k e he;exact ⟨c1,fun k c hc=>let ⟨v,h4,h5,h6⟩:=c2 k c hc;⟨v,h4,h5,h6.later hlat⟩⟩
    ·rw [←hkk b' hb o,hK'];have hb2:yj (ρ j)=some b':=by
      rcases hown.2 with ⟨e,_⟩|⟨b2,cap,cur,e,_⟩
      ·rw [e] at hb;simp [Value.ownBlock] at hb
      ·rw [e] at hb ⊢;simpa [Value.ownBlock,yj] using hb
     exact ⟨fun h=>h.resolve_right fun h=>hne hij hg rfl hb2 h.1,.inl⟩
   | mrow t' sz es =>
    obtain ⟨xs,hown,h0,hc,hkk⟩:=ho;refine ⟨xs,hown,h0,fun k e he=>?_,fun b' hb o ho=>?_⟩
    ·obtain ⟨c1,c2⟩:=hc k e he;exact ⟨c1,fun k c hc=>let ⟨v,h4,h5,h6⟩:=c2 k c hc;⟨v,h4,h5,h6.later hlat⟩⟩
    ·have hb2:yj (ρ j)=some b':=by
      rcases hown.2 with ⟨e,_⟩|⟨b2,cap,cur,e,_⟩
      ·rw [e] at hb;simp [Value.ownBlock] at hb
      ·rw [e] at hb ⊢;simpa [Value.ownBlock,yj] using hb
     rcases (hK' b' o).1 ho with h|⟨h,_⟩
     ·exact hkk b' hb o h
     ·exact hne hij hg rfl hb2 h
   | dead=>trivial
   | pin v u'=>exact ARel.keeps hlat hk ho
   | obj X =>
    obtain ⟨b',ob,hr',hB',hh',hx,hn'⟩:=ho;refine ⟨b',ob,hr',hB',hh',hx,fun o ho=>?_⟩;rcases (hK' b' o).1 ho with h|⟨h,_⟩
    ·exact hn' o h
    ·exact hne hij hg rfl (by rw [hr'];rfl) h
 ·intro j k h h' b' hjk hg hg' hl hl';rw [HEnv.get_cons] at hg hg';split at hg
  ·simp only [Option.some.injEq] at hg;subst hg;simp [HE.live] at hl
  ·split at hg'
   ·simp only [Option.some.injEq] at hg';subst hg';simp [HE.live] at hl'
   ·exact hf.heap.apart j k h h' b' hjk hg hg' hl hl'
 ·rw [Env.get_cons] at hg;split at hg
  ·rename_i e;subst e;simp only [Option.some.injEq] at hg;subst hg;obtain ⟨v,hv,hrv⟩:=he _ _ ht;refine ⟨v,hv,?_⟩;cases hrv with
   | box _ _ b2 _ hr2 =>
    rw [hr] at hr2;simp only [Value.pointer.injEq,Option.some.injEq,Addr.mk.injEq,and_true] at hr2;subst hr2;cases hu with
    | pv _ _ hpr =>
     have hcr:=YP hpr;rw [harr] at hcr;have:=PRel.ptr (K:=K') (w:=w) p off b 0 arr.toList (hcr.1) (fun k x hx=>?_) (fun k c x hc hx=>(hcr.2 k c x hc hx).later hlat)
     ·exact .pv _ _ (by simpa using this)
     ·have hk:k < arr.size:=by
       rcases Nat.lt_or_ge k arr.size with h'|h'
       ·exact h'
       ·rw [List.getElem?_eq_none (by simpa using h')] at hx;cases hx
      refine ⟨(hK' b (0 + k)).2 (.inr ⟨rfl,by omega⟩),?_,?_⟩
      ·simp only [World.cell?,hheap,Nat.zero_add];simpa using hx
      ·exact cells_one hpr hp x (by rw [harr];exact List.mem_of_getElem? hx)
  ·obtain ⟨v,hv,hrv⟩:=he _ _ hg;exact ⟨v,hv,hrv.keeps hlat hk⟩
theorem QW {t i off:Nat} {p:PV} (hp:p.notTup=true) (ht:env.get t=some (.box i off)) (hi:H.get i=some (.cell (.pv p))) (k:AW P n g c ((t,.pv (.ptr p off))::env) ((i,.dead)::H) QQ):AW P n g c env H QQ :=
 ⟨fun a w hinv=>k.go a w (zif hp ht hi hinv)⟩
end
section
variable {P:Program} {g:Base} {H:HEnv} {env:Env} {tb:Tab} {o:Oper}
theorem zxn {t t':Nat} {x y:Operand} {k ky:IntKind} {m c:Int} (hop:o.op=.binOp .shl t x y t') (hx:env.pv H x=some (.base (.int k m))) (hy:env.pv H y=some (.base (.int ky c))) (h0:0≤c):QStep P g H o env (.pv (.base (.int k (k.wrap (m * 2 ^ (min c.toNat k.bits)))))):=by
 refine ⟨fun K ρ a w hf hv=>?_⟩;have hxr:=qc hf (hv x zwy69) hx;have hyr:=qc hf (hv y zwy69) hy;generalize hxv:a.eval x=xv at hxr;generalize hyv:a.eval y=yv at hyr;cases hxr;cases hyr;have hn:¬ c < 0:=by omega
 have hrun:(execOp a.eval o).run P w=.ok (.value (.int k (k.wrap (m * 2 ^ (min c.toNat k.bits))))) w:=by
  simp [execOp,hop,hxv,hyv,eqGuard,binOp,Op.shift,hn]
 rw [hrun];exact ZP hf (.pv _ _ (.base _ rfl))
theorem zwp {t t':Nat} {x y:Operand} {k ky:IntKind} {m c:Int} (hop:o.op=.binOp .shr t x y t') (hx:env.pv H x=some (.base (.int k m))) (hy:env.pv H y=some (.base (.int ky c))) (h0:0≤c):QStep P g H o env (.pv (.base (.int k (m.fdiv (2 ^ (min c.toNat k.bits)))))):=by
 refine ⟨fun K ρ a w hf hv=>?_⟩;have hxr:=qc hf (hv x zwy69) hx;have hyr:=qc hf (hv y zwy69) hy;generalize hxv:a.eval x=xv at hxr;generalize hyv:a.eval y=yv at hyr;cases hxr;cases hyr;have hn:¬ c < 0:=by omega
 have hrun:(execOp a.eval o).run P w=.ok (.value (.int k (m.fdiv (2 ^ (min c.toNat k.bits))))) w:=by
  simp [execOp,hop,hxv,hyv,eqGuard,binOp,Op.shift,hn]
 rw [hrun];exact ZP hf (.pv _ _ (.base _ rfl))
end
section
variable {P:Program} {n:Nat} {g:Base} {H:HEnv} {env:Env} {c:Code} {QQ:QC} {K:KK} {w:World} {ρ:Nat→Value}
theorem zfA (b i k:Nat) (e:TypeId) (sz:Nat) {v:AV} {cs:List AV} (hsz:0 < sz) (hb:H.get b=some (.cell v)) (hv:aggOf v=some cs) (hk:cs[k]?=some (.pv (.base (.slice none 0 0)))) (hi:H.get i=none)
  (h:AW P n g c env ((b,.cell (.agg (cs.set k (.own i))))::(i,.mrow e sz [])::H) QQ):AW P n g c env H QQ:=by
 refine ⟨fun a w hinv=>h.go a w ?_⟩;obtain ⟨h1,h2,K,ρ,hf,he⟩:=hinv;have hev:Evo K K w w:=.refl hf.lt;have hne:b≠i:=by rintro rfl;simp [hi] at hb
 have hf2:FS g K (fun j=>if j=i then .slice none 0 0 else ρ j) ((i,.mrow e sz [])::H) w:=hf.fresh hev hi ⟨[],World.ownsRow_nil w _ e sz,hsz,fun i e h=>by simp at h,by simp [Value.ownBlock]⟩ zwy112;have hkk:∀ j,(HEnv.get ((i,HE.mrow e sz [])::H) j).isSome=true→(HEnv.get ((b,.cell (.agg (cs.set k (.own i))))::(i,HE.mrow e sz [])::H) j).isSome=true∧(fun j=>if j=i then Value.slice none 0 0 else ρ j) j=(fun j=>if j=i then Value.slice none 0 0 else ρ j) j:=by
  intro j hj;refine ⟨?_,rfl⟩;simp only [HEnv.get_nil,HEnv.get_cons] at hj ⊢;split
  ·rfl
  ·exact hj
 have hlat:=hev.later hf.lt;refine ⟨h1,h2,K,fun j=>if j=i then .slice none 0 0 else ρ j,⟨hf2.below,hf2.old,hf2.new,hf2.lt,hf2.others,hf2.pt,hf2.away.set (e0:=.cell v) zwy103 rfl,?_,?_⟩,(he.keeps hlat (Za hi _ _)).keeps hlat hkk⟩
 ·intro j hh hj;simp only [HEnv.get_nil,HEnv.get_cons] at hj;split at hj
  ·rename_i e';subst e';simp only [Option.some.injEq] at hj;subst hj;have hb2:=(hf2.heap.ok b (.cell v) zwy103).keeps hev hf.lt hkk;obtain ⟨b',t',arr,u,hr,hB,hheap,hu,harr,hn⟩:=hb2;refine ⟨b',t',arr,u,hr,hB,hheap,?_,harr,hn⟩;have hu':=hu.aggOf hv;cases hu' with
   | agg _ vs a1 a2 a3 =>
    refine .agg _ vs (by simpa using a1) a2 fun m c x hc hx=>?_
    rw [List.getElem?_set] at hc;split at hc
    ·rename_i e1;subst e1;split at hc
     ·simp only [Option.some.injEq] at hc;subst hc;have:=a3 k _ x hk hx;cases this with
      | pv _ _ hp =>
       cases hp;have:=ARel.own (K:=K) (w:=w) (ρ:=fun j=>if j=i then .slice none 0 0 else ρ j) (H:=(b,.cell (.agg (cs.set k (.own i))))::(i,HE.mrow e sz [])::H) i (by simp [HEnv.get_nil,HEnv.get_cons,hne]);simpa using this
     ·cases hc
    ·exact a3 m c x hc hx
  ·exact (hf2.heap.ok j hh (by simpa only [HEnv.get_nil,HEnv.get_cons] using hj)).keeps hev hf.lt hkk
 ·intro j k' hh hh' bb hjk hj hk' hlj hlk hbj hbk;have e1:∀ (j:Nat) (hh:HE),HEnv.get ((b,.cell (.agg (cs.set k (.own i))))::(i,HE.mrow e sz [])::H) j=some hh→hh.live=true→∃ h0,HEnv.get ((i,HE.mrow e sz [])::H) j=some h0∧h0.live=true:=by
   intro j hh hj hl;rw [HEnv.get_cons] at hj;split at hj
   ·rename_i e';subst e';refine ⟨.cell v,?_,rfl⟩;simp only [HEnv.get_nil,HEnv.get_cons];rw [if_neg (Ne.symm hne)];exact hb
   ·exact ⟨hh,hj,hl⟩
  obtain ⟨a1,a2,a3⟩:=e1 j hh hj hlj;obtain ⟨b1,b2,b3⟩:=e1 k' hh' hk' hlk;exact hf2.heap.apart j k' a1 b1 bb hjk a2 b2 a3 b3 hbj hbk
end
section
variable {P:Program} {tb:Tab} {g:Base} {H:HEnv} {env:Env} {o:Oper} {K:KK} {w:World} {ρ:Nat→Value}
def AL (K:KK) (w:World) (ρ:Nat→Value) (H:HEnv) (cs:List AV) (vs:List Value):Prop:=vs.length=cs.length∧∀ (k:Nat) (c:AV) (v:Value),cs[k]?=some c→vs[k]?=some v→ARel K w ρ H c v
theorem AL.take {cs:List AV} {vs:List Value} (h:AL K w ρ H cs vs) (n:Nat):AL K w ρ H (cs.take n) (vs.take n) :=
 ⟨by simp [h.1],fun k c v hc hv=>by
  rw [List.getElem?_take] at hc hv;split at hc
  ·rename_i hk;rw [if_pos hk] at hv;exact h.2 k c v hc hv
  ·cases hc⟩
theorem AL.drop {cs:List AV} {vs:List Value} (h:AL K w ρ H cs vs) (n:Nat):AL K w ρ H (cs.drop n) (vs.drop n) :=
 ⟨by simp [h.1],fun k c v hc hv=>by
  rw [List.getElem?_drop] at hc hv;exact h.2 _ c v hc hv⟩
theorem AL.append {cs ds:List AV} {vs us:List Value} (h:AL K w ρ H cs vs) (h':AL K w ρ H ds us):AL K w ρ H (cs++ds) (vs++us) :=
 ⟨by simp [h.1,h'.1],fun k c v hc hv=>by
  rw [List.getElem?_append] at hc hv;rw [h.1] at hv;split at hc
  ·rename_i hk;rw [if_pos hk] at hv;exact h.2 k c v hc hv
  ·rename_i hk;rw [if_neg hk] at hv;exact h'.2 _ c v hc hv⟩
def znh (place:Nat→Option (Nat × Nat)):List AV→List (Nat × AV)→Option (List AV)
 | cells,[]=>some cells
 | cells,(i,p)::r =>
  match place i with
  | none=>none
  | some (off,size)=>if p.flat.length=size∧off + size≤cells.length then znh place (cells.take off++p.flat++cells.drop (off + size)) r else none
def ziz (env:Env):List (Nat × Operand)→Option (List (Nat × AV))
 | []=>some []
 | (i,x)::xs=>match env.val x,ziz env xs with|some p,some ps=>some ((i,p)::ps)|_,_=>none
theorem zj8 (place:Nat→Option (Nat × Nat)) (hrow:∀ i,isVal H i=true→(ρ i).cells=#[ρ i]∧(ρ i).oneCell'=true):∀ {ps:List (Nat × AV)} {cells cs:List AV} {vcells:Array Value} {vps:List (Nat × Value)},AL K w ρ H cells vcells.toList→ps.map (·.1)=vps.map (·.1) →
  AL K w ρ H (ps.map (·.2)) (vps.map (·.2))→(ps.all fun x=>x.2.flat.all (zjX H))=true→znh place cells ps=some cs→∃ r,Instr.fill place vcells vps=some r∧AL K w ρ H cs r.toList
 | [],cells,cs,vcells,vps,hc,hi,hp,_,h=>by
  have:vps=[]:=by simpa using hi.symm
  subst this;simp [znh] at h;subst h;exact ⟨vcells,rfl,hc⟩
 | (i,p)::ps,cells,cs,vcells,vps,hc,hi,hp,ho,h=>by
  cases vps with
  | nil=>simp at hi
  | cons x vps =>
   obtain ⟨j,v⟩:=x;simp at hi;obtain ⟨rfl,hi⟩:=hi;simp only [List.map_cons] at hp;have hpv:=hp.2 0 p v rfl rfl;have hps:AL K w ρ H (ps.map (·.2)) (vps.map (·.2)):=⟨by have:=hp.1;simpa using this,fun k c u h1 h2=>hp.2 (k + 1) c u zwy99 (by simpa using h2)⟩
   simp only [List.all_cons,Bool.and_eq_true] at ho;simp only [znh] at h;split at h
   ·cases h
   ·rename_i off size hpl;split at h
    ·rename_i hle;obtain ⟨f1,f2,f3⟩:=zcE hpv ho.1 hrow;have hcr:AL K w ρ H p.flat v.cells.toList:=⟨by simpa using f1,f3⟩
     have hsz:v.cells.size=size:=by rw [←hle.1,f1]
     have hcs:vcells.size=cells.length:=by rw [←hc.1];simp
     have hfold:=foldl_set off v.cells.toList 0 vcells zwy64;obtain ⟨r,hr1,hr2⟩:=zj8 place hrow (vcells:=(v.cells.toList.zipIdx 0).foldl (fun cs (c:Value × Nat)=>cs.setIfInBounds (off + c.2) c.1) vcells) (vps:=vps) (cells:=cells.take off++p.flat++cells.drop (off + size)) (cs:=cs)
      zwy85 zwy115 hps ho.2 h
     refine ⟨r,?_,hr2⟩;rw [←hr1];simp only [Instr.fill,hpl];rw [←Array.foldl_toList,Array.toList_zipIdx,if_neg zwy64]
    ·cases h
theorem zhP {a:Act}:∀ {xs:List (Nat × Operand)} {ps:List (Nat × AV)},(∀ x∈xs,∀ av,env.val x.2=some av→ARel K w ρ H av (a.eval x.2))→ziz env xs=some ps →
  ps.map (·.1)=xs.map (·.1)∧AL K w ρ H (ps.map (·.2)) (xs.map fun x=>a.eval x.2)
 | [],ps,_,h=>by simp [ziz] at h;subst h;exact ⟨rfl,rfl,fun k c v h=>by simp at h⟩
 | (i,x)::xs,ps,hv,h=>by
  simp only [ziz] at h;split at h
  ·rename_i p qs e1 e2;simp only [Option.some.injEq] at h;subst h;obtain ⟨r1,r2⟩:=zhP (fun y hy=>hv y zwy113) e2;refine ⟨by simp [r1],by simp [r2.1],fun k c v hc hvv=>?_⟩;cases k with
   | zero=>simp at hc hvv;subst hc hvv;exact hv (i,x) zwy63 _ e1
   | succ k=>exact r2.2 k c v zwy117 (by simpa using hvv)
  ·cases h
theorem zax (htb:yR P tb) {t:Nat} {parts:Array (Nat × Operand)} {fs:List (Nat × Nat × Nat)} {z:Value} {zs:List PV} {ps:List (Nat × AV)} {cs:List AV} (hop:o.op=.build t parts) (hk:∃ q,tb.k t=.agg fs q) (hz:tb.zero t=some z)
  (hzs:VT z.cells.toList=some zs) (hps:ziz env parts.toList=some ps) (hone:(ps.all fun x=>x.2.flat.all (zjX H))=true) (hall:(fs.all fun f=>tb.known f.2.1&&tb.size f.2.1==f.2.2)=true)
  (hcs:znh (zgr fs) (zs.map .pv) ps=some cs):QStep P g H o env (.agg cs):=by
 refine ⟨fun K ρ a w hfs hv=>?_⟩;obtain ⟨q,hk⟩:=hk;obtain ⟨F,hF,hfs',_⟩:=zb0 htb hk;obtain ⟨h1,h2⟩:=zhP (K:=K) (w:=w) (ρ:=ρ) (H:=H) (a:=a) (xs:=parts.toList) (fun x hx=>hv x.2 (by rw [hop];simp [Op.operands];exact ⟨x.1,by simpa using hx⟩)) hps;have hz0:AL K w ρ H (zs.map .pv) z.cells.toList:=by
  have:=Vu (K:=K) (w:=w) hzs;refine ⟨by rw [List.length_map];exact this.1,fun k c v hc hvv=>?_⟩;rw [List.getElem?_map] at hc;cases hk2:zs[k]? with
  | none=>simp [hk2] at hc
  | some p=>simp [hk2] at hc;subst hc;exact .pv _ _ (this.2 k p v hk2 hvv)
 obtain ⟨rr,hr1,hr2⟩:=zj8 (K:=K) (w:=w) (ρ:=ρ) (H:=H) _ (row_one hfs) (vcells:=z.cells) (vps:=parts.toList.map fun x=>(x.1,a.eval x.2)) hz0 (by simpa [List.map_map,Function.comp_def] using h1) (by simpa [List.map_map,Function.comp_def] using h2) hone hcs;have hzi:∃ i,P.info? t=some i∧i.zero=some z:=by
  unfold Tab.zero at hz;split at hz
  ·rename_i ti hti;obtain ⟨i,e1,_,_,e4,_⟩:=ZJ htb hti;exact ⟨i,e1,by rw [e4];exact hz⟩
  ·cases hz
 obtain ⟨i,hi,hiz⟩:=hzi;have hplaces:∀ (l:List Field),(∀ f∈l,f∈F.toList)→(l.mapM fun f=>(Prod.mk f.offset <$> sizeOf f.type:Sem (Nat × Nat))).run P w=.ok (l.map fun f=>(f.offset,tb.size f.type)) w:=by
  intro l;induction l with
  | nil=>intro _;simp
  | cons f l ih =>
   intro hl;have hf:f∈F.toList:=hl f zwy63;have hall':=List.all_eq_true.1 hall (f.offset,f.type,P.cellsOf f.type) zwy91;simp only [Bool.and_eq_true] at hall';have hko:tb.k f.type≠.oth:=by intro e;simp [Tab.known,e] at hall'
   have hs:=run_sizeOf htb hko w;have ih':=ih (fun f hf=>hl f (by simp [hf]));simp [List.mapM_cons,hs,ih']
 have hpl:=hplaces F.toList (fun f hf=>hf);have hfun:zgr fs=fun i=>((F.toList.map fun f=>(f.offset,tb.size f.type)).toArray)[i]?:=by
  funext i;rw [←hfs'];simp only [zgr,List.getElem?_map,List.getElem?_toArray,Array.getElem?_toList];cases hfl:F[i]? with
  | none=>rfl
  | some f =>
   simp only [Option.map_some,Option.some.injEq,Prod.mk.injEq,true_and];have hf:f∈F.toList:=by simpa using Array.mem_of_getElem? hfl
   have hall':=List.all_eq_true.1 hall (f.offset,f.type,P.cellsOf f.type) zwy91;simp only [Bool.and_eq_true,beq_iff_eq] at hall';exact hall'.2.symm
 rw [hfun] at hr1;have:(execOp a.eval o).run P w=.ok (.value (.agg rr)) w:=by
  have hm:(F.mapM fun f=>(do pure (f.offset,←sizeOf f.type):Sem (Nat × Nat))).run P w=.ok (F.toList.map fun f=>(f.offset,tb.size f.type)).toArray w:=by
   rw [Array.mapM_eq_mapM_toList];simp only [bind_pure_comp,Sem.run_map,hpl,Result.andThen_ok]
  have hp2:(parts.map fun x=>(x.1,a.eval x.2)).toList=parts.toList.map fun x=>(x.1,a.eval x.2):=by simp
  simp only [execOp,hop,Instr.build,Sem.run_bind,zeroValue,typeInfo,run_program,hi,hiz,Result.andThen_ok,Sem.run_pure,run_underlying hF,hm,hp2,hr1]
 rw [this];have hone':∀ v∈rr.toList,v.oneCell'=true:=ziV _ hr1 (Vf hzs) (by
  intro x hx v hv';obtain ⟨k,hk⟩:=List.getElem?_of_mem hx;have hk2:(parts.toList.map fun x=>a.eval x.2)[k]?=some x.2:=by
   rw [List.getElem?_map] at hk ⊢;cases hpk:parts.toList[k]? with
   | none=>rw [hpk] at hk;simp at hk
   | some y=>rw [hpk] at hk;simp at hk;subst hk;rfl
  have hlt:k < (ps.map (·.2)).length:=by rw [←h2.1];exact (List.getElem?_eq_some_iff.1 hk2).1
  have hp:=List.getElem?_eq_getElem hlt;have hall1:=List.all_eq_true.1 hone (ps[k]'zwy83) (List.getElem_mem _);exact (zcE (h2.2 k _ _ hp hk2) (by simpa using hall1) (row_one hfs)).2.1 v hv')
 exact ZP hfs (by have:=ARel.agg (K:=K) (w:=w) (ρ:=ρ) (H:=H) cs rr.toList hr2.1 hone' hr2.2;simpa using this)
theorem zk (htb:yR P tb) {ty:Nat} {x:Operand} {i off:Nat} {cs:List AV} {ps:List PV} {q:PV} (hop:o.op=.load ty x) (hx:env.val x=some (.box i off)) (hi:H.get i=some (.cell (.agg cs))) (hps:(cs.drop off).take ps.length=ps.map .pv) (hq:zcl tb ty ps 0=some q):QStep P g H o env (.pv q):=by
 refine ⟨fun K ρ a w hf hv=>?_⟩;have hxr:=hv x zwy69 _ hx;generalize hxv:a.eval x=xv at hxr;obtain ⟨b,t,arr,u,hr,hB,hheap,hu,harr,hn⟩:=hf.heap.ok i _ hi;cases hxr with
 | box _ _ b' hi' hρ =>
  rw [hr] at hρ;simp only [Value.pointer.injEq,Option.some.injEq,Addr.mk.injEq,and_true] at hρ;subst hρ;cases hu with
  | agg _ vs a1 a2 a3 =>
   have hcell:∀ (k:Nat) (v:Value),((vs.drop off).take ps.length)[k]?=some v→w.cell? ⟨b,off + k,none⟩=some v:=by
    intro k v hv;rw [List.getElem?_take] at hv;split at hv
    ·rw [List.getElem?_drop] at hv;simp only [World.cell?,hheap];rw [←harr];simpa [Value.cells] using hv
    ·cases hv
   have hrels:PRels K w ps ((vs.drop off).take ps.length):=by
    have hl:((cs.drop off).take ps.length).length=ps.length:=by rw [hps,List.length_map]
    refine ⟨by rw [List.length_take,List.length_drop] at hl ⊢;rw [a1];exact hl,fun k c v hc hv=>?_⟩;have hck:((cs.drop off).take ps.length)[k]?=some (.pv c):=by rw [hps,List.getElem?_map,hc];rfl
    rw [List.getElem?_take] at hck hv;split at hck
    ·rename_i hk;rw [if_pos hk,List.getElem?_drop] at hv;rw [List.getElem?_drop] at hck;have:=a3 _ _ _ hck hv;cases this with
     | pv _ _ hp=>exact hp
    ·cases hck
   have hone:∀ v∈(vs.drop off).take ps.length,v.oneCell'=true:=fun v hv=>a2 v (List.mem_of_mem_drop (List.mem_of_mem_take hv))
   obtain ⟨v,hv,hvr⟩:=QU htb (b:=b) (o:=off) hcell hrels hone hq;have hrun:(execOp a.eval o).run P w=.ok (.value v) w:=by
    have hv':(loadVar ty ⟨b,off,none⟩).run P w=.ok v w:=hv;simp [execOp,hop,hxv,Instr.loadAt,Instr.sureAddr,hv']
   rw [hrun];exact ZP hf (.pv _ _ hvr)
theorem aj {ty:Nat} {x:Operand} {i off:Nat} {cs:List AV} {ps:List PV} {q:PV} (htb:yR P tb:=by exact zf) (hop:o.op=.load ty x:=by exact rfl) (hx:env.val x=some (.box i off):=by exact rfl) (hi:H.get i=some (.cell (.agg cs)):=by exact rfl) (hps:(cs.drop off).take ps.length=ps.map .pv:=by exact rfl) (hq:zcl tb ty ps 0=some q:=by exact rfl):QStep P g H o env (.pv q):=zk htb hop hx hi hps hq
end
section
variable {P:Program} {tb:Tab} {n:Nat} {g:Base} {H:HEnv} {env:Env} {QQ:QC} {c:Code} {K:KK} {w:World} {ρ:Nat→Value}
theorem zdx (hf:FS g K ρ H w) {i t sz:Nat} {es:List PV} (hi:H.get i=some (.row t sz es)) {v:Value} (h:ARel K w ρ H (.own i) v):PRel K w (.slc sz es false) v :=
 zbX hf h (by simp [AV.cellPV,hi])
theorem zix (b i k:Nat) {t sz:Nat} {es:List PV} {cs:List AV} (hb:H.get b=some (.cell (.agg cs))) (hk:cs[k]?=some (.own i)) (hi:H.get i=some (.row t sz es)) (kk:AW P n g c env ((b,.cell (.agg (cs.set k (.pv (.slc sz es false)))))::H) QQ):AW P n g c env H QQ:=by
 refine ⟨fun a w hinv=>?_⟩;obtain ⟨g1,g2,K,ρ,hf,he⟩:=hinv;have hkk:∀ m,(H.get m).isSome=true→(HEnv.get ((b,.cell (.agg (cs.set k (.pv (.slc sz es false)))))::H) m).isSome=true∧ρ m=ρ m:=by
  intro m hm;refine ⟨?_,rfl⟩;rw [HEnv.get_cons];split <;> first|rfl|exact hm
 have hlv:∀ m x,HEnv.get ((b,.cell (.agg (cs.set k (.pv (.slc sz es false)))))::H) m=some x→x.live=true→∃ h0,H.get m=some h0∧h0.live=true:=by
  intro m x hm hl;rw [HEnv.get_cons] at hm;split at hm
  ·rename_i e;subst e;exact ⟨_,hb,rfl⟩
  ·exact ⟨x,hm,hl⟩
 refine kk.go a w ⟨g1,g2,K,ρ,⟨hf.below,hf.old,hf.new,hf.lt,hf.others,hf.pt,fun m x b2 hm hl hb2=>?_,fun m x hm=>?_,fun m m' x x' b2 hmm hm hm' hl hl'=>?_⟩,he.keeps (.refl K w) hkk⟩
 ·obtain ⟨h0,a1,a2⟩:=hlv m x hm hl;exact hf.away m h0 b2 a1 a2 hb2
 ·rw [HEnv.get_cons] at hm;split at hm
  ·rename_i e;subst e;simp only [Option.some.injEq] at hm;subst hm;obtain ⟨b',t',arr,x',q1,q2,q3,q4,q5,q6⟩:=hf.heap.ok b _ hb;refine ⟨b',t',arr,x',q1,q2,q3,?_,q5,q6⟩;cases q4 with
   | agg _ vs a1 a2 a3 =>
    refine .agg _ vs (by simpa using a1) a2 fun m c v hc hv=>?_
    rw [List.getElem?_set] at hc;split at hc
    ·rename_i e1;subst e1;split at hc
     ·simp only [Option.some.injEq] at hc;subst hc;exact .pv _ _ (zdx hf hi (a3 k _ v hk hv))
     ·cases hc
    ·exact (a3 m c v hc hv).keeps (.refl K w) hkk
  ·exact (hf.heap.ok m x hm).keeps (.refl hf.lt) hf.lt hkk
 ·obtain ⟨h0,a1,a2⟩:=hlv m x hm hl;obtain ⟨h0',c1,c2⟩:=hlv m' x' hm' hl';exact hf.heap.apart m m' h0 h0' b2 hmm a1 c1 a2 c2
end
section
variable {P:Program} {tb:Tab} {n:Nat} {g:Base} {H:HEnv} {env:Env} {ops:List Oper} {o:Oper} {rest:List Oper} {Q:Env→HEnv→Prop} {QQ:QC} {c:Code} {K:KK} {w:World} {ρ:Nat→Value} {a:Act}
def zkI:AV→Option Bool
 | .box _ _=>some false
 | .pv (.ptr _ _)=>some false
 | .pv (.base (.pointer none))=>some true
 | _=>none
theorem Va {t rt pe:TypeId} {x:Operand} {av:AV} {b:Bool} (hop:o.op=.binOp .eql t x (.const (.pointer none)) rt) (hu0:P.underlying t=some (.pointer pe)) (hx:env.val x=some av) (hn:zkI av=some b):QStep P g H o env (.pv (.base (.bool b))):=by
 have hu:P.underlying t=some (.pointer (P.pointee t)):=by rw [hu0,Program.pointee,hu0]
 refine ⟨fun K ρ a w hf hv=>?_⟩;have hxr:=hv x zwy69 _ hx;generalize hxv:a.eval x=xv at hxr;have key:∀ p:Option Addr,xv=.pointer p→p.isNone=b→zjI P K ρ H w (.pv (.base (.bool b))) ((execOp a.eval o).run P w):=by
  rintro p rfl rfl;have h1:=run_eql_pointer_nil (P:=P) w t p hu;have h2:a.eval (.const (.pointer none))=.pointer none:=rfl;have hrun:(execOp a.eval o).run P w=.ok (.value (.bool p.isNone)) w:=by
   simp [execOp,hop,hxv,h2,eqGuard,h1]
  rw [hrun];exact ZP hf (.pv _ _ (.base _ rfl))
 cases hxr with
 | box i off b' hi hb=>simp only [zkI,Option.some.injEq] at hn;exact key _ rfl (by simpa using hn)
 | pv p v hp =>
  cases hp with
  | ptr=>simp only [zkI,Option.some.injEq] at hn;exact key _ rfl (by simpa using hn)
  | base v hb =>
   cases xv <;> simp only [zkI] at hn <;> try cases hn
   rename_i p;cases p with
   | none=>simp only [Option.some.injEq] at hn;exact key _ rfl (by simpa using hn)
   | some ad=>cases hn
  | _=>simp [zkI] at hn
 | _=>simp [zkI] at hn
def ze9 (ρ:Nat→Value) (H:HEnv):AV→Option PV
 | .pv p=>some p
 | .own i=>match H.get i with
  | some (.mrow _ sz es)=>some (.slc sz es false)
  | some (.obj _)=>some (.base (ρ i))
  | _=>none
 | _=>none
def zm1 (ρ:Nat→Value) (H:HEnv):List AV→Option (List PV)
 | []=>some []
 | x::xs=>match ze9 ρ H x,zm1 ρ H xs with|some p,some ps=>some (p::ps)|_,_=>none
def zqD (ρ:Nat→Value) (H:HEnv):AV→Option PV
 | .box i off=>match H.get i with
  | some (.cell v)=>if v.flat.all (zjX H) then match zm1 ρ H v.flat with|some cs=>some (.ptr (.agg cs) off)|none=>none else none
  | _=>none
 | av=>ze9 ρ H av
def zdQ (K:KK) (ρ:Nat→Value) (H:HEnv):KK:=fun b o=>K b o∨(∃ i t sz es,H.get i=some (.mrow t sz es)∧(ρ i).ownBlock=some b∧o < es.length * sz)∨∃ i v,H.get i=some (.cell v)∧yj (ρ i)=some b
theorem ziM:Later K (zdQ K ρ H) w w:=⟨fun _ _ h=>.inl h,fun _ _ _=>rfl⟩
theorem zvA (hf:FS g K ρ H w):∀ b o,zdQ K ρ H b o→b < w.heap.size:=by
 rintro b o (h|⟨i,t,sz,es,hi,hb,_⟩|⟨i,v,hi,hb⟩)
 ·exact hf.lt b o h
 ·obtain ⟨us,hown,_⟩:=hf.heap.ok i _ hi;exact (hown.lt b hb).2
 ·exact ((hf.heap.ok i _ hi).block_lt rfl hb).2
theorem zgt (hf:FS g K ρ H w) {av:AV} {v:Value} (h:ARel K w ρ H av v) {p:PV} (hp:ze9 ρ H av=some p):PRel (zdQ K ρ H) w p v:=by
 cases h with
 | pv p' v h=>simp only [ze9,Option.some.injEq] at hp;subst hp;exact h.later ziM
 | own i hi0 =>
  simp only [ze9] at hp;split at hp
  ·rename_i t sz es hi;simp only [Option.some.injEq] at hp;subst hp;obtain ⟨xs,hown,h0,hcr,hnK⟩:=hf.heap.ok i _ hi;rcases hown.2 with ⟨hr,hz⟩|⟨b,cap,cur,hr,hB,hheap,hle,hcap,hsize,htake⟩
   ·rw [hr];have:es=[]:=List.eq_nil_of_length_eq_zero hz;subst this;exact .nil sz false
   ·by_cases hes:es=[]
    ·subst hes;rw [hr];exact .slc sz [] false b 0 cap (fun _=>[]) h0 (Nat.zero_le _) zwy63 zwy120 hcap (fun i e he=>by simp at he) (fun i e k c v he=>by simp at he)
    ·have hown':=hown;rw [hr] at hown' ⊢;have hxl:xs.length=es.length * sz:=hown.1;refine .slc sz es false b 0 cap (fun i=>(xs.drop (i * sz)).take sz) h0 hle zwy63 zwy62 hcap (fun k e he=>?_) (fun k e m c v he hc hvv=>?_)
     ·obtain ⟨c1,c2⟩:=hcr k e he;have hk:k < es.length:=(List.getElem?_eq_some_iff.1 he).1;have hle2:k * sz + sz≤es.length * sz:=by rw [←Nat.succ_mul];exact Nat.mul_le_mul_right _ hk
      refine ⟨c1,by rw [List.length_take,List.length_drop];omega,fun m v hm=>?_⟩;rw [List.getElem?_take] at hm;split at hm
      ·rename_i hms;rw [List.getElem?_drop] at hm;obtain ⟨u,u1,u2,_⟩:=c2 m e.cells[m] (List.getElem?_eq_getElem zwy62);rw [u1,Option.some.injEq] at hm;subst hm;exact ⟨.inr (.inl ⟨i,t,sz,es,hi,by rw [hr];rfl,by omega⟩),by rw [Nat.zero_add,hown'.cellAt _ zwy62];exact u1,u2⟩
      ·cases hm
     ·obtain ⟨c1,c2⟩:=hcr k e he;obtain ⟨u,u1,u2,u3⟩:=c2 m c hc;rw [List.getElem?_take] at hvv;split at hvv
      ·rw [List.getElem?_drop,u1,Option.some.injEq] at hvv;subst hvv;exact u3.later ziM
      ·cases hvv
  ·rename_i X hi;simp only [Option.some.injEq] at hp;subst hp;obtain ⟨b,ob,hr,_⟩:=hf.heap.ok i _ hi;exact .base _ zwy109
  ·cases hp
 | _=>simp [ze9] at hp
theorem zkE (hf:FS g K ρ H w):∀ {avs:List AV} {ps:List PV} {vs:List Value},vs.length=avs.length→(∀ (k:Nat) (c:AV) (v:Value),avs[k]?=some c→vs[k]?=some v→ARel K w ρ H c v)→zm1 ρ H avs=some ps→PRels (zdQ K ρ H) w ps vs
 | [],ps,vs,hl,_,h=>by
  simp only [zm1,Option.some.injEq] at h;subst h;have:vs=[]:=List.eq_nil_of_length_eq_zero zwy79;subst this;exact .nil
 | x::xs,ps,vs,hl,hr,h=>by
  cases vs with
  | nil=>simp at hl
  | cons v vs =>
   simp only [zm1] at h;split at h
   ·rename_i p qs e1 e2;simp only [Option.some.injEq] at h;subst h;exact .cons (zgt hf (hr 0 x v rfl rfl) e1) (zkE hf zwy79 (fun k c v hc hv=>hr (k + 1) c v zwy117 (by simpa using hv)) e2)
   ·cases h
theorem zrJ (hf:FS g K ρ H w) {av:AV} {v:Value} (h:ARel K w ρ H av v) {p:PV} (hp:zqD ρ H av=some p):PRel (zdQ K ρ H) w p v:=by
 by_cases hb:∃ i off,av=.box i off
 ·obtain ⟨i,off,rfl⟩:=hb;simp only [zqD] at hp;split at hp
  ·rename_i u hi;split at hp
   ·rename_i hone;split at hp
    ·rename_i cs hcs;simp only [Option.some.injEq] at hp;subst hp;obtain ⟨b,t,arr,x,hr,hB,hheap,hx,harr,hn⟩:=hf.heap.ok i _ hi;obtain ⟨f1,f2,f3⟩:=zcE hx hone (row_one hf);have hps:=zkE hf (by simpa using f1) f3 hcs;cases h with
     | box _ _ b' hi' hρ =>
      rw [hr] at hρ;simp only [Value.pointer.injEq,Option.some.injEq,Addr.mk.injEq,and_true] at hρ;subst hρ;have:=PRel.ptr (K:=zdQ K ρ H) (w:=w) (.agg cs) off b 0 x.cells.toList hps.1 (fun k v hk=>⟨.inr (.inr ⟨i,u,hi,by rw [hr];rfl⟩),by
       simp only [World.cell?,hheap,Nat.zero_add];rw [←harr];simpa using hk,f2 v (List.mem_of_getElem? hk)⟩) hps.2
      simpa using this
    ·cases hp
   ·cases hp
  ·cases hp
 ·have:zqD ρ H av=ze9 ρ H av:=by
   cases av <;> first|rfl|(exact absurd ⟨_,_,rfl⟩ hb)
  rw [this] at hp;exact zgt hf h hp
def cut (sz:Nat) (u:Value) (l h:Nat):Value:=match u with
 | .slice (some a) _ c=>.slice (some ⟨a.block,l * sz,none⟩) (h - l) (c - l)
 | v=>v
theorem zwD (sz:Nat) (u:Value) (l h:Nat) (hu:∃ a n c,u=.slice (some a) n c):Zm (cut sz u l h)=true:=by
 obtain ⟨a,n,c,rfl⟩:=hu;rfl
theorem zdp (htb:yR P tb) {t e d:Nat} {x:Operand} {lo hi:Option Operand} (i j:Nat) {sz:Nat} {es:List PV} {l h:Int} (hg:guardE ops env o=some true) (hop:o.op=.slice t x lo hi none) (hk:tb.k t=.sl e) (hke:tb.known e=true) (hsz:tb.size e=sz)
  (hx:env.val x=some (.own i)) (hi':H.get i=some (.mrow e sz es)) (hlo:Xj env H 0 lo=some l) (hhi:Xj env H es.length hi=some h) (h0:0≤l) (h1:l≤h) (h2:h≤es.length) (h3:l < es.length) (hj:H.get j=none) (hd:o.dst=some d) (ht:Nat.blt d n=true)
  (k:∀ u,AO P n g ops.toArray rest ((d,.pv (.base (cut sz u l.toNat h.toNat)))::env) ((j,.pin (.own i) u)::H) Q):AO P n g ops.toArray (o::rest) env H Q:=by
 refine ⟨fun a w hinv=>?_⟩;have hw:=yT hinv hg;obtain ⟨g1,g2,K,ρ,hf,he⟩:=hinv;refine wpList_step fun KK hKK=>?_
 rw [if_pos hw];have hxr:=qA he hx;generalize hxv:a.eval x=xv at hxr;have el:=zdb (a:=a) hf (x:=lo) (fun y hy av hh=>qA he hh) hlo;have eh:=zdb (a:=a) hf (x:=hi) (fun y hy av hh=>qA he hh) hhi;have hko:tb.k e≠.oth:=by intro h;simp [Tab.known,h] at hke
 have hs:=run_sizeOf htb hko w;have hh0:0≤h:=by omega
 have hlh:l≤((h.toNat:Nat):Int):=by omega
 have bounds:∀ cap:Nat,es.length≤cap→(Instr.sliceBounds true es.length cap (lo.map a.eval) (hi.map a.eval) none).run P w=.ok (l.toNat,h.toNat,cap) w:=by
  intro cap hcap;have hhc:h≤(cap:Int):=by omega
  rcases el with ⟨rfl,rfl⟩|⟨y,k,rfl,hy⟩ <;> rcases eh with ⟨rfl,rfl⟩|⟨z,k',rfl,hz⟩
  ·simp [Instr.sliceBounds]
  ·simp [hz,Instr.sliceBounds,Instr.sliceBound,asIntOf,hhc,hh0]
  ·simp [hy,Instr.sliceBounds,Instr.sliceBound,asIntOf,h0,h1]
  ·simp [hy,hz,Instr.sliceBounds,Instr.sliceBound,asIntOf,h0,hlh,hhc,hh0];intro hc;omega
 obtain ⟨xs,hown,hz0,hcr,hnK⟩:=hf.heap.ok i _ hi';cases hxr with
 | own _ hi0 =>
  rcases hown.2 with ⟨hr,hz⟩|⟨b,cap,cur,hr,hB,hheap,hle,hcap,hsize,htake⟩
  ·omega
  ·have hb:=bounds cap hle;have hrun:(execOp a.eval o).run P w=.ok (.value (cut sz (ρ i) l.toNat h.toNat)) w:=by
    rw [hr];have hne:¬ cap=l.toNat:=by omega
    simp [execOp,hop,hxv,hr,Instr.sliceAt,Instr.slice,run_underlying (qY htb hk),hb,hs,hsz,Addr.add_lit,cut,hne]
   unfold Oper.wp;rw [hrun];simp only [Oper.upon];have hkk:∀ m,(H.get m).isSome=true→(HEnv.get ((j,.pin (.own i) (ρ i))::H) m).isSome=true∧(fun m=>if m=j then undef else ρ m) m=ρ m:=by
    intro m hm;have hmj:m≠j:=by rintro rfl;rw [hj] at hm;cases hm
    refine ⟨?_,by simp [hmj]⟩;rw [HEnv.get_cons];split <;> first|rfl|exact hm
   have hij:i≠j:=by rintro rfl;rw [hj] at hi';cases hi'
   refine hKK _ _ ((k (ρ i)).go _ _ ⟨qW g1,put_defers g2,K,ρ,⟨hf.below,hf.old,hf.new,hf.lt,hf.others,hf.pt,?_,?_,?_⟩,?_⟩)
   ·intro m hh bb hm hl hbb;rw [HEnv.get_cons] at hm;split at hm
    ·simp only [Option.some.injEq] at hm;subst hm;simp [HE.live] at hl
    ·exact hf.away m hh bb hm hl hbb
   ·intro m hh hm;have hkk':∀ m,(H.get m).isSome=true→(HEnv.get ((j,.pin (.own i) (ρ i))::H) m).isSome=true∧ρ m=ρ m:=fun m hm=>⟨(hkk m hm).1,rfl⟩
    rw [HEnv.get_cons] at hm;split at hm
    ·simp only [Option.some.injEq] at hm;subst hm;have hold:ARel K w ρ H (.own i) (ρ i):=.own i (by rw [hi'];rfl);exact hold.keeps (.refl K w) hkk'
    ·exact (hf.heap.ok m hh hm).keeps (.refl hf.lt) hf.lt hkk'
   ·intro m m' hh hh' bb hmm hm hm' hl hl' hb1 hb2;have hq:∀ m hh,HEnv.get ((j,.pin (.own i) (ρ i))::H) m=some hh→hh.live=true→H.get m=some hh:=by
     intro m hh hm hl;rw [HEnv.get_cons] at hm;split at hm
     ·simp only [Option.some.injEq] at hm;subst hm;simp [HE.live] at hl
     ·exact hm
    exact hf.heap.apart m m' hh hh' bb hmm (hq m hh hm hl) (hq m' hh' hm' hl') hl hl' hb1 hb2
   ·rw [hd];refine Zo g1 ht (he.keeps (.refl K w) (fun m hm=>⟨(hkk m hm).1,rfl⟩)) (.pv _ _ (.base _ (zwD _ _ _ _ ⟨_,_,_,hr⟩)))
end
section
variable {P:Program} {tb:Tab} {n:Nat} {g:Base} {H:HEnv} {env:Env} {ops:List Oper} {o:Oper} {rest:List Oper} {Q:Env→HEnv→Prop} {QQ:QC} {c:Code} {K:KK} {w:World} {ρ:Nat→Value} {a:Act}
def zhM (ρ:Nat→Value) (H:HEnv):List AV→Option (List PV)
 | []=>some []
 | x::xs=>match zqD ρ H x,zhM ρ H xs with|some p,some ps=>some (p::ps)|_,_=>none
def zqF (ρ:Nat→Value) (H:HEnv):AV→Option PV
 | .box i off=>match H.get i with
  | some (.cell v)=>if v.flat.all (zjX H) then match zhM ρ H v.flat with|some cs=>some (.ptr (.agg cs) off)|none=>none else none
  | _=>none
 | av=>ze9 ρ H av
def zjx (ρ:Nat→Value) (env:Env) (H:HEnv):List Operand→Option (List PV)
 | []=>some []
 | x::xs=>match env.val x,zjx ρ env H xs with
  | some av,some ps=>match zqF ρ H av with|some p=>some (p::ps)|none=>none
  | _,_=>none
theorem zh0 (hf:FS g K ρ H w):∀ {avs:List AV} {ps:List PV} {vs:List Value},vs.length=avs.length→(∀ (k:Nat) (c:AV) (v:Value),avs[k]?=some c→vs[k]?=some v→ARel K w ρ H c v)→zhM ρ H avs=some ps→PRels (zdQ K ρ H) w ps vs
 | [],ps,vs,hl,_,h=>by
  simp only [zhM,Option.some.injEq] at h;subst h;have:vs=[]:=List.eq_nil_of_length_eq_zero zwy79;subst this;exact .nil
 | x::xs,ps,vs,hl,hr,h=>by
  cases vs with
  | nil=>simp at hl
  | cons v vs =>
   simp only [zhM] at h;split at h
   ·rename_i p qs e1 e2;simp only [Option.some.injEq] at h;subst h;exact .cons (zrJ hf (hr 0 x v rfl rfl) e1) (zh0 hf zwy79 (fun k c v hc hv=>hr (k + 1) c v zwy117 (by simpa using hv)) e2)
   ·cases h
theorem zrd (hf:FS g K ρ H w) {av:AV} {v:Value} (h:ARel K w ρ H av v) {p:PV} (hp:zqF ρ H av=some p):PRel (zdQ K ρ H) w p v:=by
 by_cases hb:∃ i off,av=.box i off
 ·obtain ⟨i,off,rfl⟩:=hb;simp only [zqF] at hp;split at hp
  ·rename_i u hi;split at hp
   ·rename_i hone;split at hp
    ·rename_i cs hcs;simp only [Option.some.injEq] at hp;subst hp;obtain ⟨b,t,arr,x,hr,hB,hheap,hx,harr,hn⟩:=hf.heap.ok i _ hi;obtain ⟨f1,f2,f3⟩:=zcE hx hone (row_one hf);have hps:=zh0 hf (by simpa using f1) f3 hcs;cases h with
     | box _ _ b' hi' hρ =>
      rw [hr] at hρ;simp only [Value.pointer.injEq,Option.some.injEq,Addr.mk.injEq,and_true] at hρ;subst hρ;have:=PRel.ptr (K:=zdQ K ρ H) (w:=w) (.agg cs) off b 0 x.cells.toList hps.1 (fun k v hk=>⟨.inr (.inr ⟨i,u,hi,by rw [hr];rfl⟩),by
       simp only [World.cell?,hheap,Nat.zero_add];rw [←harr];simpa using hk,f2 v (List.mem_of_getElem? hk)⟩) hps.2
      simpa using this
    ·cases hp
   ·cases hp
  ·cases hp
 ·have:zqF ρ H av=ze9 ρ H av:=by
   cases av <;> first|rfl|(exact absurd ⟨_,_,rfl⟩ hb)
  rw [this] at hp;exact zgt hf h hp
theorem zhR (hf:FS g K ρ H w):∀ {xs:List Operand} {ps:List PV},(∀ x∈xs,∀ av,env.val x=some av→ARel K w ρ H av (a.eval x))→zjx ρ env H xs=some ps→PRels (zdQ K ρ H) w ps (xs.map a.eval)
 | [],ps,_,h=>by simp [zjx] at h;subst h;exact .nil
 | x::xs,ps,hv,h=>by
  simp only [zjx] at h;split at h
  ·rename_i av qs e1 e2;split at h
   ·rename_i p e3;simp only [Option.some.injEq] at h;subst h;exact .cons (zrd hf (hv x zwy63 _ e1) e3) (zhR hf (fun y hy=>hv y zwy113) e2)
   ·cases h
  ·cases h
theorem zqf {xs:Array Operand} {ts:Array TypeId} {f:FuncId} {args:(Nat→Value)→List PV} {r:Value} (hop:o.op=.call { callee:=.value (.func f),args:=xs,argTypes:=ts }) (hargs:∀ ρ,zjx ρ env H xs.toList=some (args ρ))
  (hc:∀ ρ,ACall P f (args ρ) (.base r)):QStep P g H o env (.pv (.base r)):=by
 refine ⟨fun K ρ a w hf hv=>?_⟩;have hp:=zhR hf (a:=a) (xs:=xs.toList) (fun x hx=>hv x zwy72) (hargs ρ);have:(execOp a.eval o).run P w=.ok (.enter f (xs.toList.map a.eval).toArray) w:=by
  have e:(xs.toList.map a.eval).toArray=xs.map a.eval:=by rw [←Array.toList_map,Array.toArray_toList]
  rw [e];simp [execOp,hop,resolve,Act.eval,Deferred.ofValue,invoke,Ze (hc ρ).stands]
 rw [this];refine ⟨rfl,((hc ρ).calls _ w _ (zvA hf) hp).mono fun e w'' ⟨v,K',h1,h2,h3⟩=>?_⟩;cases h3 with
 | base _ hb=>exact ⟨_,K,h1,⟨h2.below,fun _ _ h=>h,fun _ _ h=>.inl h,fun b o h=>Nat.lt_of_lt_of_le (hf.lt b o h) h2.below.size⟩,.pv _ _ (.base _ hb)⟩
theorem zqH {x:Operand} {i off:Nat} (hop:o.op=.nilCheck x) (hx:env.val x=some (.ad i off)):QStep P g H o env (.ad i off):=by
 refine ⟨fun K ρ a w hf hv=>?_⟩;have hxr:=hv x zwy69 _ hx;generalize hxv:a.eval x=xv at hxr;cases hxr with
 | ad _ _ b m c hi hb =>
  have hrun:(execOp a.eval o).run P w=.ok (.value (.pointer (some ⟨b,off,none⟩))) w:=by simp [execOp,hop,hxv]
  rw [hrun];exact ZP hf (.ad i off b m c hi hb)
theorem zqQ (htb:yR P tb) {t f:Nat} {x:Operand} {i off o' ft s:Nat} {fs:List (Nat × Nat × Nat)} (hop:o.op=.fieldAddr t x f) (hx:env.val x=some (.ad i off)) (hk:∃ q,tb.k t=.agg fs q) (hfe:fs[f]?=some (o',ft,s)) (hs:zeM tb ft s=true):QStep P g H o env (.ad i (off + o')):=by
 refine ⟨fun K ρ a w hf hv=>?_⟩;obtain ⟨q,hk⟩:=hk;simp only [zeM,Bool.and_eq_true,bne_iff_ne,beq_iff_eq] at hs;obtain ⟨F,hF,hfs',_⟩:=zb0 htb hk;have hf':∃ fl:Field,F[f]?=some fl∧fl.offset=o'∧fl.type=ft:=by
  rw [←hfs',List.getElem?_map,Array.getElem?_toList] at hfe;cases hfl:F[f]? with
  | none=>simp [hfl] at hfe
  | some fl=>simp [hfl] at hfe;exact ⟨fl,rfl,hfe.1,hfe.2.1⟩
 obtain ⟨fl,hfl,rfl,rfl⟩:=hf';have hko:tb.k fl.type≠.oth:=by intro e;simp [Tab.known,e] at hs
 have hsz:=run_sizeOf htb hko w;have hne:tb.size fl.type≠0:=by omega
 have hxr:=hv x zwy69 _ hx;generalize hxv:a.eval x=xv at hxr;cases hxr with
 | ad _ _ b m c hi hb =>
  have hrun:(execOp a.eval o).run P w=.ok (.value (.pointer (some ⟨b,off + fl.offset,none⟩))) w:=by
   simp [execOp,hop,Instr.fieldAt,run_underlying hF,hfl,hxv,Instr.sureAddr,fieldPlace,hsz,hne,Addr.add_lit]
  rw [hrun];exact ZP hf (.ad i (off + fl.offset) b m c hi hb)
theorem ztp (htb:yR P tb) {ty e:Nat} {x:Operand} {i sz:Nat} {es:List PV} (hop:o.op=.call { callee:=.builtin .len,args:=#[x],argTypes:=#[ty] }) (hx:env.val x=some (.own i)) (hi:H.get i=some (.mrow e sz es)) (hk:tb.k ty=.sl e):QStep P g H o env (.pv (.base (.int .i64 es.length))):=by
 refine ⟨fun K ρ a w hf hv=>?_⟩;have hxr:=hv x zwy70 _ hx;generalize hxv:a.eval x=xv at hxr;obtain ⟨us,hown,hsz,hcr,hKK'⟩:=hf.heap.ok i _ hi;cases hxr with
 | own _ _ =>
  have hrun:(execOp a.eval o).run P w=.ok (.value (.int .i64 es.length)) w:=by
   have hl:∃ ad c,ρ i=.slice ad es.length c:=by
    rcases hown.2 with ⟨h,h2⟩|⟨b,cap,cur,h,_⟩
    ·exact ⟨none,0,by rw [h,h2]⟩
    ·exact ⟨_,_,h⟩
   obtain ⟨ad,c,hl⟩:=hl;simp [execOp,hop,resolve,invoke,builtin,Builtin.len_,hxv,hl,run_underlying (qY htb hk),goInt]
  rw [hrun];exact ZP hf (.pv _ _ (.base _ rfl))
theorem ztZ (i j:Nat) (hi:(H.get i).isSome=true) (_:H.get j=none) (k:∀ u,AW P n g c env ((j,.pin (.own i) u)::H) QQ):AW P n g c env H QQ:=by
 refine ⟨fun a w hinv=>?_⟩;obtain ⟨g1,g2,K,ρ,hf,he⟩:=hinv;have hkk:∀ m,(H.get m).isSome=true→(HEnv.get ((j,.pin (.own i) (ρ i))::H) m).isSome=true∧ρ m=ρ m:=by
  intro m hm;refine ⟨?_,rfl⟩;rw [HEnv.get_cons];split <;> first|rfl|exact hm
 have hlive:∀ m hh,HEnv.get ((j,.pin (.own i) (ρ i))::H) m=some hh→hh.live=true→H.get m=some hh:=by
  intro m hh hm hl;rw [HEnv.get_cons] at hm;split at hm
  ·simp only [Option.some.injEq] at hm;subst hm;simp [HE.live] at hl
  ·exact hm
 refine (k (ρ i)).go a w ⟨g1,g2,K,ρ,⟨hf.below,hf.old,hf.new,hf.lt,hf.others,hf.pt,fun m hh bb hm hl hb=>hf.away m hh bb (hlive m hh hm hl) hl hb,fun m hh hm=>?_,fun m m' hh hh' bb hmm hm hm' hl hl'=>hf.heap.apart m m' hh hh' bb hmm (hlive m hh hm hl) (hlive m' hh' hm' hl') hl hl'⟩,he.keeps (.refl K w) hkk⟩;rw [HEnv.get_cons] at hm;split at hm
 ·simp only [Option.some.injEq] at hm;subst hm;have hold:ARel K w ρ H (.own i) (ρ i):=.own i hi;exact hold.keeps (.refl K w) hkk
 ·exact (hf.heap.ok m hh hm).keeps (.refl hf.lt) hf.lt hkk
theorem zkY (i:Nat) {t sz:Nat} {es es':List PV} (hi:H.get i=some (.mrow t sz es)) (e:es=es') (k:AW P n g c env ((i,.mrow t sz es')::H) QQ):AW P n g c env H QQ:=by
 subst e;refine ⟨fun a w hinv=>?_⟩;obtain ⟨g1,g2,K,ρ,hf,he⟩:=hinv;have heq:∀ m,HEnv.get ((i,.mrow t sz es)::H) m=H.get m:=by
  intro m;rw [HEnv.get_cons];split
  ·rename_i e;subst e;exact hi.symm
  ·rfl
 have hkk:∀ m,(H.get m).isSome=true→(HEnv.get ((i,.mrow t sz es)::H) m).isSome=true∧ρ m=ρ m:=fun m hm=>⟨by rw [heq];exact hm,rfl⟩
 refine k.go a w ⟨g1,g2,K,ρ,⟨hf.below,hf.old,hf.new,hf.lt,hf.others,hf.pt,fun m hh bb hm=>hf.away m hh bb (by rw [←heq];exact hm),fun m hh hm=>?_,fun m m' hh hh' bb hmm hm hm'=>hf.heap.apart m m' hh hh' bb hmm (by rw [←heq];exact hm) (by rw [←heq];exact hm')⟩,he.keeps (.refl K w) hkk⟩;rw [heq] at hm;exact (hf.heap.ok m hh hm).keeps (.refl hf.lt) hf.lt hkk
theorem ACallM.tells {f:FuncId} {args args':List AV} {H':HEnv} {r:AV} {lone:Bool} (h:ACallM P f args H r H' lone) (hl:args'.length=args.length) (ht:∀ (k:Nat) (c c':AV),args[k]?=some c→args'[k]?=some c'→c'=c∨∃ p p',c=.pv p∧c'=.pv p'∧PTells p' p):ACallM P f args' H r H' lone :=
 ⟨h.stands,fun g K ρ w vs hw1 hf hv=>h.calls g K ρ w vs hw1 hf ⟨by rw [hv.1,hl],fun k c v hc hvv=>by
  have hlt:k < args'.length:=by rw [hl];exact (List.getElem?_eq_some_iff.1 hc).1
  have hr:=hv.2 k _ v (List.getElem?_eq_getElem hlt) hvv;rcases ht k c _ hc (List.getElem?_eq_getElem hlt) with e|⟨p,p',rfl,e,hp⟩
  ·rw [e] at hr;exact hr
  ·rw [e] at hr;cases hr with
   | pv _ _ hr=>exact .pv _ _ (hp _ _ _ hr)⟩⟩
end
section
variable {P:Program} {n:Nat} {g:Base} {K:KK} {w:World} {ρ:Nat→Value} {H:HEnv} {env:Env} {ops l:List Oper} {Q:Env→HEnv→Prop} {c:Code} {QQ:QC}
theorem zcf {j:Nat} {h:HE}:∀ m,(H.get m).isSome=true→(HEnv.get ((j,h)::H) m).isSome=true∧ρ m=ρ m:=by
 intro m hm;refine ⟨?_,rfl⟩;rw [HEnv.get_cons];split <;> first|rfl|exact hm
theorem zld {j:Nat} {p:PV} {u:Value} (hf:FS g K ρ H w) (hr:PRel K w p u):FS g K ρ ((j,.pin (.pv p) u)::H) w:=by
 have hlive:∀ m hh,HEnv.get ((j,.pin (.pv p) u)::H) m=some hh→hh.live=true→H.get m=some hh:=by
  intro m hh hm hl;rw [HEnv.get_cons] at hm;split at hm
  ·simp only [Option.some.injEq] at hm;subst hm;simp [HE.live] at hl
  ·exact hm
 refine ⟨hf.below,hf.old,hf.new,hf.lt,hf.others,hf.pt,fun m hh bb hm hl hb=>hf.away m hh bb (hlive m hh hm hl) hl hb,fun m hh hm=>?_,fun m m' hh hh' bb hmm hm hm' hl hl'=>hf.heap.apart m m' hh hh' bb hmm (hlive m hh hm hl) (hlive m' hh' hm' hl') hl hl'⟩;rw [HEnv.get_cons] at hm;split at hm
 ·simp only [Option.some.injEq] at hm;subst hm;exact .pv _ _ hr
 ·exact (hf.heap.ok m hh hm).keeps (.refl hf.lt) hf.lt zcf
theorem Xz {j:Nat} {p:PV} {u:Value} (hf:FS g K ρ H w) (hj:H.get j=some (.pin (.pv p) u)):PRel K w p u:=by
 have:ARel K w ρ H (.pv p) u:=hf.heap.ok j _ hj;cases this with|pv _ _ h=>exact h
theorem zcB {sz:Nat} {es:List PV} {full:Bool} {u:Value} (h:PRel K w (.slc sz es full) u):Zm u=true:=by
 cases h <;> rfl
theorem znS (j:Nat) (p:PV) (u:Value) (hp:∀ K ρ w,FS g K ρ H w→PRel K w p u) (k:AW P n g c env ((j,.pin (.pv p) u)::H) QQ):AW P n g c env H QQ:=by
 refine ⟨fun a w hinv=>?_⟩;obtain ⟨g1,g2,K,ρ,hf,he⟩:=hinv;exact k.go a w ⟨g1,g2,K,ρ,zld hf (hp K ρ w hf),he.keeps (.refl K w) zcf⟩
theorem zrB (t j:Nat) {sz:Nat} {es:List PV} {full:Bool} (hg:env.get t=some (.pv (.slc sz es full))) (k:∀ u,AO P n g ops.toArray l ((t,.pv (.base u))::env) ((j,.pin (.pv (.slc sz es full)) u)::H) Q):AO P n g ops.toArray l env H Q:=by
 refine ⟨fun a w hinv=>?_⟩;obtain ⟨g1,g2,K,ρ,hf,he⟩:=hinv;obtain ⟨u,u1,u2⟩:=he _ _ hg;have hr:PRel K w (.slc sz es full) u:=by cases u2 with|pv _ _ h=>exact h
 refine (k u).go a w ⟨g1,g2,K,ρ,zld hf hr,fun t' av' h'=>?_⟩;rw [Env.get_cons] at h';split at h'
 ·rename_i e1;subst e1;simp only [Option.some.injEq] at h';subst h';exact ⟨u,u1,.pv _ _ (.base _ (zcB hr))⟩
 ·obtain ⟨v,v1,v2⟩:=he t' av' h';exact ⟨v,v1,v2.keeps (.refl K w) zcf⟩
theorem zsh (t j:Nat) {sz:Nat} {es:List PV} {full:Bool} (hg:env.get t=some (.pv (.slc sz es full))) (k:∀ u,AW P n g c ((t,.pv (.base u))::env) ((j,.pin (.pv (.slc sz es full)) u)::H) QQ):AW P n g c env H QQ:=by
 refine ⟨fun a w hinv=>?_⟩;obtain ⟨g1,g2,K,ρ,hf,he⟩:=hinv;obtain ⟨u,u1,u2⟩:=he _ _ hg;have hr:PRel K w (.slc sz es full) u:=by cases u2 with|pv _ _ h=>exact h
 refine (k u).go a w ⟨g1,g2,K,ρ,zld hf hr,fun t' av' h'=>?_⟩;rw [Env.get_cons] at h';split at h'
 ·rename_i e1;subst e1;simp only [Option.some.injEq] at h';subst h';exact ⟨u,u1,.pv _ _ (.base _ (zcB hr))⟩
 ·obtain ⟨v,v1,v2⟩:=he t' av' h';exact ⟨v,v1,v2.keeps (.refl K w) zcf⟩
theorem zvl {ps:List PV} {us:List Value} {p:PV} {u:Value} (h:PRel K w (.tup ps) (.tuple us.toArray)) (hp:PRel K w p u) (i:Nat):PRel K w (.tup (ps.set i p)) (.tuple (us.set i u).toArray):=by
 generalize hv:Value.tuple us.toArray=v at h;cases h with
 | tup _ vs hl hh =>
  simp only [Value.tuple.injEq,Array.mk.injEq] at hv;have hv:us=vs:=by simpa using hv
  subst hv;refine .tup _ _ (by simp [hl]) fun k c v hc hv=>?_
  rw [List.getElem?_set] at hc hv;by_cases e:i=k
  ·rw [if_pos e] at hc hv;split at hc
   ·split at hv
    ·simp only [Option.some.injEq] at hc hv;subst hc hv;exact hp
    ·cases hv
   ·cases hc
  ·rw [if_neg e] at hc hv;exact hh k c v hc hv
theorem zv0 {ps:List PV} {us:List Value} {p:PV} {u:Value} (h:PRel K w (.tup ps) (.tuple us.toArray)) (hp:PRel K w p u):PRel K w (.tup (ps++[p])) (.tuple (us++[u]).toArray):=by
 generalize hv:Value.tuple us.toArray=v at h;cases h with
 | tup _ vs hl hh =>
  have hv:us=vs:=by simpa using hv
  subst hv;refine .tup _ _ (by simp [hl]) fun k c v hc hv=>?_
  by_cases e:k < ps.length
  ·rw [List.getElem?_append_left e] at hc;rw [List.getElem?_append_left zwy62] at hv;exact hh k c v hc hv
  ·have e2:=(List.getElem?_eq_some_iff.1 hc).1;have e3:k=ps.length:=by simp at e2;omega
   rw [e3,List.getElem?_concat_length] at hc;rw [e3,←hl,List.getElem?_concat_length] at hv;simp only [Option.some.injEq] at hc hv;subst hc hv;exact hp
theorem zgx {ps:List PV} {us:List Value} {p:PV} {u:Value} {i:Nat} (h:PRel K w (.tup ps) (.tuple us.toArray)) (h1:ps[i]?=some p) (h2:us[i]?=some u):PRel K w p u:=by
 generalize hv:Value.tuple us.toArray=v at h;cases h with
 | tup _ vs hl hh =>
  have hv:us=vs:=by simpa using hv
  subst hv;exact hh i p u h1 h2
theorem zlV {ps:List PV} {us:List Value} (h:PRel K w (.tup ps) (.tuple us.toArray)):us.length=ps.length:=by
 generalize hv:Value.tuple us.toArray=v at h;cases h with
 | tup _ vs hl hh =>
  have hv:us=vs:=by simpa using hv
  subst hv;exact hl
theorem zet (t:Nat) (_:(env.get t).isSome=true) (j:Nat) (p:PV) (u:Value) (env2:Env) (H2:HEnv) (hp:∀ K ρ w,FS g K ρ H w→PRel K w p u) (hs:Sub env env2) (hH:Yj ((j,.pin (.pv p) u)::H) H2 env2) (k:AW P n g c env2 H2 QQ):AW P n g c env H QQ :=
 znS j p u hp ⟨fun a w hi=>k.go a w ((hi.sub hs).hsub hH)⟩
end
end Go.Cg

