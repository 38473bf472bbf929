/- A part of the walks by abstract values: no statement of its own. -/
import Derived.Test.YtdbgicaoddibdaaGreatT1
import Derived.Great.BuildSlice
set_option linter.unusedVariables false
set_option linter.unusedSimpArgs false
namespace Go.Cg
open Go.RowKit
section
variable {g:Base} {K K' K'':KK} {w w' w'':World} {ρ:Nat→Value} {H:HEnv}
theorem Evo.refl (hl:∀ b o,K b o→b < w.heap.size):Evo K K w w:=⟨.refl _ _,fun _ _ h=>h,fun _ _ h=>.inl h,hl⟩
theorem Evo.trans (h:Evo K K' w w') (h':Evo K' K'' w' w''):Evo K K'' w w'' :=
 ⟨h.below.trans (h'.below.mono h.below.size),fun b o k=>h'.sub b o (h.sub b o k),
  fun b o k=>(h'.new b o k).elim (h.new b o) (fun h2=>.inr (Nat.le_trans h.below.size h2)),h'.lt⟩
theorem Evo.later (h:Evo K K' w w') (hl:∀ b o,K b o→b < w.heap.size):Later K K' w w' :=
 ⟨h.sub,fun b o hk=>h.below.cell (p:=⟨b,o,none⟩) (hl b o hk)⟩
theorem Evo.drew (h:Evo K K' w w'):Evo K K' w w'.drew:=⟨h.below.drew,h.sub,h.new,h.lt⟩
theorem ARel.later (h:Later K K' w w') {av:AV} {v:Value} (ha:ARel K w ρ H av v):ARel K' w' ρ H av v:=by
 induction ha with
 | pv p v hp=>exact .pv p v (hp.later h)
 | own i hv=>exact .own i hv
 | box i off b hi hb=>exact .box i off b hi hb
 | ad i off b m c hi hb=>exact .ad i off b m c hi hb
 | agg cs vs hl h1 _ ih=>exact .agg cs vs hl h1 ih
 | fn f first cap vf vc h1 h2 _ _ ih1 ih2=>exact .fn f first cap vf vc h1 h2 ih1 ih2
 | any v=>exact .any v
 | any1 v h1 h2=>exact .any1 v h1 h2
theorem EnvR.later (h:Later K K' w w') {env:Env} {tmps:Array Value} (he:EnvR K w ρ H env tmps):EnvR K' w' ρ H env tmps :=
 fun t av ht=>let ⟨v,h1,h2⟩:=he t av ht;⟨v,h1,h2.later h⟩
theorem HRel.evo {B:Nat} (hl:∀ b o,K b o→b < w.heap.size) (h:Evo K K' w w') (hh:HRel K w B ρ H):HRel K' w' B ρ H:=by
 refine ⟨fun i e hi=>?_,hh.apart⟩;have h1:=hh.ok i e hi;generalize ρ i=r at h1 ⊢;have hlat:=h.later hl;cases e with
 | cell v =>
  obtain ⟨b,t,arr,u,rfl,hB,hb,hu,ha,hn⟩:=h1;have hlt:b < w.heap.size:=(Array.getElem?_eq_some_iff.1 hb).1;exact ⟨b,t,arr,u,rfl,hB,by rw [h.below.block b hlt];exact hb,hu.later hlat,ha,fun o ho=>(h.new b o ho).elim (hn o) (fun h2=>by omega)⟩
 | row t sz es =>
  obtain ⟨xs,hown,h0,hc,hk⟩:=h1;refine ⟨xs,hown.kept (row:=none) ⟨h.below.os,h.below.tape,h.below.output,h.below.size,fun k hk _=>h.below.block k hk⟩ ?_,h0,?_,?_⟩
  ·cases hb:r.ownBlock <;> simp
  ·intro i e he;obtain ⟨h2,h3⟩:=hc i e he;exact ⟨h2,fun k c hc=>let ⟨v,h4,h5,h6⟩:=h3 k c hc;⟨v,h4,h5,h6.later hlat⟩⟩
  ·intro b hb o;rw [←hk b hb o];have hlt:=(hown.lt b hb).2;exact ⟨fun ho=>(h.new b o ho).resolve_right zwy62,h.sub b o⟩
 | mrow t sz es =>
  obtain ⟨xs,hown,h0,hc,hk⟩:=h1;refine ⟨xs,hown.kept (row:=none) ⟨h.below.os,h.below.tape,h.below.output,h.below.size,fun k hk _=>h.below.block k hk⟩ ?_,h0,?_,?_⟩
  ·cases hb:r.ownBlock <;> simp
  ·intro i e he;obtain ⟨h2,h3⟩:=hc i e he;exact ⟨h2,fun k c hc=>let ⟨v,h4,h5,h6⟩:=h3 k c hc;⟨v,h4,h5,h6.later hlat⟩⟩
  ·intro b hb o ho;have hlt:=(hown.lt b hb).2;exact (h.new b o ho).elim (hk b hb o) (fun h2=>by omega)
 | dead=>trivial
 | pin v u=>exact ARel.later hlat h1
 | obj X =>
  obtain ⟨b,ob,rfl,hB,hb,hx,hn⟩:=h1;have hlt:b < w.heap.size:=(Array.getElem?_eq_some_iff.1 hb).1;exact ⟨b,ob,rfl,hB,by rw [h.below.block b hlt];exact hb,hx,fun o ho=>(h.new b o ho).elim (hn o) (fun h2=>by omega)⟩
theorem FS.evo (hf:FS g K ρ H w) (h:Evo K K' w w'):FS g K' ρ H w' :=
 ⟨hf.below.trans (h.below.mono hf.below.size),fun b o k=>h.sub b o (hf.old b o k),
  fun b o k=>(h.new b o k).elim (hf.new b o) (fun h2=>.inr (Nat.le_trans hf.below.size h2)),h.lt,hf.others.trans (zlY h.below),hf.pt.grown hf.old (row:=none) ⟨h.below.os,h.below.tape,h.below.output,h.below.size,fun k hk _=>h.below.block k hk⟩ (h.later hf.lt) (fun _ h=>by cases h) (fun b o hk=>(h.new b o hk).elim .inl (fun h=>.inr (.inr h))),hf.away,hf.heap.evo hf.lt h⟩
end
def zjI (P:Program) (K:KK) (ρ:Nat→Value) (H:HEnv) (w:World) (r:AV):Result Next→Prop
 | .ok (.value v) w'=>∃ K',Evo K K' w w'∧ARel K' w' ρ H r v
 | .ok (.enter f args) w'=>w'=w∧Calls P f args w (fun e w''=>∃ v K',e=.returned v∧Evo K K' w w''∧ARel K' w'' ρ H r v)
 | _=>False
structure QStep (P:Program) (g:Base) (H:HEnv) (o:Oper) (env:Env) (r:AV):Prop where
 go:∀ (K:KK) (ρ:Nat→Value) (a:Act) (w:World),FS g K ρ H w→(∀ x∈o.op.operands,∀ av,env.val x=some av→ARel K w ρ H av (a.eval x))→zjI P K ρ H w r ((execOp a.eval o).run P w)
def zqG (op:BinOp) (k:IntKind) (a b:Int):Option Value :=
 match op with
 | .eql=>some (.bool (a==b))
 | .neq=>some (.bool (a != b))
 | .lss=>some (.bool (decide (a < b)))
 | .leq=>some (.bool (decide (a≤b)))
 | .gtr=>some (.bool (decide (b < a)))
 | .geq=>some (.bool (decide (b≤a)))
 | .add=>some (.int k (k.wrap (a + b)))
 | .sub=>some (.int k (k.wrap (a - b)))
 | .mul=>some (.int k (k.wrap (a * b)))
 | .quo=>if b=0 then none else some (.int k (k.wrap (a.tdiv b)))
 | .rem=>if b=0 then none else some (.int k (a.tmod b))
 | .and=>some (.int k (k.wrap (BitVec.ofInt k.bits a &&& BitVec.ofInt k.bits b).toNat))
 | .or=>some (.int k (k.wrap (BitVec.ofInt k.bits a ||| BitVec.ofInt k.bits b).toNat))
 | .xor=>some (.int k (k.wrap (BitVec.ofInt k.bits a ^^^ BitVec.ofInt k.bits b).toNat))
 | .andNot=>some (.int k (k.wrap (BitVec.ofInt k.bits a &&& ~~~ BitVec.ofInt k.bits b).toNat))
 | _=>none
def zwn (op:BinOp) (a b:ByteArray):Option Value :=
 match op with
 | .eql=>some (.bool (a.toList==b.toList))
 | .neq=>some (.bool (!(a.toList==b.toList)))
 | .lss=>some (.bool (Op.bytesLess a.toList b.toList))
 | _=>none
def zcl (tb:Tab) (t:Nat) (cs:List PV) (off:Nat):Option PV :=
 match tb.k t with
 | .oth=>none
 | .agg _ _|.arr _ _=>if off + tb.size t≤cs.length then some (.agg ((cs.drop off).take (tb.size t))) else none
 | _=>cs[off]?
def zuF (tb:Tab) (eq:Nat→PV→PV→Option Bool):List (Nat × Nat × Nat)→List PV→List PV→Option Bool
 | [],_,_=>some true
 | (o,t,_)::fs,xs,ys =>
  match zcl tb t xs o,zcl tb t ys o with
  | some a,some b=>match eq t a b,zuF tb eq fs xs ys with
   | some r,some r'=>some (r&&r')
   | _,_=>none
  | _,_=>none
def eqE (tb:Tab):Nat→Nat→PV→PV→Option Bool
 | 0,_,_,_=>none
 | d + 1,t,x,y =>
  match tb.k t,x,y with
  | .int _,.base (.int k a),.base (.int k' b)=>if k=k' then some (a==b) else none
  | .bool,.base (.bool a),.base (.bool b)=>some (a==b)
  | .str,.base (.string a),.base (.string b)=>some (a.toList==b.toList)
  | .agg fs true,.agg xs,.agg ys=>zuF tb (eqE tb d) fs xs ys
  | _,_,_=>none
def zwt (tb:Tab) (op:BinOp) (t:Nat) (x y:PV):Option Value :=
 match x,y with
 | .base (.int k a),.base (.int k' b)=>if k=k' then zqG op k a b else none
 | .base (.string a),.base (.string b)=>zwn op a b
 | .base (.bool a),.base (.bool b)=>match tb.k t,op with
  | .bool,.eql=>some (.bool (a==b))
  | .bool,.neq=>some (.bool (!(a==b)))
  | _,_=>none
 | .agg xs,.agg ys=>match op with
  | .eql=>match eqE tb 8 t (.agg xs) (.agg ys) with|some b=>some (.bool b)|none=>none
  | .neq=>match eqE tb 8 t (.agg xs) (.agg ys) with|some b=>some (.bool (!b))|none=>none
  | _=>none
 | _,_=>none
section
variable {P:Program} {tb:Tab} {K:KK} {w:World}
theorem zcz (htb:yR P tb) {t:Nat} {cs:List PV} {vs:List Value} (hr:PRels K w cs vs) (ho:∀ v∈vs,v.oneCell'=true) {off:Nat} {p:PV} (h:zcl tb t cs off=some p) (w1:World) :
  ∃ v,(part t vs.toArray off).run P w1=.ok v w1∧PRel K w p v:=by
 unfold zcl at h;have hk:tb.k t≠.oth:=by intro e;simp [e] at h
 have h1:=WB htb hk w1;have h2:=run_sizeOf htb hk w1;have agg:(tb.k t).isAgg=true→(if off + tb.size t≤cs.length then some (PV.agg ((cs.drop off).take (tb.size t))) else none)=some p→∃ v,(part t vs.toArray off).run P w1=.ok v w1∧PRel K w p v:=by
  intro ha h;split at h
  ·rename_i hle;simp only [Option.some.injEq] at h;subst h;refine ⟨.agg (vs.toArray.extract off (off + tb.size t)),by simp only [part,Sem.run_bind,h1,h2,ha,Result.andThen_ok,if_true,Sem.run_pure],?_⟩;have he:vs.toArray.extract off (off + tb.size t)=((vs.drop off).take (tb.size t)).toArray:=by simp [List.extract_toArray,List.extract_eq_take_drop]
   rw [he];refine .agg _ _ (by simp [hr.1]) (fun v hv=>ho v (List.mem_of_mem_drop (List.mem_of_mem_take hv))) fun k c v hc hv=>?_
   rw [List.getElem?_take] at hc hv;split at hc
   ·rename_i hlt;simp only [hlt,if_true,List.getElem?_drop] at hc hv;exact hr.2 _ c v hc hv
   ·cases hc
  ·cases h
 have sc:(tb.k t).isAgg=false→cs[off]?=some p→∃ v,(part t vs.toArray off).run P w1=.ok v w1∧PRel K w p v:=by
  intro ha h;have hlt:off < vs.length:=by
   rw [hr.1];rcases Nat.lt_or_ge off cs.length with h'|h'
   ·exact h'
   ·rw [List.getElem?_eq_none h'] at h;cases h
  refine ⟨vs[off],?_,hr.2 off p _ h (List.getElem?_eq_getElem hlt)⟩;simp [part,h1,ha,List.getElem?_eq_getElem hlt]
 cases hkk:tb.k t <;> simp only [hkk] at h agg sc <;> first|(exact absurd hkk hk)|(exact agg rfl h)|(exact sc rfl h)
theorem zmR (htb:yR P tb) (d:Nat) (eq:Nat→PV→PV→Option Bool)
  (ih:∀ t x y vx vy b,PRel K w x vx→PRel K w y vy→eq t x y=some b→∀ w1,(Op.equalIn d t vx vy).run P w1=.ok b w1)
  {xs ys:List PV} {vx vy:List Value} (hx:PRels K w xs vx) (hy:PRels K w ys vy) (hox:∀ v∈vx,v.oneCell'=true) (hoy:∀ v∈vy,v.oneCell'=true):∀ (F:List Field) (b:Bool),(F.all fun f=>f.name != "_")=true →
  zuF tb eq (F.map fun f=>(f.offset,f.type,P.cellsOf f.type)) xs ys=some b→∀ w1,(Op.eqFields d vx.toArray vy.toArray F).run P w1=.ok b w1
 | [],b,_,h,w1=>by simp [zuF] at h;subst h;simp [Op.eqFields]
 | f::F,b,hn,h,w1=>by
  simp only [List.all_cons,Bool.and_eq_true] at hn;simp only [List.map_cons,zuF] at h;split at h
  ·rename_i a c ha hc;split at h
   ·rename_i r r' h1 h2;simp only [Option.some.injEq] at h;subst h;obtain ⟨va,hva,hra⟩:=zcz htb hx hox ha w1;obtain ⟨vc,hvc,hrc⟩:=zcz htb hy hoy hc w1;have e1:=ih _ _ _ _ _ _ hra hrc h1 w1;have e2:=zmR htb d eq ih hx hy hox hoy F r' hn.2 h2 w1;have hne:f.name ≠ "_" := by simpa using hn.1
    simp only [Op.eqFields,hne,ne_eq,not_false_iff,if_true,Sem.run_bind,hva,hvc,e1,Result.andThen_ok,Sem.run_ite,Sem.run_pure,e2];cases r <;> simp
   ·cases h
  ·cases h
theorem zqJ (htb:yR P tb):∀ (d t:Nat) (x y:PV) (vx vy:Value) (b:Bool),PRel K w x vx→PRel K w y vy→eqE tb d t x y=some b→∀ d' w1,(Op.equalIn (d + d') t vx vy).run P w1=.ok b w1
 | 0,_,_,_,_,_,_,_,_,h,_,_=>by simp [eqE] at h
 | d + 1,t,x,y,vx,vy,b,hx,hy,h,d',w1=>by
  rw [show d + 1 + d'=(d + d') + 1 by omega];unfold eqE at h;split at h
  ·rename_i k' k a k'' b' hk;split at h
   ·rename_i hkk;simp only [Option.some.injEq] at h;subst hkk h;cases hx;cases hy;exact run_equalIn_int w1 _ t k k' a b' (Xi htb hk)
   ·cases h
  ·rename_i a b' hk;simp only [Option.some.injEq] at h;subst h;cases hx;cases hy;exact run_equalIn_bool' w1 _ t a b' (ziS htb hk)
  ·rename_i a b' hk;simp only [Option.some.injEq] at h;subst h;cases hx;cases hy;exact run_equalIn_string w1 _ t a b' (zk1 htb hk)
  ·rename_i fs xs ys hk;obtain ⟨F,hF,hfs,hq⟩:=zb0 htb hk;simp only [Bool.and_eq_true,Bool.not_eq_true'] at hq;have hof:P.fieldsOf t=F:=by simp [Program.fieldsOf,hF]
   cases hx with
   | agg _ vx hlx hox hrx =>
    cases hy with
    | agg _ vy hly hoy hry =>
     rw [run_equalIn_agg w1 _ t _ _ (by rw [hof];exact hF) hq.1.1,hof];subst hfs;exact zmR htb (d + d') (eqE tb d) (fun t x y vx vy b h1 h2 h3 w1=>zqJ htb d t x y vx vy b h1 h2 h3 d' w1) ⟨hlx,hrx⟩ ⟨hly,hry⟩ hox hoy F.toList b hq.2 h w1
  ·cases h
theorem zsC {op:BinOp} {k:IntKind} {a b:Int} {v:Value} (h:zqG op k a b=some v) (t:Nat) (w1:World):(binOp op t (.int k a) (.int k b)).run P w1=.ok v w1:=by
 cases op <;> simp only [zqG,Option.some.injEq] at h <;>
  first
  | (subst h;simp [binOp,Op.intArith,Op.intCmp,Op.intBits];done)
  | (split at h
     ·cases h
     ·rename_i hb;simp only [Option.some.injEq] at h;subst h;simp [binOp,Op.intDiv,hb])
  | cases h
omit P K w in
theorem zvv {d t:Nat} {xs ys:List PV} {b:Bool} (h:eqE tb (d + 1) t (.agg xs) (.agg ys)=some b):∃ fs,tb.k t=.agg fs true:=by
 cases hk:tb.k t <;> simp only [eqE,hk] at h <;> first|cases h|skip
 rename_i fs q;cases q
 ·simp at h
 ·exact ⟨fs,rfl⟩
theorem zts (htb:yR P tb) {op:BinOp} {t:Nat} {x y:PV} {vx vy v:Value} (hx:PRel K w x vx) (hy:PRel K w y vy) (h:zwt tb op t x y=some v) (ox oy:Operand) (w1:World) :
  (do eqGuard op t ox oy vx vy;binOp op t vx vy:Sem Value).run P w1=.ok v w1∧Zm v=true:=by
 unfold zwt at h;split at h
 ·rename_i k a k' b;split at h
  ·rename_i hk;subst hk;cases hx;cases hy;refine ⟨?_,?_⟩
   ·have:=zsC (P:=P) h t w1;cases op <;> simp [eqGuard,this]
   ·cases op <;> simp only [zqG,Option.some.injEq] at h <;> first
     | (subst h;rfl)
     | cases h
     | (split at h
        ·cases h
        ·simp only [Option.some.injEq] at h;subst h;rfl)
  ·cases h
 ·rename_i a b;cases hx;cases hy;cases op <;> simp only [zwn,Option.some.injEq] at h <;> first|(subst h;exact ⟨by simp [eqGuard,binOp,Op.stringOp],rfl⟩)|cases h
 ·rename_i a b;cases hx;cases hy;split at h
  ·rename_i hk;simp only [Option.some.injEq] at h;subst h;have:=run_eql_bool (P:=P) w1 t a b (ziS htb hk);exact ⟨by simp [eqGuard,this],rfl⟩
  ·rename_i hk;simp only [Option.some.injEq] at h;subst h;have:=run_neq_bool (P:=P) w1 t a b (ziS htb hk);exact ⟨by simp [eqGuard,this],rfl⟩
  ·cases h
 ·rename_i xs ys;have key:∀ b,eqE tb 8 t (.agg xs) (.agg ys)=some b→(Op.equalIn 10000 t vx vy).run P w1=.ok b w1∧∃ cx cy,vx=.agg cx∧vy=.agg cy∧P.eqGuardType P.depth t=false:=by
   intro b hb;refine ⟨zqJ htb 8 t _ _ vx vy b hx hy hb 9992 w1,?_⟩;obtain ⟨fs,hk⟩:=zvv hb;cases hx with
   | agg _ vx' _ _ _ =>
    cases hy with
    | agg _ vy' _ _ _ =>
     obtain ⟨F,hF,hfs,hq⟩:=zb0 htb hk;simp only [Bool.and_eq_true,Bool.not_eq_true'] at hq;exact ⟨_,_,rfl,rfl,hq.1.2⟩
  split at h
  ·split at h
   ·rename_i b hb;simp only [Option.some.injEq] at h;subst h;obtain ⟨h1,cx,cy,rfl,rfl,h2⟩:=key b hb;refine ⟨?_,rfl⟩;rw [Sem.run_bind,run_eqGuard_agg w1 _ t ox oy cx cy h2,Result.andThen_ok,run_eql_struct,h1];rfl
   ·cases h
  ·split at h
   ·rename_i b hb;simp only [Option.some.injEq] at h;subst h;obtain ⟨h1,cx,cy,rfl,rfl,h2⟩:=key b hb;refine ⟨?_,rfl⟩;rw [Sem.run_bind,run_eqGuard_agg w1 _ t ox oy cx cy h2,Result.andThen_ok,run_neq_struct,h1];rfl
   ·cases h
  ·cases h
 ·cases h
end
def zpq (tb:Tab) (t:Nat) (p:PV) (off:Nat):Bool :=
 match p with
 | .agg cs=>(tb.k t).isAgg&&off==0&&cs.length==tb.size t
 | _=>false
def zdd (tb:Tab) (t:Nat) (p:PV) (off:Nat):Option PV:=if zpq tb t p off then some p else zcl tb t p.cells off
def WY:TK→Bool
 | .oth|.agg _ _|.arr _ _=>false
 | _=>true
def Qk (tb:Tab) (H:HEnv) (t:Nat) (v:AV) (off:Nat):Option AV :=
 match v with
 | .any=>none
 | .any1=>none
 | .own j=>match H.get j with|some (.row _ _ _)=>if off==0&&WY (tb.k t) then some v else none|some (.obj _)=>if off==0&&WY (tb.k t) then some v else none|some (.mrow _ _ _)=>if off==0&&WY (tb.k t) then some v else none|_=>none
 | .pv p=>match p.notTup,zdd tb t p off with|true,some q=>some (.pv q)|_,_=>none
 | .agg cs=>if (tb.k t).isAgg&&off==0&&cs.length==tb.size t then some v else if WY (tb.k t) then cs[off]? else none
 | _=>if off==0&&WY (tb.k t) then some v else none
def zcy:Nat→List (Nat × Operand)→Option (List Operand)
 | _,[]=>some []
 | k,(i,x)::r=>if i=k then match zcy (k + 1) r with|some l=>some (x::l)|none=>none else none
def pvs (env:Env) (H:HEnv):List Operand→Option (List PV)
 | []=>some []
 | x::xs=>match env.pv H x,pvs env H xs with|some p,some ps=>some (p::ps)|_,_=>none
def zc6 (env:Env) (H:HEnv):List (Nat × Operand)→Option (List (Nat × PV))
 | []=>some []
 | (i,x)::xs=>match env.pv H x,zc6 env H xs with|some p,some ps=>some ((i,p)::ps)|_,_=>none
def zmb (place:Nat→Option (Nat × Nat)):List PV→List (Nat × PV)→Option (List PV)
 | cells,[]=>some cells
 | cells,(i,p)::r =>
  match place i with
  | none=>none
  | some (off,size)=>if p.cells.length=size∧off + size≤cells.length then zmb place (cells.take off++p.cells++cells.drop (off + size)) r else none
def VT:List Value→Option (List PV)
 | []=>some []
 | v::r=>if Zm v then match VT r with|some l=>some (.base v::l)|none=>none else none
def Tab.zero (tb:Tab) (t:Nat):Option Value:=match tb.get t with|some ti=>ti.zero|none=>none
def vals (env:Env):List Operand→Option (List AV)
 | []=>some []
 | x::xs=>match env.val x,vals env xs with|some p,some ps=>some (p::ps)|_,_=>none
def zxs (tb:Tab) (t:Nat) (p:PV):Option Int :=
 match tb.k t,p with
 | .sl _,.slc _ es _=>some es.length
 | .sl _,.base (.slice _ n _)=>some n
 | .str,.base (.string s)=>some s.size
 | _,_=>none
def Tab.known (tb:Tab) (t:Nat):Bool:=match tb.k t with|.oth=>false|_=>true
def zeM (tb:Tab) (t s:Nat):Bool:=s != 0&&tb.known t&&tb.size t==s
def zgr (fs:List (Nat × Nat × Nat)) (i:Nat):Option (Nat × Nat):=match fs[i]? with|some (o',_,s)=>some (o',s)|none=>none
def opE (tb:Tab) (H:HEnv) (env:Env) (o:Oper):Option AV :=
 match o.op with
 | .move x=>env.val x
 | .assign x=>env.val x
 | .pick c a b=>match env.val c with
  | some (.pv (.base (.bool true)))=>env.val a
  | some (.pv (.base (.bool false)))=>env.val b
  | _=>none
 | .box _ x=>match env.pv H x with|some p=>some (.pv (.ptr p 0))|none=>none
 | .load t x=>match env.val x with
  | some (.pv (.ptr p off))=>match zdd tb t p off with|some q=>some (.pv q)|none=>none
  | some (.box i off)=>match H.get i with|some (.cell v)=>Qk tb H t v off|_=>none
  | _=>none
 | .fieldAddr t x f=>match tb.k t with
  | .agg fs _=>match fs[f]? with
   | some (o',ft,s)=>match zeM tb ft s,env.val x with
    | true,some (.pv (.ptr p off))=>some (.pv (.ptr p (off + o')))
    | true,some (.box i off)=>some (.box i (off + o'))
    | _,_=>none
   | none=>none
  | _=>none
 | .field t x f=>match tb.k t with
  | .agg fs _=>match fs[f]? with
   | some (o',ft,_)=>match env.pv H x with
    | some (.agg cs)=>match zcl tb ft cs o' with|some q=>some (.pv q)|none=>none
    | _=>none
   | none=>none
  | _=>none
 | .binOp op t x y _=>match env.pv H x,env.pv H y with
  | some p,some q=>match zwt tb op t p q with|some v=>some (.pv (.base v))|none=>none
  | _,_=>none
 | .unOp op _ x=>match op,env.val x with
  | .not,some (.pv (.base (.bool b)))=>some (.pv (.base (.bool (!b))))
  | .neg,some (.pv (.base (.int k n)))=>some (.pv (.base (.int k (k.wrap (0 - n)))))
  | _,_=>none
 | .convert s d x=>match tb.k s,tb.k d,env.val x with
  | .int _,.int k,some (.pv (.base (.int _ n)))=>some (.pv (.base (.int k (k.wrap n))))
  | _,_,_=>none
 | .extract x i=>match env.val x with
  | some (.pv (.tup vs))=>match vs[i]? with|some p=>some (.pv p)|none=>none
  | _=>none
 | .makeFunc fn first cap=>match vals env first.toList,vals env cap.toList with
  | some a,some b=>match VQ H a,VQ H b with
   | some pa,some pb=>some (.pv (.fn fn pa pb))
   | _,_=>some (.fn fn a b)
  | _,_=>none
 | .call c=>match c.callee,c.args.toList,c.argTypes.toList with
  | .builtin .len,[x],[t]=>match env.pv H x with
   | some p=>match zxs tb t p with|some n=>some (.pv (.base (.int .i64 n)))|none=>none
   | none=>none
  | _,_,_=>none
 | .nilCheck x=>match env.val x with
  | some (.pv (.ptr p off))=>some (.pv (.ptr p off))
  | some (.box i off)=>some (.box i off)
  | some (.pv (.fn (.func f) a b))=>some (.pv (.fn (.func f) a b))
  | some (.fn (.func f) a b)=>some (.fn (.func f) a b)
  | _=>none
 | .build t parts=>match tb.k t,tb.zero t with
  | .agg fs _,some z=>if (tb.size t=0) then none else match VT z.cells.toList,zc6 env H parts.toList with
   | some zs,some ps=>if (fs.all fun f=>tb.known f.2.1&&tb.size f.2.1==f.2.2) then match zmb (zgr fs) zs ps with
     | some cs=>some (.pv (.agg cs))
     | none=>none
    else none
   | _,_=>none
  | _,_=>none
 | .buildSlice t len parts=>match tb.k t with
  | .sl e=>match zcy 0 parts.toList with
   | some xs=>match pvs env H xs with
    | some ps=>if ps.length=len∧0 < len∧len * tb.size e≤16777216∧0 < tb.size e∧(tb.zero e).isSome∧(ps.all fun p=>p.cells.length==tb.size e) then some (.pv (.slc (tb.size e) ps true)) else none
    | none=>none
   | none=>none
  | _=>none
 | _=>none
section
variable {P:Program} {tb:Tab} {g:Base} {K:KK} {w:World} {ρ:Nat→Value} {H:HEnv} {env:Env} {a:Act}
def zsU (K:KK) (w:World) (ρ:Nat→Value) (H:HEnv) (env:Env) (a:Act) (xs:List Operand):Prop :=
 ∀ x∈xs,∀ av,env.val x=some av→ARel K w ρ H av (a.eval x)
theorem zc7 (hfs:FS g K ρ H w):∀ {xs:List Operand} {ps:List PV},zsU K w ρ H env a xs→pvs env H xs=some ps→PRels K w ps (xs.map a.eval)
 | [],ps,_,h=>by simp [pvs] at h;subst h;exact .nil
 | x::xs,ps,hv,h=>by
  simp only [pvs,Env.pv] at h;split at h
  ·rename_i p ps' h1 h2;simp only [Option.some.injEq] at h;subst h;split at h1
   ·rename_i av hav;exact .cons (zc1 hfs (hv x zwy63 av hav) h1) (zc7 hfs (fun y hy=>hv y zwy113) h2)
   ·cases h1
  ·cases h
theorem ziK (hfs:FS g K ρ H w):∀ {xs:List (Nat × Operand)} {ps:List (Nat × PV)},(∀ x∈xs,∀ av,env.val x.2=some av→ARel K w ρ H av (a.eval x.2))→zc6 env H xs=some ps →
  ps.map (·.1)=xs.map (·.1)∧PRels K w (ps.map (·.2)) (xs.map fun x=>a.eval x.2)
 | [],ps,_,h=>by simp [zc6] at h;subst h;exact ⟨rfl,.nil⟩
 | (i,x)::xs,ps,hv,h=>by
  simp only [zc6,Env.pv] at h;split at h
  ·rename_i p ps' h1 h2;simp only [Option.some.injEq] at h;subst h;split at h1
   ·rename_i av hav;obtain ⟨h3,h4⟩:=ziK hfs (fun y hy=>hv y zwy113) h2;exact ⟨by simp [h3],.cons (zc1 hfs (hv (i,x) zwy63 av hav) h1) h4⟩
   ·cases h1
  ·cases h
theorem ziW:∀ {xs:List Operand} {ps:List AV},zsU K w ρ H env a xs→vals env xs=some ps→(xs.map a.eval).length=ps.length∧∀ (k:Nat) (c:AV) (v:Value),ps[k]?=some c→(xs.map a.eval)[k]?=some v→ARel K w ρ H c v
 | [],ps,_,h=>by simp [vals] at h;subst h;exact ⟨rfl,by simp⟩
 | x::xs,ps,hv,h=>by
  simp only [vals] at h;split at h
  ·rename_i p ps' h1 h2;simp only [Option.some.injEq] at h;subst h;obtain ⟨h3,h4⟩:=ziW (fun y hy=>hv y zwy113) h2;refine ⟨by simp at h3 ⊢;omega,fun k c v hc hv'=>?_⟩;cases k with
   | zero=>simp at hc hv';subst hc hv';exact hv x zwy63 _ h1
   | succ k=>simp at hc hv';exact h4 k c v hc (by simpa using hv')
  ·cases h
theorem Vu:∀ {vs:List Value} {ps:List PV},VT vs=some ps→PRels K w ps vs
 | [],ps,h=>by simp [VT] at h;subst h;exact .nil
 | v::vs,ps,h=>by
  simp only [VT] at h;split at h
  ·rename_i h1;split at h
   ·rename_i l hl;simp only [Option.some.injEq] at h;subst h;exact .cons (.base v h1) (Vu hl)
   ·cases h
  ·cases h
theorem PRels.append {ps qs:List PV} {vs us:List Value} (h:PRels K w ps vs) (h':PRels K w qs us):PRels K w (ps++qs) (vs++us):=by
 refine ⟨by simp [h.1,h'.1],fun k c v hc hv=>?_⟩;by_cases hk:k < ps.length
 ·rw [List.getElem?_append_left hk] at hc;rw [List.getElem?_append_left (by rw [h.1];exact hk)] at hv;exact h.2 k c v hc hv
 ·rw [List.getElem?_append_right zwy62] at hc;rw [List.getElem?_append_right (by rw [h.1];omega),h.1] at hv;exact h'.2 _ c v hc hv
theorem PRels.take {ps:List PV} {vs:List Value} (h:PRels K w ps vs) (n:Nat):PRels K w (ps.take n) (vs.take n):=by
 refine ⟨by simp [h.1],fun k c v hc hv=>?_⟩;rw [List.getElem?_take] at hc hv;split at hc
 ·rename_i hlt;simp only [hlt,if_true] at hv;exact h.2 k c v hc hv
 ·cases hc
theorem PRels.drop {ps:List PV} {vs:List Value} (h:PRels K w ps vs) (n:Nat):PRels K w (ps.drop n) (vs.drop n):=by
 refine ⟨by simp [h.1],fun k c v hc hv=>?_⟩;rw [List.getElem?_drop] at hc hv;exact h.2 _ c v hc hv
theorem foldl_set (off:Nat):∀ (l:List Value) (k:Nat) (cells:Array Value),off + k + l.length≤cells.size →
  ((l.zipIdx k).foldl (fun cs (c:Value × Nat)=>cs.setIfInBounds (off + c.2) c.1) cells).toList=cells.toList.take (off + k)++l++cells.toList.drop (off + k + l.length)
 | [],k,cells,_=>by simp
 | v::l,k,cells,h=>by
  simp only [List.length_cons] at h;simp only [List.zipIdx_cons,List.foldl_cons];rw [foldl_set off l (k + 1) _ zwy64];simp only [Array.toList_setIfInBounds,List.length_cons];apply List.ext_getElem?;intro j;simp only [List.getElem?_append,List.length_take,List.length_append,List.length_set,Array.length_toList,List.getElem?_take,List.getElem?_drop,List.getElem?_set];by_cases h1:j < off + k
  ·have:j < off + (k + 1):=by omega
   have e1:min (off + (k + 1)) cells.size=off + (k + 1):=by omega
   have e2:min (off + k) cells.size=off + k:=by omega
   simp [e1,e2,h1,this,show ¬ off + k=j by omega,show j < off + (k + 1) + l.length by omega,show j < off + k + (l.length + 1) by omega]
  ·by_cases h2:j=off + k
   ·subst h2;have e1:min (off + (k + 1)) cells.size=off + (k + 1):=by omega
    have e2:min (off + k) cells.size=off + k:=by omega
    simp [e1,e2,show off + k < off + (k + 1) + l.length by omega,show off + k < off + (k + 1) by omega,show off + k < cells.size by omega]
   ·have e1:min (off + (k + 1)) cells.size=off + (k + 1):=by omega
    have e2:min (off + k) cells.size=off + k:=by omega
    have e3:j - (off + k)=(j - (off + (k + 1))) + 1:=by omega
    by_cases h3:j < off + (k + 1) + l.length
    ·simp [e1,e2,e3,h1,h3,show ¬ j < off + (k + 1) by omega,show j < off + k + (l.length + 1) by omega]
    ·simp [e1,e2,h1,h3,show ¬ j < off + k + (l.length + 1) by omega,show off + (k + 1) + l.length + (j - (off + (k + 1) + l.length))=off + k + (l.length + 1) + (j - (off + k + (l.length + 1))) by omega,
      show ¬ off + k=off + k + (l.length + 1) + (j - (off + k + (l.length + 1))) by omega]
theorem zmO (place:Nat→Option (Nat × Nat)):∀ {ps:List (Nat × PV)} {cells cs:List PV} {vcells:Array Value} {vps:List (Nat × Value)},PRels K w cells vcells.toList→ps.map (·.1)=vps.map (·.1) →
  PRels K w (ps.map (·.2)) (vps.map (·.2))→zmb place cells ps=some cs→∃ r,Instr.fill place vcells vps=some r∧PRels K w cs r.toList
 | [],cells,cs,vcells,vps,hc,hi,hp,h=>by
  have:vps=[]:=by simpa using hi.symm
  subst this;simp [zmb] at h;subst h;exact ⟨vcells,rfl,hc⟩
 | (i,p)::ps,cells,cs,vcells,vps,hc,hi,hp,h=>by
  cases vps with
  | nil=>simp at hi
  | cons x vps =>
   obtain ⟨j,v⟩:=x;simp at hi;obtain ⟨rfl,hi⟩:=hi;simp only [List.map_cons] at hp;obtain ⟨v',vs',hv,hpv,hps⟩:=hp.cons_inv;simp only [List.cons.injEq] at hv;obtain ⟨rfl,rfl⟩:=hv;simp only [zmb] at h;split at h
   ·cases h
   ·rename_i off size hpl;split at h
    ·rename_i hle;have hcr:=YP hpv;have hsz:v.cells.size=size:=by rw [←hle.1,←hcr.1];simp
     have hcs:vcells.size=cells.length:=by rw [←hc.1];simp
     have hfold:=foldl_set off v.cells.toList 0 vcells zwy64;obtain ⟨r,hr1,hr2⟩:=zmO place (vcells:=(v.cells.toList.zipIdx 0).foldl (fun cs (c:Value × Nat)=>cs.setIfInBounds (off + c.2) c.1) vcells) (vps:=vps) (cells:=cells.take off++p.cells++cells.drop (off + size)) (cs:=cs)
      zwy85 zwy115 hps h
     refine ⟨r,?_,hr2⟩;rw [←hr1];simp only [Instr.fill,hpl];rw [←Array.foldl_toList,Array.toList_zipIdx,if_neg zwy64]
    ·cases h
theorem zdO (off:Nat) (u:Value):∀ (l:List (Value × Nat)) (cells:Array Value),u∈(l.foldl (fun cs (c:Value × Nat)=>cs.setIfInBounds (off + c.2) c.1) cells).toList→u∈cells.toList∨u∈l.map (·.1)
 | [],cells,h=>.inl h
 | x::l,cells,h=>by
  rcases zdO off u l _ h with h|h
  ·rw [Array.toList_setIfInBounds] at h;rcases List.mem_or_eq_of_mem_set h with h|h
   ·exact .inl h
   ·exact .inr zwy88
  ·exact .inr (by simp at h ⊢;exact .inr h)
theorem ziV (place:Nat→Option (Nat × Nat)):∀ {vps:List (Nat × Value)} {vcells r:Array Value},Instr.fill place vcells vps=some r→(∀ v∈vcells.toList,v.oneCell'=true)→(∀ x∈vps,∀ v∈x.2.cells.toList,v.oneCell'=true) →
  ∀ v∈r.toList,v.oneCell'=true
 | [],vcells,r,h,h1,_=>by simp [Instr.fill] at h;subst h;exact h1
 | (i,v)::vps,vcells,r,h,h1,h2=>by
  simp only [Instr.fill] at h;split at h
  ·cases h
  ·rename_i off size hp;split at h
   ·cases h
   ·refine ziV place h ?_ (fun x hx=>h2 x (by simp [hx]));intro u hu;rw [←Array.foldl_toList,Array.toList_zipIdx] at hu;rcases zdO off u _ _ hu with hu|hu
    ·exact h1 u hu
    ·exact h2 (i,v) zwy63 u (by simpa using hu)
theorem zdM:∀ {xs:List (Nat × Operand)} {ps:List (Nat × PV)},zc6 env H xs=some ps→∀ x∈ps,x.2.notTup=true
 | [],ps,h=>by simp [zc6] at h;subst h;simp
 | (i,x)::xs,ps,h=>by
  simp only [zc6,Env.pv] at h;split at h
  ·rename_i p ps' h1 h2;simp only [Option.some.injEq] at h;subst h;split at h1
   ·intro y hy;rcases List.mem_cons.1 hy with rfl|hy
    ·exact zcO h1
    ·exact zdM h2 y hy
   ·cases h1
  ·cases h
theorem zjt:∀ {xs:List Operand} {ps:List PV},pvs env H xs=some ps→∀ x∈ps,x.notTup=true
 | [],ps,h=>by simp [pvs] at h;subst h;simp
 | x::xs,ps,h=>by
  simp only [pvs,Env.pv] at h;split at h
  ·rename_i p ps' h1 h2;simp only [Option.some.injEq] at h;subst h;split at h1
   ·intro y hy;rcases List.mem_cons.1 hy with rfl|hy
    ·exact zcO h1
    ·exact zjt h2 y hy
   ·cases h1
  ·cases h
theorem Vf:∀ {vs:List Value} {ps:List PV},VT vs=some ps→∀ v∈vs,v.oneCell'=true
 | [],ps,_=>by simp
 | v::vs,ps,h=>by
  simp only [VT] at h;split at h
  ·rename_i h1;split at h
   ·rename_i l hl;intro u hu;rcases List.mem_cons.1 hu with rfl|hu
    ·exact zi0 h1
    ·exact Vf hl u hu
   ·cases h
  ·cases h
end
section
variable {P:Program} {tb:Tab} {g:Base} {K:KK} {w:World} {ρ:Nat→Value} {H:HEnv} {env:Env} {a:Act}
def zce (K:KK) (w:World) (n:Nat):KK:=fun b o=>K b o∨(b=w.heap.size∧o < n)
theorem zah (hl:∀ b o,K b o→b < w.heap.size) (arr:Array Value) (t:TypeId) (n:Nat):Evo K (zce K w n) w (w.alloc (.cells arr t)) :=
 ⟨(Below.refl _ _).alloc (Nat.le_refl _) _,fun b o h=>.inl h,fun b o h=>h.imp id (fun ⟨h1,_⟩=>by omega),fun b o h=>by
  simp only [World.size_alloc];rcases h with h|⟨h,_⟩
  ·have:=hl b o h;omega
  ·omega⟩
theorem zjw (arr:Array Value) (t:TypeId) (n:Nat) (hn:arr.size≤n) (ho:∀ v∈arr.toList,v.oneCell'=true):Rows (zce K w n) (w.alloc (.cells arr t)) w.heap.size 0 arr.toList:=by
 intro k v hv;have hk:k < arr.size:=by
  rcases Nat.lt_or_ge k arr.size with h'|h'
  ·exact h'
  ·rw [List.getElem?_eq_none (by simpa using h')] at hv;cases hv
 refine ⟨.inr ⟨rfl,by omega⟩,?_,ho v (List.mem_of_getElem? hv)⟩;rw [World.cell?_alloc_new];simpa using hv
theorem QU (htb:yR P tb) {t b o:Nat} {vs:List Value} (hr:∀ k v,vs[k]?=some v→w.cell? ⟨b,o + k,none⟩=some v) {cs:List PV} (hp:PRels K w cs vs) (ho:∀ v∈vs,v.oneCell'=true) {off:Nat} {p:PV} (h:zcl tb t cs off=some p) :
  ∃ v,(loadVar t ⟨b,o + off,none⟩).run P w=.ok v w∧PRel K w p v:=by
 have hk:tb.k t≠.oth:=by intro e;simp [zcl,e] at h
 have h1:=WB htb hk w;have h2:=run_sizeOf htb hk w;obtain ⟨v,hv,hpv⟩:=zcz htb hp ho h w;refine ⟨v,?_,hpv⟩;simp only [part,loadVar,Sem.run_bind,h1,h2,Result.andThen_ok] at hv ⊢;cases ha:(tb.k t).isAgg
 ·simp only [ha,Bool.false_eq_true,if_false,run_load] at hv ⊢;cases hx:vs[off]? with
  | none=>simp [hx] at hv
  | some u =>
   simp [hx] at hv;rw [hr off u hx,hv]
 ·simp only [ha,if_true] at hv ⊢;have hle:off + tb.size t≤vs.length:=by
   rw [hp.1];unfold zcl at h;by_cases hc:off + tb.size t≤cs.length
   ·exact hc
   ·cases hkk:tb.k t <;> simp only [hkk] at h ha <;> first|(simp [TK.isAgg] at ha;done)|(simp [hc] at h)
  have e2:∀ (α:Type) (f:Nat→Sem α),(sizeOf t >>= f).run P w=(f (tb.size t)).run P w:=fun α f=>by simp [h2]
  have hl:=run_loadCells_list (P:=P) w ⟨b,o + off,none⟩ ((vs.drop off).take (tb.size t)) (fun j u hu=>by
   rw [List.getElem?_take] at hu;split at hu
   ·rw [List.getElem?_drop] at hu;rw [Addr.add_lit,Nat.add_assoc];exact hr _ u hu
   ·cases hu)
  have hlen:((vs.drop off).take (tb.size t)).length=tb.size t:=by simp;omega
  rw [hlen] at hl;rw [e2] at hv ⊢;simp only [Sem.run_bind,Result.andThen_ok,hl,Sem.run_pure] at hv ⊢;rw [←hv];simp [List.extract_toArray,List.extract_eq_take_drop]
theorem zci (htb:yR P tb) {t:Nat} {p q:PV} {off:Nat} {v:Value} (hp:PRel K w (.ptr p off) v) (h:zdd tb t p off=some q) :
  ∃ u,(Instr.loadAt t v).run P w=.ok u w∧PRel K w q u:=by
 cases hp with
 | ptr _ _ b o vs hl hr hc =>
  simp only [Instr.loadAt,Instr.sureAddr,Sem.run_bind,Sem.run_pure,Result.andThen_ok];have hone:∀ v∈vs,v.oneCell'=true:=fun v hv=>by obtain ⟨k,hk⟩:=List.getElem?_of_mem hv;exact (hr k v hk).2.2
  unfold zdd at h;split at h
  ·rename_i hw;simp only [Option.some.injEq] at h;subst h;unfold zpq at hw;split at hw
   ·rename_i cs;simp only [Bool.and_eq_true,beq_iff_eq] at hw;obtain ⟨⟨h1,h2⟩,h3⟩:=hw;subst h2;have hk:tb.k t≠.oth:=by intro e;simp [e,TK.isAgg] at h1
    have e1:=WB htb hk w;have e2:=run_sizeOf htb hk w;have hll:=run_loadCells_list (P:=P) w ⟨b,o,none⟩ vs (fun j u hu=>by rw [Addr.add_lit];exact (hr j u hu).2.1);simp only [PV.cells] at hl hc;rw [hl,h3] at hll;refine ⟨.agg vs.toArray,by simp [loadVar,e1,e2,h1,hll],.agg cs vs hl hone hc⟩
   ·cases hw
  ·exact QU htb (fun k v hv=>(hr k v hv).2.1) ⟨hl,hc⟩ hone h
theorem qc (hfs:FS g K ρ H w) {x:Operand} (hv:∀ av,env.val x=some av→ARel K w ρ H av (a.eval x)) {p:PV} (h:env.pv H x=some p):PRel K w p (a.eval x):=by
 unfold Env.pv at h;split at h
 ·rename_i av hav;exact zc1 hfs (hv av hav) h
 ·cases h
theorem VB (htb:yR P tb) (hfs:FS g K ρ H w) {t i off:Nat} {v:Value} {c r:AV} (hb:ARel K w ρ H (.box i off) v) (hi:H.get i=some (.cell c)) (h:Qk tb H t c off=some r) :
  ∃ u,(Instr.loadAt t v).run P w=.ok u w∧ARel K w ρ H r u:=by
 cases hb with
 | box _ _ b hs hρ =>
  obtain ⟨b',t',arr,u,hbb,hB,hheap,hu,harr,hn⟩:=hfs.heap.ok i _ hi;rw [hρ] at hbb;simp only [Value.pointer.injEq,Option.some.injEq,Addr.mk.injEq] at hbb;obtain ⟨rfl,_⟩:=hbb;simp only [Instr.loadAt,Instr.sureAddr,Sem.run_bind,Sem.run_pure,Result.andThen_ok];have hcell:∀ k x,arr.toList[k]?=some x→w.cell? ⟨b,0 + k,none⟩=some x:=by
   intro k x hx;simp only [World.cell?,hheap,Nat.zero_add];simpa using hx
  have scalar:∀ (x:Value),arr=#[x]→WY (tb.k t)=true→(loadVar t ⟨b,0,none⟩).run P w=.ok x w:=by
   intro x hx hs;have hk:tb.k t≠.oth:=by intro e;simp [e,WY] at hs
   have e1:=WB htb hk w;have:(tb.k t).isAgg=false:=by cases hkk:tb.k t <;> simp_all [WY,TK.isAgg]
   have hc:=hcell 0 x (by simp [hx]);simp [loadVar,e1,this,hc]
  cases c with
  | pv p =>
   simp only [Qk] at h;split at h
   ·rename_i q hnt hq;simp only [Option.some.injEq] at h;subst h;cases hu with
    | pv _ _ hp =>
     have hcr:=YP hp;rw [harr] at hcr;unfold zdd at hq;split at hq
     ·rename_i hw;simp only [Option.some.injEq] at hq;subst hq;unfold zpq at hw;split at hw
      ·rename_i cs;simp only [Bool.and_eq_true,beq_iff_eq] at hw;obtain ⟨⟨h1,h2⟩,h3⟩:=hw;subst h2;have hk:tb.k t≠.oth:=by intro e;simp [e,TK.isAgg] at h1
       have e1:=WB htb hk w;have e2:=run_sizeOf htb hk w;have hll:=run_loadCells_list (P:=P) w ⟨b,0,none⟩ arr.toList (fun j u hu=>by rw [Addr.add_lit];exact hcell j u hu);rw [hcr.1] at hll;simp only [PV.cells] at hll;rw [h3] at hll;refine ⟨.agg arr.toList.toArray,by simp [loadVar,e1,e2,h1,hll],.pv _ _ (.agg cs arr.toList (by simpa only [PV.cells] using hcr.1) (by rw [←harr];exact cells_one hp rfl) (fun k c v hc hv=>hcr.2 k c v (by simpa [PV.cells] using hc) hv))⟩
      ·cases hw
     ·obtain ⟨u',h1,h2⟩:=QU htb hcell hcr (by rw [←harr];exact cells_one hp hnt) hq;rw [Nat.zero_add] at h1;exact ⟨u',h1,.pv _ _ h2⟩
   ·cases h
  | agg cs =>
   simp only [Qk] at h;cases hu with
   | agg _ vs hl ho hr =>
    simp only [Value.cells] at harr;subst harr;split at h
    ·rename_i hw;simp only [Bool.and_eq_true,beq_iff_eq] at hw;obtain ⟨⟨h1,h2⟩,h3⟩:=hw;simp only [Option.some.injEq] at h;subst h h2;have hk:tb.k t≠.oth:=by intro e;simp [e,TK.isAgg] at h1
     have e1:=WB htb hk w;have e2:=run_sizeOf htb hk w;have hll:=run_loadCells_list (P:=P) w ⟨b,0,none⟩ vs (fun j u hu=>by rw [Addr.add_lit];exact hcell j u hu);rw [hl,h3] at hll;exact ⟨.agg vs.toArray,by simp [loadVar,e1,e2,h1,hll],.agg cs vs hl ho hr⟩
    ·split at h
     ·rename_i hs;have hk:tb.k t≠.oth:=by intro e;simp [e,WY] at hs
      have e1:=WB htb hk w;have:(tb.k t).isAgg=false:=by cases hkk:tb.k t <;> simp_all [WY,TK.isAgg]
      have hlt:off < vs.length:=by
       rw [hl];rcases Nat.lt_or_ge off cs.length with h'|h'
       ·exact h'
       ·rw [List.getElem?_eq_none h'] at h;cases h
      have hx:=List.getElem?_eq_getElem hlt;have hc:=hcell off vs[off] zwy63;rw [Nat.zero_add] at hc;exact ⟨vs[off],by simp [loadVar,e1,this,hc],hr off r _ h hx⟩
     ·cases h
  | own j =>
   simp only [Qk] at h;split at h
   ·rename_i t' sz es hj;split at h
    ·rename_i hw;simp only [Bool.and_eq_true,beq_iff_eq] at hw;obtain ⟨h2,h1⟩:=hw;simp only [Option.some.injEq] at h;subst h h2;refine ⟨u,scalar u ?_ h1,hu⟩;rw [←harr];cases hu with
     | own _ hv =>
      obtain ⟨xs,hown,_⟩:=hfs.heap.ok j _ hj;generalize ρ j=u at hown;rcases hown.2 with ⟨rfl,_⟩|⟨_,_,_,rfl,_⟩ <;> rfl
    ·cases h
   ·rename_i X hj;split at h
    ·rename_i hw;simp only [Bool.and_eq_true,beq_iff_eq] at hw;obtain ⟨h2,h1⟩:=hw;simp only [Option.some.injEq] at h;subst h h2;refine ⟨u,scalar u ?_ h1,hu⟩;rw [←harr];cases hu with
     | own _ hv =>
      obtain ⟨b,ob,hr,_⟩:=hfs.heap.ok j _ hj;rw [hr];rfl
    ·cases h
   ·rename_i t' sz es hj;split at h
    ·rename_i hw;simp only [Bool.and_eq_true,beq_iff_eq] at hw;obtain ⟨h2,h1⟩:=hw;simp only [Option.some.injEq] at h;subst h h2;refine ⟨u,scalar u ?_ h1,hu⟩;rw [←harr];cases hu with
     | own _ hv =>
      obtain ⟨xs,hown,_⟩:=hfs.heap.ok j _ hj;generalize ρ j=u at hown;rcases hown.2 with ⟨rfl,_⟩|⟨_,_,_,rfl,_⟩ <;> rfl
    ·cases h
   ·cases h
  | box j o' =>
   simp only [Qk] at h;split at h
   ·rename_i hw;simp only [Bool.and_eq_true,beq_iff_eq] at hw;obtain ⟨h2,h1⟩:=hw;simp only [Option.some.injEq] at h;subst h h2;refine ⟨u,scalar u ?_ h1,hu⟩;rw [←harr];cases hu;rfl
   ·cases h
  | fn f x y =>
   simp only [Qk] at h;split at h
   ·rename_i hw;simp only [Bool.and_eq_true,beq_iff_eq] at hw;obtain ⟨h2,h1⟩:=hw;simp only [Option.some.injEq] at h;subst h h2;refine ⟨u,scalar u ?_ h1,hu⟩;rw [←harr];cases hu;rfl
   ·cases h
  | ad i' off' =>
   simp only [Qk] at h;split at h
   ·rename_i hw;simp only [Bool.and_eq_true,beq_iff_eq] at hw;obtain ⟨h2,h1⟩:=hw;simp only [Option.some.injEq] at h;subst h h2;refine ⟨u,scalar u ?_ h1,hu⟩;rw [←harr];cases hu;rfl
   ·cases h
  | any=>simp [Qk] at h
  | any1=>simp [Qk] at h
end
section
variable {P:Program} {tb:Tab} {g:Base} {K:KK} {w:World} {ρ:Nat→Value} {H:HEnv} {env:Env} {a:Act}
theorem ZP {r:AV} {v:Value} (hfs:FS g K ρ H w) (h:ARel K w ρ H r v):zjI P K ρ H w r (.ok (.value v) w):=⟨K,.refl hfs.lt,h⟩
theorem zlB {α:Type} {x:Sem α} {f:α→Sem Next} {v:α} (h:x.run P w=.ok v w):(x >>= f).run P w=(f v).run P w:=by simp [h]
theorem zsF {x:Operand} {p:PV} (h:env.pv H x=some p):p.notTup=true:=by
 unfold Env.pv at h;split at h
 ·exact zcO h
 ·cases h
theorem zak (htb:yR P tb) {o:Oper} {r:AV} (h:opE tb H env o=some r):QStep P g H o env r:=by
 refine ⟨fun K ρ a w hfs hv=>?_⟩;unfold opE at h;obtain ⟨dst,op,ty,pos,after,guard⟩:=o;dsimp only at h hv;cases op with
 | move x=>exact ZP hfs (hv x zwy74 r h)
 | assign x=>exact ZP hfs (hv x zwy74 r h)
 | pick c x y =>
  dsimp only at h;split at h
  ·rename_i hc;have:=hv c zwy74 _ hc;generalize hcv:a.eval c=vc at this;cases this with|pv _ _ hp=>cases hp;simp [execOp,hcv,asBool];exact ZP hfs (hv x zwy74 r h)
  ·rename_i hc;have:=hv c zwy74 _ hc;generalize hcv:a.eval c=vc at this;cases this with|pv _ _ hp=>cases hp;simp [execOp,hcv,asBool];exact ZP hfs (hv y zwy74 r h)
  ·cases h
 | box t x =>
  dsimp only at h;split at h
  ·rename_i p hp;simp only [Option.some.injEq] at h;subst h;have hpr:=qc hfs (hv x zwy74) hp;have hcr:=YP hpr;have hrun:(execOp a.eval { dst,op:=.box t x,type:=ty,pos,after,guard }).run P w=.ok (.value (.pointer (some ⟨w.heap.size,0,none⟩))) (w.alloc (.cells (a.eval x).cells t)):=by
    simp [execOp,Instr.box,newVar,newRow]
   rw [hrun];have hev:=zah hfs.lt (a.eval x).cells t (a.eval x).cells.size;refine ⟨_,hev,.pv _ _ (.ptr p 0 w.heap.size 0 (a.eval x).cells.toList hcr.1 (zjw _ _ _ (Nat.le_refl _) (cells_one hpr (zsF hp))) fun k c v hc hv=>(hcr.2 k c v hc hv).later (hev.later hfs.lt))⟩
  ·cases h
 | load t x =>
  dsimp only at h;split at h
  ·rename_i p off hx;split at h
   ·rename_i q hq;simp only [Option.some.injEq] at h;subst h;have:=hv x zwy74 _ hx;cases this with
    | pv _ _ hp =>
     obtain ⟨u,h1,h2⟩:=zci htb hp hq;simp only [execOp];rw [zlB h1];exact ZP hfs (.pv _ _ h2)
   ·cases h
  ·rename_i i off hx;split at h
   ·rename_i c hc;obtain ⟨u,h1,h2⟩:=VB htb hfs (hv x zwy74 _ hx) hc h;simp only [execOp];rw [zlB h1];exact ZP hfs h2
   ·cases h
  ·cases h
 | fieldAddr t x f =>
  dsimp only at h;split at h
  ·rename_i fs q hk;split at h
   ·rename_i o' ft s hf;cases hs:zeM tb ft s with
    | false=>simp [hs] at h
    | true =>
     simp only [hs] at h;simp only [zeM,Bool.and_eq_true,bne_iff_ne,beq_iff_eq] at hs;obtain ⟨F,hF,hfs',_⟩:=zb0 htb hk;have hf':∃ fl:Field,F[f]?=some fl∧fl.offset=o'∧fl.type=ft:=by
      rw [←hfs',List.getElem?_map,Array.getElem?_toList] at hf;cases hfl:F[f]? with
      | none=>simp [hfl] at hf
      | some fl=>simp [hfl] at hf;exact ⟨fl,rfl,hf.1,hf.2.1⟩
     obtain ⟨fl,hfl,rfl,rfl⟩:=hf';have hko:tb.k fl.type≠.oth:=by intro e;simp [Tab.known,e] at hs
     have hsz:=run_sizeOf htb hko w;have hne:tb.size fl.type≠0:=by omega
     have run:∀ b off,a.eval x=.pointer (some ⟨b,off,none⟩)→(execOp a.eval { dst,op:=.fieldAddr t x f,type:=ty,pos,after,guard }).run P w=.ok (.value (.pointer (some ⟨b,off + fl.offset,none⟩))) w:=by
      intro b off hx;simp [execOp,Instr.fieldAt,run_underlying hF,hfl,hx,Instr.sureAddr,fieldPlace,hsz,hne,Addr.add_lit]
     split at h
     ·rename_i p off _ hx;simp only [Option.some.injEq] at h;subst h;have:=hv x zwy74 _ hx;generalize hxv:a.eval x=vx at this;cases this with
      | pv _ _ hp =>
       cases hp with
       | ptr _ _ b o vs h1 h2 h3 =>
        rw [run _ _ hxv];refine ZP hfs (.pv _ _ ?_);rw [Nat.add_assoc];exact .ptr p (off + fl.offset) b o vs h1 h2 h3
     ·rename_i i off _ hx;simp only [Option.some.injEq] at h;subst h;have:=hv x zwy74 _ hx;generalize hxv:a.eval x=vx at this;cases this with
      | box _ _ b hi hb =>
       rw [run _ _ hxv];exact ZP hfs (.box _ _ b hi hb)
     ·cases h
   ·cases h
  ·cases h
 | field t x f =>
  dsimp only at h;split at h
  ·rename_i fs q hk;split at h
   ·rename_i o' ft s hf;split at h
    ·rename_i cs hx;split at h
     ·rename_i p hp;simp only [Option.some.injEq] at h;subst h;obtain ⟨F,hF,hfs',_⟩:=zb0 htb hk;have hf':∃ fl:Field,F[f]?=some fl∧fl.offset=o'∧fl.type=ft:=by
       rw [←hfs',List.getElem?_map,Array.getElem?_toList] at hf;cases hfl:F[f]? with
       | none=>simp [hfl] at hf
       | some fl=>simp [hfl] at hf;exact ⟨fl,rfl,hf.1,hf.2.1⟩
      obtain ⟨fl,hfl,rfl,rfl⟩:=hf';have:=qc hfs (hv x zwy74) hx;generalize hxv:a.eval x=vx at this;cases this with
      | agg _ vs h1 ho h2 =>
       obtain ⟨v,h3,h4⟩:=zcz htb (P:=P) ⟨h1,h2⟩ ho hp w;have:(execOp a.eval { dst,op:=.field t x f,type:=ty,pos,after,guard }).run P w=.ok (.value v) w:=by
        simp [execOp,Instr.field,run_underlying hF,hfl,hxv,asAgg,h3]
       rw [this];exact ZP hfs (.pv _ _ h4)
     ·cases h
    ·cases h
   ·cases h
  ·cases h
 | binOp op t x y t' =>
  dsimp only at h;split at h
  ·rename_i p q hp hq;split at h
   ·rename_i v hb;simp only [Option.some.injEq] at h;subst h;obtain ⟨h1,h2⟩:=zts htb (qc hfs (hv x zwy74) hp) (qc hfs (hv y zwy74) hq) hb x y w;simp only [execOp];rw [zlB h1];exact ZP hfs (.pv _ _ (.base v h2))
   ·cases h
  ·cases h
 | unOp op t x =>
  dsimp only at h;split at h
  ·rename_i b hx;simp only [Option.some.injEq] at h;subst h;have:=hv x zwy74 _ hx;generalize hxv:a.eval x=vx at this;cases this with
   | pv _ _ hp =>
    cases hp;have:(execOp a.eval { dst,op:=.unOp .not t x,type:=ty,pos,after,guard }).run P w=.ok (.value (.bool (!b))) w:=by simp [execOp,hxv,Op.unary]
    rw [this];exact ZP hfs (.pv _ _ (.base _ rfl))
  ·rename_i k n hx;simp only [Option.some.injEq] at h;subst h;have:=hv x zwy74 _ hx;generalize hxv:a.eval x=vx at this;cases this with
   | pv _ _ hp =>
    cases hp;have:(execOp a.eval { dst,op:=.unOp .neg t x,type:=ty,pos,after,guard }).run P w=.ok (.value (.int k (k.wrap (0 - n)))) w:=by simp [execOp,hxv,Op.unary,Op.intArith]
    rw [this];exact ZP hfs (.pv _ _ (.base _ rfl))
  ·cases h
 | convert s d x =>
  dsimp only at h;split at h
  ·rename_i ks k' k n hs hd hx;simp only [Option.some.injEq] at h;subst h;have:=hv x zwy74 _ hx;generalize hxv:a.eval x=vx at this;cases this with
   | pv _ _ hp =>
    cases hp;have:(execOp a.eval { dst,op:=.convert s d x,type:=ty,pos,after,guard }).run P w=.ok (.value (.int k' (k'.wrap n))) w:=by
     simp [execOp,hxv,convert,run_underlying (Xi htb hd),run_underlying (Xi htb hs),Conv.intToInt]
    rw [this];exact ZP hfs (.pv _ _ (.base _ rfl))
  ·cases h
 | extract x i =>
  dsimp only at h;split at h
  ·rename_i vs hx;split at h
   ·rename_i p hp;simp only [Option.some.injEq] at h;subst h;have:=hv x zwy74 _ hx;generalize hxv:a.eval x=vx at this;cases this with
    | pv _ _ hpp =>
     cases hpp with
     | tup _ us h1 h2 =>
      have hlt:i < us.length:=by
       rw [h1];rcases Nat.lt_or_ge i vs.length with h'|h'
       ·exact h'
       ·rw [List.getElem?_eq_none h'] at hp;cases hp
      have:(execOp a.eval { dst,op:=.extract x i,type:=ty,pos,after,guard }).run P w=.ok (.value us[i]) w:=by
       simp [execOp,hxv,Instr.extract,hlt]
      rw [this];exact ZP hfs (.pv _ _ (h2 i p _ hp (List.getElem?_eq_getElem hlt)))
   ·cases h
  ·cases h
 | makeFunc fn first cap =>
  dsimp only at h;have hrun:(execOp a.eval { dst,op:=.makeFunc fn first cap,type:=ty,pos,after,guard }).run P w=.ok (.value (.func fn (first.toList.map a.eval).toArray (cap.toList.map a.eval).toArray)) w:=by
   have e:∀ xs:Array Operand,(xs.toList.map a.eval).toArray=xs.map a.eval:=fun xs=>by rw [←Array.toList_map,Array.toArray_toList]
   rw [e,e];rfl
  rw [hrun];split at h
  ·rename_i va vb ha hb;obtain ⟨h1,h2⟩:=ziW (fun x hx=>hv x (by simp [Op.operands] at hx ⊢;exact .inl hx)) ha;obtain ⟨h3,h4⟩:=ziW (fun x hx=>hv x (by simp [Op.operands] at hx ⊢;exact .inr hx)) hb;have hfn:ARel K w ρ H (.fn fn va vb) (.func fn (first.toList.map a.eval).toArray (cap.toList.map a.eval).toArray):=.fn fn va vb _ _ h1 h3 h2 h4;split at h
   ·rename_i pa pb hpa hpb;simp only [Option.some.injEq] at h;subst h;exact ZP hfs (.pv _ _ (zc1 hfs hfn (by simp [AV.toPV,hpa,hpb])))
   ·simp only [Option.some.injEq] at h;subst h;exact ZP hfs hfn
  ·cases h
 | call c =>
  obtain ⟨callee,args,argTypes⟩:=c;dsimp only at h;split at h
  ·rename_i x t hargs htypes;split at h
   ·rename_i p hp;split at h
    ·rename_i n hn;simp only [Option.some.injEq] at h;subst h;have hargs':args=#[x]:=by rw [←Array.toArray_toList (xs:=args),hargs]
     have htypes':argTypes=#[t]:=by rw [←Array.toArray_toList (xs:=argTypes),htypes]
     subst hargs' htypes';have hpr:=qc hfs (hv x (by simp [Op.operands,Call.operands])) hp;generalize hxv:a.eval x=vx at hpr;have:(execOp a.eval { dst,op:=.call { callee:=.builtin .len,args:=#[x],argTypes:=#[t] },type:=ty,pos,after,guard }).run P w=.ok (.value (.int .i64 n)) w:=by
      unfold zxs at hn;split at hn
      ·rename_i e s es f hk;simp only [Option.some.injEq] at hn;subst hn;cases hpr <;> simp [execOp,resolve,invoke,builtin,hxv,Builtin.len_,run_underlying (qY htb hk),goInt]
      ·rename_i e sl n' cap hk;simp only [Option.some.injEq] at hn;subst hn;cases hpr;simp [execOp,resolve,invoke,builtin,hxv,Builtin.len_,run_underlying (qY htb hk),goInt]
      ·rename_i s hk;simp only [Option.some.injEq] at hn;subst hn;cases hpr;simp [execOp,resolve,invoke,builtin,hxv,Builtin.len_,run_underlying (zk1 htb hk),goInt]
      ·cases hn
     rw [this];exact ZP hfs (.pv _ _ (.base _ rfl))
    ·cases h
   ·cases h
  ·cases h
 | nilCheck x =>
  dsimp only at h;split at h
  ·rename_i p off hx;simp only [Option.some.injEq] at h;subst h;have:=hv x zwy74 _ hx;generalize hxv:a.eval x=vx at this;cases this with
   | pv _ _ hp =>
    have hp':=hp;cases hp;have:(execOp a.eval { dst,op:=.nilCheck x,type:=ty,pos,after,guard }).run P w=.ok (.value (a.eval x)) w:=by simp [execOp,hxv]
    rw [this,hxv];exact ZP hfs (.pv _ _ hp')
  ·rename_i i off hx;simp only [Option.some.injEq] at h;subst h;have:=hv x zwy74 _ hx;generalize hxv:a.eval x=vx at this;have h2:=this;cases this;have:(execOp a.eval { dst,op:=.nilCheck x,type:=ty,pos,after,guard }).run P w=.ok (.value (a.eval x)) w:=by simp [execOp,hxv]
   rw [this,hxv];exact ZP hfs h2
  ·rename_i f va vb hx;simp only [Option.some.injEq] at h;subst h;have:=hv x zwy74 _ hx;generalize hxv:a.eval x=vx at this;cases this with
   | pv _ _ hp =>
    have hp':=hp;cases hp;have:(execOp a.eval { dst,op:=.nilCheck x,type:=ty,pos,after,guard }).run P w=.ok (.value (a.eval x)) w:=by simp [execOp,hxv]
    rw [this,hxv];exact ZP hfs (.pv _ _ hp')
  ·rename_i f va vb hx;simp only [Option.some.injEq] at h;subst h;have:=hv x zwy74 _ hx;generalize hxv:a.eval x=vx at this;have h2:=this;cases this;have:(execOp a.eval { dst,op:=.nilCheck x,type:=ty,pos,after,guard }).run P w=.ok (.value (a.eval x)) w:=by simp [execOp,hxv]
   rw [this,hxv];exact ZP hfs h2
  ·cases h
 | build t parts =>
  dsimp only at h;split at h
  ·rename_i fs q z hk hz;split at h
   ·cases h
   ·rename_i hsz;split at h
    ·rename_i zs ps hzs hps;split at h
     ·rename_i hall;split at h
      ·rename_i cs hcs;simp only [Option.some.injEq] at h;subst h;obtain ⟨F,hF,hfs',_⟩:=zb0 htb hk;obtain ⟨h1,h2⟩:=ziK (a:=a) hfs (xs:=parts.toList) (fun x hx=>hv x.2 (by simp [Op.operands];exact ⟨x.1,by simpa using hx⟩)) hps;obtain ⟨rr,hr1,hr2⟩:=zmO (K:=K) (w:=w) _ (vcells:=z.cells) (vps:=parts.toList.map fun x=>(x.1,a.eval x.2)) (Vu hzs) (by simpa [List.map_map,Function.comp_def] using h1) (by simpa [List.map_map,Function.comp_def] using h2) hcs;have hzi:∃ i,P.info? t=some i∧i.zero=some z:=by
        unfold Tab.zero at hz;split at hz
        ·rename_i ti hti;obtain ⟨i,e1,_,_,e4,_⟩:=ZJ htb hti;exact ⟨i,e1,by rw [e4];exact hz⟩
        ·cases hz
       obtain ⟨i,hi,hiz⟩:=hzi;have hplaces:∀ (l:List Field),(∀ f∈l,f∈F.toList)→(l.mapM fun f=>(Prod.mk f.offset <$> sizeOf f.type:Sem (Nat × Nat))).run P w=.ok (l.map fun f=>(f.offset,tb.size f.type)) w:=by
        intro l;induction l with
        | nil=>intro _;simp
        | cons f l ih =>
         intro hl;have hf:f∈F.toList:=hl f zwy63;have hall':=List.all_eq_true.1 hall (f.offset,f.type,P.cellsOf f.type) zwy91;simp only [Bool.and_eq_true] at hall';have hko:tb.k f.type≠.oth:=by intro e;simp [Tab.known,e] at hall'
         have hs:=run_sizeOf htb hko w;have ih':=ih (fun f hf=>hl f (by simp [hf]));simp [List.mapM_cons,hs,ih']
       have hpl:=hplaces F.toList (fun f hf=>hf);have hfun:zgr fs=fun i=>((F.toList.map fun f=>(f.offset,tb.size f.type)).toArray)[i]?:=by
        funext i;rw [←hfs'];simp only [zgr,List.getElem?_map,List.getElem?_toArray,Array.getElem?_toList];cases hfl:F[i]? with
        | none=>rfl
        | some f =>
         simp only [Option.map_some,Option.some.injEq,Prod.mk.injEq,true_and];have hf:f∈F.toList:=by simpa using Array.mem_of_getElem? hfl
         have hall':=List.all_eq_true.1 hall (f.offset,f.type,P.cellsOf f.type) zwy91;simp only [Bool.and_eq_true,beq_iff_eq] at hall';exact hall'.2.symm
       rw [hfun] at hr1;have:(execOp a.eval { dst,op:=.build t parts,type:=ty,pos,after,guard }).run P w=.ok (.value (.agg rr)) w:=by
        have hm:(F.mapM fun f=>(do pure (f.offset,←sizeOf f.type):Sem (Nat × Nat))).run P w=.ok (F.toList.map fun f=>(f.offset,tb.size f.type)).toArray w:=by
         rw [Array.mapM_eq_mapM_toList];simp only [bind_pure_comp,Sem.run_map,hpl,Result.andThen_ok]
        have hp2:(parts.map fun x=>(x.1,a.eval x.2)).toList=parts.toList.map fun x=>(x.1,a.eval x.2):=by simp
        simp only [execOp,Instr.build,Sem.run_bind,zeroValue,typeInfo,run_program,hi,hiz,Result.andThen_ok,Sem.run_pure,run_underlying hF,hm,hp2,hr1]
       rw [this];have hone:∀ v∈rr.toList,v.oneCell'=true:=ziV _ hr1 (Vf hzs) (by
        intro x hx v hv';obtain ⟨k,hk⟩:=List.getElem?_of_mem hx;have hk2:(parts.toList.map fun x=>a.eval x.2)[k]?=some x.2:=by
         rw [List.getElem?_map] at hk ⊢;cases hpk:parts.toList[k]? with
         | none=>rw [hpk] at hk;simp at hk
         | some y=>rw [hpk] at hk;simp at hk;subst hk;rfl
        have hlt:k < (ps.map (·.2)).length:=by rw [←h2.1];exact (List.getElem?_eq_some_iff.1 hk2).1
        have hp:=List.getElem?_eq_getElem hlt;refine cells_one (h2.2 k _ _ hp hk2) ?_ v hv';simp only [List.getElem_map];exact zdM hps _ (List.getElem_mem _))
       exact ZP hfs (.pv _ _ (by have:=PRel.agg (K:=K) (w:=w) cs rr.toList hr2.1 hone hr2.2;simpa using this))
      ·cases h
     ·cases h
    ·cases h
  ·cases h
 | buildSlice t len parts =>
  dsimp only at h;split at h
  ·rename_i e hk;split at h
   ·rename_i xs hxs;split at h
    ·rename_i ps hps;split at h
     ·rename_i hc;simp only [Option.some.injEq] at h;subst h;obtain ⟨hl,hpos,hsm,hsz,hz,hall⟩:=hc;have hseq:∀ (l:List (Nat × Operand)) (k:Nat) (ys:List Operand),zcy k l=some ys→l=(ys.zipIdx k).map fun x=>(x.2,x.1):=by
       intro l;induction l with
       | nil=>intro k ys h;simp [zcy] at h;subst h;rfl
       | cons x l ih =>
        intro k ys h;obtain ⟨i,x⟩:=x;simp only [zcy] at h;split at h
        ·rename_i hik;split at h
         ·rename_i l' hl';simp only [Option.some.injEq] at h;subst h hik;rw [ih _ _ hl'];simp [List.zipIdx_cons]
         ·cases h
        ·cases h
      have hparts:=hseq parts.toList 0 xs hxs;have hvx:zsU K w ρ H env a xs:=fun x hx=>hv x (by
       simp only [Op.operands,hparts,List.map_map];have:(List.map ((fun x:Nat × Operand=>x.2) ∘ fun x:Operand × Nat=>(x.2,x.1)) (xs.zipIdx 0))=xs:=by
        rw [show ((fun x:Nat × Operand=>x.2) ∘ fun x:Operand × Nat=>(x.2,x.1))=Prod.fst from rfl];simp
       rw [this];simpa using hx)
      have hr:=zc7 hfs hvx hps;have hzi:∃ i z,P.info? e=some i∧i.size=tb.size e∧i.zero=some z:=by
       obtain ⟨z,hz⟩:=Option.isSome_iff_exists.1 hz;unfold Tab.zero at hz;split at hz
       ·rename_i ti hti;obtain ⟨i,e1,e2,_,e4,_⟩:=ZJ htb hti;exact ⟨i,z,e1,by simp [Tab.size,hti,e2],by rw [e4];exact hz⟩
       ·cases hz
      obtain ⟨ie,z,hie,his,hiz⟩:=hzi;have hcell:∀ v∈xs.map a.eval,v.cells.size=ie.size:=by
       intro v hv;obtain ⟨k,hk⟩:=List.getElem?_of_mem hv;have hlt:k < ps.length:=by rw [←hr.1];exact (List.getElem?_eq_some_iff.1 hk).1
       have hp:=List.getElem?_eq_getElem hlt;have h1:=YP (hr.2 k _ v hp hk);have h2:=List.all_eq_true.1 hall ps[k] (List.getElem_mem hlt);simp only [beq_iff_eq] at h2;have h3:=h1.1;simp only [Array.length_toList] at h3;omega
      have hlen:(xs.map a.eval).length=len:=by rw [hr.1,hl]
      have hfill:=Great.fill_whole (s:=ie.size) zwy62 (xs.map a.eval) ((Array.range (len * ie.size)).map (z.cells[· % z.cells.size]!)) hcell (by simp only [Array.size_map,Array.size_range,hlen]);have hrun:=run_buildSlice (P:=P) w t e len (parts.map fun x=>(x.1,a.eval x.2)) _ ie z (qY htb hk) hie hiz (by rw [his];omega) (by rw [his];have:=Nat.mul_pos hpos hsz;omega) (by
       have e1:(parts.map fun x=>(x.1,a.eval x.2)).toList=((xs.map a.eval).zipIdx 0).map fun x=>(x.2,x.1):=by
        rw [Array.toList_map,hparts,List.zipIdx_map,List.map_map,List.map_map];rfl
       rw [e1];exact hfill)
      have:(execOp a.eval { dst,op:=.buildSlice t len parts,type:=ty,pos,after,guard }).run P w=.ok (.value (.slice (some ⟨w.heap.size,0,none⟩) len len)) (w.alloc (.cells ((xs.map a.eval).flatMap fun v=>v.cells.toList).toArray e)):=by
       simp only [execOp];rw [Sem.run_bind];have e2:(parts.map fun (i,x)=>(i,a.eval x))=parts.map fun x=>(x.1,a.eval x.2):=rfl
       rw [e2,hrun];rfl
      rw [this];generalize hfl:((xs.map a.eval).flatMap fun v=>v.cells.toList)=flat;have hev:=zah hfs.lt flat.toArray e flat.length;have hone:∀ v∈flat.toArray.toList,v.oneCell'=true:=by
       intro v hv';simp only at hv';rw [←hfl] at hv';obtain ⟨u,hu,hvu⟩:=List.mem_flatMap.1 hv';obtain ⟨k,hk⟩:=List.getElem?_of_mem hu;have hlt:k < ps.length:=by rw [←hr.1];exact (List.getElem?_eq_some_iff.1 hk).1
       exact cells_one (hr.2 k _ u (List.getElem?_eq_getElem hlt) hk) (zjt hps _ (List.getElem_mem _)) v hvu
      have hrow:=zjw (K:=K) (w:=w) flat.toArray e flat.length zwy63 hone;subst hl;refine ⟨_,hev,.pv _ _ (.slc (tb.size e) ps true w.heap.size 0 ps.length (fun i=>(((xs.map a.eval)[i]?).getD undef).cells.toList) hsz (Nat.le_refl _) (fun _=>rfl) ?_ ?_ ?_ ?_)⟩
      ·have:=Nat.le_mul_of_pos_right ps.length hsz;unfold maxLen;omega
      ·have:=Nat.le_mul_of_pos_right ps.length hsz;unfold maxLen;omega
      ·intro i p hp;have hlt:i < (xs.map a.eval).length:=by rw [hlen];exact (List.getElem?_eq_some_iff.1 hp).1
       have hx:=List.getElem?_eq_getElem hlt;have hcs:=hcell _ (List.getElem_mem hlt);have hpc:=List.all_eq_true.1 hall p (List.mem_of_getElem? hp);simp only [beq_iff_eq] at hpc;refine ⟨hpc,by rw [hx];simp only [Option.getD_some,Array.length_toList];omega,?_⟩;rw [hx];intro k v hv;simp only [Option.getD_some] at hv;have hk:k < tb.size e:=by
        have:=(List.getElem?_eq_some_iff.1 hv).1;simp only [Array.length_toList] at this;omega
       have hg:=Great.flat_get (s:=ie.size) zwy62 (xs.map a.eval) hcell (i * ie.size + k);have e3:(i * ie.size + k) / ie.size=i:=by rw [Nat.mul_comm,Nat.mul_add_div zwy62,Nat.div_eq_of_lt zwy62];rfl
       have e4:(i * ie.size + k) % ie.size=k:=by rw [Nat.mul_comm,Nat.mul_add_mod,Nat.mod_eq_of_lt zwy62]
       rw [e3,e4,hx,hfl] at hg;simp only [Option.bind_some] at hg;have hv':flat[i * ie.size + k]?=some v:=by rw [hg,←hv];simp
       have:=hrow (i * ie.size + k) v (by simpa using hv');rw [his] at this;rw [Nat.zero_add] at this ⊢;exact this
      ·intro i p k c v hp hc hv;have hlt:i < (xs.map a.eval).length:=by rw [hlen];exact (List.getElem?_eq_some_iff.1 hp).1
       have hx:=List.getElem?_eq_getElem hlt;rw [hx] at hv;simp only [Option.getD_some] at hv;exact ((YP (hr.2 i p _ hp hx)).2 k c v hc hv).later (hev.later hfs.lt)
     ·cases h
    ·cases h
   ·cases h
  ·cases h
 | _=>cases h
end
end Go.Cg
