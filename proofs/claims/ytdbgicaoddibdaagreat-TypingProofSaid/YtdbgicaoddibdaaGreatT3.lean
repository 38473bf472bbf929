/- A part of the walks by abstract values: no statement of its own. -/
import Derived.Test.YtdbgicaoddibdaaGreatT2
set_option linter.unusedVariables false
set_option linter.unusedSimpArgs false
namespace Go.Cg
open Go.RowKit
def Xn (ops:List Oper) (o:Oper):Option Tmp:=match o.guard with|none=>none|some (j,_)=>match ops[j]? with|some o'=>o'.dst|none=>none
def guardE (ops:List Oper) (env:Env) (o:Oper):Option Bool :=
 match o.guard with
 | none=>some true
 | some (_,want)=>match Xn ops o with
  | some t=>match env.get t with
   | some (.pv (.base (.bool b)))=>some (b==want)
   | some (.pv (.tup _))=>some false
   | _=>none
  | none=>none
section
variable {P:Program} {tb:Tab} {n:Nat} {g:Base} {K:KK} {w:World} {ρ:Nat→Value} {H:HEnv} {env:Env} {a:Act} {ops:List Oper} {o:Oper} {rest:List Oper} {Q:Env→HEnv→Prop} {r:AV}
theorem Zo {K:KK} {w:World} {t:Nat} {v:Value} (hs:a.tmps.size=n) (hd:Nat.blt t n=true) (he:EnvR K w ρ H env a.tmps) (hr:ARel K w ρ H r v):EnvR K w ρ H ((t,r)::env) (a.put (some t) v).tmps:=by
 have hd:=Nat.le_of_ble_eq_true hd;intro t' av hg;simp only [Env.get_nil,Env.get_cons] at hg;simp only [Act.put];split at hg
 ·rename_i e;subst e;simp only [Option.some.injEq] at hg;subst hg;exact ⟨v,by rw [Array.getElem?_setIfInBounds_self_of_lt (by rw [hs];exact hd)],hr⟩
 ·rename_i hne;obtain ⟨u,h1,h2⟩:=he t' av hg;exact ⟨u,by rw [Array.getElem?_setIfInBounds_ne hne];exact h1,h2⟩
theorem qW {d:Option Tmp} {v:Value} (hs:a.tmps.size=n):(a.put d v).tmps.size=n:=by cases d <;> simp [Act.put,hs]
theorem put_defers {d:Option Tmp} {v:Value} {ds:List Deferred} (hs:a.defers=ds):(a.put d v).defers=ds:=by cases d <;> simp [Act.put,hs]
theorem qA (he:EnvR K w ρ H env a.tmps) {x:Operand} {av:AV} (h:env.val x=some av):ARel K w ρ H av (a.eval x):=by
 cases x with
 | tmp t =>
  obtain ⟨v,h1,h2⟩:=he t av h;simpa [Act.eval,Array.getD_eq_getD_getElem?,h1] using h2
 | const v =>
  simp only [Env.val] at h;split at h
  ·rename_i h1;simp only [Option.some.injEq] at h;subst h;exact .pv _ _ (.base v h1)
  ·cases h
 | func f =>
  simp only [Env.val,Option.some.injEq] at h;subst h;exact .pv _ _ (.fn (.func f) [] [] [] [] rfl rfl zwy63 zwy63)
 | global g =>
  simp only [Env.val,Option.some.injEq] at h;subst h;exact .pv _ _ (.base _ rfl)
theorem yT (hi:Inv n g env H a w) {b:Bool} (h:guardE ops env o=some b):Region.wanted o (yielded ops.toArray a.tmps)=b:=by
 obtain ⟨_,_,K,ρ,hf,he⟩:=hi;unfold guardE Xn at h;cases hg:o.guard with
 | none=>simp [hg] at h;subst h;simp [Region.wanted,hg]
 | some x =>
  obtain ⟨j,want⟩:=x;simp only [hg] at h;cases hj:ops[j]? with
  | none=>simp [hj] at h
  | some o' =>
   simp only [hj] at h;cases hd:o'.dst with
   | none=>simp [hd] at h
   | some t =>
    simp only [hd] at h;split at h
    ·rename_i bb hb;simp only [Option.some.injEq] at h;subst h;obtain ⟨v,h1,h2⟩:=he t _ hb;cases h2 with
     | pv _ _ hp=>cases hp;simp only [Region.wanted,hg,yielded,List.getElem?_toArray,hj,Option.bind_some,hd,h1];cases bb <;> cases want <;> rfl
    ·rename_i vs hb;simp only [Option.some.injEq] at h;subst h;obtain ⟨v,h1,h2⟩:=he t _ hb;cases h2 with
     | pv _ _ hp=>cases hp;simp only [Region.wanted,hg,yielded,List.getElem?_toArray,hj,Option.bind_some,hd,h1];cases want <;> rfl
    ·cases h
theorem zbG {K:KK} {w:World} {ρ:Nat→Value} {H:HEnv}:ARel K w ρ H (.pv (.tup [])) undef:=.pv _ _ (.tup [] [] rfl zwy63)
theorem zp5 (h:Q env H):AO P n g ops.toArray [] env H Q:=⟨fun a w hi=>⟨env,H,hi,rfl,h⟩⟩
theorem zy (hg:guardE ops env o=some true) (hq:QStep P g H o env r) {t:Nat} (hd:o.dst=some t) (ht:Nat.blt t n=true) (h:AO P n g ops.toArray rest ((t,r)::env) H Q):AO P n g ops.toArray (o::rest) env H Q:=by
 refine ⟨fun a w hi=>?_⟩;have hw:=yT hi hg;obtain ⟨h1,h2,K,ρ,hf,he⟩:=hi;refine wpList_step fun KK hKK=>?_
 rw [if_pos hw];unfold Oper.wp;have:=hq.go K ρ a w hf (fun x _ av hx=>qA he hx);generalize (execOp a.eval o).run P w=res at this;cases res with
 | halt x w'=>simp only [zjI] at this
 | ok nx w' =>
  cases nx <;> simp only [zjI] at this <;> simp only [Oper.upon]
  case value v =>
   obtain ⟨K',hev,hr⟩:=this;exact hKK _ _ (h.go _ _ ⟨qW h1,put_defers h2,K',ρ,hf.evo hev,by rw [hd];exact Zo h1 ht (he.later (hev.later hf.lt)) hr⟩)
  case enter f args =>
   obtain ⟨rfl,hc⟩:=this;refine hc.mono fun e w'' ⟨v,K',he',hev,hr⟩=>?_
   subst he';exact hKK _ _ (h.go _ _ ⟨qW h1,put_defers h2,K',ρ,hf.evo hev,by rw [hd];exact Zo h1 ht (he.later (hev.later hf.lt)) hr⟩)
theorem zqM (htb:yR P tb) (hg:guardE ops env o=some true) (hq:opE tb H env o=some r) {t:Nat} (hd:o.dst=some t) (ht:Nat.blt t n=true) (h:AO P n g ops.toArray rest ((t,r)::env) H Q):AO P n g ops.toArray (o::rest) env H Q :=
 zy hg (zak htb hq) hd ht h
theorem zp9 (hg:guardE ops env o=some false) {t:Nat} (hd:o.dst=some t) (ht:Nat.blt t n=true) (h:AO P n g ops.toArray rest ((t,.pv (.tup []))::env) H Q):AO P n g ops.toArray (o::rest) env H Q:=by
 refine ⟨fun a w hi=>?_⟩;have hw:=yT hi hg;obtain ⟨h1,h2,K,ρ,hf,he⟩:=hi;refine wpList_step fun KK hKK=>?_
 rw [if_neg (by rw [hw];simp)];exact hKK _ _ (h.go _ _ ⟨qW h1,put_defers h2,K,ρ,hf,by rw [hd];exact Zo h1 ht he zbG⟩)
theorem ziv (hi:Inv n g env H a w) {t:Nat} {b:Bool} (hb:env.get t=some (.pv (.base (.bool b)))) {c:Bool} (hc:b=c):Inv n g ((t,.pv (.base (.bool c)))::env) H a w:=by
 subst hc;obtain ⟨h1,h2,K,ρ,hf,he⟩:=hi;refine ⟨h1,h2,K,ρ,hf,fun t' av hg=>?_⟩;simp only [Env.get_nil,Env.get_cons] at hg;split at hg
 ·rename_i e;subst e;simp only [Option.some.injEq] at hg;subst hg;exact he _ _ hb
 ·exact he _ _ hg
theorem zv8 {l:List Oper} {t:Nat} {b:Bool} (hv:(match l with|o::_=>Xn ops o|[]=>none)=some t) (hb:env.get t=some (.pv (.base (.bool b)))) (h1:b=true→AO P n g ops.toArray l ((t,.pv (.base (.bool true)))::env) H Q)
  (h2:b=false→AO P n g ops.toArray l ((t,.pv (.base (.bool false)))::env) H Q):AO P n g ops.toArray l env H Q:=by
 refine ⟨fun a w hi=>?_⟩;cases hb':b
 ·exact (h2 hb').go a w (ziv hi hb hb')
 ·exact (h1 hb').go a w (ziv hi hb hb')
variable {QQ:QC} {c x y:Code}
theorem ZL {R R':Exit→Act→World→Prop} (hq:∀ e a w,R e a w→R' e a w):∀ {l:List Oper} {a:Act} {w:World},wpList P ops.toArray R l a w→wpList P ops.toArray R' l a w
 | [],a,w,h=>hq _ _ _ h
 | o::l,a,w,h=>by
  unfold wpList at h ⊢;split
  ·rename_i hw;rw [if_pos hw] at h;rcases h with h|⟨h1,a',w',h2⟩
   ·refine .inl ?_;unfold Oper.wp at h ⊢;generalize (execOp a.eval o).run P w=r at *;cases r with
    | ok nx w' =>
     cases nx <;> simp only [Oper.upon] at h ⊢ <;>
      first
       | exact ZL hq h
       | exact Calls.mono h (fun e w'' he=>by cases e <;> first|exact ZL hq he|exact hq _ _ _ he|(obtain ⟨a',w',hh⟩:=he;exact ⟨a',w',hq _ _ _ hh⟩))
       | exact Rows.mono h (fun _ _ he=>ZL hq he)
    | halt x w'=>cases x <;> simp only [Oper.upon] at h ⊢ <;> exact hq _ _ _ h
   ·exact .inr ⟨h1,a',w',hq _ _ _ h2⟩
  ·rename_i hw;rw [if_neg hw] at h;exact ZL hq h
theorem AW.mono {QQ':QC} (h:AW P n g c env H QQ) (hq:∀ e env H,QQ e env H→QQ' e env H):AW P n g c env H QQ' :=
 ⟨fun a w hi r d=>wpIn_mono (h.go a w hi r d) fun e _ _ ⟨env',H',h1,h2⟩=>⟨env',H',h1,hq e env' H' h2⟩⟩
theorem zki {id:Nat} (h:AO P n g ops.toArray ops env H (fun env' H'=>QQ .normal env' H')) (hnd:qU ops=true:=by kernel_rfl):AW P n g (.region id ops.toArray false) env H QQ :=
 ⟨fun a w hi r d=>wpIn_mono (zmz (R:=fun a' w'=>∃ env' H',Inv n g env' H' a' w'∧QQ .normal env' H') hnd (ZL (fun e a' w' ⟨env',H',h1,h2,h3⟩=>⟨h2,env',H',h1,h3⟩) (h.go a w hi))) (fun e a' w' h=>by obtain ⟨rfl,h⟩:=h;exact h)⟩
def zwb (next:Env→HEnv→Prop) (QQ:QC):QC
 | .normal,env,H=>next env H
 | e,env,H=>QQ e env H
theorem ztz (h:AW P n g x env H (zwb (fun env' H'=>AW P n g y env' H' QQ) QQ)):AW P n g (.seq x y) env H QQ :=
 ⟨fun a w hi r d=>wpIn_seq (wpIn_mono (h.go a w hi r d) fun e a' w' ⟨env',H',h1,h2⟩=>by
  cases e <;> first
   | exact h2.go a' w' h1 r d
   | exact ⟨env',H',h1,h2⟩)⟩
theorem zqu (h:QQ .normal env H):AW P n g .skip env H QQ:=⟨fun _ _ hi _ _=>wpIn_skip ⟨env,H,hi,h⟩⟩
theorem zh5 (h:QQ .ret env H):AW P n g .ret env H QQ:=⟨fun _ _ hi _ _=>wpIn_ret ⟨env,H,hi,h⟩⟩
theorem zqo {id:Nat} (h:QQ (.exit id) env H):AW P n g (.exit id) env H QQ:=⟨fun _ _ hi _ _=>wpIn_exit ⟨env,H,hi,h⟩⟩
def zlR (id:Nat) (QQ:QC):QC
 | .exit id',env,H=>if id'=id then QQ .normal env H else QQ (.exit id') env H
 | e,env,H=>QQ e env H
theorem znd {id:Nat} (h:AW P n g c env H (zlR id QQ)):AW P n g (.block id c) env H QQ :=
 ⟨fun a w hi r d=>wpIn_block (wpIn_mono (h.go a w hi r d) fun e a' w' ⟨env',H',h1,h2⟩=>by
  cases e <;> first
   | exact ⟨env',H',h1,h2⟩
   | (simp only [zlR,Exit.inBlock] at h2 ⊢
      split
      ·rename_i he;rw [if_pos he] at h2;exact ⟨env',H',h1,h2⟩
      ·rename_i he;rw [if_neg he] at h2;exact ⟨env',H',h1,h2⟩))⟩
theorem zfJ (hi:Inv n g env H a w) {c:Operand} {b:Bool} (hc:env.val c=some (.pv (.base (.bool b)))):a.eval c=.bool b:=by
 obtain ⟨_,_,K,ρ,_,he⟩:=hi;have:=qA he hc;generalize a.eval c=v at this;cases this with|pv _ _ hp=>cases hp;rfl
theorem zbZ {c:Operand} (hc:env.val c=some (.pv (.base (.bool true)))) (h:AW P n g x env H QQ):AW P n g (.cond c x y) env H QQ :=
 ⟨fun a w hi r d=>wpIn_cond_true (zfJ hi hc) (h.go a w hi r d)⟩
theorem zbj {c:Operand} (hc:env.val c=some (.pv (.base (.bool false)))) (h:AW P n g y env H QQ):AW P n g (.cond c x y) env H QQ :=
 ⟨fun a w hi r d=>wpIn_cond_false (zfJ hi hc) (h.go a w hi r d)⟩
theorem zvX {t:Nat} {b:Bool} (hc:env.get t=some (.pv (.base (.bool b)))) (h1:b=true→AW P n g x env H QQ) (h2:b=false→AW P n g y env H QQ):AW P n g (.cond (.tmp t) x y) env H QQ :=
 ⟨fun a w hi r d=>wpIn_cond_split (zfJ (c:=.tmp t) hi hc) (fun h=>(h1 h).go a w hi r d) (fun h=>(h2 h).go a w hi r d)⟩
def Sub (env env':Env):Prop:=∀ t av,env'.get t=some av→env.get t=some av
theorem qh:Sub env []:=fun t av h=>by simp [Env.get_nil,Env.get_cons] at h
theorem yU {env':Env} {t:Nat} {av:AV} (h:env.get t=some av) (hs:Sub env env'):Sub env ((t,av)::env'):=fun t' av' h'=>by
 simp only [Env.get_nil,Env.get_cons] at h';split at h'
 ·rename_i e;subst e;simp only [Option.some.injEq] at h';subst h';exact h
 ·exact hs t' av' h'
theorem Inv.sub {env':Env} (hi:Inv n g env H a w) (hs:Sub env env'):Inv n g env' H a w :=
 let ⟨h1,h2,K,ρ,hf,he⟩:=hi;⟨h1,h2,K,ρ,hf,fun t av h=>he t av (hs t av h)⟩
theorem AW.sub {env':Env} (hs:Sub env env') (h:AW P n g c env' H QQ):AW P n g c env H QQ:=⟨fun a w hi=>h.go a w (hi.sub hs)⟩
mutual
def Zx (H:HEnv):AV→Bool
 | .own i=>(H.get i).isSome
 | .box i _=>(H.get i).isSome
 | .ad i _=>(H.get i).isSome
 | .agg cs=>YT H cs
 | .fn _ a b=>YT H a&&YT H b
 | .pv _=>true
 | .any=>true
 | .any1=>true
def YT (H:HEnv):List AV→Bool
 | []=>true
 | c::cs=>Zx H c&&YT H cs
end
theorem Qw {H:HEnv}:∀ {cs:List AV},YT H cs=true→∀ (k:Nat) (c:AV),cs[k]?=some c→Zx H c=true
 | [],_,k,c,h=>by simp at h
 | c::cs,h,k,c',hk=>by
  simp only [YT,Bool.and_eq_true] at h;cases k with
  | zero=>simp at hk;subst hk;exact h.1
  | succ k=>simp at hk;exact Qw h.2 k c' hk
def QD (H:HEnv):Env→Bool
 | []=>true
 | (_,v)::e=>Zx H v&&QD H e
def hIn (H:HEnv):HEnv→Bool
 | []=>true
 | (_,.cell v)::e=>Zx H v&&hIn H e
 | (_,.pin v _)::e=>Zx H v&&hIn H e
 | _::e=>hIn H e
theorem zbo {H:HEnv}:∀ {e:Env},QD H e=true→∀ t v,e.get t=some v→Zx H v=true
 | [],_,t,v,h=>by simp [Env.get_nil,Env.get_cons] at h
 | (t',v')::e,h,t,v,hv=>by
  simp only [QD,Bool.and_eq_true] at h;simp only [Env.get_nil,Env.get_cons] at hv;split at hv
  ·simp only [Option.some.injEq] at hv;subst hv;exact h.1
  ·exact zbo h.2 t v hv
theorem zb2 {H:HEnv}:∀ {e:HEnv},hIn H e=true→∀ i v,e.get i=some (.cell v)→Zx H v=true
 | [],_,t,v,h=>by simp [HEnv.get_nil,HEnv.get_cons] at h
 | (j,h')::e,h,i,v,hv=>by
  simp only [HEnv.get_nil,HEnv.get_cons] at hv;split at hv
  ·simp only [Option.some.injEq] at hv;subst hv;simp only [hIn,Bool.and_eq_true] at h;exact h.1
  ·cases h' <;> simp only [hIn,Bool.and_eq_true] at h <;> first|exact zb2 h.2 i v hv|exact zb2 h i v hv
theorem zaL {H:HEnv}:∀ {e:HEnv},hIn H e=true→∀ i v u,e.get i=some (.pin v u)→Zx H v=true
 | [],_,t,v,_,h=>by simp [HEnv.get_nil,HEnv.get_cons] at h
 | (j,h')::e,h,i,v,u,hv=>by
  simp only [HEnv.get_nil,HEnv.get_cons] at hv;split at hv
  ·simp only [Option.some.injEq] at hv;subst hv;simp only [hIn,Bool.and_eq_true] at h;exact h.1
  ·cases h' <;> simp only [hIn,Bool.and_eq_true] at h <;> first|exact zaL h.2 i v u hv|exact zaL h i v u hv
theorem ARel.refs {K:KK} {w:World} {ρ:Nat→Value} {H H':HEnv} {av:AV} {v:Value} (h:ARel K w ρ H av v):Zx H' av=true→ARel K w ρ H' av v:=by
 induction h with
 | pv p v hp=>exact fun _=>.pv p v hp
 | own i _=>exact fun h=>.own i h
 | box i off b _ hb=>exact fun h=>.box i off b h hb
 | ad i off b m c _ hb=>exact fun h=>.ad i off b m c h hb
 | agg cs vs h1 h2 _ ih=>exact fun h=>.agg cs vs h1 h2 fun k c v hc hv=>ih k c v hc hv (Qw h k c hc)
 | fn f a b vf vc h1 h2 _ _ ih1 ih2 =>
  intro h;simp only [Zx,Bool.and_eq_true] at h;exact .fn f a b vf vc h1 h2 (fun k c v hc hv=>ih1 k c v hc hv (Qw h.1 k c hc)) (fun k c v hc hv=>ih2 k c v hc hv (Qw h.2 k c hc))
 | any v=>exact fun _=>.any v
 | any1 v h1 h2=>exact fun _=>.any1 v h1 h2
def HSub (H H':HEnv):Prop:=∀ i h,H'.get i=some h→H.get i=some h
theorem zA:HSub H []:=fun i h e=>by simp [HEnv.get_nil,HEnv.get_cons] at e
theorem zx {H':HEnv} {i:Nat} {e:HE} (h:H.get i=some e) (hs:HSub H H'):HSub H ((i,e)::H'):=fun i' e' h'=>by
 simp only [HEnv.get_nil,HEnv.get_cons] at h';split at h'
 ·rename_i q;subst q;simp only [Option.some.injEq] at h';subst h';exact h
 ·exact hs i' e' h'
theorem aB {H':HEnv} {i:Nat} {e:HE} (hs:HSub H H') (h:H.get i=some e:=by exact rfl):HSub H ((i,e)::H'):=zx h hs
theorem Yk {H':HEnv} {i:Nat} {t sz:Nat} {es es':List PV} (h:H.get i=some (.row t sz es)) (e:es=es') (hs:HSub H H'):HSub H ((i,.row t sz es')::H'):=zx (by rw [h,e]) hs
def Yj (H H':HEnv) (env':Env):Prop:=HSub H H'∧(QD H' env'&&hIn H' H')=true
theorem Inv.hsub {H':HEnv} (hi:Inv n g env H a w) (hs:Yj H H' env):Inv n g env H' a w:=by
 obtain ⟨h1,h2,K,ρ,hf,he⟩:=hi;obtain ⟨hs,hin⟩:=hs;simp only [Bool.and_eq_true] at hin;refine ⟨h1,h2,K,ρ,⟨hf.below,hf.old,hf.new,hf.lt,hf.others,hf.pt,fun i h b hi=>hf.away i h b (hs i h hi),?_,?_⟩,fun t av ht=>let ⟨v,v1,v2⟩:=he t av ht;⟨v,v1,v2.refs (zbo hin.1 t av ht)⟩⟩
 ·intro i h hi;have:=hf.heap.ok i h (hs i h hi);cases h with
  | cell v =>
   obtain ⟨b,t,arr,u,e1,e2,e3,e4,e5,e6⟩:=this;exact ⟨b,t,arr,u,e1,e2,e3,e4.refs (zb2 hin.2 i v hi),e5,e6⟩
  | row t sz es=>exact this
  | mrow t sz es=>exact this
  | dead=>trivial
  | pin v u=>exact ARel.refs this (zaL hin.2 i v u hi)
  | obj X=>exact this
 ·intro i j h h' b hij h1 h2;exact hf.heap.apart i j h h' b hij (hs i h h1) (hs j h' h2)
def zxh {ι:Type} (E:ι→Env) (HH:ι→HEnv) (Pre:ι→Prop) (μ:ι→Nat) (i:ι) (QQ:QC):QC
 | .normal,env',H'=>∃ j,Pre j∧μ j < μ i∧Sub env' (E j)∧Yj H' (HH j) (E j)
 | e,env',H'=>QQ e env' H'
theorem zW {ι:Type} (E:ι→Env) (HH:ι→HEnv) (Pre:ι→Prop) (μ:ι→Nat) (i0:ι) (hpre:Pre i0) (hs:Sub env (E i0)) (hH:Yj H (HH i0) (E i0))
  (round:∀ i,Pre i→AW P n g c (E i) (HH i) (zxh E HH Pre μ i QQ)):AW P n g (.loop c) env H QQ:=by
 refine ⟨fun a w hi r d b k cs hro hb hr=>?_⟩;have key:∀ m i,μ i=m→Pre i→∀ a w,Inv n g (E i) (HH i) a w →
   ∃ e a' w',(∃ env' H',Inv n g env' H' a' w'∧QQ e env' H')∧ArrivesIn (Machine.fenced P (zaz r)) P (lone (b.atR a (.code c::.inLoop c::k)) cs w) b k cs e a' w':=by
  intro m;induction m using Nat.strongRecOn with
  | _ m ih =>
   intro i hm hp a w hi;obtain ⟨e,a₁,w₁,⟨env',H',h1,h2⟩,harr⟩:=(round i hp).go a w hi r d b (.inLoop c::k) cs hro hb hr;cases e with
   | normal =>
    obtain ⟨j,hpj,hlt,hsub,hfit⟩:=h2;obtain ⟨e₂,a₂,w₂,hq₂,harr₂⟩:=ih (μ j) zwy62 j rfl hpj a₁ w₁ ((h1.sub hsub).hsub hfit);exact ⟨e₂,a₂,w₂,hq₂,.of_steps (StepsIn.trans harr (.one (fenced_calm hb hr rfl) stepR_inLoop)) harr₂⟩
   | exit id=>exact ⟨_,a₁,w₁,⟨env',H',h1,h2⟩,.pass (x:=.inLoop c) rfl (fun _ _=>.inl zwy63) harr⟩
   | goto l=>exact ⟨_,a₁,w₁,⟨env',H',h1,h2⟩,.pass (x:=.inLoop c) rfl (fun _ _=>.inl zwy63) harr⟩
   | ret=>exact ⟨_,a₁,w₁,⟨env',H',h1,h2⟩,.pass (x:=.inLoop c) rfl (fun _ _=>.inl zwy63) harr⟩
   | panic ch=>exact ⟨_,a₁,w₁,⟨env',H',h1,h2⟩,.pass (x:=.inLoop c) rfl (fun _ _=>.inl zwy63) harr⟩
   | outgrown=>exact ⟨_,a₁,w₁,⟨env',H',h1,h2⟩,.pass (x:=.inLoop c) rfl (fun _ _=>.inl zwy63) harr⟩
 obtain ⟨e,a',w',hq,harr⟩:=key _ i0 rfl hpre a w ((hi.sub hs).hsub hH);exact ⟨e,a',w',hq,.of_steps (.one (fenced_calm hb hr rfl) stepR_loop) harr⟩
end
def Tells (a b:AV):Prop:=∀ (K:KK) (w:World) (ρ:Nat→Value) (H:HEnv) (v:Value),ARel K w ρ H a v→ARel K w ρ H b v
theorem Tells.refl (a:AV):Tells a a:=fun _ _ _ _ _ h=>h
theorem Tells.trans {a b c:AV} (h:Tells a b) (h':Tells b c):Tells a c:=fun K w ρ H v x=>h' K w ρ H v (h K w ρ H v x)
theorem Qy (sz:Nat) (f:Bool):Tells (.pv (.base (.slice none 0 0))) (.pv (.slc sz [] f)):=fun K w ρ H v h=>by
 cases h with|pv _ _ hp=>cases hp;exact .pv _ _ (.nil sz f)
theorem zd3 (sz:Nat) (es:List PV) (f:Bool):Tells (.pv (.slc sz es f)) (.pv (.slc sz es false)):=fun K w ρ H v h=>by
 cases h with
 | pv _ _ hp=>cases hp with
  | nil=>exact .pv _ _ (.nil sz false)
  | emp _ _ a=>exact .pv _ _ (.emp sz false a)
  | slc _ _ _ b o cap vss h0 h1 h2 h3 h4 h5 h6=>exact .pv _ _ (.slc sz es false b o cap vss h0 h1 zwy63 h3 h4 h5 h6)
def EntE (env env2:Env):Prop:=∀ t av2,env2.get t=some av2→∃ av,env.get t=some av∧Tells av av2
theorem EntE.refl (env:Env):EntE env env:=fun t av h=>⟨av,h,.refl av⟩
theorem EntE.one {env:Env} {t:Nat} {a b:AV} (h:env.get t=some a) (ht:Tells a b):EntE env ((t,b)::env):=fun t' av h'=>by
 simp only [Env.get_nil,Env.get_cons] at h';split at h'
 ·rename_i e;subst e;simp only [Option.some.injEq] at h';subst h';exact ⟨a,h,ht⟩
 ·exact ⟨av,h',.refl av⟩
def zeW:Nat→List PV→Env
 | _,[]=>[]
 | k,p::ps=>(k,.pv p)::zeW (k + 1) ps
def resE (tb:Tab) (H:HEnv) (env:Env):ResultVar→Option PV
 | .tmp t=>env.pv H (.tmp t)
 | .cell a ty=>match env.get a with
  | some (.box i off)=>match H.get i with
   | some (.cell v)=>match Qk tb H ty v off with|some x=>x.toPV H|none=>none
   | _=>none
  | some (.pv (.ptr p off))=>zdd tb ty p off
  | _=>none
def VN (tb:Tab) (H:HEnv) (env:Env):List ResultVar→Option (List PV)
 | []=>some []
 | r::rs=>match resE tb H env r,VN tb H env rs with|some p,some ps=>some (p::ps)|_,_=>none
def zC:List PV→PV
 | [p]=>p
 | ps=>.tup ps
def zrl (tb:Tab) (rs:List ResultVar) (r:PV):QC:=fun e env H=>(e=.normal∨e=.ret)∧∃ env2,EntE env env2∧∃ ps,VN tb H env2 rs=some ps∧zC ps=r
section
variable {P:Program} {tb:Tab} {n:Nat} {g:Base} {K:KK} {w:World} {ρ:Nat→Value} {H:HEnv} {env:Env} {a:Act} {ops:List Oper} {o:Oper} {rest:List Oper} {Q:Env→HEnv→Prop} {r:PV} {f:FuncId} {args:List PV}
theorem zaf:∀ (ps:List PV) (k t:Nat) (av:AV),(zeW k ps).get t=some av→k≤t∧∃ p,ps[t - k]?=some p∧av=.pv p
 | [],k,t,av,h=>by simp [zeW,Env.get_nil,Env.get_cons] at h
 | p::ps,k,t,av,h=>by
  simp only [zeW,Env.get_nil,Env.get_cons] at h;split at h
  ·rename_i e;subst e;simp only [Option.some.injEq] at h;exact ⟨Nat.le_refl _,p,by simp,h.symm⟩
  ·obtain ⟨h1,q,h2,h3⟩:=zaf ps (k + 1) t av h;refine ⟨by omega,q,?_,h3⟩;rw [show t - k=(t - (k + 1)) + 1 by omega];simpa using h2
theorem zsN (htb:yR P tb) (hf:FS g K ρ H w) (he:EnvR K w ρ H env a.tmps) {x:ResultVar} {p:PV} (h:resE tb H env x=some p) :
  ∃ v,(match x with|.tmp t=>pure (a.tmps.getD t undef)|.cell c t=>do loadVar t (←asAddr (a.tmps.getD c undef)):Sem Value).run P w=.ok v w∧PRel K w p v:=by
 cases x with
 | tmp t =>
  refine ⟨_,rfl,?_⟩;have:=qc (a:=a) hf (x:=.tmp t) (fun av hx=>qA he hx) h;exact this
 | cell c t =>
  simp only [resE] at h;have hload:∀ v,(∃ ad,v=.pointer (some ad))→(do loadVar t (←asAddr v):Sem Value).run P w=(Instr.loadAt t v).run P w:=by
   rintro v ⟨ad,rfl⟩;simp [Instr.loadAt,Instr.sureAddr,asAddr]
  split at h
  ·rename_i i off hx;split at h
   ·rename_i v hv;split at h
    ·rename_i x hxx;have hb:=qA he (x:=.tmp c) hx;obtain ⟨u,h1,h2⟩:=VB htb hf hb hv hxx;refine ⟨u,?_,zc1 hf h2 h⟩;have hpt:∃ ad,a.eval (.tmp c)=.pointer (some ad):=by generalize a.eval (.tmp c)=vv at hb;cases hb;exact ⟨_,rfl⟩
     exact (hload _ hpt).trans h1
    ·cases h
   ·cases h
  ·rename_i q off hx;have hb:=qA he (x:=.tmp c) hx;generalize hvv:a.eval (.tmp c)=vv at hb;cases hb with
   | pv _ _ hp =>
    obtain ⟨u,h1,h2⟩:=zci htb hp h;refine ⟨u,?_,h2⟩;have hpt:∃ ad,vv=.pointer (some ad):=by cases hp;exact ⟨_,rfl⟩
    have hh:a.tmps.getD c undef=vv:=hvv;subst hh;exact (hload _ hpt).trans h1
  ·cases h
theorem zae (htb:yR P tb) (hf:FS g K ρ H w) (he:EnvR K w ρ H env a.tmps):∀ {xs:List ResultVar} {ps:List PV},VN tb H env xs=some ps →
  ∃ vs,(xs.mapM fun|.tmp t=>pure (a.tmps.getD t undef)|.cell c t=>do loadVar t (←asAddr (a.tmps.getD c undef)):Sem (List Value)).run P w=.ok vs w∧PRels K w ps vs
 | [],ps,h=>by simp [VN] at h;subst h;exact ⟨[],by simp,.nil⟩
 | x::xs,ps,h=>by
  simp only [VN] at h;split at h
  ·rename_i p ps' h1 h2;simp only [Option.some.injEq] at h;subst h;obtain ⟨v,e1,r1⟩:=zsN htb hf he h1;obtain ⟨vs,e2,r2⟩:=zae htb hf he h2;refine ⟨v::vs,?_,.cons r1 r2⟩;rw [List.mapM_cons,Sem.run_bind]
   erw [e1]
   rw [Result.andThen_ok,Sem.run_bind]
   erw [e2]
   rfl
  ·cases h
theorem zi (htb:yR P tb) {fn:Func} {c:Code} (hf:P.funcs[f]?=some fn) (hb:fn.body=some c) (hn:(fn.name == "runtime.NumGoroutine")=false) (hnt:fn.ntmps=n) (hargs:args.length≤n)
  (rs:List ResultVar) (hrs:fn.results.toList=rs) (h:lensOk args→∀ g:Base,Plain g→AW P n g c (zeW 0 args) [] (zrl tb rs r)):ACall P f args r:=by
 refine ⟨⟨fn,hf,by simp [hb],hn⟩,fun K w vs hl hv=>?_⟩;refine calls_of_wp hf hb ?_;have hlen:vs.length=args.length:=hv.1;refine wp_mono (wpIn_wide.1 ((h hv.lensOk (Base.of w K (bare w) []) ⟨rfl,hl⟩).go _ w ⟨by simp [hnt];omega,rfl,K,fun _=>undef,⟨.refl _ _,fun _ _ h=>h,fun _ _ h=>.inl h,hl,YX _ _,.base,.none _ _,⟨by simp [HEnv.get_nil,HEnv.get_cons],by simp [HEnv.get_nil,HEnv.get_cons]⟩⟩,?_⟩ none 0)) ?_
 ·intro t av hg;obtain ⟨_,p,hp,rfl⟩:=zaf args 0 t av hg;have hlt:t < vs.length:=by rw [hlen];exact (List.getElem?_eq_some_iff.1 hp).1
  refine ⟨vs[t],?_,.pv _ _ (hv.2 t p _ hp (List.getElem?_eq_getElem hlt))⟩;rw [Array.getElem?_append_left zwy83];simp [hlt]
 ·rintro e a' w' ⟨env1,H',hi,he,env',hent,ps,hps,rfl⟩;obtain ⟨_,h2,K',ρ',hf',he0⟩:=hi;have he':EnvR K' w' ρ' H' env' a'.tmps:=fun t av ht=>by
   obtain ⟨av0,q1,q2⟩:=hent t av ht;obtain ⟨v,v1,v2⟩:=he0 t av0 q1;exact ⟨v,v1,q2 _ _ _ _ _ v2⟩
  obtain ⟨us,hrun,hru⟩:=zae htb hf' he' hps;have hev:Evo K K' w w':=⟨hf'.below,hf'.old,hf'.new,hf'.lt⟩
  have hres:(results fn a'.tmps).run P w'=.ok (if hh:us.toArray.size=1 then us.toArray[0] else .tuple us.toArray) w':=by
   unfold results;rw [Array.mapM_eq_mapM_toList,hrs];simp only [Sem.run_bind,Sem.run_map]
   erw [hrun]
   rfl
  have hval:PRel K' w' (zC ps) (if hh:us.toArray.size=1 then us.toArray[0] else .tuple us.toArray):=by
   split
   ·rename_i hh;have hl1:=hru.1;have hu:us.length=1:=by simpa using hh
    obtain ⟨u,rfl⟩:=List.length_eq_one_iff.1 hu;obtain ⟨p,rfl⟩:=List.length_eq_one_iff.1 (show ps.length=1 by omega);exact hru.2 0 p u zwy63 zwy63
   ·rename_i hh;simp at hh;have:zC ps=.tup ps:=by
     unfold zC;split
     ·rename_i p;exact absurd zwy102 hh
     ·rfl
    rw [this];exact .tup ps us hru.1 hru.2
  rcases he with rfl|rfl
  ·exact ⟨h2,_,hres,_,K',rfl,hev,hval⟩
  ·exact ⟨h2,_,hres,_,K',rfl,hev,hval⟩
theorem Ze {f:FuncId} (hs:Vy P f) (vs:Array Value) (w:World):(callFunc f vs).run P w=.ok (.enter f vs) w:=by
 obtain ⟨fn,h1,h2,h3⟩:=hs;have h3':fn.name ≠ "runtime.NumGoroutine" := by simpa using h3
 simp only [callFunc,Sem.run_bind,run_program,Result.andThen_ok,h1,h3,h2,Bool.false_eq_true,if_false,Sem.run_pure]
theorem zJ {xs:Array Operand} {ts:Array TypeId} (hop:o.op=.call { callee:=.value (.func f),args:=xs,argTypes:=ts }) (hargs:pvs env H xs.toList=some args) (hc:ACall P f args r):QStep P g H o env (.pv r):=by
 refine ⟨fun K ρ a w hf hv=>?_⟩;have hp:=zc7 hf (a:=a) (xs:=xs.toList) (fun x hx=>hv x zwy72) hargs;have:(execOp a.eval o).run P w=.ok (.enter f (xs.toList.map a.eval).toArray) w:=by
  have e:(xs.toList.map a.eval).toArray=xs.map a.eval:=by rw [←Array.toList_map,Array.toArray_toList]
  rw [e];simp [execOp,hop,resolve,Act.eval,Deferred.ofValue,invoke,Ze hc.stands]
 rw [this];refine ⟨rfl,(hc.calls K w _ hf.lt hp).mono fun e w'' ⟨v,K',h1,h2,h3⟩=>⟨v,K',h1,h2,.pv _ _ h3⟩⟩
theorem zqO {t:Tmp} {xs:Array Operand} {ts:Array TypeId} {first cap ps:List PV} (hop:o.op=.call { callee:=.value (.tmp t),args:=xs,argTypes:=ts }) (ht:env.get t=some (.pv (.fn (.func f) first cap))) (hargs:pvs env H xs.toList=some ps)
  (hc:ACall P f (first++ps++cap) r):QStep P g H o env (.pv r):=by
 refine ⟨fun K ρ a w hf hv=>?_⟩;have hp:=zc7 hf (a:=a) (xs:=xs.toList) (fun x hx=>hv x zwy72) hargs;have hfn:=hv (.tmp t) zwy70 _ ht;generalize hfv:a.eval (.tmp t)=fv at hfn;cases hfn with
 | pv _ _ hq =>
  cases hq with
  | fn _ _ _ vf vc h1 h2 h3 h4 =>
   have:(execOp a.eval o).run P w=.ok (.enter f (vf++xs.toList.map a.eval++vc).toArray) w:=by
    have e:(vf++xs.toList.map a.eval++vc).toArray=vf.toArray++xs.map a.eval++vc.toArray:=by
     rw [show xs.map a.eval=(xs.toList.map a.eval).toArray by rw [←Array.toList_map,Array.toArray_toList]];simp
    rw [e];simp [execOp,hop,resolve,hfv,Deferred.ofValue,invoke,Ze hc.stands]
   rw [this];refine ⟨rfl,(hc.calls K w _ hf.lt ((PRels.append ⟨h1,h3⟩ hp).append ⟨h2,h4⟩)).mono fun e w'' ⟨v,K',h1,h2,h3⟩=>⟨v,K',h1,h2,.pv _ _ h3⟩⟩
theorem zo {t e:TypeId} {x i:Operand} {sz:Nat} {es:List PV} {full:Bool} {k:IntKind} {m:Int} {p:PV} (htb:yR P tb) (hop:o.op=.indexAddr t x i) (hk:tb.k t=.sl e) (hke:tb.known e=true) (hsz:tb.size e=sz)
  (hx:env.pv H x=some (.slc sz es full)) (hi:env.pv H i=some (.base (.int k m))) (h0:0≤m) (he:es[m.toNat]?=some p):QStep P g H o env (.pv (.ptr p 0)):=by
 refine ⟨fun K ρ a w hf hv=>?_⟩;have hxr:=qc hf (hv x zwy69) hx;have hir:=qc hf (hv i zwy69) hi;generalize hxv:a.eval x=xv at hxr;generalize hiv:a.eval i=iv at hir;cases hir;have hko:tb.k e≠.oth:=by intro h;simp [Tab.known,h] at hke
 have hs:=run_sizeOf htb hko w;have hlt:m.toNat < es.length:=(List.getElem?_eq_some_iff.1 he).1;cases hxr with
 | nil=>simp at hlt
 | emp=>simp at hlt
 | slc _ _ _ b off cap vss h1 h2 h3 h4 h5 h6 h7 =>
  have:(execOp a.eval o).run P w=.ok (.value (.pointer (some ⟨b,off + m.toNat * sz,none⟩))) w:=by
   have hlt':m < (es.length:Int):=by omega
   simp [execOp,hop,hxv,hiv,Instr.indexAt,asIntOf,run_underlying (qY htb hk),h0,hlt',hs,hsz,Addr.add_lit]
  rw [this];refine ZP hf (.pv _ _ ?_);obtain ⟨e1,e2,e3⟩:=h6 _ p he;have:=PRel.ptr (K:=K) (w:=w) p 0 b (off + m.toNat * sz) (vss m.toNat) zwy62 e3 (fun k c v hc hv=>h7 _ p k c v he hc hv);simpa using this
theorem ah {t e:TypeId} {x i:Operand} {sz:Nat} {es:List PV} {full:Bool} {k:IntKind} {m:Int} {p:PV} (h0:0≤m) (he:es[m.toNat]?=some p) (htb:yR P tb:=by exact zf) (hop:o.op=.indexAddr t x i:=by exact rfl) (hk:tb.k t=.sl e:=by exact rfl) (hke:tb.known e=true:=by exact rfl) (hsz:tb.size e=sz:=by exact rfl) (hx:env.pv H x=some (.slc sz es full):=by exact rfl) (hi:env.pv H i=some (.base (.int k m)):=by exact rfl):QStep P g H o env (.pv (.ptr p 0)):=zo htb hop hk hke hsz hx hi h0 he
end
mutual
def kill (i:Nat):AV→AV
 | .own j=>if j=i then .any1 else .own j
 | .ad j o=>if j=i then .any1 else .ad j o
 | .agg cs=>.agg (kills i cs)
 | .fn f a b=>.fn f (kills i a) (kills i b)
 | .pv p=>.pv p
 | .box j o=>.box j o
 | .any=>.any
 | .any1=>.any1
def kills (i:Nat):List AV→List AV
 | []=>[]
 | c::cs=>kill i c::kills i cs
end
def zdo (i:Nat):Env→Env
 | []=>[]
 | (t,v)::e=>(t,kill i v)::zdo i e
def zbx (i:Nat):HEnv→HEnv
 | []=>[]
 | (j,.cell v)::e=>(j,.cell (kill i v))::zbx i e
 | (j,.pin v u)::e=>(j,.pin (kill i v) u)::zbx i e
 | x::e=>x::zbx i e
def isVal (H:HEnv) (i:Nat):Bool:=match H.get i with|some (.row _ _ _)=>true|some (.obj _)=>true|some (.mrow _ _ _)=>true|_=>false
def zjX (H:HEnv):AV→Bool
 | .pv (.agg _)=>false
 | .pv (.tup _)=>false
 | .pv _=>true
 | .own i=>isVal H i
 | .box _ _=>true
 | .ad _ _=>true
 | .fn _ _ _=>true
 | _=>false
section
variable {P:Program} {tb:Tab} {n:Nat} {g:Base} {K K':KK} {w w':World} {ρ ρ':Nat→Value} {H H':HEnv} {env:Env} {a:Act} {ops:List Oper} {o:Oper} {rest:List Oper} {Q:Env→HEnv→Prop} {QQ:QC} {c:Code}
theorem zdA (i:Nat):∀ (cs:List AV) (k:Nat),(kills i cs)[k]?=(cs[k]?).map (kill i)
 | [],k=>by simp [kills]
 | c::cs,k=>by
  cases k with
  | zero=>simp [kills]
  | succ k=>simp [kills,zdA i cs k]
theorem VU (i:Nat):∀ (cs:List AV),(kills i cs).length=cs.length
 | []=>rfl
 | c::cs=>by simp [kills,VU i cs]
theorem zg0 (i:Nat):∀ (e:Env) (t:Nat),(zdo i e).get t=(e.get t).map (kill i)
 | [],t=>rfl
 | (t',v)::e,t=>by
  simp only [zdo,Env.get_nil,Env.get_cons];split
  ·rfl
  ·exact zg0 i e t
def killHE (i:Nat):HE→HE
 | .cell v=>.cell (kill i v)
 | .pin v u=>.pin (kill i v) u
 | h=>h
theorem zbq (i:Nat):∀ (e:HEnv) (t:Nat),(zbx i e).get t=(e.get t).map (killHE i)
 | [],t=>rfl
 | (j,h)::e,t=>by
  cases h <;> simp only [zbx,HEnv.get_nil,HEnv.get_cons] <;> split <;> first|rfl|exact zbq i e t
theorem ARel.kill (hl:Later K K' w w') (i:Nat) (hk:∀ j,j≠i→(H.get j).isSome=true→(H'.get j).isSome=true∧ρ' j=ρ j)
  (hb:∀ b,ρ i=.pointer (some ⟨b,0,none⟩)→False) (h1:(ρ i).cells=#[ρ i]∧(ρ i).oneCell'=true) {av:AV} {v:Value} (h:ARel K w ρ H av v):ARel K' w' ρ' H' (Cg.kill i av) v:=by
 induction h with
 | pv p v hp=>exact .pv p v (hp.later hl)
 | own j hj =>
  simp only [Cg.kill];split
  ·rename_i e;subst e;exact .any1 _ h1.1 h1.2
  ·rename_i hne;obtain ⟨h1,h2⟩:=hk j hne hj;rw [←h2];exact .own j h1
 | box j off b hj hr =>
  by_cases e:j=i
  ·subst e;exact (hb b hr).elim
  ·obtain ⟨h1,h2⟩:=hk j e hj;exact .box j off b h1 (by rw [h2];exact hr)
 | ad j off b m c hj hr =>
  simp only [Cg.kill];split
  ·exact .any1 _ rfl rfl
  ·rename_i hne;obtain ⟨h1,h2⟩:=hk j hne hj;exact .ad j off b m c h1 (by rw [h2];exact hr)
 | agg cs vs h1 h2 _ ih =>
  refine .agg _ vs (by rw [VU];exact h1) h2 fun k c v hc hv=>?_
  rw [zdA] at hc;cases hcs:cs[k]? with
  | none=>simp [hcs] at hc
  | some c'=>simp [hcs] at hc;subst hc;exact ih k c' v hcs hv
 | fn f first cap vf vc h1 h2 _ _ ih1 ih2 =>
  refine .fn f _ _ vf vc (by rw [VU];exact h1) (by rw [VU];exact h2) (fun k c v hc hv=>?_) (fun k c v hc hv=>?_)
  ·rw [zdA] at hc;cases hcs:first[k]? with
   | none=>simp [hcs] at hc
   | some c'=>simp [hcs] at hc;subst hc;exact ih1 k c' v hcs hv
  ·rw [zdA] at hc;cases hcs:cap[k]? with
   | none=>simp [hcs] at hc
   | some c'=>simp [hcs] at hc;subst hc;exact ih2 k c' v hcs hv
 | any v=>exact .any v
 | any1 v h1 h2=>exact .any1 v h1 h2
theorem ARel.keeps (hl:Later K K' w w') (hk:∀ j,(H.get j).isSome=true→(H'.get j).isSome=true∧ρ' j=ρ j) {av:AV} {v:Value} (h:ARel K w ρ H av v):ARel K' w' ρ' H' av v:=by
 induction h with
 | pv p v hp=>exact .pv p v (hp.later hl)
 | own j hj=>obtain ⟨h1,h2⟩:=hk j hj;rw [←h2];exact .own j h1
 | box j off b hj hr=>obtain ⟨h1,h2⟩:=hk j hj;exact .box j off b h1 (by rw [h2];exact hr)
 | ad j off b m c hj hr=>obtain ⟨h1,h2⟩:=hk j hj;exact .ad j off b m c h1 (by rw [h2];exact hr)
 | agg cs vs h1 h2 _ ih=>exact .agg cs vs h1 h2 ih
 | fn f first cap vf vc h1 h2 _ _ ih1 ih2=>exact .fn f first cap vf vc h1 h2 ih1 ih2
 | any v=>exact .any v
 | any1 v h1 h2=>exact .any1 v h1 h2
theorem HOk.keeps {B:Nat} (hev:Evo K K' w w') (hl:∀ b o,K b o→b < w.heap.size) (hk:∀ j,(H.get j).isSome=true→(H'.get j).isSome=true∧ρ' j=ρ j) {e:HE} {r:Value} (h:HOk K w B ρ H e r):HOk K' w' B ρ' H' e r:=by
 have hlat:=hev.later hl;cases e with
 | cell v =>
  obtain ⟨b,t,arr,u,rfl,hB,hb,hu,ha,hn⟩:=h;have hlt:b < w.heap.size:=(Array.getElem?_eq_some_iff.1 hb).1;exact ⟨b,t,arr,u,rfl,hB,by rw [hev.below.block b hlt];exact hb,hu.keeps hlat hk,ha,fun o ho=>(hev.new b o ho).elim (hn o) (fun h2=>by omega)⟩
 | row t sz es =>
  obtain ⟨xs,hown,h0,hc,hkk⟩:=h;refine ⟨xs,hown.kept (row:=none) ⟨hev.below.os,hev.below.tape,hev.below.output,hev.below.size,fun k hk _=>hev.below.block k hk⟩ ?_,h0,?_,?_⟩
  ·cases hb:r.ownBlock <;> simp
  ·intro i e he;obtain ⟨h2,h3⟩:=hc i e he;exact ⟨h2,fun k c hc=>let ⟨v,h4,h5,h6⟩:=h3 k c hc;⟨v,h4,h5,h6.later hlat⟩⟩
  ·intro b hb o;rw [←hkk b hb o];have hlt:=(hown.lt b hb).2;exact ⟨fun ho=>(hev.new b o ho).resolve_right zwy62,hev.sub b o⟩
 | mrow t sz es =>
  obtain ⟨xs,hown,h0,hc,hkk⟩:=h;refine ⟨xs,hown.kept (row:=none) ⟨hev.below.os,hev.below.tape,hev.below.output,hev.below.size,fun k hk _=>hev.below.block k hk⟩ ?_,h0,?_,?_⟩
  ·cases hb:r.ownBlock <;> simp
  ·intro i e he;obtain ⟨h2,h3⟩:=hc i e he;exact ⟨h2,fun k c hc=>let ⟨v,h4,h5,h6⟩:=h3 k c hc;⟨v,h4,h5,h6.later hlat⟩⟩
  ·intro b hb o ho;have hlt:=(hown.lt b hb).2;exact (hev.new b o ho).elim (hkk b hb o) (fun h2=>by omega)
 | dead=>trivial
 | pin v u=>exact ARel.keeps hlat hk h
 | obj X =>
  obtain ⟨b,ob,rfl,hB,hb,hx,hn⟩:=h;have hlt:b < w.heap.size:=(Array.getElem?_eq_some_iff.1 hb).1;exact ⟨b,ob,rfl,hB,by rw [hev.below.block b hlt];exact hb,hx,fun o ho=>(hev.new b o ho).elim (hn o) (fun h2=>by omega)⟩
theorem HOk.block_lt {B:Nat} {e:HE} {r:Value} (h:HOk K w B ρ H e r) (hl:e.live=true) {b:Nat} (hb:yj r=some b):B≤b∧b < w.heap.size:=by
 cases e with
 | cell v =>
  obtain ⟨b',t,arr,u,rfl,hB,hb',_⟩:=h;simp only [yj,Option.some.injEq] at hb;subst hb;exact ⟨hB,(Array.getElem?_eq_some_iff.1 hb').1⟩
 | row t sz es =>
  obtain ⟨xs,hown,_⟩:=h;refine hown.lt b ?_;rcases hown.2 with ⟨rfl,_⟩|⟨g,_,_,rfl,_⟩
  ·simp [yj] at hb
  ·simpa [yj,Value.ownBlock] using hb
 | mrow t sz es =>
  obtain ⟨xs,hown,_⟩:=h;refine hown.lt b ?_;rcases hown.2 with ⟨rfl,_⟩|⟨g,_,_,rfl,_⟩
  ·simp [yj] at hb
  ·simpa [yj,Value.ownBlock] using hb
 | dead=>simp [HE.live] at hl
 | pin v u=>simp [HE.live] at hl
 | obj X =>
  obtain ⟨b',ob,rfl,hB,hb',_⟩:=h;simp only [yj,Option.some.injEq] at hb;subst hb;exact ⟨hB,(Array.getElem?_eq_some_iff.1 hb').1⟩
theorem FS.fresh (hf:FS g K ρ H w) (hev:Evo K K' w w') {i:Nat} (hi:H.get i=none) {e:HE} {r:Value} (hok:HOk K' w' g.w0.heap.size (fun j=>if j=i then r else ρ j) ((i,e)::H) e r)
  (hnew:∀ b,yj r=some b→w.heap.size≤b):FS g K' (fun j=>if j=i then r else ρ j) ((i,e)::H) w':=by
 have hk:∀ j,(H.get j).isSome=true→(HEnv.get ((i,e)::H) j).isSome=true∧(fun j=>if j=i then r else ρ j) j=ρ j:=by
  intro j hj;have hne:j≠i:=by rintro rfl;simp [hi] at hj
  refine ⟨?_,by simp [hne]⟩;simp only [HEnv.get_nil,HEnv.get_cons];rw [if_neg (Ne.symm hne)];exact hj
 have h1:=hf.evo hev;refine ⟨h1.below,h1.old,h1.new,h1.lt,h1.others,h1.pt,hf.away.fresh (fun b hb=>hf.pt.lt (hnew b hb)),?_,?_⟩
 ·intro j h hj;simp only [HEnv.get_nil,HEnv.get_cons] at hj;split at hj
  ·rename_i e';subst e';simp only [Option.some.injEq] at hj;subst hj;simpa using hok
  ·rename_i hne;have:=(hf.heap.ok j h hj).keeps hev hf.lt hk;simpa [Ne.symm hne] using this
 ·intro j k h h' b hjk hj hk' hlj hlk hbj hbk;simp only [HEnv.get_nil,HEnv.get_cons] at hj hk';split at hj
  ·rename_i e';subst e';split at hk'
   ·rename_i e'';exact hjk zwy62
   ·rename_i hne;simp only [if_true] at hbj;simp only [Ne.symm hne,if_false] at hbk;have:=hnew b hbj;have:=((hf.heap.ok k h' hk').block_lt hlk hbk).2;omega
  ·rename_i hne;simp only [Ne.symm hne,if_false] at hbj;split at hk'
   ·rename_i e'';subst e'';simp only [if_true] at hbk;have:=hnew b hbk;have:=((hf.heap.ok j h hj).block_lt hlj hbj).2;omega
   ·rename_i hne';simp only [Ne.symm hne',if_false] at hbk;exact hf.heap.apart j k h h' b hjk hj hk' hlj hlk hbj hbk
theorem EnvR.keeps {tmps:Array Value} (hl:Later K K' w w') (hk:∀ j,(H.get j).isSome=true→(H'.get j).isSome=true∧ρ' j=ρ j) (he:EnvR K w ρ H env tmps):EnvR K' w' ρ' H' env tmps :=
 fun t av ht=>let ⟨v,h1,h2⟩:=he t av ht;⟨v,h1,h2.keeps hl hk⟩
theorem Za {i:Nat} (hi:H.get i=none) (e:HE) (r:Value):∀ j,(H.get j).isSome=true→(HEnv.get ((i,e)::H) j).isSome=true∧(fun j=>if j=i then r else ρ j) j=ρ j:=by
 intro j hj;have hne:j≠i:=by rintro rfl;simp [hi] at hj
 refine ⟨?_,by simp [hne]⟩;simp only [HEnv.get_nil,HEnv.get_cons];rw [if_neg (Ne.symm hne)];exact hj
def zdZ (v:Value):Option AV :=
 match v with
 | .agg cs=>match VT cs.toList with|some ps=>some (.pv (.agg ps))|none=>none
 | v=>if Zm v then some (.pv (.base v)) else none
theorem zkj {K:KK} {ρ:Nat→Value} {w:World} {a:Act} (htb:yR P tb) {ty:Nat} (i:Nat) (hop:o.op=.alloc ty) {z:Value} (hz:tb.zero ty=some z) {za:AV} (hza:zdZ z=some za) (hi:H.get i=none) (hf:FS g K ρ H w) :
  ∃ v w',(execOp a.eval o).run P w=.ok (.value v) w'∧Evo K K w w'∧FS g K (fun j=>if j=i then v else ρ j) ((i,.cell za)::H) w'∧ARel K w' (fun j=>if j=i then v else ρ j) ((i,.cell za)::H) (.box i 0) v:=by
 have hzi:∃ i,P.info? ty=some i∧i.zero=some z:=by
  unfold Tab.zero at hz;split at hz
  ·rename_i ti hti;obtain ⟨i,e1,_,_,e4,_⟩:=ZJ htb hti;exact ⟨i,e1,by rw [e4];exact hz⟩
  ·cases hz
 obtain ⟨ti,hti,htz⟩:=hzi;have hrun:(execOp a.eval o).run P w=.ok (.value (.pointer (some ⟨w.heap.size,0,none⟩))) (w.alloc (.cells z.cells ty)):=by
  simp [execOp,hop,Instr.alloc,zeroValue,typeInfo,hti,htz,newVar,newRow]
 have hev:Evo K K w (w.alloc (.cells z.cells ty)):=⟨(Below.refl _ _).alloc (Nat.le_refl _) _,fun _ _ h=>h,fun _ _ h=>.inl h,fun b o h=>by have:=hf.lt b o h;simp;omega⟩
 have hzr:ARel K (w.alloc (.cells z.cells ty)) (fun j=>if j=i then .pointer (some ⟨w.heap.size,0,none⟩) else ρ j) ((i,.cell za)::H) za z:=by
  unfold zdZ at hza;split at hza
  ·rename_i cs;split at hza
   ·rename_i ps hps;simp only [Option.some.injEq] at hza;subst hza;have hr:=Vu (K:=K) (w:=w.alloc (.cells (Value.agg cs).cells ty)) hps;have:=PRel.agg ps cs.toList hr.1 (Vf hps) hr.2;exact .pv _ _ (by simpa using this)
   ·cases hza
  ·split at hza
   ·rename_i ho;simp only [Option.some.injEq] at hza;subst hza;exact .pv _ _ (.base _ ho)
   ·cases hza
 refine ⟨_,_,hrun,hev,hf.fresh hev hi ⟨w.heap.size,ty,z.cells,z,rfl,hf.below.size,heap_alloc_new w _,hzr,rfl,fun o ho=>by have:=hf.lt _ o ho;omega⟩ zwy112,.box i 0 _ zwy94 zwy63⟩
theorem ZC (htb:yR P tb) {ty t:Nat} (i:Nat) (hg:guardE ops env o=some true) (hop:o.op=.alloc ty) {z:Value} (hz:tb.zero ty=some z) {za:AV} (hza:zdZ z=some za) (hi:H.get i=none) (hd:o.dst=some t) (ht:Nat.blt t n=true)
  (h:AO P n g ops.toArray rest ((t,.box i 0)::env) ((i,.cell za)::H) Q):AO P n g ops.toArray (o::rest) env H Q:=by
 refine ⟨fun a w hinv=>?_⟩;have hw:=yT hinv hg;obtain ⟨h1,h2,K,ρ,hf,he⟩:=hinv;refine wpList_step fun KK hKK=>?_
 rw [if_pos hw];obtain ⟨v,w',hrun,hev,hf',hr⟩:=zkj (a:=a) htb i hop hz hza hi hf;unfold Oper.wp;rw [hrun];simp only [Oper.upon];refine hKK _ _ (h.go _ _ ⟨qW h1,put_defers h2,K,_,hf',?_⟩);rw [hd];exact Zo h1 ht (he.keeps (hev.later hf.lt) (Za hi _ _)) hr
theorem WX {ty:TypeId} {x:Operand} {t:Nat} (i:Nat) (hg:guardE ops env o=some true) (hop:o.op=.box ty x) {v:AV} (hx:env.val x=some v) (hi:H.get i=none) (hd:o.dst=some t) (ht:Nat.blt t n=true)
  (h:AO P n g ops.toArray rest ((t,.box i 0)::env) ((i,.cell v)::H) Q):AO P n g ops.toArray (o::rest) env H Q:=by
 refine ⟨fun a w hinv=>?_⟩;have hw:=yT hinv hg;obtain ⟨h1,h2,K,ρ,hf,he⟩:=hinv;refine wpList_step fun KK hKK=>?_
 rw [if_pos hw];have hrun:(execOp a.eval o).run P w=.ok (.value (.pointer (some ⟨w.heap.size,0,none⟩))) (w.alloc (.cells (a.eval x).cells ty)):=by
  simp [execOp,hop,Instr.box,newVar,newRow]
 unfold Oper.wp;rw [hrun];simp only [Oper.upon];have hev:Evo K K w (w.alloc (.cells (a.eval x).cells ty)):=⟨(Below.refl _ _).alloc (Nat.le_refl _) _,fun _ _ h=>h,fun _ _ h=>.inl h,fun b o h=>by have:=hf.lt b o h;simp;omega⟩
 have hxr:=qA he hx;refine hKK _ _ (h.go _ _ ⟨qW h1,put_defers h2,K,fun j=>if j=i then .pointer (some ⟨w.heap.size,0,none⟩) else ρ j,hf.fresh hev hi ⟨w.heap.size,ty,_,a.eval x,rfl,hf.below.size,heap_alloc_new w _,hxr.keeps (hev.later hf.lt) (Za hi _ _),rfl,fun o ho=>by have:=hf.lt _ o ho;omega⟩ zwy112,?_⟩);rw [hd];exact Zo h1 ht (he.keeps (hev.later hf.lt) (Za hi _ _)) (.box i 0 _ zwy87 zwy63)
theorem znR {t:Nat} (i:Nat) (e:TypeId) (sz:Nat) (hsz:0 < sz) (ht:env.get t=some (.pv (.base (.slice none 0 0)))) (hi:H.get i=none) (hinv:Inv n g env H a w):Inv n g ((t,.own i)::env) ((i,.row e sz [])::H) a w:=by
 obtain ⟨h1,h2,K,ρ,hf,he⟩:=hinv;have hev:Evo K K w w:=.refl hf.lt;refine ⟨h1,h2,K,fun j=>if j=i then .slice none 0 0 else ρ j,hf.fresh hev hi ⟨[],World.ownsRow_nil w _ e sz,hsz,fun i e h=>by simp at h,by simp [Value.ownBlock]⟩ zwy112,?_⟩;have he':=he.keeps (hev.later hf.lt) (H':=(i,.row e sz [])::H) (Za hi _ (.slice none 0 0));intro t' av hg;simp only [Env.get_nil,Env.get_cons] at hg;split at hg
 ·rename_i e';subst e';simp only [Option.some.injEq] at hg;subst hg;obtain ⟨v,hv,hr⟩:=he _ _ ht;cases hr with
  | pv _ _ hp =>
   cases hp;refine ⟨_,hv,?_⟩;have:=ARel.own (K:=K) (w:=w) (ρ:=fun j=>if j=i then .slice none 0 0 else ρ j) (H:=(i,HE.row e sz [])::H) i zwy87;simpa using this
 ·exact he' _ _ hg
theorem YF {t:Nat} (i:Nat) (e:TypeId) (sz:Nat) (hsz:0 < sz) (ht:env.get t=some (.pv (.base (.slice none 0 0)))) (hi:H.get i=none) (h:AW P n g c ((t,.own i)::env) ((i,.row e sz [])::H) QQ):AW P n g c env H QQ :=
 ⟨fun a w hinv=>h.go a w (znR i e sz hsz ht hi hinv)⟩
theorem zhr (b i:Nat) (e:TypeId) (sz:Nat) (hsz:0 < sz) (hb:H.get b=some (.cell (.pv (.base (.slice none 0 0))))) (hi:H.get i=none) (h:AW P n g c env ((b,.cell (.own i))::(i,.row e sz [])::H) QQ):AW P n g c env H QQ:=by
 refine ⟨fun a w hinv=>h.go a w ?_⟩;obtain ⟨h1,h2,K,ρ,hf,he⟩:=hinv;have hev:Evo K K w w:=.refl hf.lt;have hne:b≠i:=by rintro rfl;simp [hi] at hb
 have hf2:FS g K (fun j=>if j=i then .slice none 0 0 else ρ j) ((i,.row e sz [])::H) w:=hf.fresh hev hi ⟨[],World.ownsRow_nil w _ e sz,hsz,fun i e h=>by simp at h,by simp [Value.ownBlock]⟩ zwy112;have hk:∀ j,(HEnv.get ((i,HE.row e sz [])::H) j).isSome=true→(HEnv.get ((b,.cell (.own i))::(i,HE.row e sz [])::H) j).isSome=true∧(fun j=>if j=i then Value.slice none 0 0 else ρ j) j=(fun j=>if j=i then Value.slice none 0 0 else ρ j) j:=by
  intro j hj;refine ⟨?_,rfl⟩;simp only [HEnv.get_nil,HEnv.get_cons] at hj ⊢;split
  ·rfl
  ·exact hj
 have hlat:=hev.later hf.lt;refine ⟨h1,h2,K,fun j=>if j=i then .slice none 0 0 else ρ j,⟨hf2.below,hf2.old,hf2.new,hf2.lt,hf2.others,hf2.pt,hf2.away.set (e0:=.cell (.pv (.base (.slice none 0 0)))) zwy103 rfl,?_,?_⟩,(he.keeps hlat (Za hi _ _)).keeps hlat hk⟩
 ·intro j hh hj;simp only [HEnv.get_nil,HEnv.get_cons] at hj;split at hj
  ·rename_i e';subst e';simp only [Option.some.injEq] at hj;subst hj;obtain ⟨b',t',arr,u,hr,hB,hheap,hu,harr,hn⟩:=hf.heap.ok b _ hb;refine ⟨b',t',arr,u,by simpa [hne] using hr,hB,hheap,?_,harr,hn⟩;cases hu with
   | pv _ _ hp =>
    cases hp;have:=ARel.own (K:=K) (w:=w) (ρ:=fun j=>if j=i then .slice none 0 0 else ρ j) (H:=(b,.cell (.own i))::(i,HE.row e sz [])::H) i (by simp [HEnv.get_nil,HEnv.get_cons,hne]);simpa using this
  ·have:=(hf2.heap.ok j hh (by simpa only [HEnv.get_nil,HEnv.get_cons] using hj)).keeps hev hf.lt hk;exact this
 ·intro j k hh hh' bb hjk hj hk' hlj hlk hbj hbk;have e1:∀ (j:Nat) (hh:HE),HEnv.get ((b,.cell (.own i))::(i,HE.row e sz [])::H) j=some hh→hh.live=true→∃ h0,HEnv.get ((i,HE.row e sz [])::H) j=some h0∧h0.live=true:=by
   intro j hh hj hl;rw [HEnv.get_cons] at hj;split at hj
   ·rename_i e';subst e';refine ⟨.cell (.pv (.base (.slice none 0 0))),?_,rfl⟩;simp only [HEnv.get_nil,HEnv.get_cons];rw [if_neg (Ne.symm hne)];exact hb
   ·exact ⟨hh,hj,hl⟩
  obtain ⟨a1,a2,a3⟩:=e1 j hh hj hlj;obtain ⟨b1,b2,b3⟩:=e1 k hh' hk' hlk;exact hf2.heap.apart j k a1 b1 bb hjk a2 b2 a3 b3 hbj hbk
end
def zwe (f:AV→AV):HE→HE
 | .cell v=>.cell (f v)
 | .pin v u=>.pin (f v) u
 | h=>h
def AV.flat:AV→List AV
 | .agg cs=>cs
 | .pv (.agg cs)=>cs.map .pv
 | v=>[v]
def AV.isAgg:AV→Bool
 | .agg _=>true
 | .pv (.agg _)=>true
 | _=>false
def zuD (c v:AV):Bool:=c.isAgg==v.isAgg
def zeq (tb:Tab) (H:HEnv) (ty:Nat) (c:AV) (off:Nat) (v:AV):Option AV :=
 if v.flat.length=tb.size ty∧off + tb.size ty≤c.flat.length∧(v.flat.all (zjX H))=true then
  (if off=0∧c.flat.length=tb.size ty∧zuD c v=true then some v
  else match c with
   | .agg cs=>some (.agg (cs.take off++v.flat++cs.drop (off + tb.size ty)))
   | .pv (.agg cs)=>some (.agg ((cs.map .pv).take off++v.flat++(cs.map .pv).drop (off + tb.size ty)))
   | _=>none)
 else none
def zgo (H:HEnv):AV→Bool
 | .any=>false
 | .own i=>isVal H i
 | .pv (.tup _)=>false
 | _=>true
section
variable {P:Program} {tb:Tab} {n:Nat} {g:Base} {K K':KK} {w w':World} {ρ ρ':Nat→Value} {H H':HEnv} {env:Env} {a:Act} {ops:List Oper} {o:Oper} {rest:List Oper} {Q:Env→HEnv→Prop} {QQ:QC} {c:Code}
theorem HOk.grown {B:Nat} {row:Option Nat} {f:AV→AV} (hg:w.grownBy w' row) (hl:Later K K' w w') (hK:∀ b o,K' b o→K b o∨row=some b∨w.heap.size≤b)
  (tr:∀ av v,ARel K w ρ H av v→ARel K' w' ρ' H' (f av) v) {e:HE} {r:Value} (h:HOk K w B ρ H e r) (hlive:e.live=true) (hne:∀ b,yj r=some b→row≠some b):HOk K' w' B ρ' H' (zwe f e) r:=by
 cases e with
 | cell v =>
  obtain ⟨b,t,arr,u,rfl,hB,hb,hu,ha,hn⟩:=h;have hlt:b < w.heap.size:=(Array.getElem?_eq_some_iff.1 hb).1;have h1:=hne b rfl;exact ⟨b,t,arr,u,rfl,hB,by rw [hg.block b hlt (Ne.symm h1)];exact hb,tr _ _ hu,ha,fun o ho=>(hK b o ho).elim (hn o) (fun h=>h.elim h1 zwy62)⟩
 | row t sz es =>
  obtain ⟨xs,hown,h0,hc,hkk⟩:=h;have hbr:∀ b,r.ownBlock=some b→yj r=some b:=by
   intro b hb;rcases hown.2 with ⟨rfl,_⟩|⟨g,_,_,rfl,_⟩
   ·simp [Value.ownBlock] at hb
   ·simpa [yj,Value.ownBlock] using hb
  refine ⟨xs,hown.kept (row:=row) hg ?_,h0,?_,?_⟩
  ·cases hb:r.ownBlock with
   | none=>exact .inl rfl
   | some b=>exact .inr (fun e=>hne b (hbr b hb) e.symm)
  ·intro i e he;obtain ⟨h2,h3⟩:=hc i e he;exact ⟨h2,fun k c hc=>let ⟨v,h4,h5,h6⟩:=h3 k c hc;⟨v,h4,h5,h6.later hl⟩⟩
  ·intro b hb o;rw [←hkk b hb o];have hlt:=(hown.lt b hb).2;exact ⟨fun ho=>(hK b o ho).elim id (fun h=>h.elim (fun h=>(hne b (hbr b hb) h).elim) zwy62),hl.sub b o⟩
 | mrow t sz es =>
  obtain ⟨xs,hown,h0,hc,hkk⟩:=h;have hbr:∀ b,r.ownBlock=some b→yj r=some b:=by
   intro b hb;rcases hown.2 with ⟨rfl,_⟩|⟨g,_,_,rfl,_⟩
   ·simp [Value.ownBlock] at hb
   ·simpa [yj,Value.ownBlock] using hb
  refine ⟨xs,hown.kept (row:=row) hg ?_,h0,?_,?_⟩
  ·cases hb:r.ownBlock with
   | none=>exact .inl rfl
   | some b=>exact .inr (fun e=>hne b (hbr b hb) e.symm)
  ·intro i e he;obtain ⟨h2,h3⟩:=hc i e he;exact ⟨h2,fun k c hc=>let ⟨v,h4,h5,h6⟩:=h3 k c hc;⟨v,h4,h5,h6.later hl⟩⟩
  ·intro b hb o ho;have hlt:=(hown.lt b hb).2;exact (hK b o ho).elim (hkk b hb o) (fun h=>h.elim (fun h=>(hne b (hbr b hb) h).elim) zwy62)
 | dead=>simp [HE.live] at hlive
 | pin v u=>simp [HE.live] at hlive
 | obj X =>
  obtain ⟨b,ob,rfl,hB,hb,hx,hn⟩:=h;have hlt:b < w.heap.size:=(Array.getElem?_eq_some_iff.1 hb).1;have h1:=hne b rfl;exact ⟨b,ob,rfl,hB,by rw [hg.block b hlt (Ne.symm h1)];exact hb,hx,fun o ho=>(hK b o ho).elim (hn o) (fun h=>h.elim h1 zwy62)⟩
theorem zcE {av:AV} {v:Value} (h:ARel K w ρ H av v) (hone:(av.flat.all (zjX H))=true) (hr:∀ i,isVal H i=true→(ρ i).cells=#[ρ i]∧(ρ i).oneCell'=true) :
  v.cells.size=av.flat.length∧(∀ u∈v.cells.toList,u.oneCell'=true)∧∀ (k:Nat) (c:AV) (u:Value),av.flat[k]?=some c→v.cells.toList[k]?=some u→ARel K w ρ H c u:=by
 have single:∀ (x:AV) (u:Value),u.cells=#[u]→u.oneCell'=true→ARel K w ρ H x u→u.cells.size=[x].length∧(∀ y∈u.cells.toList,y.oneCell'=true)∧∀ (k:Nat) (c:AV) (y:Value),[x][k]?=some c→u.cells.toList[k]?=some y→ARel K w ρ H c y:=by
  intro x u h1 h2 h3;rw [h1];refine ⟨rfl,by simpa using h2,fun k c y hc hy=>?_⟩;cases k with
  | zero=>simp at hc hy;subst hc hy;exact h3
  | succ k=>simp at hc
 cases h with
 | pv p v hp =>
  have hnt:p.notTup=true:=by cases p <;> first|rfl|(simp [AV.flat,zjX] at hone)
  have h1:=YP hp;have h2:=cells_one hp hnt;have e:(AV.pv p).flat=p.cells.map .pv:=by cases p <;> rfl
  rw [e];refine ⟨by rw [List.length_map,←h1.1];simp,h2,fun k c u hc hu=>?_⟩;rw [List.getElem?_map] at hc;cases hk:p.cells[k]? with
  | none=>simp [hk] at hc
  | some q=>simp [hk] at hc;subst hc;exact .pv _ _ (h1.2 k q u hk hu)
 | own i hi =>
  simp only [AV.flat,List.all_cons,List.all_nil,Bool.and_true,zjX] at hone;obtain ⟨h1,h2⟩:=hr i hone;exact single _ _ h1 h2 (.own i hi)
 | box i off b hi hb=>exact single _ _ rfl rfl (.box i off b hi hb)
 | ad i off b m c hi hb=>exact single _ _ rfl rfl (.ad i off b m c hi hb)
 | agg cs vs h1 h2 h3=>exact ⟨by simp [Value.cells,AV.flat,h1],by simpa [Value.cells] using h2,fun k c u hc hu=>h3 k c u hc (by simpa [Value.cells] using hu)⟩
 | fn f first cap vf vc h1 h2 h3 h4=>exact single _ _ rfl rfl (.fn f first cap vf vc h1 h2 h3 h4)
 | any v=>simp [AV.flat,zjX] at hone
 | any1 v _ _=>simp [AV.flat,zjX] at hone
theorem row_one (hf:FS g K ρ H w):∀ i,isVal H i=true→(ρ i).cells=#[ρ i]∧(ρ i).oneCell'=true:=by
 intro i hv;unfold isVal at hv;split at hv
 ·rename_i t sz es hh;obtain ⟨xs,hown,_⟩:=hf.heap.ok i _ hh;generalize ρ i=r at hown;rcases hown.2 with ⟨rfl,_⟩|⟨_,_,_,rfl,_⟩ <;> exact ⟨rfl,rfl⟩
 ·rename_i X hh;obtain ⟨b,ob,hr,_⟩:=hf.heap.ok i _ hh;rw [hr];exact ⟨rfl,rfl⟩
 ·rename_i t sz es hh;obtain ⟨xs,hown,_⟩:=hf.heap.ok i _ hh;generalize ρ i=r at hown;rcases hown.2 with ⟨rfl,_⟩|⟨_,_,_,rfl,_⟩ <;> exact ⟨rfl,rfl⟩
 ·cases hv
theorem zpi {ty off:Nat} {c v r:AV} {cu vu:Value} (h:zeq tb H ty c off v=some r) (hc:ARel K w ρ H c cu) (hv:ARel K w ρ H v vu) (hr:∀ i,isVal H i=true→(ρ i).cells=#[ρ i]∧(ρ i).oneCell'=true)
  (hccells:cu.cells.size=c.flat.length) :
  vu.cells.size=tb.size ty∧(∀ u∈vu.cells.toList,u.oneCell'=true)∧off + tb.size ty≤cu.cells.size∧∃ ru,ARel K w ρ H r ru∧ru.cells.toList=cu.cells.toList.take off++vu.cells.toList++cu.cells.toList.drop (off + tb.size ty):=by
 unfold zeq at h;split at h
 ·rename_i hh;obtain ⟨h1,h2,h3⟩:=hh;obtain ⟨e1,e2,e3⟩:=zcE hv h3 hr;refine ⟨by omega,e2,by omega,?_⟩;split at h
  ·rename_i hw;obtain ⟨w1,w2,_⟩:=hw;simp only [Option.some.injEq] at h;subst h w1;refine ⟨vu,hv,?_⟩;simp only [List.take_zero,List.nil_append,Nat.zero_add];rw [List.drop_eq_nil_of_le zwy64,List.append_nil]
  ·rename_i hnw;have key:∀ (cs:List AV) (us:List Value),us.length=cs.length→(∀ v∈us,v.oneCell'=true)→(∀ (k:Nat) (c:AV) (v:Value),cs[k]?=some c→us[k]?=some v→ARel K w ρ H c v)→off + tb.size ty≤cs.length →
     ARel K w ρ H (.agg (cs.take off++v.flat++cs.drop (off + tb.size ty))) (.agg (us.take off++vu.cells.toList++us.drop (off + tb.size ty)).toArray):=by
    intro cs us hl ho hr' hle;refine .agg _ _ zwy64 ?_ ?_
    ·intro x hx;simp only [List.mem_append] at hx;rcases hx with (hx|hx)|hx
     ·exact ho x (List.mem_of_mem_take hx)
     ·exact e2 x hx
     ·exact ho x (List.mem_of_mem_drop hx)
    ·intro k c' x hc' hx;have hs:vu.cells.toList.length=v.flat.length:=by simpa using e1
     simp only [List.getElem?_append,List.length_append,List.length_take,hs,hl] at hc' hx;split at hc'
     ·rename_i hlt;split at hc'
      ·rename_i hlt2;rw [if_pos hlt,if_pos hlt2] at hx;rw [List.getElem?_take] at hc' hx;split at hc'
       ·rename_i hlt3;rw [if_pos hlt3] at hx;exact hr' k c' x hc' hx
       ·cases hc'
      ·rename_i hlt2;rw [if_pos hlt,if_neg hlt2] at hx;exact e3 _ c' x hc' hx
     ·rename_i hlt;rw [if_neg hlt] at hx;rw [List.getElem?_drop] at hc' hx;exact hr' _ c' x hc' hx
   split at h
   ·rename_i cs;simp only [Option.some.injEq] at h;subst h;cases hc with
    | agg _ vs a1 a2 a3 =>
     exact ⟨_,key cs vs a1 a2 a3 h2,by simp [Value.cells]⟩
   ·rename_i cs;simp only [Option.some.injEq] at h;subst h;cases hc with
    | pv _ _ hp =>
     cases hp with
     | agg _ vs a1 a2 a3 =>
      refine ⟨_,key (cs.map .pv) vs (by simpa using a1) a2 (fun k c v hc hv=>?_) (by simpa [AV.flat] using h2),by simp [Value.cells]⟩;rw [List.getElem?_map] at hc;cases hk:cs[k]? with
      | none=>simp [hk] at hc
      | some q=>simp [hk] at hc;subst hc;exact .pv _ _ (a3 k q v hk hv)
   ·cases h
 ·cases h
theorem zrQ (hf:FS g K ρ H w) {c:AV} {cu:Value} (hc:ARel K w ρ H c cu) (hn:zgo H c=true):cu.cells.size=c.flat.length:=by
 cases hc with
 | pv p v hp =>
  have e:(AV.pv p).flat=p.cells.map .pv:=by cases p <;> rfl
  rw [e,List.length_map,←(YP hp).1];simp
 | own i hi =>
  simp only [zgo] at hn;rw [(row_one hf i hn).1];rfl
 | box i off b hi hb=>rfl
 | ad i off b m c hi hb=>rfl
 | agg cs vs h1 h2 h3=>simp [Value.cells,AV.flat,h1]
 | fn=>rfl
 | any v=>cases hn
 | any1 v h1 _=>simp [h1,AV.flat]
theorem zkl (htb:yR P tb) {ty:Nat} {x y:Operand} {i off:Nat} {c v r:AV} (hop:o.op=.store ty x y) (hi:H.get i=some (.cell c)) (hr:zeq tb H ty c off v=some r) (hk:tb.known ty=true) (hn:zgo H c=true) (hf:FS g K ρ H w)
  (hxr:ARel K w ρ H (.box i off) (a.eval x)) (hyr:ARel K w ρ H v (a.eval y)):∃ w',(execOp a.eval o).run P w=.ok .skip w'∧FS g K ρ ((i,.cell r)::H) w'∧Later K K w w':=by
 generalize hxv:a.eval x=xv at hxr;generalize hyv:a.eval y=yv at hyr;obtain ⟨b,t,arr,u,hρ,hB,hheap,hu,harr,hnK⟩:=hf.heap.ok i _ hi;cases hxr with
 | box _ _ b' hi' hb' =>
  rw [hρ] at hb';simp only [Value.pointer.injEq,Option.some.injEq,Addr.mk.injEq,and_true] at hb';obtain rfl:=hb';obtain ⟨s1,s2,s3,ru,hru,hcells⟩:=zpi hr hu hyr (row_one hf) (zrQ hf hu hn);have hko:tb.k ty≠.oth:=by intro e;simp [Tab.known,e] at hk
  have hs:=run_sizeOf htb hko w;rw [harr] at s3 hcells;have hst:=run_storeCells_at P b off t yv.cells.toList 0 arr w hheap zwy64 s2;have hrun:(execOp a.eval o).run P w=.ok .skip (w.setRow b ru.cells):=by
   simp only [Nat.add_zero,Array.length_toList,s1] at hst;rw [←hcells,Array.toArray_toList] at hst;simp [execOp,hop,hxv,hyv,Instr.storeAt,Instr.sureAddr,storeVar,hs,s1,hst]
  have hgrow:w.grownBy (w.setRow b ru.cells) (some b):=⟨rfl,rfl,rfl,by simp,fun k _ hk=>setRow_other w b k _ (fun e=>hk (by simp [e]))⟩
  have hlat:Later K K w (w.setRow b ru.cells):=⟨fun _ _ h=>h,fun b' o hk=>by
   have:b'≠b:=by rintro rfl;exact hnK o hk
   exact cell_setRow_other w b _ ⟨b',o,none⟩ this⟩
  have hkeep:∀ j,(H.get j).isSome=true→(HEnv.get ((i,.cell r)::H) j).isSome=true∧ρ j=ρ j:=by
   intro j hj;refine ⟨?_,rfl⟩;simp only [HEnv.get_nil,HEnv.get_cons];split
   ·rfl
   ·exact hj
  refine ⟨_,hrun,⟨hf.below.grown hgrow hf.below.size (fun k hk=>by simp at hk;omega),hf.old,hf.new,fun b o hk=>by have:=hf.lt b o hk;simpa using this,hf.others.trans (zdU hheap hgrow),hf.pt.grown hf.old hgrow hlat (fun b2 hb2=>by cases hb2;exact hf.away i _ b hi rfl zwy114) (fun _ _ h=>.inl h),hf.away.set hi rfl,?_,?_⟩,hlat⟩
  ·intro j e hj;simp only [HEnv.get_nil,HEnv.get_cons] at hj;split at hj
   ·rename_i e';subst e';simp only [Option.some.injEq] at hj;subst hj;exact ⟨b,t,ru.cells,ru,hρ,hB,setRow_heap w b arr _ t _ hheap,hru.keeps hlat hkeep,rfl,hnK⟩
   ·rename_i hne;by_cases hlive:e.live=true
    ·have:=(hf.heap.ok j e hj).grown (f:=id) hgrow hlat (fun b o h=>.inl h) (fun av v h=>h.keeps hlat hkeep) hlive (fun b' hb' e'=>by
      simp at e';subst e';exact hf.heap.apart i j _ e b hne hi hj rfl hlive zwy114 hb')
     cases e <;> exact this
    ·cases e <;> simp [HE.live] at hlive
     ·trivial
     ·exact ARel.keeps hlat hkeep (hf.heap.ok j _ hj)
  ·intro j k e e' bb hjk hj hk' hlj hlk hbj hbk;have e1:∀ (j:Nat) (hh:HE),HEnv.get ((i,.cell r)::H) j=some hh→hh.live=true→∃ h0,H.get j=some h0∧h0.live=true:=by
    intro j hh hj hl;rw [HEnv.get_cons] at hj;split at hj
    ·rename_i e';subst e';exact ⟨_,hi,rfl⟩
    ·exact ⟨hh,hj,hl⟩
   obtain ⟨a1,a2,a3⟩:=e1 j e hj hlj;obtain ⟨b1,b2,b3⟩:=e1 k e' hk' hlk;exact hf.heap.apart j k a1 b1 bb hjk a2 b2 a3 b3 hbj hbk
theorem zn9 (htb:yR P tb) {ty:Nat} {x y:Operand} {i off:Nat} {c v r:AV} (hg:guardE ops env o=some true) (hop:o.op=.store ty x y) (hx:env.val x=some (.box i off)) (hi:H.get i=some (.cell c)) (hy:env.val y=some v)
  (hr:zeq tb H ty c off v=some r) (hk:tb.known ty=true) (hn:zgo H c=true) (hd:o.dst=none)
  (h:AO P n g ops.toArray rest env ((i,.cell r)::H) Q):AO P n g ops.toArray (o::rest) env H Q:=by
 refine ⟨fun a w hinv=>?_⟩;have hw:=yT hinv hg;obtain ⟨h1,h2,K,ρ,hf,he⟩:=hinv;refine wpList_step fun KK hKK=>?_
 rw [if_pos hw];obtain ⟨w',hrun,hf',hlat⟩:=zkl (a:=a) htb hop hi hr hk hn hf (qA he hx) (qA he hy);unfold Oper.wp;rw [hrun];simp only [Oper.upon];have hd':a.put o.dst undef=a:=by rw [hd];rfl
 rw [hd'];exact hKK _ _ (h.go _ _ ⟨h1,h2,K,ρ,hf',he.keeps hlat fun j hj=>⟨by
  rw [HEnv.get_cons];split <;> first|rfl|exact hj,rfl⟩⟩)
end
theorem run_append_own' {P:Program} (w:World) (base:Nat) (t ty e:TypeId) (i:TypeInfo) (z:Value) (size bytes:Nat) (ht:P.underlying t=some (.slice e)) (hi:P.info? e=some i) (hz:i.zero=some z)
  (hsize:i.size=size) (hby:i.bytes=bytes) (hzs:z.cells.size=size)
  (v:Value) (n:Nat) (xs:List Value) (hown:w.ownsRow base e size v n xs)
  (x:Value) (m:Nat) (news:List Value) (hl:news.length=m * size) (hx:(x=.slice none 0 0∧m=0)∨∃ a c,x=.slice (some a) m c∧∀ j u,news[j]?=some u→w.cell? (a.add j)=some u) (h1:∀ u∈news,u.oneCell'=true)
  (h63:n + m≤maxLen) (hbytes:(n + m) * bytes≤140737488355328) (hbase:base≤w.heap.size) :
  ∃ v' w',(Builtin.append_ #[t,t] ty #[v,x]).run P w=.ok v' w'∧w'.ownsRow base e size v' (n + m) (xs++news)∧((w.grownBy w' v.ownBlock∧v'.ownBlock=v.ownBlock)∨(w.grownBy w' none∧∀ b,v'.ownBlock=some b→w.heap.size≤b)):=by
 subst hsize;subst hby;have hsmall:n + m≤9223372036854775807:=by simp only [maxLen] at h63;omega
 have hlen:(xs++news).length=(n + m) * i.size:=by rw [List.length_append,hown.1,hl,Nat.add_mul]
 rcases hx with ⟨rfl,rfl⟩|⟨a,c,rfl,hnews⟩
 ·have hn:news=[]:=List.eq_nil_of_length_eq_zero zwy79;subst hn;refine ⟨v,w,?_,by simpa using hown,.inl ⟨⟨rfl,rfl,rfl,Nat.le_refl _,fun _ _ _=>rfl⟩,rfl⟩⟩;rcases hown.2 with ⟨rfl,rfl⟩|⟨g,cap,cur,rfl,hbg,hg,hnc,hcm,hcs,htake⟩
  ·simp [Builtin.append_,run_underlying ht,sizeOf,typeInfo,hi,Builtin.lenOf,Builtin.firstCells]
  ·simp [Builtin.append_,run_underlying ht,sizeOf,typeInfo,hi,Builtin.lenOf,Builtin.firstCells,hnc,storeCells]
 have grown:∀ (old:Nat),old < n + m→∀ (row:Option Nat),
   (w.drew.alloc (.cells (xs.toArray++news.toArray++Builtin.zeroCells z.cells (grownCap w (n + m) old e - (n + m))) e)).ownsRow base e i.size
    (.slice (some ⟨w.heap.size,0,none⟩) (n + m) (grownCap w (n + m) old e)) (n + m) (xs++news) ∧
   w.grownBy (w.drew.alloc (.cells (xs.toArray++news.toArray++Builtin.zeroCells z.cells (grownCap w (n + m) old e - (n + m))) e)) row:=by
  intro old ho row;have hge:=grownCap_ge w (n + m) old e;have hcm:grownCap w (n + m) old e≤maxLen:=grownCap_le_maxLen w (n + m) old e h63;refine ⟨⟨hlen,.inr ⟨w.heap.size,_,_,rfl,hbase,heap_alloc_new w.drew _,hge,hcm,?_,?_⟩⟩,⟨rfl,rfl,rfl,by simp,fun k hk _=>(World.grownBy_alloc w.drew _ none).block k hk zwy63⟩⟩
  ·simp only [Array.size_append,List.size_toArray,size_zeroCells,hzs,hown.1,hl,←Nat.add_mul];congr 1;omega
  ·simp only [Array.toList_append,List.append_assoc];rw [←List.append_assoc,←hlen];exact List.take_left
 rcases hown.2 with ⟨rfl,rfl⟩|⟨g,cap,cur,rfl,hbg,hg,hnc,hcm,hcs,htake⟩
 ·have hx:xs=[]:=List.eq_nil_of_length_eq_zero (by simpa using hown.1);subst hx;by_cases hm:m=0
  ·subst hm;have hn:news=[]:=List.eq_nil_of_length_eq_zero zwy79;subst hn;refine ⟨.slice none 0 0,w,?_,World.ownsRow_nil w base e i.size,.inl ⟨⟨rfl,rfl,rfl,Nat.le_refl _,fun _ _ _=>rfl⟩,rfl⟩⟩;simp [Builtin.append_,run_underlying ht,sizeOf,typeInfo,hi,Builtin.lenOf,Builtin.firstCells,loadCells,loadCellsFrom]
  ·have hr:=run_append_nil (P:=P) w t ty e i z ht hi hz a m c news hl hnews zwy62 zwy62 (by have hb:=hbytes;simp only [Nat.zero_add] at hb;omega);have hgr:=grown 0 zwy62 none;simp only [Nat.zero_add,List.nil_append,Array.empty_append] at hgr ⊢;exact ⟨_,_,hr,hgr.1,.inr ⟨hgr.2,by simp [Value.ownBlock]⟩⟩
 ·by_cases hroom:n + m≤cap
  ·have hfit:n * i.size + news.length≤cur.size:=by rw [hl,hcs,←Nat.add_mul];exact Nat.mul_le_mul_right _ hroom
   have hr:=run_append_room (P:=P) w t ty e i ht hi g n cap cur hg a m c news hl hnews h1 hroom hfit;refine ⟨_,_,hr,⟨hlen,.inr ⟨g,cap,_,rfl,hbg,setRow_heap w g cur _ e _ hg,hroom,hcm,?_,?_⟩⟩,?_⟩
   rotate_left 2
   ·exact .inl ⟨⟨rfl,rfl,rfl,by simp,fun k _ hk=>setRow_other w g k _ (fun e=>hk (by simp [Value.ownBlock,e]))⟩,rfl⟩
   ·simp only [List.size_toArray,List.length_append,List.length_take,List.length_drop,Array.length_toList];omega
   ·rw [htake,←hlen];exact List.take_left
  ·have holds:∀ j u,xs[j]?=some u→w.cell? ((⟨g,0,none⟩:Addr).add j)=some u:=hown.cells (g:=g) rfl;have hr:=run_append_grow (P:=P) w t ty e i z ht hi hz ⟨g,0,none⟩ n cap xs hown.1 holds a m c news hl hnews zwy62 zwy62 (growslice_fits zwy62 hbytes);have hgr:=grown cap zwy62 none;exact ⟨_,_,hr,hgr.1,.inr ⟨hgr.2,by simp [Value.ownBlock]⟩⟩
theorem zaS (sz:Nat) (vss:Nat→List Value):∀ (m:Nat),(∀ i,i < m→(vss i).length=sz)→((List.range m).flatMap vss).length=m * sz∧∀ i k,i < m→k < sz→((List.range m).flatMap vss)[i * sz + k]?=(vss i)[k]?
 | 0,_=>⟨by simp,fun i k h=>by omega⟩
 | m + 1,h=>by
  obtain ⟨h1,h2⟩:=zaS sz vss m (fun i hi=>h i zwy62);have hm:=h m zwy62;refine ⟨by rw [List.range_succ,List.flatMap_append,List.length_append,h1];simp [hm,Nat.add_mul],fun i k hi hk=>?_⟩;rw [List.range_succ,List.flatMap_append,List.getElem?_append];by_cases e:i < m
  ·have:i * sz + k < m * sz:=by
    have:=Nat.mul_le_mul_right sz (show i + 1≤m by omega);rw [Nat.add_mul] at this;omega
   rw [if_pos zwy62];exact h2 i k e hk
  ·obtain rfl:i=m:=by omega
   rw [if_neg zwy62,h1];simp
section
variable {P:Program} {tb:Tab} {n:Nat} {g:Base} {K K':KK} {w w':World} {ρ ρ':Nat→Value} {H H':HEnv} {env:Env} {a:Act} {ops:List Oper} {o:Oper} {rest:List Oper} {Q:Env→HEnv→Prop} {QQ:QC} {c:Code}
theorem Wj {sz:Nat} {xs:List PV} {full:Bool} {x:Value} (h:PRel K w (.slc sz xs full) x):∃ news,news.length=xs.length * sz ∧
  ((x=.slice none 0 0∧xs.length=0)∨∃ (ad:Addr) (c:Nat),x=.slice (some ad) xs.length c∧(∀ j u,news[j]?=some u→w.cell? (ad.add j)=some u)∧(full=true→c=xs.length)∧xs.length≤c)∧(∀ u∈news,u.oneCell'=true) ∧
  CellsRel K w sz xs news∧xs.length≤maxLen:=by
 cases h with
 | nil=>exact ⟨[],by simp,.inl ⟨rfl,rfl⟩,by simp,fun i e h=>by simp at h,by simp [maxLen]⟩
 | emp _ _ ad=>exact ⟨[],by simp,.inr ⟨ad,0,rfl,by simp,fun _=>rfl,by simp⟩,by simp,fun i e h=>by simp at h,by simp [maxLen]⟩
 | slc _ _ _ b off cap vss h0 hc hf hm hm' hr hcell =>
  have hlen:∀ i,i < xs.length→(vss i).length=sz:=fun i hi=>(hr i _ (List.getElem?_eq_getElem hi)).2.1
  obtain ⟨e1,e2⟩:=zaS sz vss xs.length hlen;have key:∀ j,j < xs.length * sz→j / sz < xs.length∧j % sz < sz∧j=j / sz * sz + j % sz:=by
   intro j hj;refine ⟨(Nat.div_lt_iff_lt_mul h0).2 hj,Nat.mod_lt _ h0,?_⟩;rw [Nat.mul_comm];exact (Nat.div_add_mod j sz).symm
  have hget:∀ j u,((List.range xs.length).flatMap vss)[j]?=some u→j / sz < xs.length∧(vss (j / sz))[j % sz]?=some u∧j=j / sz * sz + j % sz:=by
   intro j u hu;have hj:j < xs.length * sz:=by rw [←e1];exact (List.getElem?_eq_some_iff.1 hu).1
   obtain ⟨k1,k2,k3⟩:=key j hj;have:=e2 _ _ k1 k2;rw [←k3,hu] at this;exact ⟨k1,this.symm,k3⟩
  refine ⟨(List.range xs.length).flatMap vss,e1,.inr ⟨⟨b,off,none⟩,cap,rfl,?_,hf,hc⟩,?_,?_,hm⟩
  ·intro j u hu;obtain ⟨k1,k2,k3⟩:=hget j u hu;have:=((hr _ _ (List.getElem?_eq_getElem k1)).2.2 _ u k2).2.1;rw [Addr.add_lit,k3];rw [←Nat.add_assoc];exact this
  ·intro u hu;obtain ⟨j,hj⟩:=List.getElem?_of_mem hu;obtain ⟨k1,k2,k3⟩:=hget j u hj;exact ((hr _ _ (List.getElem?_eq_getElem k1)).2.2 _ u k2).2.2
  ·intro i e he;have hi:i < xs.length:=(List.getElem?_eq_some_iff.1 he).1;obtain ⟨r1,r2,r3⟩:=hr i e he;refine ⟨r1,fun k c hkc=>?_⟩;have hk:k < sz:=by rw [←r1];exact (List.getElem?_eq_some_iff.1 hkc).1
   have hu:=List.getElem?_eq_getElem (show k < (vss i).length by omega);exact ⟨_,(e2 i k hi hk).trans hu,(r3 k _ hu).2.2,hcell i e k c _ he hkc hu⟩
theorem CellsRel.append {sz:Nat} {es xs:List PV} {us news:List Value} (h:CellsRel K w sz es us) (hl:us.length=es.length * sz) (h':CellsRel K w sz xs news):CellsRel K w sz (es++xs) (us++news):=by
 intro i e he;rw [List.getElem?_append] at he;split at he
 ·rename_i hi;obtain ⟨h1,h2⟩:=h i e he;refine ⟨h1,fun k c hc=>?_⟩;obtain ⟨v,e1,e2,e3⟩:=h2 k c hc;exact ⟨v,by rw [List.getElem?_append_left (List.getElem?_eq_some_iff.1 e1).1];exact e1,e2,e3⟩
 ·rename_i hi;obtain ⟨h1,h2⟩:=h' (i - es.length) e he;refine ⟨h1,fun k c hc=>?_⟩;obtain ⟨v,e1,e2,e3⟩:=h2 k c hc;refine ⟨v,?_,e2,e3⟩;have:i * sz + k=us.length + ((i - es.length) * sz + k):=by
   rw [hl,←Nat.add_assoc,←Nat.add_mul];congr 2;omega
  rw [this,List.getElem?_append_right zwy62,Nat.add_sub_cancel_left];exact e1
@[reducible] def rowB:Bool→TypeId→Nat→List PV→HE
 | true,e,sz,es=>.mrow e sz es
 | false,e,sz,es=>.row e sz es
theorem zgS (htb:yR P tb) {ty e:Nat} {x y:Operand} {i:Nat} (j:Nat) (m:Bool) {f:AV→AV} {R:HEnv} {sz:Nat} {es xs:List PV} {full:Bool}
  (hop:o.op=.call { callee:=.builtin .append,args:=#[x,y],argTypes:=#[ty,ty] }) (hk:tb.k ty=.sl e) (hx:env.val x=some (.own i)) (hi:H.get i=some (rowB m e sz es)) (hy:env.pv H y=some (.slc sz xs full))
  (hzz:(match tb.get e with|some ti=>(match ti.zero with|some z=>ti.size==sz&&z.cells.size==sz|none=>false)|none=>false)=true)
  (hbound:(es.length + xs.length) * (match tb.get e with|some ti=>ti.bytes|none=>0)≤140737488355328) (hb2:es.length + xs.length≤140737488355328)
  (hf:FS g K ρ H w) (hv:∀ z∈o.op.operands,∀ av,env.val z=some av→ARel K w ρ H av (a.eval z))
  (hR:∀ k,k≠j→∀ hh,R.get k=some hh→hh=.dead∨k≠i∧∃ e0,H.get k=some e0∧hh=zwe f e0)
  (htr:∀ {K1:KK} {w':World} {v':Value},Later K K1 w w'→∀ av v,ARel K w ρ H av v→ARel K1 w' (fun k=>if k=j then v' else ρ k) ((j,rowB m e sz (es++xs))::R) (f av) v) :
  ∃ v' w' K',(execOp a.eval o).run P w=.ok (.value v') w'∧Later K K' w w'∧FS g K' (fun k=>if k=j then v' else ρ k) ((j,rowB m e sz (es++xs))::R) w':=by
 have hxr:=hv x zwy70 _ hx;have hyr:=qc (a:=a) hf (x:=y) (hv y zwy70) hy;have hl0:(rowB m e sz es).live=true:=by cases m <;> rfl
 cases hti:tb.get e with
 | none=>simp [hti] at hzz
 | some ti =>
  cases hz:ti.zero with
  | none=>simp [hti,hz] at hzz
  | some z =>
   simp only [hti,hz,Bool.and_eq_true,beq_iff_eq] at hzz hbound;obtain ⟨tin,q1,q2,q3,q4,_⟩:=ZJ htb hti;obtain ⟨us,hown,hsz,hcr,hKK'⟩:∃ us,w.ownsRow g.w0.heap.size e sz (ρ i) es.length us∧0 < sz∧CellsRel K w sz es us∧∀ b,(ρ i).ownBlock=some b→∀ o,K b o→m=false∧o < es.length * sz:=by
    cases m
    ·obtain ⟨us,a1,a2,a3,a4⟩:=hf.heap.ok i _ hi;exact ⟨us,a1,a2,a3,fun b hb o h=>⟨rfl,(a4 b hb o).1 h⟩⟩
    ·obtain ⟨us,a1,a2,a3,a4⟩:=hf.heap.ok i _ hi;exact ⟨us,a1,a2,a3,fun b hb o h=>(a4 b hb o h).elim⟩
   generalize hxv:a.eval x=xv at hxr;cases hxr with
   | own _ hi' =>
    obtain ⟨news,n1,n2,n3,n4,n5⟩:=Wj hyr;obtain ⟨v',w',r1,r2,r3⟩:=run_append_own' (P:=P) w g.w0.heap.size ty o.type e tin z sz ti.bytes (qY htb hk) q1 zwy108 zwy62 q3 hzz.2 (ρ i) es.length us hown (a.eval y) xs.length news n1
     (n2.imp (fun h=>⟨h.1,by simpa using h.2⟩) (fun ⟨ad,c,hh,hh2,_⟩=>⟨ad,c,hh,hh2⟩)) n3 zwy110 hbound hf.below.size
    have hrun:(execOp a.eval o).run P w=.ok (.value v') w':=by
     simp [execOp,hop,resolve,invoke,builtin,hxv,r1]
    obtain ⟨row,hgrow,hrow⟩:∃ row,w.grownBy w' row∧((row=(ρ i).ownBlock∧v'.ownBlock=(ρ i).ownBlock)∨(row=none∧∀ b,v'.ownBlock=some b→w.heap.size≤b)):=by
     rcases r3 with ⟨h1,h2⟩|⟨h1,h2⟩
     ·exact ⟨_,h1,.inl ⟨rfl,h2⟩⟩
     ·exact ⟨_,h1,.inr ⟨rfl,h2⟩⟩
    let K1:KK:=fun b o=>K b o∨(m=false∧v'.ownBlock=some b∧o < (es.length + xs.length) * sz)
    have hcellsame:∀ b o,K b o→w'.cell? ⟨b,o,none⟩=w.cell? ⟨b,o,none⟩:=by
     intro b o hbo;by_cases hbb:row=some b
     ·rcases hrow with ⟨e1,e2⟩|⟨e1,_⟩
      ·rw [hbb] at e1;have hlt:=(hKK' b e1.symm o hbo).2;have hu:us[o]?=some (us[o]'(by rw [hown.1];exact hlt)):=List.getElem?_eq_getElem _;have c1:=hown.cells e1.symm o _ hu;have hu':(us++news)[o]?=some (us[o]'(by rw [hown.1];exact hlt)):=by rw [List.getElem?_append_left (by rw [hown.1];exact hlt)];exact hu
       have c2:=r2.cells (g:=b) (by rw [e2];exact e1.symm) o _ hu';rw [Addr.add_lit,Nat.zero_add] at c1 c2;rw [c1,c2]
      ·rw [hbb] at e1;cases e1
     ·exact World.cell?_of_block (hgrow.block b (hf.lt b o hbo) (Ne.symm hbb))
    have hlat:Later K K1 w w':=⟨fun b o h=>.inl h,hcellsame⟩
    have hvlt:=r2.lt;have hrowB:∀ k,row=some k→g.w0.heap.size≤k:=by
     intro k hk;rcases hrow with ⟨e1,_⟩|⟨e1,_⟩
     ·rw [hk] at e1;exact (hown.lt k e1.symm).1
     ·rw [hk] at e1;cases e1
    have htr:=@htr K1 w' v' hlat;have hbo:∀ {v:Value} {nn:Nat} {zs:List Value} {ww:World} {BB:Nat},ww.ownsRow BB e sz v nn zs→∀ b,yj v=some b↔v.ownBlock=some b:=by
     intro v nn zs ww BB h b;rcases h.2 with ⟨rfl,_⟩|⟨_,_,_,rfl,_⟩ <;> simp [yj,Value.ownBlock]
    have hK1:∀ b o,K1 b o→K b o∨row=some b∨w.heap.size≤b:=by
     rintro b o (h|⟨_,h,_⟩)
     ·exact .inl h
     ·rcases hrow with ⟨e1,e2⟩|⟨_,e2⟩
      ·exact .inr (.inl (by rw [e1,←e2];exact h))
      ·exact .inr (.inr (e2 b h))
    have hnl:(es++xs).length=es.length + xs.length:=List.length_append;have hcellsrow:∀ (j:Nat) (o:Obj),row=some j→w.heap[j]?=some o→o.isCells=true:=by
     intro j o hj ho;rcases hrow with ⟨e1,_⟩|⟨e1,_⟩
     ·rw [hj] at e1;rcases hown.2 with ⟨h,_⟩|⟨b2,cap,cur,h,_,hh,_⟩
      ·rw [h] at e1;simp [Value.ownBlock] at e1
      ·rw [h] at e1;simp only [Value.ownBlock,Option.some.injEq] at e1;subst e1;rw [hh] at ho;cases ho;rfl
     ·rw [hj] at e1;cases e1
    have old:∀ (k:Nat) (hh:HE),k≠j→HEnv.get ((j,rowB m e sz (es++xs))::R) k=some hh→hh.live=true→k≠i∧∃ e0,H.get k=some e0∧e0.live=true:=by
     intro k hh hne hk hl;rw [HEnv.get_cons,if_neg (Ne.symm hne)] at hk;rcases hR k hne hh hk with rfl|⟨h1,e0,h2,rfl⟩
     ·cases hl
     ·exact ⟨h1,e0,h2,by cases e0 <;> first|rfl|exact hl⟩
    have apt:∀ (k:Nat) (hh:HE) (bb:Nat),k≠i→H.get k=some hh→hh.live=true→v'.ownBlock=some bb→yj (ρ k)=some bb→False:=by
     intro k hh bb hne hk hl hv hb;rcases hrow with ⟨_,e2⟩|⟨_,e2⟩
     ·exact hf.heap.apart i k _ hh bb (Ne.symm hne) hi hk hl0 hl ((hbo hown bb).2 (by rw [←e2];exact hv)) hb
     ·have:=e2 bb hv;have:=((hf.heap.ok k hh hk).block_lt hl hb).2;omega
    refine ⟨v',w',K1,hrun,hlat,⟨hf.below.grown hgrow hf.below.size hrowB,fun b o h=>.inl (hf.old b o h),?_,?_,hf.others.trans (KeepsOthers.of_grownBy hgrow hcellsrow),hf.pt.grown hf.old hgrow hlat (fun b hb=>?_) hK1,?_,?_,?_⟩⟩
    ·rintro b o (h|⟨_,h,_⟩)
     ·exact hf.new b o h
     ·exact .inr (hvlt b h).1
    ·rintro b o (h|⟨_,h,_⟩)
     ·exact Nat.lt_of_lt_of_le (hf.lt b o h) hgrow.size
     ·exact (hvlt b h).2
    ·rcases hrow with ⟨e1,_⟩|⟨e1,_⟩
     ·rw [hb] at e1;exact hf.away i _ b hi hl0 ((hbo hown b).2 e1.symm)
     ·rw [hb] at e1;cases e1
    ·intro k hh b hk hl hb;by_cases hkj:k=j
     ·subst hkj;simp only [if_true] at hb;have hv:=(hbo r2 b).1 hb;rcases hrow with ⟨_,e2⟩|⟨_,e2⟩
      ·exact hf.away i _ b hi hl0 ((hbo hown b).2 (by rw [←e2];exact hv))
      ·exact hf.pt.lt (e2 b hv)
     ·obtain ⟨_,e0,h2,h3⟩:=old k hh hkj hk hl;simp only [hkj,if_false] at hb;exact hf.away k e0 b h2 h3 hb
    ·intro k hh hk;by_cases hkj:k=j
     ·subst hkj;rw [HEnv.get_cons,if_pos rfl,Option.some.injEq] at hk;subst hk;simp only [if_true];have hcc:CellsRel K1 w' sz (es++xs) (us++news):=by
       intro k c hc;obtain ⟨t1,t2⟩:=hcr.append hown.1 n4 k c hc;exact ⟨t1,fun k' c' hc'=>let ⟨v,t3,t4,t5⟩:=t2 k' c' hc';⟨v,t3,t4,t5.later hlat⟩⟩
      have hno:∀ b,v'.ownBlock=some b→∀ o,K b o→m=false∧o < es.length * sz:=by
       intro b hb o h;rcases hrow with ⟨e1,e2⟩|⟨_,e2⟩
       ·exact hKK' b (by rw [←e2];exact hb) o h
       ·have:=e2 b hb;have:=hf.lt b o h;omega
      cases m
      ·refine ⟨us++news,by rw [hnl];exact r2,hsz,hcc,fun b hb o=>⟨?_,fun h=>.inr ⟨rfl,hb,by rwa [hnl] at h⟩⟩⟩;rw [hnl];rintro (h|⟨_,_,h⟩)
       ·have:=(hno b hb o h).2;have:=Nat.mul_le_mul_right sz (show es.length≤es.length + xs.length by omega);omega
       ·exact h
      ·refine ⟨us++news,by rw [hnl];exact r2,hsz,hcc,fun b hb o=>?_⟩;rintro (h|⟨h,_⟩)
       ·cases (hno b hb o h).1
       ·cases h
     ·simp only [hkj,if_false];rw [HEnv.get_cons,if_neg (Ne.symm hkj)] at hk;rcases hR k hkj hh hk with rfl|⟨h1,e0,h2,rfl⟩
      ·trivial
      ·by_cases hlive:e0.live=true
       ·exact (hf.heap.ok k e0 h2).grown hgrow hlat hK1 htr hlive (fun b hb hb'=>by
         rcases hrow with ⟨e1,_⟩|⟨e1,_⟩
         ·rw [hb'] at e1;exact hf.heap.apart i k _ e0 b (Ne.symm h1) hi h2 hl0 hlive ((hbo hown b).2 e1.symm) hb
         ·rw [hb'] at e1;cases e1)
       ·cases e0 <;> simp [HE.live] at hlive
        ·trivial
        ·exact htr _ _ (hf.heap.ok k _ h2)
    ·intro p q hp hq bb hpq hkp hkq hlp hlq hbp hbq;by_cases hpj:p=j
     ·subst hpj;have hqp:q≠p:=Ne.symm hpq;obtain ⟨h1,e1,h2,h3⟩:=old q hq hqp hkq hlq;simp only [if_true] at hbp;simp only [hqp,if_false] at hbq;exact apt q e1 bb h1 h2 h3 ((hbo r2 bb).1 hbp) hbq
     ·obtain ⟨h1,e1,h2,h3⟩:=old p hp hpj hkp hlp;simp only [hpj,if_false] at hbp;by_cases hqj:q=j
      ·subst hqj;simp only [if_true] at hbq;exact apt p e1 bb h1 h2 h3 ((hbo r2 bb).1 hbq) hbp
      ·obtain ⟨_,e2,h4,h5⟩:=old q hq hqj hkq hlq;simp only [hqj,if_false] at hbq;exact hf.heap.apart p q e1 e2 bb hpq h2 h4 h3 h5 hbp hbq
theorem zhN (m:Bool) (htb:yR P tb) {ty e:Nat} {x y:Operand} {i:Nat} {sz:Nat} {es xs:List PV} {full:Bool} {t:Nat} (hg:guardE ops env o=some true)
  (hop:o.op=.call { callee:=.builtin .append,args:=#[x,y],argTypes:=#[ty,ty] }) (hk:tb.k ty=.sl e) (hx:env.val x=some (.own i)) (hi:H.get i=some (rowB m e sz es)) (hy:env.pv H y=some (.slc sz xs full))
  (hzz:(match tb.get e with|some ti=>(match ti.zero with|some z=>ti.size==sz&&z.cells.size==sz|none=>false)|none=>false)=true)
  (hbound:(es.length + xs.length) * (match tb.get e with|some ti=>ti.bytes|none=>0)≤140737488355328) (hb2:es.length + xs.length≤140737488355328) (hd:o.dst=some t) (ht:Nat.blt t n=true)
  (h:AO P n g ops.toArray rest ((t,.own i)::zdo i env) ((i,rowB m e sz (es++xs))::zbx i H) Q):AO P n g ops.toArray (o::rest) env H Q:=by
 refine ⟨fun a w hinv=>?_⟩;have hw:=yT hinv hg;obtain ⟨h1,h2,K,ρ,hf,he⟩:=hinv;refine wpList_step fun Kc hKc=>?_
 rw [if_pos hw];have hnp:∀ b,ρ i=.pointer (some ⟨b,0,none⟩)→False:=fun b hb=>by
  cases m <;> (obtain ⟨us,hown,_⟩:=hf.heap.ok i _ hi;rcases hown.2 with ⟨e1,_⟩|⟨_,_,_,e1,_⟩ <;> rw [e1] at hb <;> cases hb)
 have tr:∀ {K1:KK} {w':World} {v':Value},Later K K1 w w'→∀ av v,ARel K w ρ H av v→ARel K1 w' (fun k=>if k=i then v' else ρ k) ((i,rowB m e sz (es++xs))::zbx i H) (kill i av) v:=fun hl av v h =>
  h.kill hl i (fun j hne hj=>⟨by
   rw [HEnv.get_cons,if_neg (Ne.symm hne),zbq];cases hH:H.get j <;> simp [hH] at hj ⊢,by simp [hne]⟩) hnp (row_one hf i (by cases m <;> simp [isVal,hi]))
 have hvv:∀ z∈o.op.operands,∀ av,env.val z=some av→ARel K w ρ H av (a.eval z):=fun z _ av hh=>qA he hh
 obtain ⟨v',w',K1,hrun,hlat,hf'⟩:=zgS (a:=a) (f:=kill i) (R:=zbx i H) htb i m hop hk hx hi hy hzz hbound hb2 hf hvv (fun k hne hh hk=>by
  rw [zbq] at hk;cases hH:H.get k with
  | none=>simp [hH] at hk
  | some e0=>exact .inr ⟨hne,e0,rfl,by simp only [hH,Option.map_some,Option.some.injEq] at hk;subst hk;cases e0 <;> rfl⟩) tr
 unfold Oper.wp;rw [hrun];simp only [Oper.upon];refine hKc _ _ (h.go _ _ ⟨qW h1,put_defers h2,K1,_,hf',?_⟩);rw [hd];refine Zo h1 ht ?_ ?_
 ·intro t' av hg';rw [zg0] at hg';cases hE:env.get t' with
  | none=>simp [hE] at hg'
  | some av0 =>
   simp only [hE,Option.map_some,Option.some.injEq] at hg';subst hg';obtain ⟨v,v1,v2⟩:=he t' av0 hE;exact ⟨v,v1,tr hlat _ _ v2⟩
 ·have:=ARel.own (K:=K1) (w:=w') (ρ:=fun j=>if j=i then v' else ρ j) (H:=(i,rowB m e sz (es++xs))::zbx i H) i zwy87;simpa using this
theorem qI (htb:yR P tb) {ty e:Nat} {x y:Operand} {i:Nat} {sz:Nat} {es xs:List PV} {full:Bool} {t:Nat} (hg:guardE ops env o=some true)
  (hop:o.op=.call { callee:=.builtin .append,args:=#[x,y],argTypes:=#[ty,ty] }) (hk:tb.k ty=.sl e) (hx:env.val x=some (.own i)) (hi:H.get i=some (.row e sz es)) (hy:env.pv H y=some (.slc sz xs full))
  (hzz:(match tb.get e with|some ti=>(match ti.zero with|some z=>ti.size==sz&&z.cells.size==sz|none=>false)|none=>false)=true)
  (hbound:(es.length + xs.length) * (match tb.get e with|some ti=>ti.bytes|none=>0)≤140737488355328) (hb2:es.length + xs.length≤140737488355328) (hd:o.dst=some t) (ht:Nat.blt t n=true)
  (h:AO P n g ops.toArray rest ((t,.own i)::zdo i env) ((i,.row e sz (es++xs))::zbx i H) Q):AO P n g ops.toArray (o::rest) env H Q:=zhN false htb hg hop hk hx hi hy hzz hbound hb2 hd ht h
end
end Go.Cg
