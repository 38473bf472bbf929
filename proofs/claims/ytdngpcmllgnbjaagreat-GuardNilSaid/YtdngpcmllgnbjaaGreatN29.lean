/- A part of the walks by abstract values: no statement of its own. -/
import Derived.Test.YtdngpcmllgnbjaaGreatN10
import Derived.Test.YtdngpcmllgnbjaaGreatN27
import Derived.Test.YtdngpcmllgnbjaaGreatN28
import Derived.Test.YtdngpcmllgnbjaaGreatN8
set_option linter.unusedVariables false
set_option linter.unusedSimpArgs false
namespace Go.Cg
open Go.RowKit
section
variable {P:Program} {tb:Tab} {n:Nat} {g:Base} {K:KK} {w:World} {ρ:Nat→Value} {H:HEnv} {env:Env} {a:Act} {ops:List Oper} {o:Oper} {rest:List Oper} {Q:Env→HEnv→Prop}
def TMap (ents:List (PV × Int)) (ob:Obj):Prop:=∃ es clock,ob=.map es clock∧es.size=ents.length∧∀ (i:Nat) (e:MapEntry) (x:PV × Int),es.toList[i]?=some e→ents[i]?=some x→(∀ K w,PRel K w x.1 e.key)∧e.val=.int .i64 x.2
def znV:PV→Bool
 | .agg cs=>cs.all fun c=>match c with|.base (.int _ _)=>true|.base (.bool _)=>true|_=>false
 | _=>false
theorem zmP {p:PV} {v:Value} (hf:znV p=true) (h:PRel K w p v):∀ K w,PRel K w p v:=by
 intro K' w'
 cases h with
 | agg cs vs h1 h2 h3 =>
  refine .agg cs vs h1 h2 fun k c v hc hv=>?_
  have:=h3 k c v hc hv
  have hk:=List.all_eq_true.1 hf c (List.mem_of_getElem? hc)
  cases c with
  | base u=>cases this with|base _ hb=>exact .base _ hb
  | _=>simp at hk
 | _=>simp [znV] at hf
def Ve:TK→Bool
 | .int _=>true
 | .bool=>true
 | .str=>true
 | _=>false
theorem zbZ (htb:zX P tb) {t:Nat} (h:Ve (tb.k t)=true) (e:Bool) (m:Nat) (v:Value) (w1:World):(Instr.checkKey e (m + 1) t v).run P w1=.ok () w1:=by
 unfold Instr.checkKey
 cases hk:tb.k t <;> simp [hk,Ve] at h
 ·simp [Sem.run_bind,run_underlying (Qv htb hk),Result.andThen_ok]
 ·simp [Sem.run_bind,run_underlying (zcd htb hk),Result.andThen_ok]
 ·simp [Sem.run_bind,run_underlying (zeg htb hk),Result.andThen_ok]
theorem run_checkKey (htb:zX P tb) {t:Nat} {fs:List (Nat × Nat × Nat)} {q:Bool} {cs:List PV} {v:Value} (hk:tb.k t=.agg fs q) (hs:(fs.all fun f=>Ve (tb.k f.2.1))=true) (hp:(fs.all fun f=>(Xg tb f.2.1 cs f.1).isSome)=true) (hv:PRel K w (.agg cs) v) (e:Bool) (m:Nat) (w1:World) :
  (Instr.checkKey e (m + 2) t v).run P w1=.ok () w1:=by
 obtain ⟨F,hF,hfs,_⟩:=Xl htb hk
 cases hv with
 | agg _ vs a1 a2 a3 =>
  have key:∀ l:List Field,(∀ f∈l,Ve (tb.k f.type)=true∧(Xg tb f.type cs f.offset).isSome=true) →
    Sem.run P (forIn l PUnit.unit fun f __s=>if f.name ≠ "_" then do
       let __do_lift ←part f.type vs.toArray f.offset
       Instr.checkKey e (m + 1) f.type __do_lift
       pure (ForInStep.yield PUnit.unit)
      else pure (ForInStep.yield PUnit.unit)) w1=.ok PUnit.unit w1:=by
   intro l
   induction l with
   | nil=>intro _;simp
   | cons f l ih =>
    intro hl
    obtain ⟨h1,h2⟩:=hl f (by simp)
    have ih':=ih fun x hx=>hl x (by simp [hx])
    obtain ⟨p,hp⟩:=Option.isSome_iff_exists.1 h2
    obtain ⟨u,hu,_⟩:=Vd (K:=K) (w:=w) htb ⟨a1,a3⟩ a2 hp w1
    have hc:=zbZ htb h1 e m u w1
    rw [List.forIn_cons]
    by_cases hn:f.name ≠ "_"
    ·rw [if_pos hn]
     simp only [Sem.run_bind,hu,Result.andThen_ok,hc,Sem.run_pure]
     exact ih'
    ·rw [if_neg hn]
     simp only [Sem.run_bind,Result.andThen_ok,Sem.run_pure]
     exact ih'
  have hall:∀ f∈F.toList,Ve (tb.k f.type)=true∧(Xg tb f.type cs f.offset).isSome=true:=by
   intro f hf
   have hm:(f.offset,f.type,P.cellsOf f.type)∈fs:=by rw [←hfs];exact List.mem_map.2 ⟨f,hf,rfl⟩
   exact ⟨List.all_eq_true.1 hs _ hm,List.all_eq_true.1 hp _ hm⟩
  unfold Instr.checkKey
  simp only [Sem.run_bind,run_underlying hF,Result.andThen_ok]
  rw [←Array.forIn_toList,key F.toList hall]
  rfl
def zaJ (tb:Tab) (kt:Nat) (p:PV):List (PV × Int)→Option (Option Int)
 | []=>some none
 | (q,v)::r=>match eqE tb 8 kt p q with
  | some true=>some (some v)
  | some false=>zaJ tb kt p r
  | none=>none
theorem run_findKey (htb:zX P tb) {kt:Nat} {fs:List (Nat × Nat × Nat)} {q:Bool} {p:PV} {kv:Value} (hk:tb.k kt=.agg fs q) (hkv:PRel K w p kv) (w1:World) :
  ∀ (es:List MapEntry) (ents:List (PV × Int)) (r:Option Int) (i:Nat),es.length=ents.length→(∀ (i:Nat) (e:MapEntry) (x:PV × Int),es[i]?=some e→ents[i]?=some x→(∀ K w,PRel K w x.1 e.key)∧e.val=.int .i64 x.2)→zaJ tb kt p ents=some r →
   ∃ res,(Instr.findAsking kt kv es i).run P w1=.ok res w1∧((r=none∧res=none)∨∃ c j,r=some c∧res=some (j,.int .i64 c))
 | [],[],r,i,_,_,h=>by
  simp only [zaJ,Option.some.injEq] at h;subst h
  exact ⟨none,by simp [Instr.findAsking],.inl ⟨rfl,rfl⟩⟩
 | [],_::_,_,_,hl,_,_=>by simp at hl
 | _::_,[],_,_,hl,_,_=>by simp at hl
 | e::es,(q,c)::ents,r,i,hl,hr,h=>by
  obtain ⟨h1,h2⟩:=hr 0 e (q,c) rfl rfl
  simp only [zaJ] at h
  split at h
  ·rename_i he
   simp only [Option.some.injEq] at h;subst h
   have:=zej (K:=K) (w:=w) htb 8 kt p q kv e.key true hkv (h1 K w) he 9992 w1
   refine ⟨some (i,e.val),?_,.inr ⟨c,i,rfl,by rw [h2]⟩⟩
   simp only [Instr.findAsking,Op.equal,Sem.run_bind]
   rw [show Op.maxDepth=8 + 9992 from rfl,this]
   simp
  ·rename_i he
   have:=zej (K:=K) (w:=w) htb 8 kt p q kv e.key false hkv (h1 K w) he 9992 w1
   obtain ⟨res,r1,r2⟩:=run_findKey htb hk hkv w1 es ents r (i + 1) (by simpa using hl) (fun j e' x h3 h4=>hr (j + 1) e' x (by simpa using h3) (by simpa using h4)) h
   refine ⟨res,?_,r2⟩
   simp only [Instr.findAsking,Op.equal,Sem.run_bind]
   rw [show Op.maxDepth=8 + 9992 from rfl,this]
   simpa using r1
  ·cases h
theorem zjL {kt:TypeId} {F:Array Field} {kv:Value} {es:List MapEntry} {w1:World} (hF:P.underlying kt=some (.struct F)):(Instr.findKey kt kv es).run P w1=(Instr.findAsking kt kv es).run P w1:=by
 unfold Instr.findKey
 simp only [Sem.run_bind,run_underlying hF,Result.andThen_ok]
 cases es with
 | nil=>simp [Instr.findNow,Instr.findAsking]
 | cons x es=>simp [Instr.findNow,Instr.sameNow]
theorem znD {t kt et:Nat} (htb:zX P tb) (h:tb.k t=.map kt et):P.underlying t=some (.map kt et):=zh6 htb h
theorem FS.setObj (hf:FS g K ρ H w) (hw1:g.w1.heap.size=0) {i b:Nat} {X X':Obj→Prop} {ob':Obj} (hi:H.get i=some (.obj X)) (hr:ρ i=.map (some b)) (hX':X' ob'):FS g K ρ ((i,.obj X')::H) (w.putObj b ob')∧Later K K w (w.putObj b ob'):=by
 obtain ⟨b',ob,hr',hB,hheap,hX,hnK⟩:=hf.heap.ok i _ hi
 rw [hr] at hr'
 simp only [Value.map.injEq,Option.some.injEq] at hr'
 subst hr'
 have hgrow:w.grownBy (w.putObj b ob') (some b):=grownBy_putObj' _ _ _
 have hlt:b < w.heap.size:=(Array.getElem?_eq_some_iff.1 hheap).1
 have hb':(w.putObj b ob').heap[b]?=some ob':=by simp [World.putObj,hlt]
 have hlat:Later K K w (w.putObj b ob'):=⟨fun _ _ h=>h,fun b' o hk=>by
  have hne:b'≠b:=by rintro rfl;exact hnK o hk
  exact World.cell?_of_block (hgrow.block b' (hf.lt b' o hk) (by simp [hne]))⟩
 have hkeep:∀ j,(H.get j).isSome=true→(HEnv.get ((i,.obj X')::H) j).isSome=true∧ρ j=ρ j:=by
  intro j hj
  refine ⟨?_,rfl⟩
  rw [HEnv.get_cons]
  split
  ·rfl
  ·exact hj
 refine ⟨⟨hf.below.grown hgrow hf.below.size (fun k hk=>by simp at hk;omega),hf.old,hf.new,fun b o hk=>Nat.lt_of_lt_of_le (hf.lt b o hk) hgrow.size,⟨by rw [hw1];omega,fun k o hk=>by have:=(Array.getElem?_eq_some_iff.1 hk).1;omega⟩,hf.pt.grown hf.old hgrow hlat (fun b2 hb2=>by cases hb2;exact hf.away i _ b hi rfl (by rw [hr];rfl)) (fun _ _ h=>.inl h),hf.away.set hi rfl,?_,?_⟩,hlat⟩
 ·intro j e hj
  rw [HEnv.get_cons] at hj
  split at hj
  ·rename_i e';subst e'
   simp only [Option.some.injEq] at hj;subst hj
   exact ⟨b,ob',hr,hB,hb',hX',hnK⟩
  ·rename_i hne
   by_cases hlive:e.live=true
   ·have:=(hf.heap.ok j e hj).grown (f:=id) hgrow hlat (fun b o h=>.inl h) (fun av v h=>h.keeps hlat hkeep) hlive (fun b' hb' e'=>by
     simp at e';subst e'
     exact hf.heap.apart i j _ e b hne hi hj rfl hlive (by rw [hr];rfl) hb')
    cases e <;> exact this
   ·cases e <;> simp [HE.live] at hlive
    ·trivial
    ·exact ARel.keeps hlat hkeep (hf.heap.ok j _ hj)
 ·intro j k2 e e' bb hjk hj hk' hlj hlk hbj hbk
  have e1:∀ (j:Nat) (hh:HE),HEnv.get ((i,.obj X')::H) j=some hh→hh.live=true→∃ h0,H.get j=some h0∧h0.live=true:=by
   intro j hh hj hl
   rw [HEnv.get_cons] at hj
   split at hj
   ·rename_i e';subst e';exact ⟨_,hi,rfl⟩
   ·exact ⟨hh,hj,hl⟩
  obtain ⟨a1,a2,a3⟩:=e1 j e hj hlj
  obtain ⟨b1,b2,b3⟩:=e1 k2 e' hk' hlk
  exact hf.heap.apart j k2 a1 b1 bb hjk a2 b2 a3 b3 hbj hbk
theorem zgb {t kt et:Nat} {m x v:Operand} {i:Nat} {ents:List (PV × Int)} {cs:List PV} {c:Int} {fs:List (Nat × Nat × Nat)} (hw1:g.w1.heap.size=0) (htb:zX P tb) (hg:guardE ops env o=some true) (hop:o.op=.mapUpdate t m x v) (hk:tb.k t=.map kt et) (hkt:tb.k kt=.agg fs true)
  (hs:(fs.all fun f=>Ve (tb.k f.2.1))=true) (hp:(fs.all fun f=>(Xg tb f.2.1 cs f.1).isSome)=true) (hm:env.val m=some (.own i)) (hi:H.get i=some (.obj (TMap ents))) (hx:env.pv H x=some (.agg cs)) (hfl:znV (.agg cs)=true) (hv:env.pv H v=some (.base (.int .i64 c)))
  (hf:zaJ tb kt (.agg cs) ents=some none) (hd:o.dst=none)
  (h:AO P n g ops.toArray rest env ((i,.obj (TMap (ents++[(.agg cs,c)])))::H) Q):AO P n g ops.toArray (o::rest) env H Q:=by
 refine ⟨fun a w hinv=>?_⟩
 have hw:=yh hinv hg
 obtain ⟨h1,h2,K,ρ,hfs,he⟩:=hinv
 refine wpList_step fun KK hKK=>?_
 rw [if_pos hw]
 have hmr:=yt he hm
 have hxr:=zZ (a:=a) hfs (x:=x) (fun av hh=>yt he hh) hx
 have hvr:=zZ (a:=a) hfs (x:=v) (fun av hh=>yt he hh) hv
 generalize hmv:a.eval m=mv at hmr
 generalize hxv:a.eval x=xv at hxr
 generalize hvv:a.eval v=vv at hvr
 obtain ⟨b,ob,hr,hB,hheap,⟨es,clock,rfl,hes,hent⟩,hn⟩:=hfs.heap.ok i _ hi
 cases hvr
 cases hmr with
 | own _ _ =>
  obtain ⟨F,hF,_⟩:=Xl htb hkt
  have hck:(Instr.checkKey false 10000 kt xv).run P w=.ok () w:=run_checkKey htb hkt hs hp hxr false 9998 w
  obtain ⟨res,r1,r2⟩:=run_findKey (K:=K) (w:=w) htb hkt hxr w es.toList ents none 0 (by simpa using hes) hent hf
  have hres:res=none:=by
   rcases r2 with ⟨_,h⟩|⟨c,j,h,_⟩
   ·exact h
   ·cases h
  subst hres
  rw [←zjL hF] at r1
  have hgo:=run_getObj_map (P:=P) w b es clock hheap
  have hso:∀ ob',(setObj b ob').run P w=.ok () (w.putObj b ob'):=fun ob'=>by simp [setObj,Sem.run,hheap,World.putObj]
  have hX':TMap (ents++[(.agg cs,c)]) (.map (es.push { key:=xv,val:=.int .i64 c,born:=clock }) (clock + 1)):=by
   refine ⟨_,_,rfl,by simp [hes],fun j e y he' hy=>?_⟩
   rw [Array.toList_push,List.getElem?_append] at he'
   rw [List.getElem?_append] at hy
   have hl:es.toList.length=ents.length:=by simpa using hes
   rw [hl] at he'
   split at he'
   ·rename_i hj;rw [if_pos hj] at hy;exact hent j e y he' hy
   ·rename_i hj
    rw [if_neg hj] at hy
    have hj0:j - ents.length=0:=by have:=(List.getElem?_eq_some_iff.1 he').1;simp at this;omega
    rw [hj0] at he' hy
    simp only [List.getElem?_cons_zero,Option.some.injEq] at he' hy
    subst he' hy
    exact ⟨zmP hfl hxr,rfl⟩
  have hrun:(execOp a.eval o).run P w=.ok .skip (w.putObj b (.map (es.push { key:=xv,val:=.int .i64 c,born:=clock }) (clock + 1))):=by
   simp [execOp,hop,hmv,hxv,hvv,hr,Instr.mapUpdate,run_underlying (znD htb hk),hgo,hck,r1,hso]
  obtain ⟨hfs2,hlat⟩:=FS.setObj hfs hw1 hi hr hX'
  unfold Oper.wp
  rw [hrun]
  simp only [Oper.upon]
  have hd':a.put o.dst undef=a:=by rw [hd];rfl
  rw [hd']
  exact hKK _ _ (h.go _ _ ⟨h1,h2,K,ρ,hfs2,he.keeps hlat fun j hj=>⟨by rw [HEnv.get_cons];split <;> first|rfl|exact hj,rfl⟩⟩)
theorem ziP {t d:Nat} (i:Nat) (hg:guardE ops env o=some true) (hop:o.op=.makeMap t none) (hi:H.get i=none) (hd:o.dst=some d) (ht:Nat.blt d n=true)
  (h:AO P n g ops.toArray rest ((d,.own i)::env) ((i,.obj (TMap []))::H) Q):AO P n g ops.toArray (o::rest) env H Q:=by
 refine ⟨fun a w hinv=>?_⟩
 have hw:=yh hinv hg
 obtain ⟨h1,h2,K,ρ,hf,he⟩:=hinv
 refine wpList_step fun KK hKK=>?_
 rw [if_pos hw]
 have hrun:(execOp a.eval o).run P w=.ok (.value (.map (some w.heap.size))) (w.alloc (.map #[] 0)):=by
  simp [execOp,hop,run_makeMap]
 unfold Oper.wp
 rw [hrun]
 simp only [Oper.upon]
 have hev:Evo K K w (w.alloc (.map #[] 0)):=⟨(Below.refl _ _).alloc (Nat.le_refl _) _,fun _ _ h=>h,fun _ _ h=>.inl h,fun b o h=>by have:=hf.lt b o h;simp;omega⟩
 refine hKK _ _ (h.go _ _ ⟨yJ h1,put_defers h2,K,fun j=>if j=i then .map (some w.heap.size) else ρ j,hf.fresh hev hi ⟨w.heap.size,.map #[] 0,rfl,hf.below.size,heap_alloc_new w _,⟨#[],0,rfl,rfl,fun i e x h=>by simp at h⟩,fun o ho=>by have:=hf.lt _ o ho;omega⟩ (by simp [zo]),?_⟩)
 rw [hd]
 have:=ARel.own (K:=K) (w:=w.alloc (.map #[] 0)) (ρ:=fun j=>if j=i then .map (some w.heap.size) else ρ j) (H:=(i,HE.obj (TMap []))::H) i (by simp [HEnv.get_cons])
 exact qg h1 ht (he.keeps (hev.later hf.lt) (yG hi _ _)) (by simpa using this)
end
def AWU (P:Program) (n:Nat) (g:Base) (c:Code) (QQ:QC):Nat→Env→HEnv→Prop
 | 0,_,_=>False
 | m + 1,env,H=>AW P n g c env H (fun e env' H'=>match e with|.normal=>AWU P n g c QQ m env' H'|e=>QQ e env' H')
section
variable {P:Program} {n:Nat} {g:Base} {H:HEnv} {env:Env} {c:Code} {QQ:QC} {o:Oper}
structure AWUs (P:Program) (n:Nat) (g:Base) (c:Code) (QQ:QC) (m:Nat) (env:Env) (H:HEnv):Prop where
 h:AWU P n g c QQ m env H
theorem zdi {m:Nat} (h:AW P n g c env H (fun e env' H'=>match e with|.normal=>AWUs P n g c QQ m env' H'|e=>QQ e env' H')):AWUs P n g c QQ (m + 1) env H :=
 ⟨⟨fun a w hi r d=>wpIn_mono (h.go a w hi r d) fun e a' w' ⟨env',H',h1,h2⟩=>⟨env',H',h1,by cases e <;> first|exact h2.h|exact h2⟩⟩⟩
theorem Xy (m:Nat) (h:AWUs P n g c QQ m env H):AW P n g (.loop c) env H QQ:=by
 refine ⟨fun a w hi r d b k cs hro hb hr=>?_⟩
 have key:∀ m env H,AWU P n g c QQ m env H→∀ a w,Inv n g env H a w →
   ∃ e a' w',(∃ env' H',Inv n g env' H' a' w'∧QQ e env' H')∧ArrivesIn (Machine.fenced P (XJ r)) P (lone (b.atR a (.code c::.inLoop c::k)) cs w) b k cs e a' w':=by
  intro m
  induction m with
  | zero=>intro env H h;exact h.elim
  | succ m ih =>
   intro env H h a w hi
   obtain ⟨e,a₁,w₁,⟨env',H',h1,h2⟩,harr⟩:=AW.go h a w hi r d b (.inLoop c::k) cs hro hb hr
   cases e with
   | normal =>
    obtain ⟨e₂,a₂,w₂,hq₂,harr₂⟩:=ih env' H' h2 a₁ w₁ h1
    exact ⟨e₂,a₂,w₂,hq₂,.of_steps (StepsIn.trans harr (.one (fenced_calm hb hr rfl) stepR_inLoop)) harr₂⟩
   | exit id=>exact ⟨_,a₁,w₁,⟨env',H',h1,h2⟩,.pass (x:=.inLoop c) rfl (fun _ _=>.inl (by simp)) harr⟩
   | goto l=>exact ⟨_,a₁,w₁,⟨env',H',h1,h2⟩,.pass (x:=.inLoop c) rfl (fun _ _=>.inl (by simp)) harr⟩
   | ret=>exact ⟨_,a₁,w₁,⟨env',H',h1,h2⟩,.pass (x:=.inLoop c) rfl (fun _ _=>.inl (by simp)) harr⟩
   | panic ch=>exact ⟨_,a₁,w₁,⟨env',H',h1,h2⟩,.pass (x:=.inLoop c) rfl (fun _ _=>.inl (by simp)) harr⟩
   | outgrown=>exact ⟨_,a₁,w₁,⟨env',H',h1,h2⟩,.pass (x:=.inLoop c) rfl (fun _ _=>.inl (by simp)) harr⟩
 obtain ⟨e,a',w',hq,harr⟩:=key _ _ _ h.h a w hi
 exact ⟨e,a',w',hq,.of_steps (.one (fenced_calm hb hr rfl) stepR_loop) harr⟩
theorem zam {t:Nat} (i:Nat) (hop:o.op=.makeMap t none) (hi:H.get i=none):EStepN P g H ((i,.obj (TMap []))::H) H ((i,.obj (TMap []))::H) o env (.own i) none:=by
 refine ⟨fun K ρ a w hf hv=>.inr ⟨rfl,?_⟩⟩
 have hrun:(execOp a.eval o).run P w=.ok (.value (.map (some w.heap.size))) (w.alloc (.map #[] 0)):=by
  simp [execOp,hop,run_makeMap]
 have hev:Evo K K w (w.alloc (.map #[] 0)):=⟨(Below.refl _ _).alloc (Nat.le_refl _) _,fun _ _ h=>h,fun _ _ h=>.inl h,fun b o h=>by have:=hf.lt b o h;simp;omega⟩
 have hf':FS g K (fun j=>if j=i then .map (some w.heap.size) else ρ j) ((i,.obj (TMap []))::H) (w.alloc (.map #[] 0)):=hf.fresh hev hi ⟨w.heap.size,.map #[] 0,rfl,hf.below.size,heap_alloc_new w _,⟨#[],0,rfl,rfl,fun i e x h=>by simp at h⟩,fun o ho=>by have:=hf.lt _ o ho;omega⟩ (by simp [zo])
 refine ⟨_,_,K,_,.inl hrun,hf',hev.later hf.lt,fun j hj=>(yG (ρ:=ρ) hi (.obj (TMap [])) (.map (some w.heap.size)) j hj).2,?_⟩
 have:=ARel.own (K:=K) (w:=w.alloc (.map #[] 0)) (ρ:=fun j=>if j=i then .map (some w.heap.size) else ρ j) (H:=(i,HE.obj (TMap []))::H) i (by simp [HEnv.get_cons])
 simpa using this
end
end Go.Cg
namespace Go.Cg
open Go.Proofs
theorem ziR {g:Img} (hW:Wl g):∀ (l:List Int) (t:Int),up g t=l→zB g t=0→∀ u∈l,zB g u=0
 | [],t,h,hk,u,hu=>by cases hu
 | x::l,t,h,hk,u,hu=>by
  cases ht:typeAt g t with
  | none=>rw [up_nil ht] at h;cases h
  | some td =>
   rw [hW.up_cons ht] at h
   injection h with e1 e2
   subst e1
   rcases List.mem_cons.1 hu with rfl|hu
   ·exact hk
   ·have h0:0≤td.ext:=by
     cases hte:typeAt g td.ext with
     | none=>rw [up_nil hte] at e2;subst e2;cases hu
     | some td2=>exact (YJ hte).1
    exact ziR hW l td.ext e2 (zmh hW ht h0).2 u hu
abbrev u64 (n:Int):PV:=.base (.int .u64 n)
def zp2 (k:IntKind) (a b:Int):Int:=k.wrap ((BitVec.ofInt k.bits a &&& BitVec.ofInt k.bits b).toNat:Int)
def orU (a b:Int):Int:=IntKind.u64.wrap ((BitVec.ofInt IntKind.u64.bits a ||| BitVec.ofInt IntKind.u64.bits b).toNat:Int)
def zpB (t:Ty):Int:=orU (orU (IntKind.u64.wrap (zp2 .i64 t.kind 15)) (IntKind.u64.wrap (IntKind.u64.wrap (zp2 .i64 t.index 1023) * 2 ^ (min (4:Int).toNat IntKind.u64.bits)))) (IntKind.u64.wrap (IntKind.u64.wrap (zp2 .i64 t.dims 15) * 2 ^ (min (14:Int).toNat IntKind.u64.bits)))
set_option maxHeartbeats 1000000 in
theorem zmn (t:Ty):ACall Tryz.prog 169 [yA t] (u64 (zpB t)):=by
 refine zf zh Tryz.func169 rfl (by kernel_rfl) Tryz.ntmps169 (by simp) _ rfl (fun hw gB hgB=>?_)
 repeat' (first|refine zq rfl (zpz rfl rfl rfl (by decide)) rfl rfl ?_|refine sA ?_|refine sC (fun _=>?_) (fun _=>?_)|fail)
 exact retq rfl rfl
abbrev zkk:PV:=.base (.pointer none)
def g0:Img:=⟨[],[],[],-1⟩
abbrev zpQ:PV:=.base (.slice none 0 0)
theorem Zv {a:Int} (h1:0≤a) (h2:a≤18446744073709551615):IntKind.u64.wrap a=a:=by
 unfold IntKind.wrap
 simp only [IntKind.bits,IntKind.signed]
 simp
 omega
end Go.Cg
