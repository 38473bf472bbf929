/- A part of the walks by abstract values: no statement of its own. -/
import Derived.Test.YtdngpcmllgnbjaaGreatN15
import Derived.Defers
import Derived.Recover
import Derived.Test.YtdngpcmllgnbjaaGreatN27
import Derived.Test.YtdngpcmllgnbjaaGreatN10
import Derived.Test.YtdngpcmllgnbjaaGreatN34
import Derived.Test.YtdngpcmllgnbjaaGreatN29
set_option linter.unusedVariables false
set_option linter.unusedSimpArgs false
namespace Go.Cg
open Go.RowKit
section
variable {P:Program} {tb:Tab} {n:Nat} {g:Base} {K K':KK} {w w':World} {ρ ρ':Nat→Value} {H H':HEnv} {env:Env} {a:Act} {ops:List Oper} {o:Oper} {rest:List Oper} {f:FuncId} {args:List AV} {r:AV} {QQ:QC} {x y c:Code}
structure AWD (P:Program) (n:Nat) (ds0:List Deferred) (c:Code) (env:Env) (H:HEnv) (Q:List Deferred→QC):Prop where
 go:∀ (g:Base),g.ds=ds0→∀ a w,Inv n g env H a w→c.wp P (fun e a' w'=>∃ ds env' H',Inv n { g with ds:=ds } env' H' a' w'∧Q ds e env' H') a w
variable {Q:List Deferred→QC} {ds0:List Deferred}
theorem ZJ (h:∀ g,AW P n g c env H (Q ds0)):AWD P n ds0 c env H Q :=
 ⟨fun g hg a w hi=>wp_mono (wpIn_wide.1 ((h g).go a w hi none 0)) fun e a' w' ⟨env',H',h1,h2⟩=>⟨g.ds,env',H',h1,by rw [hg];exact h2⟩⟩
theorem ZX (h:AWD P n ds0 x env H (fun ds=>zol (fun env' H'=>AWD P n ds y env' H' Q) (Q ds))):AWD P n ds0 (.seq x y) env H Q :=
 ⟨fun g hg a w hi=>wp_seq (wp_mono (h.go g hg a w hi) fun e a' w' ⟨ds,env',H',h1,h2⟩=>by
  cases e <;> first
   | exact h2.go { g with ds:=ds } rfl a' w' h1
   | exact ⟨ds,env',H',h1,h2⟩)⟩
theorem zh0 (i j:Nat) {v:AV} (hi:H.get i=some (.cell v)) (hj:H.get j=none) (k:∀ p,AWD P n ds0 c env ((j,.pin (.box i 0) p)::H) Q):AWD P n ds0 c env H Q:=by
 refine ⟨fun g hg a w hinv=>?_⟩
 obtain ⟨g1,g2,K,ρ,hf,he⟩:=hinv
 obtain ⟨b,t,arr,u,q1,q2,q3,q4,q5,q6⟩:=hf.heap.ok i _ hi
 have hkk:∀ p m,(H.get m).isSome=true→(HEnv.get ((j,.pin (.box i 0) p)::H) m).isSome=true∧ρ m=ρ m:=by
  intro p m hm
  refine ⟨?_,rfl⟩
  rw [HEnv.get_cons];split <;> first|rfl|exact hm
 have hlive:∀ p m hh,HEnv.get ((j,.pin (.box i 0) p)::H) m=some hh→hh.live=true→H.get m=some hh:=by
  intro p m hh hm hl
  rw [HEnv.get_cons] at hm
  split at hm
  ·simp only [Option.some.injEq] at hm;subst hm;simp [HE.live] at hl
  ·exact hm
 refine (k (.pointer (some ⟨b,0,none⟩))).go g hg a w ⟨g1,g2,K,ρ,⟨hf.below,hf.old,hf.new,hf.lt,hf.others,hf.pt,fun m hh bb hm hl hb=>hf.away m hh bb (hlive _ m hh hm hl) hl hb,fun m hh hm=>?_,fun m m' hh hh' bb hmm hm hm' hl hl'=>hf.heap.apart m m' hh hh' bb hmm (hlive _ m hh hm hl) (hlive _ m' hh' hm' hl') hl hl'⟩,he.keeps (.refl K w) (hkk _)⟩
 rw [HEnv.get_cons] at hm
 split at hm
 ·simp only [Option.some.injEq] at hm;subst hm
  have hold:ARel K w ρ H (.box i 0) (.pointer (some ⟨b,0,none⟩)):=.box i 0 b (by rw [hi];rfl) q1
  exact hold.keeps (.refl K w) (hkk _)
 ·exact (hf.heap.ok m hh hm).keeps (.refl hf.lt) hf.lt (hkk _)
theorem zlg {i off:Nat} {u v:Value} (h:ARel K w ρ H (.box i off) u) (h':ARel K w ρ H (.box i off) v):u=v:=by
 cases h with
 | box _ _ b _ hb =>
  cases h' with
  | box _ _ b' _ hb'=>rw [hb] at hb';cases hb';rfl
def Zk (H:HEnv):List AV→List Value→Prop
 | [],[]=>True
 | .box i off::cs,p::ps=>(∃ m,H.get m=some (.pin (.box i off) p))∧Zk H cs ps
 | _,_=>False
theorem zaj (hf:FS g K ρ H w):∀ {cs:List AV} {ps vs:List Value},Zk H cs ps→(vs.length=cs.length∧∀ (k:Nat) (c:AV) (v:Value),cs[k]?=some c→vs[k]?=some v→ARel K w ρ H c v)→vs=ps
 | [],[],vs,_,h=>List.eq_nil_of_length_eq_zero (by simpa using h.1)
 | [],_::_,_,h,_=>h.elim
 | .box i off::cs,[],_,h,_=>h.elim
 | .box i off::cs,p::ps,vs,h,hv=>by
  obtain ⟨⟨m,hm⟩,h2⟩:=h
  cases vs with
  | nil=>simp at hv
  | cons v vs =>
   have h1:=hv.2 0 _ v rfl rfl
   have h3:ARel K w ρ H (.box i off) p:=hf.heap.ok m _ hm
   have e1:=zlg h1 h3
   have e2:=zaj (vs:=vs) hf h2 ⟨by simpa using hv.1,fun k c u hc hu=>hv.2 (k + 1) c u (by simpa using hc) (by simpa using hu)⟩
   rw [e1,e2]
 | .pv _::_,_,_,h,_=>h.elim
 | .own _::_,_,_,h,_=>h.elim
 | .ad _ _::_,_,_,h,_=>h.elim
 | .agg _::_,_,_,h,_=>h.elim
 | .fn _ _ _::_,_,_,h,_=>h.elim
 | .any::_,_,_,h,_=>h.elim
 | .any1::_,_,_,h,_=>h.elim
theorem ZQ (hf:FS g K ρ H w):∀ {cs:List AV} {ps:List Value},Zk H cs ps→Zq K w ρ H cs ps
 | [],[],_=>⟨rfl,fun k c v h=>by simp at h⟩
 | [],_::_,h=>h.elim
 | .box i off::cs,[],h=>h.elim
 | .box i off::cs,p::ps,h=>by
  obtain ⟨⟨m,hm⟩,h2⟩:=h
  obtain ⟨q1,q2⟩:=ZQ hf h2
  refine ⟨by simp [q1],fun k c v hc hv=>?_⟩
  cases k with
  | zero=>simp at hc hv;subst hc hv;exact hf.heap.ok m _ hm
  | succ k=>simp at hc hv;exact q2 k c v hc hv
 | .pv _::_,_,h=>h.elim
 | .own _::_,_,h=>h.elim
 | .ad _ _::_,_,h=>h.elim
 | .agg _::_,_,h=>h.elim
 | .fn _ _ _::_,_,h=>h.elim
 | .any::_,_,h=>h.elim
 | .any1::_,_,h=>h.elim
structure DCall (P:Program) (f:FuncId) (H:HEnv) (args:List AV) (u u':FrameMode) (H':HEnv):Prop where
 stands:QZ P f
 calls:∀ (g:Base) (K:KK) (ρ:Nat→Value) (w:World) (vs:List Value),FS g K ρ H w→Zq K w ρ H args vs →
  CallsD P f vs.toArray u w fun e m w'=>(∃ v,e=.returned v)∧m=u'∧∃ K' ρ',FS g K' ρ' H' w'
def YS:Exit→Option FrameMode
 | .normal=>some .returning
 | .ret=>some .returning
 | .panic ch=>some (.panicking ch)
 | _=>none
def yU:List Nat→List AV→Env
 | t::ts,c::cs=>(t,c)::yU ts cs
 | _,_=>[]
def DQ (P:Program) (tb:Tab) (rs:List ResultVar) (r:PV) (ex:Exit) (env:Env) (H:HEnv):List Deferred→Prop
 | []=>zl4 tb rs r ex env H
 | [d]=>∃ (mode u':FrameMode) (f:FuncId) (slots:List Nat) (caps:List AV) (ps:List Value) (Hn H':HEnv) (rp:List PV),YS ex=some mode∧d={ target:=.fn (.func f) ps.toArray,args:=#[] }∧YO H Hn (yU slots caps)∧Zk Hn caps ps∧Zk H' caps ps ∧
   DCall P f Hn caps mode u' H'∧settle u'=.returning∧slots.length=caps.length∧slots.Nodup∧Sub env (yU slots caps)∧WY tb H' (yU slots caps) rs=some rp∧zl rp=r
 | _=>False
theorem zcW {id k t:Nat} {l1:List Oper} {oD:Oper} {ts:Array TypeId} (h1:ops.take k=l1) (h2:ops.drop k=[oD]) (hop:oD.op=.defer { callee:=.value (.tmp t),args:=#[],argTypes:=ts }) (hg:oD.guard=none) (hd:oD.dst=none)
  (h:∀ g,AO P n g ops.toArray l1 env H (fun env' H'=>∃ f caps ps,env'.get t=some (.fn (.func f) [] caps)∧Zk H' caps ps∧Q ({ target:=.fn (.func f) ps.toArray,args:=#[] }::ds0) .normal env' H')) :
  AWD P n ds0 (.region id ops.toArray false) env H Q:=by
 refine ⟨fun g hgd a w hi=>wp_region_lit ?_⟩
 rw [←List.take_append_drop k ops,h1,h2]
 have e0:(l1++[oD]).toArray=ops.toArray:=by rw [←h1,←h2,List.take_append_drop]
 rw [e0]
 refine Qi (qG (fun e a' w' hh=>?_) ((h g).go a w hi))
 obtain ⟨env',H',hi',he,f,caps,ps,hget,hpin,hQ⟩:=hh
 refine ⟨he,?_⟩
 unfold wpList
 have hw:Region.wanted oD (yielded ops.toArray a'.tmps)=true:=by simp [Region.wanted,hg]
 rw [if_pos hw]
 refine .inl ?_
 obtain ⟨g1,g2,K,ρ,hf,hE⟩:=hi'
 obtain ⟨v,v1,v2⟩:=hE t _ hget
 cases v2 with
 | fn _ _ _ vf vc a1 a2 a3 a4 =>
  have hvc:=zaj hf hpin ⟨a2,a4⟩
  have hvf:vf=[]:=List.eq_nil_of_length_eq_zero (by simpa using a1)
  subst hvc hvf
  have hev:a'.eval (.tmp t)=.func (.func f) #[] vc.toArray:=by
   simp [Act.eval,Array.getD_eq_getD_getElem?,v1]
  unfold Oper.wp
  have hrun:(execOp a'.eval oD).run P w'=.ok (.defer { target:=.fn (.func f) vc.toArray,args:=#[] }) w':=by
   simp [execOp,hop,resolve,hev,Deferred.ofValue]
  rw [hrun]
  simp only [Oper.upon,hd,Act.put]
  unfold wpList
  exact ⟨({ target:=.fn (.func f) vc.toArray,args:=#[] }:Deferred)::ds0,env',H',⟨g1,by simp [g2,hgd],K,ρ,⟨hf.below,hf.old,hf.new,hf.lt,hf.others,⟨hf.pt.same,hf.pt.kept⟩,hf.away,hf.heap⟩,hE⟩,hQ⟩
theorem zcR (hf:FS g K ρ H w):∀ {slots:List Nat} {caps:List AV} {ps:List Value} {tmps:Array Value},Zk H caps ps→EnvR K w ρ H (yU slots caps) tmps→slots.length=caps.length→slots.Nodup→∀ (k t:Nat) (p:Value),slots[k]?=some t→ps[k]?=some p→tmps[t]?=some p
 | [],caps,ps,tmps,_,_,_,_=>fun k t p h=>by simp at h
 | s::slots,[],ps,tmps,_,_,hl,_=>by simp at hl
 | s::slots,c::caps,[],tmps,hp,_,_,_=>by cases c <;> exact hp.elim
 | s::slots,c::caps,q::ps,tmps,hp,hE,hl,hnd=>by
  rw [List.nodup_cons] at hnd
  intro k t p hk hpk
  have hc:∃ i off,c=.box i off:=by cases c <;> first|exact ⟨_,_,rfl⟩|exact hp.elim
  obtain ⟨i,off,rfl⟩:=hc
  obtain ⟨⟨m,hm⟩,hp2⟩:=hp
  cases k with
  | zero =>
   simp at hk hpk;subst hk hpk
   obtain ⟨v,v1,v2⟩:=hE s (.box i off) (by simp [yU,Env.get_cons])
   rw [v1,zlg v2 (hf.heap.ok m _ hm)]
  | succ k =>
   simp at hk hpk
   refine zcR (slots:=slots) (caps:=caps) (ps:=ps) hf hp2 (fun t' av hg=>?_) (by simpa using hl) hnd.2 k t p hk hpk
   have hne:s≠t':=by
    rintro rfl
    have key:∀ {slots:List Nat} {caps:List AV} {av:AV},(yU slots caps).get s=some av→s∈slots:=by
     intro slots
     induction slots with
     | nil=>intro caps av h;simp [yU,Env.get_nil] at h
     | cons x xs ih =>
      intro caps av h
      cases caps with
      | nil=>simp [yU,Env.get_nil] at h
      | cons y ys =>
       rw [yU,Env.get_cons] at h
       split at h
       ·rename_i e;simp [e]
       ·exact List.mem_cons_of_mem _ (ih h)
    exact hnd.1 (key hg)
   exact hE t' av (by rw [yU,Env.get_cons,if_neg hne];exact hg)
theorem zde:∀ {slots:List Nat} {caps:List AV} {ps:List Value} {tmps:Array Value},Zq K w ρ H caps ps→slots.length=caps.length→(∀ (k t:Nat) (p:Value),slots[k]?=some t→ps[k]?=some p→tmps[t]?=some p)→EnvR K w ρ H (yU slots caps) tmps
 | [],caps,ps,tmps,_,_,_=>fun t av h=>by simp [yU,Env.get_nil] at h
 | s::slots,[],ps,tmps,_,hl,_=>by simp at hl
 | s::slots,c::caps,ps,tmps,hr,hl,hk=>fun t av h=>by
  cases ps with
  | nil=>have:=hr.1;simp at this
  | cons p ps =>
   rw [yU,Env.get_cons] at h
   split at h
   ·rename_i e;subst e
    simp only [Option.some.injEq] at h;subst h
    exact ⟨p,hk 0 s p rfl rfl,hr.2 0 c p rfl rfl⟩
   ·exact zde (slots:=slots) (caps:=caps) (ps:=ps) ⟨by simpa using hr.1,fun k c u hc hu=>hr.2 (k + 1) c u (by simpa using hc) (by simpa using hu)⟩ (by simpa using hl) (fun k t p h1 h2=>hk (k + 1) t p (by simpa using h1) (by simpa using h2)) t av h
theorem zmK (htb:zX P tb) {args:List PV} {r:PV} {fn:Func} {c:Code} (hf:P.funcs[f]?=some fn) (hb:fn.body=some c) (hn:(fn.name == "runtime.NumGoroutine")=false) (hnt:fn.ntmps=n) (hargs:args.length≤n)
  (rs:List ResultVar) (hrs:fn.results.toList=rs) (h:lensOk args→AWD P n [] c (zdD 0 args) [] (fun ds ex env H=>DQ P tb rs r ex env H ds)):ACall P f args r:=by
 refine ⟨⟨fn,hf,by simp [hb],hn⟩,fun K w vs hl hv=>?_⟩
 refine calls_of_wp_defers hf hb ?_
 have hlen:vs.length=args.length:=hv.1
 refine wp_mono ((h hv.lensOk).go (Base.of w K (bare w) []) rfl _ w ⟨by simp [hnt];omega,rfl,K,fun _=>undef,⟨.refl _ _,fun _ _ h=>h,fun _ _ h=>.inl h,hl,QK _ _,.base,.none _ _,⟨by simp [HEnv.get_nil,HEnv.get_cons],by simp [HEnv.get_nil,HEnv.get_cons]⟩⟩,?_⟩) ?_
 ·intro t av hg
  obtain ⟨_,p,hp,rfl⟩:=Vr args 0 t av hg
  have hlt:t < vs.length:=by rw [hlen];exact (List.getElem?_eq_some_iff.1 hp).1
  refine ⟨vs[t],?_,.pv _ _ (hv.2 t p _ hp (List.getElem?_eq_getElem hlt))⟩
  rw [Array.getElem?_append_left (by simpa using hlt)]
  simp [hlt]
 ·rintro e a' w' ⟨ds,env1,H',hi,hq⟩
  have fin:∀ (ds:List Deferred) {K':KK} {ρ':Nat→Value} {H2:HEnv} {env2:Env} {w2:World} {rp:List PV},FS { Base.of w K (bare w) [] with ds:=ds } K' ρ' H2 w2→EnvR K' w2 ρ' H2 env2 a'.tmps→WY tb H2 env2 rs=some rp →
    ∃ v,(results fn a'.tmps).run P w2=.ok v w2∧(∃ K'',Evo K K'' w w2∧PRel K'' w2 (zl rp) v):=by
   intro ds K' ρ' H2 env2 w2 rp hf' he' hps
   obtain ⟨us,hrun,hru⟩:=Qo htb hf' he' hps
   have hev:Evo K K' w w2:=⟨hf'.below,hf'.old,hf'.new,hf'.lt⟩
   have hres:(results fn a'.tmps).run P w2=.ok (if hh:us.toArray.size=1 then us.toArray[0] else .tuple us.toArray) w2:=by
    unfold results
    rw [Array.mapM_eq_mapM_toList,hrs]
    simp only [Sem.run_bind,Sem.run_map]
    erw [hrun]
    rfl
   refine ⟨_,hres,K',hev,?_⟩
   split
   ·rename_i hh
    have hl1:=hru.1
    have hu:us.length=1:=by simpa using hh
    obtain ⟨u,rfl⟩:=List.length_eq_one_iff.1 hu
    obtain ⟨p,rfl⟩:=List.length_eq_one_iff.1 (show rp.length=1 by omega)
    exact hru.2 0 p u (by simp) (by simp)
   ·rename_i hh
    simp at hh
    have:zl rp=.tup rp:=by
     unfold zl
     split
     ·rename_i p;exact absurd (by have:=hru.1;simpa using this) hh
     ·rfl
    rw [this]
    exact .tup rp us hru.1 hru.2
  match ds,hi,hq with
  | [],hi,hq =>
   obtain ⟨i1,i2,K',ρ',hf',he0⟩:=hi
   obtain ⟨he,env',hent,ps,hps,rfl⟩:=hq
   have he':EnvR K' w' ρ' H' env' a'.tmps:=fun t av ht=>by
    obtain ⟨av0,q1,q2⟩:=hent t av ht
    obtain ⟨v,v1,v2⟩:=he0 t av0 q1
    exact ⟨v,v1,q2 _ _ _ _ _ v2⟩
   obtain ⟨v,hres,K'',hev,hval⟩:=fin _ hf' he' hps
   have i2':a'.defers=[]:=i2
   rcases he with rfl|rfl <;> (simp only [bodyPostD,i2'];exact ⟨v,hres,v,K'',rfl,hev,hval⟩)
  | [d],hi,hq =>
   obtain ⟨mode,u',f2,slots,caps,ps,Hn,H2,rp,hm,rfl,hfit,hb1,hb2,hD,hset,hsl,hnd,hsub,hrp,rfl⟩:=hq
   obtain ⟨i1,i2,K',ρ',hf',hE⟩:=(hi.sub hsub).hsub hfit
   have i2':a'.defers=[{ target:=.fn (.func f2) ps.toArray,args:=#[] }]:=i2
   have hslots:=zcR hf' hb1 hE hsl hnd
   have key:mode≠.run→Leaves P fn a'.tmps (fun e w'=>∃ v K',e=.returned v∧Evo K K' w w'∧PRel K' w' (zl rp) v) [{ target:=.fn (.func f2) ps.toArray,args:=#[] }] mode w':=by
    intro hmr
    refine leaves_cons hmr (f:=f2) (args:=ps.toArray) (by simp [invoke,qj hD.stands]) ?_
    refine (hD.calls _ K' ρ' w' ps hf' (ZQ hf' hb1)).mono ?_
    rintro e m w2 ⟨⟨v0,rfl⟩,rfl,K2,ρ2,hf2⟩
    obtain ⟨v,hres,K'',hev,hval⟩:=fin _ hf2 (zde (ZQ hf2 hb2) hsl hslots) hrp
    simp only [hset]
    exact ⟨v,hres,v,K'',rfl,hev,hval⟩
   cases e with
   | normal=>simp only [YS,Option.some.injEq] at hm;subst hm;simp only [bodyPostD,i2'];exact key (by simp)
   | ret=>simp only [YS,Option.some.injEq] at hm;subst hm;simp only [bodyPostD,i2'];exact key (by simp)
   | panic ch=>simp only [YS,Option.some.injEq] at hm;subst hm;simp only [bodyPostD,i2'];exact key (by simp)
   | exit id=>simp [YS] at hm
   | goto l=>simp [YS] at hm
   | outgrown=>simp [YS] at hm
  | _::_::_,_,hq=>exact hq.elim
theorem zd2 {caps:List AV} {u u':FrameMode} {fn:Func} {c:Code} (hf:P.funcs[f]?=some fn) (hb:fn.body=some c) (hn:(fn.name == "runtime.NumGoroutine")=false) (hrs:fn.results=#[])
  (h:∀ (g:Base) (K:KK) (ρ:Nat→Value) (w:World) (vs:List Value),g.ds=[]→FS g K ρ H w→Zq K w ρ H caps vs→∀ (c₀:Frame) (cs:List Frame),c₀.mode=u →
   c.wpS P (fun ex a' cs' w'=>(ex=.normal∨ex=.ret)∧a'.defers=[]∧cs'={ c₀ with mode:=u' }::cs∧∃ K' ρ',FS g K' ρ' H' w') { tmps:=vs.toArray++Array.replicate (fn.ntmps - vs.length) undef,defers:=[] } (c₀::cs) w):DCall P f H caps u u' H':=by
 refine ⟨⟨fn,hf,by simp [hb],hn⟩,fun g0 K ρ w vs hfs0 hv=>?_⟩
 obtain ⟨g,hg0⟩:∃ g:Base,g=⟨g0.w0,g0.K0,g0.w1,[],g0.wp,g0.pr⟩:=⟨_,rfl⟩
 have hfs:FS g K ρ H w:=by subst hg0;exact ⟨hfs0.below,hfs0.old,hfs0.new,hfs0.lt,hfs0.others,⟨hfs0.pt.same,hfs0.pt.kept⟩,hfs0.away,hfs0.heap⟩
 refine callsD_of_wpS hf hb fun c₀ cs hu=>?_
 have hh:=h g K ρ w vs (by subst hg0;rfl) hfs hv c₀ cs hu
 intro b k hb1 hb2
 obtain ⟨e,a',cs',w',hq,harr⟩:=hh b k hb1 hb2
 refine ⟨e,a',cs',w',?_,by simpa using harr⟩
 obtain ⟨he,hd,hcs,K',ρ',hf'⟩:=hq
 have hf2:FS g0 K' ρ' H' w':=by subst hg0;exact ⟨hf'.below,hf'.old,hf'.new,hf'.lt,hf'.others,⟨hf'.pt.same,hf'.pt.kept⟩,hf'.away,hf'.heap⟩
 have hres:(results fn a'.tmps).run P w'=.ok (.tuple #[]) w':=by simp [results,hrs]
 rcases he with rfl|rfl <;> exact ⟨hd,u',hcs,_,hres,⟨_,rfl⟩,rfl,K',ρ',hf2⟩
theorem zod {QS:Exit→Act→List Frame→World→Prop} {cs:List Frame} (h:AW P n g c env H QQ) (hi:Inv n g env H a w) (hq:∀ e a' w' env' H',Inv n g env' H' a' w'→QQ e env' H'→QS e a' cs w'):c.wpS P QS a cs w :=
 wpS_of_wp (wp_mono (wpIn_wide.1 (h.go a w hi none 0)) fun e a' w' ⟨env',H',h1,h2⟩=>hq e a' w' env' H' h1 h2)
theorem zjG (htb:zX P tb) {ty:Nat} {z:Value} (hz:tb.zero ty=some z):(zeroValue ty).run P w=.ok z w:=by
 have hzi:∃ i:TypeInfo,P.info? ty=some i∧i.zero=some z:=by
  unfold Tab.zero at hz
  split at hz
  ·rename_i ti hti
   obtain ⟨i,e1,_,_,e4,_⟩:=qF htb hti
   exact ⟨i,e1,by rw [e4];exact hz⟩
  ·cases hz
 obtain ⟨ti,hti,htz⟩:=hzi
 simp [zeroValue,typeInfo,hti,htz]
theorem zhT {i:Nat} {v v':AV} (hi:H.get i=some (.cell v)) (ht:Tells v v') (h:Inv n g env H a w):Inv n g env ((i,.cell v')::H) a w:=by
 obtain ⟨g1,g2,K,ρ,hf,he⟩:=h
 have hsame:∀ j,HEnv.get ((i,HE.cell v)::H) j=H.get j:=fun j=>by
  rw [HEnv.get_cons]
  split
  ·rename_i e;subst e;exact hi.symm
  ·rfl
 have hk:∀ j,(H.get j).isSome=true→(HEnv.get ((i,HE.cell v)::H) j).isSome=true∧ρ j=ρ j:=fun j hj=>⟨by rw [hsame];exact hj,rfl⟩
 have hf1:FS g K ρ ((i,.cell v)::H) w:=by
  refine ⟨hf.below,hf.old,hf.new,hf.lt,hf.others,hf.pt,fun j x b hj=>hf.away j x b (by rw [←hsame];exact hj),fun j x hj=>?_,fun j j' x x' b hjj hj hj'=>hf.heap.apart j j' x x' b hjj (by rw [←hsame];exact hj) (by rw [←hsame];exact hj')⟩
  rw [hsame] at hj
  exact (hf.heap.ok j x hj).keeps (.refl hf.lt) hf.lt hk
 have hk2:∀ j,(H.get j).isSome=true→(HEnv.get ((i,HE.cell v')::H) j).isSome=true∧ρ j=ρ j:=fun j hj=>⟨by
  rw [HEnv.get_cons];split <;> first|rfl|exact hj,rfl⟩
 exact ⟨g1,g2,K,ρ,zlM hf1 ht,he.keeps (.refl K w) hk2⟩
theorem zdu (i:Nat) {v v':AV} (hi:H.get i=some (.cell v)) (ht:Tells v v') (k:AW P n g c env ((i,.cell v')::H) QQ):AW P n g c env H QQ:=⟨fun a w hinv=>k.go a w (zhT hi ht hinv)⟩
theorem zmS (cs:List PV):Tells (.pv (.agg cs)) (.agg (cs.map .pv)):=fun K w ρ H v h=>by
 cases h with
 | pv _ _ hp =>
  cases hp with
  | agg _ vs h1 h2 h3 =>
   refine .agg _ vs (by simpa using h1) h2 fun k c v hc hv=>?_
   rw [List.getElem?_map] at hc
   cases hcs:cs[k]? with
   | none=>simp [hcs] at hc
   | some p=>simp [hcs] at hc;subst hc;exact .pv _ _ (h3 k p v hcs hv)
end
theorem za3 {K:KK} {w:World} {ρ:Nat→Value} {H:HEnv} {env:Env} {tmps:Array Value} {t:Nat} {av:AV} {v:Value} (h1:tmps[t]?=some v) (h2:ARel K w ρ H av v) (h:EnvR K w ρ H env tmps):EnvR K w ρ H ((t,av)::env) tmps:=fun t' av' hg=>by
 rw [Env.get_cons] at hg
 split at hg
 ·rename_i e;subst e;simp only [Option.some.injEq] at hg;subst hg;exact ⟨v,h1,h2⟩
 ·exact h t' av' hg
theorem zj3 {K:KK} {w:World} {ρ:Nat→Value} {H:HEnv} {tmps:Array Value}:EnvR K w ρ H [] tmps:=fun t av h=>by simp [Env.get_nil] at h
def zqx (H2:HEnv):QC:=fun ex _ H=>(ex=.normal∨ex=.ret)∧YO H H2 []
theorem zom {n:Nat} {g:Base} {env:Env} {H H2:HEnv} {a:Act} {w:World} (hi:Inv n g env H a w) (hf:YO H H2 []):∃ K ρ,FS g K ρ H2 w:=by
 obtain ⟨_,_,K,ρ,h,_⟩:=hi
 exact ⟨K,ρ,h.narrow hf⟩
section
variable {P:Program} {tb:Tab} {n:Nat} {H H':HEnv} {f:FuncId} {args:List AV}
end
structure ACallPanM (P:Program) (f:FuncId) (args:List AV) (H:HEnv) (v:Value) (H':HEnv) (lone:Bool:=false):Prop where
 stands:QZ P f
 calls:∀ (g:Base) (K:KK) (ρ:Nat→Value) (w:World) (vs:List Value),(lone=true→g.w1.heap.size=0)→FS g K ρ H w→Zq K w ρ H args vs →
  Calls P f vs.toArray w fun e w'=>e=.panicked [{ v:=v,recovered:=false }]∧∃ K' ρ',FS g K' ρ' H' w'
section
variable {P:Program} {tb:Tab} {n:Nat} {g:Base} {K K':KK} {w w':World} {ρ ρ':Nat→Value} {H H':HEnv} {env:Env} {a:Act} {ops:List Oper} {o:Oper} {rest:List Oper} {f:FuncId} {args:List AV} {r:AV} {QQ:QC}
theorem zj7 {pv:Value} {ars:List AV} {vs:List Value} (Hc Hc' R:HEnv) {lone:Bool} (ps:List Nat) (hw1:lone=true→g.w1.heap.size=0) (hsub:HSub H (Hc++R))
  (hchk:Zr Hc Hc' R ps ars [] (.pv (.tup []))=true) (hc:∀ us,ACallPanM P f ars (Hc++zD us ps) pv (Hc'++zD us ps) lone) (hf:FS g K ρ H w) (hall0:Zq K w ρ H ars vs) :
  Calls P f vs.toArray w fun e w'=>∃ K' ρ2,e=.panicked [{ v:=pv,recovered:=false }]∧FS g K' ρ2 (Hc'++R) w'∧Later K K' w w'∧(∀ j,(HEnv.get (R++QJ ps) j).isSome=true→(HEnv.get (Hc'++R) j).isSome=true∧ρ2 j=ρ j):=by
 simp only [Zr,Bool.and_eq_true] at hchk
 obtain ⟨⟨⟨⟨⟨⟨⟨⟨⟨⟨d1,d2⟩,d3⟩,d4⟩,i1⟩,i2⟩,i3⟩,i4⟩,i5⟩,i6⟩,i7⟩:=hchk
 have i7':∀ i∈ps,(Hc.get i).isSome=true∧(Hc'.get i).isSome=true:=fun i hi=>by simpa using List.all_eq_true.1 i7 i hi
 have hlatR:Later K K w w:=.refl K w
 have gC:∀ i x,Hc.get i=some x→H.get i=some x:=fun i x hx=>hsub i x (by rw [get_append,hx])
 have gR:∀ i x,R.get i=some x→H.get i=some x:=fun i x hx=>hsub i x (by
  rw [get_append]
  cases hh:Hc.get i with
  | none=>exact hx
  | some y=>rw [qy d1 i y hh] at hx;cases hx)
 have nC:∀ i x,R.get i=some x→Hc.get i=none:=fun i x hx=>by
  cases hh:Hc.get i with
  | none=>rfl
  | some y=>rw [qy d1 i y hh] at hx;cases hx
 have nC':∀ i x,R.get i=some x→Hc'.get i=none:=fun i x hx=>by
  cases hh:Hc'.get i with
  | none=>rfl
  | some y=>rw [qy d2 i y hh] at hx;cases hx
 have hpinC:∀ {A:HEnv} {us:Nat→Value} {i:Nat} {x:HE},HEnv.get (A++zD us ps) i=some x→x.live=true→A.get i=some x:=by
  intro A us i x hx hl
  rw [get_append] at hx
  cases hh:A.get i with
  | some z=>rw [hh] at hx;exact hx
  | none =>
   rw [hh] at hx
   obtain ⟨_,_,rfl⟩:=Yg hx
   simp [HE.live] at hl
 obtain ⟨g',hg'⟩:∃ g':Base,g'=⟨g.w0,K,g.w1,g.ds,w,fun b=>g.pr b∨∃ i x,R.get i=some x∧x.live=true∧zo (ρ i)=some b⟩:=⟨_,rfl⟩
 have hfs:FS g' K ρ (Hc++zD ρ ps) w:=by
  subst hg'
  refine ⟨hf.below,fun _ _ h=>h,fun _ _ h=>.inl h,hf.lt,hf.others,⟨?_,fun _ _ _=>rfl⟩,?_,?_,?_⟩
  ·rintro b (hb|⟨i,x,hi,hl,hb⟩)
   ·exact ⟨(hf.pt.same b hb).1,rfl,fun _=>Iff.rfl⟩
   ·exact ⟨((hf.heap.ok i x (gR i x hi)).block_lt hl hb).2,rfl,fun _=>Iff.rfl⟩
  ·intro i x b hi hl hb
   have hC:=hpinC hi hl
   rintro (hp|⟨j,y,hj,hly,hbj⟩)
   ·exact hf.away i x b (gC i x hC) hl hb hp
   ·have hne:i≠j:=by rintro rfl;rw [nC i y hj] at hC;cases hC
    exact hf.heap.apart i j x y b hne (gC i x hC) (gR j y hj) hl hly hb hbj
  ·intro i x hi
   rw [get_append] at hi
   cases hh:Hc.get i with
   | some y =>
    rw [hh] at hi;simp only [Option.some.injEq] at hi;subst hi
    have hok:=hf.heap.ok i y (gC i y hh)
    have hk:∀ j,(HEnv.get Hc j).isSome=true→(HEnv.get (Hc++zD ρ ps) j).isSome=true∧ρ j=ρ j:=fun j hj=>⟨zH j hj,rfl⟩
    cases y with
    | cell v=>obtain ⟨b,t,arr,u,q1,q2,q3,q4,q5,q6⟩:=hok;exact ⟨b,t,arr,u,q1,q2,q3,(q4.refs (qP i2 i v hh)).keeps hlatR hk,q5,q6⟩
    | pin v u=>exact (ARel.refs hok (qc i2 i v u hh)).keeps hlatR hk
    | row t sz es=>exact hok
    | mrow t sz es=>exact hok
    | dead=>exact hok
    | obj X=>exact hok
   | none =>
    rw [hh] at hi
    obtain ⟨q1,q2,rfl⟩:=Yg hi
    exact .own _ (zH _ (i7' _ q2).1)
  ·intro i j x y b hij hi hj lx ly bx bj
   exact hf.heap.apart i j x y b hij (gC i x (hpinC hi lx)) (gC j y (hpinC hj ly)) lx ly bx bj
 have hall:Zq K w ρ (Hc++zD ρ ps) ars vs :=
  ⟨hall0.1,fun k c v hc hv=>((hall0.2 k c v hc hv).refs (qB i1 k c hc)).keeps hlatR fun j hj=>⟨zH j hj,rfl⟩⟩
 refine ((hc ρ).calls g' K ρ w _ (by subst hg';exact hw1) hfs hall).mono fun e w' ⟨e1,K',ρ',hf'⟩=>?_
 subst e1
 have hlat:Later K K' w w':=by subst hg';exact ⟨hf'.old,hf'.pt.kept⟩
 have hprot:∀ b,(g.pr b∨∃ i x,R.get i=some x∧x.live=true∧zo (ρ i)=some b)→b < w'.heap.size∧w'.heap[b]?=w.heap[b]?∧∀ o,K' b o↔K b o:=by subst hg';exact hf'.pt.same
 have haway:∀ i x b,Hc'.get i=some x→x.live=true→zo (ρ' i)=some b→¬ (g.pr b∨∃ i x,R.get i=some x∧x.live=true∧zo (ρ i)=some b):=by
  subst hg';exact fun i x b hi=>hf'.away i x b (by rw [get_append,hi])
 obtain ⟨ρ2,hρ2⟩:∃ ρ2:Nat→Value,∀ j,ρ2 j=if (Hc'.get j).isSome then ρ' j else ρ j:=⟨_,fun _=>rfl⟩
 have r1:∀ j,(Hc'.get j).isSome=true→ρ2 j=ρ' j:=fun j hj=>by rw [hρ2,if_pos hj]
 have r2:∀ j,Hc'.get j=none→ρ2 j=ρ j:=fun j hj=>by rw [hρ2,hj];rfl
 have hkC:∀ j,(HEnv.get Hc' j).isSome=true→(HEnv.get (Hc'++R) j).isSome=true∧ρ2 j=ρ' j:=fun j hj=>⟨zH j hj,r1 j hj⟩
 have hps:∀ i∈ps,ρ' i=ρ i:=fun i hi=>by
  have hnone:Hc'.get (1000 + i)=none:=by
   cases hh:Hc'.get (1000 + i) with
   | none=>rfl
   | some x=>have:=YK d4 _ x hh;omega
  have:=hf'.heap.ok (1000 + i) _ (by rw [get_append,hnone];exact Vl hi)
  have this:ARel K' w' ρ' (Hc'++zD ρ ps) (.own i) (ρ i):=this
  generalize hu:ρ i=u at this
  cases this with
  | own _ _=>rfl
 have hkR:∀ j,(HEnv.get (R++QJ ps) j).isSome=true→(HEnv.get (Hc'++R) j).isSome=true∧ρ2 j=ρ j:=fun j hj=>by
  rw [get_append] at hj
  cases hh:R.get j with
  | some x =>
   have hn:=nC' j x hh
   exact ⟨by rw [get_append,hn,hh];rfl,r2 j hn⟩
  | none =>
   rw [hh] at hj
   have hm:=Vs hj
   have hs':=(i7' j hm).2
   exact ⟨zH j hs',by rw [r1 j hs',hps j hm]⟩
 have hfs2:FS g K' ρ2 (Hc'++R) w':=by
  have b1:Below g.w0.heap.size g.w0 w':=by subst hg';exact hf'.below
  have b3:∀ b o,K' b o→K b o∨g.w0.heap.size≤b:=by subst hg';exact hf'.new
  have b5:KeepsOthers g.w1 w':=by subst hg';exact hf'.others
  have bB:HRel K' w' g.w0.heap.size ρ' (Hc'++zD ρ ps):=by subst hg';exact hf'.heap
  refine ⟨b1,fun b o h=>hlat.sub b o (hf.old b o h),fun b o hk=>(b3 b o hk).elim (hf.new b o) .inr,hf'.lt,b5,⟨fun b hb=>?_,fun b o h0=>(hlat.cell b o (hf.old b o h0)).trans (hf.pt.kept b o h0)⟩,fun i x b hi hl hb=>?_,fun i x hi=>?_,fun i j x y b hij hi hj lx ly bx bj=>?_⟩
  ·obtain ⟨p1,p2,p3⟩:=hprot b (.inl hb)
   obtain ⟨q1,q2,q3⟩:=hf.pt.same b hb
   exact ⟨p1,p2.trans q2,fun o=>(p3 o).trans (q3 o)⟩
  ·rw [get_append] at hi
   cases hh:Hc'.get i with
   | some y =>
    rw [hh] at hi;simp only [Option.some.injEq] at hi;subst hi
    rw [r1 i (by rw [hh];rfl)] at hb
    exact fun hp=>haway i y b hh hl hb (.inl hp)
   | none =>
    rw [hh] at hi
    rw [r2 i hh] at hb
    exact hf.away i x b (gR i x hi) hl hb
  ·rw [get_append] at hi
   cases hh:Hc'.get i with
   | some y =>
    rw [hh] at hi;simp only [Option.some.injEq] at hi;subst hi
    rw [r1 i (by rw [hh];rfl)]
    have hok:=bB.ok i y (by rw [get_append,hh])
    have hl':=Later.refl K' w'
    cases y with
    | cell v=>obtain ⟨b,t,arr,u,q1,q2,q3,q4,q5,q6⟩:=hok;exact ⟨b,t,arr,u,q1,q2,q3,(q4.refs (qP i3 i v hh)).keeps hl' hkC,q5,q6⟩
    | pin v u=>exact (ARel.refs hok (qc i3 i v u hh)).keeps hl' hkC
    | row t sz es=>exact hok
    | mrow t sz es=>exact hok
    | dead=>exact hok
    | obj X=>exact hok
   | none =>
    rw [hh] at hi
    rw [r2 i hh]
    have hok:=hf.heap.ok i x (gR i x hi)
    have hsame:x.live=true→∀ b,zo (ρ i)=some b→w'.heap[b]?=w.heap[b]?∧∀ o,K' b o↔K b o:=fun hl b hb=>(hprot b (.inr ⟨i,x,hi,hl,hb⟩)).2
    cases x with
    | cell v =>
     obtain ⟨b,t,arr,u,q1,q2,q3,q4,q5,q6⟩:=hok
     obtain ⟨s1,s2⟩:=hsame rfl b (by rw [q1];rfl)
     exact ⟨b,t,arr,u,q1,q2,by rw [s1];exact q3,(q4.refs (qP i5 i v hi)).keeps hlat hkR,q5,fun o hk=>q6 o ((s2 o).1 hk)⟩
    | pin v u=>exact (ARel.refs hok (qc i5 i v u hi)).keeps hlat hkR
    | row t sz es =>
     obtain ⟨xs,q1,q2,q3,q4⟩:=hok
     refine ⟨xs,yZ q1 fun b hb=>(hsame rfl b hb).1,q2,fun k e he=>?_,fun b hb o=>?_⟩
     ·obtain ⟨c1,c2⟩:=q3 k e he
      exact ⟨c1,fun k c hc=>let ⟨v,h4,h5,h6⟩:=c2 k c hc;⟨v,h4,h5,h6.later hlat⟩⟩
     ·rw [(hsame rfl b ((qQ q1 b).2 hb)).2 o];exact q4 b hb o
    | mrow t sz es =>
     obtain ⟨xs,q1,q2,q3,q4⟩:=hok
     refine ⟨xs,yZ q1 fun b hb=>(hsame rfl b hb).1,q2,fun k e he=>?_,fun b hb o hk=>?_⟩
     ·obtain ⟨c1,c2⟩:=q3 k e he
      exact ⟨c1,fun k c hc=>let ⟨v,h4,h5,h6⟩:=c2 k c hc;⟨v,h4,h5,h6.later hlat⟩⟩
     ·exact q4 b hb o (((hsame rfl b ((qQ q1 b).2 hb)).2 o).1 hk)
    | dead=>trivial
    | obj X =>
     obtain ⟨b,ob,q1,q2,q3,q4,q5⟩:=hok
     obtain ⟨s1,s2⟩:=hsame rfl b (by rw [q1];rfl)
     exact ⟨b,ob,q1,q2,by rw [s1];exact q3,q4,fun o hk=>q5 o ((s2 o).1 hk)⟩
  ·rw [get_append] at hi hj
   cases hhi:Hc'.get i with
   | some x' =>
    rw [hhi] at hi;simp only [Option.some.injEq] at hi;subst hi
    rw [r1 i (by rw [hhi];rfl)] at bx
    cases hhj:Hc'.get j with
    | some y' =>
     rw [hhj] at hj;simp only [Option.some.injEq] at hj;subst hj
     rw [r1 j (by rw [hhj];rfl)] at bj
     exact bB.apart i j x' y' b hij (by rw [get_append,hhi]) (by rw [get_append,hhj]) lx ly bx bj
    | none =>
     rw [hhj] at hj;rw [r2 j hhj] at bj
     exact haway i x' b hhi lx bx (.inr ⟨j,y,hj,ly,bj⟩)
   | none =>
    rw [hhi] at hi;rw [r2 i hhi] at bx
    cases hhj:Hc'.get j with
    | some y' =>
     rw [hhj] at hj;simp only [Option.some.injEq] at hj;subst hj
     rw [r1 j (by rw [hhj];rfl)] at bj
     exact haway j y' b hhj ly bj (.inr ⟨i,x,hi,lx,bx⟩)
    | none =>
     rw [hhj] at hj;rw [r2 j hhj] at bj
     exact hf.heap.apart i j x y b hij (gR i x hi) (gR j y hj) lx ly bx bj
 exact ⟨K',ρ2,rfl,hfs2,hlat,hkR⟩
theorem zaH {xs:Array Operand} {ts:Array TypeId} {ars:List AV} {v:Value} (Hc Hc' R:HEnv) {lone:Bool} (ps:List Nat) (hw1:lone=true→g.w1.heap.size=0) (hg:guardE ops env o=some true)
  (hop:o.op=.call { callee:=.value (.func f),args:=xs,argTypes:=ts }) (hargs:avs env xs.toList=some ars) (hsub:HSub H (Hc++R)) (hchk:Zr Hc Hc' R ps ars [] (.pv (.tup []))=true) (hc:∀ us,ACallPanM P f ars (Hc++zD us ps) v (Hc'++zD us ps) lone)
  (h:QQ (.panic [{ v:=v,recovered:=false }]) (za2 (R++QJ ps) env) (Hc'++R)):AOX P n g ops.toArray (o::rest) env H QQ:=by
 refine ⟨fun a w hinv=>?_⟩
 have hw:=yh hinv hg
 obtain ⟨h1,h2,K,ρ,hf,he⟩:=hinv
 refine wpList_step fun KK hKK=>?_
 rw [if_pos hw]
 have hrun:(execOp a.eval o).run P w=.ok (.enter f (xs.toList.map a.eval).toArray) w:=by
  have e:(xs.toList.map a.eval).toArray=xs.map a.eval:=by rw [←Array.toList_map,Array.toArray_toList]
  rw [e]
  simp [execOp,hop,resolve,Act.eval,Deferred.ofValue,invoke,qj (hc ρ).stands]
 unfold Oper.wp
 rw [hrun]
 simp only [Oper.upon]
 refine (zj7 Hc Hc' R ps hw1 hsub hchk hc hf (VF (a:=a) he hargs)).mono fun e w' ⟨K',ρ2,e1,hf',hlat,hps⟩=>?_
 subst e1
 refine ⟨za2 (R++QJ ps) env,Hc'++R,⟨h1,h2,K',ρ2,hf',fun t av ht=>?_⟩,.inr ⟨_,rfl⟩,h⟩
 rw [zaE] at ht
 cases hE:env.get t with
 | none=>simp [hE] at ht
 | some v0 =>
  obtain ⟨u,u1,u2⟩:=he t v0 hE
  simp only [hE,Option.map_some,Option.some.injEq] at ht
  subst ht
  refine ⟨u,u1,?_⟩
  split
  ·rename_i hr;exact (u2.refs hr).keeps hlat hps
  ·exact .any u
theorem zj2 {i:Nat} {v v':AV} (hi:H.get i=some (.cell v)) (ht:Tells v v') (hf:FS g K ρ H w):FS g K ρ ((i,.cell v')::H) w:=by
 have hsame:∀ j,HEnv.get ((i,HE.cell v)::H) j=H.get j:=fun j=>by
  rw [HEnv.get_cons]
  split
  ·rename_i e;subst e;exact hi.symm
  ·rfl
 have hk:∀ j,(H.get j).isSome=true→(HEnv.get ((i,HE.cell v)::H) j).isSome=true∧ρ j=ρ j:=fun j hj=>⟨by rw [hsame];exact hj,rfl⟩
 have hf1:FS g K ρ ((i,.cell v)::H) w:=by
  refine ⟨hf.below,hf.old,hf.new,hf.lt,hf.others,hf.pt,fun j x b hj=>hf.away j x b (by rw [←hsame];exact hj),fun j x hj=>?_,fun j j' x x' b hjj hj hj'=>hf.heap.apart j j' x x' b hjj (by rw [←hsame];exact hj) (by rw [←hsame];exact hj')⟩
  rw [hsame] at hj
  exact (hf.heap.ok j x hj).keeps (.refl hf.lt) hf.lt hk
 exact zlM hf1 ht
theorem ACallPanM.post {v:Value} {H'':HEnv} {lone:Bool} (h:ACallPanM P f args H v H' lone) (hw:∀ (g:Base) K ρ w,FS g K ρ H' w→FS g K ρ H'' w):ACallPanM P f args H v H'' lone :=
 ⟨h.stands,fun g K ρ w vs hl hf ha=>(h.calls g K ρ w vs hl hf ha).mono fun e w' ⟨e1,K',ρ',hf'⟩=>⟨e1,K',ρ',hw g K' ρ' w' hf'⟩⟩
theorem ZN {fn:Func} {c:Code} {v:Value} (hf:P.funcs[f]?=some fn) (hb:fn.body=some c) (hn:(fn.name == "runtime.NumGoroutine")=false) (hnt:fn.ntmps=n) (hargs:args.length≤n)
  {lone:Bool} (h:∀ g:Base,(lone=true→g.w1.heap.size=0)→AW P n g c (VJ 0 args) H (fun ex _ H1=>ex=.panic [{ v:=v,recovered:=false }]∧YO H1 H' [])):ACallPanM P f args H v H' lone:=by
 refine ⟨⟨fn,hf,by simp [hb],hn⟩,fun g0 K ρ w vs hw1 hfs0 hv=>?_⟩
 obtain ⟨g,hg0⟩:∃ g:Base,g=⟨g0.w0,g0.K0,g0.w1,[],g0.wp,g0.pr⟩:=⟨_,rfl⟩
 have hfs:FS g K ρ H w:=by subst hg0;exact ⟨hfs0.below,hfs0.old,hfs0.new,hfs0.lt,hfs0.others,⟨hfs0.pt.same,hfs0.pt.kept⟩,hfs0.away,hfs0.heap⟩
 refine calls_of_wp hf hb ?_
 have hlen:vs.length=args.length:=hv.1
 refine wp_mono (wpIn_wide.1 ((h g (by subst hg0;exact hw1)).go _ w ⟨by simp [hnt];omega,by subst hg0;rfl,K,ρ,hfs,?_⟩ none 0)) ?_
 ·intro t av hg
  obtain ⟨_,hp⟩:=Qn args 0 t av hg
  have hlt:t < vs.length:=by rw [hlen];exact (List.getElem?_eq_some_iff.1 hp).1
  refine ⟨vs[t],?_,hv.2 t av _ hp (List.getElem?_eq_getElem hlt)⟩
  rw [Array.getElem?_append_left (by simpa using hlt)]
  simp [hlt]
 ·rintro e a' w' ⟨env1,H1,hi,rfl,hfit⟩
  obtain ⟨_,h2,K',ρ',hf',_⟩:=hi
  have hf2:FS g K' ρ' H' w':=hf'.narrow hfit
  refine ⟨by rw [h2];subst hg0;rfl,rfl,K',ρ',?_⟩
  subst hg0;exact ⟨hf2.below,hf2.old,hf2.new,hf2.lt,hf2.others,⟨hf2.pt.same,hf2.pt.kept⟩,hf2.away,hf2.heap⟩
end
def DQB (P:Program) (tb:Tab) (rs:List ResultVar) (r:PV) (H2:HEnv) (ex:Exit) (env:Env) (H:HEnv):List Deferred→Prop
 | []=>zo1 tb rs (.pv r) H2 ex env H
 | [d]=>∃ (mode u':FrameMode) (f:FuncId) (slots:List Nat) (caps:List AV) (ps:List Value) (Hn H':HEnv) (t:Nat) (b:Value) (rp:List PV),YS ex=some mode∧d={ target:=.fn (.func f) ps.toArray,args:=#[] }∧YO H Hn ((t,.pv (.base b))::yU slots caps)∧Zk Hn caps ps∧Zk H' caps ps ∧
   DCall P f Hn caps mode u' H'∧settle u'=.returning∧slots.length=caps.length∧slots.Nodup∧t∉slots∧Sub env ((t,.pv (.base b))::yU slots caps)∧WY tb H' ((t,.pv (.base b))::yU slots caps) rs=some rp∧zl rp=r∧YO H' H2 []
 | _=>False
theorem zcu {s:Nat} {av:AV}:∀ {slots:List Nat} {caps:List AV},(yU slots caps).get s=some av→s∈slots
 | [],_,h=>by simp [yU,Env.get_nil] at h
 | x::xs,[],h=>by simp [yU,Env.get_nil] at h
 | x::xs,y::ys,h=>by
  rw [yU,Env.get_cons] at h
  split at h
  ·rename_i e;simp [e]
  ·exact List.mem_cons_of_mem _ (zcu h)
section
variable {P:Program} {tb:Tab} {n:Nat} {H H':HEnv} {f:FuncId} {args:List AV}
theorem Wp (htb:zX P tb) {r:PV} {fn:Func} {c:Code} (hf:P.funcs[f]?=some fn) (hb:fn.body=some c) (hn:(fn.name == "runtime.NumGoroutine")=false) (hnt:fn.ntmps=n) (hargs:args.length≤n)
  (rs:List ResultVar) (hrs:fn.results.toList=rs) (h:AWD P n [] c (VJ 0 args) H (fun ds ex env H1=>DQB P tb rs r H' ex env H1 ds)):ACallM P f args H (.pv r) H':=by
 refine ⟨⟨fn,hf,by simp [hb],hn⟩,fun g0 K ρ w vs _ hfs0 hv=>?_⟩
 obtain ⟨g,hg0⟩:∃ g:Base,g=⟨g0.w0,g0.K0,g0.w1,[],g0.wp,g0.pr⟩:=⟨_,rfl⟩
 have hfs:FS g K ρ H w:=by subst hg0;exact ⟨hfs0.below,hfs0.old,hfs0.new,hfs0.lt,hfs0.others,⟨hfs0.pt.same,hfs0.pt.kept⟩,hfs0.away,hfs0.heap⟩
 refine calls_of_wp_defers hf hb ?_
 have hlen:vs.length=args.length:=hv.1
 refine wp_mono (h.go g (by subst hg0;rfl) _ w ⟨by simp [hnt];omega,by subst hg0;rfl,K,ρ,hfs,?_⟩) ?_
 ·intro t av hg
  obtain ⟨_,hp⟩:=Qn args 0 t av hg
  have hlt:t < vs.length:=by rw [hlen];exact (List.getElem?_eq_some_iff.1 hp).1
  refine ⟨vs[t],?_,hv.2 t av _ hp (List.getElem?_eq_getElem hlt)⟩
  rw [Array.getElem?_append_left (by simpa using hlt)]
  simp [hlt]
 ·rintro e a' w' ⟨ds,env1,H1,hi,hq⟩
  have back:∀ {ds:List Deferred} {K':KK} {ρ':Nat→Value} {X:HEnv} {w':World},FS { g with ds:=ds } K' ρ' X w'→FS g0 K' ρ' X w':=fun hf1=>by
   subst hg0;exact ⟨hf1.below,hf1.old,hf1.new,hf1.lt,hf1.others,⟨hf1.pt.same,hf1.pt.kept⟩,hf1.away,hf1.heap⟩
  have fin:∀ (ds:List Deferred) {K':KK} {ρ':Nat→Value} {H2:HEnv} {env2:Env} {w2:World} {rp:List PV},FS { g with ds:=ds } K' ρ' H2 w2→EnvR K' w2 ρ' H2 env2 a'.tmps→WY tb H2 env2 rs=some rp→YO H2 H' [] →
    ∃ v,(results fn a'.tmps).run P w2=.ok v w2∧∃ K' ρ',FS g0 K' ρ' H' w2∧ARel K' w2 ρ' H' (.pv (zl rp)) v:=by
   intro ds K' ρ' H2 env2 w2 rp hf' he' hps hfit
   obtain ⟨us,hrun,hru⟩:=Qo htb hf' he' hps
   have hres:(results fn a'.tmps).run P w2=.ok (if hh:us.toArray.size=1 then us.toArray[0] else .tuple us.toArray) w2:=by
    unfold results
    rw [Array.mapM_eq_mapM_toList,hrs]
    simp only [Sem.run_bind,Sem.run_map]
    erw [hrun]
    rfl
   refine ⟨_,hres,K',ρ',back (hf'.narrow hfit),.pv _ _ ?_⟩
   split
   ·rename_i hh
    have hl1:=hru.1
    have hu:us.length=1:=by simpa using hh
    obtain ⟨u,rfl⟩:=List.length_eq_one_iff.1 hu
    obtain ⟨p,rfl⟩:=List.length_eq_one_iff.1 (show rp.length=1 by omega)
    exact hru.2 0 p u (by simp) (by simp)
   ·rename_i hh
    simp at hh
    have:zl rp=.tup rp:=by
     unfold zl
     split
     ·rename_i p;exact absurd (by have:=hru.1;simpa using this) hh
     ·rfl
    rw [this]
    exact .tup rp us hru.1 hru.2
  match ds,hi,hq with
  | [],hi,hq =>
   obtain ⟨i1,i2,K',ρ',hf',he'⟩:=hi
   obtain ⟨he,hq⟩:=hq
   have i2':a'.defers=[]:=i2
   have key:∃ v,(results fn a'.tmps).run P w'=.ok v w'∧∃ K' ρ',FS g0 K' ρ' H' w'∧ARel K' w' ρ' H' (.pv r) v:=by
    rcases hq with ⟨ps,hps,e1,hfit⟩|⟨t,ht,hget,hfit⟩
    ·cases e1;exact fin _ hf' he' hps hfit
    ·obtain ⟨v,hv1,hv2⟩:=he' t _ hget
     have hin:=hfit.2
     simp only [XP,Bool.and_eq_true] at hin
     have hres:(results fn a'.tmps).run P w'=.ok v w':=by
      unfold results
      rw [Array.mapM_eq_mapM_toList,hrs,ht]
      simp [Result.andThen,hv1]
     exact ⟨v,hres,K',ρ',back (hf'.narrow hfit),hv2.refs hin.1.1⟩
   obtain ⟨v,hres,K2,ρ2,hf2,hval⟩:=key
   rcases he with rfl|rfl <;> (simp only [bodyPostD,i2'];exact ⟨v,hres,v,K2,ρ2,rfl,hf2,hval⟩)
  | [d],hi,hq =>
   obtain ⟨mode,u',f2,slots,caps,ps,Hn,H2,tt,bb,rp,hm,rfl,hfit,hb1,hb2,hD,hset,hsl,hnd,hnm,hsub,hrp,rfl,hft⟩:=hq
   obtain ⟨i1,i2,K',ρ',hf',hE⟩:=(hi.sub hsub).hsub hfit
   have i2':a'.defers=[{ target:=.fn (.func f2) ps.toArray,args:=#[] }]:=i2
   have hE0:EnvR K' w' ρ' Hn (yU slots caps) a'.tmps:=fun s av h=>hE s av (by
    have hne:tt≠s:=fun e=>hnm (e ▸ zcu h)
    rw [Env.get_cons,if_neg hne];exact h)
   have htb2:a'.tmps[tt]?=some bb∧Yc bb=true:=by
    obtain ⟨v,v1,v2⟩:=hE tt (.pv (.base bb)) (by rw [Env.get_cons,if_pos rfl])
    rw [v1]
    cases v2 with
    | pv _ _ hp=>cases hp with|base _ hb=>exact ⟨rfl,hb⟩
   have hslots:=zcR hf' hb1 hE0 hsl hnd
   have key:mode≠.run→Leaves P fn a'.tmps (fun e w'=>∃ v K' ρ',e=.returned v∧FS g0 K' ρ' H' w'∧ARel K' w' ρ' H' (.pv (zl rp)) v) [{ target:=.fn (.func f2) ps.toArray,args:=#[] }] mode w':=by
    intro hmr
    refine leaves_cons hmr (f:=f2) (args:=ps.toArray) (by simp [invoke,qj hD.stands]) ?_
    refine (hD.calls _ K' ρ' w' ps hf' (ZQ hf' hb1)).mono ?_
    rintro e m w2 ⟨⟨v0,rfl⟩,rfl,K2,ρ2,hf2⟩
    obtain ⟨v,hres,K3,ρ3,hf3,hval⟩:=fin _ hf2 (za3 htb2.1 (.pv _ _ (.base _ htb2.2)) (zde (ZQ hf2 hb2) hsl hslots)) hrp hft
    simp only [hset]
    exact ⟨v,hres,v,K3,ρ3,rfl,hf3,hval⟩
   cases e with
   | normal=>simp only [YS,Option.some.injEq] at hm;subst hm;simp only [bodyPostD,i2'];exact key (by simp)
   | ret=>simp only [YS,Option.some.injEq] at hm;subst hm;simp only [bodyPostD,i2'];exact key (by simp)
   | panic ch=>simp only [YS,Option.some.injEq] at hm;subst hm;simp only [bodyPostD,i2'];exact key (by simp)
   | exit id=>simp [YS] at hm
   | goto l=>simp [YS] at hm
   | outgrown=>simp [YS] at hm
  | _::_::_,_,hq=>exact hq.elim
end
section
variable {P:Program} {n:Nat} {g:Base} {H:HEnv} {env:Env} {ops:List Oper} {o:Oper} {rest:List Oper} {f:FuncId} {QQ:QC}
end
end Go.Cg
namespace Go.Cg
open Go.Proofs
set_option maxHeartbeats 20000000
section
variable {P:Program} {tb:Tab} {n:Nat} {g:Base} {H:HEnv} {env:Env} {o:Oper}
theorem zlb {t:TypeId} {x:Operand} {fs:_} (hop:o.op=.makeInterface t x) (hu:P.underlying t=some (.struct fs)) (hx:env.pv H x=some (.agg [])):QStep P g H o env (.pv (.base (.iface t (.agg #[])))):=by
 refine ⟨fun K ρ a w hf hv=>?_⟩
 have hxr:=zZ hf (hv x (by rw [hop];simp [Op.operands])) hx
 generalize hxv:a.eval x=xv at hxr
 have e:xv=.agg #[]:=by
  cases hxr with
  | agg cs vs h1 _ _ =>
   have:vs=[]:=List.eq_nil_of_length_eq_zero (by simpa using h1)
   subst this;rfl
 subst e
 have hrun:(execOp a.eval o).run P w=.ok (.value (.iface t (.agg #[]))) w:=by
  simp [execOp,hop,hxv,Instr.makeInterface,run_underlying hu]
 rw [hrun]
 exact qH hf (.pv _ _ (.base _ rfl))
end
abbrev zao:Value:=.iface 110 (.agg #[])
theorem zmB {b:Bool} (h:b=false):ACallPanM Tryz.prog 95 [.pv (pb b)] [] zao []:=by
 subst h
 refine ZN Tryz.func95 rfl (by kernel_rfl) Tryz.ntmps95 (by simp) (fun gB hw1=>?_)
 repeat' (first|refine YW 1 2 rfl rfl rfl ?_|refine zq rfl (zaF zh rfl ⟨_,rfl⟩ rfl rfl rfl rfl rfl rfl) rfl rfl ?_|refine zq rfl (zlb rfl Tryz.underlying110 rfl) rfl rfl ?_|refine zmo rfl rfl rfl ?_|refine sK ?_|refine sC (fun _=>?_) (fun _=>?_)|fail)
 exact ⟨rfl,tH⟩
section
variable {P:Program} {n:Nat} {g:Base} {H:HEnv} {env:Env} {ops:List Oper} {l:List Oper} {Q:Env→HEnv→Prop}
theorem QI (t j:Nat) {u:Value} {av:AV} (hg:env.get t=some (.pv (.base u))) (hj:H.get j=some (.pin av u)) (k:AO P n g ops.toArray l ((t,av)::env) H Q):AO P n g ops.toArray l env H Q:=by
 refine ⟨fun a w hinv=>?_⟩
 obtain ⟨g1,g2,K,ρ,hf,he⟩:=hinv
 refine k.go a w ⟨g1,g2,K,ρ,hf,fun t' av' h'=>?_⟩
 rw [Env.get_cons] at h'
 split at h'
 ·rename_i e
  subst e
  simp only [Option.some.injEq] at h'
  subst h'
  obtain ⟨v,v1,v2⟩:=he _ _ hg
  cases v2 with
  | pv _ _ hp =>
   cases hp
   exact ⟨u,v1,hf.heap.ok j _ hj⟩
 ·exact he t' av' h'
end
theorem zju {P:Prop} (h:P:=by repeat (first|exact zk|refine zi rfl ?_)):P:=h
section
variable (g:Img) (lim:Int) (shp o1 o2:List PV) (fa hp fr us:Int) (ws tg:List PV) (X8 X13:Obj→Prop) (k at_ base:Int) (u:Value)
theorem znY (vs:Nat→Value):ACallPanM Tryz.prog 190 [.box 10 0] (mH g lim shp o1 o2 fa hp fr us ws tg X8 X13 k at_ base (.pv zC) u++zD vs yX) zao (mH g lim shp o1 o2 fa hp fr us ws tg X8 X13 k at_ base (.pv zC) u++zD vs yX):=by
 refine ZN Tryz.func190 rfl (by kernel_rfl) Tryz.ntmps190 (by simp) (fun gB hw1=>?_)
 repeat' (first|refine zq (r:=.pv (.base u)) rfl (yx (args:=fun ρ=>[.ptr (Ym g lim shp tg [.base u] (yR o1 o2 fa hp fr us ws (ρ 8)) (ρ 13) 0 zC) 0]) rfl (fun _=>rfl) (fun ρ=>zW g lim shp tg u (yR o1 o2 fa hp fr us ws (ρ 8)) (ρ 13) 0 zC)) rfl rfl ?_|refine AD.step _ _ _ (.pv (.base u)) _ rfl (yx (args:=fun ρ=>[.ptr (Ym g lim shp tg [.base u] (yR o1 o2 fa hp fr us ws (ρ 8)) (ρ 13) 0 zC) 0]) rfl (fun _=>rfl) (fun ρ=>zW g lim shp tg u (yR o1 o2 fa hp fr us ws (ρ 8)) (ρ 13) 0 zC)) rfl rfl ?_|refine Yf 3 120 rfl rfl ?_|refine YW 3 2 rfl rfl rfl ?_|refine zaH [] [] _ [] yc rfl rfl rfl (fun _ _ h=>h) rfl (fun _=>zmB rfl) ?_|refine sK ?_|refine sC (fun _=>?_) (fun _=>?_)|fail)
 exact ⟨rfl,tH⟩
theorem zny (vs:Nat→Value):ACallPanM Tryz.prog 187 [.box 10 0,.pv (pb false)] (mH g lim shp o1 o2 fa hp fr us ws tg X8 X13 k at_ base (.pv zC) u++zD vs yX) zao (mH g lim shp o1 o2 fa hp fr us ws tg X8 X13 k at_ base (.pv zC) u++zD vs yX):=by
 refine ZN Tryz.func187 rfl (by kernel_rfl) Tryz.ntmps187 (by simp) (fun gB hw1=>?_)
 repeat' (first|refine YW 1 1 rfl rfl rfl ?_|refine zaH (mH g lim shp o1 o2 fa hp fr us ws tg X8 X13 k at_ base (.pv zC) u) (mH g lim shp o1 o2 fa hp fr us ws tg X8 X13 k at_ base (.pv zC) u) (zD vs yX) yX yc rfl rfl rfl zju rfl (znY g lim shp o1 o2 fa hp fr us ws tg X8 X13 k at_ base u) ?_|refine sK ?_|refine sC (fun _=>?_) (fun _=>?_)|fail)
 exact ⟨rfl,tH⟩
theorem zmg (vs:Nat→Value):ACallPanM Tryz.prog 97 [.box 10 0,.pv (pi 13)] (mH g lim shp o1 o2 fa hp fr us ws tg X8 X13 k at_ base (.pv zC) u++zD vs yX) zao (mH g lim shp o1 o2 fa hp fr us ws tg X8 X13 k at_ base (.pv zC) u++zD vs yX):=by
 refine ZN Tryz.func97 rfl (by kernel_rfl) Tryz.ntmps97 (by simp) (fun gB hw1=>?_)
 repeat' (first|refine YW 2 1 rfl rfl rfl ?_|refine zaH (mH g lim shp o1 o2 fa hp fr us ws tg X8 X13 k at_ base (.pv zC) u) (mH g lim shp o1 o2 fa hp fr us ws tg X8 X13 k at_ base (.pv zC) u) (zD vs yX) yX yc rfl rfl rfl zju rfl (zny g lim shp o1 o2 fa hp fr us ws tg X8 X13 k at_ base u) ?_|(refine shC ?_;first|refine qC (VN 3) ?_)|refine sK ?_|refine sC (fun _=>?_) (fun _=>?_)|fail)
 exact ⟨rfl,tH⟩
theorem zoQ (arg:Int) (t0:Ty) (vs:Nat→Value):ACallPanM Tryz.prog 47 [.box 10 0,.pv (yT ⟨13,arg,t0⟩)] (mH g lim shp o1 o2 fa hp fr us ws tg X8 X13 k at_ base (.pv zC) u++zD vs [10]) zao (mH g lim shp o1 o2 fa hp fr us ws tg X8 X13 k at_ base (.pv zC) u++zD vs [10]):=by
 refine ZN Tryz.func47 rfl (by kernel_rfl) Tryz.ntmps47 (by simp) (fun gB hw1=>?_)
 repeat' (first|refine zq (r:=.pv (.base u)) rfl (yx (args:=fun ρ=>[.ptr (Ym g lim shp tg [.base u] (yR o1 o2 fa hp fr us ws (ρ 8)) (ρ 13) 0 zC) 0]) rfl (fun _=>rfl) (fun ρ=>zW g lim shp tg u (yR o1 o2 fa hp fr us ws (ρ 8)) (ρ 13) 0 zC)) rfl rfl ?_|refine AD.step _ _ _ (.pv (.base u)) _ rfl (yx (args:=fun ρ=>[.ptr (Ym g lim shp tg [.base u] (yR o1 o2 fa hp fr us ws (ρ 8)) (ρ 13) 0 zC) 0]) rfl (fun _=>rfl) (fun ρ=>zW g lim shp tg u (yR o1 o2 fa hp fr us ws (ρ 8)) (ρ 13) 0 zC)) rfl rfl ?_|refine QI 8 120 rfl rfl ?_|refine YW 7 2 rfl rfl rfl ?_|refine zaH (mH g lim shp o1 o2 fa hp fr us ws tg X8 X13 k at_ base (.pv zC) u) (mH g lim shp o1 o2 fa hp fr us ws tg X8 X13 k at_ base (.pv zC) u) (zD vs [10]) yX yc rfl rfl rfl zju rfl (zmg g lim shp o1 o2 fa hp fr us ws tg X8 X13 k at_ base u) ?_|(refine shC ?_;first|refine qC (QF rfl) ?_)|refine sK ?_|refine sC (fun _=>?_) (fun _=>?_)|fail)
 exact ⟨rfl,tH⟩
end
set_option maxHeartbeats 20000000
abbrev zaQ (k:Int) (w:PV):PV:=.agg [pi k,pi 0,pi 0,pi 0,pb false,w]
abbrev zns:PV:=.agg [.slc 4 [] false,.slc 1 [] false,.slc 1 [] false,.slc 1 [] false,pi 0,pi 0,pi 0,pi 0,pb false,.slc 1 [] false]
section
variable {P:Program} {tb:Tab} {n:Nat} {g:Base} {H:HEnv} {env:Env} {o:Oper}
theorem zfp (htb:zX P tb) {t e t':TypeId} {x y:Operand} (hop:o.op=.binOp .eql t x y t') (hk:tb.k t=.sl e) (hx:env.pv H x=some (.base (.slice none 0 0))) (hy:env.pv H y=some (.base (.slice none 0 0))):QStep P g H o env (.pv (.base (.bool true))):=by
 refine ⟨fun K ρ a w hf hv=>?_⟩
 have hxr:=zZ (a:=a) hf (x:=x) (hv x (by rw [hop];simp [Op.operands])) hx
 have hyr:=zZ (a:=a) hf (x:=y) (hv y (by rw [hop];simp [Op.operands])) hy
 generalize hxv:a.eval x=xv at hxr
 generalize hyv:a.eval y=yv at hyr
 cases hxr
 cases hyr
 have h1:(binOp .eql t (.slice none 0 0) (.slice none 0 0)).run P w=.ok (.bool true) w:=Lib.run_eql_slice_nil w t e _ _ _ _ _ (yD htb hk)
 have hrun:(execOp a.eval o).run P w=.ok (.value (.bool true)) w:=by simp [execOp,hop,hxv,hyv,eqGuard,h1]
 rw [hrun]
 exact qH hf (.pv _ _ (.base _ rfl))
end
abbrev zaz:PV:=.base (.slice none 0 0)
theorem zfy:ACall Tryz.prog 53 [zaz] zaz:=by
 refine zf zh Tryz.func53 rfl (by kernel_rfl) Tryz.ntmps53 (by simp) _ rfl (fun hw gB hgB=>?_)
 repeat' (first|refine zq rfl (zfp zh rfl rfl rfl rfl) rfl rfl ?_|refine sK ?_|refine sC (fun _=>?_) (fun _=>?_)|fail)
 exact retq rfl rfl
theorem zk1:ACall Tryz.prog 52 [zaz] zaz:=by
 refine zf zh Tryz.func52 rfl (by kernel_rfl) Tryz.ntmps52 (by simp) _ rfl (fun hw gB hgB=>?_)
 repeat' (first|refine zq rfl (zfp zh rfl rfl rfl rfl) rfl rfl ?_|refine sK ?_|refine sC (fun _=>?_) (fun _=>?_)|fail)
 exact retq rfl rfl
theorem zjY (l:List Int) (hl:l.length≤1000):ACall Tryz.prog 52 [.slc 1 (l.map u64) false] (.slc 1 (l.map u64) false):=by
 refine zf zh Tryz.func52 rfl (by kernel_rfl) Tryz.ntmps52 (by simp) _ rfl (fun hw gB hgB=>?_)
 repeat' (first|refine Yw zh rfl rfl rfl rfl rfl rfl rfl (fun bb hbb=>?_)|refine zq rfl (QT zh rfl rfl rfl rfl rfl) rfl rfl ?_|(refine zI ?_;first|refine zq rfl (YA zh rfl rfl (.inl rfl) rfl rfl (by show _ * 8≤_;simp;omega) (by simp;omega)) rfl rfl ?_)|refine sA ?_|refine sC (fun _=>?_) (fun _=>?_)|fail)
 ·rename_i h
  have:l=[]:=by have:=hbb h;simpa using this
  subst this
  exact Zz (t:=2) (ps:=[.slc 1 [] false]) rfl (qo 1 false) rfl rfl
 ·exact retq rfl rfl
theorem Qq (k:Int) (l:List Int) (hl:l.length≤1000):ACall Tryz.prog 15 [zaQ k (.slc 1 (l.map u64) false),zaQ k (.slc 1 (l.map u64) false)] (pb true):=by
 have c1:=zas l l false false (by omega) (by omega)
 rw [decide_eq_true rfl] at c1
 have hk:(k==k)=true:=by simp
 refine zf zh Tryz.func15 rfl (by kernel_rfl) Tryz.ntmps15 (by simp) _ rfl (fun hw gB hgB=>?_)
 repeat' (first|(refine shC ?_;first|refine qC c1 ?_)|refine sK ?_|refine sC (fun _=>?_) (fun _=>?_)|fail)
 exact retq rfl rfl
theorem zjf:ACall Tryz.prog 54 [.slc 1 [] false,.slc 1 [] false] (pb true):=by
 refine zf zh Tryz.func54 rfl (by kernel_rfl) Tryz.ntmps54 (by simp) _ rfl (fun hw gB hgB=>?_)
 repeat' (first|refine sK ?_|refine sC (fun _=>?_) (fun _=>?_)|fail)
 refine zA (fun _:Nat=>[(0,.pv (.slc 1 [] false)),(5,.pv (pi 0))]) (fun _=>[]) (fun _=>True) (fun _=>0) 0 trivial (tS) tH ?_
 rintro k -
 repeat' (first|refine sK ?_|refine sC (fun _=>?_) (fun _=>?_)|fail)
 exact retq rfl rfl
theorem zhj:ACall Tryz.prog 18 [zns,zns] (pb true):=by
 have c1:=Qq 0 [] (by decide)
 have c2:=zas [] [] false false (by decide) (by decide)
 rw [decide_eq_true rfl] at c2
 refine zf zh Tryz.func18 rfl (by kernel_rfl) Tryz.ntmps18 (by simp) _ rfl (fun hw gB hgB=>?_)
 repeat' (first|refine Xy 1 ?_|refine zdi ?_|(refine shC ?_;first|refine qC c1 ?_|refine qC c2 ?_|refine qC zjf ?_)|refine sK ?_|refine sC (fun _=>?_) (fun _=>?_)|fail)
 exact retq rfl rfl
abbrev zot:PV:=.agg [zaz,zaz,zaz,zaz,pi 0,pi 0,pi 0,pi 0,pb false,zaz]
theorem zgx:ACall Tryz.prog 12 [zkk] (pb false):=by
 refine zmK zh Tryz.func12 rfl (by kernel_rfl) Tryz.ntmps12 (by simp) _ rfl (fun hw=>?_)
 refine ZJ fun gB=>?_
 repeat' (first|refine zq rfl (yK (b:=true) rfl Tryz.underlying40 rfl rfl) rfl rfl ?_|refine AD.step _ _ _ _ _ rfl (yK (b:=true) rfl Tryz.underlying40 rfl rfl) rfl rfl ?_|refine sK ?_|refine sC (fun _=>?_) (fun _=>?_)|fail)
 exact retq rfl rfl
theorem zoj (n:Int):ACall Tryz.prog 13 [zkk,pi n] (pi 0):=by
 have c1:=zgx
 refine zf zh Tryz.func13 rfl (by kernel_rfl) Tryz.ntmps13 (by simp) _ rfl (fun hw gB hgB=>?_)
 repeat' (first|refine sK ?_|refine sC (fun _=>?_) (fun _=>?_)|fail)
 refine zA (fun _:Nat=>[(0,.pv zkk),(1,.pv (pi n)),(5,.pv (pi 0))]) (fun _=>[]) (fun _=>True) (fun _=>0) 0 trivial (tS) tH ?_
 rintro k -
 by_cases h:0 < n
 ·have hd:decide (0 < n)=true:=decide_eq_true h
  repeat' (first|(refine shC ?_;first|refine qC c1 ?_)|refine sK ?_|refine sC (fun _=>?_) (fun _=>?_)|fail)
  exact retq rfl rfl
 ·have hd:decide (0 < n)=false:=decide_eq_false h
  repeat' (first|(refine shC ?_;first|refine qC c1 ?_)|refine sK ?_|refine sC (fun _=>?_) (fun _=>?_)|fail)
  exact retq rfl rfl
theorem zg9:ACall Tryz.prog 16 [zkk] (zaQ 0 zaz):=by
 refine zf zh Tryz.func16 rfl (by kernel_rfl) Tryz.ntmps16 (by simp) _ rfl (fun hw gB hgB=>?_)
 repeat' (first|refine zq rfl (yK (b:=true) rfl Tryz.underlying40 rfl rfl) rfl rfl ?_|refine AD.step _ _ _ _ _ rfl (yK (b:=true) rfl Tryz.underlying40 rfl rfl) rfl rfl ?_|refine sK ?_|refine sC (fun _=>?_) (fun _=>?_)|fail)
 exact retq rfl rfl
theorem znH:ACall Tryz.prog 17 [zkk] (.slc 1 [] false):=by
 refine zf zh Tryz.func17 rfl (by kernel_rfl) Tryz.ntmps17 (by simp) _ rfl (fun hw gB hgB=>?_)
 repeat' (first|refine zq rfl (yK (b:=true) rfl Tryz.underlying40 rfl rfl) rfl rfl ?_|refine AD.step _ _ _ _ _ rfl (yK (b:=true) rfl Tryz.underlying40 rfl rfl) rfl rfl ?_|refine sK ?_|refine sC (fun _=>?_) (fun _=>?_)|fail)
 exact Zz (t:=2) (ps:=[.slc 1 [] false]) rfl (qo 1 false) rfl rfl
theorem zkH:ACall Tryz.prog 14 [zkk] (pb false):=by
 refine zf zh Tryz.func14 rfl (by kernel_rfl) Tryz.ntmps14 (by simp) _ rfl (fun hw gB hgB=>?_)
 repeat' (first|refine zq rfl (yK (b:=true) rfl Tryz.underlying40 rfl rfl) rfl rfl ?_|refine AD.step _ _ _ _ _ rfl (yK (b:=true) rfl Tryz.underlying40 rfl rfl) rfl rfl ?_|refine sK ?_|refine sC (fun _=>?_) (fun _=>?_)|fail)
 exact retq rfl rfl
theorem zm8:ACall Tryz.prog 19 [zkk] zot:=by
 refine zf zh Tryz.func19 rfl (by kernel_rfl) Tryz.ntmps19 (by simp) _ rfl (fun hw gB hgB=>?_)
 repeat' (first|refine zq rfl (yK (b:=true) rfl Tryz.underlying40 rfl rfl) rfl rfl ?_|refine AD.step _ _ _ _ _ rfl (yK (b:=true) rfl Tryz.underlying40 rfl rfl) rfl rfl ?_|refine sK ?_|refine sC (fun _=>?_) (fun _=>?_)|fail)
 exact retq rfl rfl
end Go.Cg
