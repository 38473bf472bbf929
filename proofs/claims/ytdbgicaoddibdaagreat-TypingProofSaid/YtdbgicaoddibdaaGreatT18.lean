/- A part of the walks by abstract values: no statement of its own. -/
import Derived.Test.YtdbgicaoddibdaaGreatT15
import Derived.Defers
import Derived.Recover
set_option linter.unusedVariables false
set_option linter.unusedSimpArgs false
namespace Go.Cg
open Go.RowKit
section
variable {P:Program} {tb:Tab} {n:Nat} {g:Base} {K K':KK} {w w':World} {ρ ρ':Nat→Value} {H H':HEnv} {env:Env} {a:Act} {ops:List Oper} {o:Oper} {rest:List Oper} {f:FuncId} {args:List AV} {r:AV} {QQ:QC} {x y c:Code}
def zkT (Hc R:HEnv) (ars:List AV):Bool:=ziE Hc R&&YT Hc ars&&hIn Hc Hc&&hIn (R++[]) R
theorem zj7 {ars:List AV} {vs:List Value} {pv:Value} (Hc R:HEnv) {lone:Bool} (hw1:lone=true→g.w1.heap.size=0) (hsub:HSub H (Hc++R))
  (hchk:zkT Hc R ars=true) (hc:ACallPan P f ars Hc pv lone) (hf:FS g K ρ H w) (hall0:Yx K w ρ H ars vs) :
  Calls P f vs.toArray w fun e w'=>e=.panicked [{ v:=pv,recovered:=false }]∧∃ K' ρ2,FS g K' ρ2 R w'∧Later K K' w w'∧(∀ j,(HEnv.get R j).isSome=true→ρ2 j=ρ j):=by
 simp only [zkT,Bool.and_eq_true] at hchk;obtain ⟨⟨⟨d1,i1⟩,i2⟩,i5⟩:=hchk;obtain ⟨g',e1,hfs,hall,back⟩:=zhZ Hc R [] hsub d1 i1 i2 i5 rfl hf hall0;rw [show Hc++qE ρ []=Hc from List.append_nil _] at hfs hall;refine (hc.calls g' K ρ w _ (by rw [e1];exact hw1) hfs hall).mono fun e w' ⟨he,K',ρ',hf'⟩=>?_
 obtain ⟨ρ2,q1,q2,q3,_⟩:=back K' ρ' w' [] rfl rfl rfl rfl hf';exact ⟨he,K',ρ2,q1,q2,fun j hj=>(q3 j (by rw [show R++Wx []=R from List.append_nil _];exact hj)).2⟩
theorem zbr {xs:Array Operand} {ts:Array TypeId} {ars:List AV} {v:Value} (Hc R:HEnv) {lone:Bool} (hw1:lone=true→g.w1.heap.size=0) (hg:guardE ops env o=some true)
  (hop:o.op=.call { callee:=.value (.func f),args:=xs,argTypes:=ts }) (hargs:avs env xs.toList=some ars) (hsub:HSub H (Hc++R)) (hchk:zkT Hc R ars=true) (hc:ACallPan P f ars Hc v lone)
  (h:QQ (.panic [{ v:=v,recovered:=false }]) (Vb R env) R):AOX P n g ops.toArray (o::rest) env H QQ:=by
 refine ⟨fun a w hinv=>?_⟩;have hw:=yT hinv hg;obtain ⟨h1,h2,K,ρ,hf,he⟩:=hinv;refine wpList_step fun KK hKK=>?_
 rw [if_pos hw];have hrun:(execOp a.eval o).run P w=.ok (.enter f (xs.toList.map a.eval).toArray) w:=by
  have e:(xs.toList.map a.eval).toArray=xs.map a.eval:=by rw [←Array.toList_map,Array.toArray_toList]
  rw [e];simp [execOp,hop,resolve,Act.eval,Deferred.ofValue,invoke,Ze hc.stands]
 unfold Oper.wp;rw [hrun];simp only [Oper.upon];refine (zj7 Hc R hw1 hsub hchk hc hf (VP (a:=a) he hargs)).mono fun e w' ⟨e1,K',ρ2,hf',hlat,hps⟩=>?_
 subst e1;refine ⟨Vb R env,R,⟨h1,h2,K',ρ2,hf',fun t av ht=>?_⟩,.inr ⟨_,rfl⟩,h⟩;rw [Vt] at ht;cases hE:env.get t with
 | none=>simp [hE] at ht
 | some v0 =>
  obtain ⟨u,u1,u2⟩:=he t v0 hE;simp only [hE,Option.map_some,Option.some.injEq] at ht;subst ht;refine ⟨u,u1,?_⟩;split
  ·rename_i hr;exact (u2.refs hr).keeps hlat fun j hj=>⟨hj,hps j hj⟩
  ·exact .any u
structure AWD (P:Program) (n:Nat) (ds0:List Deferred) (c:Code) (env:Env) (H:HEnv) (Q:List Deferred→QC):Prop where
 go:∀ (g:Base),g.ds=ds0→∀ a w,Inv n g env H a w→c.wp P (fun e a' w'=>∃ ds env' H',Inv n { g with ds:=ds } env' H' a' w'∧Q ds e env' H') a w
variable {Q:List Deferred→QC} {ds0:List Deferred}
theorem za3 (h:∀ g,AW P n g c env H (Q ds0)):AWD P n ds0 c env H Q :=
 ⟨fun g hg a w hi=>wp_mono (wpIn_wide.1 ((h g).go a w hi none 0)) fun e a' w' ⟨env',H',h1,h2⟩=>⟨g.ds,env',H',h1,by rw [hg];exact h2⟩⟩
theorem za0 (h:AWD P n ds0 x env H (fun ds=>zwb (fun env' H'=>AWD P n ds y env' H' Q) (Q ds))):AWD P n ds0 (.seq x y) env H Q :=
 ⟨fun g hg a w hi=>wp_seq (wp_mono (h.go g hg a w hi) fun e a' w' ⟨ds,env',H',h1,h2⟩=>by
  cases e <;> first
   | exact h2.go { g with ds:=ds } rfl a' w' h1
   | exact ⟨ds,env',H',h1,h2⟩)⟩
theorem zhz (i j:Nat) {v:AV} (hi:H.get i=some (.cell v)) (hj:H.get j=none) (k:∀ p,AWD P n ds0 c env ((j,.pin (.box i 0) p)::H) Q):AWD P n ds0 c env H Q:=by
 refine ⟨fun g hg a w hinv=>?_⟩;obtain ⟨g1,g2,K,ρ,hf,he⟩:=hinv;obtain ⟨b,t,arr,u,q1,q2,q3,q4,q5,q6⟩:=hf.heap.ok i _ hi;have hkk:∀ p m,(H.get m).isSome=true→(HEnv.get ((j,.pin (.box i 0) p)::H) m).isSome=true∧ρ m=ρ m:=by
  intro p m hm;refine ⟨?_,rfl⟩;rw [HEnv.get_cons];split <;> first|rfl|exact hm
 have hlive:∀ p m hh,HEnv.get ((j,.pin (.box i 0) p)::H) m=some hh→hh.live=true→H.get m=some hh:=by
  intro p m hh hm hl;rw [HEnv.get_cons] at hm;split at hm
  ·simp only [Option.some.injEq] at hm;subst hm;simp [HE.live] at hl
  ·exact hm
 refine (k (.pointer (some ⟨b,0,none⟩))).go g hg a w ⟨g1,g2,K,ρ,⟨hf.below,hf.old,hf.new,hf.lt,hf.others,hf.pt,fun m hh bb hm hl hb=>hf.away m hh bb (hlive _ m hh hm hl) hl hb,fun m hh hm=>?_,fun m m' hh hh' bb hmm hm hm' hl hl'=>hf.heap.apart m m' hh hh' bb hmm (hlive _ m hh hm hl) (hlive _ m' hh' hm' hl') hl hl'⟩,he.keeps (.refl K w) (hkk _)⟩;rw [HEnv.get_cons] at hm;split at hm
 ·simp only [Option.some.injEq] at hm;subst hm;have hold:ARel K w ρ H (.box i 0) (.pointer (some ⟨b,0,none⟩)):=.box i 0 b (by rw [hi];rfl) q1;exact hold.keeps (.refl K w) (hkk _)
 ·exact (hf.heap.ok m hh hm).keeps (.refl hf.lt) hf.lt (hkk _)
theorem zqq {i off:Nat} {u v:Value} (h:ARel K w ρ H (.box i off) u) (h':ARel K w ρ H (.box i off) v):u=v:=by
 cases h with
 | box _ _ b _ hb =>
  cases h' with
  | box _ _ b' _ hb'=>rw [hb] at hb';cases hb';rfl
def Yv (H:HEnv):List AV→List Value→Prop
 | [],[]=>True
 | .box i off::cs,p::ps=>(∃ m,H.get m=some (.pin (.box i off) p))∧Yv H cs ps
 | _,_=>False
theorem zck (hf:FS g K ρ H w):∀ {cs:List AV} {ps vs:List Value},Yv H cs ps→(vs.length=cs.length∧∀ (k:Nat) (c:AV) (v:Value),cs[k]?=some c→vs[k]?=some v→ARel K w ρ H c v)→vs=ps
 | [],[],vs,_,h=>List.eq_nil_of_length_eq_zero (by simpa using h.1)
 | [],_::_,_,h,_=>h.elim
 | .box i off::cs,[],_,h,_=>h.elim
 | .box i off::cs,p::ps,vs,h,hv=>by
  obtain ⟨⟨m,hm⟩,h2⟩:=h;cases vs with
  | nil=>simp at hv
  | cons v vs =>
   have h1:=hv.2 0 _ v rfl rfl;have h3:ARel K w ρ H (.box i off) p:=hf.heap.ok m _ hm;have e1:=zqq h1 h3;have e2:=zck (vs:=vs) hf h2 ⟨by simpa using hv.1,fun k c u hc hu=>hv.2 (k + 1) c u zwy117 (by simpa using hu)⟩;rw [e1,e2]
 | .pv _::_,_,_,h,_=>h.elim
 | .own _::_,_,_,h,_=>h.elim
 | .ad _ _::_,_,_,h,_=>h.elim
 | .agg _::_,_,_,h,_=>h.elim
 | .fn _ _ _::_,_,_,h,_=>h.elim
 | .any::_,_,_,h,_=>h.elim
 | .any1::_,_,_,h,_=>h.elim
theorem Qs (hf:FS g K ρ H w):∀ {cs:List AV} {ps:List Value},Yv H cs ps→Yx K w ρ H cs ps
 | [],[],_=>⟨rfl,fun k c v h=>by simp at h⟩
 | [],_::_,h=>h.elim
 | .box i off::cs,[],h=>h.elim
 | .box i off::cs,p::ps,h=>by
  obtain ⟨⟨m,hm⟩,h2⟩:=h;obtain ⟨q1,q2⟩:=Qs hf h2;refine ⟨by simp [q1],fun k c v hc hv=>?_⟩;cases k with
  | zero=>simp at hc hv;subst hc hv;exact hf.heap.ok m _ hm
  | succ k=>simp at hc hv;exact q2 k c v hc hv
 | .pv _::_,_,h=>h.elim
 | .own _::_,_,h=>h.elim
 | .ad _ _::_,_,h=>h.elim
 | .agg _::_,_,h=>h.elim
 | .fn _ _ _::_,_,h=>h.elim
 | .any::_,_,h=>h.elim
 | .any1::_,_,h=>h.elim
structure DCall (P:Program) (f:FuncId) (H:HEnv) (args:List AV) (u u':FrameMode) (H':HEnv):Prop where
 stands:Vy P f
 calls:∀ (g:Base) (K:KK) (ρ:Nat→Value) (w:World) (vs:List Value),FS g K ρ H w→Yx K w ρ H args vs →
  CallsD P f vs.toArray u w fun e m w'=>(∃ v,e=.returned v)∧m=u'∧∃ K' ρ',FS g K' ρ' H' w'
def Wi:Exit→Option FrameMode
 | .normal=>some .returning
 | .ret=>some .returning
 | .panic ch=>some (.panicking ch)
 | _=>none
def ZM:List Nat→List AV→Env
 | t::ts,c::cs=>(t,c)::ZM ts cs
 | _,_=>[]
def DQ (P:Program) (tb:Tab) (rs:List ResultVar) (r:PV) (ex:Exit) (env:Env) (H:HEnv):List Deferred→Prop
 | []=>zrl tb rs r ex env H
 | [d]=>∃ (mode u':FrameMode) (f:FuncId) (slots:List Nat) (caps:List AV) (ps:List Value) (Hn H':HEnv) (rp:List PV),Wi ex=some mode∧d={ target:=.fn (.func f) ps.toArray,args:=#[] }∧Yj H Hn (ZM slots caps)∧Yv Hn caps ps∧Yv H' caps ps ∧
   DCall P f Hn caps mode u' H'∧settle u'=.returning∧slots.length=caps.length∧slots.Nodup∧Sub env (ZM slots caps)∧VN tb H' (ZM slots caps) rs=some rp∧zC rp=r
 | _=>False
theorem zgb {id k t:Nat} {l1:List Oper} {oD:Oper} {ts:Array TypeId} (h1:ops.take k=l1) (h2:ops.drop k=[oD]) (hop:oD.op=.defer { callee:=.value (.tmp t),args:=#[],argTypes:=ts }) (hg:oD.guard=none) (hd:oD.dst=none)
  (h:∀ g,AO P n g ops.toArray l1 env H (fun env' H'=>∃ f caps ps,env'.get t=some (.fn (.func f) [] caps)∧Yv H' caps ps∧Q ({ target:=.fn (.func f) ps.toArray,args:=#[] }::ds0) .normal env' H')) :
  AWD P n ds0 (.region id ops.toArray false) env H Q:=by
 refine ⟨fun g hgd a w hi=>wp_region_lit ?_⟩;rw [←List.take_append_drop k ops,h1,h2];have e0:(l1++[oD]).toArray=ops.toArray:=by rw [←h1,←h2,List.take_append_drop]
 rw [e0];refine WM (ZL (fun e a' w' hh=>?_) ((h g).go a w hi));obtain ⟨env',H',hi',he,f,caps,ps,hget,hpin,hQ⟩:=hh;refine ⟨he,?_⟩;unfold wpList;have hw:Region.wanted oD (yielded ops.toArray a'.tmps)=true:=by simp [Region.wanted,hg]
 rw [if_pos hw];refine .inl ?_;obtain ⟨g1,g2,K,ρ,hf,hE⟩:=hi';obtain ⟨v,v1,v2⟩:=hE t _ hget;cases v2 with
 | fn _ _ _ vf vc a1 a2 a3 a4 =>
  have hvc:=zck hf hpin ⟨a2,a4⟩;have hvf:vf=[]:=List.eq_nil_of_length_eq_zero (by simpa using a1);subst hvc hvf;have hev:a'.eval (.tmp t)=.func (.func f) #[] vc.toArray:=by
   simp [Act.eval,Array.getD_eq_getD_getElem?,v1]
  unfold Oper.wp;have hrun:(execOp a'.eval oD).run P w'=.ok (.defer { target:=.fn (.func f) vc.toArray,args:=#[] }) w':=by
   simp [execOp,hop,resolve,hev,Deferred.ofValue]
  rw [hrun];simp only [Oper.upon,hd,Act.put];unfold wpList;exact ⟨({ target:=.fn (.func f) vc.toArray,args:=#[] }:Deferred)::ds0,env',H',⟨g1,by simp [g2,hgd],K,ρ,⟨hf.below,hf.old,hf.new,hf.lt,hf.others,⟨hf.pt.same,hf.pt.kept⟩,hf.away,hf.heap⟩,hE⟩,hQ⟩
theorem zfP (hf:FS g K ρ H w):∀ {slots:List Nat} {caps:List AV} {ps:List Value} {tmps:Array Value},Yv H caps ps→EnvR K w ρ H (ZM slots caps) tmps→slots.length=caps.length→slots.Nodup→∀ (k t:Nat) (p:Value),slots[k]?=some t→ps[k]?=some p→tmps[t]?=some p
 | [],caps,ps,tmps,_,_,_,_=>fun k t p h=>by simp at h
 | s::slots,[],ps,tmps,_,_,hl,_=>by simp at hl
 | s::slots,c::caps,[],tmps,hp,_,_,_=>by cases c <;> exact hp.elim
 | s::slots,c::caps,q::ps,tmps,hp,hE,hl,hnd=>by
  rw [List.nodup_cons] at hnd;intro k t p hk hpk;have hc:∃ i off,c=.box i off:=by cases c <;> first|exact ⟨_,_,rfl⟩|exact hp.elim
  obtain ⟨i,off,rfl⟩:=hc;obtain ⟨⟨m,hm⟩,hp2⟩:=hp;cases k with
  | zero =>
   simp at hk hpk;subst hk hpk;obtain ⟨v,v1,v2⟩:=hE s (.box i off) (by simp [ZM,Env.get_cons]);rw [v1,zqq v2 (hf.heap.ok m _ hm)]
  | succ k =>
   simp at hk hpk;refine zfP (slots:=slots) (caps:=caps) (ps:=ps) hf hp2 (fun t' av hg=>?_) zwy79 hnd.2 k t p hk hpk;have hne:s≠t':=by
    rintro rfl;have key:∀ {slots:List Nat} {caps:List AV} {av:AV},(ZM slots caps).get s=some av→s∈slots:=by
     intro slots;induction slots with
     | nil=>intro caps av h;simp [ZM,Env.get_nil] at h
     | cons x xs ih =>
      intro caps av h;cases caps with
      | nil=>simp [ZM,Env.get_nil] at h
      | cons y ys =>
       rw [ZM,Env.get_cons] at h;split at h
       ·rename_i e;simp [e]
       ·exact List.mem_cons_of_mem _ (ih h)
    exact hnd.1 (key hg)
   exact hE t' av (by rw [ZM,Env.get_cons,if_neg hne];exact hg)
theorem zf1:∀ {slots:List Nat} {caps:List AV} {ps:List Value} {tmps:Array Value},Yx K w ρ H caps ps→slots.length=caps.length→(∀ (k t:Nat) (p:Value),slots[k]?=some t→ps[k]?=some p→tmps[t]?=some p)→EnvR K w ρ H (ZM slots caps) tmps
 | [],caps,ps,tmps,_,_,_=>fun t av h=>by simp [ZM,Env.get_nil] at h
 | s::slots,[],ps,tmps,_,hl,_=>by simp at hl
 | s::slots,c::caps,ps,tmps,hr,hl,hk=>fun t av h=>by
  cases ps with
  | nil=>have:=hr.1;simp at this
  | cons p ps =>
   rw [ZM,Env.get_cons] at h;split at h
   ·rename_i e;subst e;simp only [Option.some.injEq] at h;subst h;exact ⟨p,hk 0 s p rfl rfl,hr.2 0 c p rfl rfl⟩
   ·exact zf1 (slots:=slots) (caps:=caps) (ps:=ps) ⟨by simpa using hr.1,fun k c u hc hu=>hr.2 (k + 1) c u zwy117 (by simpa using hu)⟩ zwy79 (fun k t p h1 h2=>hk (k + 1) t p zwy99 (by simpa using h2)) t av h
theorem zkJ (htb:yR P tb) {args:List PV} {r:PV} {fn:Func} {c:Code} (hf:P.funcs[f]?=some fn) (hb:fn.body=some c) (hn:(fn.name == "runtime.NumGoroutine")=false) (hnt:fn.ntmps=n) (hargs:args.length≤n)
  (rs:List ResultVar) (hrs:fn.results.toList=rs) (h:lensOk args→AWD P n [] c (zeW 0 args) [] (fun ds ex env H=>DQ P tb rs r ex env H ds)):ACall P f args r:=by
 refine ⟨⟨fn,hf,by simp [hb],hn⟩,fun K w vs hl hv=>?_⟩;refine calls_of_wp_defers hf hb ?_;have hlen:vs.length=args.length:=hv.1;refine wp_mono ((h hv.lensOk).go (Base.of w K (bare w) []) rfl _ w ⟨by simp [hnt];omega,rfl,K,fun _=>undef,⟨.refl _ _,fun _ _ h=>h,fun _ _ h=>.inl h,hl,YX _ _,.base,.none _ _,⟨by simp [HEnv.get_nil,HEnv.get_cons],by simp [HEnv.get_nil,HEnv.get_cons]⟩⟩,?_⟩) ?_
 ·intro t av hg;obtain ⟨_,p,hp,rfl⟩:=zaf args 0 t av hg;have hlt:t < vs.length:=by rw [hlen];exact (List.getElem?_eq_some_iff.1 hp).1
  refine ⟨vs[t],?_,.pv _ _ (hv.2 t p _ hp (List.getElem?_eq_getElem hlt))⟩;rw [Array.getElem?_append_left zwy83];simp [hlt]
 ·rintro e a' w' ⟨ds,env1,H',hi,hq⟩;have fin:∀ (ds:List Deferred) {K':KK} {ρ':Nat→Value} {H2:HEnv} {env2:Env} {w2:World} {rp:List PV},FS { Base.of w K (bare w) [] with ds:=ds } K' ρ' H2 w2→EnvR K' w2 ρ' H2 env2 a'.tmps→VN tb H2 env2 rs=some rp →
    ∃ v,(results fn a'.tmps).run P w2=.ok v w2∧(∃ K'',Evo K K'' w w2∧PRel K'' w2 (zC rp) v):=by
   intro ds K' ρ' H2 env2 w2 rp hf' he' hps;obtain ⟨us,hrun,hru⟩:=zae htb hf' he' hps;have hev:Evo K K' w w2:=⟨hf'.below,hf'.old,hf'.new,hf'.lt⟩
   have hres:(results fn a'.tmps).run P w2=.ok (if hh:us.toArray.size=1 then us.toArray[0] else .tuple us.toArray) w2:=by
    unfold results;rw [Array.mapM_eq_mapM_toList,hrs];simp only [Sem.run_bind,Sem.run_map]
    erw [hrun]
    rfl
   refine ⟨_,hres,K',hev,?_⟩;split
   ·rename_i hh;have hl1:=hru.1;have hu:us.length=1:=by simpa using hh
    obtain ⟨u,rfl⟩:=List.length_eq_one_iff.1 hu;obtain ⟨p,rfl⟩:=List.length_eq_one_iff.1 (show rp.length=1 by omega);exact hru.2 0 p u zwy63 zwy63
   ·rename_i hh;simp at hh;have:zC rp=.tup rp:=by
     unfold zC;split
     ·rename_i p;exact absurd zwy102 hh
     ·rfl
    rw [this];exact .tup rp us hru.1 hru.2
  match ds,hi,hq with
  | [],hi,hq =>
   obtain ⟨i1,i2,K',ρ',hf',he0⟩:=hi;obtain ⟨he,env',hent,ps,hps,rfl⟩:=hq;have he':EnvR K' w' ρ' H' env' a'.tmps:=fun t av ht=>by
    obtain ⟨av0,q1,q2⟩:=hent t av ht;obtain ⟨v,v1,v2⟩:=he0 t av0 q1;exact ⟨v,v1,q2 _ _ _ _ _ v2⟩
   obtain ⟨v,hres,K'',hev,hval⟩:=fin _ hf' he' hps;have i2':a'.defers=[]:=i2;rcases he with rfl|rfl <;> (simp only [bodyPostD,i2'];exact ⟨v,hres,v,K'',rfl,hev,hval⟩)
  | [d],hi,hq =>
   obtain ⟨mode,u',f2,slots,caps,ps,Hn,H2,rp,hm,rfl,hfit,hb1,hb2,hD,hset,hsl,hnd,hsub,hrp,rfl⟩:=hq;obtain ⟨i1,i2,K',ρ',hf',hE⟩:=(hi.sub hsub).hsub hfit;have i2':a'.defers=[{ target:=.fn (.func f2) ps.toArray,args:=#[] }]:=i2;have hslots:=zfP hf' hb1 hE hsl hnd;have key:mode≠.run→Leaves P fn a'.tmps (fun e w'=>∃ v K',e=.returned v∧Evo K K' w w'∧PRel K' w' (zC rp) v) [{ target:=.fn (.func f2) ps.toArray,args:=#[] }] mode w':=by
    intro hmr;refine leaves_cons hmr (f:=f2) (args:=ps.toArray) (by simp [invoke,Ze hD.stands]) ?_;refine (hD.calls _ K' ρ' w' ps hf' (Qs hf' hb1)).mono ?_;rintro e m w2 ⟨⟨v0,rfl⟩,rfl,K2,ρ2,hf2⟩;obtain ⟨v,hres,K'',hev,hval⟩:=fin _ hf2 (zf1 (Qs hf2 hb2) hsl hslots) hrp;simp only [hset];exact ⟨v,hres,v,K'',rfl,hev,hval⟩
   cases e with
   | normal=>simp only [Wi,Option.some.injEq] at hm;subst hm;simp only [bodyPostD,i2'];exact key zwy63
   | ret=>simp only [Wi,Option.some.injEq] at hm;subst hm;simp only [bodyPostD,i2'];exact key zwy63
   | panic ch=>simp only [Wi,Option.some.injEq] at hm;subst hm;simp only [bodyPostD,i2'];exact key zwy63
   | exit id=>simp [Wi] at hm
   | goto l=>simp [Wi] at hm
   | outgrown=>simp [Wi] at hm
  | _::_::_,_,hq=>exact hq.elim
theorem XQ {caps:List AV} {u u':FrameMode} {fn:Func} {c:Code} (hf:P.funcs[f]?=some fn) (hb:fn.body=some c) (hn:(fn.name == "runtime.NumGoroutine")=false) (hrs:fn.results=#[])
  (h:∀ (g:Base) (K:KK) (ρ:Nat→Value) (w:World) (vs:List Value),g.ds=[]→FS g K ρ H w→Yx K w ρ H caps vs→∀ (c₀:Frame) (cs:List Frame),c₀.mode=u →
   c.wpS P (fun ex a' cs' w'=>(ex=.normal∨ex=.ret)∧a'.defers=[]∧cs'={ c₀ with mode:=u' }::cs∧∃ K' ρ',FS g K' ρ' H' w') { tmps:=vs.toArray++Array.replicate (fn.ntmps - vs.length) undef,defers:=[] } (c₀::cs) w):DCall P f H caps u u' H':=by
 refine ⟨⟨fn,hf,by simp [hb],hn⟩,fun g0 K ρ w vs hfs0 hv=>?_⟩;obtain ⟨g,hg0⟩:∃ g:Base,g=⟨g0.w0,g0.K0,g0.w1,[],g0.wp,g0.pr⟩:=⟨_,rfl⟩
 have hfs:FS g K ρ H w:=by subst hg0;exact ⟨hfs0.below,hfs0.old,hfs0.new,hfs0.lt,hfs0.others,⟨hfs0.pt.same,hfs0.pt.kept⟩,hfs0.away,hfs0.heap⟩
 refine callsD_of_wpS hf hb fun c₀ cs hu=>?_
 have hh:=h g K ρ w vs (by subst hg0;rfl) hfs hv c₀ cs hu;intro b k hb1 hb2;obtain ⟨e,a',cs',w',hq,harr⟩:=hh b k hb1 hb2;refine ⟨e,a',cs',w',?_,by simpa using harr⟩;obtain ⟨he,hd,hcs,K',ρ',hf'⟩:=hq;have hf2:FS g0 K' ρ' H' w':=by subst hg0;exact ⟨hf'.below,hf'.old,hf'.new,hf'.lt,hf'.others,⟨hf'.pt.same,hf'.pt.kept⟩,hf'.away,hf'.heap⟩
 have hres:(results fn a'.tmps).run P w'=.ok (.tuple #[]) w':=by simp [results,hrs]
 rcases he with rfl|rfl <;> exact ⟨hd,u',hcs,_,hres,⟨_,rfl⟩,rfl,K',ρ',hf2⟩
theorem zfW {QS:Exit→Act→List Frame→World→Prop} {cs:List Frame} (h:AW P n g c env H QQ) (hi:Inv n g env H a w) (hq:∀ e a' w' env' H',Inv n g env' H' a' w'→QQ e env' H'→QS e a' cs w'):c.wpS P QS a cs w :=
 wpS_of_wp (wp_mono (wpIn_wide.1 (h.go a w hi none 0)) fun e a' w' ⟨env',H',h1,h2⟩=>hq e a' w' env' H' h1 h2)
theorem zjh (htb:yR P tb) {ty:Nat} {z:Value} (hz:tb.zero ty=some z):(zeroValue ty).run P w=.ok z w:=by
 have hzi:∃ i:TypeInfo,P.info? ty=some i∧i.zero=some z:=by
  unfold Tab.zero at hz;split at hz
  ·rename_i ti hti;obtain ⟨i,e1,_,_,e4,_⟩:=ZJ htb hti;exact ⟨i,e1,by rw [e4];exact hz⟩
  ·cases hz
 obtain ⟨ti,hti,htz⟩:=hzi;simp [zeroValue,typeInfo,hti,htz]
theorem zkZ {i:Nat} {v v':AV} (hi:H.get i=some (.cell v)) (ht:Tells v v') (h:Inv n g env H a w):Inv n g env ((i,.cell v')::H) a w:=by
 obtain ⟨g1,g2,K,ρ,hf,he⟩:=h;have hsame:∀ j,HEnv.get ((i,HE.cell v)::H) j=H.get j:=fun j=>by
  rw [HEnv.get_cons];split
  ·rename_i e;subst e;exact hi.symm
  ·rfl
 have hk:∀ j,(H.get j).isSome=true→(HEnv.get ((i,HE.cell v)::H) j).isSome=true∧ρ j=ρ j:=fun j hj=>⟨by rw [hsame];exact hj,rfl⟩
 have hf1:FS g K ρ ((i,.cell v)::H) w:=by
  refine ⟨hf.below,hf.old,hf.new,hf.lt,hf.others,hf.pt,fun j x b hj=>hf.away j x b (by rw [←hsame];exact hj),fun j x hj=>?_,fun j j' x x' b hjj hj hj'=>hf.heap.apart j j' x x' b hjj (by rw [←hsame];exact hj) (by rw [←hsame];exact hj')⟩;rw [hsame] at hj;exact (hf.heap.ok j x hj).keeps (.refl hf.lt) hf.lt hk
 have hk2:∀ j,(H.get j).isSome=true→(HEnv.get ((i,HE.cell v')::H) j).isSome=true∧ρ j=ρ j:=fun j hj=>⟨by
  rw [HEnv.get_cons];split <;> first|rfl|exact hj,rfl⟩
 exact ⟨g1,g2,K,ρ,zhD hf1 ht,he.keeps (.refl K w) hk2⟩
theorem zgO (i:Nat) {v v':AV} (hi:H.get i=some (.cell v)) (ht:Tells v v') (k:AW P n g c env ((i,.cell v')::H) QQ):AW P n g c env H QQ:=⟨fun a w hinv=>k.go a w (zkZ hi ht hinv)⟩
theorem zj5 (cs:List PV):Tells (.pv (.agg cs)) (.agg (cs.map .pv)):=fun K w ρ H v h=>by
 cases h with
 | pv _ _ hp =>
  cases hp with
  | agg _ vs h1 h2 h3 =>
   refine .agg _ vs zwy99 h2 fun k c v hc hv=>?_
   rw [List.getElem?_map] at hc;cases hcs:cs[k]? with
   | none=>simp [hcs] at hc
   | some p=>simp [hcs] at hc;subst hc;exact .pv _ _ (h3 k p v hcs hv)
end
def DQM (P:Program) (tb:Tab) (rs:List ResultVar) (r:PV) (H2:HEnv) (ex:Exit) (env:Env) (H:HEnv):List Deferred→Prop
 | []=>zho tb rs (.pv r) H2 ex env H
 | [d]=>∃ (mode u':FrameMode) (f:FuncId) (slots:List Nat) (caps:List AV) (ps:List Value) (Hn H':HEnv) (rp:List PV),Wi ex=some mode∧d={ target:=.fn (.func f) ps.toArray,args:=#[] }∧Yj H Hn (ZM slots caps)∧Yv Hn caps ps∧Yv H' caps ps ∧
   DCall P f Hn caps mode u' H'∧settle u'=.returning∧slots.length=caps.length∧slots.Nodup∧Sub env (ZM slots caps)∧VN tb H' (ZM slots caps) rs=some rp∧zC rp=r∧Yj H' H2 []
 | _=>False
section
variable {P:Program} {tb:Tab} {n:Nat} {H H':HEnv} {f:FuncId} {args:List AV}
theorem zov (htb:yR P tb) {r:PV} {fn:Func} {c:Code} (hf:P.funcs[f]?=some fn) (hb:fn.body=some c) (hn:(fn.name == "runtime.NumGoroutine")=false) (hnt:fn.ntmps=n) (hargs:args.length≤n)
  (rs:List ResultVar) (hrs:fn.results.toList=rs) (h:AWD P n [] c (WJ 0 args) H (fun ds ex env H1=>DQM P tb rs r H' ex env H1 ds)):ACallM P f args H (.pv r) H':=by
 refine ⟨⟨fn,hf,by simp [hb],hn⟩,fun g0 K ρ w vs _ hfs0 hv=>?_⟩;obtain ⟨g,hg0⟩:∃ g:Base,g=⟨g0.w0,g0.K0,g0.w1,[],g0.wp,g0.pr⟩:=⟨_,rfl⟩
 have hfs:FS g K ρ H w:=by subst hg0;exact ⟨hfs0.below,hfs0.old,hfs0.new,hfs0.lt,hfs0.others,⟨hfs0.pt.same,hfs0.pt.kept⟩,hfs0.away,hfs0.heap⟩
 refine calls_of_wp_defers hf hb ?_;have hlen:vs.length=args.length:=hv.1;refine wp_mono (h.go g (by subst hg0;rfl) _ w ⟨by simp [hnt];omega,by subst hg0;rfl,K,ρ,hfs,?_⟩) ?_
 ·intro t av hg;obtain ⟨_,hp⟩:=zaH args 0 t av hg;have hlt:t < vs.length:=by rw [hlen];exact (List.getElem?_eq_some_iff.1 hp).1
  refine ⟨vs[t],?_,hv.2 t av _ hp (List.getElem?_eq_getElem hlt)⟩;rw [Array.getElem?_append_left zwy83];simp [hlt]
 ·rintro e a' w' ⟨ds,env1,H1,hi,hq⟩;have back:∀ {ds:List Deferred} {K':KK} {ρ':Nat→Value} {X:HEnv} {w':World},FS { g with ds:=ds } K' ρ' X w'→FS g0 K' ρ' X w':=fun hf1=>by
   subst hg0;exact ⟨hf1.below,hf1.old,hf1.new,hf1.lt,hf1.others,⟨hf1.pt.same,hf1.pt.kept⟩,hf1.away,hf1.heap⟩
  have fin:∀ (ds:List Deferred) {K':KK} {ρ':Nat→Value} {H2:HEnv} {env2:Env} {w2:World} {rp:List PV},FS { g with ds:=ds } K' ρ' H2 w2→EnvR K' w2 ρ' H2 env2 a'.tmps→VN tb H2 env2 rs=some rp→Yj H2 H' [] →
    ∃ v,(results fn a'.tmps).run P w2=.ok v w2∧∃ K' ρ',FS g0 K' ρ' H' w2∧ARel K' w2 ρ' H' (.pv (zC rp)) v:=by
   intro ds K' ρ' H2 env2 w2 rp hf' he' hps hfit;obtain ⟨us,hrun,hru⟩:=zae htb hf' he' hps;have hres:(results fn a'.tmps).run P w2=.ok (if hh:us.toArray.size=1 then us.toArray[0] else .tuple us.toArray) w2:=by
    unfold results;rw [Array.mapM_eq_mapM_toList,hrs];simp only [Sem.run_bind,Sem.run_map]
    erw [hrun]
    rfl
   refine ⟨_,hres,K',ρ',back (hf'.narrow hfit),.pv _ _ ?_⟩;split
   ·rename_i hh;have hl1:=hru.1;have hu:us.length=1:=by simpa using hh
    obtain ⟨u,rfl⟩:=List.length_eq_one_iff.1 hu;obtain ⟨p,rfl⟩:=List.length_eq_one_iff.1 (show rp.length=1 by omega);exact hru.2 0 p u zwy63 zwy63
   ·rename_i hh;simp at hh;have:zC rp=.tup rp:=by
     unfold zC;split
     ·rename_i p;exact absurd zwy102 hh
     ·rfl
    rw [this];exact .tup rp us hru.1 hru.2
  match ds,hi,hq with
  | [],hi,hq =>
   obtain ⟨i1,i2,K',ρ',hf',he'⟩:=hi;obtain ⟨he,hq⟩:=hq;have i2':a'.defers=[]:=i2;have key:∃ v,(results fn a'.tmps).run P w'=.ok v w'∧∃ K' ρ',FS g0 K' ρ' H' w'∧ARel K' w' ρ' H' (.pv r) v:=by
    rcases hq with ⟨ps,hps,e1,hfit⟩|⟨t,ht,hget,hfit⟩
    ·cases e1;exact fin _ hf' he' hps hfit
    ·obtain ⟨v,hv1,hv2⟩:=he' t _ hget;have hin:=hfit.2;simp only [QD,Bool.and_eq_true] at hin;have hres:(results fn a'.tmps).run P w'=.ok v w':=by
      unfold results;rw [Array.mapM_eq_mapM_toList,hrs,ht];simp [Result.andThen,hv1]
     exact ⟨v,hres,K',ρ',back (hf'.narrow hfit),hv2.refs hin.1.1⟩
   obtain ⟨v,hres,K2,ρ2,hf2,hval⟩:=key;rcases he with rfl|rfl <;> (simp only [bodyPostD,i2'];exact ⟨v,hres,v,K2,ρ2,rfl,hf2,hval⟩)
  | [d],hi,hq =>
   obtain ⟨mode,u',f2,slots,caps,ps,Hn,H2,rp,hm,rfl,hfit,hb1,hb2,hD,hset,hsl,hnd,hsub,hrp,rfl,hft⟩:=hq;obtain ⟨i1,i2,K',ρ',hf',hE⟩:=(hi.sub hsub).hsub hfit;have i2':a'.defers=[{ target:=.fn (.func f2) ps.toArray,args:=#[] }]:=i2;have hslots:=zfP hf' hb1 hE hsl hnd;have key:mode≠.run→Leaves P fn a'.tmps (fun e w'=>∃ v K' ρ',e=.returned v∧FS g0 K' ρ' H' w'∧ARel K' w' ρ' H' (.pv (zC rp)) v) [{ target:=.fn (.func f2) ps.toArray,args:=#[] }] mode w':=by
    intro hmr;refine leaves_cons hmr (f:=f2) (args:=ps.toArray) (by simp [invoke,Ze hD.stands]) ?_;refine (hD.calls _ K' ρ' w' ps hf' (Qs hf' hb1)).mono ?_;rintro e m w2 ⟨⟨v0,rfl⟩,rfl,K2,ρ2,hf2⟩;obtain ⟨v,hres,K3,ρ3,hf3,hval⟩:=fin _ hf2 (zf1 (Qs hf2 hb2) hsl hslots) hrp hft;simp only [hset];exact ⟨v,hres,v,K3,ρ3,rfl,hf3,hval⟩
   cases e with
   | normal=>simp only [Wi,Option.some.injEq] at hm;subst hm;simp only [bodyPostD,i2'];exact key zwy63
   | ret=>simp only [Wi,Option.some.injEq] at hm;subst hm;simp only [bodyPostD,i2'];exact key zwy63
   | panic ch=>simp only [Wi,Option.some.injEq] at hm;subst hm;simp only [bodyPostD,i2'];exact key zwy63
   | exit id=>simp [Wi] at hm
   | goto l=>simp [Wi] at hm
   | outgrown=>simp [Wi] at hm
  | _::_::_,_,hq=>exact hq.elim
end
end Go.Cg
