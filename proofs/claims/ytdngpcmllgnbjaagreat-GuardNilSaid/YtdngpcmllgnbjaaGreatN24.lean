/- A part of the walks by abstract values: no statement of its own. -/
import Derived.Test.YtdngpcmllgnbjaaGreatN10
import Derived.Test.YtdngpcmllgnbjaaGreatN8
import Derived.Test.YtdngpcmllgnbjaaGreatN6
import Derived.Test.YtdngpcmllgnbjaaGreatN12
set_option linter.unusedVariables false
set_option linter.unusedSimpArgs false
namespace Go.Cg
open Go.RowKit
section
variable {P:Program} {tb:Tab} {n:Nat} {g:Base} {H:HEnv} {env:Env} {ops:List Oper} {o:Oper} {rest:List Oper} {Q:Env→HEnv→Prop} {QQ:QC} {c:Code} {K:KK} {w:World} {ρ:Nat→Value} {a:Act}
def ze9 (ρ:Nat→Value) (H:HEnv):List AV→Option (List PV)
 | []=>some []
 | x::xs=>match ziG ρ H x,ze9 ρ H xs with|some p,some ps=>some (p::ps)|_,_=>none
def zlk (ρ:Nat→Value) (H:HEnv):AV→Option PV
 | .box i off=>match H.get i with
  | some (.cell v)=>if v.flat.all (zgc H) then match ze9 ρ H v.flat with|some cs=>some (.ptr (.agg cs) off)|none=>none else none
  | _=>none
 | av=>zcF ρ H av
def zfo (ρ:Nat→Value) (env:Env) (H:HEnv):List Operand→Option (List PV)
 | []=>some []
 | x::xs=>match env.val x,zfo ρ env H xs with
  | some av,some ps=>match zlk ρ H av with|some p=>some (p::ps)|none=>none
  | _,_=>none
theorem zfF (hf:FS g K ρ H w):∀ {avs:List AV} {ps:List PV} {vs:List Value},vs.length=avs.length→(∀ (k:Nat) (c:AV) (v:Value),avs[k]?=some c→vs[k]?=some v→ARel K w ρ H c v)→ze9 ρ H avs=some ps→PRels (zaC K ρ H) w ps vs
 | [],ps,vs,hl,_,h=>by
  simp only [ze9,Option.some.injEq] at h;subst h
  have:vs=[]:=List.eq_nil_of_length_eq_zero (by simpa using hl)
  subst this;exact .nil
 | x::xs,ps,vs,hl,hr,h=>by
  cases vs with
  | nil=>simp at hl
  | cons v vs =>
   simp only [ze9] at h
   split at h
   ·rename_i p qs e1 e2
    simp only [Option.some.injEq] at h;subst h
    exact .cons (zgh hf (hr 0 x v rfl rfl) e1) (zfF hf (by simpa using hl) (fun k c v hc hv=>hr (k + 1) c v (by simpa using hc) (by simpa using hv)) e2)
   ·cases h
theorem zmI (hf:FS g K ρ H w) {av:AV} {v:Value} (h:ARel K w ρ H av v) {p:PV} (hp:zlk ρ H av=some p):PRel (zaC K ρ H) w p v:=by
 by_cases hb:∃ i off,av=.box i off
 ·obtain ⟨i,off,rfl⟩:=hb
  simp only [zlk] at hp
  split at hp
  ·rename_i u hi
   split at hp
   ·rename_i hone
    split at hp
    ·rename_i cs hcs
     simp only [Option.some.injEq] at hp;subst hp
     obtain ⟨b,t,arr,x,hr,hB,hheap,hx,harr,hn⟩:=hf.heap.ok i _ hi
     obtain ⟨f1,f2,f3⟩:=zaV hx hone (row_one hf)
     have hps:=zfF hf (by simpa using f1) f3 hcs
     cases h with
     | box _ _ b' hi' hρ =>
      rw [hr] at hρ
      simp only [Value.pointer.injEq,Option.some.injEq,Addr.mk.injEq,and_true] at hρ
      subst hρ
      have:=PRel.ptr (K:=zaC K ρ H) (w:=w) (.agg cs) off b 0 x.cells.toList hps.1 (fun k v hk=>⟨.inr (.inr ⟨i,u,hi,by rw [hr];rfl⟩),by
       simp only [World.cell?,hheap,Nat.zero_add];rw [←harr];simpa using hk,f2 v (List.mem_of_getElem? hk)⟩) hps.2
      simpa using this
    ·cases hp
   ·cases hp
  ·cases hp
 ·have:zlk ρ H av=zcF ρ H av:=by
   cases av <;> first|rfl|(exact absurd ⟨_,_,rfl⟩ hb)
  rw [this] at hp
  exact zdn hf h hp
theorem zfn (hf:FS g K ρ H w):∀ {xs:List Operand} {ps:List PV},(∀ x∈xs,∀ av,env.val x=some av→ARel K w ρ H av (a.eval x))→zfo ρ env H xs=some ps→PRels (zaC K ρ H) w ps (xs.map a.eval)
 | [],ps,_,h=>by simp [zfo] at h;subst h;exact .nil
 | x::xs,ps,hv,h=>by
  simp only [zfo] at h
  split at h
  ·rename_i av qs e1 e2
   split at h
   ·rename_i p e3
    simp only [Option.some.injEq] at h;subst h
    exact .cons (zmI hf (hv x (by simp) _ e1) e3) (zfn hf (fun y hy=>hv y (by simp [hy])) e2)
   ·cases h
  ·cases h
theorem yx {xs:Array Operand} {ts:Array TypeId} {f:FuncId} {args:(Nat→Value)→List PV} {r:Value} (hop:o.op=.call { callee:=.value (.func f),args:=xs,argTypes:=ts }) (hargs:∀ ρ,zfo ρ env H xs.toList=some (args ρ))
  (hc:∀ ρ,ACall P f (args ρ) (.base r)):QStep P g H o env (.pv (.base r)):=by
 refine ⟨fun K ρ a w hf hv=>?_⟩
 have hp:=zfn hf (a:=a) (xs:=xs.toList) (fun x hx=>hv x (by rw [hop];simp [Op.operands,Call.operands];exact .inr (by simpa using hx))) (hargs ρ)
 have:(execOp a.eval o).run P w=.ok (.enter f (xs.toList.map a.eval).toArray) w:=by
  have e:(xs.toList.map a.eval).toArray=xs.map a.eval:=by rw [←Array.toList_map,Array.toArray_toList]
  rw [e]
  simp [execOp,hop,resolve,Act.eval,Deferred.ofValue,invoke,qj (hc ρ).stands]
 rw [this]
 refine ⟨rfl,((hc ρ).calls _ w _ (zlA hf) hp).mono fun e w'' ⟨v,K',h1,h2,h3⟩=>?_⟩
 cases h3 with
 | base _ hb=>exact ⟨_,K,h1,⟨h2.below,fun _ _ h=>h,fun _ _ h=>.inl h,fun b o h=>Nat.lt_of_lt_of_le (hf.lt b o h) h2.below.size⟩,.pv _ _ (.base _ hb)⟩
theorem zlK {x:Operand} {i off:Nat} (hop:o.op=.nilCheck x) (hx:env.val x=some (.ad i off)):QStep P g H o env (.ad i off):=by
 refine ⟨fun K ρ a w hf hv=>?_⟩
 have hxr:=hv x (by rw [hop];simp [Op.operands]) _ hx
 generalize hxv:a.eval x=xv at hxr
 cases hxr with
 | ad _ _ b m c hi hb =>
  have hrun:(execOp a.eval o).run P w=.ok (.value (.pointer (some ⟨b,off,none⟩))) w:=by simp [execOp,hop,hxv]
  rw [hrun]
  exact qH hf (.ad i off b m c hi hb)
theorem zlf (htb:zX P tb) {t f:Nat} {x:Operand} {i off o' ft s:Nat} {fs:List (Nat × Nat × Nat)} (hop:o.op=.fieldAddr t x f) (hx:env.val x=some (.ad i off)) (hk:∃ q,tb.k t=.agg fs q) (hfe:fs[f]?=some (o',ft,s)) (hs:zcn tb ft s=true):QStep P g H o env (.ad i (off + o')):=by
 refine ⟨fun K ρ a w hf hv=>?_⟩
 obtain ⟨q,hk⟩:=hk
 simp only [zcn,Bool.and_eq_true,bne_iff_ne,beq_iff_eq] at hs
 obtain ⟨F,hF,hfs',_⟩:=Xl htb hk
 have hf':∃ fl:Field,F[f]?=some fl∧fl.offset=o'∧fl.type=ft:=by
  rw [←hfs',List.getElem?_map,Array.getElem?_toList] at hfe
  cases hfl:F[f]? with
  | none=>simp [hfl] at hfe
  | some fl=>simp [hfl] at hfe;exact ⟨fl,rfl,hfe.1,hfe.2.1⟩
 obtain ⟨fl,hfl,rfl,rfl⟩:=hf'
 have hko:tb.k fl.type≠.oth:=by intro e;simp [Tab.known,e] at hs
 have hsz:=run_sizeOf htb hko w
 have hne:tb.size fl.type≠0:=by omega
 have hxr:=hv x (by rw [hop];simp [Op.operands]) _ hx
 generalize hxv:a.eval x=xv at hxr
 cases hxr with
 | ad _ _ b m c hi hb =>
  have hrun:(execOp a.eval o).run P w=.ok (.value (.pointer (some ⟨b,off + fl.offset,none⟩))) w:=by
   simp [execOp,hop,Instr.fieldAt,run_underlying hF,hfl,hxv,Instr.sureAddr,fieldPlace,hsz,hne,Addr.add_lit]
  rw [hrun]
  exact qH hf (.ad i (off + fl.offset) b m c hi hb)
theorem znI (htb:zX P tb) {ty e:Nat} {x:Operand} {i sz:Nat} {es:List PV} (hop:o.op=.call { callee:=.builtin .len,args:=#[x],argTypes:=#[ty] }) (hx:env.val x=some (.own i)) (hi:H.get i=some (.mrow e sz es)) (hk:tb.k ty=.sl e):QStep P g H o env (.pv (.base (.int .i64 es.length))):=by
 refine ⟨fun K ρ a w hf hv=>?_⟩
 have hxr:=hv x (by rw [hop];simp [Op.operands,Call.operands]) _ hx
 generalize hxv:a.eval x=xv at hxr
 obtain ⟨us,hown,hsz,hcr,hKK'⟩:=hf.heap.ok i _ hi
 cases hxr with
 | own _ _ =>
  have hrun:(execOp a.eval o).run P w=.ok (.value (.int .i64 es.length)) w:=by
   have hl:∃ ad c,ρ i=.slice ad es.length c:=by
    rcases hown.2 with ⟨h,h2⟩|⟨b,cap,cur,h,_⟩
    ·exact ⟨none,0,by rw [h,h2]⟩
    ·exact ⟨_,_,h⟩
   obtain ⟨ad,c,hl⟩:=hl
   simp [execOp,hop,resolve,invoke,builtin,Builtin.len_,hxv,hl,run_underlying (yD htb hk),goInt]
  rw [hrun]
  exact qH hf (.pv _ _ (.base _ rfl))
theorem zpR (i j:Nat) (hi:(H.get i).isSome=true) (_:H.get j=none) (k:∀ u,AW P n g c env ((j,.pin (.own i) u)::H) QQ):AW P n g c env H QQ:=by
 refine ⟨fun a w hinv=>?_⟩
 obtain ⟨g1,g2,K,ρ,hf,he⟩:=hinv
 have hkk:∀ m,(H.get m).isSome=true→(HEnv.get ((j,.pin (.own i) (ρ i))::H) m).isSome=true∧ρ m=ρ m:=by
  intro m hm
  refine ⟨?_,rfl⟩
  rw [HEnv.get_cons];split <;> first|rfl|exact hm
 have hlive:∀ m hh,HEnv.get ((j,.pin (.own i) (ρ i))::H) m=some hh→hh.live=true→H.get m=some hh:=by
  intro m hh hm hl
  rw [HEnv.get_cons] at hm
  split at hm
  ·simp only [Option.some.injEq] at hm;subst hm;simp [HE.live] at hl
  ·exact hm
 refine (k (ρ i)).go a w ⟨g1,g2,K,ρ,⟨hf.below,hf.old,hf.new,hf.lt,hf.others,hf.pt,fun m hh bb hm hl hb=>hf.away m hh bb (hlive m hh hm hl) hl hb,fun m hh hm=>?_,fun m m' hh hh' bb hmm hm hm' hl hl'=>hf.heap.apart m m' hh hh' bb hmm (hlive m hh hm hl) (hlive m' hh' hm' hl') hl hl'⟩,he.keeps (.refl K w) hkk⟩
 rw [HEnv.get_cons] at hm
 split at hm
 ·simp only [Option.some.injEq] at hm;subst hm
  have hold:ARel K w ρ H (.own i) (ρ i):=.own i hi
  exact hold.keeps (.refl K w) hkk
 ·exact (hf.heap.ok m hh hm).keeps (.refl hf.lt) hf.lt hkk
theorem zo5 (htb:zX P tb) {t e:Nat} {x:Operand} {hi:Option Operand} (i j:Nat) {u:Value} {sz:Nat} {es:List PV} {h:Int} (hop:o.op=.slice t x none hi none) (hk:tb.k t=.sl e) (hke:tb.known e=true) (hsz:tb.size e=sz)
  (hx:env.val x=some (.own i)) (hi':H.get i=some (.mrow e sz es)) (hj:H.get j=some (.pin (.own i) u)) (hhi:YU env H es.length hi=some h) (h1:0≤h) (h2:h≤es.length) (h3:0 < es.length):QStep P g H o env (.pv (.base (cut sz u 0 h.toNat))):=by
 refine ⟨fun K ρ a w hf hv=>?_⟩
 have hxr:=hv x (by rw [hop];simp [Op.operands]) _ hx
 generalize hxv:a.eval x=xv at hxr
 have eh:=Qj (a:=a) hf (x:=hi) (fun y hy av hh=>hv y (by rw [hop];simp [Op.operands];exact .inr (by simpa using hy)) av hh) hhi
 have hko:tb.k e≠.oth:=by intro h;simp [Tab.known,h] at hke
 have hs:=run_sizeOf htb hko w
 have bounds:∀ cap:Nat,es.length≤cap→(Instr.sliceBounds true es.length cap none (hi.map a.eval) none).run P w=.ok (0,h.toNat,cap) w:=by
  intro cap hcap
  have hhc:h≤(cap:Int):=by omega
  rcases eh with ⟨rfl,rfl⟩|⟨z,k',rfl,hz⟩
  ·simp [Instr.sliceBounds]
  ·simp [hz,Instr.sliceBounds,Instr.sliceBound,asIntOf,hhc,h1]
 obtain ⟨xs,hown,hz0,hcr,hnK⟩:=hf.heap.ok i _ hi'
 have hpin:=hf.heap.ok j _ hj
 have hu:u=ρ i:=by
  have hp:ARel K w ρ H (.own i) u:=hpin
  cases hp;rfl
 cases hxr with
 | own _ hi0 =>
  rcases hown.2 with ⟨hr,hz⟩|⟨b,cap,cur,hr,hB,hheap,hle,hcap,hsize,htake⟩
  ·omega
  ·have hb:=bounds cap hle
   have hrun:(execOp a.eval o).run P w=.ok (.value (cut sz u 0 h.toNat)) w:=by
    have hne:¬ cap=0:=by omega
    rw [hu,hr]
    simp [execOp,hop,hxv,hr,Instr.sliceAt,Instr.slice,run_underlying (yD htb hk),hb,hs,hsz,Addr.add_lit,cut]
   rw [hrun]
   exact qH hf (.pv _ _ (.base _ (znR _ _ _ _ ⟨_,_,_,by rw [hu,hr]⟩)))
theorem zl0 (b i j k:Nat) {e sz h:Nat} {u:Value} {es:List PV} {cs:List AV} (hb:H.get b=some (.cell (.agg cs))) (hk:cs[k]?=some (.pv (.base (cut sz u 0 h)))) (hi:H.get i=some (.mrow e sz es)) (hj:H.get j=some (.pin (.own i) u)) (hh:h≤es.length) (h3:0 < es.length)
  (kk:AW P n g c (zbb i env) ((b,.cell (.agg ((kills i cs).set k (.own i))))::(i,.mrow e sz (es.take h))::ZC i H) QQ):AW P n g c env H QQ:=by
 refine ⟨fun a w hinv=>?_⟩
 obtain ⟨g1,g2,K,ρ,hf,he⟩:=hinv
 obtain ⟨xs,hown,hz0,hcr,hnK⟩:=hf.heap.ok i _ hi
 have hpin:ARel K w ρ H (.own i) u:=hf.heap.ok j _ hj
 have hu:u=ρ i:=by cases hpin;rfl
 have hne:b≠i:=by rintro rfl;rw [hi] at hb;cases hb
 rcases hown.2 with ⟨hr,hz⟩|⟨bb,cap,cur,hr,hB,hheap,hle,hcap,hsize,htake⟩
 ·omega
 ·obtain ⟨v,hv⟩:∃ v:Value,v=.slice (some ⟨bb,0,none⟩) h cap:=⟨_,rfl⟩
  have hcut:cut sz u 0 h=v:=by rw [hu,hr,hv];simp [cut]
  have hnp:∀ b,ρ i=.pointer (some ⟨b,0,none⟩)→False:=by intro b hb;rw [hr] at hb;cases hb
  have hsome:∀ j,((ZC i H).get j).isSome=(H.get j).isSome:=by intro j;rw [qR];cases H.get j <;> rfl
  have hkeep:∀ m,m≠i→(H.get m).isSome=true→(HEnv.get ((b,.cell (.agg ((kills i cs).set k (.own i))))::(i,.mrow e sz (es.take h))::ZC i H) m).isSome=true∧(fun m=>if m=i then v else ρ m) m=ρ m:=by
   intro m hne hm
   refine ⟨?_,by simp [hne]⟩
   rw [HEnv.get_cons]
   split
   ·rfl
   ·rw [HEnv.get_cons,if_neg (Ne.symm hne),hsome];exact hm
  have htr:∀ av x,ARel K w ρ H av x→ARel K w (fun m=>if m=i then v else ρ m) ((b,.cell (.agg ((kills i cs).set k (.own i))))::(i,.mrow e sz (es.take h))::ZC i H) (kill i av) x:=fun av x h=>h.kill (.refl K w) i hkeep hnp (row_one hf i (by simp [isVal,hi]))
  have hvb:zo v=zo (ρ i):=by rw [hv,hr];rfl
  have hget:∀ (m:Nat) (x:HE),m≠i→m≠b→HEnv.get ((b,.cell (.agg ((kills i cs).set k (.own i))))::(i,.mrow e sz (es.take h))::ZC i H) m=some x→∃ h0,H.get m=some h0∧x=killHE i h0∧(x.live=true→h0.live=true):=by
   intro m x hmi hmb hm
   rw [HEnv.get_cons,if_neg (Ne.symm hmb),HEnv.get_cons,if_neg (Ne.symm hmi),qR] at hm
   cases hH:H.get m with
   | none=>simp [hH] at hm
   | some e0 =>
    simp only [hH,Option.map_some,Option.some.injEq] at hm
    subst hm
    exact ⟨e0,rfl,rfl,by cases e0 <;> exact id⟩
  have hlv:∀ (m:Nat) (x:HE),HEnv.get ((b,.cell (.agg ((kills i cs).set k (.own i))))::(i,.mrow e sz (es.take h))::ZC i H) m=some x→x.live=true→∃ h0,H.get m=some h0∧h0.live=true∧zo ((fun m=>if m=i then v else ρ m) m)=zo (ρ m):=by
   intro m x hm hl
   by_cases hmb:m=b
   ·subst hmb;exact ⟨_,hb,rfl,by simp [hne]⟩
   ·by_cases hmi:m=i
    ·subst hmi;exact ⟨_,hi,rfl,by simp [hvb]⟩
    ·obtain ⟨h0,a1,a2,a3⟩:=hget m x hmi hmb hm
     exact ⟨h0,a1,a3 hl,by simp [hmi]⟩
  have hlen:(es.take h).length=h:=by rw [List.length_take];omega
  refine kk.go a w ⟨g1,g2,K,fun m=>if m=i then v else ρ m,⟨hf.below,hf.old,hf.new,hf.lt,hf.others,hf.pt,?_,?_,?_⟩,?_⟩
  ·intro m x b2 hm hl hb2
   obtain ⟨h0,a1,a2,a3⟩:=hlv m x hm hl
   exact hf.away m h0 b2 a1 a2 (by rw [←a3];exact hb2)
  ·intro m x hm
   by_cases hmb:m=b
   ·subst hmb
    rw [HEnv.get_cons,if_pos rfl] at hm
    simp only [Option.some.injEq] at hm;subst hm
    simp only [hne,if_false]
    obtain ⟨b',t',arr,x',q1,q2,q3,q4,q5,q6⟩:=hf.heap.ok m _ hb
    refine ⟨b',t',arr,x',q1,q2,q3,?_,q5,q6⟩
    cases q4 with
    | agg _ vs a1 a2 a3 =>
     refine .agg _ vs (by simpa [YQ] using a1) a2 fun k' c' v' hc hvv=>?_
     rw [List.getElem?_set] at hc
     split at hc
     ·rename_i e1;subst e1
      split at hc
      ·simp only [Option.some.injEq] at hc;subst hc
       have:=a3 k _ v' hk hvv
       cases this with
       | pv _ _ hp =>
        cases hp
        rw [hcut]
        have:=ARel.own (K:=K) (w:=w) (ρ:=fun m=>if m=i then v else ρ m) (H:=(m,.cell (.agg ((kills i cs).set k (.own i))))::(i,HE.mrow e sz (es.take h))::ZC i H) i (by rw [HEnv.get_cons,if_neg hne,HEnv.get_cons,if_pos rfl];rfl)
        simpa using this
      ·cases hc
     ·rw [Vq] at hc
      cases hcs:cs[k']? with
      | none=>simp [hcs] at hc
      | some c0=>simp [hcs] at hc;subst hc;exact htr _ _ (a3 k' c0 v' hcs hvv)
   ·by_cases hmi:m=i
    ·subst hmi
     rw [HEnv.get_cons,if_neg hne,HEnv.get_cons,if_pos rfl] at hm
     simp only [Option.some.injEq] at hm;subst hm
     simp only [if_true]
     have hxl:xs.length=es.length * sz:=hown.1
     have hle2:h * sz≤es.length * sz:=Nat.mul_le_mul_right _ hh
     refine ⟨xs.take (h * sz),⟨by rw [hlen,List.length_take];omega,.inr ⟨bb,cap,cur,by rw [hv,hlen],hB,hheap,by rw [hlen];omega,hcap,hsize,?_⟩⟩,hz0,?_,?_⟩
     ·rw [hlen,←htake,List.take_take];congr 1;omega
     ·intro k1 e1 he1
      rw [List.getElem?_take] at he1
      split at he1
      ·rename_i hk1
       obtain ⟨c1,c2⟩:=hcr k1 e1 he1
       refine ⟨c1,fun m c hc=>?_⟩
       obtain ⟨v,v1,v2,v3⟩:=c2 m c hc
       have hm:m < sz:=by have:=(List.getElem?_eq_some_iff.1 hc).1;omega
       refine ⟨v,?_,v2,v3⟩
       rw [List.getElem?_take,if_pos]
       ·exact v1
       ·have:(k1 + 1) * sz≤h * sz:=Nat.mul_le_mul_right _ hk1
        rw [Nat.succ_mul] at this;omega
      ·cases he1
     ·intro b' hb' o
      exact hnK b' (by rw [hr];rw [hv] at hb';exact hb') o
    ·obtain ⟨h0,a1,a2,a3⟩:=hget m x hmi hmb hm
     subst a2
     simp only [hmi,if_false]
     have hok:=hf.heap.ok m h0 a1
     cases h0 with
     | cell v=>obtain ⟨b',t',arr,x',q1,q2,q3,q4,q5,q6⟩:=hok;exact ⟨b',t',arr,x',q1,q2,q3,htr _ _ q4,q5,q6⟩
     | pin v x'=>exact htr _ _ hok
     | row t' sz' es'=>exact hok
     | mrow t' sz' es'=>exact hok
     | dead=>trivial
     | obj X=>exact hok
  ·intro m m' x x' b2 hmm hm hm' hl hl' hb1 hb2
   obtain ⟨h0,a1,a2,a3⟩:=hlv m x hm hl
   obtain ⟨h0',c1,c2,c3⟩:=hlv m' x' hm' hl'
   exact hf.heap.apart m m' h0 h0' b2 hmm a1 c1 a2 c2 (by rw [←a3];exact hb1) (by rw [←c3];exact hb2)
  ·intro t' av hg'
   rw [Wq] at hg'
   cases hE:env.get t' with
   | none=>simp [hE] at hg'
   | some av0 =>
    simp only [hE,Option.map_some,Option.some.injEq] at hg'
    subst hg'
    obtain ⟨v,v1,v2⟩:=he t' av0 hE
    exact ⟨v,v1,htr _ _ v2⟩
theorem ACallM.tells {f:FuncId} {args args':List AV} {H':HEnv} {r:AV} {lone:Bool} (h:ACallM P f args H r H' lone) (hl:args'.length=args.length) (ht:∀ (k:Nat) (c c':AV),args[k]?=some c→args'[k]?=some c'→c'=c∨∃ p p',c=.pv p∧c'=.pv p'∧PTells p' p):ACallM P f args' H r H' lone :=
 ⟨h.stands,fun g K ρ w vs hw1 hf hv=>h.calls g K ρ w vs hw1 hf ⟨by rw [hv.1,hl],fun k c v hc hvv=>by
  have hlt:k < args'.length:=by rw [hl];exact (List.getElem?_eq_some_iff.1 hc).1
  have hr:=hv.2 k _ v (List.getElem?_eq_getElem hlt) hvv
  rcases ht k c _ hc (List.getElem?_eq_getElem hlt) with e|⟨p,p',rfl,e,hp⟩
  ·rw [e] at hr;exact hr
  ·rw [e] at hr
   cases hr with
   | pv _ _ hr=>exact .pv _ _ (hp _ _ _ hr)⟩⟩
end
end Go.Cg
namespace Go.Cg
theorem sM {Q P:Prop} (k:Q) (h:Q→P:=by
  intro k
  first
  | exact zq rfl (znI zh rfl rfl rfl rfl) rfl rfl k
  | exact zq rfl (zlK rfl rfl) rfl rfl k
  | exact zq rfl (zlf zh rfl rfl ⟨_,rfl⟩ rfl rfl) rfl rfl k
  | exact AD.step _ _ _ _ _ rfl (znI zh rfl rfl rfl rfl) rfl rfl k
  | exact AD.step _ _ _ _ _ rfl (zlK rfl rfl) rfl rfl k
  | exact AD.step _ _ _ _ _ rfl (zlf zh rfl rfl ⟨_,rfl⟩ rfl rfl) rfl rfl k
  | fail):P:=h k
theorem zoY {H H':HEnv} {i:Nat} {t sz:Nat} {es es':List PV} (h:H.get i=some (.mrow t sz es)) (e:es=es') (hs:HSub H H'):HSub H ((i,.mrow t sz es')::H'):=qJ h e hs
end Go.Cg
namespace Go.Cg
open Go.RowKit
section
variable {P:Program} {tb:Tab} {n:Nat} {g:Base} {K:KK} {w:World} {ρ:Nat→Value} {H:HEnv} {env:Env} {a:Act} {ops:List Oper} {o:Oper} {rest:List Oper} {Q:Env→HEnv→Prop} {QQ:QC} {c:Code}
theorem zfZ {sz:Nat} (hz:0 < sz) {es ps:List PV} {xs vs:List Value} {off:Nat} (h:CellsRel K w sz es xs) (hp:CellsRel K w sz ps vs) (hx:xs.length=es.length * sz) (hv:vs.length=ps.length * sz) (ho:off + ps.length≤es.length) :
  CellsRel K w sz (es.take off++ps++es.drop (off + ps.length)) (xs.take (off * sz)++vs++xs.drop (off * sz + vs.length)):=by
 have hmul:off * sz + vs.length=(off + ps.length) * sz:=by rw [hv,Nat.add_mul]
 have hle:(off + ps.length) * sz≤xs.length:=by rw [hx];exact Nat.mul_le_mul_right sz ho
 intro i e he
 rw [ZI ho] at he
 split at he
 ·rename_i h1
  obtain ⟨c1,c2⟩:=h i e he
  refine ⟨c1,fun k c hc=>?_⟩
  have hk:k < sz:=by have:=(List.getElem?_eq_some_iff.1 hc).1;omega
  obtain ⟨v,v1,v2,v3⟩:=c2 k c hc
  have hlt:i * sz + k < off * sz:=by
   have:=Nat.mul_le_mul_right sz (show i + 1≤off by omega)
   rw [Nat.add_mul] at this;omega
  exact ⟨v,by rw [ZI (by omega),if_pos hlt];exact v1,v2,v3⟩
 ·split at he
  ·rename_i h1 h2
   obtain ⟨c1,c2⟩:=hp (i - off) e he
   refine ⟨c1,fun k c hc=>?_⟩
   have hk:k < sz:=by have:=(List.getElem?_eq_some_iff.1 hc).1;omega
   obtain ⟨v,v1,v2,v3⟩:=c2 k c hc
   have e1:(i - off) * sz + off * sz=i * sz:=by rw [←Nat.add_mul];congr 1;omega
   have hlt:i * sz + k < off * sz + vs.length:=by
    have:=Nat.mul_le_mul_right sz (show i + 1≤off + ps.length by omega)
    rw [Nat.add_mul] at this;omega
   exact ⟨v,by rw [ZI (by omega),if_neg (by omega),if_pos hlt,show i * sz + k - off * sz=(i - off) * sz + k by omega];exact v1,v2,v3⟩
  ·rename_i h1 h2
   obtain ⟨c1,c2⟩:=h i e he
   refine ⟨c1,fun k c hc=>?_⟩
   obtain ⟨v,v1,v2,v3⟩:=c2 k c hc
   have hge:off * sz + vs.length≤i * sz:=by rw [hmul];exact Nat.mul_le_mul_right sz (by omega)
   exact ⟨v,by rw [ZI (by omega),if_neg (by omega),if_neg (by omega)];exact v1,v2,v3⟩
theorem FS.spliceZ (hf:FS g K ρ H w) {i e b cap off sz:Nat} {es ps:List PV} {cur:Array Value} {vs:List Value} (hi:H.get i=some (.mrow e sz es)) (hρ:ρ i=.slice (some ⟨b,0,none⟩) es.length cap) (hheap:w.heap[b]?=some (.cells cur e (0,0)))
  (hp:CellsRel K w sz ps vs) (hv:vs.length=ps.length * sz) (ho:off + ps.length≤es.length) {arr:Array Value} (harr:arr=(cur.toList.take (off * sz)++vs++cur.toList.drop (off * sz + vs.length)).toArray) :
  FS g K ρ ((i,.mrow e sz (es.take off++ps++es.drop (off + ps.length)))::H) (w.setRow b arr)∧Later K K w (w.setRow b arr):=by
 obtain ⟨xs,hown,h0,hcr,hnK⟩:=hf.heap.ok i _ hi
 rcases hown.2 with ⟨hr,_⟩|⟨b',cap',cur',hr,hB,hheap',hec,hcap,hsize,htake⟩
 ·rw [hρ] at hr;simp at hr
 ·rw [hρ] at hr
  simp only [Value.slice.injEq,Option.some.injEq,Addr.mk.injEq,and_true,true_and] at hr
  obtain ⟨rfl,rfl⟩:=hr
  rw [hheap] at hheap'
  simp only [Option.some.injEq,Obj.cells.injEq,and_true] at hheap'
  subst hheap'
  have hlen:(es.take off++ps++es.drop (off + ps.length)).length=es.length:=by rw [List.length_append,List.length_append,List.length_take,List.length_drop];omega
  have hgrow:w.grownBy (w.setRow b arr) (some b):=⟨rfl,rfl,rfl,by simp,fun k _ hk=>setRow_other w b k _ (fun e=>hk (by simp [e]))⟩
  have hnKb:∀ o,¬ K b o:=hnK b (by rw [hρ];rfl)
  have hlat:Later K K w (w.setRow b arr):=⟨fun _ _ h=>h,fun b' o hk=>by
   have:b'≠b:=by rintro rfl;exact hnKb o hk
   exact cell_setRow_other w b _ ⟨b',o,none⟩ this⟩
  have hxl:xs.length=es.length * sz:=hown.1
  have hmul:off * sz + vs.length=(off + ps.length) * sz:=by rw [hv,Nat.add_mul]
  have hle:off * sz + vs.length≤es.length * sz:=by rw [hmul];exact Nat.mul_le_mul_right sz ho
  have hec':es.length * sz≤cur.size:=by rw [hsize];exact Nat.mul_le_mul_right sz hec
  have hkeep:∀ j,(H.get j).isSome=true→(HEnv.get ((i,.mrow e sz (es.take off++ps++es.drop (off + ps.length)))::H) j).isSome=true∧ρ j=ρ j:=by
   intro j hj
   refine ⟨?_,rfl⟩
   rw [HEnv.get_cons]
   split
   ·rfl
   ·exact hj
  refine ⟨⟨hf.below.grown hgrow hf.below.size (fun k hk=>by simp at hk;omega),hf.old,hf.new,fun b o hk=>by have:=hf.lt b o hk;simpa using this,hf.others.trans (zbT hheap hgrow),hf.pt.grown hf.old hgrow hlat (fun b2 hb2=>by cases hb2;exact hf.away i _ b hi rfl (by rw [hρ];rfl)) (fun _ _ h=>.inl h),hf.away.set hi rfl,?_,?_⟩,hlat⟩
  ·intro j' e' hj
   rw [HEnv.get_cons] at hj
   split at hj
   ·rename_i e1;subst e1
    simp only [Option.some.injEq] at hj;subst hj
    refine ⟨xs.take (off * sz)++vs++xs.drop (off * sz + vs.length),⟨?_,.inr ⟨b,cap,arr,by rw [hρ,hlen],hB,setRow_heap w b cur _ e _ hheap,by rw [hlen];exact hec,hcap,?_,?_⟩⟩,h0,?_,fun b' hb'=>hnK b' hb'⟩
    ·rw [hlen,List.length_append,List.length_append,List.length_take,List.length_drop];omega
    ·rw [←hsize,harr,List.size_toArray,List.length_append,List.length_append,List.length_take,List.length_drop,Array.length_toList];omega
    ·rw [hlen,harr,←htake]
     have h9:cur.toList.length=cur.size:=by simp
     exact zdN (by omega) (by omega)
    ·have:=zfZ (off:=off) h0 hcr hp hxl hv ho
     intro i1 e1 he1
     obtain ⟨c1,c2⟩:=this i1 e1 he1
     exact ⟨c1,fun k c hc=>let ⟨v,v1,v2,v3⟩:=c2 k c hc;⟨v,v1,v2,v3.later hlat⟩⟩
   ·rename_i hne
    by_cases hlive:e'.live=true
    ·have:=(hf.heap.ok j' e' hj).grown (f:=id) hgrow hlat (fun b o h=>.inl h) (fun av v h=>h.keeps hlat hkeep) hlive (fun b' hb' e'=>by
      simp at e';subst e'
      exact hf.heap.apart i j' _ _ b hne hi hj rfl hlive (by rw [hρ];rfl) hb')
     cases e' <;> exact this
    ·cases e' <;> simp [HE.live] at hlive
     ·trivial
     ·exact ARel.keeps hlat hkeep (hf.heap.ok j' _ hj)
  ·intro j' k' e1 e2 bb hjk hj hk' hlj hlk hbj hbk
   have f1:∀ (j:Nat) (hh:HE),HEnv.get ((i,.mrow e sz (es.take off++ps++es.drop (off + ps.length)))::H) j=some hh→hh.live=true→∃ h0,H.get j=some h0∧h0.live=true:=by
    intro j hh hj hl
    rw [HEnv.get_cons] at hj
    split at hj
    ·rename_i e';subst e';exact ⟨_,hi,rfl⟩
    ·exact ⟨hh,hj,hl⟩
   obtain ⟨a1,a2,a3⟩:=f1 j' e1 hj hlj
   obtain ⟨b1,b2,b3⟩:=f1 k' e2 hk' hlk
   exact hf.heap.apart j' k' a1 b1 bb hjk a2 b2 a3 b3 hbj hbk
theorem zn1 (sz:Nat) {b n c l h:Nat}:cut sz (.slice (some ⟨b,0,none⟩) n c) l h=.slice (some ⟨b,l * sz,none⟩) (h - l) (c - l):=rfl
theorem zfg (hf:FS g K ρ H w) {i j e sz:Nat} {u:Value} {es:List PV} (hi:H.get i=some (.mrow e sz es)) (hj:H.get j=some (.pin (.own i) u)) (h0:0 < es.length):u=ρ i∧∃ b cap,ρ i=.slice (some ⟨b,0,none⟩) es.length cap∧es.length≤cap:=by
 have hu:u=ρ i:=by
  have h9:ARel K w ρ H (.own i) u:=hf.heap.ok j _ hj
  cases h9;rfl
 refine ⟨hu,?_⟩
 obtain ⟨xs,hown,_,_,_⟩:=hf.heap.ok i _ hi
 rcases hown.2 with ⟨_,hz⟩|⟨b,cap,cur,hr,_,_,hle,_,_,_⟩
 ·omega
 ·exact ⟨b,cap,hr,hle⟩
theorem Yb (htb:zX P tb) {t e:Nat} {x y:Operand} {i j l h sz:Nat} {u:Value} {es:List PV} {kk:IntKind} {m:Int} (k:Nat) (hop:o.op=.indexAddr t x y) (hx:env.val x=some (.pv (.base (cut sz u l h)))) (hj:H.get j=some (.pin (.own i) u)) (hi:H.get i=some (.mrow e sz es))
  (hk:tb.k t=.sl e) (hke:tb.known e=true) (hsz:tb.size e=sz) (hy:env.pv H y=some (.base (.int kk m))) (hm:m=(k:Nat)) (hlt:l + k < h) (hh:h≤es.length):QStep P g H o env (.ad i ((l + k) * sz)):=by
 refine ⟨fun K ρ a w hf hv=>?_⟩
 have hxr:=hv x (by rw [hop];simp [Op.operands]) _ hx
 have hyr:=zZ (a:=a) hf (x:=y) (hv y (by rw [hop];simp [Op.operands])) hy
 generalize hxv:a.eval x=xv at hxr
 generalize hyv:a.eval y=yv at hyr
 obtain ⟨rfl,b,cap,hr,hcap⟩:=zfg hf hi hj (by omega)
 subst hm
 cases hyr
 cases hxr with
 | pv _ _ hpr =>
  rw [hr,zn1] at hpr
  cases hpr
  have hko:tb.k e≠.oth:=by intro h;simp [Tab.known,h] at hke
  have hs:=run_sizeOf htb hko w
  have hrun:(execOp a.eval o).run P w=.ok (.value (.pointer (some ⟨b,(l + k) * sz,none⟩))) w:=by
   have e1:l * sz + k * sz=(l + k) * sz:=by rw [Nat.add_mul]
   have hk2:k < h - l:=by omega
   simp [execOp,hop,hxv,hyv,Instr.indexAt,asIntOf,run_underlying (yD htb hk),hs,hsz,Addr.add_lit,e1,hk2]
  rw [hrun]
  exact qH hf (.ad i ((l + k) * sz) b es.length cap (by rw [hi];rfl) hr)
theorem zeD (htb:zX P tb) {ty e:Nat} {x:Operand} {i j l h sz:Nat} {u:Value} {es:List PV} (hop:o.op=.call { callee:=.builtin .len,args:=#[x],argTypes:=#[ty] }) (hx:env.val x=some (.pv (.base (cut sz u l h)))) (hj:H.get j=some (.pin (.own i) u)) (hi:H.get i=some (.mrow e sz es)) (hk:tb.k ty=.sl e) (h0:0 < es.length):QStep P g H o env (.pv (.base (.int .i64 ((h - l:Nat):Int)))):=by
 refine ⟨fun K ρ a w hf hv=>?_⟩
 have hxr:=hv x (by rw [hop];simp [Op.operands,Call.operands]) _ hx
 generalize hxv:a.eval x=xv at hxr
 obtain ⟨rfl,b,cap,hr,hcap⟩:=zfg hf hi hj h0
 cases hxr with
 | pv _ _ hpr =>
  rw [hr,zn1] at hpr
  cases hpr
  have hrun:(execOp a.eval o).run P w=.ok (.value (.int .i64 ((h - l:Nat):Int))) w:=by
   simp [execOp,hop,hxv,resolve,invoke,builtin,Builtin.len_,run_underlying (yD htb hk),goInt]
  rw [hrun]
  exact qH hf (.pv _ _ (.base _ rfl))
theorem zn9 {sz:Nat} {es:List PV} {full:Bool} {b o cap h:Nat} (hh:h≤es.length) (hp:PRel K w (.slc sz es full) (.slice (some ⟨b,o,none⟩) es.length cap)):PRel K w (.slc sz (es.take h) false) (.slice (some ⟨b,o,none⟩) h cap):=by
 have hl:(es.take h).length=h:=by rw [List.length_take];omega
 generalize hes:es=es' at hp
 generalize hn:es'.length=m at hp
 have sub:∀ {i:Nat} {e:PV},(es.take h)[i]?=some e→es[i]?=some e:=fun {i e} hi=>by
  rw [List.getElem?_take] at hi
  split at hi
  ·exact hi
  ·cases hi
 cases hp with
 | emp =>
  have:es=[]:=hes
  subst this
  simp at hl;subst hl
  exact .emp sz false _
 | slc _ _ _ _ _ _ vss h0 h1 h2 h3 h4 h5 h6 =>
  subst hes
  have:=PRel.slc (K:=K) (w:=w) sz (es.take h) false b o cap vss h0 (by omega) (by simp) (by omega) h4 (fun i e hi=>h5 i e (sub hi)) (fun i e k c v hi=>h6 i e k c v (sub hi))
  rwa [hl] at this
theorem zmv {t i j e sz h:Nat} {u:Value} {es:List PV} {a:Act} {w:World} (ht:env.get t=some (.pv (.base (cut sz u 0 h)))) (hi:H.get i=some (.row e sz es)) (hj:H.get j=some (.pin (.own i) u)) (hh:h≤es.length) (h0:0 < es.length) (hinv:Inv n g env H a w):Inv n g ((t,.pv (.slc sz (es.take h) false))::env) H a w:=by
 obtain ⟨g1,g2,K,ρ,hf,he⟩:=hinv
 refine ⟨g1,g2,K,ρ,hf,fun t' av hg=>?_⟩
 rw [Env.get_cons] at hg
 split at hg
 ·rename_i e1;subst e1
  simp only [Option.some.injEq] at hg;subst hg
  obtain ⟨v,h1,h2⟩:=he _ _ ht
  refine ⟨v,h1,.pv _ _ ?_⟩
  have hu:u=ρ i:=by
   have h9:ARel K w ρ H (.own i) u:=hf.heap.ok j _ hj
   cases h9;rfl
  have hrow:=zdl hf hi (.own i (by rw [hi];rfl))
  obtain ⟨xs,hown,_,_,_⟩:=hf.heap.ok i _ hi
  cases h2 with
  | pv _ _ hp =>
   rcases hown.2 with ⟨_,hz⟩|⟨b,cap,cur,hr,_,_,hle,_,_,_⟩
   ·omega
   ·rw [hu,hr] at hp
    rw [hr] at hrow
    cases hp
    have:=zn9 hh hrow
    simpa [cut] using this
 ·exact he t' av hg
theorem zew (htb:zX P tb) {t e sz:Nat} {x:Operand} {i j l h:Nat} {u:Value} {es:List PV} {z:PV} {zv:Value} (hg:guardE ops env o=some true) (hop:o.op=.call { callee:=.builtin .clear,args:=#[x],argTypes:=#[t] }) (hk:tb.k t=.sl e)
  (hx:env.val x=some (.pv (.base (cut sz u l h)))) (hj:H.get j=some (.pin (.own i) u)) (hi:H.get i=some (.mrow e sz es)) (hlh:l≤h) (hh:h≤es.length) (h0:0 < es.length)
  (hz:tb.zero e=some zv) (hzz:zbA zv=some z) (hzc:zv.cells.size=sz) (hd:o.dst=none)
  (k:AO P n g ops.toArray rest env ((i,.mrow e sz (es.take l++List.replicate (h - l) z++es.drop (l + (h - l))))::H) Q):AO P n g ops.toArray (o::rest) env H Q:=by
 refine ⟨fun a w hinv=>?_⟩
 have hw:=yh hinv hg
 obtain ⟨g1,g2,K,ρ,hf,he⟩:=hinv
 refine wpList_step fun KK hKK=>?_
 rw [if_pos hw]
 have hxr:=yt he hx
 generalize hxv:a.eval x=xv at hxr
 have hu:u=ρ i:=by
  have h9:ARel K w ρ H (.own i) u:=hf.heap.ok j _ hj
  generalize hru:ρ i=ri
  cases h9 with
  | own _ _=>exact hru
 subst hu
 obtain ⟨xs,hown,hs0,hcr,hnK⟩:=hf.heap.ok i _ hi
 have hzi:(zeroValue e).run P w=.ok zv w:=by
  have hz':=hz
  unfold Tab.zero at hz'
  split at hz'
  ·rename_i ti hti
   obtain ⟨tin,e1,_,_,e4,_⟩:=qF htb hti
   simp [zeroValue,typeInfo,e1,e4,hz']
  ·cases hz'
 obtain ⟨hzr,hznt⟩:=zbV (K:=K) (w:=w) hzz
 have hzcr:=Zh hzr
 have hzo:=cells_one hzr hznt
 have hzl:z.cells.length=sz:=by rw [←hzcr.1,←hzc];simp
 have hlen:(Builtin.zeroCells zv.cells (h - l)).toList.length=(h - l) * sz:=by simp [Builtin.zeroCells,hzc]
 have hget:∀ m,m < (h - l) * sz→(Builtin.zeroCells zv.cells (h - l)).toList[m]?=zv.cells[m % sz]?:=by
  intro m hm
  have hm2:m % sz < zv.cells.size:=by rw [hzc];exact Nat.mod_lt _ hs0
  simp only [Builtin.zeroCells,Array.toList_map,List.getElem?_map,hzc]
  rw [Array.toList_range,List.getElem?_range hm]
  simp [Array.getElem?_eq_getElem hm2,getElem!_pos zv.cells (m % sz) hm2]
 have hone:∀ v∈(Builtin.zeroCells zv.cells (h - l)).toList,v.oneCell'=true:=by
  intro v hv
  obtain ⟨m,hm⟩:=List.getElem?_of_mem hv
  have hlt:=(List.getElem?_eq_some_iff.1 hm).1
  rw [hlen] at hlt
  rw [hget m hlt] at hm
  exact hzo v (Array.mem_toList_iff.2 (Array.mem_of_getElem? hm))
 have hrep:CellsRel K w sz (List.replicate (h - l) z) (Builtin.zeroCells zv.cells (h - l)).toList:=by
  intro m p hm
  have hml:m < h - l:=by have:=(List.getElem?_eq_some_iff.1 hm).1;simpa using this
  have hpz:p=z:=by rw [List.getElem?_replicate,if_pos hml] at hm;simpa using hm.symm
  subst hpz
  refine ⟨hzl,fun q c hc=>?_⟩
  have hq:q < sz:=by have:=(List.getElem?_eq_some_iff.1 hc).1;omega
  have hlt:m * sz + q < (h - l) * sz:=by
   have:=Nat.mul_le_mul_right sz (show m + 1≤h - l by omega)
   rw [Nat.add_mul] at this;omega
  have hq2:q < zv.cells.size:=by omega
  refine ⟨zv.cells[q],?_,hzo _ (Array.mem_toList_iff.2 (Array.getElem_mem hq2)),hzcr.2 q c _ hc (by simp [hq2])⟩
  rw [hget _ hlt,Nat.add_comm,Nat.add_mul_mod_self_right,Nat.mod_eq_of_lt hq]
  simp [hq2]
 cases hxr with
 | pv _ _ hpr =>
  cases hpr
  rcases hown.2 with ⟨hr,hz0⟩|⟨b,cap,cur,hr,hB,hheap,hle,hcap,hsize,htake⟩
  ·omega
  ·obtain ⟨arr,harr⟩:∃ arr,arr=(cur.toList.take (l * sz)++(Builtin.zeroCells zv.cells (h - l)).toList++cur.toList.drop (l * sz + (Builtin.zeroCells zv.cells (h - l)).toList.length)).toArray:=⟨_,rfl⟩
   obtain ⟨hfs2,hlat⟩:=FS.spliceZ hf hi hr hheap hrep (by rw [hlen,List.length_replicate]) (by rw [List.length_replicate];omega) harr
   rw [List.length_replicate] at hfs2
   have hfit:l * sz + (Builtin.zeroCells zv.cells (h - l)).toList.length≤cur.size:=by
    rw [hlen,←Nat.add_mul,hsize];exact Nat.mul_le_mul_right sz (by omega)
   have hst:=run_storeCells_at P b (l * sz) e (Builtin.zeroCells zv.cells (h - l)).toList 0 cur w hheap (by omega) hone
   simp only [Nat.add_zero] at hst
   rw [←harr] at hst
   have hrun:(execOp a.eval o).run P w=.ok (.value (.tuple #[])) (w.setRow b arr):=by
    by_cases hz0:h - l=0
    ·have harr2:arr=cur:=by
      have:(Builtin.zeroCells zv.cells (h - l)).toList=[]:=List.eq_nil_of_length_eq_zero (by rw [hlen,hz0,Nat.zero_mul])
      rw [harr,this];simp
     have hset:w.setRow b cur=w:=setRow_self w b cur e (0,0) hheap
     rw [harr2,hset]
     simp [execOp,hop,hxv,hr,resolve,invoke,builtin,Builtin.clear_,run_underlying (yD htb hk),cut,hz0]
    ·obtain ⟨m,hm⟩:∃ m,h - l=m + 1:=⟨h - l - 1,by omega⟩
     rw [hm] at hst
     simp [execOp,hop,hxv,hr,resolve,invoke,builtin,Builtin.clear_,run_underlying (yD htb hk),cut,hm,hzi,hst]
   unfold Oper.wp
   rw [hrun]
   simp only [Oper.upon]
   have hd':a.put o.dst (.tuple #[])=a:=by rw [hd];rfl
   rw [hd']
   refine hKK _ _ (k.go _ _ ⟨g1,g2,K,ρ,hfs2,he.keeps hlat fun m hm=>⟨by rw [HEnv.get_cons];split <;> first|rfl|exact hm,rfl⟩⟩)
end
section
variable {P:Program} {n:Nat} {g:Base} {H:HEnv} {env:Env} {c:Code} {QQ:QC} {ops l:List Oper} {Q:Env→HEnv→Prop}
theorem Yf (t j:Nat) {u:Value} {av:AV} (hg:env.get t=some (.pv (.base u))) (hj:H.get j=some (.pin av u)) (k:AW P n g c ((t,av)::env) H QQ):AW P n g c env H QQ:=by
 refine ⟨fun a w hinv=>?_⟩
 obtain ⟨g1,g2,K,ρ,hf,he⟩:=hinv
 refine k.go a w ⟨g1,g2,K,ρ,hf,fun t' av' h'=>?_⟩
 rw [Env.get_cons] at h'
 split at h'
 ·rename_i e
  subst e
  simp only [Option.some.injEq] at h'
  subst h'
  obtain ⟨v,v1,v2⟩:=he _ _ hg
  cases v2 with
  | pv _ _ hp =>
   cases hp
   exact ⟨u,v1,hf.heap.ok j _ hj⟩
 ·exact he t' av' h'
theorem zgl (t j:Nat) {i off:Nat} (hg:env.get t=some (.box i off)) (_:H.get j=none) (k:∀ u,AO P n g ops.toArray l ((t,.pv (.base u))::env) ((j,.pin (.box i off) u)::H) Q):AO P n g ops.toArray l env H Q:=by
 refine ⟨fun a w hinv=>?_⟩
 obtain ⟨g1,g2,K,ρ,hf,he⟩:=hinv
 obtain ⟨u,u1,u2⟩:=he _ _ hg
 have hkk:∀ m,(H.get m).isSome=true→(HEnv.get ((j,.pin (.box i off) u)::H) m).isSome=true∧ρ m=ρ m:=by
  intro m hm
  refine ⟨?_,rfl⟩
  rw [HEnv.get_cons];split <;> first|rfl|exact hm
 have hlive:∀ m hh,HEnv.get ((j,.pin (.box i off) u)::H) m=some hh→hh.live=true→H.get m=some hh:=by
  intro m hh hm hl
  rw [HEnv.get_cons] at hm
  split at hm
  ·simp only [Option.some.injEq] at hm;subst hm;simp [HE.live] at hl
  ·exact hm
 have hb:Yc u=true:=by cases u2;rfl
 have he2:EnvR K w ρ ((j,.pin (.box i off) u)::H) env a.tmps:=he.keeps (.refl K w) hkk
 refine (k u).go a w ⟨g1,g2,K,ρ,⟨hf.below,hf.old,hf.new,hf.lt,hf.others,hf.pt,fun m hh bb hm hl hb=>hf.away m hh bb (hlive m hh hm hl) hl hb,fun m hh hm=>?_,fun m m' hh hh' bb hmm hm hm' hl hl'=>hf.heap.apart m m' hh hh' bb hmm (hlive m hh hm hl) (hlive m' hh' hm' hl') hl hl'⟩,fun t' av' h'=>?_⟩
 ·rw [HEnv.get_cons] at hm
  split at hm
  ·simp only [Option.some.injEq] at hm;subst hm
   exact u2.keeps (.refl K w) hkk
  ·exact (hf.heap.ok m hh hm).keeps (.refl hf.lt) hf.lt hkk
 ·rw [Env.get_cons] at h'
  split at h'
  ·rename_i e
   subst e
   simp only [Option.some.injEq] at h'
   subst h'
   exact ⟨u,u1,.pv _ _ (.base _ hb)⟩
  ·exact he2 t' av' h'
end
end Go.Cg
