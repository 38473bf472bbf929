/- A part of the walks by abstract values: no statement of its own. -/
import Derived.Test.YtdngpcmllgnbjaaGreatE13
import Derived.Test.YtdngpcmllgnbjaaGreatE8
import Derived.Laws.Pointers
import Derived.Laws.CopyRow
import Derived.Test.YtdngpcmllgnbjaaGreatE6
import Derived.Test.YtdngpcmllgnbjaaGreatE5
set_option linter.unusedVariables false
set_option linter.unusedSimpArgs false
namespace Go.Cg
open Go.RowKit
section
variable {P:Program} {tb:Tab} {n:Nat} {g:Base} {H:HEnv} {env:Env} {ops:List Oper} {o:Oper} {rest:List Oper} {Q:Env→HEnv→Prop} {QQ:QC} {c:Code} {K:KK} {w:World} {ρ:Nat→Value} {a:Act}
def zby:AV→Option Bool
 | .box _ _=>some false
 | .pv (.ptr _ _)=>some false
 | .pv (.base (.pointer none))=>some true
 | _=>none
theorem yI {t rt pe:TypeId} {x:Operand} {av:AV} {b:Bool} (hop:o.op=.binOp .eql t x (.const (.pointer none)) rt) (hu0:P.underlying t=some (.pointer pe)) (hx:env.val x=some av) (hn:zby av=some b):QStep P g H o env (.pv (.base (.bool b))):=by
 have hu:P.underlying t=some (.pointer (P.pointee t)):=by rw [hu0,Program.pointee,hu0]
 refine ⟨fun K ρ a w hf hv=>?_⟩
 have hxr:=hv x (by rw [hop];simp [Op.operands]) _ hx
 generalize hxv:a.eval x=xv at hxr
 have key:∀ p:Option Addr,xv=.pointer p→p.isNone=b→zdv P K ρ H w (.pv (.base (.bool b))) ((execOp a.eval o).run P w):=by
  rintro p rfl rfl
  have h1:=run_eql_pointer_nil (P:=P) w t p hu
  have h2:a.eval (.const (.pointer none))=.pointer none:=rfl
  have hrun:(execOp a.eval o).run P w=.ok (.value (.bool p.isNone)) w:=by
   simp [execOp,hop,hxv,h2,eqGuard,h1]
  rw [hrun]
  exact Zm hf (.pv _ _ (.base _ rfl))
 cases hxr with
 | box i off b' hi hb=>simp only [zby,Option.some.injEq] at hn;exact key _ rfl (by simpa using hn)
 | pv p v hp =>
  cases hp with
  | ptr=>simp only [zby,Option.some.injEq] at hn;exact key _ rfl (by simpa using hn)
  | base v hb =>
   cases xv <;> simp only [zby] at hn <;> try cases hn
   rename_i p
   cases p with
   | none=>simp only [Option.some.injEq] at hn;exact key _ rfl (by simpa using hn)
   | some ad=>cases hn
  | _=>simp [zby] at hn
 | _=>simp [zby] at hn
def zdM (ρ:Nat→Value) (H:HEnv):AV→Option PV
 | .pv p=>some p
 | .own i=>match H.get i with
  | some (.mrow _ sz es)=>some (.slc sz es false)
  | some (.obj _)=>some (.base (ρ i))
  | _=>none
 | _=>none
def zlN (ρ:Nat→Value) (H:HEnv):List AV→Option (List PV)
 | []=>some []
 | x::xs=>match zdM ρ H x,zlN ρ H xs with|some p,some ps=>some (p::ps)|_,_=>none
def znc (ρ:Nat→Value) (H:HEnv):AV→Option PV
 | .box i off=>match H.get i with
  | some (.cell v)=>if v.flat.all (ziw H) then match zlN ρ H v.flat with|some cs=>some (.ptr (.agg cs) off)|none=>none else none
  | _=>none
 | av=>zdM ρ H av
def zk9 (ρ:Nat→Value) (env:Env) (H:HEnv):List Operand→Option (List PV)
 | []=>some []
 | x::xs=>match env.val x,zk9 ρ env H xs with
  | some av,some ps=>match znc ρ H av with|some p=>some (p::ps)|none=>none
  | _,_=>none
def zbU (K:KK) (ρ:Nat→Value) (H:HEnv):KK:=fun b o=>K b o∨(∃ i t sz es,H.get i=some (.mrow t sz es)∧(ρ i).ownBlock=some b∧o < es.length * sz)∨∃ i v,H.get i=some (.cell v)∧zA (ρ i)=some b
theorem zhR:Later K (zbU K ρ H) w w:=⟨fun _ _ h=>.inl h,fun _ _ _=>rfl⟩
theorem zkI (hf:FS g K ρ H w):∀ b o,zbU K ρ H b o→b < w.heap.size:=by
 rintro b o (h|⟨i,t,sz,es,hi,hb,_⟩|⟨i,v,hi,hb⟩)
 ·exact hf.lt b o h
 ·obtain ⟨us,hown,_⟩:=hf.heap.ok i _ hi
  exact (hown.lt b hb).2
 ·exact ((hf.heap.ok i _ hi).block_lt rfl hb).2
theorem ze4 (hf:FS g K ρ H w) {av:AV} {v:Value} (h:ARel K w ρ H av v) {p:PV} (hp:zdM ρ H av=some p):PRel (zbU K ρ H) w p v:=by
 cases h with
 | pv p' v h=>simp only [zdM,Option.some.injEq] at hp;subst hp;exact h.later zhR
 | own i hi0 =>
  simp only [zdM] at hp
  split at hp
  ·rename_i t sz es hi
   simp only [Option.some.injEq] at hp;subst hp
   obtain ⟨xs,hown,h0,hcr,hnK⟩:=hf.heap.ok i _ hi
   rcases hown.2 with ⟨hr,hz⟩|⟨b,cap,cur,hr,hB,hheap,hle,hcap,hsize,htake⟩
   ·rw [hr]
    have:es=[]:=List.eq_nil_of_length_eq_zero hz
    subst this;exact .nil sz false
   ·by_cases hes:es=[]
    ·subst hes
     rw [hr]
     exact .slc sz [] false b 0 cap (fun _=>[]) h0 (Nat.zero_le _) (by simp) (by simp [maxLen]) hcap (fun i e he=>by simp at he) (fun i e k c v he=>by simp at he)
    ·have hown':=hown
     rw [hr] at hown' ⊢
     have hxl:xs.length=es.length * sz:=hown.1
     refine .slc sz es false b 0 cap (fun i=>(xs.drop (i * sz)).take sz) h0 hle (by simp) (by omega) hcap (fun k e he=>?_) (fun k e m c v he hc hvv=>?_)
     ·obtain ⟨c1,c2⟩:=hcr k e he
      have hk:k < es.length:=(List.getElem?_eq_some_iff.1 he).1
      have hle2:k * sz + sz≤es.length * sz:=by rw [←Nat.succ_mul];exact Nat.mul_le_mul_right _ hk
      refine ⟨c1,by rw [List.length_take,List.length_drop];omega,fun m v hm=>?_⟩
      rw [List.getElem?_take] at hm
      split at hm
      ·rename_i hms
       rw [List.getElem?_drop] at hm
       obtain ⟨u,u1,u2,_⟩:=c2 m e.cells[m] (List.getElem?_eq_getElem (by omega))
       rw [u1,Option.some.injEq] at hm;subst hm
       exact ⟨.inr (.inl ⟨i,t,sz,es,hi,by rw [hr];rfl,by omega⟩),by rw [Nat.zero_add,hown'.cellAt _ (by omega)];exact u1,u2⟩
      ·cases hm
     ·obtain ⟨c1,c2⟩:=hcr k e he
      obtain ⟨u,u1,u2,u3⟩:=c2 m c hc
      rw [List.getElem?_take] at hvv
      split at hvv
      ·rw [List.getElem?_drop,u1,Option.some.injEq] at hvv
       subst hvv;exact u3.later zhR
      ·cases hvv
  ·rename_i X hi
   simp only [Option.some.injEq] at hp;subst hp
   obtain ⟨b,ob,hr,_⟩:=hf.heap.ok i _ hi
   exact .base _ (by rw [hr];rfl)
  ·cases hp
 | _=>simp [zdM] at hp
theorem zjz (hf:FS g K ρ H w):∀ {avs:List AV} {ps:List PV} {vs:List Value},vs.length=avs.length→(∀ (k:Nat) (c:AV) (v:Value),avs[k]?=some c→vs[k]?=some v→ARel K w ρ H c v)→zlN ρ H avs=some ps→PRels (zbU K ρ H) w ps vs
 | [],ps,vs,hl,_,h=>by
  simp only [zlN,Option.some.injEq] at h;subst h
  have:vs=[]:=List.eq_nil_of_length_eq_zero (by simpa using hl)
  subst this;exact .nil
 | x::xs,ps,vs,hl,hr,h=>by
  cases vs with
  | nil=>simp at hl
  | cons v vs =>
   simp only [zlN] at h
   split at h
   ·rename_i p qs e1 e2
    simp only [Option.some.injEq] at h;subst h
    exact .cons (ze4 hf (hr 0 x v rfl rfl) e1) (zjz hf (by simpa using hl) (fun k c v hc hv=>hr (k + 1) c v (by simpa using hc) (by simpa using hv)) e2)
   ·cases h
theorem zjc (hf:FS g K ρ H w) {av:AV} {v:Value} (h:ARel K w ρ H av v) {p:PV} (hp:znc ρ H av=some p):PRel (zbU K ρ H) w p v:=by
 by_cases hb:∃ i off,av=.box i off
 ·obtain ⟨i,off,rfl⟩:=hb
  simp only [znc] at hp
  split at hp
  ·rename_i u hi
   split at hp
   ·rename_i hone
    split at hp
    ·rename_i cs hcs
     simp only [Option.some.injEq] at hp;subst hp
     obtain ⟨b,t,arr,x,hr,hB,hheap,hx,harr,hn⟩:=hf.heap.ok i _ hi
     obtain ⟨f1,f2,f3⟩:=zbQ hx hone (row_one hf)
     have hps:=zjz hf (by simpa using f1) f3 hcs
     cases h with
     | box _ _ b' hi' hρ =>
      rw [hr] at hρ
      simp only [Value.pointer.injEq,Option.some.injEq,Addr.mk.injEq,and_true] at hρ
      subst hρ
      have:=PRel.ptr (K:=zbU K ρ H) (w:=w) (.agg cs) off b 0 x.cells.toList hps.1 (fun k v hk=>⟨.inr (.inr ⟨i,u,hi,by rw [hr];rfl⟩),by
       simp only [World.cell?,hheap,Nat.zero_add];rw [←harr];simpa using hk,f2 v (List.mem_of_getElem? hk)⟩) hps.2
      simpa using this
    ·cases hp
   ·cases hp
  ·cases hp
 ·have:znc ρ H av=zdM ρ H av:=by
   cases av <;> first|rfl|(exact absurd ⟨_,_,rfl⟩ hb)
  rw [this] at hp
  exact ze4 hf h hp
theorem zjt (hf:FS g K ρ H w):∀ {xs:List Operand} {ps:List PV},(∀ x∈xs,∀ av,env.val x=some av→ARel K w ρ H av (a.eval x))→zk9 ρ env H xs=some ps→PRels (zbU K ρ H) w ps (xs.map a.eval)
 | [],ps,_,h=>by simp [zk9] at h;subst h;exact .nil
 | x::xs,ps,hv,h=>by
  simp only [zk9] at h
  split at h
  ·rename_i av qs e1 e2
   split at h
   ·rename_i p e3
    simp only [Option.some.injEq] at h;subst h
    exact .cons (zjc hf (hv x (by simp) _ e1) e3) (zjt hf (fun y hy=>hv y (by simp [hy])) e2)
   ·cases h
  ·cases h
theorem zph {xs:Array Operand} {ts:Array TypeId} {f:FuncId} {args:(Nat→Value)→List PV} {r:Value} (hop:o.op=.call { callee:=.value (.func f),args:=xs,argTypes:=ts }) (hargs:∀ ρ,zk9 ρ env H xs.toList=some (args ρ))
  (hc:∀ ρ,ACall P f (args ρ) (.base r)):QStep P g H o env (.pv (.base r)):=by
 refine ⟨fun K ρ a w hf hv=>?_⟩
 have hp:=zjt hf (a:=a) (xs:=xs.toList) (fun x hx=>hv x (by rw [hop];simp [Op.operands,Call.operands];exact .inr (by simpa using hx))) (hargs ρ)
 have:(execOp a.eval o).run P w=.ok (.enter f (xs.toList.map a.eval).toArray) w:=by
  have e:(xs.toList.map a.eval).toArray=xs.map a.eval:=by rw [←Array.toList_map,Array.toArray_toList]
  rw [e]
  simp [execOp,hop,resolve,Act.eval,Deferred.ofValue,invoke,yX (hc ρ).stands]
 rw [this]
 refine ⟨rfl,((hc ρ).calls _ w _ (zkI hf) hp).mono fun e w'' ⟨v,K',h1,h2,h3⟩=>?_⟩
 cases h3 with
 | base _ hb=>exact ⟨_,K,h1,⟨h2.below,fun _ _ h=>h,fun _ _ h=>.inl h,fun b o h=>Nat.lt_of_lt_of_le (hf.lt b o h) h2.below.size⟩,.pv _ _ (.base _ hb)⟩
def cut (sz:Nat) (u:Value) (l h:Nat):Value:=match u with
 | .slice (some a) _ c=>.slice (some ⟨a.block,l * sz,none⟩) (h - l) (c - l)
 | v=>v
theorem zsL (sz:Nat) (u:Value) (l h:Nat) (hu:∃ a n c,u=.slice (some a) n c):YJ (cut sz u l h)=true:=by
 obtain ⟨a,n,c,rfl⟩:=hu;rfl
theorem zeR (htb:yA P tb) {t e d:Nat} {x:Operand} {lo hi:Option Operand} (i j:Nat) {sz:Nat} {es:List PV} {l h:Int} (hg:guardE ops env o=some true) (hop:o.op=.slice t x lo hi none) (hk:tb.k t=.sl e) (hke:tb.known e=true) (hsz:tb.size e=sz)
  (hx:env.val x=some (.own i)) (hi':H.get i=some (.mrow e sz es)) (hlo:YO env H 0 lo=some l) (hhi:YO env H es.length hi=some h) (h0:0≤l) (h1:l≤h) (h2:h≤es.length) (h3:l < es.length) (hj:H.get j=none) (hd:o.dst=some d) (ht:Nat.blt d n=true)
  (k:∀ u,AO P n g ops.toArray rest ((d,.pv (.base (cut sz u l.toNat h.toNat)))::env) ((j,.pin (.own i) u)::H) Q):AO P n g ops.toArray (o::rest) env H Q:=by
 refine ⟨fun a w hinv=>?_⟩
 have hw:=yB hinv hg
 obtain ⟨g1,g2,K,ρ,hf,he⟩:=hinv
 refine wpList_step fun KK hKK=>?_
 rw [if_pos hw]
 have hxr:=yL he hx
 generalize hxv:a.eval x=xv at hxr
 have el:=zaK (a:=a) hf (x:=lo) (fun y hy av hh=>yL he hh) hlo
 have eh:=zaK (a:=a) hf (x:=hi) (fun y hy av hh=>yL he hh) hhi
 have hko:tb.k e≠.oth:=by intro h;simp [Tab.known,h] at hke
 have hs:=run_sizeOf htb hko w
 have hh0:0≤h:=by omega
 have hlh:l≤((h.toNat:Nat):Int):=by omega
 have bounds:∀ cap:Nat,es.length≤cap→(Instr.sliceBounds true es.length cap (lo.map a.eval) (hi.map a.eval) none).run P w=.ok (l.toNat,h.toNat,cap) w:=by
  intro cap hcap
  have hhc:h≤(cap:Int):=by omega
  rcases el with ⟨rfl,rfl⟩|⟨y,k,rfl,hy⟩ <;> rcases eh with ⟨rfl,rfl⟩|⟨z,k',rfl,hz⟩
  ·simp [Instr.sliceBounds]
  ·simp [hz,Instr.sliceBounds,Instr.sliceBound,asIntOf,hhc,hh0]
  ·simp [hy,Instr.sliceBounds,Instr.sliceBound,asIntOf,h0,h1]
  ·simp [hy,hz,Instr.sliceBounds,Instr.sliceBound,asIntOf,h0,hlh,hhc,hh0]
   intro hc;omega
 obtain ⟨xs,hown,hz0,hcr,hnK⟩:=hf.heap.ok i _ hi'
 cases hxr with
 | own _ hi0 =>
  rcases hown.2 with ⟨hr,hz⟩|⟨b,cap,cur,hr,hB,hheap,hle,hcap,hsize,htake⟩
  ·omega
  ·have hb:=bounds cap hle
   have hrun:(execOp a.eval o).run P w=.ok (.value (cut sz (ρ i) l.toNat h.toNat)) w:=by
    rw [hr]
    have hne:¬ cap=l.toNat:=by omega
    simp [execOp,hop,hxv,hr,Instr.sliceAt,Instr.slice,run_underlying (yS htb hk),hb,hs,hsz,Addr.add_lit,cut,hne]
   unfold Oper.wp
   rw [hrun]
   simp only [Oper.upon]
   have hkk:∀ m,(H.get m).isSome=true→(HEnv.get ((j,.pin (.own i) (ρ i))::H) m).isSome=true∧(fun m=>if m=j then undef else ρ m) m=ρ m:=by
    intro m hm
    have hmj:m≠j:=by rintro rfl;rw [hj] at hm;cases hm
    refine ⟨?_,by simp [hmj]⟩
    rw [HEnv.get_cons];split <;> first|rfl|exact hm
   have hij:i≠j:=by rintro rfl;rw [hj] at hi';cases hi'
   refine hKK _ _ ((k (ρ i)).go _ _ ⟨yT g1,put_defers g2,K,ρ,⟨hf.below,hf.old,hf.new,hf.lt,hf.others,hf.pt,?_,?_,?_⟩,?_⟩)
   ·intro m hh bb hm hl hbb
    rw [HEnv.get_cons] at hm
    split at hm
    ·simp only [Option.some.injEq] at hm;subst hm;simp [HE.live] at hl
    ·exact hf.away m hh bb hm hl hbb
   ·intro m hh hm
    have hkk':∀ m,(H.get m).isSome=true→(HEnv.get ((j,.pin (.own i) (ρ i))::H) m).isSome=true∧ρ m=ρ m:=fun m hm=>⟨(hkk m hm).1,rfl⟩
    rw [HEnv.get_cons] at hm
    split at hm
    ·simp only [Option.some.injEq] at hm;subst hm
     have hold:ARel K w ρ H (.own i) (ρ i):=.own i (by rw [hi'];rfl)
     exact hold.keeps (.refl K w) hkk'
    ·exact (hf.heap.ok m hh hm).keeps (.refl hf.lt) hf.lt hkk'
   ·intro m m' hh hh' bb hmm hm hm' hl hl' hb1 hb2
    have hq:∀ m hh,HEnv.get ((j,.pin (.own i) (ρ i))::H) m=some hh→hh.live=true→H.get m=some hh:=by
     intro m hh hm hl
     rw [HEnv.get_cons] at hm
     split at hm
     ·simp only [Option.some.injEq] at hm;subst hm;simp [HE.live] at hl
     ·exact hm
    exact hf.heap.apart m m' hh hh' bb hmm (hq m hh hm hl) (hq m' hh' hm' hl') hl hl' hb1 hb2
   ·rw [hd]
    refine qW g1 ht (he.keeps (.refl K w) (fun m hm=>⟨(hkk m hm).1,rfl⟩)) (.pv _ _ (.base _ (zsL _ _ _ _ ⟨_,_,_,hr⟩)))
theorem zlc (htb:yA P tb) {ty e d m:Nat} {x y:Operand} {sz:Nat} {z:PV} {mi:Int} {kl kc:IntKind} (i:Nat) (hg:guardE ops env o=some true) (hop:o.op=.makeSlice ty x y) (hk:tb.k ty=.sl e) (hx:env.pv H x=some (.base (.int kl mi))) (hy:env.pv H y=some (.base (.int kc mi))) (hmi:mi=((m:Nat):Int))
  (hz:(match tb.zero e with|some v=>zce v|none=>none)=some z) (hzz:(match tb.get e with|some ti=>(match ti.zero with|some zv=>ti.size==sz&&zv.cells.size==sz&&Nat.blt 0 sz|none=>false)|none=>false)=true)
  (hb:(match tb.get e with|some ti=>ti.bytes|none=>0) * m≤281474976710656) (hm:m≤maxLen) (hi:H.get i=none) (hd:o.dst=some d) (ht:Nat.blt d n=true)
  (h:AO P n g ops.toArray rest ((d,.own i)::env) ((i,.mrow e sz (List.replicate m z))::H) Q):AO P n g ops.toArray (o::rest) env H Q:=by
 refine ⟨fun a w hinv=>?_⟩
 have hw:=yB hinv hg
 obtain ⟨h1,h2,K,ρ,hf,he⟩:=hinv
 refine wpList_step fun KK hKK=>?_
 rw [if_pos hw]
 subst hmi
 cases hti:tb.get e with
 | none=>simp [hti] at hzz
 | some ti =>
  cases hzv:ti.zero with
  | none=>simp [hti,hzv] at hzz
  | some zv =>
   simp only [hti,hzv,Bool.and_eq_true,beq_iff_eq] at hzz hb
   obtain ⟨⟨z1,z2⟩,z3⟩:=hzz
   have hsz:0 < sz:=Nat.le_of_ble_eq_true z3
   obtain ⟨tin,q1,q2,q3,q4,_⟩:=Zg htb hti
   have hzp:zce zv=some z:=by
    have:tb.zero e=some zv:=by unfold Tab.zero;rw [hti];exact hzv
    rw [this] at hz;exact hz
   have hxr:=yH (a:=a) hf (x:=x) (fun av hh=>yL he hh) hx
   have hyr:=yH (a:=a) hf (x:=y) (fun av hh=>yL he hh) hy
   generalize hxv:a.eval x=xv at hxr
   generalize hyv:a.eval y=yv at hyr
   cases hxr;cases hyr
   obtain ⟨w',r1,r2,r3⟩:=run_make_full w g.w0.heap.size ty e tin zv sz (yS htb hk) q1 (by rw [q4];exact hzv) (by omega) kl kc m (by rw [q3];exact hb) hm hf.below.size
   have hrun:(execOp a.eval o).run P w=.ok (.value (.slice (some ⟨w.heap.size,0,none⟩) m m)) w':=by
    simp [execOp,hop,hxv,hyv,r1]
   unfold Oper.wp
   rw [hrun]
   simp only [Oper.upon]
   have hev:Evo K K w w':=⟨⟨r3.os,r3.tape,r3.output,r3.size,fun k hk=>r3.block k hk (by simp)⟩,fun _ _ h=>h,fun _ _ h=>.inl h,fun b o h=>Nat.lt_of_lt_of_le (hf.lt b o h) r3.size⟩
   obtain ⟨hzr,hznt⟩:=zc0 (K:=K) (w:=w') hzp
   have hzc:=ZM hzr
   have hzo:=cells_one hzr hznt
   have hzl:zv.cells.toList.length=sz:=by simpa using z2
   refine hKK _ _ (h.go _ _ ⟨yT h1,put_defers h2,K,fun j=>if j=i then .slice (some ⟨w.heap.size,0,none⟩) m m else ρ j,hf.fresh hev hi ⟨(madeCells zv.cells (m * sz)).toList,by rw [List.length_replicate];exact r2,hsz,?_,?_⟩ (by simp [zA]),?_⟩)
   ·intro i1 e1 he1
    have hi1:i1 < m:=by have:=(List.getElem?_eq_some_iff.1 he1).1;simpa using this
    have e2:e1=z:=by rw [List.getElem?_replicate,if_pos hi1] at he1;simpa using he1.symm
    subst e2
    have hl:e1.cells.length=sz:=by rw [←hzl,hzc.1]
    refine ⟨hl,fun k c' hc'=>?_⟩
    have hk:k < sz:=by rw [←hl];exact (List.getElem?_eq_some_iff.1 hc').1
    have hkz:k < zv.cells.size:=by omega
    have hu:zv.cells.toList[k]?=some zv.cells[k]:=by simp [hkz]
    refine ⟨zv.cells[k],?_,hzo _ (List.mem_of_getElem? hu),hzc.2 k c' _ hc' hu⟩
    have hlt:i1 * sz + k < m * sz:=by
     have:i1 * sz + sz≤m * sz:=by rw [←Nat.succ_mul];exact Nat.mul_le_mul_right _ hi1
     omega
    have hmod:(i1 * sz + k) % zv.cells.size=k:=by rw [z2,Nat.add_comm,Nat.add_mul_mod_self_right];exact Nat.mod_eq_of_lt hk
    simp [madeCells,hlt,hmod,hkz]
   ·intro b hb o ho
    simp [Value.ownBlock] at hb
    subst hb
    have:=hf.lt _ _ ho
    omega
   ·rw [hd]
    refine qW h1 ht (he.keeps (hev.later hf.lt) (qj hi _ _)) ?_
    have:=ARel.own (K:=K) (w:=w') (ρ:=fun j=>if j=i then .slice (some ⟨w.heap.size,0,none⟩) m m else ρ j) (H:=(i,HE.mrow e sz (List.replicate m z))::H) i (by simp [HEnv.get_cons])
    simpa using this
end
section
variable {P:Program} {tb:Tab} {n:Nat} {g:Base} {H:HEnv} {env:Env} {ops:List Oper} {o:Oper} {rest:List Oper} {Q:Env→HEnv→Prop} {QQ:QC} {c:Code} {K:KK} {w:World} {ρ:Nat→Value} {a:Act}
def zib (ρ:Nat→Value) (H:HEnv):List AV→Option (List PV)
 | []=>some []
 | x::xs=>match znc ρ H x,zib ρ H xs with|some p,some ps=>some (p::ps)|_,_=>none
def zpw (ρ:Nat→Value) (H:HEnv):AV→Option PV
 | .box i off=>match H.get i with
  | some (.cell v)=>if v.flat.all (ziw H) then match zib ρ H v.flat with|some cs=>some (.ptr (.agg cs) off)|none=>none else none
  | _=>none
 | av=>zdM ρ H av
def zfi (ρ:Nat→Value) (env:Env) (H:HEnv):List Operand→Option (List PV)
 | []=>some []
 | x::xs=>match env.val x,zfi ρ env H xs with
  | some av,some ps=>match zpw ρ H av with|some p=>some (p::ps)|none=>none
  | _,_=>none
theorem zh1 (hf:FS g K ρ H w):∀ {avs:List AV} {ps:List PV} {vs:List Value},vs.length=avs.length→(∀ (k:Nat) (c:AV) (v:Value),avs[k]?=some c→vs[k]?=some v→ARel K w ρ H c v)→zib ρ H avs=some ps→PRels (zbU K ρ H) w ps vs
 | [],ps,vs,hl,_,h=>by
  simp only [zib,Option.some.injEq] at h;subst h
  have:vs=[]:=List.eq_nil_of_length_eq_zero (by simpa using hl)
  subst this;exact .nil
 | x::xs,ps,vs,hl,hr,h=>by
  cases vs with
  | nil=>simp at hl
  | cons v vs =>
   simp only [zib] at h
   split at h
   ·rename_i p qs e1 e2
    simp only [Option.some.injEq] at h;subst h
    exact .cons (zjc hf (hr 0 x v rfl rfl) e1) (zh1 hf (by simpa using hl) (fun k c v hc hv=>hr (k + 1) c v (by simpa using hc) (by simpa using hv)) e2)
   ·cases h
theorem zqK (hf:FS g K ρ H w) {av:AV} {v:Value} (h:ARel K w ρ H av v) {p:PV} (hp:zpw ρ H av=some p):PRel (zbU K ρ H) w p v:=by
 by_cases hb:∃ i off,av=.box i off
 ·obtain ⟨i,off,rfl⟩:=hb
  simp only [zpw] at hp
  split at hp
  ·rename_i u hi
   split at hp
   ·rename_i hone
    split at hp
    ·rename_i cs hcs
     simp only [Option.some.injEq] at hp;subst hp
     obtain ⟨b,t,arr,x,hr,hB,hheap,hx,harr,hn⟩:=hf.heap.ok i _ hi
     obtain ⟨f1,f2,f3⟩:=zbQ hx hone (row_one hf)
     have hps:=zh1 hf (by simpa using f1) f3 hcs
     cases h with
     | box _ _ b' hi' hρ =>
      rw [hr] at hρ
      simp only [Value.pointer.injEq,Option.some.injEq,Addr.mk.injEq,and_true] at hρ
      subst hρ
      have:=PRel.ptr (K:=zbU K ρ H) (w:=w) (.agg cs) off b 0 x.cells.toList hps.1 (fun k v hk=>⟨.inr (.inr ⟨i,u,hi,by rw [hr];rfl⟩),by
       simp only [World.cell?,hheap,Nat.zero_add];rw [←harr];simpa using hk,f2 v (List.mem_of_getElem? hk)⟩) hps.2
      simpa using this
    ·cases hp
   ·cases hp
  ·cases hp
 ·have:zpw ρ H av=zdM ρ H av:=by
   cases av <;> first|rfl|(exact absurd ⟨_,_,rfl⟩ hb)
  rw [this] at hp
  exact ze4 hf h hp
theorem zcY (hf:FS g K ρ H w):∀ {xs:List Operand} {ps:List PV},(∀ x∈xs,∀ av,env.val x=some av→ARel K w ρ H av (a.eval x))→zfi ρ env H xs=some ps→PRels (zbU K ρ H) w ps (xs.map a.eval)
 | [],ps,_,h=>by simp [zfi] at h;subst h;exact .nil
 | x::xs,ps,hv,h=>by
  simp only [zfi] at h
  split at h
  ·rename_i av qs e1 e2
   split at h
   ·rename_i p e3
    simp only [Option.some.injEq] at h;subst h
    exact .cons (zqK hf (hv x (by simp) _ e1) e3) (zcY hf (fun y hy=>hv y (by simp [hy])) e2)
   ·cases h
  ·cases h
theorem Yf {xs:Array Operand} {ts:Array TypeId} {f:FuncId} {args:(Nat→Value)→List PV} {r:Value} (hop:o.op=.call { callee:=.value (.func f),args:=xs,argTypes:=ts }) (hargs:∀ ρ,zfi ρ env H xs.toList=some (args ρ))
  (hc:∀ ρ,ACall P f (args ρ) (.base r)):QStep P g H o env (.pv (.base r)):=by
 refine ⟨fun K ρ a w hf hv=>?_⟩
 have hp:=zcY hf (a:=a) (xs:=xs.toList) (fun x hx=>hv x (by rw [hop];simp [Op.operands,Call.operands];exact .inr (by simpa using hx))) (hargs ρ)
 have:(execOp a.eval o).run P w=.ok (.enter f (xs.toList.map a.eval).toArray) w:=by
  have e:(xs.toList.map a.eval).toArray=xs.map a.eval:=by rw [←Array.toList_map,Array.toArray_toList]
  rw [e]
  simp [execOp,hop,resolve,Act.eval,Deferred.ofValue,invoke,yX (hc ρ).stands]
 rw [this]
 refine ⟨rfl,((hc ρ).calls _ w _ (zkI hf) hp).mono fun e w'' ⟨v,K',h1,h2,h3⟩=>?_⟩
 cases h3 with
 | base _ hb=>exact ⟨_,K,h1,⟨h2.below,fun _ _ h=>h,fun _ _ h=>.inl h,fun b o h=>Nat.lt_of_lt_of_le (hf.lt b o h) h2.below.size⟩,.pv _ _ (.base _ hb)⟩
theorem zjh {t rt pe:TypeId} {x:Operand} {i off:Nat} (hop:o.op=.binOp .eql t x (.const (.pointer none)) rt) (hu0:P.underlying t=some (.pointer pe)) (hx:env.val x=some (.ad i off)):QStep P g H o env (.pv (.base (.bool false))):=by
 have hu:P.underlying t=some (.pointer (P.pointee t)):=by rw [hu0,Program.pointee,hu0]
 refine ⟨fun K ρ a w hf hv=>?_⟩
 have hxr:=hv x (by rw [hop];simp [Op.operands]) _ hx
 generalize hxv:a.eval x=xv at hxr
 cases hxr with
 | ad _ _ b m c hi hb =>
  have h1:=run_eql_pointer_nil (P:=P) w t (some ⟨b,off,none⟩) hu
  have h2:a.eval (.const (.pointer none))=.pointer none:=rfl
  have hrun:(execOp a.eval o).run P w=.ok (.value (.bool false)) w:=by
   simp [execOp,hop,hxv,h2,eqGuard,h1]
  rw [hrun]
  exact Zm hf (.pv _ _ (.base _ rfl))
theorem zpB {x:Operand} {i off:Nat} (hop:o.op=.nilCheck x) (hx:env.val x=some (.ad i off)):QStep P g H o env (.ad i off):=by
 refine ⟨fun K ρ a w hf hv=>?_⟩
 have hxr:=hv x (by rw [hop];simp [Op.operands]) _ hx
 generalize hxv:a.eval x=xv at hxr
 cases hxr with
 | ad _ _ b m c hi hb =>
  have hrun:(execOp a.eval o).run P w=.ok (.value (.pointer (some ⟨b,off,none⟩))) w:=by simp [execOp,hop,hxv]
  rw [hrun]
  exact Zm hf (.ad i off b m c hi hb)
theorem zpf (htb:yA P tb) {t f:Nat} {x:Operand} {i off o' ft s:Nat} {fs:List (Nat × Nat × Nat)} (hop:o.op=.fieldAddr t x f) (hx:env.val x=some (.ad i off)) (hk:∃ q,tb.k t=.agg fs q) (hfe:fs[f]?=some (o',ft,s)) (hs:zd1 tb ft s=true):QStep P g H o env (.ad i (off + o')):=by
 refine ⟨fun K ρ a w hf hv=>?_⟩
 obtain ⟨q,hk⟩:=hk
 simp only [zd1,Bool.and_eq_true,bne_iff_ne,beq_iff_eq] at hs
 obtain ⟨F,hF,hfs',_⟩:=Wy htb hk
 have hf':∃ fl:Field,F[f]?=some fl∧fl.offset=o'∧fl.type=ft:=by
  rw [←hfs',List.getElem?_map,Array.getElem?_toList] at hfe
  cases hfl:F[f]? with
  | none=>simp [hfl] at hfe
  | some fl=>simp [hfl] at hfe;exact ⟨fl,rfl,hfe.1,hfe.2.1⟩
 obtain ⟨fl,hfl,rfl,rfl⟩:=hf'
 have hko:tb.k fl.type≠.oth:=by intro e;simp [Tab.known,e] at hs
 have hsz:=run_sizeOf htb hko w
 have hne:tb.size fl.type≠0:=by omega
 have hxr:=hv x (by rw [hop];simp [Op.operands]) _ hx
 generalize hxv:a.eval x=xv at hxr
 cases hxr with
 | ad _ _ b m c hi hb =>
  have hrun:(execOp a.eval o).run P w=.ok (.value (.pointer (some ⟨b,off + fl.offset,none⟩))) w:=by
   simp [execOp,hop,Instr.fieldAt,run_underlying hF,hfl,hxv,Instr.sureAddr,fieldPlace,hsz,hne,Addr.add_lit]
  rw [hrun]
  exact Zm hf (.ad i (off + fl.offset) b m c hi hb)
theorem ztm (htb:yA P tb) {ty e:Nat} {x:Operand} {i sz:Nat} {es:List PV} (hop:o.op=.call { callee:=.builtin .len,args:=#[x],argTypes:=#[ty] }) (hx:env.val x=some (.own i)) (hi:H.get i=some (.mrow e sz es)) (hk:tb.k ty=.sl e):QStep P g H o env (.pv (.base (.int .i64 es.length))):=by
 refine ⟨fun K ρ a w hf hv=>?_⟩
 have hxr:=hv x (by rw [hop];simp [Op.operands,Call.operands]) _ hx
 generalize hxv:a.eval x=xv at hxr
 obtain ⟨us,hown,hsz,hcr,hKK'⟩:=hf.heap.ok i _ hi
 cases hxr with
 | own _ _ =>
  have hrun:(execOp a.eval o).run P w=.ok (.value (.int .i64 es.length)) w:=by
   have hl:∃ ad c,ρ i=.slice ad es.length c:=by
    rcases hown.2 with ⟨h,h2⟩|⟨b,cap,cur,h,_⟩
    ·exact ⟨none,0,by rw [h,h2]⟩
    ·exact ⟨_,_,h⟩
   obtain ⟨ad,c,hl⟩:=hl
   simp [execOp,hop,resolve,invoke,builtin,Builtin.len_,hxv,hl,run_underlying (yS htb hk),goInt]
  rw [hrun]
  exact Zm hf (.pv _ _ (.base _ rfl))
theorem zav {t rt pe:TypeId} {x:Operand} {av:AV} {b:Bool} (hop:o.op=.binOp .neq t x (.const (.pointer none)) rt) (hu0:P.underlying t=some (.pointer pe)) (hx:env.val x=some av) (hn:zby av=some b):QStep P g H o env (.pv (.base (.bool (!b)))):=by
 have hu:P.underlying t=some (.pointer (P.pointee t)):=by rw [hu0,Program.pointee,hu0]
 refine ⟨fun K ρ a w hf hv=>?_⟩
 have hxr:=hv x (by rw [hop];simp [Op.operands]) _ hx
 generalize hxv:a.eval x=xv at hxr
 have key:∀ p:Option Addr,xv=.pointer p→p.isNone=b→zdv P K ρ H w (.pv (.base (.bool (!b)))) ((execOp a.eval o).run P w):=by
  rintro p rfl rfl
  have h1:=run_neq_pointer_nil (P:=P) w t p hu
  have h2:a.eval (.const (.pointer none))=.pointer none:=rfl
  have hrun:(execOp a.eval o).run P w=.ok (.value (.bool !p.isNone)) w:=by
   simp [execOp,hop,hxv,h2,eqGuard,h1]
  rw [hrun]
  exact Zm hf (.pv _ _ (.base _ rfl))
 cases hxr with
 | box i off b' hi hb=>simp only [zby,Option.some.injEq] at hn;exact key _ rfl (by simpa using hn)
 | pv p v hp =>
  cases hp with
  | ptr=>simp only [zby,Option.some.injEq] at hn;exact key _ rfl (by simpa using hn)
  | base v hb =>
   cases xv <;> simp only [zby] at hn <;> try cases hn
   rename_i p
   cases p with
   | none=>simp only [Option.some.injEq] at hn;exact key _ rfl (by simpa using hn)
   | some ad=>cases hn
  | _=>simp [zby] at hn
 | _=>simp [zby] at hn
theorem zdH {xs:Array Operand} {ts:Array TypeId} {f:FuncId} {args:(Nat→Value)→List PV} {e:TypeId} {sz:Nat} {es:List PV} (hop:o.op=.call { callee:=.value (.func f),args:=xs,argTypes:=ts }) (hargs:∀ ρ,zfi ρ env H xs.toList=some (args ρ))
  (hc:∀ ρ,ACallR P f (args ρ) e sz es) (hsz:0 < sz) (hb:∀ p∈es,∃ u,p=.base u):QStep P g H o env (.pv (.slc sz es false)):=by
 refine ⟨fun K ρ a w hf hv=>?_⟩
 have hp:=zcY hf (a:=a) (xs:=xs.toList) (fun x hx=>hv x (by rw [hop];simp [Op.operands,Call.operands];exact .inr (by simpa using hx))) (hargs ρ)
 have:(execOp a.eval o).run P w=.ok (.enter f (xs.toList.map a.eval).toArray) w:=by
  have e:(xs.toList.map a.eval).toArray=xs.map a.eval:=by rw [←Array.toList_map,Array.toArray_toList]
  rw [e]
  simp [execOp,hop,resolve,Act.eval,Deferred.ofValue,invoke,yX (hc ρ).stands]
 rw [this]
 refine ⟨rfl,((hc ρ).calls _ w _ (zkI hf) hp).mono fun ex w'' ⟨v,K',us,h1,h2,hown,hcr,hk⟩=>?_⟩
 refine ⟨v,fun b o=>K b o∨(v.ownBlock=some b∧o < es.length * sz),h1,⟨h2.below,fun _ _ h=>.inl h,fun b o h=>h.imp id fun h=>(hown.lt b h.1).1,fun b o h=>?_⟩,.pv _ _ ?_⟩
 ·rcases h with h|h
  ·exact Nat.lt_of_lt_of_le (hf.lt b o h) h2.below.size
  ·exact (hown.lt b h.1).2
 ·have hbase:∀ (c:PV) (u:Value) (i:Nat) (p:PV) (m:Nat),es[i]?=some p→p.cells[m]?=some c→PRel K' w'' c u→PRel (fun b o=>K b o∨(v.ownBlock=some b∧o < es.length * sz)) w'' c u:=by
   intro c u i p m hpe hc hr
   obtain ⟨x,rfl⟩:=hb p (List.mem_of_getElem? hpe)
   cases m with
   | zero=>simp [PV.cells] at hc;subst hc;cases hr with|base _ h=>exact .base _ h
   | succ m=>simp [PV.cells] at hc
  rcases hown.2 with ⟨hr,hz⟩|⟨b,cap,cur,hr,hB,hheap,hle,hcap,hsize,htake⟩
  ·rw [hr]
   have:es=[]:=List.eq_nil_of_length_eq_zero hz
   subst this;exact .nil sz false
  ·by_cases hes:es=[]
   ·subst hes
    rw [hr]
    exact .slc sz [] false b 0 cap (fun _=>[]) hsz (Nat.zero_le _) (by simp) (by simp [maxLen]) hcap (fun i e he=>by simp at he) (fun i e k c v he=>by simp at he)
   ·have hown':=hown
    have hxl:us.length=es.length * sz:=hown.1
    have hvb:v.ownBlock=some b:=by rw [hr];rfl
    rw [hr] at hown'
    have goal:PRel (fun b o=>K b o∨(v.ownBlock=some b∧o < es.length * sz)) w'' (.slc sz es false) (.slice (some ⟨b,0,none⟩) es.length cap):=by
     refine .slc sz es false b 0 cap (fun i=>(us.drop (i * sz)).take sz) hsz hle (by simp) (by omega) hcap (fun k e he=>?_) (fun k e m c v he hc hvv=>?_)
     ·obtain ⟨c1,c2⟩:=hcr k e he
      have hk:k < es.length:=(List.getElem?_eq_some_iff.1 he).1
      have hle2:k * sz + sz≤es.length * sz:=by rw [←Nat.succ_mul];exact Nat.mul_le_mul_right _ hk
      refine ⟨c1,by rw [List.length_take,List.length_drop];omega,fun m u hm=>?_⟩
      rw [List.getElem?_take] at hm
      split at hm
      ·rename_i hms
       rw [List.getElem?_drop] at hm
       obtain ⟨u',u1,u2,_⟩:=c2 m e.cells[m] (List.getElem?_eq_getElem (by omega))
       rw [u1,Option.some.injEq] at hm;subst hm
       exact ⟨.inr ⟨hvb,by omega⟩,by rw [Nat.zero_add,hown'.cellAt _ (by omega)];exact u1,u2⟩
      ·cases hm
     ·obtain ⟨c1,c2⟩:=hcr k e he
      obtain ⟨u,u1,u2,u3⟩:=c2 m c hc
      rw [List.getElem?_take] at hvv
      split at hvv
      ·rw [List.getElem?_drop,u1,Option.some.injEq] at hvv
       subst hvv;exact hbase _ _ k e m he hc u3
      ·cases hvv
    rw [←hr] at goal
    exact goal
theorem zon (i j:Nat) (hi:(H.get i).isSome=true) (_:H.get j=none) (k:∀ u,AW P n g c env ((j,.pin (.own i) u)::H) QQ):AW P n g c env H QQ:=by
 refine ⟨fun a w hinv=>?_⟩
 obtain ⟨g1,g2,K,ρ,hf,he⟩:=hinv
 have hkk:∀ m,(H.get m).isSome=true→(HEnv.get ((j,.pin (.own i) (ρ i))::H) m).isSome=true∧ρ m=ρ m:=by
  intro m hm
  refine ⟨?_,rfl⟩
  rw [HEnv.get_cons];split <;> first|rfl|exact hm
 have hlive:∀ m hh,HEnv.get ((j,.pin (.own i) (ρ i))::H) m=some hh→hh.live=true→H.get m=some hh:=by
  intro m hh hm hl
  rw [HEnv.get_cons] at hm
  split at hm
  ·simp only [Option.some.injEq] at hm;subst hm;simp [HE.live] at hl
  ·exact hm
 refine (k (ρ i)).go a w ⟨g1,g2,K,ρ,⟨hf.below,hf.old,hf.new,hf.lt,hf.others,hf.pt,fun m hh bb hm hl hb=>hf.away m hh bb (hlive m hh hm hl) hl hb,fun m hh hm=>?_,fun m m' hh hh' bb hmm hm hm' hl hl'=>hf.heap.apart m m' hh hh' bb hmm (hlive m hh hm hl) (hlive m' hh' hm' hl') hl hl'⟩,he.keeps (.refl K w) hkk⟩
 rw [HEnv.get_cons] at hm
 split at hm
 ·simp only [Option.some.injEq] at hm;subst hm
  have hold:ARel K w ρ H (.own i) (ρ i):=.own i hi
  exact hold.keeps (.refl K w) hkk
 ·exact (hf.heap.ok m hh hm).keeps (.refl hf.lt) hf.lt hkk
theorem zuo (htb:yA P tb) {t e:Nat} {x:Operand} {hi:Option Operand} (i j:Nat) {u:Value} {sz:Nat} {es:List PV} {h:Int} (hop:o.op=.slice t x none hi none) (hk:tb.k t=.sl e) (hke:tb.known e=true) (hsz:tb.size e=sz)
  (hx:env.val x=some (.own i)) (hi':H.get i=some (.mrow e sz es)) (hj:H.get j=some (.pin (.own i) u)) (hhi:YO env H es.length hi=some h) (h1:0≤h) (h2:h≤es.length) (h3:0 < es.length):QStep P g H o env (.pv (.base (cut sz u 0 h.toNat))):=by
 refine ⟨fun K ρ a w hf hv=>?_⟩
 have hxr:=hv x (by rw [hop];simp [Op.operands]) _ hx
 generalize hxv:a.eval x=xv at hxr
 have eh:=zaK (a:=a) hf (x:=hi) (fun y hy av hh=>hv y (by rw [hop];simp [Op.operands];exact .inr (by simpa using hy)) av hh) hhi
 have hko:tb.k e≠.oth:=by intro h;simp [Tab.known,h] at hke
 have hs:=run_sizeOf htb hko w
 have bounds:∀ cap:Nat,es.length≤cap→(Instr.sliceBounds true es.length cap none (hi.map a.eval) none).run P w=.ok (0,h.toNat,cap) w:=by
  intro cap hcap
  have hhc:h≤(cap:Int):=by omega
  rcases eh with ⟨rfl,rfl⟩|⟨z,k',rfl,hz⟩
  ·simp [Instr.sliceBounds]
  ·simp [hz,Instr.sliceBounds,Instr.sliceBound,asIntOf,hhc,h1]
 obtain ⟨xs,hown,hz0,hcr,hnK⟩:=hf.heap.ok i _ hi'
 have hpin:=hf.heap.ok j _ hj
 have hu:u=ρ i:=by
  have hp:ARel K w ρ H (.own i) u:=hpin
  cases hp;rfl
 cases hxr with
 | own _ hi0 =>
  rcases hown.2 with ⟨hr,hz⟩|⟨b,cap,cur,hr,hB,hheap,hle,hcap,hsize,htake⟩
  ·omega
  ·have hb:=bounds cap hle
   have hrun:(execOp a.eval o).run P w=.ok (.value (cut sz u 0 h.toNat)) w:=by
    have hne:¬ cap=0:=by omega
    rw [hu,hr]
    simp [execOp,hop,hxv,hr,Instr.sliceAt,Instr.slice,run_underlying (yS htb hk),hb,hs,hsz,Addr.add_lit,cut]
   rw [hrun]
   exact Zm hf (.pv _ _ (.base _ (zsL _ _ _ _ ⟨_,_,_,by rw [hu,hr]⟩)))
theorem zqb (b i j k:Nat) {e sz h:Nat} {u:Value} {es:List PV} {cs:List AV} (hb:H.get b=some (.cell (.agg cs))) (hk:cs[k]?=some (.pv (.base (cut sz u 0 h)))) (hi:H.get i=some (.mrow e sz es)) (hj:H.get j=some (.pin (.own i) u)) (hh:h≤es.length) (h3:0 < es.length)
  (kk:AW P n g c (zcv i env) ((b,.cell (.agg ((kills i cs).set k (.own i))))::(i,.mrow e sz (es.take h))::Yp i H) QQ):AW P n g c env H QQ:=by
 refine ⟨fun a w hinv=>?_⟩
 obtain ⟨g1,g2,K,ρ,hf,he⟩:=hinv
 obtain ⟨xs,hown,hz0,hcr,hnK⟩:=hf.heap.ok i _ hi
 have hpin:ARel K w ρ H (.own i) u:=hf.heap.ok j _ hj
 have hu:u=ρ i:=by cases hpin;rfl
 have hne:b≠i:=by rintro rfl;rw [hi] at hb;cases hb
 rcases hown.2 with ⟨hr,hz⟩|⟨bb,cap,cur,hr,hB,hheap,hle,hcap,hsize,htake⟩
 ·omega
 ·obtain ⟨v,hv⟩:∃ v:Value,v=.slice (some ⟨bb,0,none⟩) h cap:=⟨_,rfl⟩
  have hcut:cut sz u 0 h=v:=by rw [hu,hr,hv];simp [cut]
  have hnp:∀ b,ρ i=.pointer (some ⟨b,0,none⟩)→False:=by intro b hb;rw [hr] at hb;cases hb
  have hsome:∀ j,((Yp i H).get j).isSome=(H.get j).isSome:=by intro j;rw [ZA];cases H.get j <;> rfl
  have hkeep:∀ m,m≠i→(H.get m).isSome=true→(HEnv.get ((b,.cell (.agg ((kills i cs).set k (.own i))))::(i,.mrow e sz (es.take h))::Yp i H) m).isSome=true∧(fun m=>if m=i then v else ρ m) m=ρ m:=by
   intro m hne hm
   refine ⟨?_,by simp [hne]⟩
   rw [HEnv.get_cons]
   split
   ·rfl
   ·rw [HEnv.get_cons,if_neg (Ne.symm hne),hsome];exact hm
  have htr:∀ av x,ARel K w ρ H av x→ARel K w (fun m=>if m=i then v else ρ m) ((b,.cell (.agg ((kills i cs).set k (.own i))))::(i,.mrow e sz (es.take h))::Yp i H) (kill i av) x:=fun av x h=>h.kill (.refl K w) i hkeep hnp (row_one hf i (by simp [isVal,hi]))
  have hvb:zA v=zA (ρ i):=by rw [hv,hr];rfl
  have hget:∀ (m:Nat) (x:HE),m≠i→m≠b→HEnv.get ((b,.cell (.agg ((kills i cs).set k (.own i))))::(i,.mrow e sz (es.take h))::Yp i H) m=some x→∃ h0,H.get m=some h0∧x=killHE i h0∧(x.live=true→h0.live=true):=by
   intro m x hmi hmb hm
   rw [HEnv.get_cons,if_neg (Ne.symm hmb),HEnv.get_cons,if_neg (Ne.symm hmi),ZA] at hm
   cases hH:H.get m with
   | none=>simp [hH] at hm
   | some e0 =>
    simp only [hH,Option.map_some,Option.some.injEq] at hm
    subst hm
    exact ⟨e0,rfl,rfl,by cases e0 <;> exact id⟩
  have hlv:∀ (m:Nat) (x:HE),HEnv.get ((b,.cell (.agg ((kills i cs).set k (.own i))))::(i,.mrow e sz (es.take h))::Yp i H) m=some x→x.live=true→∃ h0,H.get m=some h0∧h0.live=true∧zA ((fun m=>if m=i then v else ρ m) m)=zA (ρ m):=by
   intro m x hm hl
   by_cases hmb:m=b
   ·subst hmb;exact ⟨_,hb,rfl,by simp [hne]⟩
   ·by_cases hmi:m=i
    ·subst hmi;exact ⟨_,hi,rfl,by simp [hvb]⟩
    ·obtain ⟨h0,a1,a2,a3⟩:=hget m x hmi hmb hm
     exact ⟨h0,a1,a3 hl,by simp [hmi]⟩
  have hlen:(es.take h).length=h:=by rw [List.length_take];omega
  refine kk.go a w ⟨g1,g2,K,fun m=>if m=i then v else ρ m,⟨hf.below,hf.old,hf.new,hf.lt,hf.others,hf.pt,?_,?_,?_⟩,?_⟩
  ·intro m x b2 hm hl hb2
   obtain ⟨h0,a1,a2,a3⟩:=hlv m x hm hl
   exact hf.away m h0 b2 a1 a2 (by rw [←a3];exact hb2)
  ·intro m x hm
   by_cases hmb:m=b
   ·subst hmb
    rw [HEnv.get_cons,if_pos rfl] at hm
    simp only [Option.some.injEq] at hm;subst hm
    simp only [hne,if_false]
    obtain ⟨b',t',arr,x',q1,q2,q3,q4,q5,q6⟩:=hf.heap.ok m _ hb
    refine ⟨b',t',arr,x',q1,q2,q3,?_,q5,q6⟩
    cases q4 with
    | agg _ vs a1 a2 a3 =>
     refine .agg _ vs (by simpa [QO] using a1) a2 fun k' c' v' hc hvv=>?_
     rw [List.getElem?_set] at hc
     split at hc
     ·rename_i e1;subst e1
      split at hc
      ·simp only [Option.some.injEq] at hc;subst hc
       have:=a3 k _ v' hk hvv
       cases this with
       | pv _ _ hp =>
        cases hp
        rw [hcut]
        have:=ARel.own (K:=K) (w:=w) (ρ:=fun m=>if m=i then v else ρ m) (H:=(m,.cell (.agg ((kills i cs).set k (.own i))))::(i,HE.mrow e sz (es.take h))::Yp i H) i (by rw [HEnv.get_cons,if_neg hne,HEnv.get_cons,if_pos rfl];rfl)
        simpa using this
      ·cases hc
     ·rw [zaO] at hc
      cases hcs:cs[k']? with
      | none=>simp [hcs] at hc
      | some c0=>simp [hcs] at hc;subst hc;exact htr _ _ (a3 k' c0 v' hcs hvv)
   ·by_cases hmi:m=i
    ·subst hmi
     rw [HEnv.get_cons,if_neg hne,HEnv.get_cons,if_pos rfl] at hm
     simp only [Option.some.injEq] at hm;subst hm
     simp only [if_true]
     have hxl:xs.length=es.length * sz:=hown.1
     have hle2:h * sz≤es.length * sz:=Nat.mul_le_mul_right _ hh
     refine ⟨xs.take (h * sz),⟨by rw [hlen,List.length_take];omega,.inr ⟨bb,cap,cur,by rw [hv,hlen],hB,hheap,by rw [hlen];omega,hcap,hsize,?_⟩⟩,hz0,?_,?_⟩
     ·rw [hlen,←htake,List.take_take];congr 1;omega
     ·intro k1 e1 he1
      rw [List.getElem?_take] at he1
      split at he1
      ·rename_i hk1
       obtain ⟨c1,c2⟩:=hcr k1 e1 he1
       refine ⟨c1,fun m c hc=>?_⟩
       obtain ⟨v,v1,v2,v3⟩:=c2 m c hc
       have hm:m < sz:=by have:=(List.getElem?_eq_some_iff.1 hc).1;omega
       refine ⟨v,?_,v2,v3⟩
       rw [List.getElem?_take,if_pos]
       ·exact v1
       ·have:(k1 + 1) * sz≤h * sz:=Nat.mul_le_mul_right _ hk1
        rw [Nat.succ_mul] at this;omega
      ·cases he1
     ·intro b' hb' o
      exact hnK b' (by rw [hr];rw [hv] at hb';exact hb') o
    ·obtain ⟨h0,a1,a2,a3⟩:=hget m x hmi hmb hm
     subst a2
     simp only [hmi,if_false]
     have hok:=hf.heap.ok m h0 a1
     cases h0 with
     | cell v=>obtain ⟨b',t',arr,x',q1,q2,q3,q4,q5,q6⟩:=hok;exact ⟨b',t',arr,x',q1,q2,q3,htr _ _ q4,q5,q6⟩
     | pin v x'=>exact htr _ _ hok
     | row t' sz' es'=>exact hok
     | mrow t' sz' es'=>exact hok
     | dead=>trivial
     | obj X=>exact hok
  ·intro m m' x x' b2 hmm hm hm' hl hl' hb1 hb2
   obtain ⟨h0,a1,a2,a3⟩:=hlv m x hm hl
   obtain ⟨h0',c1,c2,c3⟩:=hlv m' x' hm' hl'
   exact hf.heap.apart m m' h0 h0' b2 hmm a1 c1 a2 c2 (by rw [←a3];exact hb1) (by rw [←c3];exact hb2)
  ·intro t' av hg'
   rw [VN] at hg'
   cases hE:env.get t' with
   | none=>simp [hE] at hg'
   | some av0 =>
    simp only [hE,Option.map_some,Option.some.injEq] at hg'
    subst hg'
    obtain ⟨v,v1,v2⟩:=he t' av0 hE
    exact ⟨v,v1,htr _ _ v2⟩
theorem zg9 (i:Nat) {t sz:Nat} {es es':List PV} (hi:H.get i=some (.mrow t sz es)) (e:es=es') (k:AW P n g c env ((i,.mrow t sz es')::H) QQ):AW P n g c env H QQ:=by
 subst e
 refine ⟨fun a w hinv=>?_⟩
 obtain ⟨g1,g2,K,ρ,hf,he⟩:=hinv
 have heq:∀ m,HEnv.get ((i,.mrow t sz es)::H) m=H.get m:=by
  intro m
  rw [HEnv.get_cons]
  split
  ·rename_i e;subst e;exact hi.symm
  ·rfl
 have hkk:∀ m,(H.get m).isSome=true→(HEnv.get ((i,.mrow t sz es)::H) m).isSome=true∧ρ m=ρ m:=fun m hm=>⟨by rw [heq];exact hm,rfl⟩
 refine k.go a w ⟨g1,g2,K,ρ,⟨hf.below,hf.old,hf.new,hf.lt,hf.others,hf.pt,fun m hh bb hm=>hf.away m hh bb (by rw [←heq];exact hm),fun m hh hm=>?_,fun m m' hh hh' bb hmm hm hm'=>hf.heap.apart m m' hh hh' bb hmm (by rw [←heq];exact hm) (by rw [←heq];exact hm')⟩,he.keeps (.refl K w) hkk⟩
 rw [heq] at hm
 exact (hf.heap.ok m hh hm).keeps (.refl hf.lt) hf.lt hkk
theorem ACallM.tells {f:FuncId} {args args':List AV} {H':HEnv} {r:AV} {lone:Bool} (h:ACallM P f args H r H' lone) (hl:args'.length=args.length) (ht:∀ (k:Nat) (c c':AV),args[k]?=some c→args'[k]?=some c'→c'=c∨∃ p p',c=.pv p∧c'=.pv p'∧PTells p' p):ACallM P f args' H r H' lone :=
 ⟨h.stands,fun g K ρ w vs hw1 hf hv=>h.calls g K ρ w vs hw1 hf ⟨by rw [hv.1,hl],fun k c v hc hvv=>by
  have hlt:k < args'.length:=by rw [hl];exact (List.getElem?_eq_some_iff.1 hc).1
  have hr:=hv.2 k _ v (List.getElem?_eq_getElem hlt) hvv
  rcases ht k c _ hc (List.getElem?_eq_getElem hlt) with e|⟨p,p',rfl,e,hp⟩
  ·rw [e] at hr;exact hr
  ·rw [e] at hr
   cases hr with
   | pv _ _ hr=>exact .pv _ _ (hp _ _ _ hr)⟩⟩
end
end Go.Cg
namespace Go.Cg
theorem sM {Q P:Prop} (k:Q) (h:Q→P:=by
  intro k
  first
  | exact zo rfl (ztm zh rfl rfl rfl rfl) rfl rfl k
  | exact zo rfl (zpB rfl rfl) rfl rfl k
  | exact zo rfl (zpf zh rfl rfl ⟨_,rfl⟩ rfl rfl) rfl rfl k
  | exact AD.step _ _ _ _ _ rfl (ztm zh rfl rfl rfl rfl) rfl rfl k
  | exact AD.step _ _ _ _ _ rfl (zpB rfl rfl) rfl rfl k
  | exact AD.step _ _ _ _ _ rfl (zpf zh rfl rfl ⟨_,rfl⟩ rfl rfl) rfl rfl k
  | fail):P:=h k
theorem za1 {H H':HEnv} {i:Nat} {t sz:Nat} {es es':List PV} (h:H.get i=some (.mrow t sz es)) (e:es=es') (hs:HSub H H'):HSub H ((i,.mrow t sz es')::H'):=qE h e hs
end Go.Cg
namespace Go.Cg
open Go.RowKit
section
variable {P:Program} {tb:Tab} {n:Nat} {g:Base} {K:KK} {w:World} {ρ:Nat→Value} {H:HEnv} {env:Env} {a:Act} {ops:List Oper} {o:Oper} {rest:List Oper} {Q:Env→HEnv→Prop}
def TMap (ents:List (PV × Int)) (ob:Obj):Prop:=∃ es clock,ob=.map es clock∧es.size=ents.length∧∀ (i:Nat) (e:MapEntry) (x:PV × Int),es.toList[i]?=some e→ents[i]?=some x→(∀ K w,PRel K w x.1 e.key)∧e.val=.int .i64 x.2
def zs8:PV→Bool
 | .agg cs=>cs.all fun c=>match c with|.base (.int _ _)=>true|.base (.bool _)=>true|_=>false
 | _=>false
theorem zqo {p:PV} {v:Value} (hf:zs8 p=true) (h:PRel K w p v):∀ K w,PRel K w p v:=by
 intro K' w'
 cases h with
 | agg cs vs h1 h2 h3 =>
  refine .agg cs vs h1 h2 fun k c v hc hv=>?_
  have:=h3 k c v hc hv
  have hk:=List.all_eq_true.1 hf c (List.mem_of_getElem? hc)
  cases c with
  | base u=>cases this with|base _ hb=>exact .base _ hb
  | _=>simp at hk
 | _=>simp [zs8] at hf
def zaw:TK→Bool
 | .int _=>true
 | .bool=>true
 | .str=>true
 | _=>false
theorem zdE (htb:yA P tb) {t:Nat} (h:zaw (tb.k t)=true) (e:Bool) (m:Nat) (v:Value) (w1:World):(Instr.checkKey e (m + 1) t v).run P w1=.ok () w1:=by
 unfold Instr.checkKey
 cases hk:tb.k t <;> simp [hk,zaw] at h
 ·simp [Sem.run_bind,run_underlying (XA htb hk),Result.andThen_ok]
 ·simp [Sem.run_bind,run_underlying (zef htb hk),Result.andThen_ok]
 ·simp [Sem.run_bind,run_underlying (zgu htb hk),Result.andThen_ok]
theorem run_checkKey (htb:yA P tb) {t:Nat} {fs:List (Nat × Nat × Nat)} {q:Bool} {cs:List PV} {v:Value} (hk:tb.k t=.agg fs q) (hs:(fs.all fun f=>zaw (tb.k f.2.1))=true) (hp:(fs.all fun f=>(Ws tb f.2.1 cs f.1).isSome)=true) (hv:PRel K w (.agg cs) v) (e:Bool) (m:Nat) (w1:World) :
  (Instr.checkKey e (m + 2) t v).run P w1=.ok () w1:=by
 obtain ⟨F,hF,hfs,_⟩:=Wy htb hk
 cases hv with
 | agg _ vs a1 a2 a3 =>
  have key:∀ l:List Field,(∀ f∈l,zaw (tb.k f.type)=true∧(Ws tb f.type cs f.offset).isSome=true) →
    Sem.run P (forIn l PUnit.unit fun f __s=>if f.name ≠ "_" then do
       let __do_lift ←part f.type vs.toArray f.offset
       Instr.checkKey e (m + 1) f.type __do_lift
       pure (ForInStep.yield PUnit.unit)
      else pure (ForInStep.yield PUnit.unit)) w1=.ok PUnit.unit w1:=by
   intro l
   induction l with
   | nil=>intro _;simp
   | cons f l ih =>
    intro hl
    obtain ⟨h1,h2⟩:=hl f (by simp)
    have ih':=ih fun x hx=>hl x (by simp [hx])
    obtain ⟨p,hp⟩:=Option.isSome_iff_exists.1 h2
    obtain ⟨u,hu,_⟩:=zaM (K:=K) (w:=w) htb ⟨a1,a3⟩ a2 hp w1
    have hc:=zdE htb h1 e m u w1
    rw [List.forIn_cons]
    by_cases hn:f.name ≠ "_"
    ·rw [if_pos hn]
     simp only [Sem.run_bind,hu,Result.andThen_ok,hc,Sem.run_pure]
     exact ih'
    ·rw [if_neg hn]
     simp only [Sem.run_bind,Result.andThen_ok,Sem.run_pure]
     exact ih'
  have hall:∀ f∈F.toList,zaw (tb.k f.type)=true∧(Ws tb f.type cs f.offset).isSome=true:=by
   intro f hf
   have hm:(f.offset,f.type,P.cellsOf f.type)∈fs:=by rw [←hfs];exact List.mem_map.2 ⟨f,hf,rfl⟩
   exact ⟨List.all_eq_true.1 hs _ hm,List.all_eq_true.1 hp _ hm⟩
  unfold Instr.checkKey
  simp only [Sem.run_bind,run_underlying hF,Result.andThen_ok]
  rw [←Array.forIn_toList,key F.toList hall]
  rfl
def zca (tb:Tab) (kt:Nat) (p:PV):List (PV × Int)→Option (Option Int)
 | []=>some none
 | (q,v)::r=>match eqE tb 8 kt p q with
  | some true=>some (some v)
  | some false=>zca tb kt p r
  | none=>none
theorem run_findKey (htb:yA P tb) {kt:Nat} {fs:List (Nat × Nat × Nat)} {q:Bool} {p:PV} {kv:Value} (hk:tb.k kt=.agg fs q) (hkv:PRel K w p kv) (w1:World) :
  ∀ (es:List MapEntry) (ents:List (PV × Int)) (r:Option Int) (i:Nat),es.length=ents.length→(∀ (i:Nat) (e:MapEntry) (x:PV × Int),es[i]?=some e→ents[i]?=some x→(∀ K w,PRel K w x.1 e.key)∧e.val=.int .i64 x.2)→zca tb kt p ents=some r →
   ∃ res,(Instr.findAsking kt kv es i).run P w1=.ok res w1∧((r=none∧res=none)∨∃ c j,r=some c∧res=some (j,.int .i64 c))
 | [],[],r,i,_,_,h=>by
  simp only [zca,Option.some.injEq] at h;subst h
  exact ⟨none,by simp [Instr.findAsking],.inl ⟨rfl,rfl⟩⟩
 | [],_::_,_,_,hl,_,_=>by simp at hl
 | _::_,[],_,_,hl,_,_=>by simp at hl
 | e::es,(q,c)::ents,r,i,hl,hr,h=>by
  obtain ⟨h1,h2⟩:=hr 0 e (q,c) rfl rfl
  simp only [zca] at h
  split at h
  ·rename_i he
   simp only [Option.some.injEq] at h;subst h
   have:=zgw (K:=K) (w:=w) htb 8 kt p q kv e.key true hkv (h1 K w) he 9992 w1
   refine ⟨some (i,e.val),?_,.inr ⟨c,i,rfl,by rw [h2]⟩⟩
   simp only [Instr.findAsking,Op.equal,Sem.run_bind]
   rw [show Op.maxDepth=8 + 9992 from rfl,this]
   simp
  ·rename_i he
   have:=zgw (K:=K) (w:=w) htb 8 kt p q kv e.key false hkv (h1 K w) he 9992 w1
   obtain ⟨res,r1,r2⟩:=run_findKey htb hk hkv w1 es ents r (i + 1) (by simpa using hl) (fun j e' x h3 h4=>hr (j + 1) e' x (by simpa using h3) (by simpa using h4)) h
   refine ⟨res,?_,r2⟩
   simp only [Instr.findAsking,Op.equal,Sem.run_bind]
   rw [show Op.maxDepth=8 + 9992 from rfl,this]
   simpa using r1
  ·cases h
theorem zlw {kt:TypeId} {F:Array Field} {kv:Value} {es:List MapEntry} {w1:World} (hF:P.underlying kt=some (.struct F)):(Instr.findKey kt kv es).run P w1=(Instr.findAsking kt kv es).run P w1:=by
 unfold Instr.findKey
 simp only [Sem.run_bind,run_underlying hF,Result.andThen_ok]
 cases es with
 | nil=>simp [Instr.findNow,Instr.findAsking]
 | cons x es=>simp [Instr.findNow,Instr.sameNow]
theorem ztb {t kt et:Nat} (htb:yA P tb) (h:tb.k t=.map kt et):P.underlying t=some (.map kt et):=zkZ htb h
theorem FS.setObj (hf:FS g K ρ H w) (hw1:g.w1.heap.size=0) {i b:Nat} {X X':Obj→Prop} {ob':Obj} (hi:H.get i=some (.obj X)) (hr:ρ i=.map (some b)) (hX':X' ob'):FS g K ρ ((i,.obj X')::H) (w.putObj b ob')∧Later K K w (w.putObj b ob'):=by
 obtain ⟨b',ob,hr',hB,hheap,hX,hnK⟩:=hf.heap.ok i _ hi
 rw [hr] at hr'
 simp only [Value.map.injEq,Option.some.injEq] at hr'
 subst hr'
 have hgrow:w.grownBy (w.putObj b ob') (some b):=grownBy_putObj' _ _ _
 have hlt:b < w.heap.size:=(Array.getElem?_eq_some_iff.1 hheap).1
 have hb':(w.putObj b ob').heap[b]?=some ob':=by simp [World.putObj,hlt]
 have hlat:Later K K w (w.putObj b ob'):=⟨fun _ _ h=>h,fun b' o hk=>by
  have hne:b'≠b:=by rintro rfl;exact hnK o hk
  exact World.cell?_of_block (hgrow.block b' (hf.lt b' o hk) (by simp [hne]))⟩
 have hkeep:∀ j,(H.get j).isSome=true→(HEnv.get ((i,.obj X')::H) j).isSome=true∧ρ j=ρ j:=by
  intro j hj
  refine ⟨?_,rfl⟩
  rw [HEnv.get_cons]
  split
  ·rfl
  ·exact hj
 refine ⟨⟨hf.below.grown hgrow hf.below.size (fun k hk=>by simp at hk;omega),hf.old,hf.new,fun b o hk=>Nat.lt_of_lt_of_le (hf.lt b o hk) hgrow.size,⟨by rw [hw1];omega,fun k o hk=>by have:=(Array.getElem?_eq_some_iff.1 hk).1;omega⟩,hf.pt.grown hf.old hgrow hlat (fun b2 hb2=>by cases hb2;exact hf.away i _ b hi rfl (by rw [hr];rfl)) (fun _ _ h=>.inl h),hf.away.set hi rfl,?_,?_⟩,hlat⟩
 ·intro j e hj
  rw [HEnv.get_cons] at hj
  split at hj
  ·rename_i e';subst e'
   simp only [Option.some.injEq] at hj;subst hj
   exact ⟨b,ob',hr,hB,hb',hX',hnK⟩
  ·rename_i hne
   by_cases hlive:e.live=true
   ·have:=(hf.heap.ok j e hj).grown (f:=id) hgrow hlat (fun b o h=>.inl h) (fun av v h=>h.keeps hlat hkeep) hlive (fun b' hb' e'=>by
     simp at e';subst e'
     exact hf.heap.apart i j _ e b hne hi hj rfl hlive (by rw [hr];rfl) hb')
    cases e <;> exact this
   ·cases e <;> simp [HE.live] at hlive
    ·trivial
    ·exact ARel.keeps hlat hkeep (hf.heap.ok j _ hj)
 ·intro j k2 e e' bb hjk hj hk' hlj hlk hbj hbk
  have e1:∀ (j:Nat) (hh:HE),HEnv.get ((i,.obj X')::H) j=some hh→hh.live=true→∃ h0,H.get j=some h0∧h0.live=true:=by
   intro j hh hj hl
   rw [HEnv.get_cons] at hj
   split at hj
   ·rename_i e';subst e';exact ⟨_,hi,rfl⟩
   ·exact ⟨hh,hj,hl⟩
  obtain ⟨a1,a2,a3⟩:=e1 j e hj hlj
  obtain ⟨b1,b2,b3⟩:=e1 k2 e' hk' hlk
  exact hf.heap.apart j k2 a1 b1 bb hjk a2 b2 a3 b3 hbj hbk
theorem ziI {t kt et:Nat} {m x v:Operand} {i:Nat} {ents:List (PV × Int)} {cs:List PV} {c:Int} {fs:List (Nat × Nat × Nat)} (hw1:g.w1.heap.size=0) (htb:yA P tb) (hg:guardE ops env o=some true) (hop:o.op=.mapUpdate t m x v) (hk:tb.k t=.map kt et) (hkt:tb.k kt=.agg fs true)
  (hs:(fs.all fun f=>zaw (tb.k f.2.1))=true) (hp:(fs.all fun f=>(Ws tb f.2.1 cs f.1).isSome)=true) (hm:env.val m=some (.own i)) (hi:H.get i=some (.obj (TMap ents))) (hx:env.pv H x=some (.agg cs)) (hfl:zs8 (.agg cs)=true) (hv:env.pv H v=some (.base (.int .i64 c)))
  (hf:zca tb kt (.agg cs) ents=some none) (hd:o.dst=none)
  (h:AO P n g ops.toArray rest env ((i,.obj (TMap (ents++[(.agg cs,c)])))::H) Q):AO P n g ops.toArray (o::rest) env H Q:=by
 refine ⟨fun a w hinv=>?_⟩
 have hw:=yB hinv hg
 obtain ⟨h1,h2,K,ρ,hfs,he⟩:=hinv
 refine wpList_step fun KK hKK=>?_
 rw [if_pos hw]
 have hmr:=yL he hm
 have hxr:=yH (a:=a) hfs (x:=x) (fun av hh=>yL he hh) hx
 have hvr:=yH (a:=a) hfs (x:=v) (fun av hh=>yL he hh) hv
 generalize hmv:a.eval m=mv at hmr
 generalize hxv:a.eval x=xv at hxr
 generalize hvv:a.eval v=vv at hvr
 obtain ⟨b,ob,hr,hB,hheap,⟨es,clock,rfl,hes,hent⟩,hn⟩:=hfs.heap.ok i _ hi
 cases hvr
 cases hmr with
 | own _ _ =>
  obtain ⟨F,hF,_⟩:=Wy htb hkt
  have hck:(Instr.checkKey false 10000 kt xv).run P w=.ok () w:=run_checkKey htb hkt hs hp hxr false 9998 w
  obtain ⟨res,r1,r2⟩:=run_findKey (K:=K) (w:=w) htb hkt hxr w es.toList ents none 0 (by simpa using hes) hent hf
  have hres:res=none:=by
   rcases r2 with ⟨_,h⟩|⟨c,j,h,_⟩
   ·exact h
   ·cases h
  subst hres
  rw [←zlw hF] at r1
  have hgo:=run_getObj_map (P:=P) w b es clock hheap
  have hso:∀ ob',(setObj b ob').run P w=.ok () (w.putObj b ob'):=fun ob'=>by simp [setObj,Sem.run,hheap,World.putObj]
  have hX':TMap (ents++[(.agg cs,c)]) (.map (es.push { key:=xv,val:=.int .i64 c,born:=clock }) (clock + 1)):=by
   refine ⟨_,_,rfl,by simp [hes],fun j e y he' hy=>?_⟩
   rw [Array.toList_push,List.getElem?_append] at he'
   rw [List.getElem?_append] at hy
   have hl:es.toList.length=ents.length:=by simpa using hes
   rw [hl] at he'
   split at he'
   ·rename_i hj;rw [if_pos hj] at hy;exact hent j e y he' hy
   ·rename_i hj
    rw [if_neg hj] at hy
    have hj0:j - ents.length=0:=by have:=(List.getElem?_eq_some_iff.1 he').1;simp at this;omega
    rw [hj0] at he' hy
    simp only [List.getElem?_cons_zero,Option.some.injEq] at he' hy
    subst he' hy
    exact ⟨zqo hfl hxr,rfl⟩
  have hrun:(execOp a.eval o).run P w=.ok .skip (w.putObj b (.map (es.push { key:=xv,val:=.int .i64 c,born:=clock }) (clock + 1))):=by
   simp [execOp,hop,hmv,hxv,hvv,hr,Instr.mapUpdate,run_underlying (ztb htb hk),hgo,hck,r1,hso]
  obtain ⟨hfs2,hlat⟩:=FS.setObj hfs hw1 hi hr hX'
  unfold Oper.wp
  rw [hrun]
  simp only [Oper.upon]
  have hd':a.put o.dst undef=a:=by rw [hd];rfl
  rw [hd']
  exact hKK _ _ (h.go _ _ ⟨h1,h2,K,ρ,hfs2,he.keeps hlat fun j hj=>⟨by rw [HEnv.get_cons];split <;> first|rfl|exact hj,rfl⟩⟩)
theorem zb1 {t d:Nat} (i:Nat) (hg:guardE ops env o=some true) (hop:o.op=.makeMap t none) (hi:H.get i=none) (hd:o.dst=some d) (ht:Nat.blt d n=true)
  (h:AO P n g ops.toArray rest ((d,.own i)::env) ((i,.obj (TMap []))::H) Q):AO P n g ops.toArray (o::rest) env H Q:=by
 refine ⟨fun a w hinv=>?_⟩
 have hw:=yB hinv hg
 obtain ⟨h1,h2,K,ρ,hf,he⟩:=hinv
 refine wpList_step fun KK hKK=>?_
 rw [if_pos hw]
 have hrun:(execOp a.eval o).run P w=.ok (.value (.map (some w.heap.size))) (w.alloc (.map #[] 0)):=by
  simp [execOp,hop,run_makeMap]
 unfold Oper.wp
 rw [hrun]
 simp only [Oper.upon]
 have hev:Evo K K w (w.alloc (.map #[] 0)):=⟨(Below.refl _ _).alloc (Nat.le_refl _) _,fun _ _ h=>h,fun _ _ h=>.inl h,fun b o h=>by have:=hf.lt b o h;simp;omega⟩
 refine hKK _ _ (h.go _ _ ⟨yT h1,put_defers h2,K,fun j=>if j=i then .map (some w.heap.size) else ρ j,hf.fresh hev hi ⟨w.heap.size,.map #[] 0,rfl,hf.below.size,heap_alloc_new w _,⟨#[],0,rfl,rfl,fun i e x h=>by simp at h⟩,fun o ho=>by have:=hf.lt _ o ho;omega⟩ (by simp [zA]),?_⟩)
 rw [hd]
 have:=ARel.own (K:=K) (w:=w.alloc (.map #[] 0)) (ρ:=fun j=>if j=i then .map (some w.heap.size) else ρ j) (H:=(i,HE.obj (TMap []))::H) i (by simp [HEnv.get_cons])
 exact qW h1 ht (he.keeps (hev.later hf.lt) (qj hi _ _)) (by simpa using this)
end
section
variable {P:Program} {n:Nat} {g:Base} {H:HEnv} {env:Env} {c:Code} {QQ:QC} {ops l:List Oper} {Q:Env→HEnv→Prop}
theorem zlx (t j:Nat) {u:Value} {av:AV} (hg:env.get t=some (.pv (.base u))) (hj:H.get j=some (.pin av u)) (k:AW P n g c ((t,av)::env) H QQ):AW P n g c env H QQ:=by
 refine ⟨fun a w hinv=>?_⟩
 obtain ⟨g1,g2,K,ρ,hf,he⟩:=hinv
 refine k.go a w ⟨g1,g2,K,ρ,hf,fun t' av' h'=>?_⟩
 rw [Env.get_cons] at h'
 split at h'
 ·rename_i e
  subst e
  simp only [Option.some.injEq] at h'
  subst h'
  obtain ⟨v,v1,v2⟩:=he _ _ hg
  cases v2 with
  | pv _ _ hp =>
   cases hp
   exact ⟨u,v1,hf.heap.ok j _ hj⟩
 ·exact he t' av' h'
theorem zfp (t j:Nat) {i off:Nat} (hg:env.get t=some (.box i off)) (_:H.get j=none) (k:∀ u,AO P n g ops.toArray l ((t,.pv (.base u))::env) ((j,.pin (.box i off) u)::H) Q):AO P n g ops.toArray l env H Q:=by
 refine ⟨fun a w hinv=>?_⟩
 obtain ⟨g1,g2,K,ρ,hf,he⟩:=hinv
 obtain ⟨u,u1,u2⟩:=he _ _ hg
 have hkk:∀ m,(H.get m).isSome=true→(HEnv.get ((j,.pin (.box i off) u)::H) m).isSome=true∧ρ m=ρ m:=by
  intro m hm
  refine ⟨?_,rfl⟩
  rw [HEnv.get_cons];split <;> first|rfl|exact hm
 have hlive:∀ m hh,HEnv.get ((j,.pin (.box i off) u)::H) m=some hh→hh.live=true→H.get m=some hh:=by
  intro m hh hm hl
  rw [HEnv.get_cons] at hm
  split at hm
  ·simp only [Option.some.injEq] at hm;subst hm;simp [HE.live] at hl
  ·exact hm
 have hb:YJ u=true:=by cases u2;rfl
 have he2:EnvR K w ρ ((j,.pin (.box i off) u)::H) env a.tmps:=he.keeps (.refl K w) hkk
 refine (k u).go a w ⟨g1,g2,K,ρ,⟨hf.below,hf.old,hf.new,hf.lt,hf.others,hf.pt,fun m hh bb hm hl hb=>hf.away m hh bb (hlive m hh hm hl) hl hb,fun m hh hm=>?_,fun m m' hh hh' bb hmm hm hm' hl hl'=>hf.heap.apart m m' hh hh' bb hmm (hlive m hh hm hl) (hlive m' hh' hm' hl') hl hl'⟩,fun t' av' h'=>?_⟩
 ·rw [HEnv.get_cons] at hm
  split at hm
  ·simp only [Option.some.injEq] at hm;subst hm
   exact u2.keeps (.refl K w) hkk
  ·exact (hf.heap.ok m hh hm).keeps (.refl hf.lt) hf.lt hkk
 ·rw [Env.get_cons] at h'
  split at h'
  ·rename_i e
   subst e
   simp only [Option.some.injEq] at h'
   subst h'
   exact ⟨u,u1,.pv _ _ (.base _ hb)⟩
  ·exact he2 t' av' h'
end
end Go.Cg
