/- A part of the walks by abstract values: no statement of its own. -/
import Derived.Test.YtemhfmmhkimhmaaGreatV15
import Derived.Test.YtemhfmmhkimhmaaGreatV9
import Derived.Laws.Pointers
import Derived.Laws.CopyRow
import Derived.Test.YtemhfmmhkimhmaaGreatV6
import Derived.Test.YtemhfmmhkimhmaaGreatV4
set_option linter.unusedVariables false
set_option linter.unusedSimpArgs false
namespace Go.Cg
open Go.RowKit
section
variable {P:Program} {tb:Tab} {n:Nat} {g:Base} {H:HEnv} {env:Env} {ops:List Oper} {o:Oper} {rest:List Oper} {Q:Env->HEnv->Prop} {QQ:QC} {c:Code} {K:KK} {w:World} {ρ:Nat->Value} {a:Act}
def zjQ:AV->Option Bool
 | .box _ _=>some false
 | .pv (.ptr _ _)=>some false
 | .pv (.base (.pointer none))=>some true
 | _=>none
theorem VH {t rt pe:TypeId} {x:Operand} {av:AV} {b:Bool} (hop:o.op=.binOp .eql t x (.const (.pointer none)) rt) (hu0:P.underlying t=some (.pointer pe)) (hx:env.val x=some av) (hn:zjQ av=some b):QStep P g H o env (.pv (.base (.bool b))):=by
 have hu:P.underlying t=some (.pointer (P.pointee t)):=by rw [hu0,Program.pointee,hu0]
 refine ⟨fun K ρ a w hf hv=>?_⟩;have hxr:=hv x zwy68 _ hx;generalize hxv:a.eval x=xv at hxr;have key:∀ p:Option Addr,xv=.pointer p->p.isNone=b->zhu P K ρ H w (.pv (.base (.bool b))) ((execOp a.eval o).run P w):=by
  rintro p rfl rfl;have h1:=run_eql_pointer_nil (P:=P) w t p hu;have h2:a.eval (.const (.pointer none))=.pointer none:=rfl;have hrun:(execOp a.eval o).run P w=.ok (.value (.bool p.isNone)) w:=by
   simp [execOp,hop,hxv,h2,eqGuard,h1]
  rw [hrun];exact Yq hf (.pv _ _ (.base _ rfl))
 cases hxr with
 | box i off b' hi hb=>simp only [zjQ,Option.some.injEq] at hn;exact key _ rfl (by simpa using hn)
 | pv p v hp =>
  cases hp with
  | ptr=>simp only [zjQ,Option.some.injEq] at hn;exact key _ rfl (by simpa using hn)
  | base v hb =>
   cases xv <;> simp only [zjQ] at hn <;> try cases hn
   rename_i p;cases p with
   | none=>simp only [Option.some.injEq] at hn;exact key _ rfl (by simpa using hn)
   | some ad=>cases hn
  | _=>simp [zjQ] at hn
 | _=>simp [zjQ] at hn
def zxd (ρ:Nat->Value) (H:HEnv):AV->Option PV
 | .pv p=>some p
 | .own i=>match H.get i with
  | some (.mrow _ sz es)=>some (.slc sz es false)
  | some (.obj _)=>some (.base (ρ i))
  | _=>none
 | _=>none
def cut (sz:Nat) (u:Value) (l h:Nat):Value:=match u with
 | .slice (some a) _ c=>.slice (some ⟨a.block,l * sz,none⟩) (h - l) (c - l)
 | v=>v
theorem zvU (sz:Nat) (u:Value) (l h:Nat) (hu:∃ a n c,u=.slice (some a) n c):XJ (cut sz u l h)=true:=by
 obtain ⟨a,n,c,rfl⟩:=hu;rfl
theorem zgi (htb:qm P tb) {t e d:Nat} {x:Operand} {lo hi:Option Operand} (i j:Nat) {sz:Nat} {es:List PV} {l h:Int} (hg:guardE ops env o=some true) (hop:o.op=.slice t x lo hi none) (hk:tb.k t=.sl e) (hke:tb.known e=true) (hsz:tb.size e=sz)
  (hx:env.val x=some (.own i)) (hi':H.get i=some (.mrow e sz es)) (hlo:QZ env H 0 lo=some l) (hhi:QZ env H es.length hi=some h) (h0:0<=l) (h1:l<=h) (h2:h<=es.length) (h3:l < es.length) (hj:H.get j=none) (hd:o.dst=some d) (ht:Nat.blt d n=true)
  (k:∀ u,AO P n g ops.toArray rest ((d,.pv (.base (cut sz u l.toNat h.toNat)))::env) ((j,.pin (.own i) u)::H) Q):AO P n g ops.toArray (o::rest) env H Q:=by
 refine ⟨fun a w hinv=>?_⟩;have hw:=qw hinv hg;obtain ⟨g1,g2,K,ρ,hf,he⟩:=hinv;refine wpList_step fun KK hKK=>?_
 rw [if_pos hw];have hxr:=qI he hx;generalize hxv:a.eval x=xv at hxr;have el:=zaQ (a:=a) hf (x:=lo) (fun y hy av hh=>qI he hh) hlo;have eh:=zaQ (a:=a) hf (x:=hi) (fun y hy av hh=>qI he hh) hhi;have hko:tb.k e≠.oth:=by intro h;simp [Tab.known,h] at hke
 have hs:=run_sizeOf htb hko w;have hh0:0<=h:=by omega
 have hlh:l<=((h.toNat:Nat):Int):=by omega
 have bounds:∀ cap:Nat,es.length<=cap->(Instr.sliceBounds true es.length cap (lo.map a.eval) (hi.map a.eval) none).run P w=.ok (l.toNat,h.toNat,cap) w:=by
  intro cap hcap;have hhc:h<=(cap:Int):=by omega
  rcases el with ⟨rfl,rfl⟩|⟨y,k,rfl,hy⟩ <;> rcases eh with ⟨rfl,rfl⟩|⟨z,k',rfl,hz⟩
  ·simp [Instr.sliceBounds]
  ·simp [hz,Instr.sliceBounds,Instr.sliceBound,asIntOf,hhc,hh0]
  ·simp [hy,Instr.sliceBounds,Instr.sliceBound,asIntOf,h0,h1]
  ·simp [hy,hz,Instr.sliceBounds,Instr.sliceBound,asIntOf,h0,hlh,hhc,hh0];intro hc;omega
 obtain ⟨xs,hown,hz0,hcr,hnK⟩:=hf.heap.ok i _ hi';cases hxr with
 | own _ hi0 =>
  rcases hown.2 with ⟨hr,hz⟩|⟨b,cap,cur,hr,hB,hheap,hle,hcap,hsize,htake⟩
  ·omega
  ·have hb:=bounds cap hle;have hrun:(execOp a.eval o).run P w=.ok (.value (cut sz (ρ i) l.toNat h.toNat)) w:=by
    rw [hr];have hne:¬ cap=l.toNat:=by omega
    simp [execOp,hop,hxv,hr,Instr.sliceAt,Instr.slice,run_underlying (Zd htb hk),hb,hs,hsz,Addr.add_lit,cut,hne]
   unfold Oper.wp;rw [hrun];simp only [Oper.upon];have hkk:∀ m,(H.get m).isSome=true->(HEnv.get ((j,.pin (.own i) (ρ i))::H) m).isSome=true/\(fun m=>if m=j then undef else ρ m) m=ρ m:=by
    intro m hm;have hmj:m≠j:=by rintro rfl;rw [hj] at hm;cases hm
    refine ⟨?_,by simp [hmj]⟩;rw [HEnv.get_cons];split <;> first|rfl|exact hm
   have hij:i≠j:=by rintro rfl;rw [hj] at hi';cases hi'
   refine hKK _ _ ((k (ρ i)).go _ _ ⟨Zm g1,put_defers g2,K,ρ,⟨hf.below,hf.old,hf.new,hf.lt,hf.others,hf.pt,?_,?_,?_⟩,?_⟩)
   ·intro m hh bb hm hl hbb;rw [HEnv.get_cons] at hm;split at hm
    ·simp only [Option.some.injEq] at hm;subst hm;simp [HE.live] at hl
    ·exact hf.away m hh bb hm hl hbb
   ·intro m hh hm;have hkk':∀ m,(H.get m).isSome=true->(HEnv.get ((j,.pin (.own i) (ρ i))::H) m).isSome=true/\ρ m=ρ m:=fun m hm=>⟨(hkk m hm).1,rfl⟩
    rw [HEnv.get_cons] at hm;split at hm
    ·simp only [Option.some.injEq] at hm;subst hm;have hold:ARel K w ρ H (.own i) (ρ i):=.own i (by rw [hi'];rfl);exact hold.keeps (.refl K w) hkk'
    ·exact (hf.heap.ok m hh hm).keeps (.refl hf.lt) hf.lt hkk'
   ·intro m m' hh hh' bb hmm hm hm' hl hl' hb1 hb2;have hq:∀ m hh,HEnv.get ((j,.pin (.own i) (ρ i))::H) m=some hh->hh.live=true->H.get m=some hh:=by
     intro m hh hm hl;rw [HEnv.get_cons] at hm;split at hm
     ·simp only [Option.some.injEq] at hm;subst hm;simp [HE.live] at hl
     ·exact hm
    exact hf.heap.apart m m' hh hh' bb hmm (hq m hh hm hl) (hq m' hh' hm' hl') hl hl' hb1 hb2
   ·rw [hd];refine Ye g1 ht (he.keeps (.refl K w) (fun m hm=>⟨(hkk m hm).1,rfl⟩)) (.pv _ _ (.base _ (zvU _ _ _ _ ⟨_,_,_,hr⟩)))
end
section
variable {P:Program} {tb:Tab} {n:Nat} {g:Base} {H:HEnv} {env:Env} {ops:List Oper} {o:Oper} {rest:List Oper} {Q:Env->HEnv->Prop} {QQ:QC} {c:Code} {K:KK} {w:World} {ρ:Nat->Value} {a:Act}
theorem zp2 {x:Operand} {i off:Nat} (hop:o.op=.nilCheck x) (hx:env.val x=some (.ad i off)):QStep P g H o env (.ad i off):=by
 refine ⟨fun K ρ a w hf hv=>?_⟩;have hxr:=hv x zwy68 _ hx;generalize hxv:a.eval x=xv at hxr;cases hxr with
 | ad _ _ b m c hi hb =>
  have hrun:(execOp a.eval o).run P w=.ok (.value (.pointer (some ⟨b,off,none⟩))) w:=by simp [execOp,hop,hxv]
  rw [hrun];exact Yq hf (.ad i off b m c hi hb)
theorem zpP (htb:qm P tb) {t f:Nat} {x:Operand} {i off o' ft s:Nat} {fs:List (Nat × Nat × Nat)} (hop:o.op=.fieldAddr t x f) (hx:env.val x=some (.ad i off)) (hk:∃ q,tb.k t=.agg fs q) (hfe:fs[f]?=some (o',ft,s)) (hs:zfz tb ft s=true):QStep P g H o env (.ad i (off + o')):=by
 refine ⟨fun K ρ a w hf hv=>?_⟩;obtain ⟨q,hk⟩:=hk;simp only [zfz,Bool.and_eq_true,bne_iff_ne,beq_iff_eq] at hs;obtain ⟨F,hF,hfs',_⟩:=zcP htb hk;have hf':∃ fl:Field,F[f]?=some fl/\fl.offset=o'/\fl.type=ft:=by
  rw [<-hfs',List.getElem?_map,Array.getElem?_toList] at hfe;cases hfl:F[f]? with
  | none=>simp [hfl] at hfe
  | some fl=>simp [hfl] at hfe;exact ⟨fl,rfl,hfe.1,hfe.2.1⟩
 obtain ⟨fl,hfl,rfl,rfl⟩:=hf';have hko:tb.k fl.type≠.oth:=by intro e;simp [Tab.known,e] at hs
 have hsz:=run_sizeOf htb hko w;have hne:tb.size fl.type≠0:=by omega
 have hxr:=hv x zwy68 _ hx;generalize hxv:a.eval x=xv at hxr;cases hxr with
 | ad _ _ b m c hi hb =>
  have hrun:(execOp a.eval o).run P w=.ok (.value (.pointer (some ⟨b,off + fl.offset,none⟩))) w:=by
   simp [execOp,hop,Instr.fieldAt,run_underlying hF,hfl,hxv,Instr.sureAddr,fieldPlace,hsz,hne,Addr.add_lit]
  rw [hrun];exact Yq hf (.ad i (off + fl.offset) b m c hi hb)
theorem zua (htb:qm P tb) {ty e:Nat} {x:Operand} {i sz:Nat} {es:List PV} (hop:o.op=.call { callee:=.builtin .len,args:=#[x],argTypes:=#[ty] }) (hx:env.val x=some (.own i)) (hi:H.get i=some (.mrow e sz es)) (hk:tb.k ty=.sl e):QStep P g H o env (.pv (.base (.int .i64 es.length))):=by
 refine ⟨fun K ρ a w hf hv=>?_⟩;have hxr:=hv x zwy72 _ hx;generalize hxv:a.eval x=xv at hxr;obtain ⟨us,hown,hsz,hcr,hKK'⟩:=hf.heap.ok i _ hi;cases hxr with
 | own _ _ =>
  have hrun:(execOp a.eval o).run P w=.ok (.value (.int .i64 es.length)) w:=by
   have hl:∃ ad c,ρ i=.slice ad es.length c:=by
    rcases hown.2 with ⟨h,h2⟩|⟨b,cap,cur,h,_⟩
    ·exact ⟨none,0,by rw [h,h2]⟩
    ·exact ⟨_,_,h⟩
   obtain ⟨ad,c,hl⟩:=hl;simp [execOp,hop,resolve,invoke,builtin,Builtin.len_,hxv,hl,run_underlying (Zd htb hk),goInt]
  rw [hrun];exact Yq hf (.pv _ _ (.base _ rfl))
theorem zta (i j:Nat) (hi:(H.get i).isSome=true) (_:H.get j=none) (k:∀ u,AW P n g c env ((j,.pin (.own i) u)::H) QQ):AW P n g c env H QQ:=by
 refine ⟨fun a w hinv=>?_⟩;obtain ⟨g1,g2,K,ρ,hf,he⟩:=hinv;have hkk:∀ m,(H.get m).isSome=true->(HEnv.get ((j,.pin (.own i) (ρ i))::H) m).isSome=true/\ρ m=ρ m:=by
  intro m hm;refine ⟨?_,rfl⟩;rw [HEnv.get_cons];split <;> first|rfl|exact hm
 have hlive:∀ m hh,HEnv.get ((j,.pin (.own i) (ρ i))::H) m=some hh->hh.live=true->H.get m=some hh:=by
  intro m hh hm hl;rw [HEnv.get_cons] at hm;split at hm
  ·simp only [Option.some.injEq] at hm;subst hm;simp [HE.live] at hl
  ·exact hm
 refine (k (ρ i)).go a w ⟨g1,g2,K,ρ,⟨hf.below,hf.old,hf.new,hf.lt,hf.others,hf.pt,fun m hh bb hm hl hb=>hf.away m hh bb (hlive m hh hm hl) hl hb,fun m hh hm=>?_,fun m m' hh hh' bb hmm hm hm' hl hl'=>hf.heap.apart m m' hh hh' bb hmm (hlive m hh hm hl) (hlive m' hh' hm' hl') hl hl'⟩,he.keeps (.refl K w) hkk⟩;rw [HEnv.get_cons] at hm;split at hm
 ·simp only [Option.some.injEq] at hm;subst hm;have hold:ARel K w ρ H (.own i) (ρ i):=.own i hi;exact hold.keeps (.refl K w) hkk
 ·exact (hf.heap.ok m hh hm).keeps (.refl hf.lt) hf.lt hkk
theorem zld (i:Nat) {t sz:Nat} {es es':List PV} (hi:H.get i=some (.mrow t sz es)) (e:es=es') (k:AW P n g c env ((i,.mrow t sz es')::H) QQ):AW P n g c env H QQ:=by
 subst e;refine ⟨fun a w hinv=>?_⟩;obtain ⟨g1,g2,K,ρ,hf,he⟩:=hinv;have heq:∀ m,HEnv.get ((i,.mrow t sz es)::H) m=H.get m:=by
  intro m;rw [HEnv.get_cons];split
  ·rename_i e;subst e;exact hi.symm
  ·rfl
 have hkk:∀ m,(H.get m).isSome=true->(HEnv.get ((i,.mrow t sz es)::H) m).isSome=true/\ρ m=ρ m:=fun m hm=>⟨by rw [heq];exact hm,rfl⟩
 refine k.go a w ⟨g1,g2,K,ρ,⟨hf.below,hf.old,hf.new,hf.lt,hf.others,hf.pt,fun m hh bb hm=>hf.away m hh bb (by rw [<-heq];exact hm),fun m hh hm=>?_,fun m m' hh hh' bb hmm hm hm'=>hf.heap.apart m m' hh hh' bb hmm (by rw [<-heq];exact hm) (by rw [<-heq];exact hm')⟩,he.keeps (.refl K w) hkk⟩;rw [heq] at hm;exact (hf.heap.ok m hh hm).keeps (.refl hf.lt) hf.lt hkk
theorem ACallM.tells {f:FuncId} {args args':List AV} {H':HEnv} {r:AV} {lone:Bool} (h:ACallM P f args H r H' lone) (hl:args'.length=args.length) (ht:∀ (k:Nat) (c c':AV),args[k]?=some c->args'[k]?=some c'->c'=c\/∃ p p',c=.pv p/\c'=.pv p'/\PTells p' p):ACallM P f args' H r H' lone :=
 ⟨h.stands,fun g K ρ w vs hw1 hf hv=>h.calls g K ρ w vs hw1 hf ⟨by rw [hv.1,hl],fun k c v hc hvv=>by
  have hlt:k < args'.length:=by rw [hl];exact (List.getElem?_eq_some_iff.1 hc).1
  have hr:=hv.2 k _ v (List.getElem?_eq_getElem hlt) hvv;rcases ht k c _ hc (List.getElem?_eq_getElem hlt) with e|⟨p,p',rfl,e,hp⟩
  ·rw [e] at hr;exact hr
  ·rw [e] at hr;cases hr with
   | pv _ _ hr=>exact .pv _ _ (hp _ _ _ hr)⟩⟩
end
end Go.Cg
namespace Go.Cg
theorem sM {Q P:Prop} (k:Q) (h:Q->P:=by
  intro k;first
  | exact zy rfl (zua zf rfl rfl rfl rfl) rfl rfl k
  | exact zy rfl (zp2 rfl rfl) rfl rfl k
  | exact zy rfl (zpP zf rfl rfl ⟨_,rfl⟩ rfl rfl) rfl rfl k
  | exact zq rfl (zua zf rfl rfl rfl rfl) rfl rfl k
  | exact zq rfl (zp2 rfl rfl) rfl rfl k
  | exact zq rfl (zpP zf rfl rfl ⟨_,rfl⟩ rfl rfl) rfl rfl k
  | fail):P:=h k
end Go.Cg
namespace Go.Cg
open Go.RowKit
section
variable {P:Program} {tb:Tab} {n:Nat} {g:Base} {K:KK} {w:World} {ρ:Nat->Value} {H:HEnv} {env:Env} {a:Act} {ops:List Oper} {o:Oper} {rest:List Oper} {Q:Env->HEnv->Prop}
end
end Go.Cg
