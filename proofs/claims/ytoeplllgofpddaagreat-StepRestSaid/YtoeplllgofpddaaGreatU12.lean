/- A part of the walks by abstract values: no statement of its own. -/
import Derived.Test.YtoeplllgofpddaaGreatU11
import Derived.Test.YtoeplllgofpddaaGreatU10
import Derived.Test.YtoeplllgofpddaaGreatU7
import Derived.Laws.Pointers
import Derived.Laws.CopyRow
import Derived.Test.YtoeplllgofpddaaGreatU8
import Derived.Test.YtoeplllgofpddaaGreatU4
set_option linter.unusedVariables false
set_option linter.unusedSimpArgs false
namespace Go.Cg
open Go.RowKit
section
variable {P:Program} {n:Nat} {g:Base} {H:HEnv} {env:Env} {c:Code} {QQ:QC} {K:KK} {w:World} {ρ:Nat→Value}
theorem zdP (b i k:Nat) (e:TypeId) (sz:Nat) {v:AV} {cs:List AV} (hsz:0 < sz) (hb:H.get b=some (.cell v)) (hv:aggOf v=some cs) (hk:cs[k]?=some (.pv (.base (.slice none 0 0)))) (hi:H.get i=none)
  (h:AW P n g c env ((b,.cell (.agg (cs.set k (.own i))))::(i,.mrow e sz [])::H) QQ):AW P n g c env H QQ:=by
 refine ⟨fun a w hinv=>h.go a w ?_⟩
 obtain ⟨h1,h2,K,ρ,hf,he⟩:=hinv
 have hev:Evo K K w w:=.refl hf.lt
 have hne:b≠i:=by rintro rfl;simp [hi] at hb
 have hf2:FS g K (fun j=>if j=i then .slice none 0 0 else ρ j) ((i,.mrow e sz [])::H) w:=hf.fresh hev hi ⟨[],World.ownsRow_nil w _ e sz,hsz,fun i e h=>by simp at h,by simp [Value.ownBlock]⟩ (by simp [zY])
 have hkk:∀ j,(HEnv.get ((i,HE.mrow e sz [])::H) j).isSome=true→(HEnv.get ((b,.cell (.agg (cs.set k (.own i))))::(i,HE.mrow e sz [])::H) j).isSome=true∧(fun j=>if j=i then Value.slice none 0 0 else ρ j) j=(fun j=>if j=i then Value.slice none 0 0 else ρ j) j:=by
  intro j hj
  refine ⟨?_,rfl⟩
  simp only [HEnv.get_nil,HEnv.get_cons] at hj ⊢
  split
  ·rfl
  ·exact hj
 have hlat:=hev.later hf.lt
 refine ⟨h1,h2,K,fun j=>if j=i then .slice none 0 0 else ρ j,⟨hf2.below,hf2.old,hf2.new,hf2.lt,hf2.others,hf2.pt,hf2.away.set (e0:=.cell v) (by rw [HEnv.get_cons,if_neg (Ne.symm hne)];exact hb) rfl,?_,?_⟩,(he.keeps hlat (qO hi _ _)).keeps hlat hkk⟩
 ·intro j hh hj
  simp only [HEnv.get_nil,HEnv.get_cons] at hj
  split at hj
  ·rename_i e';subst e'
   simp only [Option.some.injEq] at hj;subst hj
   have hb2:=(hf2.heap.ok b (.cell v) (by rw [HEnv.get_cons,if_neg (Ne.symm hne)];exact hb)).keeps hev hf.lt hkk
   obtain ⟨b',t',arr,u,hr,hB,hheap,hu,harr,hn⟩:=hb2
   refine ⟨b',t',arr,u,hr,hB,hheap,?_,harr,hn⟩
   have hu':=hu.aggOf hv
   cases hu' with
   | agg _ vs a1 a2 a3 =>
    refine .agg _ vs (by simpa using a1) a2 fun m c x hc hx=>?_
    rw [List.getElem?_set] at hc
    split at hc
    ·rename_i e1;subst e1
     split at hc
     ·simp only [Option.some.injEq] at hc;subst hc
      have:=a3 k _ x hk hx
      cases this with
      | pv _ _ hp =>
       cases hp
       have:=ARel.own (K:=K) (w:=w) (ρ:=fun j=>if j=i then .slice none 0 0 else ρ j) (H:=(b,.cell (.agg (cs.set k (.own i))))::(i,HE.mrow e sz [])::H) i (by simp [HEnv.get_nil,HEnv.get_cons,hne])
       simpa using this
     ·cases hc
    ·exact a3 m c x hc hx
  ·exact (hf2.heap.ok j hh (by simpa only [HEnv.get_nil,HEnv.get_cons] using hj)).keeps hev hf.lt hkk
 ·intro j k' hh hh' bb hjk hj hk' hlj hlk hbj hbk
  have e1:∀ (j:Nat) (hh:HE),HEnv.get ((b,.cell (.agg (cs.set k (.own i))))::(i,HE.mrow e sz [])::H) j=some hh→hh.live=true→∃ h0,HEnv.get ((i,HE.mrow e sz [])::H) j=some h0∧h0.live=true:=by
   intro j hh hj hl
   rw [HEnv.get_cons] at hj
   split at hj
   ·rename_i e';subst e'
    refine ⟨.cell v,?_,rfl⟩
    simp only [HEnv.get_nil,HEnv.get_cons];rw [if_neg (Ne.symm hne)];exact hb
   ·exact ⟨hh,hj,hl⟩
  obtain ⟨a1,a2,a3⟩:=e1 j hh hj hlj
  obtain ⟨b1,b2,b3⟩:=e1 k' hh' hk' hlk
  exact hf2.heap.apart j k' a1 b1 bb hjk a2 b2 a3 b3 hbj hbk
end
section
variable {P:Program} {tb:Tab} {g:Base} {H:HEnv} {env:Env} {o:Oper} {K:KK} {w:World} {ρ:Nat→Value}
def AL (K:KK) (w:World) (ρ:Nat→Value) (H:HEnv) (cs:List AV) (vs:List Value):Prop:=vs.length=cs.length∧∀ (k:Nat) (c:AV) (v:Value),cs[k]?=some c→vs[k]?=some v→ARel K w ρ H c v
theorem AL.take {cs:List AV} {vs:List Value} (h:AL K w ρ H cs vs) (n:Nat):AL K w ρ H (cs.take n) (vs.take n) :=
 ⟨by simp [h.1],fun k c v hc hv=>by
  rw [List.getElem?_take] at hc hv
  split at hc
  ·rename_i hk;rw [if_pos hk] at hv;exact h.2 k c v hc hv
  ·cases hc⟩
theorem AL.drop {cs:List AV} {vs:List Value} (h:AL K w ρ H cs vs) (n:Nat):AL K w ρ H (cs.drop n) (vs.drop n) :=
 ⟨by simp [h.1],fun k c v hc hv=>by
  rw [List.getElem?_drop] at hc hv
  exact h.2 _ c v hc hv⟩
theorem AL.append {cs ds:List AV} {vs us:List Value} (h:AL K w ρ H cs vs) (h':AL K w ρ H ds us):AL K w ρ H (cs++ds) (vs++us) :=
 ⟨by simp [h.1,h'.1],fun k c v hc hv=>by
  rw [List.getElem?_append] at hc hv
  rw [h.1] at hv
  split at hc
  ·rename_i hk;rw [if_pos hk] at hv;exact h.2 k c v hc hv
  ·rename_i hk;rw [if_neg hk] at hv;exact h'.2 _ c v hc hv⟩
def zlf (place:Nat→Option (Nat × Nat)):List AV→List (Nat × AV)→Option (List AV)
 | cells,[]=>some cells
 | cells,(i,p)::r =>
  match place i with
  | none=>none
  | some (off,size)=>if p.flat.length=size∧off + size≤cells.length then zlf place (cells.take off++p.flat++cells.drop (off + size)) r else none
def zgS (env:Env):List (Nat × Operand)→Option (List (Nat × AV))
 | []=>some []
 | (i,x)::xs=>match env.val x,zgS env xs with|some p,some ps=>some ((i,p)::ps)|_,_=>none
theorem ziS (place:Nat→Option (Nat × Nat)) (hrow:∀ i,isVal H i=true→(ρ i).cells=#[ρ i]∧(ρ i).oneCell'=true):∀ {ps:List (Nat × AV)} {cells cs:List AV} {vcells:Array Value} {vps:List (Nat × Value)},AL K w ρ H cells vcells.toList→ps.map (·.1)=vps.map (·.1) →
  AL K w ρ H (ps.map (·.2)) (vps.map (·.2))→(ps.all fun x=>x.2.flat.all (zmj H))=true→zlf place cells ps=some cs→∃ r,Instr.fill place vcells vps=some r∧AL K w ρ H cs r.toList
 | [],cells,cs,vcells,vps,hc,hi,hp,_,h=>by
  have:vps=[]:=by simpa using hi.symm
  subst this
  simp [zlf] at h;subst h
  exact ⟨vcells,rfl,hc⟩
 | (i,p)::ps,cells,cs,vcells,vps,hc,hi,hp,ho,h=>by
  cases vps with
  | nil=>simp at hi
  | cons x vps =>
   obtain ⟨j,v⟩:=x
   simp at hi
   obtain ⟨rfl,hi⟩:=hi
   simp only [List.map_cons] at hp
   have hpv:=hp.2 0 p v rfl rfl
   have hps:AL K w ρ H (ps.map (·.2)) (vps.map (·.2)):=⟨by have:=hp.1;simpa using this,fun k c u h1 h2=>hp.2 (k + 1) c u (by simpa using h1) (by simpa using h2)⟩
   simp only [List.all_cons,Bool.and_eq_true] at ho
   simp only [zlf] at h
   split at h
   ·cases h
   ·rename_i off size hpl
    split at h
    ·rename_i hle
     obtain ⟨f1,f2,f3⟩:=zgN hpv ho.1 hrow
     have hcr:AL K w ρ H p.flat v.cells.toList:=⟨by simpa using f1,f3⟩
     have hsz:v.cells.size=size:=by rw [←hle.1,f1]
     have hcs:vcells.size=cells.length:=by rw [←hc.1];simp
     have hfold:=foldl_set off v.cells.toList 0 vcells (by simp;omega)
     obtain ⟨r,hr1,hr2⟩:=ziS place hrow (vcells:=(v.cells.toList.zipIdx 0).foldl (fun cs (c:Value × Nat)=>cs.setIfInBounds (off + c.2) c.1) vcells) (vps:=vps) (cells:=cells.take off++p.flat++cells.drop (off + size)) (cs:=cs)
      (by rw [hfold];simp only [Nat.add_zero,Array.length_toList,hsz];exact ((hc.take off).append hcr).append (hc.drop _)) (by simpa using hi) hps ho.2 h
     refine ⟨r,?_,hr2⟩
     rw [←hr1]
     simp only [Instr.fill,hpl]
     rw [←Array.foldl_toList,Array.toList_zipIdx,if_neg (by simp;omega)]
    ·cases h
theorem zgx {a:Act}:∀ {xs:List (Nat × Operand)} {ps:List (Nat × AV)},(∀ x∈xs,∀ av,env.val x.2=some av→ARel K w ρ H av (a.eval x.2))→zgS env xs=some ps →
  ps.map (·.1)=xs.map (·.1)∧AL K w ρ H (ps.map (·.2)) (xs.map fun x=>a.eval x.2)
 | [],ps,_,h=>by simp [zgS] at h;subst h;exact ⟨rfl,rfl,fun k c v h=>by simp at h⟩
 | (i,x)::xs,ps,hv,h=>by
  simp only [zgS] at h
  split at h
  ·rename_i p qs e1 e2
   simp only [Option.some.injEq] at h;subst h
   obtain ⟨r1,r2⟩:=zgx (fun y hy=>hv y (by simp [hy])) e2
   refine ⟨by simp [r1],by simp [r2.1],fun k c v hc hvv=>?_⟩
   cases k with
   | zero=>simp at hc hvv;subst hc hvv;exact hv (i,x) (by simp) _ e1
   | succ k=>exact r2.2 k c v (by simpa using hc) (by simpa using hvv)
  ·cases h
theorem zrU (htb:qp P tb) {t:Nat} {parts:Array (Nat × Operand)} {fs:List (Nat × Nat × Nat)} {z:Value} {zs:List PV} {ps:List (Nat × AV)} {cs:List AV} (hop:o.op=.build t parts) (hk:∃ q,tb.k t=.agg fs q) (hz:tb.zero t=some z)
  (hzs:Vs z.cells.toList=some zs) (hps:zgS env parts.toList=some ps) (hone:(ps.all fun x=>x.2.flat.all (zmj H))=true) (hall:(fs.all fun f=>tb.known f.2.1&&tb.size f.2.1==f.2.2)=true)
  (hcs:zlf (zeV fs) (zs.map .pv) ps=some cs):QStep P g H o env (.agg cs):=by
 refine ⟨fun K ρ a w hfs hv=>?_⟩
 obtain ⟨q,hk⟩:=hk
 obtain ⟨F,hF,hfs',_⟩:=zbE htb hk
 obtain ⟨h1,h2⟩:=zgx (K:=K) (w:=w) (ρ:=ρ) (H:=H) (a:=a) (xs:=parts.toList) (fun x hx=>hv x.2 (by rw [hop];simp [Op.operands];exact ⟨x.1,by simpa using hx⟩)) hps
 have hz0:AL K w ρ H (zs.map .pv) z.cells.toList:=by
  have:=Xo (K:=K) (w:=w) hzs
  refine ⟨by rw [List.length_map];exact this.1,fun k c v hc hvv=>?_⟩
  rw [List.getElem?_map] at hc
  cases hk2:zs[k]? with
  | none=>simp [hk2] at hc
  | some p=>simp [hk2] at hc;subst hc;exact .pv _ _ (this.2 k p v hk2 hvv)
 obtain ⟨rr,hr1,hr2⟩:=ziS (K:=K) (w:=w) (ρ:=ρ) (H:=H) _ (row_one hfs) (vcells:=z.cells) (vps:=parts.toList.map fun x=>(x.1,a.eval x.2)) hz0 (by simpa [List.map_map,Function.comp_def] using h1) (by simpa [List.map_map,Function.comp_def] using h2) hone hcs
 have hzi:∃ i,P.info? t=some i∧i.zero=some z:=by
  unfold Tab.zero at hz
  split at hz
  ·rename_i ti hti
   obtain ⟨i,e1,_,_,e4,_⟩:=ZH htb hti
   exact ⟨i,e1,by rw [e4];exact hz⟩
  ·cases hz
 obtain ⟨i,hi,hiz⟩:=hzi
 have hplaces:∀ (l:List Field),(∀ f∈l,f∈F.toList)→(l.mapM fun f=>(Prod.mk f.offset <$> sizeOf f.type:Sem (Nat × Nat))).run P w=.ok (l.map fun f=>(f.offset,tb.size f.type)) w:=by
  intro l
  induction l with
  | nil=>intro _;simp
  | cons f l ih =>
   intro hl
   have hf:f∈F.toList:=hl f (by simp)
   have hall':=List.all_eq_true.1 hall (f.offset,f.type,P.cellsOf f.type) (by rw [←hfs'];exact List.mem_map.2 ⟨f,hf,rfl⟩)
   simp only [Bool.and_eq_true] at hall'
   have hko:tb.k f.type≠.oth:=by intro e;simp [Tab.known,e] at hall'
   have hs:=run_sizeOf htb hko w
   have ih':=ih (fun f hf=>hl f (by simp [hf]))
   simp [List.mapM_cons,hs,ih']
 have hpl:=hplaces F.toList (fun f hf=>hf)
 have hfun:zeV fs=fun i=>((F.toList.map fun f=>(f.offset,tb.size f.type)).toArray)[i]?:=by
  funext i
  rw [←hfs']
  simp only [zeV,List.getElem?_map,List.getElem?_toArray,Array.getElem?_toList]
  cases hfl:F[i]? with
  | none=>rfl
  | some f =>
   simp only [Option.map_some,Option.some.injEq,Prod.mk.injEq,true_and]
   have hf:f∈F.toList:=by simpa using Array.mem_of_getElem? hfl
   have hall':=List.all_eq_true.1 hall (f.offset,f.type,P.cellsOf f.type) (by rw [←hfs'];exact List.mem_map.2 ⟨f,hf,rfl⟩)
   simp only [Bool.and_eq_true,beq_iff_eq] at hall'
   exact hall'.2.symm
 rw [hfun] at hr1
 have:(execOp a.eval o).run P w=.ok (.value (.agg rr)) w:=by
  have hm:(F.mapM fun f=>(do pure (f.offset,←sizeOf f.type):Sem (Nat × Nat))).run P w=.ok (F.toList.map fun f=>(f.offset,tb.size f.type)).toArray w:=by
   rw [Array.mapM_eq_mapM_toList]
   simp only [bind_pure_comp,Sem.run_map,hpl,Result.andThen_ok]
  have hp2:(parts.map fun x=>(x.1,a.eval x.2)).toList=parts.toList.map fun x=>(x.1,a.eval x.2):=by simp
  simp only [execOp,hop,Instr.build,Sem.run_bind,zeroValue,typeInfo,run_program,hi,hiz,Result.andThen_ok,Sem.run_pure,run_underlying hF,hm,hp2,hr1]
 rw [this]
 have hone':∀ v∈rr.toList,v.oneCell'=true:=zhG _ hr1 (Xv hzs) (by
  intro x hx v hv'
  obtain ⟨k,hk⟩:=List.getElem?_of_mem hx
  have hk2:(parts.toList.map fun x=>a.eval x.2)[k]?=some x.2:=by
   rw [List.getElem?_map] at hk ⊢
   cases hpk:parts.toList[k]? with
   | none=>rw [hpk] at hk;simp at hk
   | some y=>rw [hpk] at hk;simp at hk;subst hk;rfl
  have hlt:k < (ps.map (·.2)).length:=by rw [←h2.1];exact (List.getElem?_eq_some_iff.1 hk2).1
  have hp:=List.getElem?_eq_getElem hlt
  have hall1:=List.all_eq_true.1 hone (ps[k]'(by simpa using hlt)) (List.getElem_mem _)
  exact (zgN (h2.2 k _ _ hp hk2) (by simpa using hall1) (row_one hfs)).2.1 v hv')
 exact Yh hfs (by have:=ARel.agg (K:=K) (w:=w) (ρ:=ρ) (H:=H) cs rr.toList hr2.1 hone' hr2.2;simpa using this)
theorem zn (htb:qp P tb) {ty:Nat} {x:Operand} {i off:Nat} {cs:List AV} {ps:List PV} {q:PV} (hop:o.op=.load ty x) (hx:env.val x=some (.box i off)) (hi:H.get i=some (.cell (.agg cs))) (hps:(cs.drop off).take ps.length=ps.map .pv) (hq:zb6 tb ty ps 0=some q):QStep P g H o env (.pv q):=by
 refine ⟨fun K ρ a w hf hv=>?_⟩
 have hxr:=hv x (by rw [hop];simp [Op.operands]) _ hx
 generalize hxv:a.eval x=xv at hxr
 obtain ⟨b,t,arr,u,hr,hB,hheap,hu,harr,hn⟩:=hf.heap.ok i _ hi
 cases hxr with
 | box _ _ b' hi' hρ =>
  rw [hr] at hρ
  simp only [Value.pointer.injEq,Option.some.injEq,Addr.mk.injEq,and_true] at hρ
  subst hρ
  cases hu with
  | agg _ vs a1 a2 a3 =>
   have hcell:∀ (k:Nat) (v:Value),((vs.drop off).take ps.length)[k]?=some v→w.cell? ⟨b,off + k,none⟩=some v:=by
    intro k v hv
    rw [List.getElem?_take] at hv
    split at hv
    ·rw [List.getElem?_drop] at hv
     simp only [World.cell?,hheap]
     rw [←harr]
     simpa [Value.cells] using hv
    ·cases hv
   have hrels:PRels K w ps ((vs.drop off).take ps.length):=by
    have hl:((cs.drop off).take ps.length).length=ps.length:=by rw [hps,List.length_map]
    refine ⟨by rw [List.length_take,List.length_drop] at hl ⊢;rw [a1];exact hl,fun k c v hc hv=>?_⟩
    have hck:((cs.drop off).take ps.length)[k]?=some (.pv c):=by rw [hps,List.getElem?_map,hc];rfl
    rw [List.getElem?_take] at hck hv
    split at hck
    ·rename_i hk
     rw [if_pos hk,List.getElem?_drop] at hv
     rw [List.getElem?_drop] at hck
     have:=a3 _ _ _ hck hv
     cases this with
     | pv _ _ hp=>exact hp
    ·cases hck
   have hone:∀ v∈(vs.drop off).take ps.length,v.oneCell'=true:=fun v hv=>a2 v (List.mem_of_mem_drop (List.mem_of_mem_take hv))
   obtain ⟨v,hv,hvr⟩:=QL htb (b:=b) (o:=off) hcell hrels hone hq
   have hrun:(execOp a.eval o).run P w=.ok (.value v) w:=by
    have hv':(loadVar ty ⟨b,off,none⟩).run P w=.ok v w:=hv
    simp [execOp,hop,hxv,Instr.loadAt,Instr.sureAddr,hv']
   rw [hrun]
   exact Yh hf (.pv _ _ hvr)
end
section
variable {P:Program} {tb:Tab} {n:Nat} {g:Base} {H:HEnv} {env:Env} {ops:List Oper} {o:Oper} {rest:List Oper} {Q:Env→HEnv→Prop} {QQ:QC} {c:Code} {K:KK} {w:World} {ρ:Nat→Value} {a:Act}
def zit:AV→Option Bool
 | .box _ _=>some false
 | .pv (.ptr _ _)=>some false
 | .pv (.base (.pointer none))=>some true
 | _=>none
theorem zn2 {t rt pe:TypeId} {x:Operand} {av:AV} {b:Bool} (hop:o.op=.binOp .eql t x (.const (.pointer none)) rt) (hu0:P.underlying t=some (.pointer pe)) (hx:env.val x=some av) (hn:zit av=some b):QStep P g H o env (.pv (.base (.bool b))):=by
 have hu:P.underlying t=some (.pointer (P.pointee t)):=by rw [hu0,Program.pointee,hu0]
 refine ⟨fun K ρ a w hf hv=>?_⟩
 have hxr:=hv x (by rw [hop];simp [Op.operands]) _ hx
 generalize hxv:a.eval x=xv at hxr
 have key:∀ p:Option Addr,xv=.pointer p→p.isNone=b→zdu P K ρ H w (.pv (.base (.bool b))) ((execOp a.eval o).run P w):=by
  rintro p rfl rfl
  have h1:=run_eql_pointer_nil (P:=P) w t p hu
  have h2:a.eval (.const (.pointer none))=.pointer none:=rfl
  have hrun:(execOp a.eval o).run P w=.ok (.value (.bool p.isNone)) w:=by
   simp [execOp,hop,hxv,h2,eqGuard,h1]
  rw [hrun]
  exact Yh hf (.pv _ _ (.base _ rfl))
 cases hxr with
 | box i off b' hi hb=>simp only [zit,Option.some.injEq] at hn;exact key _ rfl (by simpa using hn)
 | pv p v hp =>
  cases hp with
  | ptr=>simp only [zit,Option.some.injEq] at hn;exact key _ rfl (by simpa using hn)
  | base v hb =>
   cases xv <;> simp only [zit] at hn <;> try cases hn
   rename_i p
   cases p with
   | none=>simp only [Option.some.injEq] at hn;exact key _ rfl (by simpa using hn)
   | some ad=>cases hn
  | _=>simp [zit] at hn
 | _=>simp [zit] at hn
end
section
variable {P:Program} {tb:Tab} {n:Nat} {g:Base} {H:HEnv} {env:Env} {ops:List Oper} {o:Oper} {rest:List Oper} {Q:Env→HEnv→Prop} {QQ:QC} {c:Code} {K:KK} {w:World} {ρ:Nat→Value} {a:Act}
theorem znZ {x:Operand} {i off:Nat} (hop:o.op=.nilCheck x) (hx:env.val x=some (.ad i off)):QStep P g H o env (.ad i off):=by
 refine ⟨fun K ρ a w hf hv=>?_⟩
 have hxr:=hv x (by rw [hop];simp [Op.operands]) _ hx
 generalize hxv:a.eval x=xv at hxr
 cases hxr with
 | ad _ _ b m c hi hb =>
  have hrun:(execOp a.eval o).run P w=.ok (.value (.pointer (some ⟨b,off,none⟩))) w:=by simp [execOp,hop,hxv]
  rw [hrun]
  exact Yh hf (.ad i off b m c hi hb)
theorem zoi (htb:qp P tb) {t f:Nat} {x:Operand} {i off o' ft s:Nat} {fs:List (Nat × Nat × Nat)} (hop:o.op=.fieldAddr t x f) (hx:env.val x=some (.ad i off)) (hk:∃ q,tb.k t=.agg fs q) (hfe:fs[f]?=some (o',ft,s)) (hs:zd3 tb ft s=true):QStep P g H o env (.ad i (off + o')):=by
 refine ⟨fun K ρ a w hf hv=>?_⟩
 obtain ⟨q,hk⟩:=hk
 simp only [zd3,Bool.and_eq_true,bne_iff_ne,beq_iff_eq] at hs
 obtain ⟨F,hF,hfs',_⟩:=zbE htb hk
 have hf':∃ fl:Field,F[f]?=some fl∧fl.offset=o'∧fl.type=ft:=by
  rw [←hfs',List.getElem?_map,Array.getElem?_toList] at hfe
  cases hfl:F[f]? with
  | none=>simp [hfl] at hfe
  | some fl=>simp [hfl] at hfe;exact ⟨fl,rfl,hfe.1,hfe.2.1⟩
 obtain ⟨fl,hfl,rfl,rfl⟩:=hf'
 have hko:tb.k fl.type≠.oth:=by intro e;simp [Tab.known,e] at hs
 have hsz:=run_sizeOf htb hko w
 have hne:tb.size fl.type≠0:=by omega
 have hxr:=hv x (by rw [hop];simp [Op.operands]) _ hx
 generalize hxv:a.eval x=xv at hxr
 cases hxr with
 | ad _ _ b m c hi hb =>
  have hrun:(execOp a.eval o).run P w=.ok (.value (.pointer (some ⟨b,off + fl.offset,none⟩))) w:=by
   simp [execOp,hop,Instr.fieldAt,run_underlying hF,hfl,hxv,Instr.sureAddr,fieldPlace,hsz,hne,Addr.add_lit]
  rw [hrun]
  exact Yh hf (.ad i (off + fl.offset) b m c hi hb)
theorem zq9 (htb:qp P tb) {ty e:Nat} {x:Operand} {i sz:Nat} {es:List PV} (hop:o.op=.call { callee:=.builtin .len,args:=#[x],argTypes:=#[ty] }) (hx:env.val x=some (.own i)) (hi:H.get i=some (.mrow e sz es)) (hk:tb.k ty=.sl e):QStep P g H o env (.pv (.base (.int .i64 es.length))):=by
 refine ⟨fun K ρ a w hf hv=>?_⟩
 have hxr:=hv x (by rw [hop];simp [Op.operands,Call.operands]) _ hx
 generalize hxv:a.eval x=xv at hxr
 obtain ⟨us,hown,hsz,hcr,hKK'⟩:=hf.heap.ok i _ hi
 cases hxr with
 | own _ _ =>
  have hrun:(execOp a.eval o).run P w=.ok (.value (.int .i64 es.length)) w:=by
   have hl:∃ ad c,ρ i=.slice ad es.length c:=by
    rcases hown.2 with ⟨h,h2⟩|⟨b,cap,cur,h,_⟩
    ·exact ⟨none,0,by rw [h,h2]⟩
    ·exact ⟨_,_,h⟩
   obtain ⟨ad,c,hl⟩:=hl
   simp [execOp,hop,resolve,invoke,builtin,Builtin.len_,hxv,hl,run_underlying (Zl htb hk),goInt]
  rw [hrun]
  exact Yh hf (.pv _ _ (.base _ rfl))
theorem zqA (i j:Nat) (hi:(H.get i).isSome=true) (_:H.get j=none) (k:∀ u,AW P n g c env ((j,.pin (.own i) u)::H) QQ):AW P n g c env H QQ:=by
 refine ⟨fun a w hinv=>?_⟩
 obtain ⟨g1,g2,K,ρ,hf,he⟩:=hinv
 have hkk:∀ m,(H.get m).isSome=true→(HEnv.get ((j,.pin (.own i) (ρ i))::H) m).isSome=true∧ρ m=ρ m:=by
  intro m hm
  refine ⟨?_,rfl⟩
  rw [HEnv.get_cons];split <;> first|rfl|exact hm
 have hlive:∀ m hh,HEnv.get ((j,.pin (.own i) (ρ i))::H) m=some hh→hh.live=true→H.get m=some hh:=by
  intro m hh hm hl
  rw [HEnv.get_cons] at hm
  split at hm
  ·simp only [Option.some.injEq] at hm;subst hm;simp [HE.live] at hl
  ·exact hm
 refine (k (ρ i)).go a w ⟨g1,g2,K,ρ,⟨hf.below,hf.old,hf.new,hf.lt,hf.others,hf.pt,fun m hh bb hm hl hb=>hf.away m hh bb (hlive m hh hm hl) hl hb,fun m hh hm=>?_,fun m m' hh hh' bb hmm hm hm' hl hl'=>hf.heap.apart m m' hh hh' bb hmm (hlive m hh hm hl) (hlive m' hh' hm' hl') hl hl'⟩,he.keeps (.refl K w) hkk⟩
 rw [HEnv.get_cons] at hm
 split at hm
 ·simp only [Option.some.injEq] at hm;subst hm
  have hold:ARel K w ρ H (.own i) (ρ i):=.own i hi
  exact hold.keeps (.refl K w) hkk
 ·exact (hf.heap.ok m hh hm).keeps (.refl hf.lt) hf.lt hkk
end
end Go.Cg
namespace Go.Cg
theorem sM {Q P:Prop} (k:Q) (h:Q→P:=by
  intro k
  first
  | exact zB rfl (zq9 zf rfl rfl rfl rfl) rfl rfl k
  | exact zB rfl (znZ rfl rfl) rfl rfl k
  | exact zB rfl (zoi zf rfl rfl ⟨_,rfl⟩ rfl rfl) rfl rfl k
  | exact AD.step _ _ _ _ _ rfl (zq9 zf rfl rfl rfl rfl) rfl rfl k
  | exact AD.step _ _ _ _ _ rfl (znZ rfl rfl) rfl rfl k
  | exact AD.step _ _ _ _ _ rfl (zoi zf rfl rfl ⟨_,rfl⟩ rfl rfl) rfl rfl k
  | fail):P:=h k
end Go.Cg
namespace Go.Cg
open Go.Proofs
def SM (α:Type):Type:=List Ty→Except Int (α × List Ty)
def SM.ret {α:Type} (a:α):SM α:=fun l=>.ok (a,l)
def SM.bnd {α β:Type} (x:SM α) (f:α→SM β):SM β:=fun l=>match x l with|.error e=>.error e|.ok p=>f p.1 p.2
instance:Monad SM:={ pure:=SM.ret,bind:=SM.bnd }
theorem zA {α:Type} (a:α) (l:List Ty):(pure a:SM α) l=.ok (a,l):=rfl
theorem zx {α β:Type} (x:SM α) (f:α→SM β) (l:List Ty):(x >>= f) l=match x l with|.error e=>.error e|.ok p=>f p.1 p.2:=rfl
theorem zeY {α β:Type} {x:SM α} {f:α→SM β} {l:List Ty} {e:Int} (h:x l=.error e):(x >>= f) l=.error e:=by rw [zx,h]
theorem zml {α β:Type} {x:SM α} {f:α→SM β} {l l':List Ty} {a:α} (h:x l=.ok (a,l')):(x >>= f) l=f a l':=by rw [zx,h]
def zI (b:Bool) (e:Int):SM Unit:=fun l=>if b then .ok ((),l) else .error e
def Yk:SM Ty:=fun l=>if l.length < 1 then .error 9 else .ok ((l.drop (l.length - 1)).headD default,l.take (l.length - 1))
def yR (most:Int) (ts:List Ty):SM Unit:=fun l=>if ((l.length:Int) + (ts.length:Int))≤most then .ok ((),l++ts) else .error 9
def zai:SM Unit:=fun _=>.ok ((),[])
def emptyS (e:Int):SM Unit:=fun l=>if l.length==0 then .ok ((),l) else .error e
def kTy (k:Int):Ty:=⟨k,0,0,false⟩
def rfT (t:Ty):Ty:=⟨t.kind,t.index,t.dims,true⟩
def nuT (t:Ty):Bool:=tyB t (kTy 2)||tyB t (kTy 3)
def Yo (g:Img) (t:Ty):SM Unit:=do let x ←Yk;zI (Zx g x t) 10
def Zh (g:Img) (ls:List Ty):SM Unit:=fun l =>
 if l.length < ls.length then .error 9 else if ZG g (l.drop (l.length - ls.length)) ls then .ok ((),l.take (l.length - ls.length)) else .error 10
def qU:SM Ty:=do let b ←Yk;let a ←Yk;zI (tyB a b&&nuT a) 10;pure a
def za3:SM Ty:=do let t ←Yk;zI (nuT t) 10;pure t
def qN:SM Unit:=do let b ←Yk;let a ←Yk;zI (tyB a b&&nuT a||object a&&object b) 10
def XR (x:Ins) (ls:List Ty):SM Ty:=do zI (decide (x.arg < ls.length)) 3;pure (ls.getD x.arg.toNat default)
def Ym (most:Int) (t:Ty):SM Unit:=do zI (!t.ref) 13;yR most [rfT t]
def XD (g:Img) (c:Me):List Ty:=zsS (Vl (Yt g c.owner) (qK c.flags 1) c.owner) c.params
def ZY (most:Int) (c:Me):SM Unit:=if c.ret.kind != 1 then yR most [c.ret] else pure ()
def fAt (g:Img) (a:Int):Fd:=g.fields.getD a.toNat default
def tAt (g:Img) (a:Int):TD:=g.types.getD a.toNat default
def Zb (g:Img) (f:Fd) (itself:Bool):SM Unit:=do
 let t ←Yk
 if Yt g f.owner==1 then zI (tyB t (rfT ⟨6,f.owner,0,false⟩)||itself&&tyB t ⟨6,f.owner,0,false⟩) 10
 else zI (Zx g t ⟨5,f.owner,0,false⟩) 10
def QO (x:Ins):SM Ty:=do zI (decide (x.t.dims + 1≤3)) 6;pure ⟨x.t.kind,x.t.index,x.t.dims + 1,x.t.ref⟩
def zff (t:Ty):Bool:=nuT t||t.kind==6&&t.dims==0
def qJ (g:Img) (ar:List Ty) (m:Me) (x:Ins):SM Unit:=do
 let t ←XR x (if x.op==2||x.op==3||x.op==4 then ar else m.locals)
 if x.op==2||x.op==5 then yR m.max [t] else if x.op==3||x.op==6 then Yo g t else Ym m.max t
def qm (g:Img) (m:Me) (op:Int):SM Unit :=
 if op==13||op==14||op==15||op==16||op==17||op==18||op==19||op==20||op==25||op==26||op==27 then do let t ←qU;yR m.max [t]
 else if op==21||op==22 then do Yo g (kTy 2);let t ←za3;yR m.max [t]
 else if op==23||op==24 then do let t ←za3;yR m.max [t]
 else if op==28||op==30 then do let _ ←za3;yR m.max [kTy 2]
 else if op==29 then do let _ ←za3;yR m.max [kTy 3]
 else if op==31 then do qN;yR m.max [kTy 2]
 else if op==32||op==33 then do let _ ←qU;yR m.max [kTy 2]
 else pure ()
def Ze (op:Int):SM Unit :=
 if op==35||op==36 then do let t ←Yk;zI (nuT t||object t) 10
 else if op==37||op==42 then qN
 else if op==38||op==39||op==40||op==41 then do let _ ←qU;pure ()
 else pure ()
def qw (g:Img) (m:Me) (x:Ins):SM Unit :=
 let c:=mAt g x.arg
 if x.op==43 then do zI (!qK c.flags 4) 8;Zh g (XD g c);ZY m.max c
 else if x.op==44 then do zI (!qK c.flags 1&&!qK c.flags 16&&Yt g c.owner != 1) 8;Zh g (XD g c);ZY m.max c
 else do zI (qK c.flags 16&&!qK (tAt g c.owner).flags 4) 8;Zh g c.params;yR m.max [⟨5,c.owner,0,false⟩]
def yE (g:Img) (m:Me) (x:Ins):SM Unit:=do
 let f:=fAt g x.arg
 zI (f.static==(x.op==51||x.op==52||x.op==53)) 8
 if x.op==48 then do Zb g f true;yR m.max [f.ty]
 else if x.op==49 then do Yo g f.ty;Zb g f false
 else if x.op==50 then do Zb g f false;yR m.max [rfT f.ty]
 else if x.op==51 then yR m.max [f.ty]
 else if x.op==52 then Yo g f.ty
 else yR m.max [rfT f.ty]
def qI (g:Img) (m:Me) (x:Ins):SM Unit :=
 if x.op==55 then Zh g [rfT x.t,x.t]
 else do let t ←Yk;zI (tyB t (rfT x.t)) 10;if x.op==54 then yR m.max [x.t] else pure ()
def yB (g:Img) (m:Me) (x:Ins):SM Unit :=
 if x.op==58 then do let t ←Yk;zI (object t&&(decide (0 < t.dims)||t.kind==8)) 10;yR m.max [kTy 2]
 else do
  let a ←QO x
  if x.op==57 then do Yo g (kTy 2);yR m.max [a]
  else if x.op==60 then Zh g [a,kTy 2,x.t]
  else do Zh g [a,kTy 2];if x.op==59 then yR m.max [x.t] else yR m.max [rfT x.t]
def yw (g:Img) (m:Me) (x:Ins):SM Unit:=do
 zI ((x.op==65||x.op==66)&&object x.t||!(x.op==65||x.op==66)&&zff x.t) 8
 if x.op==62 then do Yo g x.t;yR m.max [kTy 4]
 else do let t ←Yk;zI (object t) 10;yR m.max [if x.op==63 then rfT x.t else x.t]
def sameAll:List Ty→List Ty→Bool
 | a::ar,b::bs=>tyB a b&&sameAll ar bs
 | _,_=>true
def yt (g:Img) (m:Me) (x:Ins):SM Unit:=do
 zI (x.t.kind==5&&x.t.dims==0&&Yt g x.t.index==3) 8
 let d:=mAt g ((methodsOf g x.t.index).headD 0)
 let f ←Yk
 let o ←Yk
 zI (tyB f ⟨9,f.index,0,false⟩&&decide (0≤f.index)&&decide (f.index < g.methods.length)) 10
 let c:=mAt g f.index
 zI (tyB c.ret d.ret&&c.params.length==d.params.length) 10
 zI (sameAll c.params d.params) 10
 let this:=Vl (Yt g c.owner) (qK c.flags 1) c.owner
 if this.2 then zI (!this.1.ref&&Zx g o this.1) 10 else zI (tyB o (kTy 8)) 10
 yR m.max [x.t]
def Zm (g:Img) (m:Me) (op:Int):SM Unit:=do
 if op==46 then do (if m.ret.kind != 1 then Yo g m.ret else pure ());emptyS 9
 else if op==69 then do let t ←Yk;zI (object t) 10
 else if op==73 then do Yo g (kTy 2);emptyS 9
 else pure ()
 zai
def yI (g:Img) (m:Me) (x:Ins):SM Unit :=
 if x.op==8 then yR m.max [kTy 2]
 else if x.op==9||x.op==74 then yR m.max [kTy 3]
 else if x.op==10 then yR m.max [kTy 8]
 else if x.op==11 then do let t ←Yk;yR m.max [t,t]
 else if x.op==12 then do let _ ←Yk;pure ()
 else if x.op==75 then Yo g (kTy 3)
 else if x.op==67 then do zI (!qK (mAt g x.arg).flags 4&&!qK (mAt g x.arg).flags 16) 8;yR m.max [⟨9,x.arg,0,false⟩]
 else pure ()
def doS (g:Img) (ar:List Ty) (m:Me) (x:Ins):SM Unit :=
 if decide (2≤x.op)&&decide (x.op≤7) then qJ g ar m x
 else if decide (13≤x.op)&&decide (x.op≤33) then qm g m x.op
 else if decide (34≤x.op)&&decide (x.op≤42) then Ze x.op
 else if decide (43≤x.op)&&decide (x.op≤45) then qw g m x
 else if decide (48≤x.op)&&decide (x.op≤53) then yE g m x
 else if decide (54≤x.op)&&decide (x.op≤56) then qI g m x
 else if decide (57≤x.op)&&decide (x.op≤61) then yB g m x
 else if decide (62≤x.op)&&decide (x.op≤66) then yw g m x
 else if x.op==68 then yt g m x
 else if x.op==46||decide (69≤x.op)&&decide (x.op≤73) then Zm g m x.op
 else yI g m x
def WY (m:Me) (a:Int):Ins:=m.code.getD a.toNat default
def stepS (g:Img) (mi at_:Int) (l:List Ty):Except Int (Unit × List Ty):=doS g (XD g (mAt g mi)) (mAt g mi) (WY (mAt g mi) at_) l
abbrev yA (g:Img):List PV:=[.slc 4 (g.types.map ZA) false,.slc 7 (g.fields.map ZK) false,.slc 12 (g.methods.map yL) false,pi g.entry]
abbrev zf8 (m:Me):List PV:=[ps m.name,pi m.owner,pi m.flags,tys m.params,pi m.ret.kind,pi m.ret.index,pi m.ret.dims,pb m.ret.ref,tys m.locals,pi m.max,.slc 6 (m.code.map ZP) false,.slc 10 (m.clauses.map ZB) false]
abbrev zb5 (x:Ins):List PV:=[pi x.op,pi x.arg,pi x.t.kind,pi x.t.index,pi x.t.dims,pb x.t.ref]
abbrev yO (t:Ty):List PV:=[pi t.kind,pi t.index,pi t.dims,pb t.ref]
structure RC where
 g:Img
 m:Me
 ar:List Ty
 x:Ins
abbrev Xt (c:RC) (l:List Ty):HE:=.cell (.agg ((yA c.g++(zf8 c.m++(tys c.ar::(zb5 c.x++[tys l])))).map .pv))
abbrev Ve (c:RC):HE:=.cell (.agg ((yA c.g++(zf8 c.m++(tys c.ar::zb5 c.x))).map .pv++[.any1]))
abbrev zgd (u:Value):HEnv:=[(1000,.pin (.own 0) u)]
abbrev yN (u:Value) (c:RC) (l:List Ty):HEnv:=(0,Xt c l)::zgd u
abbrev flt (e:Int):Value:=.iface 108 (.int .i64 e)
def zrZ {α:Type} (u:Value) (c:RC) (val:α→AV):Except Int (α × List Ty)→Out
 | .error e=>.pan (flt e)
 | .ok p=>.ret (val p.1) (yN u c p.2)
abbrev uV:Unit→AV:=fun _=>.pv (.tup [])
abbrev tV:Ty→AV:=fun t=>.pv (yJ t)
def XC {α:Type} (f:FuncId) (args:List AV) (c:RC) (act:SM α) (val:α→AV) (l:List Ty):Prop:=∀ u,zdy Tryz.prog f (.box 0 0::args) (yN u c l) (zrZ u c val (act l))
theorem XC.ok {α:Type} {f:FuncId} {args:List AV} {c:RC} {act:SM α} {val:α→AV} {l l':List Ty} {a:α} (h:XC f args c act val l) (e:act l=.ok (a,l')):∀ us,ACallM Tryz.prog f (.box 0 0::args) ([(0,Xt c l)]++ZT us [0]) (val a) ([(0,Xt c l')]++ZT us [0]):=fun us=>by
 have:=h (us 0)
 rw [e] at this;exact this
theorem XC.bad {α:Type} {f:FuncId} {args:List AV} {c:RC} {act:SM α} {val:α→AV} {l:List Ty} {e:Int} (h:XC f args c act val l) (he:act l=.error e) (u:Value):ACallPan Tryz.prog f (.box 0 0::args) (yN u c l) (flt e):=by
 have:=h u
 rw [he] at this;exact this
set_option maxHeartbeats 20000000
theorem zV {α:Type} {tb:Tab} {rs:List ResultVar} {u:Value} {c:RC} {val:α→AV} {act:SM α} {l l':List Ty} {a:α} {ex:Exit} {env:Env} {H:HEnv} (h:act l=.ok (a,l')) (hr:zie tb rs (val a) (yN u c l') ex env H):zp9 tb rs (zrZ u c val (act l)) ex env H:=by
 rw [h];exact hr
theorem zy {α:Type} {tb:Tab} {rs:List ResultVar} {u:Value} {c:RC} {val:α→AV} {act:SM α} {l:List Ty} {e:Int} {env:Env} {H:HEnv} (h:act l=.error e):zp9 tb rs (zrZ u c val (act l)) (.panic [{ v:=flt e,recovered:=false }]) env H:=by
 rw [h];rfl
theorem zC {b:Bool} (h:b=true) (e:Int):ACall Tryz.prog 133 [pb b,pi e] (.tup []):=by
 subst h
 refine zh zf Tryz.func133 rfl (by kernel_rfl) Tryz.ntmps133 (by simp) _ rfl (fun hw gB hgB=>?_)
 repeat' (first|refine sK ?_|refine sC (fun _=>?_) (fun _=>?_)|fail)
 exact ZN rfl rfl
theorem zZ {b:Bool} (h:b=false) (e:Int):ACallPan Tryz.prog 133 [.pv (pb b),.pv (pi e)] [] (flt e):=by
 subst h
 refine zcu Tryz.func133 rfl (by kernel_rfl) Tryz.ntmps133 (by simp) (fun gB hw1=>?_)
 repeat' (first|refine zq 1 2 rfl rfl rfl ?_|refine zB rfl (zoK rfl Tryz.underlying108 rfl) rfl rfl ?_|refine zpb rfl rfl rfl ?_|refine sK ?_|refine sC (fun _=>?_) (fun _=>?_)|fail)
 exact rfl
theorem zM (k:Int):ACall Tryz.prog 129 [pi k] (yJ (kTy k)):=by
 refine zh zf Tryz.func129 rfl (by kernel_rfl) Tryz.ntmps129 (by simp) _ rfl (fun hw gB hgB=>?_)
 repeat' (first|refine sK ?_|refine sC (fun _=>?_) (fun _=>?_)|fail)
 exact retq rfl rfl
theorem zbc (t:Ty):ACall Tryz.prog 134 [yJ t] (pb (nuT t)):=by
 refine zh zf Tryz.func134 rfl (by kernel_rfl) Tryz.ntmps134 (by simp) _ rfl (fun hw gB hgB=>?_)
 repeat' (first|(refine shC ?_;first|refine qC (zM 2) ?_|refine qC (zM 3) ?_)|refine sA ?_|refine sC (fun _=>?_) (fun _=>?_)|fail)
 all_goals first|(exact retq rfl (by simp_all [zk,nuT,tyB,kTy]))|trace_state
theorem ZR (t:Ty):ACall Tryz.prog 141 [yJ t] (yJ (rfT t)):=by
 refine zh zf Tryz.func141 rfl (by kernel_rfl) Tryz.ntmps141 (by simp) _ rfl (fun hw gB hgB=>?_)
 repeat' (first|(refine VU ?_;first|refine zcX 7 rfl rfl rfl rfl rfl rfl ?_)|refine sA ?_|refine sC (fun _=>?_) (fun _=>?_)|fail)
 exact retq rfl rfl
theorem YL (m:Me) (k:Int):ACall Tryz.prog 137 [yL m,pi k] (pb (qK m.flags k)):=by
 refine zh zf Tryz.func137 rfl (by kernel_rfl) Tryz.ntmps137 (by simp) _ rfl (fun hw gB hgB=>?_)
 repeat' (first|refine sA ?_|refine sC (fun _=>?_) (fun _=>?_)|fail)
 exact retq rfl rfl
theorem zbG (t:Ty):ACall Tryz.prog 143 [yJ t] (pb (zff t)):=by
 refine zh zf Tryz.func143 rfl (by kernel_rfl) Tryz.ntmps143 (by simp) _ rfl (fun hw gB hgB=>?_)
 have c1:=zbc t
 rw [zff]
 generalize nuT t=b at c1 ⊢
 repeat' (first|(refine shC ?_;first|refine qC c1 ?_)|refine sA ?_|refine sC (fun _=>?_) (fun _=>?_)|fail)
 all_goals first|(exact retq rfl (by simp_all [zk]))|trace_state
theorem yC {tb:Tab} {u:Value} {c:RC} {l:List Ty} {ex:Exit} {env:Env} {H:HEnv} (he:ex=.normal∨ex=.ret) (h:Wn H (yN u c l) []):zie tb [] (uV ()) (yN u c l) ex env H:=⟨he,.inl ⟨[],rfl,rfl,h⟩⟩
theorem zje {tb:Tab} {u:Value} {c:RC} {l:List Ty} {t:Ty} {rs:List ResultVar} {env:Env} {H:HEnv} (hr:zaJ tb H env rs=some [yJ t]) (h:Wn H (yN u c l) []):zie tb rs (tV t) (yN u c l) .ret env H:=⟨.inr rfl,.inl ⟨_,hr,rfl,h⟩⟩
theorem yj (c:RC) (l:List Ty) (hl:l.length≤1000):XC 132 [] c Yk tV l:=by
 intro u;refine zF zf Tryz.func132 rfl (by kernel_rfl) Tryz.ntmps132 (by simp) _ rfl (fun gB hw1=>?_)
 by_cases h:l.length < 1
 ·have hp:Yk l=.error 9:=by rw [Yk,if_pos h]
  repeat' (first|refine zq 2 3 rfl rfl rfl ?_|refine zD ([]) zi rfl rfl rfl tH (zZ rfl 9) ?_|(refine shC ?_;first|refine zB rfl (zG rfl rfl (zaB l 1 (.inr (by omega)))) rfl rfl ?_|refine AD.step _ _ _ _ _ rfl (zG rfl rfl (zaB l 1 (.inr (by omega)))) rfl rfl ?_)|refine sK ?_|refine sC (fun _=>?_) (fun _=>?_)|fail)
  exact zy hp
 ·have hp:Yk l=.ok ((l.drop (l.length - 1)).headD default,l.take (l.length - 1)):=by rw [Yk,if_neg h]
  have hd:(l.drop (l.length - 1)).length=1:=by simp;omega
  obtain ⟨t,ht⟩:=List.length_eq_one_iff.1 hd
  rw [ht] at hp
  have cp:=zlG l 1 hl (by omega) (by omega)
  rw [show (1:Int).toNat=1 from rfl,ht] at cp
  repeat' (first|(refine shC ?_;first|refine qC cp ?_|refine qC (zC rfl 0) ?_)|(refine shX ?_;first|refine zB rfl (zl zf rfl rfl rfl rfl rfl rfl (by decide) rfl) rfl rfl ?_|refine AD.step _ _ _ _ _ rfl (zl zf rfl rfl rfl rfl rfl rfl (by decide) rfl) rfl rfl ?_)|refine sK ?_|refine sC (fun _=>?_) (fun _=>?_)|fail)
  exact zV hp (zje rfl tH)
end Go.Cg
namespace Go.Cg
open Go.RowKit
structure ScriptM (P:Program) (n:Nat) (g:Base) (H:HEnv) (ops:List Oper) (l:List Oper) (E:List Nat) (env:Env) (Q:Env→Prop) where
 r:List AV
 e:List Env
 last:Env
 lenr:r.length=l.length
 lene:e.length=l.length
 ok:∀ (j:Nat) (o:Oper) (rj:AV) (ej:Env),j∉E→l[j]?=some o→r[j]?=some rj→e[j]?=some ej→∃ t,o.dst=some t∧t < n ∧
  ((guardE ops ej o=some true∧QStep P g H o ej rj)∨(guardE ops ej o=some false∧rj=.pv (.tup [])))
 src:∀ (j:Nat) (ej:Env),(e++[last])[j]?=some ej→∀ (t:Nat) (av:AV),ej.get t=some av→(∃ i o ri,i < j∧l[i]?=some o∧o.dst=some t∧r[i]?=some ri∧Tells ri av∧(∀ i' o',i < i'→i' < j→l[i']?=some o'→o'.dst≠some t)) ∨
  ((∀ i o,i < j→l[i]?=some o→o.dst≠some t)∧∃ av0,env.get t=some av0∧Tells av0 av)
 fin:Q last
section
variable {P:Program} {n:Nat} {g:Base} {K:KK} {w:World} {ρ:Nat→Value} {H:HEnv} {env:Env} {a:Act} {ops l:List Oper} {Q:Env→Prop}
def zl3 (n:Nat) (ops:List Oper) (F:Nat→Oper→Env→AV→Prop) (l:List Oper) (r:List AV) (e:List Env) (p j:Nat):Prop :=
 ∃ oc tc rc ec,l[j]?=some oc∧oc.dst=some tc∧tc < n∧r[j]?=some rc∧e[j]?=some ec∧guardE ops ec oc=some true∧F p oc ec rc
def zeN (P:Program) (n:Nat) (g:Base) (H:HEnv) (ops:List Oper) (Q:Env→Prop) (F:Nat→Oper→Env→AV→Prop) (E:List Nat) (l:List Oper) (env:Env):Prop :=
 ∃ s:ScriptM P n g H ops l E env Q,∀ p j,E[p]?=some j→zl3 n ops F l s.r s.e p j
variable {F:Nat→Oper→Env→AV→Prop} {E:List Nat}
theorem zqU (h:Q env):zeN P n g H ops Q F [] [] env:=by
 refine ⟨⟨[],[],env,rfl,rfl,by simp,?_,h⟩,by simp⟩
 intro j ej hj t av hav
 cases j with
 | zero=>simp at hj;subst hj;exact .inr ⟨by simp,av,hav,.refl _⟩
 | succ j=>simp at hj
theorem zhK {o:Oper} {r0:AV} {e0:Env} {r:List AV} {e:List Env} {p j:Nat} (h:zl3 n ops F l r e p j):zl3 n ops F (o::l) (r0::r) (e0::e) p (j + 1):=by
 obtain ⟨oc,tc,rc,ec,h1,h2,h3,h4,h5,h6,h7⟩:=h
 exact ⟨oc,tc,rc,ec,by simpa using h1,h2,h3,by simpa using h4,by simpa using h5,h6,h7⟩
theorem zen {E:List Nat} {p j:Nat} (h:(E.map (· + 1))[p]?=some j):∃ j',j=j' + 1∧E[p]?=some j':=by
 rw [List.getElem?_map] at h
 cases hE:E[p]? with
 | none=>simp [hE] at h
 | some j'=>simp [hE] at h;exact ⟨j',h.symm,rfl⟩
theorem zos {o:Oper} {r:AV} {t:Nat} (hd:o.dst=some t) (ht:t < n) (hor:(guardE ops env o=some true∧QStep P g H o env r)∨(guardE ops env o=some false∧r=.pv (.tup [])))
  (h:zeN P n g H ops Q F E l ((t,r)::env)):zeN P n g H ops Q F (E.map (· + 1)) (o::l) env:=by
 obtain ⟨s,hs⟩:=h
 refine ⟨⟨r::s.r,env::s.e,s.last,by simp [s.lenr],by simp [s.lene],?_,zlT hd s.src,s.fin⟩,?_⟩
 ·intro j o' rj ej hne ho hr he
  cases j with
  | zero=>simp at ho hr he;subst ho hr he;exact ⟨t,hd,ht,hor⟩
  | succ j=>exact s.ok j o' rj ej (fun hm=>hne (List.mem_map.2 ⟨j,hm,rfl⟩)) (by simpa using ho) (by simpa using hr) (by simpa using he)
 ·intro p j hp
  obtain ⟨j',rfl,hj'⟩:=zen hp
  exact zhK (hs p j' hj')
theorem zrE {oc:Oper} {rc:AV} {tc:Nat} (hd:oc.dst=some tc) (ht:tc < n) (hg:guardE ops env oc=some true) (hF:F 0 oc env rc)
  (h:zeN P n g H ops Q (fun p=>F (p + 1)) E l ((tc,rc)::env)):zeN P n g H ops Q F (0::E.map (· + 1)) (oc::l) env:=by
 obtain ⟨s,hs⟩:=h
 refine ⟨⟨rc::s.r,env::s.e,s.last,by simp [s.lenr],by simp [s.lene],?_,zlT hd s.src,s.fin⟩,?_⟩
 ·intro j o' rj ej hne ho hr he
  cases j with
  | zero=>exact absurd (by simp) hne
  | succ j=>exact s.ok j o' rj ej (fun hm=>hne (List.mem_cons_of_mem _ (List.mem_map.2 ⟨j,hm,rfl⟩))) (by simpa using ho) (by simpa using hr) (by simpa using he)
 ·intro p j hp
  cases p with
  | zero=>simp at hp;subst hp;exact ⟨oc,tc,rc,env,rfl,hd,ht,rfl,rfl,hg,hF⟩
  | succ p =>
   obtain ⟨j',rfl,hj'⟩:=zen (E:=E) (p:=p) (by simpa using hp)
   exact zhK (hs p j' hj')
theorem zn3 {l1 l2:List Oper} (h:AD P n g H ops (fun env1=>zeN P n g H ops Q F E l2 env1) l1 env):zeN P n g H ops Q F (E.map (· + l1.length)) (l1++l2) env:=by
 induction h with
 | nil env hq=>simpa using hq
 | step o rest env r t hg hq hd ht _ ih =>
  have:=zos hd (Nat.le_of_ble_eq_true ht) (.inl ⟨hg,hq⟩) ih
  rw [List.map_map] at this
  simpa [Function.comp_def,Nat.add_assoc] using this
 | skip o rest env t hg hd ht _ ih =>
  have:=zos hd (Nat.le_of_ble_eq_true ht) (.inr ⟨hg,rfl⟩) ih
  rw [List.map_map] at this
  simpa [Function.comp_def,Nat.add_assoc] using this
 | case l env t b hb h1 h2 ih1 ih2 =>
  have key:∀ c,b=c→zeN P n g H ops Q F (E.map (· + l.length)) (l++l2) ((t,.pv (.base (.bool c)))::env)→zeN P n g H ops Q F (E.map (· + l.length)) (l++l2) env:=by
   rintro c rfl ⟨s,hs⟩
   refine ⟨⟨s.r,s.e,s.last,s.lenr,s.lene,s.ok,?_,s.fin⟩,hs⟩
   intro j ej hj t' av hav
   rcases s.src j ej hj t' av hav with h|⟨h1,av0,h2,h3⟩
   ·exact .inl h
   ·refine .inr ⟨h1,?_⟩
    simp only [Env.get_nil,Env.get_cons] at h2
    split at h2
    ·rename_i e;subst e;simp only [Option.some.injEq] at h2;subst h2;exact ⟨_,hb,h3⟩
    ·exact ⟨av0,h2,h3⟩
  cases hb':b
  ·exact key false hb' (ih2 hb')
  ·exact key true hb' (ih1 hb')
def phase (E:List Nat) (listed:Array Bool):Nat:=(E.filter fun j=>listed.getD j true).length
def YA (l:List Oper):List Nat→Bool
 | []=>true
 | [j]=>(l[j]?).isSome
 | i::j::E=>Nat.blt i j&&(match l[j]? with|some o=>yD o i|none=>false)&&(l[i]?).isSome&&YA l (j::E)
theorem za0:∀ {E:List Nat} {p i j:Nat},YA l E=true→E[p]?=some i→E[p + 1]?=some j→i < j∧∃ o,l[j]?=some o∧yD o i=true
 | [],p,i,j,_,h,_=>by simp at h
 | [x],p,i,j,_,_,h=>by simp at h
 | x::y::E,p,i,j,hc,h1,h2=>by
  simp only [YA,Bool.and_eq_true] at hc
  obtain ⟨⟨⟨c1,c2⟩,c3⟩,c4⟩:=hc
  cases p with
  | zero =>
   simp at h1 h2;subst h1 h2
   refine ⟨Nat.le_of_ble_eq_true c1,?_⟩
   cases hl:l[y]? with
   | none=>simp [hl] at c2
   | some o=>exact ⟨o,rfl,by simpa [hl] using c2⟩
  | succ p=>exact za0 c4 (by simpa using h1) (by simpa using h2)
theorem zbR:∀ {E:List Nat},YA l E=true→∀ {p q i j:Nat},p < q→E[p]?=some i→E[q]?=some j→i < j:=by
 intro E hc p q
 induction q with
 | zero=>intro i j h;omega
 | succ q ih =>
  intro i j hpq h1 h2
  cases hq:E[q]? with
  | none =>
   have:=(List.getElem?_eq_some_iff.1 h2).1
   rw [List.getElem?_eq_none_iff] at hq;omega
  | some m =>
   have:=(za0 hc hq h2).1
   rcases Nat.lt_or_ge p q with h|h
   ·have:=ih h h1 hq;omega
   ·have:p=q:=by omega
    subst this
    rw [h1] at hq;cases hq;exact this
theorem zhT {E:List Nat} (hc:YA l E=true) {p j:Nat} (h:E[p]?=some j):j < l.length:=by
 have key:∀ {E:List Nat},YA l E=true→∀ {p j:Nat},E[p]?=some j→(l[j]?).isSome=true:=by
  intro E
  induction E with
  | nil=>intro _ p j h;simp at h
  | cons x E ih =>
   intro hc p j h
   cases E with
   | nil =>
    simp only [YA] at hc
    cases p with
    | zero=>simp at h;subst h;exact hc
    | succ p=>simp at h
   | cons y E =>
    simp only [YA,Bool.and_eq_true] at hc
    cases p with
    | zero=>simp at h;subst h;exact hc.1.2
    | succ p=>exact ih hc.2 (by simpa using h)
 have:=key hc h
 cases hl:l[j]? with
 | none=>simp [hl] at this
 | some o=>exact (List.getElem?_eq_some_iff.1 hl).1
theorem zg7 {E:List Nat} {listed:Array Bool} {p:Nat} (hp:p≤E.length) (hlow:∀ q i,q < p→E[q]?=some i→listed.getD i true=true) (hhigh:∀ q i,p≤q→E[q]?=some i→listed.getD i true=false):phase E listed=p:=by
 have e:E=E.take p++E.drop p:=(List.take_append_drop p E).symm
 unfold phase
 rw [e,List.filter_append,List.length_append]
 have h1:(E.take p).filter (fun j=>listed.getD j true)=E.take p:=by
  rw [List.filter_eq_self]
  intro x hx
  obtain ⟨q,hq⟩:=List.getElem?_of_mem hx
  rw [List.getElem?_take] at hq
  split at hq
  ·rename_i hlt;exact hlow q x hlt hq
  ·cases hq
 have h2:(E.drop p).filter (fun j=>listed.getD j true)=[]:=by
  rw [List.filter_eq_nil_iff]
  intro x hx
  obtain ⟨q,hq⟩:=List.getElem?_of_mem hx
  rw [List.getElem?_drop] at hq
  simp [hhigh (p + q) x (by omega) hq]
 rw [h1,h2]
 simp;omega
theorem zi8 {listed:Array Bool} {i:Nat} (h:listed.getD i false=true):listed.getD i true=true:=by
 rw [Array.getD_eq_getD_getElem?] at h ⊢
 cases hh:listed[i]? with
 | none=>rfl
 | some b=>rw [hh] at h;exact h
theorem zi0 {E:List Nat} {listed:Array Bool} (hc:YA l E=true) (hcl:∀ (i:Nat) (o:Oper),l[i]?=some o→listed.getD i true=true→∀ j,yD o j=true→listed.getD j false=true) {j:Nat} {oc:Oper} (hjc:l[j]?=some oc) (hready:∀ i,yD oc i=true→listed.getD i false=true) :
  ∀ {p:Nat},E[p]?=some j→∀ q i,q < p→E[q]?=some i→listed.getD i true=true:=by
 intro p hp
 have key:∀ d q i,q + d + 1=p→E[q]?=some i→listed.getD i true=true:=by
  intro d
  induction d with
  | zero =>
   intro q i hq hi
   have hp':E[q + 1]?=some j:=by rw [show q + 1=p by omega];exact hp
   obtain ⟨_,o,ho,he⟩:=za0 hc hi hp'
   rw [hjc] at ho;cases ho
   exact zi8 (hready i he)
  | succ d ih =>
   intro q i hq hi
   have hlt:q + 1 < E.length:=by have:=(List.getElem?_eq_some_iff.1 hp).1;omega
   have hn:=List.getElem?_eq_getElem hlt
   have h1:=ih (q + 1) _ (by omega) hn
   obtain ⟨_,o,ho,he⟩:=za0 hc hi hn
   exact zi8 (hcl _ o ho h1 i he)
 intro q i hq hi
 exact key (p - q - 1) q i (by omega) hi
theorem zne {E:List Nat} {listed:Array Bool} (hc:YA l E=true) (hcl:∀ (i:Nat) (o:Oper),l[i]?=some o→listed.getD i true=true→∀ j,yD o j=true→listed.getD j false=true) {j:Nat} (hun:listed.getD j true=false) :
  ∀ {p:Nat},E[p]?=some j→∀ q i,p≤q→E[q]?=some i→listed.getD i true=false:=by
 intro p hp q
 induction q with
 | zero =>
  intro i hq hi
  have:p=0:=by omega
  subst this;rw [hp] at hi;cases hi;exact hun
 | succ q ih =>
  intro i hq hi
  rcases Nat.eq_or_lt_of_le hq with e|h
  ·subst e;rw [hp] at hi;cases hi;exact hun
  ·have hlt:q < E.length:=by have:=(List.getElem?_eq_some_iff.1 hi).1;omega
   have hn:=List.getElem?_eq_getElem hlt
   have h1:=ih _ (by omega) hn
   obtain ⟨_,o,ho,he⟩:=za0 hc hn hi
   cases hb:listed.getD i true with
   | false=>rfl
   | true =>
    have:=zi8 (hcl i o ho hb _ he)
    rw [h1] at this;cases this
theorem zgB {F:Nat→Oper→Env→AV→Prop} (h:AD P n g H ops Q l env):zeN P n g H ops Q F [] l env:=by
 have:=zn3 (E:=[]) (l2:=[]) (F:=F) (zgr (fun env h=>zqU h) h)
 simpa using this
theorem zbL {F:Nat→Oper→Env→AV→Prop} {E:List Nat} (jc:Nat) (E':List Nat) {oc:Oper} {tc:Nat} (rc:AV) (hsp:l=l.take jc++oc::l.drop (jc + 1)) (hjl:Nat.ble jc l.length=true) (hE:E=jc::E'.map fun x=>x + 1 + jc) (hd:oc.dst=some tc) (ht:Nat.blt tc n=true)
  (h:AD P n g H ops (fun env1=>(guardE ops env1 oc=some true∧F 0 oc env1 rc)∧zeN P n g H ops Q (fun p=>F (p + 1)) E' (l.drop (jc + 1)) ((tc,rc)::env1)) (l.take jc) env):zeN P n g H ops Q F E l env:=by
 have h1:=zgr (fun env1 h=>zrE hd (Nat.le_of_ble_eq_true ht) h.1.1 h.1.2 h.2) h
 have h2:=zn3 h1
 have hl:(l.take jc).length=jc:=by have:=Nat.le_of_ble_eq_true hjl;simp;omega
 rw [hl,←hsp] at h2
 rw [hE]
 simpa [Function.comp_def] using h2
end
end Go.Cg
