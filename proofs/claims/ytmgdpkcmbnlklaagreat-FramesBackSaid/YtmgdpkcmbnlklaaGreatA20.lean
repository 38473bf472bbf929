/- A part of the walks by abstract values: no statement of its own. -/
import Derived.Test.YtmgdpkcmbnlklaaGreatA3
import Derived.Test.YtmgdpkcmbnlklaaGreatA9
import Derived.Test.YtmgdpkcmbnlklaaGreatA11
import Derived.Test.YtmgdpkcmbnlklaaGreatA7
import Derived.Laws.Pointers
import Derived.Laws.CopyRow
import Derived.Test.YtmgdpkcmbnlklaaGreatA6
import Derived.Test.YtmgdpkcmbnlklaaGreatA12
set_option linter.unusedVariables false
set_option linter.unusedSimpArgs false
namespace Go.Cg
open Go.RowKit
section
variable {P:Program} {n:Nat} {g:Base} {H:HEnv} {env:Env} {c:Code} {QQ:QC} {K:KK} {w:World} {ρ:Nat→Value}
theorem Zx (b i k:Nat) (e:TypeId) (sz:Nat) {v:AV} {cs:List AV} (hsz:0 < sz) (hb:H.get b=some (.cell v)) (hv:aggOf v=some cs) (hk:cs[k]?=some (.pv (.base (.slice none 0 0)))) (hi:H.get i=none)
  (h:AW P n g c env ((b,.cell (.agg (cs.set k (.own i))))::(i,.mrow e sz [])::H) QQ):AW P n g c env H QQ:=by
 refine ⟨fun a w hinv=>h.go a w ?_⟩
 obtain ⟨h1,h2,K,ρ,hf,he⟩:=hinv
 have hev:Evo K K w w:=.refl hf.lt
 have hne:b≠i:=by rintro rfl;simp [hi] at hb
 have hf2:FS g K (fun j=>if j=i then .slice none 0 0 else ρ j) ((i,.mrow e sz [])::H) w:=hf.fresh hev hi ⟨[],World.ownsRow_nil w _ e sz,hsz,fun i e h=>by simp at h,by simp [Value.ownBlock]⟩ (by simp [zq])
 have hkk:∀ j,(HEnv.get ((i,HE.mrow e sz [])::H) j).isSome=true→(HEnv.get ((b,.cell (.agg (cs.set k (.own i))))::(i,HE.mrow e sz [])::H) j).isSome=true∧(fun j=>if j=i then Value.slice none 0 0 else ρ j) j=(fun j=>if j=i then Value.slice none 0 0 else ρ j) j:=by
  intro j hj
  refine ⟨?_,rfl⟩
  simp only [HEnv.get_nil,HEnv.get_cons] at hj ⊢
  split
  ·rfl
  ·exact hj
 have hlat:=hev.later hf.lt
 refine ⟨h1,h2,K,fun j=>if j=i then .slice none 0 0 else ρ j,⟨hf2.below,hf2.old,hf2.new,hf2.lt,hf2.others,hf2.pt,hf2.away.set (e0:=.cell v) (by rw [HEnv.get_cons,if_neg (Ne.symm hne)];exact hb) rfl,?_,?_⟩,(he.keeps hlat (yu hi _ _)).keeps hlat hkk⟩
 ·intro j hh hj
  simp only [HEnv.get_nil,HEnv.get_cons] at hj
  split at hj
  ·rename_i e';subst e'
   simp only [Option.some.injEq] at hj;subst hj
   have hb2:=(hf2.heap.ok b (.cell v) (by rw [HEnv.get_cons,if_neg (Ne.symm hne)];exact hb)).keeps hev hf.lt hkk
   obtain ⟨b',t',arr,u,hr,hB,hheap,hu,harr,hn⟩:=hb2
   refine ⟨b',t',arr,u,hr,hB,hheap,?_,harr,hn⟩
   have hu':=hu.aggOf hv
   cases hu' with
   | agg _ vs a1 a2 a3 =>
    refine .agg _ vs (by simpa using a1) a2 fun m c x hc hx=>?_
    rw [List.getElem?_set] at hc
    split at hc
    ·rename_i e1;subst e1
     split at hc
     ·simp only [Option.some.injEq] at hc;subst hc
      have:=a3 k _ x hk hx
      cases this with
      | pv _ _ hp =>
       cases hp
       have:=ARel.own (K:=K) (w:=w) (ρ:=fun j=>if j=i then .slice none 0 0 else ρ j) (H:=(b,.cell (.agg (cs.set k (.own i))))::(i,HE.mrow e sz [])::H) i (by simp [HEnv.get_nil,HEnv.get_cons,hne])
       simpa using this
     ·cases hc
    ·exact a3 m c x hc hx
  ·exact (hf2.heap.ok j hh (by simpa only [HEnv.get_nil,HEnv.get_cons] using hj)).keeps hev hf.lt hkk
 ·intro j k' hh hh' bb hjk hj hk' hlj hlk hbj hbk
  have e1:∀ (j:Nat) (hh:HE),HEnv.get ((b,.cell (.agg (cs.set k (.own i))))::(i,HE.mrow e sz [])::H) j=some hh→hh.live=true→∃ h0,HEnv.get ((i,HE.mrow e sz [])::H) j=some h0∧h0.live=true:=by
   intro j hh hj hl
   rw [HEnv.get_cons] at hj
   split at hj
   ·rename_i e';subst e'
    refine ⟨.cell v,?_,rfl⟩
    simp only [HEnv.get_nil,HEnv.get_cons];rw [if_neg (Ne.symm hne)];exact hb
   ·exact ⟨hh,hj,hl⟩
  obtain ⟨a1,a2,a3⟩:=e1 j hh hj hlj
  obtain ⟨b1,b2,b3⟩:=e1 k' hh' hk' hlk
  exact hf2.heap.apart j k' a1 b1 bb hjk a2 b2 a3 b3 hbj hbk
end
section
variable {P:Program} {tb:Tab} {g:Base} {H:HEnv} {env:Env} {o:Oper} {K:KK} {w:World} {ρ:Nat→Value}
def AL (K:KK) (w:World) (ρ:Nat→Value) (H:HEnv) (cs:List AV) (vs:List Value):Prop:=vs.length=cs.length∧∀ (k:Nat) (c:AV) (v:Value),cs[k]?=some c→vs[k]?=some v→ARel K w ρ H c v
theorem AL.take {cs:List AV} {vs:List Value} (h:AL K w ρ H cs vs) (n:Nat):AL K w ρ H (cs.take n) (vs.take n) :=
 ⟨by simp [h.1],fun k c v hc hv=>by
  rw [List.getElem?_take] at hc hv
  split at hc
  ·rename_i hk;rw [if_pos hk] at hv;exact h.2 k c v hc hv
  ·cases hc⟩
theorem AL.drop {cs:List AV} {vs:List Value} (h:AL K w ρ H cs vs) (n:Nat):AL K w ρ H (cs.drop n) (vs.drop n) :=
 ⟨by simp [h.1],fun k c v hc hv=>by
  rw [List.getElem?_drop] at hc hv
  exact h.2 _ c v hc hv⟩
theorem AL.append {cs ds:List AV} {vs us:List Value} (h:AL K w ρ H cs vs) (h':AL K w ρ H ds us):AL K w ρ H (cs++ds) (vs++us) :=
 ⟨by simp [h.1,h'.1],fun k c v hc hv=>by
  rw [List.getElem?_append] at hc hv
  rw [h.1] at hv
  split at hc
  ·rename_i hk;rw [if_pos hk] at hv;exact h.2 k c v hc hv
  ·rename_i hk;rw [if_neg hk] at hv;exact h'.2 _ c v hc hv⟩
def zhu (place:Nat→Option (Nat × Nat)):List AV→List (Nat × AV)→Option (List AV)
 | cells,[]=>some cells
 | cells,(i,p)::r =>
  match place i with
  | none=>none
  | some (off,size)=>if p.flat.length=size∧off + size≤cells.length then zhu place (cells.take off++p.flat++cells.drop (off + size)) r else none
def zdj (env:Env):List (Nat × Operand)→Option (List (Nat × AV))
 | []=>some []
 | (i,x)::xs=>match env.val x,zdj env xs with|some p,some ps=>some ((i,p)::ps)|_,_=>none
theorem ze2 (place:Nat→Option (Nat × Nat)) (hrow:∀ i,isVal H i=true→(ρ i).cells=#[ρ i]∧(ρ i).oneCell'=true):∀ {ps:List (Nat × AV)} {cells cs:List AV} {vcells:Array Value} {vps:List (Nat × Value)},AL K w ρ H cells vcells.toList→ps.map (·.1)=vps.map (·.1) →
  AL K w ρ H (ps.map (·.2)) (vps.map (·.2))→(ps.all fun x=>x.2.flat.all (zeP H))=true→zhu place cells ps=some cs→∃ r,Instr.fill place vcells vps=some r∧AL K w ρ H cs r.toList
 | [],cells,cs,vcells,vps,hc,hi,hp,_,h=>by
  have:vps=[]:=by simpa using hi.symm
  subst this
  simp [zhu] at h;subst h
  exact ⟨vcells,rfl,hc⟩
 | (i,p)::ps,cells,cs,vcells,vps,hc,hi,hp,ho,h=>by
  cases vps with
  | nil=>simp at hi
  | cons x vps =>
   obtain ⟨j,v⟩:=x
   simp at hi
   obtain ⟨rfl,hi⟩:=hi
   simp only [List.map_cons] at hp
   have hpv:=hp.2 0 p v rfl rfl
   have hps:AL K w ρ H (ps.map (·.2)) (vps.map (·.2)):=⟨by have:=hp.1;simpa using this,fun k c u h1 h2=>hp.2 (k + 1) c u (by simpa using h1) (by simpa using h2)⟩
   simp only [List.all_cons,Bool.and_eq_true] at ho
   simp only [zhu] at h
   split at h
   ·cases h
   ·rename_i off size hpl
    split at h
    ·rename_i hle
     obtain ⟨f1,f2,f3⟩:=Vd hpv ho.1 hrow
     have hcr:AL K w ρ H p.flat v.cells.toList:=⟨by simpa using f1,f3⟩
     have hsz:v.cells.size=size:=by rw [←hle.1,f1]
     have hcs:vcells.size=cells.length:=by rw [←hc.1];simp
     have hfold:=foldl_set off v.cells.toList 0 vcells (by simp;omega)
     obtain ⟨r,hr1,hr2⟩:=ze2 place hrow (vcells:=(v.cells.toList.zipIdx 0).foldl (fun cs (c:Value × Nat)=>cs.setIfInBounds (off + c.2) c.1) vcells) (vps:=vps) (cells:=cells.take off++p.flat++cells.drop (off + size)) (cs:=cs)
      (by rw [hfold];simp only [Nat.add_zero,Array.length_toList,hsz];exact ((hc.take off).append hcr).append (hc.drop _)) (by simpa using hi) hps ho.2 h
     refine ⟨r,?_,hr2⟩
     rw [←hr1]
     simp only [Instr.fill,hpl]
     rw [←Array.foldl_toList,Array.toList_zipIdx,if_neg (by simp;omega)]
    ·cases h
theorem zdV {a:Act}:∀ {xs:List (Nat × Operand)} {ps:List (Nat × AV)},(∀ x∈xs,∀ av,env.val x.2=some av→ARel K w ρ H av (a.eval x.2))→zdj env xs=some ps →
  ps.map (·.1)=xs.map (·.1)∧AL K w ρ H (ps.map (·.2)) (xs.map fun x=>a.eval x.2)
 | [],ps,_,h=>by simp [zdj] at h;subst h;exact ⟨rfl,rfl,fun k c v h=>by simp at h⟩
 | (i,x)::xs,ps,hv,h=>by
  simp only [zdj] at h
  split at h
  ·rename_i p qs e1 e2
   simp only [Option.some.injEq] at h;subst h
   obtain ⟨r1,r2⟩:=zdV (fun y hy=>hv y (by simp [hy])) e2
   refine ⟨by simp [r1],by simp [r2.1],fun k c v hc hvv=>?_⟩
   cases k with
   | zero=>simp at hc hvv;subst hc hvv;exact hv (i,x) (by simp) _ e1
   | succ k=>exact r2.2 k c v (by simpa using hc) (by simpa using hvv)
  ·cases h
theorem zg3 (htb:yc P tb) {t:Nat} {parts:Array (Nat × Operand)} {fs:List (Nat × Nat × Nat)} {z:Value} {zs:List PV} {ps:List (Nat × AV)} {cs:List AV} (hop:o.op=.build t parts) (hk:∃ q,tb.k t=.agg fs q) (hz:tb.zero t=some z)
  (hzs:Qp z.cells.toList=some zs) (hps:zdj env parts.toList=some ps) (hone:(ps.all fun x=>x.2.flat.all (zeP H))=true) (hall:(fs.all fun f=>tb.known f.2.1&&tb.size f.2.1==f.2.2)=true)
  (hcs:zhu (zcc fs) (zs.map .pv) ps=some cs):QStep P g H o env (.agg cs):=by
 refine ⟨fun K ρ a w hfs hv=>?_⟩
 obtain ⟨q,hk⟩:=hk
 obtain ⟨F,hF,hfs',_⟩:=Wi htb hk
 obtain ⟨h1,h2⟩:=zdV (K:=K) (w:=w) (ρ:=ρ) (H:=H) (a:=a) (xs:=parts.toList) (fun x hx=>hv x.2 (by rw [hop];simp [Op.operands];exact ⟨x.1,by simpa using hx⟩)) hps
 have hz0:AL K w ρ H (zs.map .pv) z.cells.toList:=by
  have:=Yl (K:=K) (w:=w) hzs
  refine ⟨by rw [List.length_map];exact this.1,fun k c v hc hvv=>?_⟩
  rw [List.getElem?_map] at hc
  cases hk2:zs[k]? with
  | none=>simp [hk2] at hc
  | some p=>simp [hk2] at hc;subst hc;exact .pv _ _ (this.2 k p v hk2 hvv)
 obtain ⟨rr,hr1,hr2⟩:=ze2 (K:=K) (w:=w) (ρ:=ρ) (H:=H) _ (row_one hfs) (vcells:=z.cells) (vps:=parts.toList.map fun x=>(x.1,a.eval x.2)) hz0 (by simpa [List.map_map,Function.comp_def] using h1) (by simpa [List.map_map,Function.comp_def] using h2) hone hcs
 have hzi:∃ i,P.info? t=some i∧i.zero=some z:=by
  unfold Tab.zero at hz
  split at hz
  ·rename_i ti hti
   obtain ⟨i,e1,_,_,e4,_⟩:=yN htb hti
   exact ⟨i,e1,by rw [e4];exact hz⟩
  ·cases hz
 obtain ⟨i,hi,hiz⟩:=hzi
 have hplaces:∀ (l:List Field),(∀ f∈l,f∈F.toList)→(l.mapM fun f=>(Prod.mk f.offset <$> sizeOf f.type:Sem (Nat × Nat))).run P w=.ok (l.map fun f=>(f.offset,tb.size f.type)) w:=by
  intro l
  induction l with
  | nil=>intro _;simp
  | cons f l ih =>
   intro hl
   have hf:f∈F.toList:=hl f (by simp)
   have hall':=List.all_eq_true.1 hall (f.offset,f.type,P.cellsOf f.type) (by rw [←hfs'];exact List.mem_map.2 ⟨f,hf,rfl⟩)
   simp only [Bool.and_eq_true] at hall'
   have hko:tb.k f.type≠.oth:=by intro e;simp [Tab.known,e] at hall'
   have hs:=run_sizeOf htb hko w
   have ih':=ih (fun f hf=>hl f (by simp [hf]))
   simp [List.mapM_cons,hs,ih']
 have hpl:=hplaces F.toList (fun f hf=>hf)
 have hfun:zcc fs=fun i=>((F.toList.map fun f=>(f.offset,tb.size f.type)).toArray)[i]?:=by
  funext i
  rw [←hfs']
  simp only [zcc,List.getElem?_map,List.getElem?_toArray,Array.getElem?_toList]
  cases hfl:F[i]? with
  | none=>rfl
  | some f =>
   simp only [Option.map_some,Option.some.injEq,Prod.mk.injEq,true_and]
   have hf:f∈F.toList:=by simpa using Array.mem_of_getElem? hfl
   have hall':=List.all_eq_true.1 hall (f.offset,f.type,P.cellsOf f.type) (by rw [←hfs'];exact List.mem_map.2 ⟨f,hf,rfl⟩)
   simp only [Bool.and_eq_true,beq_iff_eq] at hall'
   exact hall'.2.symm
 rw [hfun] at hr1
 have:(execOp a.eval o).run P w=.ok (.value (.agg rr)) w:=by
  have hm:(F.mapM fun f=>(do pure (f.offset,←sizeOf f.type):Sem (Nat × Nat))).run P w=.ok (F.toList.map fun f=>(f.offset,tb.size f.type)).toArray w:=by
   rw [Array.mapM_eq_mapM_toList]
   simp only [bind_pure_comp,Sem.run_map,hpl,Result.andThen_ok]
  have hp2:(parts.map fun x=>(x.1,a.eval x.2)).toList=parts.toList.map fun x=>(x.1,a.eval x.2):=by simp
  simp only [execOp,hop,Instr.build,Sem.run_bind,zeroValue,typeInfo,run_program,hi,hiz,Result.andThen_ok,Sem.run_pure,run_underlying hF,hm,hp2,hr1]
 rw [this]
 have hone':∀ v∈rr.toList,v.oneCell'=true:=zdG _ hr1 (Yi hzs) (by
  intro x hx v hv'
  obtain ⟨k,hk⟩:=List.getElem?_of_mem hx
  have hk2:(parts.toList.map fun x=>a.eval x.2)[k]?=some x.2:=by
   rw [List.getElem?_map] at hk ⊢
   cases hpk:parts.toList[k]? with
   | none=>rw [hpk] at hk;simp at hk
   | some y=>rw [hpk] at hk;simp at hk;subst hk;rfl
  have hlt:k < (ps.map (·.2)).length:=by rw [←h2.1];exact (List.getElem?_eq_some_iff.1 hk2).1
  have hp:=List.getElem?_eq_getElem hlt
  have hall1:=List.all_eq_true.1 hone (ps[k]'(by simpa using hlt)) (List.getElem_mem _)
  exact (Vd (h2.2 k _ _ hp hk2) (by simpa using hall1) (row_one hfs)).2.1 v hv')
 exact qA hfs (by have:=ARel.agg (K:=K) (w:=w) (ρ:=ρ) (H:=H) cs rr.toList hr2.1 hone' hr2.2;simpa using this)
end
section
variable {P:Program} {tb:Tab} {n:Nat} {g:Base} {H:HEnv} {env:Env} {ops:List Oper} {o:Oper} {rest:List Oper} {Q:Env→HEnv→Prop} {QQ:QC} {c:Code} {K:KK} {w:World} {ρ:Nat→Value} {a:Act}
def WM:AV→Option Bool
 | .box _ _=>some false
 | .pv (.ptr _ _)=>some false
 | .pv (.base (.pointer none))=>some true
 | _=>none
theorem yF {t rt pe:TypeId} {x:Operand} {av:AV} {b:Bool} (hop:o.op=.binOp .eql t x (.const (.pointer none)) rt) (hu0:P.underlying t=some (.pointer pe)) (hx:env.val x=some av) (hn:WM av=some b):QStep P g H o env (.pv (.base (.bool b))):=by
 have hu:P.underlying t=some (.pointer (P.pointee t)):=by rw [hu0,Program.pointee,hu0]
 refine ⟨fun K ρ a w hf hv=>?_⟩
 have hxr:=hv x (by rw [hop];simp [Op.operands]) _ hx
 generalize hxv:a.eval x=xv at hxr
 have key:∀ p:Option Addr,xv=.pointer p→p.isNone=b→zaf P K ρ H w (.pv (.base (.bool b))) ((execOp a.eval o).run P w):=by
  rintro p rfl rfl
  have h1:=run_eql_pointer_nil (P:=P) w t p hu
  have h2:a.eval (.const (.pointer none))=.pointer none:=rfl
  have hrun:(execOp a.eval o).run P w=.ok (.value (.bool p.isNone)) w:=by
   simp [execOp,hop,hxv,h2,eqGuard,h1]
  rw [hrun]
  exact qA hf (.pv _ _ (.base _ rfl))
 cases hxr with
 | box i off b' hi hb=>simp only [WM,Option.some.injEq] at hn;exact key _ rfl (by simpa using hn)
 | pv p v hp =>
  cases hp with
  | ptr=>simp only [WM,Option.some.injEq] at hn;exact key _ rfl (by simpa using hn)
  | base v hb =>
   cases xv <;> simp only [WM] at hn <;> try cases hn
   rename_i p
   cases p with
   | none=>simp only [Option.some.injEq] at hn;exact key _ rfl (by simpa using hn)
   | some ad=>cases hn
  | _=>simp [WM] at hn
 | _=>simp [WM] at hn
def zak (ρ:Nat→Value) (H:HEnv):AV→Option PV
 | .pv p=>some p
 | .own i=>match H.get i with
  | some (.mrow _ sz es)=>some (.slc sz es false)
  | some (.obj _)=>some (.base (ρ i))
  | _=>none
 | _=>none
def zgW (ρ:Nat→Value) (H:HEnv):List AV→Option (List PV)
 | []=>some []
 | x::xs=>match zak ρ H x,zgW ρ H xs with|some p,some ps=>some (p::ps)|_,_=>none
def zg4 (ρ:Nat→Value) (H:HEnv):AV→Option PV
 | .box i off=>match H.get i with
  | some (.cell v)=>if v.flat.all (zeP H) then match zgW ρ H v.flat with|some cs=>some (.ptr (.agg cs) off)|none=>none else none
  | _=>none
 | av=>zak ρ H av
def zho (ρ:Nat→Value) (env:Env) (H:HEnv):List Operand→Option (List PV)
 | []=>some []
 | x::xs=>match env.val x,zho ρ env H xs with
  | some av,some ps=>match zg4 ρ H av with|some p=>some (p::ps)|none=>none
  | _,_=>none
def WY (K:KK) (ρ:Nat→Value) (H:HEnv):KK:=fun b o=>K b o∨(∃ i t sz es,H.get i=some (.mrow t sz es)∧(ρ i).ownBlock=some b∧o < es.length * sz)∨∃ i v,H.get i=some (.cell v)∧zq (ρ i)=some b
theorem zdp:Later K (WY K ρ H) w w:=⟨fun _ _ h=>.inl h,fun _ _ _=>rfl⟩
theorem zfV (hf:FS g K ρ H w):∀ b o,WY K ρ H b o→b < w.heap.size:=by
 rintro b o (h|⟨i,t,sz,es,hi,hb,_⟩|⟨i,v,hi,hb⟩)
 ·exact hf.lt b o h
 ·obtain ⟨us,hown,_⟩:=hf.heap.ok i _ hi
  exact (hown.lt b hb).2
 ·exact ((hf.heap.ok i _ hi).block_lt rfl hb).2
theorem zbM (hf:FS g K ρ H w) {av:AV} {v:Value} (h:ARel K w ρ H av v) {p:PV} (hp:zak ρ H av=some p):PRel (WY K ρ H) w p v:=by
 cases h with
 | pv p' v h=>simp only [zak,Option.some.injEq] at hp;subst hp;exact h.later zdp
 | own i hi0 =>
  simp only [zak] at hp
  split at hp
  ·rename_i t sz es hi
   simp only [Option.some.injEq] at hp;subst hp
   obtain ⟨xs,hown,h0,hcr,hnK⟩:=hf.heap.ok i _ hi
   rcases hown.2 with ⟨hr,hz⟩|⟨b,cap,cur,hr,hB,hheap,hle,hcap,hsize,htake⟩
   ·rw [hr]
    have:es=[]:=List.eq_nil_of_length_eq_zero hz
    subst this;exact .nil sz false
   ·by_cases hes:es=[]
    ·subst hes
     rw [hr]
     exact .slc sz [] false b 0 cap (fun _=>[]) h0 (Nat.zero_le _) (by simp) (by simp [maxLen]) hcap (fun i e he=>by simp at he) (fun i e k c v he=>by simp at he)
    ·have hown':=hown
     rw [hr] at hown' ⊢
     have hxl:xs.length=es.length * sz:=hown.1
     refine .slc sz es false b 0 cap (fun i=>(xs.drop (i * sz)).take sz) h0 hle (by simp) (by omega) hcap (fun k e he=>?_) (fun k e m c v he hc hvv=>?_)
     ·obtain ⟨c1,c2⟩:=hcr k e he
      have hk:k < es.length:=(List.getElem?_eq_some_iff.1 he).1
      have hle2:k * sz + sz≤es.length * sz:=by rw [←Nat.succ_mul];exact Nat.mul_le_mul_right _ hk
      refine ⟨c1,by rw [List.length_take,List.length_drop];omega,fun m v hm=>?_⟩
      rw [List.getElem?_take] at hm
      split at hm
      ·rename_i hms
       rw [List.getElem?_drop] at hm
       obtain ⟨u,u1,u2,_⟩:=c2 m e.cells[m] (List.getElem?_eq_getElem (by omega))
       rw [u1,Option.some.injEq] at hm;subst hm
       exact ⟨.inr (.inl ⟨i,t,sz,es,hi,by rw [hr];rfl,by omega⟩),by rw [Nat.zero_add,hown'.cellAt _ (by omega)];exact u1,u2⟩
      ·cases hm
     ·obtain ⟨c1,c2⟩:=hcr k e he
      obtain ⟨u,u1,u2,u3⟩:=c2 m c hc
      rw [List.getElem?_take] at hvv
      split at hvv
      ·rw [List.getElem?_drop,u1,Option.some.injEq] at hvv
       subst hvv;exact u3.later zdp
      ·cases hvv
  ·rename_i X hi
   simp only [Option.some.injEq] at hp;subst hp
   obtain ⟨b,ob,hr,_⟩:=hf.heap.ok i _ hi
   exact .base _ (by rw [hr];rfl)
  ·cases hp
 | _=>simp [zak] at hp
theorem zeY (hf:FS g K ρ H w):∀ {avs:List AV} {ps:List PV} {vs:List Value},vs.length=avs.length→(∀ (k:Nat) (c:AV) (v:Value),avs[k]?=some c→vs[k]?=some v→ARel K w ρ H c v)→zgW ρ H avs=some ps→PRels (WY K ρ H) w ps vs
 | [],ps,vs,hl,_,h=>by
  simp only [zgW,Option.some.injEq] at h;subst h
  have:vs=[]:=List.eq_nil_of_length_eq_zero (by simpa using hl)
  subst this;exact .nil
 | x::xs,ps,vs,hl,hr,h=>by
  cases vs with
  | nil=>simp at hl
  | cons v vs =>
   simp only [zgW] at h
   split at h
   ·rename_i p qs e1 e2
    simp only [Option.some.injEq] at h;subst h
    exact .cons (zbM hf (hr 0 x v rfl rfl) e1) (zeY hf (by simpa using hl) (fun k c v hc hv=>hr (k + 1) c v (by simpa using hc) (by simpa using hv)) e2)
   ·cases h
theorem ze5 (hf:FS g K ρ H w) {av:AV} {v:Value} (h:ARel K w ρ H av v) {p:PV} (hp:zg4 ρ H av=some p):PRel (WY K ρ H) w p v:=by
 by_cases hb:∃ i off,av=.box i off
 ·obtain ⟨i,off,rfl⟩:=hb
  simp only [zg4] at hp
  split at hp
  ·rename_i u hi
   split at hp
   ·rename_i hone
    split at hp
    ·rename_i cs hcs
     simp only [Option.some.injEq] at hp;subst hp
     obtain ⟨b,t,arr,x,hr,hB,hheap,hx,harr,hn⟩:=hf.heap.ok i _ hi
     obtain ⟨f1,f2,f3⟩:=Vd hx hone (row_one hf)
     have hps:=zeY hf (by simpa using f1) f3 hcs
     cases h with
     | box _ _ b' hi' hρ =>
      rw [hr] at hρ
      simp only [Value.pointer.injEq,Option.some.injEq,Addr.mk.injEq,and_true] at hρ
      subst hρ
      have:=PRel.ptr (K:=WY K ρ H) (w:=w) (.agg cs) off b 0 x.cells.toList hps.1 (fun k v hk=>⟨.inr (.inr ⟨i,u,hi,by rw [hr];rfl⟩),by
       simp only [World.cell?,hheap,Nat.zero_add];rw [←harr];simpa using hk,f2 v (List.mem_of_getElem? hk)⟩) hps.2
      simpa using this
    ·cases hp
   ·cases hp
  ·cases hp
 ·have:zg4 ρ H av=zak ρ H av:=by
   cases av <;> first|rfl|(exact absurd ⟨_,_,rfl⟩ hb)
  rw [this] at hp
  exact zbM hf h hp
theorem ze7 (hf:FS g K ρ H w):∀ {xs:List Operand} {ps:List PV},(∀ x∈xs,∀ av,env.val x=some av→ARel K w ρ H av (a.eval x))→zho ρ env H xs=some ps→PRels (WY K ρ H) w ps (xs.map a.eval)
 | [],ps,_,h=>by simp [zho] at h;subst h;exact .nil
 | x::xs,ps,hv,h=>by
  simp only [zho] at h
  split at h
  ·rename_i av qs e1 e2
   split at h
   ·rename_i p e3
    simp only [Option.some.injEq] at h;subst h
    exact .cons (ze5 hf (hv x (by simp) _ e1) e3) (ze7 hf (fun y hy=>hv y (by simp [hy])) e2)
   ·cases h
  ·cases h
theorem zlv {xs:Array Operand} {ts:Array TypeId} {f:FuncId} {args:(Nat→Value)→List PV} {r:Value} (hop:o.op=.call { callee:=.value (.func f),args:=xs,argTypes:=ts }) (hargs:∀ ρ,zho ρ env H xs.toList=some (args ρ))
  (hc:∀ ρ,ACall P f (args ρ) (.base r)):QStep P g H o env (.pv (.base r)):=by
 refine ⟨fun K ρ a w hf hv=>?_⟩
 have hp:=ze7 hf (a:=a) (xs:=xs.toList) (fun x hx=>hv x (by rw [hop];simp [Op.operands,Call.operands];exact .inr (by simpa using hx))) (hargs ρ)
 have:(execOp a.eval o).run P w=.ok (.enter f (xs.toList.map a.eval).toArray) w:=by
  have e:(xs.toList.map a.eval).toArray=xs.map a.eval:=by rw [←Array.toList_map,Array.toArray_toList]
  rw [e]
  simp [execOp,hop,resolve,Act.eval,Deferred.ofValue,invoke,Zd (hc ρ).stands]
 rw [this]
 refine ⟨rfl,((hc ρ).calls _ w _ (zfV hf) hp).mono fun e w'' ⟨v,K',h1,h2,h3⟩=>?_⟩
 cases h3 with
 | base _ hb=>exact ⟨_,K,h1,⟨h2.below,fun _ _ h=>h,fun _ _ h=>.inl h,fun b o h=>Nat.lt_of_lt_of_le (hf.lt b o h) h2.below.size⟩,.pv _ _ (.base _ hb)⟩
def cut (sz:Nat) (u:Value) (l h:Nat):Value:=match u with
 | .slice (some a) _ c=>.slice (some ⟨a.block,l * sz,none⟩) (h - l) (c - l)
 | v=>v
theorem zmJ (sz:Nat) (u:Value) (l h:Nat) (hu:∃ a n c,u=.slice (some a) n c):Yc (cut sz u l h)=true:=by
 obtain ⟨a,n,c,rfl⟩:=hu;rfl
theorem zdZ (htb:yc P tb) {ty e d m:Nat} {x y:Operand} {sz:Nat} {z:PV} {mi:Int} {kl kc:IntKind} (i:Nat) (hg:guardE ops env o=some true) (hop:o.op=.makeSlice ty x y) (hk:tb.k ty=.sl e) (hx:env.pv H x=some (.base (.int kl mi))) (hy:env.pv H y=some (.base (.int kc mi))) (hmi:mi=((m:Nat):Int))
  (hz:(match tb.zero e with|some v=>zb7 v|none=>none)=some z) (hzz:(match tb.get e with|some ti=>(match ti.zero with|some zv=>ti.size==sz&&zv.cells.size==sz&&Nat.blt 0 sz|none=>false)|none=>false)=true)
  (hb:(match tb.get e with|some ti=>ti.bytes|none=>0) * m≤281474976710656) (hm:m≤maxLen) (hi:H.get i=none) (hd:o.dst=some d) (ht:Nat.blt d n=true)
  (h:AO P n g ops.toArray rest ((d,.own i)::env) ((i,.mrow e sz (List.replicate m z))::H) Q):AO P n g ops.toArray (o::rest) env H Q:=by
 refine ⟨fun a w hinv=>?_⟩
 have hw:=yh hinv hg
 obtain ⟨h1,h2,K,ρ,hf,he⟩:=hinv
 refine wpList_step fun KK hKK=>?_
 rw [if_pos hw]
 subst hmi
 cases hti:tb.get e with
 | none=>simp [hti] at hzz
 | some ti =>
  cases hzv:ti.zero with
  | none=>simp [hti,hzv] at hzz
  | some zv =>
   simp only [hti,hzv,Bool.and_eq_true,beq_iff_eq] at hzz hb
   obtain ⟨⟨z1,z2⟩,z3⟩:=hzz
   have hsz:0 < sz:=Nat.le_of_ble_eq_true z3
   obtain ⟨tin,q1,q2,q3,q4,_⟩:=yN htb hti
   have hzp:zb7 zv=some z:=by
    have:tb.zero e=some zv:=by unfold Tab.zero;rw [hti];exact hzv
    rw [this] at hz;exact hz
   have hxr:=zT (a:=a) hf (x:=x) (fun av hh=>yA he hh) hx
   have hyr:=zT (a:=a) hf (x:=y) (fun av hh=>yA he hh) hy
   generalize hxv:a.eval x=xv at hxr
   generalize hyv:a.eval y=yv at hyr
   cases hxr;cases hyr
   obtain ⟨w',r1,r2,r3⟩:=run_make_full w g.w0.heap.size ty e tin zv sz (yw htb hk) q1 (by rw [q4];exact hzv) (by omega) kl kc m (by rw [q3];exact hb) hm hf.below.size
   have hrun:(execOp a.eval o).run P w=.ok (.value (.slice (some ⟨w.heap.size,0,none⟩) m m)) w':=by
    simp [execOp,hop,hxv,hyv,r1]
   unfold Oper.wp
   rw [hrun]
   simp only [Oper.upon]
   have hev:Evo K K w w':=⟨⟨r3.os,r3.tape,r3.output,r3.size,fun k hk=>r3.block k hk (by simp)⟩,fun _ _ h=>h,fun _ _ h=>.inl h,fun b o h=>Nat.lt_of_lt_of_le (hf.lt b o h) r3.size⟩
   obtain ⟨hzr,hznt⟩:=zdN (K:=K) (w:=w') hzp
   have hzc:=Za hzr
   have hzo:=cells_one hzr hznt
   have hzl:zv.cells.toList.length=sz:=by simpa using z2
   refine hKK _ _ (h.go _ _ ⟨yB h1,put_defers h2,K,fun j=>if j=i then .slice (some ⟨w.heap.size,0,none⟩) m m else ρ j,hf.fresh hev hi ⟨(madeCells zv.cells (m * sz)).toList,by rw [List.length_replicate];exact r2,hsz,?_,?_⟩ (by simp [zq]),?_⟩)
   ·intro i1 e1 he1
    have hi1:i1 < m:=by have:=(List.getElem?_eq_some_iff.1 he1).1;simpa using this
    have e2:e1=z:=by rw [List.getElem?_replicate,if_pos hi1] at he1;simpa using he1.symm
    subst e2
    have hl:e1.cells.length=sz:=by rw [←hzl,hzc.1]
    refine ⟨hl,fun k c' hc'=>?_⟩
    have hk:k < sz:=by rw [←hl];exact (List.getElem?_eq_some_iff.1 hc').1
    have hkz:k < zv.cells.size:=by omega
    have hu:zv.cells.toList[k]?=some zv.cells[k]:=by simp [hkz]
    refine ⟨zv.cells[k],?_,hzo _ (List.mem_of_getElem? hu),hzc.2 k c' _ hc' hu⟩
    have hlt:i1 * sz + k < m * sz:=by
     have:i1 * sz + sz≤m * sz:=by rw [←Nat.succ_mul];exact Nat.mul_le_mul_right _ hi1
     omega
    have hmod:(i1 * sz + k) % zv.cells.size=k:=by rw [z2,Nat.add_comm,Nat.add_mul_mod_self_right];exact Nat.mod_eq_of_lt hk
    simp [madeCells,hlt,hmod,hkz]
   ·intro b hb o ho
    simp [Value.ownBlock] at hb
    subst hb
    have:=hf.lt _ _ ho
    omega
   ·rw [hd]
    refine yY h1 ht (he.keeps (hev.later hf.lt) (yu hi _ _)) ?_
    have:=ARel.own (K:=K) (w:=w') (ρ:=fun j=>if j=i then .slice (some ⟨w.heap.size,0,none⟩) m m else ρ j) (H:=(i,HE.mrow e sz (List.replicate m z))::H) i (by simp [HEnv.get_cons])
    simpa using this
end
section
variable {P:Program} {tb:Tab} {n:Nat} {g:Base} {H:HEnv} {env:Env} {ops:List Oper} {o:Oper} {rest:List Oper} {Q:Env→HEnv→Prop} {QQ:QC} {c:Code} {K:KK} {w:World} {ρ:Nat→Value} {a:Act}
def zdS (ρ:Nat→Value) (H:HEnv):List AV→Option (List PV)
 | []=>some []
 | x::xs=>match zg4 ρ H x,zdS ρ H xs with|some p,some ps=>some (p::ps)|_,_=>none
def zfj (ρ:Nat→Value) (H:HEnv):AV→Option PV
 | .box i off=>match H.get i with
  | some (.cell v)=>if v.flat.all (zeP H) then match zdS ρ H v.flat with|some cs=>some (.ptr (.agg cs) off)|none=>none else none
  | _=>none
 | av=>zak ρ H av
def WQ (ρ:Nat→Value) (env:Env) (H:HEnv):List Operand→Option (List PV)
 | []=>some []
 | x::xs=>match env.val x,WQ ρ env H xs with
  | some av,some ps=>match zfj ρ H av with|some p=>some (p::ps)|none=>none
  | _,_=>none
theorem zex (hf:FS g K ρ H w):∀ {avs:List AV} {ps:List PV} {vs:List Value},vs.length=avs.length→(∀ (k:Nat) (c:AV) (v:Value),avs[k]?=some c→vs[k]?=some v→ARel K w ρ H c v)→zdS ρ H avs=some ps→PRels (WY K ρ H) w ps vs
 | [],ps,vs,hl,_,h=>by
  simp only [zdS,Option.some.injEq] at h;subst h
  have:vs=[]:=List.eq_nil_of_length_eq_zero (by simpa using hl)
  subst this;exact .nil
 | x::xs,ps,vs,hl,hr,h=>by
  cases vs with
  | nil=>simp at hl
  | cons v vs =>
   simp only [zdS] at h
   split at h
   ·rename_i p qs e1 e2
    simp only [Option.some.injEq] at h;subst h
    exact .cons (ze5 hf (hr 0 x v rfl rfl) e1) (zex hf (by simpa using hl) (fun k c v hc hv=>hr (k + 1) c v (by simpa using hc) (by simpa using hv)) e2)
   ·cases h
theorem zkd (hf:FS g K ρ H w) {av:AV} {v:Value} (h:ARel K w ρ H av v) {p:PV} (hp:zfj ρ H av=some p):PRel (WY K ρ H) w p v:=by
 by_cases hb:∃ i off,av=.box i off
 ·obtain ⟨i,off,rfl⟩:=hb
  simp only [zfj] at hp
  split at hp
  ·rename_i u hi
   split at hp
   ·rename_i hone
    split at hp
    ·rename_i cs hcs
     simp only [Option.some.injEq] at hp;subst hp
     obtain ⟨b,t,arr,x,hr,hB,hheap,hx,harr,hn⟩:=hf.heap.ok i _ hi
     obtain ⟨f1,f2,f3⟩:=Vd hx hone (row_one hf)
     have hps:=zex hf (by simpa using f1) f3 hcs
     cases h with
     | box _ _ b' hi' hρ =>
      rw [hr] at hρ
      simp only [Value.pointer.injEq,Option.some.injEq,Addr.mk.injEq,and_true] at hρ
      subst hρ
      have:=PRel.ptr (K:=WY K ρ H) (w:=w) (.agg cs) off b 0 x.cells.toList hps.1 (fun k v hk=>⟨.inr (.inr ⟨i,u,hi,by rw [hr];rfl⟩),by
       simp only [World.cell?,hheap,Nat.zero_add];rw [←harr];simpa using hk,f2 v (List.mem_of_getElem? hk)⟩) hps.2
      simpa using this
    ·cases hp
   ·cases hp
  ·cases hp
 ·have:zfj ρ H av=zak ρ H av:=by
   cases av <;> first|rfl|(exact absurd ⟨_,_,rfl⟩ hb)
  rw [this] at hp
  exact zbM hf h hp
theorem zaC (hf:FS g K ρ H w):∀ {xs:List Operand} {ps:List PV},(∀ x∈xs,∀ av,env.val x=some av→ARel K w ρ H av (a.eval x))→WQ ρ env H xs=some ps→PRels (WY K ρ H) w ps (xs.map a.eval)
 | [],ps,_,h=>by simp [WQ] at h;subst h;exact .nil
 | x::xs,ps,hv,h=>by
  simp only [WQ] at h
  split at h
  ·rename_i av qs e1 e2
   split at h
   ·rename_i p e3
    simp only [Option.some.injEq] at h;subst h
    exact .cons (zkd hf (hv x (by simp) _ e1) e3) (zaC hf (fun y hy=>hv y (by simp [hy])) e2)
   ·cases h
  ·cases h
theorem zH {xs:Array Operand} {ts:Array TypeId} {f:FuncId} {args:(Nat→Value)→List PV} {r:Value} (hop:o.op=.call { callee:=.value (.func f),args:=xs,argTypes:=ts }) (hargs:∀ ρ,WQ ρ env H xs.toList=some (args ρ))
  (hc:∀ ρ,ACall P f (args ρ) (.base r)):QStep P g H o env (.pv (.base r)):=by
 refine ⟨fun K ρ a w hf hv=>?_⟩
 have hp:=zaC hf (a:=a) (xs:=xs.toList) (fun x hx=>hv x (by rw [hop];simp [Op.operands,Call.operands];exact .inr (by simpa using hx))) (hargs ρ)
 have:(execOp a.eval o).run P w=.ok (.enter f (xs.toList.map a.eval).toArray) w:=by
  have e:(xs.toList.map a.eval).toArray=xs.map a.eval:=by rw [←Array.toList_map,Array.toArray_toList]
  rw [e]
  simp [execOp,hop,resolve,Act.eval,Deferred.ofValue,invoke,Zd (hc ρ).stands]
 rw [this]
 refine ⟨rfl,((hc ρ).calls _ w _ (zfV hf) hp).mono fun e w'' ⟨v,K',h1,h2,h3⟩=>?_⟩
 cases h3 with
 | base _ hb=>exact ⟨_,K,h1,⟨h2.below,fun _ _ h=>h,fun _ _ h=>.inl h,fun b o h=>Nat.lt_of_lt_of_le (hf.lt b o h) h2.below.size⟩,.pv _ _ (.base _ hb)⟩
theorem Yj {t rt pe:TypeId} {x:Operand} {i off:Nat} (hop:o.op=.binOp .eql t x (.const (.pointer none)) rt) (hu0:P.underlying t=some (.pointer pe)) (hx:env.val x=some (.ad i off)):QStep P g H o env (.pv (.base (.bool false))):=by
 have hu:P.underlying t=some (.pointer (P.pointee t)):=by rw [hu0,Program.pointee,hu0]
 refine ⟨fun K ρ a w hf hv=>?_⟩
 have hxr:=hv x (by rw [hop];simp [Op.operands]) _ hx
 generalize hxv:a.eval x=xv at hxr
 cases hxr with
 | ad _ _ b m c hi hb =>
  have h1:=run_eql_pointer_nil (P:=P) w t (some ⟨b,off,none⟩) hu
  have h2:a.eval (.const (.pointer none))=.pointer none:=rfl
  have hrun:(execOp a.eval o).run P w=.ok (.value (.bool false)) w:=by
   simp [execOp,hop,hxv,h2,eqGuard,h1]
  rw [hrun]
  exact qA hf (.pv _ _ (.base _ rfl))
theorem zi5 {x:Operand} {i off:Nat} (hop:o.op=.nilCheck x) (hx:env.val x=some (.ad i off)):QStep P g H o env (.ad i off):=by
 refine ⟨fun K ρ a w hf hv=>?_⟩
 have hxr:=hv x (by rw [hop];simp [Op.operands]) _ hx
 generalize hxv:a.eval x=xv at hxr
 cases hxr with
 | ad _ _ b m c hi hb =>
  have hrun:(execOp a.eval o).run P w=.ok (.value (.pointer (some ⟨b,off,none⟩))) w:=by simp [execOp,hop,hxv]
  rw [hrun]
  exact qA hf (.ad i off b m c hi hb)
theorem zjt (htb:yc P tb) {t f:Nat} {x:Operand} {i off o' ft s:Nat} {fs:List (Nat × Nat × Nat)} (hop:o.op=.fieldAddr t x f) (hx:env.val x=some (.ad i off)) (hk:∃ q,tb.k t=.agg fs q) (hfe:fs[f]?=some (o',ft,s)) (hs:zbn tb ft s=true):QStep P g H o env (.ad i (off + o')):=by
 refine ⟨fun K ρ a w hf hv=>?_⟩
 obtain ⟨q,hk⟩:=hk
 simp only [zbn,Bool.and_eq_true,bne_iff_ne,beq_iff_eq] at hs
 obtain ⟨F,hF,hfs',_⟩:=Wi htb hk
 have hf':∃ fl:Field,F[f]?=some fl∧fl.offset=o'∧fl.type=ft:=by
  rw [←hfs',List.getElem?_map,Array.getElem?_toList] at hfe
  cases hfl:F[f]? with
  | none=>simp [hfl] at hfe
  | some fl=>simp [hfl] at hfe;exact ⟨fl,rfl,hfe.1,hfe.2.1⟩
 obtain ⟨fl,hfl,rfl,rfl⟩:=hf'
 have hko:tb.k fl.type≠.oth:=by intro e;simp [Tab.known,e] at hs
 have hsz:=run_sizeOf htb hko w
 have hne:tb.size fl.type≠0:=by omega
 have hxr:=hv x (by rw [hop];simp [Op.operands]) _ hx
 generalize hxv:a.eval x=xv at hxr
 cases hxr with
 | ad _ _ b m c hi hb =>
  have hrun:(execOp a.eval o).run P w=.ok (.value (.pointer (some ⟨b,off + fl.offset,none⟩))) w:=by
   simp [execOp,hop,Instr.fieldAt,run_underlying hF,hfl,hxv,Instr.sureAddr,fieldPlace,hsz,hne,Addr.add_lit]
  rw [hrun]
  exact qA hf (.ad i (off + fl.offset) b m c hi hb)
theorem ziB (htb:yc P tb) {ty e:Nat} {x:Operand} {i sz:Nat} {es:List PV} (hop:o.op=.call { callee:=.builtin .len,args:=#[x],argTypes:=#[ty] }) (hx:env.val x=some (.own i)) (hi:H.get i=some (.mrow e sz es)) (hk:tb.k ty=.sl e):QStep P g H o env (.pv (.base (.int .i64 es.length))):=by
 refine ⟨fun K ρ a w hf hv=>?_⟩
 have hxr:=hv x (by rw [hop];simp [Op.operands,Call.operands]) _ hx
 generalize hxv:a.eval x=xv at hxr
 obtain ⟨us,hown,hsz,hcr,hKK'⟩:=hf.heap.ok i _ hi
 cases hxr with
 | own _ _ =>
  have hrun:(execOp a.eval o).run P w=.ok (.value (.int .i64 es.length)) w:=by
   have hl:∃ ad c,ρ i=.slice ad es.length c:=by
    rcases hown.2 with ⟨h,h2⟩|⟨b,cap,cur,h,_⟩
    ·exact ⟨none,0,by rw [h,h2]⟩
    ·exact ⟨_,_,h⟩
   obtain ⟨ad,c,hl⟩:=hl
   simp [execOp,hop,resolve,invoke,builtin,Builtin.len_,hxv,hl,run_underlying (yw htb hk),goInt]
  rw [hrun]
  exact qA hf (.pv _ _ (.base _ rfl))
theorem XD {t rt pe:TypeId} {x:Operand} {av:AV} {b:Bool} (hop:o.op=.binOp .neq t x (.const (.pointer none)) rt) (hu0:P.underlying t=some (.pointer pe)) (hx:env.val x=some av) (hn:WM av=some b):QStep P g H o env (.pv (.base (.bool (!b)))):=by
 have hu:P.underlying t=some (.pointer (P.pointee t)):=by rw [hu0,Program.pointee,hu0]
 refine ⟨fun K ρ a w hf hv=>?_⟩
 have hxr:=hv x (by rw [hop];simp [Op.operands]) _ hx
 generalize hxv:a.eval x=xv at hxr
 have key:∀ p:Option Addr,xv=.pointer p→p.isNone=b→zaf P K ρ H w (.pv (.base (.bool (!b)))) ((execOp a.eval o).run P w):=by
  rintro p rfl rfl
  have h1:=run_neq_pointer_nil (P:=P) w t p hu
  have h2:a.eval (.const (.pointer none))=.pointer none:=rfl
  have hrun:(execOp a.eval o).run P w=.ok (.value (.bool !p.isNone)) w:=by
   simp [execOp,hop,hxv,h2,eqGuard,h1]
  rw [hrun]
  exact qA hf (.pv _ _ (.base _ rfl))
 cases hxr with
 | box i off b' hi hb=>simp only [WM,Option.some.injEq] at hn;exact key _ rfl (by simpa using hn)
 | pv p v hp =>
  cases hp with
  | ptr=>simp only [WM,Option.some.injEq] at hn;exact key _ rfl (by simpa using hn)
  | base v hb =>
   cases xv <;> simp only [WM] at hn <;> try cases hn
   rename_i p
   cases p with
   | none=>simp only [Option.some.injEq] at hn;exact key _ rfl (by simpa using hn)
   | some ad=>cases hn
  | _=>simp [WM] at hn
 | _=>simp [WM] at hn
theorem zba {xs:Array Operand} {ts:Array TypeId} {f:FuncId} {args:(Nat→Value)→List PV} {e:TypeId} {sz:Nat} {es:List PV} (hop:o.op=.call { callee:=.value (.func f),args:=xs,argTypes:=ts }) (hargs:∀ ρ,WQ ρ env H xs.toList=some (args ρ))
  (hc:∀ ρ,ACallR P f (args ρ) e sz es) (hsz:0 < sz) (hb:∀ p∈es,∃ u,p=.base u):QStep P g H o env (.pv (.slc sz es false)):=by
 refine ⟨fun K ρ a w hf hv=>?_⟩
 have hp:=zaC hf (a:=a) (xs:=xs.toList) (fun x hx=>hv x (by rw [hop];simp [Op.operands,Call.operands];exact .inr (by simpa using hx))) (hargs ρ)
 have:(execOp a.eval o).run P w=.ok (.enter f (xs.toList.map a.eval).toArray) w:=by
  have e:(xs.toList.map a.eval).toArray=xs.map a.eval:=by rw [←Array.toList_map,Array.toArray_toList]
  rw [e]
  simp [execOp,hop,resolve,Act.eval,Deferred.ofValue,invoke,Zd (hc ρ).stands]
 rw [this]
 refine ⟨rfl,((hc ρ).calls _ w _ (zfV hf) hp).mono fun ex w'' ⟨v,K',us,h1,h2,hown,hcr,hk⟩=>?_⟩
 refine ⟨v,fun b o=>K b o∨(v.ownBlock=some b∧o < es.length * sz),h1,⟨h2.below,fun _ _ h=>.inl h,fun b o h=>h.imp id fun h=>(hown.lt b h.1).1,fun b o h=>?_⟩,.pv _ _ ?_⟩
 ·rcases h with h|h
  ·exact Nat.lt_of_lt_of_le (hf.lt b o h) h2.below.size
  ·exact (hown.lt b h.1).2
 ·have hbase:∀ (c:PV) (u:Value) (i:Nat) (p:PV) (m:Nat),es[i]?=some p→p.cells[m]?=some c→PRel K' w'' c u→PRel (fun b o=>K b o∨(v.ownBlock=some b∧o < es.length * sz)) w'' c u:=by
   intro c u i p m hpe hc hr
   obtain ⟨x,rfl⟩:=hb p (List.mem_of_getElem? hpe)
   cases m with
   | zero=>simp [PV.cells] at hc;subst hc;cases hr with|base _ h=>exact .base _ h
   | succ m=>simp [PV.cells] at hc
  rcases hown.2 with ⟨hr,hz⟩|⟨b,cap,cur,hr,hB,hheap,hle,hcap,hsize,htake⟩
  ·rw [hr]
   have:es=[]:=List.eq_nil_of_length_eq_zero hz
   subst this;exact .nil sz false
  ·by_cases hes:es=[]
   ·subst hes
    rw [hr]
    exact .slc sz [] false b 0 cap (fun _=>[]) hsz (Nat.zero_le _) (by simp) (by simp [maxLen]) hcap (fun i e he=>by simp at he) (fun i e k c v he=>by simp at he)
   ·have hown':=hown
    have hxl:us.length=es.length * sz:=hown.1
    have hvb:v.ownBlock=some b:=by rw [hr];rfl
    rw [hr] at hown'
    have goal:PRel (fun b o=>K b o∨(v.ownBlock=some b∧o < es.length * sz)) w'' (.slc sz es false) (.slice (some ⟨b,0,none⟩) es.length cap):=by
     refine .slc sz es false b 0 cap (fun i=>(us.drop (i * sz)).take sz) hsz hle (by simp) (by omega) hcap (fun k e he=>?_) (fun k e m c v he hc hvv=>?_)
     ·obtain ⟨c1,c2⟩:=hcr k e he
      have hk:k < es.length:=(List.getElem?_eq_some_iff.1 he).1
      have hle2:k * sz + sz≤es.length * sz:=by rw [←Nat.succ_mul];exact Nat.mul_le_mul_right _ hk
      refine ⟨c1,by rw [List.length_take,List.length_drop];omega,fun m u hm=>?_⟩
      rw [List.getElem?_take] at hm
      split at hm
      ·rename_i hms
       rw [List.getElem?_drop] at hm
       obtain ⟨u',u1,u2,_⟩:=c2 m e.cells[m] (List.getElem?_eq_getElem (by omega))
       rw [u1,Option.some.injEq] at hm;subst hm
       exact ⟨.inr ⟨hvb,by omega⟩,by rw [Nat.zero_add,hown'.cellAt _ (by omega)];exact u1,u2⟩
      ·cases hm
     ·obtain ⟨c1,c2⟩:=hcr k e he
      obtain ⟨u,u1,u2,u3⟩:=c2 m c hc
      rw [List.getElem?_take] at hvv
      split at hvv
      ·rw [List.getElem?_drop,u1,Option.some.injEq] at hvv
       subst hvv;exact hbase _ _ k e m he hc u3
      ·cases hvv
    rw [←hr] at goal
    exact goal
theorem zmC (i j:Nat) (hi:(H.get i).isSome=true) (_:H.get j=none) (k:∀ u,AW P n g c env ((j,.pin (.own i) u)::H) QQ):AW P n g c env H QQ:=by
 refine ⟨fun a w hinv=>?_⟩
 obtain ⟨g1,g2,K,ρ,hf,he⟩:=hinv
 have hkk:∀ m,(H.get m).isSome=true→(HEnv.get ((j,.pin (.own i) (ρ i))::H) m).isSome=true∧ρ m=ρ m:=by
  intro m hm
  refine ⟨?_,rfl⟩
  rw [HEnv.get_cons];split <;> first|rfl|exact hm
 have hlive:∀ m hh,HEnv.get ((j,.pin (.own i) (ρ i))::H) m=some hh→hh.live=true→H.get m=some hh:=by
  intro m hh hm hl
  rw [HEnv.get_cons] at hm
  split at hm
  ·simp only [Option.some.injEq] at hm;subst hm;simp [HE.live] at hl
  ·exact hm
 refine (k (ρ i)).go a w ⟨g1,g2,K,ρ,⟨hf.below,hf.old,hf.new,hf.lt,hf.others,hf.pt,fun m hh bb hm hl hb=>hf.away m hh bb (hlive m hh hm hl) hl hb,fun m hh hm=>?_,fun m m' hh hh' bb hmm hm hm' hl hl'=>hf.heap.apart m m' hh hh' bb hmm (hlive m hh hm hl) (hlive m' hh' hm' hl') hl hl'⟩,he.keeps (.refl K w) hkk⟩
 rw [HEnv.get_cons] at hm
 split at hm
 ·simp only [Option.some.injEq] at hm;subst hm
  have hold:ARel K w ρ H (.own i) (ρ i):=.own i hi
  exact hold.keeps (.refl K w) hkk
 ·exact (hf.heap.ok m hh hm).keeps (.refl hf.lt) hf.lt hkk
theorem zlX (htb:yc P tb) {t e:Nat} {x:Operand} {hi:Option Operand} (i j:Nat) {u:Value} {sz:Nat} {es:List PV} {h:Int} (hop:o.op=.slice t x none hi none) (hk:tb.k t=.sl e) (hke:tb.known e=true) (hsz:tb.size e=sz)
  (hx:env.val x=some (.own i)) (hi':H.get i=some (.mrow e sz es)) (hj:H.get j=some (.pin (.own i) u)) (hhi:VD env H es.length hi=some h) (h1:0≤h) (h2:h≤es.length) (h3:0 < es.length):QStep P g H o env (.pv (.base (cut sz u 0 h.toNat))):=by
 refine ⟨fun K ρ a w hf hv=>?_⟩
 have hxr:=hv x (by rw [hop];simp [Op.operands]) _ hx
 generalize hxv:a.eval x=xv at hxr
 have eh:=zbP (a:=a) hf (x:=hi) (fun y hy av hh=>hv y (by rw [hop];simp [Op.operands];exact .inr (by simpa using hy)) av hh) hhi
 have hko:tb.k e≠.oth:=by intro h;simp [Tab.known,h] at hke
 have hs:=run_sizeOf htb hko w
 have bounds:∀ cap:Nat,es.length≤cap→(Instr.sliceBounds true es.length cap none (hi.map a.eval) none).run P w=.ok (0,h.toNat,cap) w:=by
  intro cap hcap
  have hhc:h≤(cap:Int):=by omega
  rcases eh with ⟨rfl,rfl⟩|⟨z,k',rfl,hz⟩
  ·simp [Instr.sliceBounds]
  ·simp [hz,Instr.sliceBounds,Instr.sliceBound,asIntOf,hhc,h1]
 obtain ⟨xs,hown,hz0,hcr,hnK⟩:=hf.heap.ok i _ hi'
 have hpin:=hf.heap.ok j _ hj
 have hu:u=ρ i:=by
  have hp:ARel K w ρ H (.own i) u:=hpin
  cases hp;rfl
 cases hxr with
 | own _ hi0 =>
  rcases hown.2 with ⟨hr,hz⟩|⟨b,cap,cur,hr,hB,hheap,hle,hcap,hsize,htake⟩
  ·omega
  ·have hb:=bounds cap hle
   have hrun:(execOp a.eval o).run P w=.ok (.value (cut sz u 0 h.toNat)) w:=by
    have hne:¬ cap=0:=by omega
    rw [hu,hr]
    simp [execOp,hop,hxv,hr,Instr.sliceAt,Instr.slice,run_underlying (yw htb hk),hb,hs,hsz,Addr.add_lit,cut]
   rw [hrun]
   exact qA hf (.pv _ _ (.base _ (zmJ _ _ _ _ ⟨_,_,_,by rw [hu,hr]⟩)))
theorem zjO (b i j k:Nat) {e sz h:Nat} {u:Value} {es:List PV} {cs:List AV} (hb:H.get b=some (.cell (.agg cs))) (hk:cs[k]?=some (.pv (.base (cut sz u 0 h)))) (hi:H.get i=some (.mrow e sz es)) (hj:H.get j=some (.pin (.own i) u)) (hh:h≤es.length) (h3:0 < es.length)
  (kk:AW P n g c (VU i env) ((b,.cell (.agg ((kills i cs).set k (.own i))))::(i,.mrow e sz (es.take h))::Zf i H) QQ):AW P n g c env H QQ:=by
 refine ⟨fun a w hinv=>?_⟩
 obtain ⟨g1,g2,K,ρ,hf,he⟩:=hinv
 obtain ⟨xs,hown,hz0,hcr,hnK⟩:=hf.heap.ok i _ hi
 have hpin:ARel K w ρ H (.own i) u:=hf.heap.ok j _ hj
 have hu:u=ρ i:=by cases hpin;rfl
 have hne:b≠i:=by rintro rfl;rw [hi] at hb;cases hb
 rcases hown.2 with ⟨hr,hz⟩|⟨bb,cap,cur,hr,hB,hheap,hle,hcap,hsize,htake⟩
 ·omega
 ·obtain ⟨v,hv⟩:∃ v:Value,v=.slice (some ⟨bb,0,none⟩) h cap:=⟨_,rfl⟩
  have hcut:cut sz u 0 h=v:=by rw [hu,hr,hv];simp [cut]
  have hnp:∀ b,ρ i=.pointer (some ⟨b,0,none⟩)→False:=by intro b hb;rw [hr] at hb;cases hb
  have hsome:∀ j,((Zf i H).get j).isSome=(H.get j).isSome:=by intro j;rw [qB];cases H.get j <;> rfl
  have hkeep:∀ m,m≠i→(H.get m).isSome=true→(HEnv.get ((b,.cell (.agg ((kills i cs).set k (.own i))))::(i,.mrow e sz (es.take h))::Zf i H) m).isSome=true∧(fun m=>if m=i then v else ρ m) m=ρ m:=by
   intro m hne hm
   refine ⟨?_,by simp [hne]⟩
   rw [HEnv.get_cons]
   split
   ·rfl
   ·rw [HEnv.get_cons,if_neg (Ne.symm hne),hsome];exact hm
  have htr:∀ av x,ARel K w ρ H av x→ARel K w (fun m=>if m=i then v else ρ m) ((b,.cell (.agg ((kills i cs).set k (.own i))))::(i,.mrow e sz (es.take h))::Zf i H) (kill i av) x:=fun av x h=>h.kill (.refl K w) i hkeep hnp (row_one hf i (by simp [isVal,hi]))
  have hvb:zq v=zq (ρ i):=by rw [hv,hr];rfl
  have hget:∀ (m:Nat) (x:HE),m≠i→m≠b→HEnv.get ((b,.cell (.agg ((kills i cs).set k (.own i))))::(i,.mrow e sz (es.take h))::Zf i H) m=some x→∃ h0,H.get m=some h0∧x=killHE i h0∧(x.live=true→h0.live=true):=by
   intro m x hmi hmb hm
   rw [HEnv.get_cons,if_neg (Ne.symm hmb),HEnv.get_cons,if_neg (Ne.symm hmi),qB] at hm
   cases hH:H.get m with
   | none=>simp [hH] at hm
   | some e0 =>
    simp only [hH,Option.map_some,Option.some.injEq] at hm
    subst hm
    exact ⟨e0,rfl,rfl,by cases e0 <;> exact id⟩
  have hlv:∀ (m:Nat) (x:HE),HEnv.get ((b,.cell (.agg ((kills i cs).set k (.own i))))::(i,.mrow e sz (es.take h))::Zf i H) m=some x→x.live=true→∃ h0,H.get m=some h0∧h0.live=true∧zq ((fun m=>if m=i then v else ρ m) m)=zq (ρ m):=by
   intro m x hm hl
   by_cases hmb:m=b
   ·subst hmb;exact ⟨_,hb,rfl,by simp [hne]⟩
   ·by_cases hmi:m=i
    ·subst hmi;exact ⟨_,hi,rfl,by simp [hvb]⟩
    ·obtain ⟨h0,a1,a2,a3⟩:=hget m x hmi hmb hm
     exact ⟨h0,a1,a3 hl,by simp [hmi]⟩
  have hlen:(es.take h).length=h:=by rw [List.length_take];omega
  refine kk.go a w ⟨g1,g2,K,fun m=>if m=i then v else ρ m,⟨hf.below,hf.old,hf.new,hf.lt,hf.others,hf.pt,?_,?_,?_⟩,?_⟩
  ·intro m x b2 hm hl hb2
   obtain ⟨h0,a1,a2,a3⟩:=hlv m x hm hl
   exact hf.away m h0 b2 a1 a2 (by rw [←a3];exact hb2)
  ·intro m x hm
   by_cases hmb:m=b
   ·subst hmb
    rw [HEnv.get_cons,if_pos rfl] at hm
    simp only [Option.some.injEq] at hm;subst hm
    simp only [hne,if_false]
    obtain ⟨b',t',arr,x',q1,q2,q3,q4,q5,q6⟩:=hf.heap.ok m _ hb
    refine ⟨b',t',arr,x',q1,q2,q3,?_,q5,q6⟩
    cases q4 with
    | agg _ vs a1 a2 a3 =>
     refine .agg _ vs (by simpa [Yn] using a1) a2 fun k' c' v' hc hvv=>?_
     rw [List.getElem?_set] at hc
     split at hc
     ·rename_i e1;subst e1
      split at hc
      ·simp only [Option.some.injEq] at hc;subst hc
       have:=a3 k _ v' hk hvv
       cases this with
       | pv _ _ hp =>
        cases hp
        rw [hcut]
        have:=ARel.own (K:=K) (w:=w) (ρ:=fun m=>if m=i then v else ρ m) (H:=(m,.cell (.agg ((kills i cs).set k (.own i))))::(i,HE.mrow e sz (es.take h))::Zf i H) i (by rw [HEnv.get_cons,if_neg hne,HEnv.get_cons,if_pos rfl];rfl)
        simpa using this
      ·cases hc
     ·rw [XP] at hc
      cases hcs:cs[k']? with
      | none=>simp [hcs] at hc
      | some c0=>simp [hcs] at hc;subst hc;exact htr _ _ (a3 k' c0 v' hcs hvv)
   ·by_cases hmi:m=i
    ·subst hmi
     rw [HEnv.get_cons,if_neg hne,HEnv.get_cons,if_pos rfl] at hm
     simp only [Option.some.injEq] at hm;subst hm
     simp only [if_true]
     have hxl:xs.length=es.length * sz:=hown.1
     have hle2:h * sz≤es.length * sz:=Nat.mul_le_mul_right _ hh
     refine ⟨xs.take (h * sz),⟨by rw [hlen,List.length_take];omega,.inr ⟨bb,cap,cur,by rw [hv,hlen],hB,hheap,by rw [hlen];omega,hcap,hsize,?_⟩⟩,hz0,?_,?_⟩
     ·rw [hlen,←htake,List.take_take];congr 1;omega
     ·intro k1 e1 he1
      rw [List.getElem?_take] at he1
      split at he1
      ·rename_i hk1
       obtain ⟨c1,c2⟩:=hcr k1 e1 he1
       refine ⟨c1,fun m c hc=>?_⟩
       obtain ⟨v,v1,v2,v3⟩:=c2 m c hc
       have hm:m < sz:=by have:=(List.getElem?_eq_some_iff.1 hc).1;omega
       refine ⟨v,?_,v2,v3⟩
       rw [List.getElem?_take,if_pos]
       ·exact v1
       ·have:(k1 + 1) * sz≤h * sz:=Nat.mul_le_mul_right _ hk1
        rw [Nat.succ_mul] at this;omega
      ·cases he1
     ·intro b' hb' o
      exact hnK b' (by rw [hr];rw [hv] at hb';exact hb') o
    ·obtain ⟨h0,a1,a2,a3⟩:=hget m x hmi hmb hm
     subst a2
     simp only [hmi,if_false]
     have hok:=hf.heap.ok m h0 a1
     cases h0 with
     | cell v=>obtain ⟨b',t',arr,x',q1,q2,q3,q4,q5,q6⟩:=hok;exact ⟨b',t',arr,x',q1,q2,q3,htr _ _ q4,q5,q6⟩
     | pin v x'=>exact htr _ _ hok
     | row t' sz' es'=>exact hok
     | mrow t' sz' es'=>exact hok
     | dead=>trivial
     | obj X=>exact hok
  ·intro m m' x x' b2 hmm hm hm' hl hl' hb1 hb2
   obtain ⟨h0,a1,a2,a3⟩:=hlv m x hm hl
   obtain ⟨h0',c1,c2,c3⟩:=hlv m' x' hm' hl'
   exact hf.heap.apart m m' h0 h0' b2 hmm a1 c1 a2 c2 (by rw [←a3];exact hb1) (by rw [←c3];exact hb2)
  ·intro t' av hg'
   rw [Xd] at hg'
   cases hE:env.get t' with
   | none=>simp [hE] at hg'
   | some av0 =>
    simp only [hE,Option.map_some,Option.some.injEq] at hg'
    subst hg'
    obtain ⟨v,v1,v2⟩:=he t' av0 hE
    exact ⟨v,v1,htr _ _ v2⟩
theorem zlf (i:Nat) {t sz:Nat} {es es':List PV} (hi:H.get i=some (.mrow t sz es)) (e:es=es') (k:AW P n g c env ((i,.mrow t sz es')::H) QQ):AW P n g c env H QQ:=by
 subst e
 refine ⟨fun a w hinv=>?_⟩
 obtain ⟨g1,g2,K,ρ,hf,he⟩:=hinv
 have heq:∀ m,HEnv.get ((i,.mrow t sz es)::H) m=H.get m:=by
  intro m
  rw [HEnv.get_cons]
  split
  ·rename_i e;subst e;exact hi.symm
  ·rfl
 have hkk:∀ m,(H.get m).isSome=true→(HEnv.get ((i,.mrow t sz es)::H) m).isSome=true∧ρ m=ρ m:=fun m hm=>⟨by rw [heq];exact hm,rfl⟩
 refine k.go a w ⟨g1,g2,K,ρ,⟨hf.below,hf.old,hf.new,hf.lt,hf.others,hf.pt,fun m hh bb hm=>hf.away m hh bb (by rw [←heq];exact hm),fun m hh hm=>?_,fun m m' hh hh' bb hmm hm hm'=>hf.heap.apart m m' hh hh' bb hmm (by rw [←heq];exact hm) (by rw [←heq];exact hm')⟩,he.keeps (.refl K w) hkk⟩
 rw [heq] at hm
 exact (hf.heap.ok m hh hm).keeps (.refl hf.lt) hf.lt hkk
theorem ACallM.tells {f:FuncId} {args args':List AV} {H':HEnv} {r:AV} {lone:Bool} (h:ACallM P f args H r H' lone) (hl:args'.length=args.length) (ht:∀ (k:Nat) (c c':AV),args[k]?=some c→args'[k]?=some c'→c'=c∨∃ p p',c=.pv p∧c'=.pv p'∧PTells p' p):ACallM P f args' H r H' lone :=
 ⟨h.stands,fun g K ρ w vs hw1 hf hv=>h.calls g K ρ w vs hw1 hf ⟨by rw [hv.1,hl],fun k c v hc hvv=>by
  have hlt:k < args'.length:=by rw [hl];exact (List.getElem?_eq_some_iff.1 hc).1
  have hr:=hv.2 k _ v (List.getElem?_eq_getElem hlt) hvv
  rcases ht k c _ hc (List.getElem?_eq_getElem hlt) with e|⟨p,p',rfl,e,hp⟩
  ·rw [e] at hr;exact hr
  ·rw [e] at hr
   cases hr with
   | pv _ _ hr=>exact .pv _ _ (hp _ _ _ hr)⟩⟩
end
end Go.Cg
namespace Go.Cg
theorem sM {Q P:Prop} (k:Q) (h:Q→P:=by
  intro k
  first
  | exact zy rfl (ziB zk rfl rfl rfl rfl) rfl rfl k
  | exact zy rfl (zi5 rfl rfl) rfl rfl k
  | exact zy rfl (zjt zk rfl rfl ⟨_,rfl⟩ rfl rfl) rfl rfl k
  | exact AD.step _ _ _ _ _ rfl (ziB zk rfl rfl rfl rfl) rfl rfl k
  | exact AD.step _ _ _ _ _ rfl (zi5 rfl rfl) rfl rfl k
  | exact AD.step _ _ _ _ _ rfl (zjt zk rfl rfl ⟨_,rfl⟩ rfl rfl) rfl rfl k
  | fail):P:=h k
theorem ZK {H H':HEnv} {i:Nat} {t sz:Nat} {es es':List PV} (h:H.get i=some (.mrow t sz es)) (e:es=es') (hs:HSub H H'):HSub H ((i,.mrow t sz es')::H'):=YF h e hs
end Go.Cg
namespace Go.Cg
open Go.RowKit
section
variable {P:Program} {tb:Tab} {n:Nat} {g:Base} {H:HEnv} {env:Env} {QQ:QC} {c:Code} {K:KK} {w:World} {ρ:Nat→Value}
theorem zfh (hf:FS g K ρ H w) {i t sz:Nat} {es:List PV} (hi:H.get i=some (.row t sz es)) {v:Value} (h:ARel K w ρ H (.own i) v):PRel K w (.slc sz es false) v :=
 XW hf h (by simp [AV.cellPV,hi])
theorem Vu (b i k:Nat) {t sz:Nat} {es:List PV} {cs:List AV} (hb:H.get b=some (.cell (.agg cs))) (hk:cs[k]?=some (.own i)) (hi:H.get i=some (.row t sz es)) (kk:AW P n g c env ((b,.cell (.agg (cs.set k (.pv (.slc sz es false)))))::H) QQ):AW P n g c env H QQ:=by
 refine ⟨fun a w hinv=>?_⟩
 obtain ⟨g1,g2,K,ρ,hf,he⟩:=hinv
 have hkk:∀ m,(H.get m).isSome=true→(HEnv.get ((b,.cell (.agg (cs.set k (.pv (.slc sz es false)))))::H) m).isSome=true∧ρ m=ρ m:=by
  intro m hm
  refine ⟨?_,rfl⟩
  rw [HEnv.get_cons];split <;> first|rfl|exact hm
 have hlv:∀ m x,HEnv.get ((b,.cell (.agg (cs.set k (.pv (.slc sz es false)))))::H) m=some x→x.live=true→∃ h0,H.get m=some h0∧h0.live=true:=by
  intro m x hm hl
  rw [HEnv.get_cons] at hm
  split at hm
  ·rename_i e;subst e;exact ⟨_,hb,rfl⟩
  ·exact ⟨x,hm,hl⟩
 refine kk.go a w ⟨g1,g2,K,ρ,⟨hf.below,hf.old,hf.new,hf.lt,hf.others,hf.pt,fun m x b2 hm hl hb2=>?_,fun m x hm=>?_,fun m m' x x' b2 hmm hm hm' hl hl'=>?_⟩,he.keeps (.refl K w) hkk⟩
 ·obtain ⟨h0,a1,a2⟩:=hlv m x hm hl
  exact hf.away m h0 b2 a1 a2 hb2
 ·rw [HEnv.get_cons] at hm
  split at hm
  ·rename_i e;subst e
   simp only [Option.some.injEq] at hm;subst hm
   obtain ⟨b',t',arr,x',q1,q2,q3,q4,q5,q6⟩:=hf.heap.ok b _ hb
   refine ⟨b',t',arr,x',q1,q2,q3,?_,q5,q6⟩
   cases q4 with
   | agg _ vs a1 a2 a3 =>
    refine .agg _ vs (by simpa using a1) a2 fun m c v hc hv=>?_
    rw [List.getElem?_set] at hc
    split at hc
    ·rename_i e1;subst e1
     split at hc
     ·simp only [Option.some.injEq] at hc;subst hc
      exact .pv _ _ (zfh hf hi (a3 k _ v hk hv))
     ·cases hc
    ·exact (a3 m c v hc hv).keeps (.refl K w) hkk
  ·exact (hf.heap.ok m x hm).keeps (.refl hf.lt) hf.lt hkk
 ·obtain ⟨h0,a1,a2⟩:=hlv m x hm hl
  obtain ⟨h0',c1,c2⟩:=hlv m' x' hm' hl'
  exact hf.heap.apart m m' h0 h0' b2 hmm a1 c1 a2 c2
end
section
variable {P:Program} {n:Nat} {g:Base} {H:HEnv} {env:Env} {c:Code} {QQ:QC} {ops l:List Oper} {Q:Env→HEnv→Prop}
end
end Go.Cg
