/- A part of the walks by abstract values: no statement of its own. -/
import Derived.Test.YtdlokcmodgccnaaGreatU14
import Derived.Test.YtdlokcmodgccnaaGreatU12
import Derived.Test.YtdlokcmodgccnaaGreatU3
import Derived.Test.YtdlokcmodgccnaaGreatU7
import Derived.Laws.Pointers
import Derived.Laws.CopyRow
import Derived.Test.YtdlokcmodgccnaaGreatU6
import Derived.Test.YtdlokcmodgccnaaGreatU11
set_option linter.unusedVariables false
set_option linter.unusedSimpArgs false
namespace Go.Cg
open Go.Proofs
def tyB (a b:Ty):Bool:=a.kind==b.kind&&(a.index==b.index&&(a.dims==b.dims&&(a.ref==b.ref&&true)))
end Go.Cg
namespace Go.Cg
open Go.RowKit
section
variable {P:Program} {n:Nat} {g:Base} {H:HEnv} {env:Env} {c:Code} {QQ:QC} {K:KK} {w:World} {ρ:Nat→Value}
theorem zdW (b i k:Nat) (e:TypeId) (sz:Nat) {v:AV} {cs:List AV} (hsz:0 < sz) (hb:H.get b=some (.cell v)) (hv:aggOf v=some cs) (hk:cs[k]?=some (.pv (.base (.slice none 0 0)))) (hi:H.get i=none)
  (h:AW P n g c env ((b,.cell (.agg (cs.set k (.own i))))::(i,.mrow e sz [])::H) QQ):AW P n g c env H QQ:=by
 refine ⟨fun a w hinv=>h.go a w ?_⟩
 obtain ⟨h1,h2,K,ρ,hf,he⟩:=hinv
 have hev:Evo K K w w:=.refl hf.lt
 have hne:b≠i:=by rintro rfl;simp [hi] at hb
 have hf2:FS g K (fun j=>if j=i then .slice none 0 0 else ρ j) ((i,.mrow e sz [])::H) w:=hf.fresh hev hi ⟨[],World.ownsRow_nil w _ e sz,hsz,fun i e h=>by simp at h,by simp [Value.ownBlock]⟩ (by simp [zX])
 have hkk:∀ j,(HEnv.get ((i,HE.mrow e sz [])::H) j).isSome=true→(HEnv.get ((b,.cell (.agg (cs.set k (.own i))))::(i,HE.mrow e sz [])::H) j).isSome=true∧(fun j=>if j=i then Value.slice none 0 0 else ρ j) j=(fun j=>if j=i then Value.slice none 0 0 else ρ j) j:=by
  intro j hj
  refine ⟨?_,rfl⟩
  simp only [HEnv.get_nil,HEnv.get_cons] at hj ⊢
  split
  ·rfl
  ·exact hj
 have hlat:=hev.later hf.lt
 refine ⟨h1,h2,K,fun j=>if j=i then .slice none 0 0 else ρ j,⟨hf2.below,hf2.old,hf2.new,hf2.lt,hf2.others,hf2.pt,hf2.away.set (e0:=.cell v) (by rw [HEnv.get_cons,if_neg (Ne.symm hne)];exact hb) rfl,?_,?_⟩,(he.keeps hlat (Zb hi _ _)).keeps hlat hkk⟩
 ·intro j hh hj
  simp only [HEnv.get_nil,HEnv.get_cons] at hj
  split at hj
  ·rename_i e';subst e'
   simp only [Option.some.injEq] at hj;subst hj
   have hb2:=(hf2.heap.ok b (.cell v) (by rw [HEnv.get_cons,if_neg (Ne.symm hne)];exact hb)).keeps hev hf.lt hkk
   obtain ⟨b',t',arr,u,hr,hB,hheap,hu,harr,hn⟩:=hb2
   refine ⟨b',t',arr,u,hr,hB,hheap,?_,harr,hn⟩
   have hu':=hu.aggOf hv
   cases hu' with
   | agg _ vs a1 a2 a3 =>
    refine .agg _ vs (by simpa using a1) a2 fun m c x hc hx=>?_
    rw [List.getElem?_set] at hc
    split at hc
    ·rename_i e1;subst e1
     split at hc
     ·simp only [Option.some.injEq] at hc;subst hc
      have:=a3 k _ x hk hx
      cases this with
      | pv _ _ hp =>
       cases hp
       have:=ARel.own (K:=K) (w:=w) (ρ:=fun j=>if j=i then .slice none 0 0 else ρ j) (H:=(b,.cell (.agg (cs.set k (.own i))))::(i,HE.mrow e sz [])::H) i (by simp [HEnv.get_nil,HEnv.get_cons,hne])
       simpa using this
     ·cases hc
    ·exact a3 m c x hc hx
  ·exact (hf2.heap.ok j hh (by simpa only [HEnv.get_nil,HEnv.get_cons] using hj)).keeps hev hf.lt hkk
 ·intro j k' hh hh' bb hjk hj hk' hlj hlk hbj hbk
  have e1:∀ (j:Nat) (hh:HE),HEnv.get ((b,.cell (.agg (cs.set k (.own i))))::(i,HE.mrow e sz [])::H) j=some hh→hh.live=true→∃ h0,HEnv.get ((i,HE.mrow e sz [])::H) j=some h0∧h0.live=true:=by
   intro j hh hj hl
   rw [HEnv.get_cons] at hj
   split at hj
   ·rename_i e';subst e'
    refine ⟨.cell v,?_,rfl⟩
    simp only [HEnv.get_nil,HEnv.get_cons];rw [if_neg (Ne.symm hne)];exact hb
   ·exact ⟨hh,hj,hl⟩
  obtain ⟨a1,a2,a3⟩:=e1 j hh hj hlj
  obtain ⟨b1,b2,b3⟩:=e1 k' hh' hk' hlk
  exact hf2.heap.apart j k' a1 b1 bb hjk a2 b2 a3 b3 hbj hbk
end
section
variable {P:Program} {tb:Tab} {g:Base} {H:HEnv} {env:Env} {o:Oper} {K:KK} {w:World} {ρ:Nat→Value}
def AL (K:KK) (w:World) (ρ:Nat→Value) (H:HEnv) (cs:List AV) (vs:List Value):Prop:=vs.length=cs.length∧∀ (k:Nat) (c:AV) (v:Value),cs[k]?=some c→vs[k]?=some v→ARel K w ρ H c v
theorem AL.take {cs:List AV} {vs:List Value} (h:AL K w ρ H cs vs) (n:Nat):AL K w ρ H (cs.take n) (vs.take n) :=
 ⟨by simp [h.1],fun k c v hc hv=>by
  rw [List.getElem?_take] at hc hv
  split at hc
  ·rename_i hk;rw [if_pos hk] at hv;exact h.2 k c v hc hv
  ·cases hc⟩
theorem AL.drop {cs:List AV} {vs:List Value} (h:AL K w ρ H cs vs) (n:Nat):AL K w ρ H (cs.drop n) (vs.drop n) :=
 ⟨by simp [h.1],fun k c v hc hv=>by
  rw [List.getElem?_drop] at hc hv
  exact h.2 _ c v hc hv⟩
theorem AL.append {cs ds:List AV} {vs us:List Value} (h:AL K w ρ H cs vs) (h':AL K w ρ H ds us):AL K w ρ H (cs++ds) (vs++us) :=
 ⟨by simp [h.1,h'.1],fun k c v hc hv=>by
  rw [List.getElem?_append] at hc hv
  rw [h.1] at hv
  split at hc
  ·rename_i hk;rw [if_pos hk] at hv;exact h.2 k c v hc hv
  ·rename_i hk;rw [if_neg hk] at hv;exact h'.2 _ c v hc hv⟩
def zj0 (place:Nat→Option (Nat × Nat)):List AV→List (Nat × AV)→Option (List AV)
 | cells,[]=>some cells
 | cells,(i,p)::r =>
  match place i with
  | none=>none
  | some (off,size)=>if p.flat.length=size∧off + size≤cells.length then zj0 place (cells.take off++p.flat++cells.drop (off + size)) r else none
def zhk (env:Env):List (Nat × Operand)→Option (List (Nat × AV))
 | []=>some []
 | (i,x)::xs=>match env.val x,zhk env xs with|some p,some ps=>some ((i,p)::ps)|_,_=>none
theorem zix (place:Nat→Option (Nat × Nat)) (hrow:∀ i,isVal H i=true→(ρ i).cells=#[ρ i]∧(ρ i).oneCell'=true):∀ {ps:List (Nat × AV)} {cells cs:List AV} {vcells:Array Value} {vps:List (Nat × Value)},AL K w ρ H cells vcells.toList→ps.map (·.1)=vps.map (·.1) →
  AL K w ρ H (ps.map (·.2)) (vps.map (·.2))→(ps.all fun x=>x.2.flat.all (zkM H))=true→zj0 place cells ps=some cs→∃ r,Instr.fill place vcells vps=some r∧AL K w ρ H cs r.toList
 | [],cells,cs,vcells,vps,hc,hi,hp,_,h=>by
  have:vps=[]:=by simpa using hi.symm
  subst this
  simp [zj0] at h;subst h
  exact ⟨vcells,rfl,hc⟩
 | (i,p)::ps,cells,cs,vcells,vps,hc,hi,hp,ho,h=>by
  cases vps with
  | nil=>simp at hi
  | cons x vps =>
   obtain ⟨j,v⟩:=x
   simp at hi
   obtain ⟨rfl,hi⟩:=hi
   simp only [List.map_cons] at hp
   have hpv:=hp.2 0 p v rfl rfl
   have hps:AL K w ρ H (ps.map (·.2)) (vps.map (·.2)):=⟨by have:=hp.1;simpa using this,fun k c u h1 h2=>hp.2 (k + 1) c u (by simpa using h1) (by simpa using h2)⟩
   simp only [List.all_cons,Bool.and_eq_true] at ho
   simp only [zj0] at h
   split at h
   ·cases h
   ·rename_i off size hpl
    split at h
    ·rename_i hle
     obtain ⟨f1,f2,f3⟩:=zgU hpv ho.1 hrow
     have hcr:AL K w ρ H p.flat v.cells.toList:=⟨by simpa using f1,f3⟩
     have hsz:v.cells.size=size:=by rw [←hle.1,f1]
     have hcs:vcells.size=cells.length:=by rw [←hc.1];simp
     have hfold:=foldl_set off v.cells.toList 0 vcells (by simp;omega)
     obtain ⟨r,hr1,hr2⟩:=zix place hrow (vcells:=(v.cells.toList.zipIdx 0).foldl (fun cs (c:Value × Nat)=>cs.setIfInBounds (off + c.2) c.1) vcells) (vps:=vps) (cells:=cells.take off++p.flat++cells.drop (off + size)) (cs:=cs)
      (by rw [hfold];simp only [Nat.add_zero,Array.length_toList,hsz];exact ((hc.take off).append hcr).append (hc.drop _)) (by simpa using hi) hps ho.2 h
     refine ⟨r,?_,hr2⟩
     rw [←hr1]
     simp only [Instr.fill,hpl]
     rw [←Array.foldl_toList,Array.toList_zipIdx,if_neg (by simp;omega)]
    ·cases h
theorem zgC {a:Act}:∀ {xs:List (Nat × Operand)} {ps:List (Nat × AV)},(∀ x∈xs,∀ av,env.val x.2=some av→ARel K w ρ H av (a.eval x.2))→zhk env xs=some ps →
  ps.map (·.1)=xs.map (·.1)∧AL K w ρ H (ps.map (·.2)) (xs.map fun x=>a.eval x.2)
 | [],ps,_,h=>by simp [zhk] at h;subst h;exact ⟨rfl,rfl,fun k c v h=>by simp at h⟩
 | (i,x)::xs,ps,hv,h=>by
  simp only [zhk] at h
  split at h
  ·rename_i p qs e1 e2
   simp only [Option.some.injEq] at h;subst h
   obtain ⟨r1,r2⟩:=zgC (fun y hy=>hv y (by simp [hy])) e2
   refine ⟨by simp [r1],by simp [r2.1],fun k c v hc hvv=>?_⟩
   cases k with
   | zero=>simp at hc hvv;subst hc hvv;exact hv (i,x) (by simp) _ e1
   | succ k=>exact r2.2 k c v (by simpa using hc) (by simpa using hvv)
  ·cases h
theorem VR (htb:qc P tb) {t:Nat} {parts:Array (Nat × Operand)} {fs:List (Nat × Nat × Nat)} {z:Value} {zs:List PV} {ps:List (Nat × AV)} {cs:List AV} (hop:o.op=.build t parts) (hk:∃ q,tb.k t=.agg fs q) (hz:tb.zero t=some z)
  (hzs:Vp z.cells.toList=some zs) (hps:zhk env parts.toList=some ps) (hone:(ps.all fun x=>x.2.flat.all (zkM H))=true) (hall:(fs.all fun f=>tb.known f.2.1&&tb.size f.2.1==f.2.2)=true)
  (hcs:zj0 (zeC fs) (zs.map .pv) ps=some cs):QStep P g H o env (.agg cs):=by
 refine ⟨fun K ρ a w hfs hv=>?_⟩
 obtain ⟨q,hk⟩:=hk
 obtain ⟨F,hF,hfs',_⟩:=zbj htb hk
 obtain ⟨h1,h2⟩:=zgC (K:=K) (w:=w) (ρ:=ρ) (H:=H) (a:=a) (xs:=parts.toList) (fun x hx=>hv x.2 (by rw [hop];simp [Op.operands];exact ⟨x.1,by simpa using hx⟩)) hps
 have hz0:AL K w ρ H (zs.map .pv) z.cells.toList:=by
  have:=Xf (K:=K) (w:=w) hzs
  refine ⟨by rw [List.length_map];exact this.1,fun k c v hc hvv=>?_⟩
  rw [List.getElem?_map] at hc
  cases hk2:zs[k]? with
  | none=>simp [hk2] at hc
  | some p=>simp [hk2] at hc;subst hc;exact .pv _ _ (this.2 k p v hk2 hvv)
 obtain ⟨rr,hr1,hr2⟩:=zix (K:=K) (w:=w) (ρ:=ρ) (H:=H) _ (row_one hfs) (vcells:=z.cells) (vps:=parts.toList.map fun x=>(x.1,a.eval x.2)) hz0 (by simpa [List.map_map,Function.comp_def] using h1) (by simpa [List.map_map,Function.comp_def] using h2) hone hcs
 have hzi:∃ i,P.info? t=some i∧i.zero=some z:=by
  unfold Tab.zero at hz
  split at hz
  ·rename_i ti hti
   obtain ⟨i,e1,_,_,e4,_⟩:=Zv htb hti
   exact ⟨i,e1,by rw [e4];exact hz⟩
  ·cases hz
 obtain ⟨i,hi,hiz⟩:=hzi
 have hplaces:∀ (l:List Field),(∀ f∈l,f∈F.toList)→(l.mapM fun f=>(Prod.mk f.offset <$> sizeOf f.type:Sem (Nat × Nat))).run P w=.ok (l.map fun f=>(f.offset,tb.size f.type)) w:=by
  intro l
  induction l with
  | nil=>intro _;simp
  | cons f l ih =>
   intro hl
   have hf:f∈F.toList:=hl f (by simp)
   have hall':=List.all_eq_true.1 hall (f.offset,f.type,P.cellsOf f.type) (by rw [←hfs'];exact List.mem_map.2 ⟨f,hf,rfl⟩)
   simp only [Bool.and_eq_true] at hall'
   have hko:tb.k f.type≠.oth:=by intro e;simp [Tab.known,e] at hall'
   have hs:=run_sizeOf htb hko w
   have ih':=ih (fun f hf=>hl f (by simp [hf]))
   simp [List.mapM_cons,hs,ih']
 have hpl:=hplaces F.toList (fun f hf=>hf)
 have hfun:zeC fs=fun i=>((F.toList.map fun f=>(f.offset,tb.size f.type)).toArray)[i]?:=by
  funext i
  rw [←hfs']
  simp only [zeC,List.getElem?_map,List.getElem?_toArray,Array.getElem?_toList]
  cases hfl:F[i]? with
  | none=>rfl
  | some f =>
   simp only [Option.map_some,Option.some.injEq,Prod.mk.injEq,true_and]
   have hf:f∈F.toList:=by simpa using Array.mem_of_getElem? hfl
   have hall':=List.all_eq_true.1 hall (f.offset,f.type,P.cellsOf f.type) (by rw [←hfs'];exact List.mem_map.2 ⟨f,hf,rfl⟩)
   simp only [Bool.and_eq_true,beq_iff_eq] at hall'
   exact hall'.2.symm
 rw [hfun] at hr1
 have:(execOp a.eval o).run P w=.ok (.value (.agg rr)) w:=by
  have hm:(F.mapM fun f=>(do pure (f.offset,←sizeOf f.type):Sem (Nat × Nat))).run P w=.ok (F.toList.map fun f=>(f.offset,tb.size f.type)).toArray w:=by
   rw [Array.mapM_eq_mapM_toList]
   simp only [bind_pure_comp,Sem.run_map,hpl,Result.andThen_ok]
  have hp2:(parts.map fun x=>(x.1,a.eval x.2)).toList=parts.toList.map fun x=>(x.1,a.eval x.2):=by simp
  simp only [execOp,hop,Instr.build,Sem.run_bind,zeroValue,typeInfo,run_program,hi,hiz,Result.andThen_ok,Sem.run_pure,run_underlying hF,hm,hp2,hr1]
 rw [this]
 have hone':∀ v∈rr.toList,v.oneCell'=true:=zgB _ hr1 (Xb hzs) (by
  intro x hx v hv'
  obtain ⟨k,hk⟩:=List.getElem?_of_mem hx
  have hk2:(parts.toList.map fun x=>a.eval x.2)[k]?=some x.2:=by
   rw [List.getElem?_map] at hk ⊢
   cases hpk:parts.toList[k]? with
   | none=>rw [hpk] at hk;simp at hk
   | some y=>rw [hpk] at hk;simp at hk;subst hk;rfl
  have hlt:k < (ps.map (·.2)).length:=by rw [←h2.1];exact (List.getElem?_eq_some_iff.1 hk2).1
  have hp:=List.getElem?_eq_getElem hlt
  have hall1:=List.all_eq_true.1 hone (ps[k]'(by simpa using hlt)) (List.getElem_mem _)
  exact (zgU (h2.2 k _ _ hp hk2) (by simpa using hall1) (row_one hfs)).2.1 v hv')
 exact ZT hfs (by have:=ARel.agg (K:=K) (w:=w) (ρ:=ρ) (H:=H) cs rr.toList hr2.1 hone' hr2.2;simpa using this)
theorem zk (htb:qc P tb) {ty:Nat} {x:Operand} {i off:Nat} {cs:List AV} {ps:List PV} {q:PV} (hop:o.op=.load ty x) (hx:env.val x=some (.box i off)) (hi:H.get i=some (.cell (.agg cs))) (hps:(cs.drop off).take ps.length=ps.map .pv) (hq:zby tb ty ps 0=some q):QStep P g H o env (.pv q):=by
 refine ⟨fun K ρ a w hf hv=>?_⟩
 have hxr:=hv x (by rw [hop];simp [Op.operands]) _ hx
 generalize hxv:a.eval x=xv at hxr
 obtain ⟨b,t,arr,u,hr,hB,hheap,hu,harr,hn⟩:=hf.heap.ok i _ hi
 cases hxr with
 | box _ _ b' hi' hρ =>
  rw [hr] at hρ
  simp only [Value.pointer.injEq,Option.some.injEq,Addr.mk.injEq,and_true] at hρ
  subst hρ
  cases hu with
  | agg _ vs a1 a2 a3 =>
   have hcell:∀ (k:Nat) (v:Value),((vs.drop off).take ps.length)[k]?=some v→w.cell? ⟨b,off + k,none⟩=some v:=by
    intro k v hv
    rw [List.getElem?_take] at hv
    split at hv
    ·rw [List.getElem?_drop] at hv
     simp only [World.cell?,hheap]
     rw [←harr]
     simpa [Value.cells] using hv
    ·cases hv
   have hrels:PRels K w ps ((vs.drop off).take ps.length):=by
    have hl:((cs.drop off).take ps.length).length=ps.length:=by rw [hps,List.length_map]
    refine ⟨by rw [List.length_take,List.length_drop] at hl ⊢;rw [a1];exact hl,fun k c v hc hv=>?_⟩
    have hck:((cs.drop off).take ps.length)[k]?=some (.pv c):=by rw [hps,List.getElem?_map,hc];rfl
    rw [List.getElem?_take] at hck hv
    split at hck
    ·rename_i hk
     rw [if_pos hk,List.getElem?_drop] at hv
     rw [List.getElem?_drop] at hck
     have:=a3 _ _ _ hck hv
     cases this with
     | pv _ _ hp=>exact hp
    ·cases hck
   have hone:∀ v∈(vs.drop off).take ps.length,v.oneCell'=true:=fun v hv=>a2 v (List.mem_of_mem_drop (List.mem_of_mem_take hv))
   obtain ⟨v,hv,hvr⟩:=Qs htb (b:=b) (o:=off) hcell hrels hone hq
   have hrun:(execOp a.eval o).run P w=.ok (.value v) w:=by
    have hv':(loadVar ty ⟨b,off,none⟩).run P w=.ok v w:=hv
    simp [execOp,hop,hxv,Instr.loadAt,Instr.sureAddr,hv']
   rw [hrun]
   exact ZT hf (.pv _ _ hvr)
end
section
variable {P:Program} {tb:Tab} {n:Nat} {g:Base} {H:HEnv} {env:Env} {ops:List Oper} {o:Oper} {rest:List Oper} {Q:Env→HEnv→Prop} {QQ:QC} {c:Code} {K:KK} {w:World} {ρ:Nat→Value} {a:Act}
def zio:AV→Option Bool
 | .box _ _=>some false
 | .pv (.ptr _ _)=>some false
 | .pv (.base (.pointer none))=>some true
 | _=>none
theorem XW {t rt pe:TypeId} {x:Operand} {av:AV} {b:Bool} (hop:o.op=.binOp .eql t x (.const (.pointer none)) rt) (hu0:P.underlying t=some (.pointer pe)) (hx:env.val x=some av) (hn:zio av=some b):QStep P g H o env (.pv (.base (.bool b))):=by
 have hu:P.underlying t=some (.pointer (P.pointee t)):=by rw [hu0,Program.pointee,hu0]
 refine ⟨fun K ρ a w hf hv=>?_⟩
 have hxr:=hv x (by rw [hop];simp [Op.operands]) _ hx
 generalize hxv:a.eval x=xv at hxr
 have key:∀ p:Option Addr,xv=.pointer p→p.isNone=b→zdH P K ρ H w (.pv (.base (.bool b))) ((execOp a.eval o).run P w):=by
  rintro p rfl rfl
  have h1:=run_eql_pointer_nil (P:=P) w t p hu
  have h2:a.eval (.const (.pointer none))=.pointer none:=rfl
  have hrun:(execOp a.eval o).run P w=.ok (.value (.bool p.isNone)) w:=by
   simp [execOp,hop,hxv,h2,eqGuard,h1]
  rw [hrun]
  exact ZT hf (.pv _ _ (.base _ rfl))
 cases hxr with
 | box i off b' hi hb=>simp only [zio,Option.some.injEq] at hn;exact key _ rfl (by simpa using hn)
 | pv p v hp =>
  cases hp with
  | ptr=>simp only [zio,Option.some.injEq] at hn;exact key _ rfl (by simpa using hn)
  | base v hb =>
   cases xv <;> simp only [zio] at hn <;> try cases hn
   rename_i p
   cases p with
   | none=>simp only [Option.some.injEq] at hn;exact key _ rfl (by simpa using hn)
   | some ad=>cases hn
  | _=>simp [zio] at hn
 | _=>simp [zio] at hn
def zt7 (ρ:Nat→Value) (H:HEnv):AV→Option PV
 | .pv p=>some p
 | .own i=>match H.get i with
  | some (.mrow _ sz es)=>some (.slc sz es false)
  | some (.obj _)=>some (.base (ρ i))
  | _=>none
 | _=>none
def cut (sz:Nat) (u:Value) (l h:Nat):Value:=match u with
 | .slice (some a) _ c=>.slice (some ⟨a.block,l * sz,none⟩) (h - l) (c - l)
 | v=>v
theorem zth (sz:Nat) (u:Value) (l h:Nat) (hu:∃ a n c,u=.slice (some a) n c):Xa (cut sz u l h)=true:=by
 obtain ⟨a,n,c,rfl⟩:=hu;rfl
theorem zeq (htb:qc P tb) {t e d:Nat} {x:Operand} {lo hi:Option Operand} (i j:Nat) {sz:Nat} {es:List PV} {l h:Int} (hg:guardE ops env o=some true) (hop:o.op=.slice t x lo hi none) (hk:tb.k t=.sl e) (hke:tb.known e=true) (hsz:tb.size e=sz)
  (hx:env.val x=some (.own i)) (hi':H.get i=some (.mrow e sz es)) (hlo:Qy env H 0 lo=some l) (hhi:Qy env H es.length hi=some h) (h0:0≤l) (h1:l≤h) (h2:h≤es.length) (h3:l < es.length) (hj:H.get j=none) (hd:o.dst=some d) (ht:Nat.blt d n=true)
  (k:∀ u,AO P n g ops.toArray rest ((d,.pv (.base (cut sz u l.toNat h.toNat)))::env) ((j,.pin (.own i) u)::H) Q):AO P n g ops.toArray (o::rest) env H Q:=by
 refine ⟨fun a w hinv=>?_⟩
 have hw:=qh hinv hg
 obtain ⟨g1,g2,K,ρ,hf,he⟩:=hinv
 refine wpList_step fun KK hKK=>?_
 rw [if_pos hw]
 have hxr:=qB he hx
 generalize hxv:a.eval x=xv at hxr
 have el:=zcA (a:=a) hf (x:=lo) (fun y hy av hh=>qB he hh) hlo
 have eh:=zcA (a:=a) hf (x:=hi) (fun y hy av hh=>qB he hh) hhi
 have hko:tb.k e≠.oth:=by intro h;simp [Tab.known,h] at hke
 have hs:=run_sizeOf htb hko w
 have hh0:0≤h:=by omega
 have hlh:l≤((h.toNat:Nat):Int):=by omega
 have bounds:∀ cap:Nat,es.length≤cap→(Instr.sliceBounds true es.length cap (lo.map a.eval) (hi.map a.eval) none).run P w=.ok (l.toNat,h.toNat,cap) w:=by
  intro cap hcap
  have hhc:h≤(cap:Int):=by omega
  rcases el with ⟨rfl,rfl⟩|⟨y,k,rfl,hy⟩ <;> rcases eh with ⟨rfl,rfl⟩|⟨z,k',rfl,hz⟩
  ·simp [Instr.sliceBounds]
  ·simp [hz,Instr.sliceBounds,Instr.sliceBound,asIntOf,hhc,hh0]
  ·simp [hy,Instr.sliceBounds,Instr.sliceBound,asIntOf,h0,h1]
  ·simp [hy,hz,Instr.sliceBounds,Instr.sliceBound,asIntOf,h0,hlh,hhc,hh0]
   intro hc;omega
 obtain ⟨xs,hown,hz0,hcr,hnK⟩:=hf.heap.ok i _ hi'
 cases hxr with
 | own _ hi0 =>
  rcases hown.2 with ⟨hr,hz⟩|⟨b,cap,cur,hr,hB,hheap,hle,hcap,hsize,htake⟩
  ·omega
  ·have hb:=bounds cap hle
   have hrun:(execOp a.eval o).run P w=.ok (.value (cut sz (ρ i) l.toNat h.toNat)) w:=by
    rw [hr]
    have hne:¬ cap=l.toNat:=by omega
    simp [execOp,hop,hxv,hr,Instr.sliceAt,Instr.slice,run_underlying (qQ htb hk),hb,hs,hsz,Addr.add_lit,cut,hne]
   unfold Oper.wp
   rw [hrun]
   simp only [Oper.upon]
   have hkk:∀ m,(H.get m).isSome=true→(HEnv.get ((j,.pin (.own i) (ρ i))::H) m).isSome=true∧(fun m=>if m=j then undef else ρ m) m=ρ m:=by
    intro m hm
    have hmj:m≠j:=by rintro rfl;rw [hj] at hm;cases hm
    refine ⟨?_,by simp [hmj]⟩
    rw [HEnv.get_cons];split <;> first|rfl|exact hm
   have hij:i≠j:=by rintro rfl;rw [hj] at hi';cases hi'
   refine hKK _ _ ((k (ρ i)).go _ _ ⟨qU g1,put_defers g2,K,ρ,⟨hf.below,hf.old,hf.new,hf.lt,hf.others,hf.pt,?_,?_,?_⟩,?_⟩)
   ·intro m hh bb hm hl hbb
    rw [HEnv.get_cons] at hm
    split at hm
    ·simp only [Option.some.injEq] at hm;subst hm;simp [HE.live] at hl
    ·exact hf.away m hh bb hm hl hbb
   ·intro m hh hm
    have hkk':∀ m,(H.get m).isSome=true→(HEnv.get ((j,.pin (.own i) (ρ i))::H) m).isSome=true∧ρ m=ρ m:=fun m hm=>⟨(hkk m hm).1,rfl⟩
    rw [HEnv.get_cons] at hm
    split at hm
    ·simp only [Option.some.injEq] at hm;subst hm
     have hold:ARel K w ρ H (.own i) (ρ i):=.own i (by rw [hi'];rfl)
     exact hold.keeps (.refl K w) hkk'
    ·exact (hf.heap.ok m hh hm).keeps (.refl hf.lt) hf.lt hkk'
   ·intro m m' hh hh' bb hmm hm hm' hl hl' hb1 hb2
    have hq:∀ m hh,HEnv.get ((j,.pin (.own i) (ρ i))::H) m=some hh→hh.live=true→H.get m=some hh:=by
     intro m hh hm hl
     rw [HEnv.get_cons] at hm
     split at hm
     ·simp only [Option.some.injEq] at hm;subst hm;simp [HE.live] at hl
     ·exact hm
    exact hf.heap.apart m m' hh hh' bb hmm (hq m hh hm hl) (hq m' hh' hm' hl') hl hl' hb1 hb2
   ·rw [hd]
    refine ZB g1 ht (he.keeps (.refl K w) (fun m hm=>⟨(hkk m hm).1,rfl⟩)) (.pv _ _ (.base _ (zth _ _ _ _ ⟨_,_,_,hr⟩)))
end
section
variable {P:Program} {tb:Tab} {n:Nat} {g:Base} {H:HEnv} {env:Env} {ops:List Oper} {o:Oper} {rest:List Oper} {Q:Env→HEnv→Prop} {QQ:QC} {c:Code} {K:KK} {w:World} {ρ:Nat→Value} {a:Act}
theorem znY {x:Operand} {i off:Nat} (hop:o.op=.nilCheck x) (hx:env.val x=some (.ad i off)):QStep P g H o env (.ad i off):=by
 refine ⟨fun K ρ a w hf hv=>?_⟩
 have hxr:=hv x (by rw [hop];simp [Op.operands]) _ hx
 generalize hxv:a.eval x=xv at hxr
 cases hxr with
 | ad _ _ b m c hi hb =>
  have hrun:(execOp a.eval o).run P w=.ok (.value (.pointer (some ⟨b,off,none⟩))) w:=by simp [execOp,hop,hxv]
  rw [hrun]
  exact ZT hf (.ad i off b m c hi hb)
theorem zns (htb:qc P tb) {t f:Nat} {x:Operand} {i off o' ft s:Nat} {fs:List (Nat × Nat × Nat)} (hop:o.op=.fieldAddr t x f) (hx:env.val x=some (.ad i off)) (hk:∃ q,tb.k t=.agg fs q) (hfe:fs[f]?=some (o',ft,s)) (hs:zd0 tb ft s=true):QStep P g H o env (.ad i (off + o')):=by
 refine ⟨fun K ρ a w hf hv=>?_⟩
 obtain ⟨q,hk⟩:=hk
 simp only [zd0,Bool.and_eq_true,bne_iff_ne,beq_iff_eq] at hs
 obtain ⟨F,hF,hfs',_⟩:=zbj htb hk
 have hf':∃ fl:Field,F[f]?=some fl∧fl.offset=o'∧fl.type=ft:=by
  rw [←hfs',List.getElem?_map,Array.getElem?_toList] at hfe
  cases hfl:F[f]? with
  | none=>simp [hfl] at hfe
  | some fl=>simp [hfl] at hfe;exact ⟨fl,rfl,hfe.1,hfe.2.1⟩
 obtain ⟨fl,hfl,rfl,rfl⟩:=hf'
 have hko:tb.k fl.type≠.oth:=by intro e;simp [Tab.known,e] at hs
 have hsz:=run_sizeOf htb hko w
 have hne:tb.size fl.type≠0:=by omega
 have hxr:=hv x (by rw [hop];simp [Op.operands]) _ hx
 generalize hxv:a.eval x=xv at hxr
 cases hxr with
 | ad _ _ b m c hi hb =>
  have hrun:(execOp a.eval o).run P w=.ok (.value (.pointer (some ⟨b,off + fl.offset,none⟩))) w:=by
   simp [execOp,hop,Instr.fieldAt,run_underlying hF,hfl,hxv,Instr.sureAddr,fieldPlace,hsz,hne,Addr.add_lit]
  rw [hrun]
  exact ZT hf (.ad i (off + fl.offset) b m c hi hb)
theorem zq6 (htb:qc P tb) {ty e:Nat} {x:Operand} {i sz:Nat} {es:List PV} (hop:o.op=.call { callee:=.builtin .len,args:=#[x],argTypes:=#[ty] }) (hx:env.val x=some (.own i)) (hi:H.get i=some (.mrow e sz es)) (hk:tb.k ty=.sl e):QStep P g H o env (.pv (.base (.int .i64 es.length))):=by
 refine ⟨fun K ρ a w hf hv=>?_⟩
 have hxr:=hv x (by rw [hop];simp [Op.operands,Call.operands]) _ hx
 generalize hxv:a.eval x=xv at hxr
 obtain ⟨us,hown,hsz,hcr,hKK'⟩:=hf.heap.ok i _ hi
 cases hxr with
 | own _ _ =>
  have hrun:(execOp a.eval o).run P w=.ok (.value (.int .i64 es.length)) w:=by
   have hl:∃ ad c,ρ i=.slice ad es.length c:=by
    rcases hown.2 with ⟨h,h2⟩|⟨b,cap,cur,h,_⟩
    ·exact ⟨none,0,by rw [h,h2]⟩
    ·exact ⟨_,_,h⟩
   obtain ⟨ad,c,hl⟩:=hl
   simp [execOp,hop,resolve,invoke,builtin,Builtin.len_,hxv,hl,run_underlying (qQ htb hk),goInt]
  rw [hrun]
  exact ZT hf (.pv _ _ (.base _ rfl))
theorem zro (i j:Nat) (hi:(H.get i).isSome=true) (_:H.get j=none) (k:∀ u,AW P n g c env ((j,.pin (.own i) u)::H) QQ):AW P n g c env H QQ:=by
 refine ⟨fun a w hinv=>?_⟩
 obtain ⟨g1,g2,K,ρ,hf,he⟩:=hinv
 have hkk:∀ m,(H.get m).isSome=true→(HEnv.get ((j,.pin (.own i) (ρ i))::H) m).isSome=true∧ρ m=ρ m:=by
  intro m hm
  refine ⟨?_,rfl⟩
  rw [HEnv.get_cons];split <;> first|rfl|exact hm
 have hlive:∀ m hh,HEnv.get ((j,.pin (.own i) (ρ i))::H) m=some hh→hh.live=true→H.get m=some hh:=by
  intro m hh hm hl
  rw [HEnv.get_cons] at hm
  split at hm
  ·simp only [Option.some.injEq] at hm;subst hm;simp [HE.live] at hl
  ·exact hm
 refine (k (ρ i)).go a w ⟨g1,g2,K,ρ,⟨hf.below,hf.old,hf.new,hf.lt,hf.others,hf.pt,fun m hh bb hm hl hb=>hf.away m hh bb (hlive m hh hm hl) hl hb,fun m hh hm=>?_,fun m m' hh hh' bb hmm hm hm' hl hl'=>hf.heap.apart m m' hh hh' bb hmm (hlive m hh hm hl) (hlive m' hh' hm' hl') hl hl'⟩,he.keeps (.refl K w) hkk⟩
 rw [HEnv.get_cons] at hm
 split at hm
 ·simp only [Option.some.injEq] at hm;subst hm
  have hold:ARel K w ρ H (.own i) (ρ i):=.own i hi
  exact hold.keeps (.refl K w) hkk
 ·exact (hf.heap.ok m hh hm).keeps (.refl hf.lt) hf.lt hkk
theorem ziO (i:Nat) {t sz:Nat} {es es':List PV} (hi:H.get i=some (.mrow t sz es)) (e:es=es') (k:AW P n g c env ((i,.mrow t sz es')::H) QQ):AW P n g c env H QQ:=by
 subst e
 refine ⟨fun a w hinv=>?_⟩
 obtain ⟨g1,g2,K,ρ,hf,he⟩:=hinv
 have heq:∀ m,HEnv.get ((i,.mrow t sz es)::H) m=H.get m:=by
  intro m
  rw [HEnv.get_cons]
  split
  ·rename_i e;subst e;exact hi.symm
  ·rfl
 have hkk:∀ m,(H.get m).isSome=true→(HEnv.get ((i,.mrow t sz es)::H) m).isSome=true∧ρ m=ρ m:=fun m hm=>⟨by rw [heq];exact hm,rfl⟩
 refine k.go a w ⟨g1,g2,K,ρ,⟨hf.below,hf.old,hf.new,hf.lt,hf.others,hf.pt,fun m hh bb hm=>hf.away m hh bb (by rw [←heq];exact hm),fun m hh hm=>?_,fun m m' hh hh' bb hmm hm hm'=>hf.heap.apart m m' hh hh' bb hmm (by rw [←heq];exact hm) (by rw [←heq];exact hm')⟩,he.keeps (.refl K w) hkk⟩
 rw [heq] at hm
 exact (hf.heap.ok m hh hm).keeps (.refl hf.lt) hf.lt hkk
theorem ACallM.tells {f:FuncId} {args args':List AV} {H':HEnv} {r:AV} {lone:Bool} (h:ACallM P f args H r H' lone) (hl:args'.length=args.length) (ht:∀ (k:Nat) (c c':AV),args[k]?=some c→args'[k]?=some c'→c'=c∨∃ p p',c=.pv p∧c'=.pv p'∧PTells p' p):ACallM P f args' H r H' lone :=
 ⟨h.stands,fun g K ρ w vs hw1 hf hv=>h.calls g K ρ w vs hw1 hf ⟨by rw [hv.1,hl],fun k c v hc hvv=>by
  have hlt:k < args'.length:=by rw [hl];exact (List.getElem?_eq_some_iff.1 hc).1
  have hr:=hv.2 k _ v (List.getElem?_eq_getElem hlt) hvv
  rcases ht k c _ hc (List.getElem?_eq_getElem hlt) with e|⟨p,p',rfl,e,hp⟩
  ·rw [e] at hr;exact hr
  ·rw [e] at hr
   cases hr with
   | pv _ _ hr=>exact .pv _ _ (hp _ _ _ hr)⟩⟩
end
end Go.Cg
namespace Go.Cg
theorem sM {Q P:Prop} (k:Q) (h:Q→P:=by
  intro k
  first
  | exact zx rfl (zq6 zf rfl rfl rfl rfl) rfl rfl k
  | exact zx rfl (znY rfl rfl) rfl rfl k
  | exact zx rfl (zns zf rfl rfl ⟨_,rfl⟩ rfl rfl) rfl rfl k
  | exact AD.step _ _ _ _ _ rfl (zq6 zf rfl rfl rfl rfl) rfl rfl k
  | exact AD.step _ _ _ _ _ rfl (znY rfl rfl) rfl rfl k
  | exact AD.step _ _ _ _ _ rfl (zns zf rfl rfl ⟨_,rfl⟩ rfl rfl) rfl rfl k
  | fail):P:=h k
end Go.Cg
namespace Go.Cg
open Go.RowKit
section
variable {P:Program} {tb:Tab} {n:Nat} {g:Base} {H:HEnv} {env:Env} {QQ:QC} {c:Code} {K:KK} {w:World} {ρ:Nat→Value}
theorem ze1 (hf:FS g K ρ H w) {i t sz:Nat} {es:List PV} (hi:H.get i=some (.row t sz es)) {v:Value} (h:ARel K w ρ H (.own i) v):PRel K w (.slc sz es false) v :=
 zbk hf h (by simp [AV.cellPV,hi])
theorem zhx (b i k:Nat) {t sz:Nat} {es:List PV} {cs:List AV} (hb:H.get b=some (.cell (.agg cs))) (hk:cs[k]?=some (.own i)) (hi:H.get i=some (.row t sz es)) (kk:AW P n g c env ((b,.cell (.agg (cs.set k (.pv (.slc sz es false)))))::H) QQ):AW P n g c env H QQ:=by
 refine ⟨fun a w hinv=>?_⟩
 obtain ⟨g1,g2,K,ρ,hf,he⟩:=hinv
 have hkk:∀ m,(H.get m).isSome=true→(HEnv.get ((b,.cell (.agg (cs.set k (.pv (.slc sz es false)))))::H) m).isSome=true∧ρ m=ρ m:=by
  intro m hm
  refine ⟨?_,rfl⟩
  rw [HEnv.get_cons];split <;> first|rfl|exact hm
 have hlv:∀ m x,HEnv.get ((b,.cell (.agg (cs.set k (.pv (.slc sz es false)))))::H) m=some x→x.live=true→∃ h0,H.get m=some h0∧h0.live=true:=by
  intro m x hm hl
  rw [HEnv.get_cons] at hm
  split at hm
  ·rename_i e;subst e;exact ⟨_,hb,rfl⟩
  ·exact ⟨x,hm,hl⟩
 refine kk.go a w ⟨g1,g2,K,ρ,⟨hf.below,hf.old,hf.new,hf.lt,hf.others,hf.pt,fun m x b2 hm hl hb2=>?_,fun m x hm=>?_,fun m m' x x' b2 hmm hm hm' hl hl'=>?_⟩,he.keeps (.refl K w) hkk⟩
 ·obtain ⟨h0,a1,a2⟩:=hlv m x hm hl
  exact hf.away m h0 b2 a1 a2 hb2
 ·rw [HEnv.get_cons] at hm
  split at hm
  ·rename_i e;subst e
   simp only [Option.some.injEq] at hm;subst hm
   obtain ⟨b',t',arr,x',q1,q2,q3,q4,q5,q6⟩:=hf.heap.ok b _ hb
   refine ⟨b',t',arr,x',q1,q2,q3,?_,q5,q6⟩
   cases q4 with
   | agg _ vs a1 a2 a3 =>
    refine .agg _ vs (by simpa using a1) a2 fun m c v hc hv=>?_
    rw [List.getElem?_set] at hc
    split at hc
    ·rename_i e1;subst e1
     split at hc
     ·simp only [Option.some.injEq] at hc;subst hc
      exact .pv _ _ (ze1 hf hi (a3 k _ v hk hv))
     ·cases hc
    ·exact (a3 m c v hc hv).keeps (.refl K w) hkk
  ·exact (hf.heap.ok m x hm).keeps (.refl hf.lt) hf.lt hkk
 ·obtain ⟨h0,a1,a2⟩:=hlv m x hm hl
  obtain ⟨h0',c1,c2⟩:=hlv m' x' hm' hl'
  exact hf.heap.apart m m' h0 h0' b2 hmm a1 c1 a2 c2
end
end Go.Cg
namespace Go.Cg
section
variable {P:Program} {n:Nat} {g:Base} {H:HEnv} {env:Env} {QQ:QC} {c:Code} {Q:Env→HEnv→Prop} {ops:List Oper}
end
end Go.Cg
namespace Go.Cg
open Go.RowKit
section
variable {P:Program} {tb:Tab} {n:Nat} {g:Base} {K:KK} {w:World} {ρ:Nat→Value} {H:HEnv} {env:Env} {a:Act} {ops:List Oper} {o:Oper} {rest:List Oper} {Q:Env→HEnv→Prop} {QQ:QC} {c:Code}
theorem zhQ {sz:Nat} (hz:0 < sz) {es ps:List PV} {xs vs:List Value} {off:Nat} (h:CellsRel K w sz es xs) (hp:CellsRel K w sz ps vs) (hx:xs.length=es.length * sz) (hv:vs.length=ps.length * sz) (ho:off + ps.length≤es.length) :
  CellsRel K w sz (es.take off++ps++es.drop (off + ps.length)) (xs.take (off * sz)++vs++xs.drop (off * sz + vs.length)):=by
 have hmul:off * sz + vs.length=(off + ps.length) * sz:=by rw [hv,Nat.add_mul]
 have hle:(off + ps.length) * sz≤xs.length:=by rw [hx];exact Nat.mul_le_mul_right sz ho
 intro i e he
 rw [YP ho] at he
 split at he
 ·rename_i h1
  obtain ⟨c1,c2⟩:=h i e he
  refine ⟨c1,fun k c hc=>?_⟩
  have hk:k < sz:=by have:=(List.getElem?_eq_some_iff.1 hc).1;omega
  obtain ⟨v,v1,v2,v3⟩:=c2 k c hc
  have hlt:i * sz + k < off * sz:=by
   have:=Nat.mul_le_mul_right sz (show i + 1≤off by omega)
   rw [Nat.add_mul] at this;omega
  exact ⟨v,by rw [YP (by omega),if_pos hlt];exact v1,v2,v3⟩
 ·split at he
  ·rename_i h1 h2
   obtain ⟨c1,c2⟩:=hp (i - off) e he
   refine ⟨c1,fun k c hc=>?_⟩
   have hk:k < sz:=by have:=(List.getElem?_eq_some_iff.1 hc).1;omega
   obtain ⟨v,v1,v2,v3⟩:=c2 k c hc
   have e1:(i - off) * sz + off * sz=i * sz:=by rw [←Nat.add_mul];congr 1;omega
   have hlt:i * sz + k < off * sz + vs.length:=by
    have:=Nat.mul_le_mul_right sz (show i + 1≤off + ps.length by omega)
    rw [Nat.add_mul] at this;omega
   exact ⟨v,by rw [YP (by omega),if_neg (by omega),if_pos hlt,show i * sz + k - off * sz=(i - off) * sz + k by omega];exact v1,v2,v3⟩
  ·rename_i h1 h2
   obtain ⟨c1,c2⟩:=h i e he
   refine ⟨c1,fun k c hc=>?_⟩
   obtain ⟨v,v1,v2,v3⟩:=c2 k c hc
   have hge:off * sz + vs.length≤i * sz:=by rw [hmul];exact Nat.mul_le_mul_right sz (by omega)
   exact ⟨v,by rw [YP (by omega),if_neg (by omega),if_neg (by omega)];exact v1,v2,v3⟩
theorem FS.spliceZ (hf:FS g K ρ H w) {i e b cap off sz:Nat} {es ps:List PV} {cur:Array Value} {vs:List Value} (hi:H.get i=some (.mrow e sz es)) (hρ:ρ i=.slice (some ⟨b,0,none⟩) es.length cap) (hheap:w.heap[b]?=some (.cells cur e (0,0)))
  (hp:CellsRel K w sz ps vs) (hv:vs.length=ps.length * sz) (ho:off + ps.length≤es.length) {arr:Array Value} (harr:arr=(cur.toList.take (off * sz)++vs++cur.toList.drop (off * sz + vs.length)).toArray) :
  FS g K ρ ((i,.mrow e sz (es.take off++ps++es.drop (off + ps.length)))::H) (w.setRow b arr)∧Later K K w (w.setRow b arr):=by
 obtain ⟨xs,hown,h0,hcr,hnK⟩:=hf.heap.ok i _ hi
 rcases hown.2 with ⟨hr,_⟩|⟨b',cap',cur',hr,hB,hheap',hec,hcap,hsize,htake⟩
 ·rw [hρ] at hr;simp at hr
 ·rw [hρ] at hr
  simp only [Value.slice.injEq,Option.some.injEq,Addr.mk.injEq,and_true,true_and] at hr
  obtain ⟨rfl,rfl⟩:=hr
  rw [hheap] at hheap'
  simp only [Option.some.injEq,Obj.cells.injEq,and_true] at hheap'
  subst hheap'
  have hlen:(es.take off++ps++es.drop (off + ps.length)).length=es.length:=by rw [List.length_append,List.length_append,List.length_take,List.length_drop];omega
  have hgrow:w.grownBy (w.setRow b arr) (some b):=⟨rfl,rfl,rfl,by simp,fun k _ hk=>setRow_other w b k _ (fun e=>hk (by simp [e]))⟩
  have hnKb:∀ o,¬ K b o:=hnK b (by rw [hρ];rfl)
  have hlat:Later K K w (w.setRow b arr):=⟨fun _ _ h=>h,fun b' o hk=>by
   have:b'≠b:=by rintro rfl;exact hnKb o hk
   exact cell_setRow_other w b _ ⟨b',o,none⟩ this⟩
  have hxl:xs.length=es.length * sz:=hown.1
  have hmul:off * sz + vs.length=(off + ps.length) * sz:=by rw [hv,Nat.add_mul]
  have hle:off * sz + vs.length≤es.length * sz:=by rw [hmul];exact Nat.mul_le_mul_right sz ho
  have hec':es.length * sz≤cur.size:=by rw [hsize];exact Nat.mul_le_mul_right sz hec
  have hkeep:∀ j,(H.get j).isSome=true→(HEnv.get ((i,.mrow e sz (es.take off++ps++es.drop (off + ps.length)))::H) j).isSome=true∧ρ j=ρ j:=by
   intro j hj
   refine ⟨?_,rfl⟩
   rw [HEnv.get_cons]
   split
   ·rfl
   ·exact hj
  refine ⟨⟨hf.below.grown hgrow hf.below.size (fun k hk=>by simp at hk;omega),hf.old,hf.new,fun b o hk=>by have:=hf.lt b o hk;simpa using this,hf.others.trans (za9 hheap hgrow),hf.pt.grown hf.old hgrow hlat (fun b2 hb2=>by cases hb2;exact hf.away i _ b hi rfl (by rw [hρ];rfl)) (fun _ _ h=>.inl h),hf.away.set hi rfl,?_,?_⟩,hlat⟩
  ·intro j' e' hj
   rw [HEnv.get_cons] at hj
   split at hj
   ·rename_i e1;subst e1
    simp only [Option.some.injEq] at hj;subst hj
    refine ⟨xs.take (off * sz)++vs++xs.drop (off * sz + vs.length),⟨?_,.inr ⟨b,cap,arr,by rw [hρ,hlen],hB,setRow_heap w b cur _ e _ hheap,by rw [hlen];exact hec,hcap,?_,?_⟩⟩,h0,?_,fun b' hb'=>hnK b' hb'⟩
    ·rw [hlen,List.length_append,List.length_append,List.length_take,List.length_drop];omega
    ·rw [←hsize,harr,List.size_toArray,List.length_append,List.length_append,List.length_take,List.length_drop,Array.length_toList];omega
    ·rw [hlen,harr,←htake]
     have h9:cur.toList.length=cur.size:=by simp
     exact zfp (by omega) (by omega)
    ·have:=zhQ (off:=off) h0 hcr hp hxl hv ho
     intro i1 e1 he1
     obtain ⟨c1,c2⟩:=this i1 e1 he1
     exact ⟨c1,fun k c hc=>let ⟨v,v1,v2,v3⟩:=c2 k c hc;⟨v,v1,v2,v3.later hlat⟩⟩
   ·rename_i hne
    by_cases hlive:e'.live=true
    ·have:=(hf.heap.ok j' e' hj).grown (f:=id) hgrow hlat (fun b o h=>.inl h) (fun av v h=>h.keeps hlat hkeep) hlive (fun b' hb' e'=>by
      simp at e';subst e'
      exact hf.heap.apart i j' _ _ b hne hi hj rfl hlive (by rw [hρ];rfl) hb')
     cases e' <;> exact this
    ·cases e' <;> simp [HE.live] at hlive
     ·trivial
     ·exact ARel.keeps hlat hkeep (hf.heap.ok j' _ hj)
  ·intro j' k' e1 e2 bb hjk hj hk' hlj hlk hbj hbk
   have f1:∀ (j:Nat) (hh:HE),HEnv.get ((i,.mrow e sz (es.take off++ps++es.drop (off + ps.length)))::H) j=some hh→hh.live=true→∃ h0,H.get j=some h0∧h0.live=true:=by
    intro j hh hj hl
    rw [HEnv.get_cons] at hj
    split at hj
    ·rename_i e';subst e';exact ⟨_,hi,rfl⟩
    ·exact ⟨hh,hj,hl⟩
   obtain ⟨a1,a2,a3⟩:=f1 j' e1 hj hlj
   obtain ⟨b1,b2,b3⟩:=f1 k' e2 hk' hlk
   exact hf.heap.apart j' k' a1 b1 bb hjk a2 b2 a3 b3 hbj hbk
theorem zqO (sz:Nat) {b n c l h:Nat}:cut sz (.slice (some ⟨b,0,none⟩) n c) l h=.slice (some ⟨b,l * sz,none⟩) (h - l) (c - l):=rfl
theorem zgX (hf:FS g K ρ H w) {i j e sz:Nat} {u:Value} {es:List PV} (hi:H.get i=some (.mrow e sz es)) (hj:H.get j=some (.pin (.own i) u)) (h0:0 < es.length):u=ρ i∧∃ b cap,ρ i=.slice (some ⟨b,0,none⟩) es.length cap∧es.length≤cap:=by
 have hu:u=ρ i:=by
  have h9:ARel K w ρ H (.own i) u:=hf.heap.ok j _ hj
  cases h9;rfl
 refine ⟨hu,?_⟩
 obtain ⟨xs,hown,_,_,_⟩:=hf.heap.ok i _ hi
 rcases hown.2 with ⟨_,hz⟩|⟨b,cap,cur,hr,_,_,hle,_,_,_⟩
 ·omega
 ·exact ⟨b,cap,hr,hle⟩
theorem Qg (htb:qc P tb) {t e:Nat} {x y:Operand} {i j l h sz:Nat} {u:Value} {es:List PV} {kk:IntKind} {m:Int} (k:Nat) (hop:o.op=.indexAddr t x y) (hx:env.val x=some (.pv (.base (cut sz u l h)))) (hj:H.get j=some (.pin (.own i) u)) (hi:H.get i=some (.mrow e sz es))
  (hk:tb.k t=.sl e) (hke:tb.known e=true) (hsz:tb.size e=sz) (hy:env.pv H y=some (.base (.int kk m))) (hm:m=(k:Nat)) (hlt:l + k < h) (hh:h≤es.length):QStep P g H o env (.ad i ((l + k) * sz)):=by
 refine ⟨fun K ρ a w hf hv=>?_⟩
 have hxr:=hv x (by rw [hop];simp [Op.operands]) _ hx
 have hyr:=qw (a:=a) hf (x:=y) (hv y (by rw [hop];simp [Op.operands])) hy
 generalize hxv:a.eval x=xv at hxr
 generalize hyv:a.eval y=yv at hyr
 obtain ⟨rfl,b,cap,hr,hcap⟩:=zgX hf hi hj (by omega)
 subst hm
 cases hyr
 cases hxr with
 | pv _ _ hpr =>
  rw [hr,zqO] at hpr
  cases hpr
  have hko:tb.k e≠.oth:=by intro h;simp [Tab.known,h] at hke
  have hs:=run_sizeOf htb hko w
  have hrun:(execOp a.eval o).run P w=.ok (.value (.pointer (some ⟨b,(l + k) * sz,none⟩))) w:=by
   have e1:l * sz + k * sz=(l + k) * sz:=by rw [Nat.add_mul]
   have hk2:k < h - l:=by omega
   simp [execOp,hop,hxv,hyv,Instr.indexAt,asIntOf,run_underlying (qQ htb hk),hs,hsz,Addr.add_lit,e1,hk2]
  rw [hrun]
  exact ZT hf (.ad i ((l + k) * sz) b es.length cap (by rw [hi];rfl) hr)
theorem zgp (htb:qc P tb) {ty e:Nat} {x:Operand} {i j l h sz:Nat} {u:Value} {es:List PV} (hop:o.op=.call { callee:=.builtin .len,args:=#[x],argTypes:=#[ty] }) (hx:env.val x=some (.pv (.base (cut sz u l h)))) (hj:H.get j=some (.pin (.own i) u)) (hi:H.get i=some (.mrow e sz es)) (hk:tb.k ty=.sl e) (h0:0 < es.length):QStep P g H o env (.pv (.base (.int .i64 ((h - l:Nat):Int)))):=by
 refine ⟨fun K ρ a w hf hv=>?_⟩
 have hxr:=hv x (by rw [hop];simp [Op.operands,Call.operands]) _ hx
 generalize hxv:a.eval x=xv at hxr
 obtain ⟨rfl,b,cap,hr,hcap⟩:=zgX hf hi hj h0
 cases hxr with
 | pv _ _ hpr =>
  rw [hr,zqO] at hpr
  cases hpr
  have hrun:(execOp a.eval o).run P w=.ok (.value (.int .i64 ((h - l:Nat):Int))) w:=by
   simp [execOp,hop,hxv,resolve,invoke,builtin,Builtin.len_,run_underlying (qQ htb hk),goInt]
  rw [hrun]
  exact ZT hf (.pv _ _ (.base _ rfl))
theorem zqn {sz:Nat} {es:List PV} {full:Bool} {b o cap h:Nat} (hh:h≤es.length) (hp:PRel K w (.slc sz es full) (.slice (some ⟨b,o,none⟩) es.length cap)):PRel K w (.slc sz (es.take h) false) (.slice (some ⟨b,o,none⟩) h cap):=by
 have hl:(es.take h).length=h:=by rw [List.length_take];omega
 generalize hes:es=es' at hp
 generalize hn:es'.length=m at hp
 have sub:∀ {i:Nat} {e:PV},(es.take h)[i]?=some e→es[i]?=some e:=fun {i e} hi=>by
  rw [List.getElem?_take] at hi
  split at hi
  ·exact hi
  ·cases hi
 cases hp with
 | emp =>
  have:es=[]:=hes
  subst this
  simp at hl;subst hl
  exact .emp sz false _
 | slc _ _ _ _ _ _ vss h0 h1 h2 h3 h4 h5 h6 =>
  subst hes
  have:=PRel.slc (K:=K) (w:=w) sz (es.take h) false b o cap vss h0 (by omega) (by simp) (by omega) h4 (fun i e hi=>h5 i e (sub hi)) (fun i e k c v hi=>h6 i e k c v (sub hi))
  rwa [hl] at this
theorem zn0 {t i j e sz h:Nat} {u:Value} {es:List PV} {a:Act} {w:World} (ht:env.get t=some (.pv (.base (cut sz u 0 h)))) (hi:H.get i=some (.row e sz es)) (hj:H.get j=some (.pin (.own i) u)) (hh:h≤es.length) (h0:0 < es.length) (hinv:Inv n g env H a w):Inv n g ((t,.pv (.slc sz (es.take h) false))::env) H a w:=by
 obtain ⟨g1,g2,K,ρ,hf,he⟩:=hinv
 refine ⟨g1,g2,K,ρ,hf,fun t' av hg=>?_⟩
 rw [Env.get_cons] at hg
 split at hg
 ·rename_i e1;subst e1
  simp only [Option.some.injEq] at hg;subst hg
  obtain ⟨v,h1,h2⟩:=he _ _ ht
  refine ⟨v,h1,.pv _ _ ?_⟩
  have hu:u=ρ i:=by
   have h9:ARel K w ρ H (.own i) u:=hf.heap.ok j _ hj
   cases h9;rfl
  have hrow:=ze1 hf hi (.own i (by rw [hi];rfl))
  obtain ⟨xs,hown,_,_,_⟩:=hf.heap.ok i _ hi
  cases h2 with
  | pv _ _ hp =>
   rcases hown.2 with ⟨_,hz⟩|⟨b,cap,cur,hr,_,_,hle,_,_,_⟩
   ·omega
   ·rw [hu,hr] at hp
    rw [hr] at hrow
    cases hp
    have:=zqn hh hrow
    simpa [cut] using this
 ·exact he t' av hg
theorem zm1 (htb:qc P tb) {t e sz:Nat} {x:Operand} {i j l h:Nat} {u:Value} {es:List PV} {z:PV} {zv:Value} (hg:guardE ops env o=some true) (hop:o.op=.call { callee:=.builtin .clear,args:=#[x],argTypes:=#[t] }) (hk:tb.k t=.sl e)
  (hx:env.val x=some (.pv (.base (cut sz u l h)))) (hj:H.get j=some (.pin (.own i) u)) (hi:H.get i=some (.mrow e sz es)) (hlh:l≤h) (hh:h≤es.length) (h0:0 < es.length)
  (hz:tb.zero e=some zv) (hzz:zek zv=some z) (hzc:zv.cells.size=sz) (hd:o.dst=none)
  (k:AO P n g ops.toArray rest env ((i,.mrow e sz (es.take l++List.replicate (h - l) z++es.drop (l + (h - l))))::H) Q):AO P n g ops.toArray (o::rest) env H Q:=by
 refine ⟨fun a w hinv=>?_⟩
 have hw:=qh hinv hg
 obtain ⟨g1,g2,K,ρ,hf,he⟩:=hinv
 refine wpList_step fun KK hKK=>?_
 rw [if_pos hw]
 have hxr:=qB he hx
 generalize hxv:a.eval x=xv at hxr
 have hu:u=ρ i:=by
  have h9:ARel K w ρ H (.own i) u:=hf.heap.ok j _ hj
  generalize hru:ρ i=ri
  cases h9 with
  | own _ _=>exact hru
 subst hu
 obtain ⟨xs,hown,hs0,hcr,hnK⟩:=hf.heap.ok i _ hi
 have hzi:(zeroValue e).run P w=.ok zv w:=by
  have hz':=hz
  unfold Tab.zero at hz'
  split at hz'
  ·rename_i ti hti
   obtain ⟨tin,e1,_,_,e4,_⟩:=Zv htb hti
   simp [zeroValue,typeInfo,e1,e4,hz']
  ·cases hz'
 obtain ⟨hzr,hznt⟩:=zhl (K:=K) (w:=w) hzz
 have hzcr:=YG hzr
 have hzo:=cells_one hzr hznt
 have hzl:z.cells.length=sz:=by rw [←hzcr.1,←hzc];simp
 have hlen:(Builtin.zeroCells zv.cells (h - l)).toList.length=(h - l) * sz:=by simp [Builtin.zeroCells,hzc]
 have hget:∀ m,m < (h - l) * sz→(Builtin.zeroCells zv.cells (h - l)).toList[m]?=zv.cells[m % sz]?:=by
  intro m hm
  have hm2:m % sz < zv.cells.size:=by rw [hzc];exact Nat.mod_lt _ hs0
  simp only [Builtin.zeroCells,Array.toList_map,List.getElem?_map,hzc]
  rw [Array.toList_range,List.getElem?_range hm]
  simp [Array.getElem?_eq_getElem hm2,getElem!_pos zv.cells (m % sz) hm2]
 have hone:∀ v∈(Builtin.zeroCells zv.cells (h - l)).toList,v.oneCell'=true:=by
  intro v hv
  obtain ⟨m,hm⟩:=List.getElem?_of_mem hv
  have hlt:=(List.getElem?_eq_some_iff.1 hm).1
  rw [hlen] at hlt
  rw [hget m hlt] at hm
  exact hzo v (Array.mem_toList_iff.2 (Array.mem_of_getElem? hm))
 have hrep:CellsRel K w sz (List.replicate (h - l) z) (Builtin.zeroCells zv.cells (h - l)).toList:=by
  intro m p hm
  have hml:m < h - l:=by have:=(List.getElem?_eq_some_iff.1 hm).1;simpa using this
  have hpz:p=z:=by rw [List.getElem?_replicate,if_pos hml] at hm;simpa using hm.symm
  subst hpz
  refine ⟨hzl,fun q c hc=>?_⟩
  have hq:q < sz:=by have:=(List.getElem?_eq_some_iff.1 hc).1;omega
  have hlt:m * sz + q < (h - l) * sz:=by
   have:=Nat.mul_le_mul_right sz (show m + 1≤h - l by omega)
   rw [Nat.add_mul] at this;omega
  have hq2:q < zv.cells.size:=by omega
  refine ⟨zv.cells[q],?_,hzo _ (Array.mem_toList_iff.2 (Array.getElem_mem hq2)),hzcr.2 q c _ hc (by simp [hq2])⟩
  rw [hget _ hlt,Nat.add_comm,Nat.add_mul_mod_self_right,Nat.mod_eq_of_lt hq]
  simp [hq2]
 cases hxr with
 | pv _ _ hpr =>
  cases hpr
  rcases hown.2 with ⟨hr,hz0⟩|⟨b,cap,cur,hr,hB,hheap,hle,hcap,hsize,htake⟩
  ·omega
  ·obtain ⟨arr,harr⟩:∃ arr,arr=(cur.toList.take (l * sz)++(Builtin.zeroCells zv.cells (h - l)).toList++cur.toList.drop (l * sz + (Builtin.zeroCells zv.cells (h - l)).toList.length)).toArray:=⟨_,rfl⟩
   obtain ⟨hfs2,hlat⟩:=FS.spliceZ hf hi hr hheap hrep (by rw [hlen,List.length_replicate]) (by rw [List.length_replicate];omega) harr
   rw [List.length_replicate] at hfs2
   have hfit:l * sz + (Builtin.zeroCells zv.cells (h - l)).toList.length≤cur.size:=by
    rw [hlen,←Nat.add_mul,hsize];exact Nat.mul_le_mul_right sz (by omega)
   have hst:=run_storeCells_at P b (l * sz) e (Builtin.zeroCells zv.cells (h - l)).toList 0 cur w hheap (by omega) hone
   simp only [Nat.add_zero] at hst
   rw [←harr] at hst
   have hrun:(execOp a.eval o).run P w=.ok (.value (.tuple #[])) (w.setRow b arr):=by
    by_cases hz0:h - l=0
    ·have harr2:arr=cur:=by
      have:(Builtin.zeroCells zv.cells (h - l)).toList=[]:=List.eq_nil_of_length_eq_zero (by rw [hlen,hz0,Nat.zero_mul])
      rw [harr,this];simp
     have hset:w.setRow b cur=w:=setRow_self w b cur e (0,0) hheap
     rw [harr2,hset]
     simp [execOp,hop,hxv,hr,resolve,invoke,builtin,Builtin.clear_,run_underlying (qQ htb hk),cut,hz0]
    ·obtain ⟨m,hm⟩:∃ m,h - l=m + 1:=⟨h - l - 1,by omega⟩
     rw [hm] at hst
     simp [execOp,hop,hxv,hr,resolve,invoke,builtin,Builtin.clear_,run_underlying (qQ htb hk),cut,hm,hzi,hst]
   unfold Oper.wp
   rw [hrun]
   simp only [Oper.upon]
   have hd':a.put o.dst (.tuple #[])=a:=by rw [hd];rfl
   rw [hd']
   refine hKK _ _ (k.go _ _ ⟨g1,g2,K,ρ,hfs2,he.keeps hlat fun m hm=>⟨by rw [HEnv.get_cons];split <;> first|rfl|exact hm,rfl⟩⟩)
end
section
variable {P:Program} {tb:Tab} {n:Nat} {g:Base} {K:KK} {w:World} {ρ:Nat→Value} {H:HEnv} {env:Env} {a:Act} {ops:List Oper} {o:Oper} {rest:List Oper} {Q:Env→HEnv→Prop}
end
end Go.Cg
