/- A part of the walks by abstract values: no statement of its own. -/
import Derived.Test.YtemhfmmhkimhmaaGreatV11
import Derived.Test.YtemhfmmhkimhmaaGreatV8
import Derived.Test.YtemhfmmhkimhmaaGreatV12
set_option linter.unusedVariables false
set_option linter.unusedSimpArgs false
namespace Go.Cg
open Go.RowKit
section
variable {P:Program} {n:Nat} {g:Base} {H:HEnv} {env:Env} {c:Code} {QQ:QC} {K:KK} {w:World} {ρ:Nat->Value}
theorem zbu (b i k:Nat) (e:TypeId) (sz:Nat) {v:AV} {cs:List AV} (hsz:0 < sz) (hb:H.get b=some (.cell v)) (hv:aggOf v=some cs) (hk:cs[k]?=some (.pv (.base (.slice none 0 0)))) (hi:H.get i=none)
  (h:AW P n g c env ((b,.cell (.agg (cs.set k (.own i))))::(i,.mrow e sz [])::H) QQ):AW P n g c env H QQ:=by
 refine ⟨fun a w hinv=>h.go a w ?_⟩;obtain ⟨h1,h2,K,ρ,hf,he⟩:=hinv;have hev:Evo K K w w:=.refl hf.lt;have hne:b≠i:=by rintro rfl;simp [hi] at hb
 have hf2:FS g K (fun j=>if j=i then .slice none 0 0 else ρ j) ((i,.mrow e sz [])::H) w:=hf.fresh hev hi ⟨[],World.ownsRow_nil w _ e sz,hsz,fun i e h=>by simp at h,by simp [Value.ownBlock]⟩ zwy111;have hkk:∀ j,(HEnv.get ((i,HE.mrow e sz [])::H) j).isSome=true->(HEnv.get ((b,.cell (.agg (cs.set k (.own i))))::(i,HE.mrow e sz [])::H) j).isSome=true/\(fun j=>if j=i then Value.slice none 0 0 else ρ j) j=(fun j=>if j=i then Value.slice none 0 0 else ρ j) j:=by
  intro j hj;refine ⟨?_,rfl⟩;simp only [HEnv.get_nil,HEnv.get_cons] at hj ⊢;split
  ·rfl
  ·exact hj
 have hlat:=hev.later hf.lt;refine ⟨h1,h2,K,fun j=>if j=i then .slice none 0 0 else ρ j,⟨hf2.below,hf2.old,hf2.new,hf2.lt,hf2.others,hf2.pt,hf2.away.set (e0:=.cell v) zwy83 rfl,?_,?_⟩,(he.keeps hlat (ZB hi _ _)).keeps hlat hkk⟩
 ·intro j hh hj;simp only [HEnv.get_nil,HEnv.get_cons] at hj;split at hj
  ·rename_i e';subst e';simp only [Option.some.injEq] at hj;subst hj;have hb2:=(hf2.heap.ok b (.cell v) zwy83).keeps hev hf.lt hkk;obtain ⟨b',t',arr,u,hr,hB,hheap,hu,harr,hn⟩:=hb2;refine ⟨b',t',arr,u,hr,hB,hheap,?_,harr,hn⟩;have hu':=hu.aggOf hv;cases hu' with
   | agg _ vs a1 a2 a3 =>
    refine .agg _ vs (by simpa using a1) a2 fun m c x hc hx=>?_
    rw [List.getElem?_set] at hc;split at hc
    ·rename_i e1;subst e1;split at hc
     ·simp only [Option.some.injEq] at hc;subst hc;have:=a3 k _ x hk hx;cases this with
      | pv _ _ hp =>
       cases hp;have:=ARel.own (K:=K) (w:=w) (ρ:=fun j=>if j=i then .slice none 0 0 else ρ j) (H:=(b,.cell (.agg (cs.set k (.own i))))::(i,HE.mrow e sz [])::H) i (by simp [HEnv.get_nil,HEnv.get_cons,hne]);simpa using this
     ·cases hc
    ·exact a3 m c x hc hx
  ·exact (hf2.heap.ok j hh zwy104).keeps hev hf.lt hkk
 ·intro j k' hh hh' bb hjk hj hk' hlj hlk hbj hbk;have e1:∀ (j:Nat) (hh:HE),HEnv.get ((b,.cell (.agg (cs.set k (.own i))))::(i,HE.mrow e sz [])::H) j=some hh->hh.live=true->∃ h0,HEnv.get ((i,HE.mrow e sz [])::H) j=some h0/\h0.live=true:=by
   intro j hh hj hl;rw [HEnv.get_cons] at hj;split at hj
   ·rename_i e';subst e';refine ⟨.cell v,?_,rfl⟩;simp only [HEnv.get_nil,HEnv.get_cons];rw [if_neg (Ne.symm hne)];exact hb
   ·exact ⟨hh,hj,hl⟩
  obtain ⟨a1,a2,a3⟩:=e1 j hh hj hlj;obtain ⟨b1,b2,b3⟩:=e1 k' hh' hk' hlk;exact hf2.heap.apart j k' a1 b1 bb hjk a2 b2 a3 b3 hbj hbk
end
section
variable {P:Program} {tb:Tab} {g:Base} {H:HEnv} {env:Env} {o:Oper} {K:KK} {w:World} {ρ:Nat->Value}
def AL (K:KK) (w:World) (ρ:Nat->Value) (H:HEnv) (cs:List AV) (vs:List Value):Prop:=vs.length=cs.length/\∀ (k:Nat) (c:AV) (v:Value),cs[k]?=some c->vs[k]?=some v->ARel K w ρ H c v
theorem AL.take {cs:List AV} {vs:List Value} (h:AL K w ρ H cs vs) (n:Nat):AL K w ρ H (cs.take n) (vs.take n) :=
 ⟨by simp [h.1],fun k c v hc hv=>by
  rw [List.getElem?_take] at hc hv;split at hc
  ·rename_i hk;rw [if_pos hk] at hv;exact h.2 k c v hc hv
  ·cases hc⟩
theorem AL.drop {cs:List AV} {vs:List Value} (h:AL K w ρ H cs vs) (n:Nat):AL K w ρ H (cs.drop n) (vs.drop n) :=
 ⟨by simp [h.1],fun k c v hc hv=>by
  rw [List.getElem?_drop] at hc hv;exact h.2 _ c v hc hv⟩
theorem AL.append {cs ds:List AV} {vs us:List Value} (h:AL K w ρ H cs vs) (h':AL K w ρ H ds us):AL K w ρ H (cs++ds) (vs++us) :=
 ⟨by simp [h.1,h'.1],fun k c v hc hv=>by
  rw [List.getElem?_append] at hc hv;rw [h.1] at hv;split at hc
  ·rename_i hk;rw [if_pos hk] at hv;exact h.2 k c v hc hv
  ·rename_i hk;rw [if_neg hk] at hv;exact h'.2 _ c v hc hv⟩
def znu (place:Nat->Option (Nat × Nat)):List AV->List (Nat × AV)->Option (List AV)
 | cells,[]=>some cells
 | cells,(i,p)::r =>
  match place i with
  | none=>none
  | some (off,size)=>if p.flat.length=size/\off + size<=cells.length then znu place (cells.take off++p.flat++cells.drop (off + size)) r else none
def zjc (env:Env):List (Nat × Operand)->Option (List (Nat × AV))
 | []=>some []
 | (i,x)::xs=>match env.val x,zjc env xs with|some p,some ps=>some ((i,p)::ps)|_,_=>none
theorem zjV (place:Nat->Option (Nat × Nat)) (hrow:∀ i,isVal H i=true->(ρ i).cells=#[ρ i]/\(ρ i).oneCell'=true):∀ {ps:List (Nat × AV)} {cells cs:List AV} {vcells:Array Value} {vps:List (Nat × Value)},AL K w ρ H cells vcells.toList->ps.map (·.1)=vps.map (·.1) ->
  AL K w ρ H (ps.map (·.2)) (vps.map (·.2))->(ps.all fun x=>x.2.flat.all (zmb H))=true->znu place cells ps=some cs->∃ r,Instr.fill place vcells vps=some r/\AL K w ρ H cs r.toList
 | [],cells,cs,vcells,vps,hc,hi,hp,_,h=>by
  have:vps=[]:=by simpa using hi.symm
  subst this;simp [znu] at h;subst h;exact ⟨vcells,rfl,hc⟩
 | (i,p)::ps,cells,cs,vcells,vps,hc,hi,hp,ho,h=>by
  cases vps with
  | nil=>simp at hi
  | cons x vps =>
   obtain ⟨j,v⟩:=x;simp at hi;obtain ⟨rfl,hi⟩:=hi;simp only [List.map_cons] at hp;have hpv:=hp.2 0 p v rfl rfl;have hps:AL K w ρ H (ps.map (·.2)) (vps.map (·.2)):=⟨by have:=hp.1;simpa using this,fun k c u h1 h2=>hp.2 (k + 1) c u zwy98 (by simpa using h2)⟩
   simp only [List.all_cons,Bool.and_eq_true] at ho;simp only [znu] at h;split at h
   ·cases h
   ·rename_i off size hpl;split at h
    ·rename_i hle;obtain ⟨f1,f2,f3⟩:=zi7 hpv ho.1 hrow;have hcr:AL K w ρ H p.flat v.cells.toList:=⟨by simpa using f1,f3⟩
     have hsz:v.cells.size=size:=by rw [<-hle.1,f1]
     have hcs:vcells.size=cells.length:=by rw [<-hc.1];simp
     have hfold:=foldl_set off v.cells.toList 0 vcells zwy64;obtain ⟨r,hr1,hr2⟩:=zjV place hrow (vcells:=(v.cells.toList.zipIdx 0).foldl (fun cs (c:Value × Nat)=>cs.setIfInBounds (off + c.2) c.1) vcells) (vps:=vps) (cells:=cells.take off++p.flat++cells.drop (off + size)) (cs:=cs)
      zwy86 (by simpa using hi) hps ho.2 h
     refine ⟨r,?_,hr2⟩;rw [<-hr1];simp only [Instr.fill,hpl];rw [<-Array.foldl_toList,Array.toList_zipIdx,if_neg zwy64]
    ·cases h
theorem zji {a:Act}:∀ {xs:List (Nat × Operand)} {ps:List (Nat × AV)},(∀ x∈xs,∀ av,env.val x.2=some av->ARel K w ρ H av (a.eval x.2))->zjc env xs=some ps ->
  ps.map (·.1)=xs.map (·.1)/\AL K w ρ H (ps.map (·.2)) (xs.map fun x=>a.eval x.2)
 | [],ps,_,h=>by simp [zjc] at h;subst h;exact ⟨rfl,rfl,fun k c v h=>by simp at h⟩
 | (i,x)::xs,ps,hv,h=>by
  simp only [zjc] at h;split at h
  ·rename_i p qs e1 e2;simp only [Option.some.injEq] at h;subst h;obtain ⟨r1,r2⟩:=zji (fun y hy=>hv y zwy112) e2;refine ⟨by simp [r1],by simp [r2.1],fun k c v hc hvv=>?_⟩;cases k with
   | zero=>simp at hc hvv;subst hc hvv;exact hv (i,x) zwy63 _ e1
   | succ k=>exact r2.2 k c v (by simpa using hc) (by simpa using hvv)
  ·cases h
theorem zbd (htb:qm P tb) {t:Nat} {parts:Array (Nat × Operand)} {fs:List (Nat × Nat × Nat)} {z:Value} {zs:List PV} {ps:List (Nat × AV)} {cs:List AV} (hop:o.op=.build t parts) (hk:∃ q,tb.k t=.agg fs q) (hz:tb.zero t=some z)
  (hzs:zav z.cells.toList=some zs) (hps:zjc env parts.toList=some ps) (hone:(ps.all fun x=>x.2.flat.all (zmb H))=true) (hall:(fs.all fun f=>tb.known f.2.1&&tb.size f.2.1==f.2.2)=true)
  (hcs:znu (zfV fs) (zs.map .pv) ps=some cs):QStep P g H o env (.agg cs):=by
 refine ⟨fun K ρ a w hfs hv=>?_⟩;obtain ⟨q,hk⟩:=hk;obtain ⟨F,hF,hfs',_⟩:=zcP htb hk;obtain ⟨h1,h2⟩:=zji (K:=K) (w:=w) (ρ:=ρ) (H:=H) (a:=a) (xs:=parts.toList) (fun x hx=>hv x.2 (by rw [hop];simp [Op.operands];exact ⟨x.1,by simpa using hx⟩)) hps;have hz0:AL K w ρ H (zs.map .pv) z.cells.toList:=by
  have:=VO (K:=K) (w:=w) hzs;refine ⟨by rw [List.length_map];exact this.1,fun k c v hc hvv=>?_⟩;rw [List.getElem?_map] at hc;cases hk2:zs[k]? with
  | none=>simp [hk2] at hc
  | some p=>simp [hk2] at hc;subst hc;exact .pv _ _ (this.2 k p v hk2 hvv)
 obtain ⟨rr,hr1,hr2⟩:=zjV (K:=K) (w:=w) (ρ:=ρ) (H:=H) _ (row_one hfs) (vcells:=z.cells) (vps:=parts.toList.map fun x=>(x.1,a.eval x.2)) hz0 (by simpa [List.map_map,Function.comp_def] using h1) (by simpa [List.map_map,Function.comp_def] using h2) hone hcs;have hzi:∃ i,P.info? t=some i/\i.zero=some z:=by
  unfold Tab.zero at hz;split at hz
  ·rename_i ti hti;obtain ⟨i,e1,_,_,e4,_⟩:=Yi htb hti;exact ⟨i,e1,by rw [e4];exact hz⟩
  ·cases hz
 obtain ⟨i,hi,hiz⟩:=hzi;have hplaces:∀ (l:List Field),(∀ f∈l,f∈F.toList)->(l.mapM fun f=>(Prod.mk f.offset <$> sizeOf f.type:Sem (Nat × Nat))).run P w=.ok (l.map fun f=>(f.offset,tb.size f.type)) w:=by
  intro l;induction l with
  | nil=>intro _;simp
  | cons f l ih =>
   intro hl;have hf:f∈F.toList:=hl f zwy63;have hall':=List.all_eq_true.1 hall (f.offset,f.type,P.cellsOf f.type) zwy89;simp only [Bool.and_eq_true] at hall';have hko:tb.k f.type≠.oth:=by intro e;simp [Tab.known,e] at hall'
   have hs:=run_sizeOf htb hko w;have ih':=ih (fun f hf=>hl f (by simp [hf]));simp [List.mapM_cons,hs,ih']
 have hpl:=hplaces F.toList (fun f hf=>hf);have hfun:zfV fs=fun i=>((F.toList.map fun f=>(f.offset,tb.size f.type)).toArray)[i]?:=by
  funext i;rw [<-hfs'];simp only [zfV,List.getElem?_map,List.getElem?_toArray,Array.getElem?_toList];cases hfl:F[i]? with
  | none=>rfl
  | some f =>
   simp only [Option.map_some,Option.some.injEq,Prod.mk.injEq,true_and];have hf:f∈F.toList:=by simpa using Array.mem_of_getElem? hfl
   have hall':=List.all_eq_true.1 hall (f.offset,f.type,P.cellsOf f.type) zwy89;simp only [Bool.and_eq_true,beq_iff_eq] at hall';exact hall'.2.symm
 rw [hfun] at hr1;have:(execOp a.eval o).run P w=.ok (.value (.agg rr)) w:=by
  have hm:(F.mapM fun f=>(do pure (f.offset,<-sizeOf f.type):Sem (Nat × Nat))).run P w=.ok (F.toList.map fun f=>(f.offset,tb.size f.type)).toArray w:=by
   rw [Array.mapM_eq_mapM_toList];simp only [bind_pure_comp,Sem.run_map,hpl,Result.andThen_ok]
  have hp2:(parts.map fun x=>(x.1,a.eval x.2)).toList=parts.toList.map fun x=>(x.1,a.eval x.2):=by simp
  simp only [execOp,hop,Instr.build,Sem.run_bind,zeroValue,typeInfo,run_program,hi,hiz,Result.andThen_ok,Sem.run_pure,run_underlying hF,hm,hp2,hr1]
 rw [this];have hone':∀ v∈rr.toList,v.oneCell'=true:=zhS _ hr1 (zab hzs) (by
  intro x hx v hv';obtain ⟨k,hk⟩:=List.getElem?_of_mem hx;have hk2:(parts.toList.map fun x=>a.eval x.2)[k]?=some x.2:=by
   rw [List.getElem?_map] at hk ⊢;cases hpk:parts.toList[k]? with
   | none=>rw [hpk] at hk;simp at hk
   | some y=>rw [hpk] at hk;simp at hk;subst hk;rfl
  have hlt:k < (ps.map (·.2)).length:=by rw [<-h2.1];exact (List.getElem?_eq_some_iff.1 hk2).1
  have hp:=List.getElem?_eq_getElem hlt;have hall1:=List.all_eq_true.1 hone (ps[k]'zwy80) (List.getElem_mem _);exact (zi7 (h2.2 k _ _ hp hk2) (by simpa using hall1) (row_one hfs)).2.1 v hv')
 exact Yq hfs (by have:=ARel.agg (K:=K) (w:=w) (ρ:=ρ) (H:=H) cs rr.toList hr2.1 hone' hr2.2;simpa using this)
theorem zl (htb:qm P tb) {ty:Nat} {x:Operand} {i off:Nat} {cs:List AV} {ps:List PV} {q:PV} (hop:o.op=.load ty x) (hx:env.val x=some (.box i off)) (hi:H.get i=some (.cell (.agg cs))) (hps:(cs.drop off).take ps.length=ps.map .pv) (hq:zcW tb ty ps 0=some q):QStep P g H o env (.pv q):=by
 refine ⟨fun K ρ a w hf hv=>?_⟩;have hxr:=hv x zwy68 _ hx;generalize hxv:a.eval x=xv at hxr;obtain ⟨b,t,arr,u,hr,hB,hheap,hu,harr,hn⟩:=hf.heap.ok i _ hi;cases hxr with
 | box _ _ b' hi' hρ =>
  rw [hr] at hρ;simp only [Value.pointer.injEq,Option.some.injEq,Addr.mk.injEq,and_true] at hρ;subst hρ;cases hu with
  | agg _ vs a1 a2 a3 =>
   have hcell:∀ (k:Nat) (v:Value),((vs.drop off).take ps.length)[k]?=some v->w.cell? ⟨b,off + k,none⟩=some v:=by
    intro k v hv;rw [List.getElem?_take] at hv;split at hv
    ·rw [List.getElem?_drop] at hv;simp only [World.cell?,hheap];rw [<-harr];simpa [Value.cells] using hv
    ·cases hv
   have hrels:PRels K w ps ((vs.drop off).take ps.length):=by
    have hl:((cs.drop off).take ps.length).length=ps.length:=by rw [hps,List.length_map]
    refine ⟨by rw [List.length_take,List.length_drop] at hl ⊢;rw [a1];exact hl,fun k c v hc hv=>?_⟩;have hck:((cs.drop off).take ps.length)[k]?=some (.pv c):=by rw [hps,List.getElem?_map,hc];rfl
    rw [List.getElem?_take] at hck hv;split at hck
    ·rename_i hk;rw [if_pos hk,List.getElem?_drop] at hv;rw [List.getElem?_drop] at hck;have:=a3 _ _ _ hck hv;cases this with
     | pv _ _ hp=>exact hp
    ·cases hck
   have hone:∀ v∈(vs.drop off).take ps.length,v.oneCell'=true:=fun v hv=>a2 v (List.mem_of_mem_drop (List.mem_of_mem_take hv))
   obtain ⟨v,hv,hvr⟩:=XE htb (b:=b) (o:=off) hcell hrels hone hq;have hrun:(execOp a.eval o).run P w=.ok (.value v) w:=by
    have hv':(loadVar ty ⟨b,off,none⟩).run P w=.ok v w:=hv;simp [execOp,hop,hxv,Instr.loadAt,Instr.sureAddr,hv']
   rw [hrun];exact Yq hf (.pv _ _ hvr)
theorem aj {ty:Nat} {x:Operand} {i off:Nat} {cs:List AV} {ps:List PV} {q:PV} (htb:qm P tb:=by exact zf) (hop:o.op=.load ty x:=by exact rfl) (hx:env.val x=some (.box i off):=by exact rfl) (hi:H.get i=some (.cell (.agg cs)):=by exact rfl) (hps:(cs.drop off).take ps.length=ps.map .pv:=by exact rfl) (hq:zcW tb ty ps 0=some q:=by exact rfl):QStep P g H o env (.pv q):=zl htb hop hx hi hps hq
end
section
variable {P:Program} {tb:Tab} {n:Nat} {g:Base} {H:HEnv} {env:Env} {QQ:QC} {c:Code} {K:KK} {w:World} {ρ:Nat->Value}
theorem zgm (hf:FS g K ρ H w) {i t sz:Nat} {es:List PV} (hi:H.get i=some (.row t sz es)) {v:Value} (h:ARel K w ρ H (.own i) v):PRel K w (.slc sz es false) v :=
 zcO hf h (by simp [AV.cellPV,hi])
theorem zib (b i k:Nat) {t sz:Nat} {es:List PV} {cs:List AV} (hb:H.get b=some (.cell (.agg cs))) (hk:cs[k]?=some (.own i)) (hi:H.get i=some (.row t sz es)) (kk:AW P n g c env ((b,.cell (.agg (cs.set k (.pv (.slc sz es false)))))::H) QQ):AW P n g c env H QQ:=by
 refine ⟨fun a w hinv=>?_⟩;obtain ⟨g1,g2,K,ρ,hf,he⟩:=hinv;have hkk:∀ m,(H.get m).isSome=true->(HEnv.get ((b,.cell (.agg (cs.set k (.pv (.slc sz es false)))))::H) m).isSome=true/\ρ m=ρ m:=by
  intro m hm;refine ⟨?_,rfl⟩;rw [HEnv.get_cons];split <;> first|rfl|exact hm
 have hlv:∀ m x,HEnv.get ((b,.cell (.agg (cs.set k (.pv (.slc sz es false)))))::H) m=some x->x.live=true->∃ h0,H.get m=some h0/\h0.live=true:=by
  intro m x hm hl;rw [HEnv.get_cons] at hm;split at hm
  ·rename_i e;subst e;exact ⟨_,hb,rfl⟩
  ·exact ⟨x,hm,hl⟩
 refine kk.go a w ⟨g1,g2,K,ρ,⟨hf.below,hf.old,hf.new,hf.lt,hf.others,hf.pt,fun m x b2 hm hl hb2=>?_,fun m x hm=>?_,fun m m' x x' b2 hmm hm hm' hl hl'=>?_⟩,he.keeps (.refl K w) hkk⟩
 ·obtain ⟨h0,a1,a2⟩:=hlv m x hm hl;exact hf.away m h0 b2 a1 a2 hb2
 ·rw [HEnv.get_cons] at hm;split at hm
  ·rename_i e;subst e;simp only [Option.some.injEq] at hm;subst hm;obtain ⟨b',t',arr,x',q1,q2,q3,q4,q5,q6⟩:=hf.heap.ok b _ hb;refine ⟨b',t',arr,x',q1,q2,q3,?_,q5,q6⟩;cases q4 with
   | agg _ vs a1 a2 a3 =>
    refine .agg _ vs (by simpa using a1) a2 fun m c v hc hv=>?_
    rw [List.getElem?_set] at hc;split at hc
    ·rename_i e1;subst e1;split at hc
     ·simp only [Option.some.injEq] at hc;subst hc;exact .pv _ _ (zgm hf hi (a3 k _ v hk hv))
     ·cases hc
    ·exact (a3 m c v hc hv).keeps (.refl K w) hkk
  ·exact (hf.heap.ok m x hm).keeps (.refl hf.lt) hf.lt hkk
 ·obtain ⟨h0,a1,a2⟩:=hlv m x hm hl;obtain ⟨h0',c1,c2⟩:=hlv m' x' hm' hl';exact hf.heap.apart m m' h0 h0' b2 hmm a1 c1 a2 c2
end
end Go.Cg
