/- A part of the walks by abstract values: no statement of its own. -/
import Derived.Test.YtoeplllgofpddaaGreatU1
set_option linter.unusedVariables false
set_option linter.unusedSimpArgs false
namespace Go.Cg
open Go.RowKit
section
variable {P:Program} {tb:Tab} {g:Base} {K:KK} {w:World} {ρ:Nat→Value} {H:HEnv} {env:Env} {a:Act}
theorem Yh {r:AV} {v:Value} (hfs:FS g K ρ H w) (h:ARel K w ρ H r v):zdu P K ρ H w r (.ok (.value v) w):=⟨K,.refl hfs.lt,h⟩
theorem zjq {α:Type} {x:Sem α} {f:α→Sem Next} {v:α} (h:x.run P w=.ok v w):(x >>= f).run P w=(f v).run P w:=by simp [h]
theorem zoP {x:Operand} {p:PV} (h:env.pv H x=some p):p.notTup=true:=by
 unfold Env.pv at h
 split at h
 ·exact zcJ h
 ·cases h
theorem zc1 (htb:qp P tb) {o:Oper} {r:AV} (h:opE tb H env o=some r):QStep P g H o env r:=by
 refine ⟨fun K ρ a w hfs hv=>?_⟩
 unfold opE at h
 obtain ⟨dst,op,ty,pos,after,guard⟩:=o
 dsimp only at h hv
 cases op with
 | move x=>exact Yh hfs (hv x (by simp [Op.operands]) r h)
 | assign x=>exact Yh hfs (hv x (by simp [Op.operands]) r h)
 | pick c x y =>
  dsimp only at h
  split at h
  ·rename_i hc
   have:=hv c (by simp [Op.operands]) _ hc
   generalize hcv:a.eval c=vc at this
   cases this with|pv _ _ hp=>cases hp;simp [execOp,hcv,asBool];exact Yh hfs (hv x (by simp [Op.operands]) r h)
  ·rename_i hc
   have:=hv c (by simp [Op.operands]) _ hc
   generalize hcv:a.eval c=vc at this
   cases this with|pv _ _ hp=>cases hp;simp [execOp,hcv,asBool];exact Yh hfs (hv y (by simp [Op.operands]) r h)
  ·cases h
 | box t x =>
  dsimp only at h
  split at h
  ·rename_i p hp
   simp only [Option.some.injEq] at h;subst h
   have hpr:=qo hfs (hv x (by simp [Op.operands])) hp
   have hcr:=QF hpr
   have hrun:(execOp a.eval { dst,op:=.box t x,type:=ty,pos,after,guard }).run P w=.ok (.value (.pointer (some ⟨w.heap.size,0,none⟩))) (w.alloc (.cells (a.eval x).cells t)):=by
    simp [execOp,Instr.box,newVar,newRow]
   rw [hrun]
   have hev:=zbh hfs.lt (a.eval x).cells t (a.eval x).cells.size
   refine ⟨_,hev,.pv _ _ (.ptr p 0 w.heap.size 0 (a.eval x).cells.toList hcr.1 (zhL _ _ _ (Nat.le_refl _) (cells_one hpr (zoP hp))) fun k c v hc hv=>(hcr.2 k c v hc hv).later (hev.later hfs.lt))⟩
  ·cases h
 | load t x =>
  dsimp only at h
  split at h
  ·rename_i p off hx
   split at h
   ·rename_i q hq
    simp only [Option.some.injEq] at h;subst h
    have:=hv x (by simp [Op.operands]) _ hx
    cases this with
    | pv _ _ hp =>
     obtain ⟨u,h1,h2⟩:=zb9 htb hp hq
     simp only [execOp]
     rw [zjq h1]
     exact Yh hfs (.pv _ _ h2)
   ·cases h
  ·rename_i i off hx
   split at h
   ·rename_i c hc
    obtain ⟨u,h1,h2⟩:=zb7 htb hfs (hv x (by simp [Op.operands]) _ hx) hc h
    simp only [execOp]
    rw [zjq h1]
    exact Yh hfs h2
   ·cases h
  ·cases h
 | fieldAddr t x f =>
  dsimp only at h
  split at h
  ·rename_i fs q hk
   split at h
   ·rename_i o' ft s hf
    cases hs:zd3 tb ft s with
    | false=>simp [hs] at h
    | true =>
     simp only [hs] at h
     simp only [zd3,Bool.and_eq_true,bne_iff_ne,beq_iff_eq] at hs
     obtain ⟨F,hF,hfs',_⟩:=zbE htb hk
     have hf':∃ fl:Field,F[f]?=some fl∧fl.offset=o'∧fl.type=ft:=by
      rw [←hfs',List.getElem?_map,Array.getElem?_toList] at hf
      cases hfl:F[f]? with
      | none=>simp [hfl] at hf
      | some fl=>simp [hfl] at hf;exact ⟨fl,rfl,hf.1,hf.2.1⟩
     obtain ⟨fl,hfl,rfl,rfl⟩:=hf'
     have hko:tb.k fl.type≠.oth:=by intro e;simp [Tab.known,e] at hs
     have hsz:=run_sizeOf htb hko w
     have hne:tb.size fl.type≠0:=by omega
     have run:∀ b off,a.eval x=.pointer (some ⟨b,off,none⟩)→(execOp a.eval { dst,op:=.fieldAddr t x f,type:=ty,pos,after,guard }).run P w=.ok (.value (.pointer (some ⟨b,off + fl.offset,none⟩))) w:=by
      intro b off hx
      simp [execOp,Instr.fieldAt,run_underlying hF,hfl,hx,Instr.sureAddr,fieldPlace,hsz,hne,Addr.add_lit]
     split at h
     ·rename_i p off _ hx
      simp only [Option.some.injEq] at h;subst h
      have:=hv x (by simp [Op.operands]) _ hx
      generalize hxv:a.eval x=vx at this
      cases this with
      | pv _ _ hp =>
       cases hp with
       | ptr _ _ b o vs h1 h2 h3 =>
        rw [run _ _ hxv]
        refine Yh hfs (.pv _ _ ?_)
        rw [Nat.add_assoc]
        exact .ptr p (off + fl.offset) b o vs h1 h2 h3
     ·rename_i i off _ hx
      simp only [Option.some.injEq] at h;subst h
      have:=hv x (by simp [Op.operands]) _ hx
      generalize hxv:a.eval x=vx at this
      cases this with
      | box _ _ b hi hb =>
       rw [run _ _ hxv]
       exact Yh hfs (.box _ _ b hi hb)
     ·cases h
   ·cases h
  ·cases h
 | field t x f =>
  dsimp only at h
  split at h
  ·rename_i fs q hk
   split at h
   ·rename_i o' ft s hf
    split at h
    ·rename_i cs hx
     split at h
     ·rename_i p hp
      simp only [Option.some.injEq] at h;subst h
      obtain ⟨F,hF,hfs',_⟩:=zbE htb hk
      have hf':∃ fl:Field,F[f]?=some fl∧fl.offset=o'∧fl.type=ft:=by
       rw [←hfs',List.getElem?_map,Array.getElem?_toList] at hf
       cases hfl:F[f]? with
       | none=>simp [hfl] at hf
       | some fl=>simp [hfl] at hf;exact ⟨fl,rfl,hf.1,hf.2.1⟩
      obtain ⟨fl,hfl,rfl,rfl⟩:=hf'
      have:=qo hfs (hv x (by simp [Op.operands])) hx
      generalize hxv:a.eval x=vx at this
      cases this with
      | agg _ vs h1 ho h2 =>
       obtain ⟨v,h3,h4⟩:=zco htb (P:=P) ⟨h1,h2⟩ ho hp w
       have:(execOp a.eval { dst,op:=.field t x f,type:=ty,pos,after,guard }).run P w=.ok (.value v) w:=by
        simp [execOp,Instr.field,run_underlying hF,hfl,hxv,asAgg,h3]
       rw [this]
       exact Yh hfs (.pv _ _ h4)
     ·cases h
    ·cases h
   ·cases h
  ·cases h
 | binOp op t x y t' =>
  dsimp only at h
  split at h
  ·rename_i p q hp hq
   split at h
   ·rename_i v hb
    simp only [Option.some.injEq] at h;subst h
    obtain ⟨h1,h2⟩:=zqo htb (qo hfs (hv x (by simp [Op.operands])) hp) (qo hfs (hv y (by simp [Op.operands])) hq) hb x y w
    simp only [execOp]
    rw [zjq h1]
    exact Yh hfs (.pv _ _ (.base v h2))
   ·cases h
  ·cases h
 | unOp op t x =>
  dsimp only at h
  split at h
  ·rename_i b hx
   simp only [Option.some.injEq] at h;subst h
   have:=hv x (by simp [Op.operands]) _ hx
   generalize hxv:a.eval x=vx at this
   cases this with
   | pv _ _ hp =>
    cases hp
    have:(execOp a.eval { dst,op:=.unOp .not t x,type:=ty,pos,after,guard }).run P w=.ok (.value (.bool (!b))) w:=by simp [execOp,hxv,Op.unary]
    rw [this]
    exact Yh hfs (.pv _ _ (.base _ rfl))
  ·rename_i k n hx
   simp only [Option.some.injEq] at h;subst h
   have:=hv x (by simp [Op.operands]) _ hx
   generalize hxv:a.eval x=vx at this
   cases this with
   | pv _ _ hp =>
    cases hp
    have:(execOp a.eval { dst,op:=.unOp .neg t x,type:=ty,pos,after,guard }).run P w=.ok (.value (.int k (k.wrap (0 - n)))) w:=by simp [execOp,hxv,Op.unary,Op.intArith]
    rw [this]
    exact Yh hfs (.pv _ _ (.base _ rfl))
  ·cases h
 | convert s d x =>
  dsimp only at h
  split at h
  ·rename_i ks k' k n hs hd hx
   simp only [Option.some.injEq] at h;subst h
   have:=hv x (by simp [Op.operands]) _ hx
   generalize hxv:a.eval x=vx at this
   cases this with
   | pv _ _ hp =>
    cases hp
    have:(execOp a.eval { dst,op:=.convert s d x,type:=ty,pos,after,guard }).run P w=.ok (.value (.int k' (k'.wrap n))) w:=by
     simp [execOp,hxv,convert,run_underlying (VE htb hd),run_underlying (VE htb hs),Conv.intToInt]
    rw [this]
    exact Yh hfs (.pv _ _ (.base _ rfl))
  ·cases h
 | extract x i =>
  dsimp only at h
  split at h
  ·rename_i vs hx
   split at h
   ·rename_i p hp
    simp only [Option.some.injEq] at h;subst h
    have:=hv x (by simp [Op.operands]) _ hx
    generalize hxv:a.eval x=vx at this
    cases this with
    | pv _ _ hpp =>
     cases hpp with
     | tup _ us h1 h2 =>
      have hlt:i < us.length:=by
       rw [h1]
       rcases Nat.lt_or_ge i vs.length with h'|h'
       ·exact h'
       ·rw [List.getElem?_eq_none h'] at hp;cases hp
      have:(execOp a.eval { dst,op:=.extract x i,type:=ty,pos,after,guard }).run P w=.ok (.value us[i]) w:=by
       simp [execOp,hxv,Instr.extract,hlt]
      rw [this]
      exact Yh hfs (.pv _ _ (h2 i p _ hp (List.getElem?_eq_getElem hlt)))
   ·cases h
  ·cases h
 | makeFunc fn first cap =>
  dsimp only at h
  have hrun:(execOp a.eval { dst,op:=.makeFunc fn first cap,type:=ty,pos,after,guard }).run P w=.ok (.value (.func fn (first.toList.map a.eval).toArray (cap.toList.map a.eval).toArray)) w:=by
   have e:∀ xs:Array Operand,(xs.toList.map a.eval).toArray=xs.map a.eval:=fun xs=>by rw [←Array.toList_map,Array.toArray_toList]
   rw [e,e];rfl
  rw [hrun]
  split at h
  ·rename_i va vb ha hb
   obtain ⟨h1,h2⟩:=zgL (fun x hx=>hv x (by simp [Op.operands] at hx ⊢;exact .inl hx)) ha
   obtain ⟨h3,h4⟩:=zgL (fun x hx=>hv x (by simp [Op.operands] at hx ⊢;exact .inr hx)) hb
   have hfn:ARel K w ρ H (.fn fn va vb) (.func fn (first.toList.map a.eval).toArray (cap.toList.map a.eval).toArray):=.fn fn va vb _ _ h1 h3 h2 h4
   split at h
   ·rename_i pa pb hpa hpb
    simp only [Option.some.injEq] at h;subst h
    exact Yh hfs (.pv _ _ (zcF hfs hfn (by simp [AV.toPV,hpa,hpb])))
   ·simp only [Option.some.injEq] at h;subst h
    exact Yh hfs hfn
  ·cases h
 | call c =>
  obtain ⟨callee,args,argTypes⟩:=c
  dsimp only at h
  split at h
  ·rename_i x t hargs htypes
   split at h
   ·rename_i p hp
    split at h
    ·rename_i n hn
     simp only [Option.some.injEq] at h;subst h
     have hargs':args=#[x]:=by rw [←Array.toArray_toList (xs:=args),hargs]
     have htypes':argTypes=#[t]:=by rw [←Array.toArray_toList (xs:=argTypes),htypes]
     subst hargs' htypes'
     have hpr:=qo hfs (hv x (by simp [Op.operands,Call.operands])) hp
     generalize hxv:a.eval x=vx at hpr
     have:(execOp a.eval { dst,op:=.call { callee:=.builtin .len,args:=#[x],argTypes:=#[t] },type:=ty,pos,after,guard }).run P w=.ok (.value (.int .i64 n)) w:=by
      unfold ztW at hn
      split at hn
      ·rename_i e s es f hk
       simp only [Option.some.injEq] at hn;subst hn
       cases hpr <;> simp [execOp,resolve,invoke,builtin,hxv,Builtin.len_,run_underlying (Zl htb hk),goInt]
      ·rename_i e sl n' cap hk
       simp only [Option.some.injEq] at hn;subst hn
       cases hpr;simp [execOp,resolve,invoke,builtin,hxv,Builtin.len_,run_underlying (Zl htb hk),goInt]
      ·rename_i s hk
       simp only [Option.some.injEq] at hn;subst hn
       cases hpr;simp [execOp,resolve,invoke,builtin,hxv,Builtin.len_,run_underlying (zbW htb hk),goInt]
      ·cases hn
     rw [this]
     exact Yh hfs (.pv _ _ (.base _ rfl))
    ·cases h
   ·cases h
  ·cases h
 | nilCheck x =>
  dsimp only at h
  split at h
  ·rename_i p off hx
   simp only [Option.some.injEq] at h;subst h
   have:=hv x (by simp [Op.operands]) _ hx
   generalize hxv:a.eval x=vx at this
   cases this with
   | pv _ _ hp =>
    have hp':=hp
    cases hp
    have:(execOp a.eval { dst,op:=.nilCheck x,type:=ty,pos,after,guard }).run P w=.ok (.value (a.eval x)) w:=by simp [execOp,hxv]
    rw [this,hxv]
    exact Yh hfs (.pv _ _ hp')
  ·rename_i i off hx
   simp only [Option.some.injEq] at h;subst h
   have:=hv x (by simp [Op.operands]) _ hx
   generalize hxv:a.eval x=vx at this
   have h2:=this
   cases this
   have:(execOp a.eval { dst,op:=.nilCheck x,type:=ty,pos,after,guard }).run P w=.ok (.value (a.eval x)) w:=by simp [execOp,hxv]
   rw [this,hxv]
   exact Yh hfs h2
  ·rename_i f va vb hx
   simp only [Option.some.injEq] at h;subst h
   have:=hv x (by simp [Op.operands]) _ hx
   generalize hxv:a.eval x=vx at this
   cases this with
   | pv _ _ hp =>
    have hp':=hp
    cases hp
    have:(execOp a.eval { dst,op:=.nilCheck x,type:=ty,pos,after,guard }).run P w=.ok (.value (a.eval x)) w:=by simp [execOp,hxv]
    rw [this,hxv]
    exact Yh hfs (.pv _ _ hp')
  ·rename_i f va vb hx
   simp only [Option.some.injEq] at h;subst h
   have:=hv x (by simp [Op.operands]) _ hx
   generalize hxv:a.eval x=vx at this
   have h2:=this
   cases this
   have:(execOp a.eval { dst,op:=.nilCheck x,type:=ty,pos,after,guard }).run P w=.ok (.value (a.eval x)) w:=by simp [execOp,hxv]
   rw [this,hxv]
   exact Yh hfs h2
  ·cases h
 | build t parts =>
  dsimp only at h
  split at h
  ·rename_i fs q z hk hz
   split at h
   ·cases h
   ·rename_i hsz
    split at h
    ·rename_i zs ps hzs hps
     split at h
     ·rename_i hall
      split at h
      ·rename_i cs hcs
       simp only [Option.some.injEq] at h;subst h
       obtain ⟨F,hF,hfs',_⟩:=zbE htb hk
       obtain ⟨h1,h2⟩:=zgA (a:=a) hfs (xs:=parts.toList) (fun x hx=>hv x.2 (by simp [Op.operands];exact ⟨x.1,by simpa using hx⟩)) hps
       obtain ⟨rr,hr1,hr2⟩:=zk0 (K:=K) (w:=w) _ (vcells:=z.cells) (vps:=parts.toList.map fun x=>(x.1,a.eval x.2)) (Xo hzs) (by simpa [List.map_map,Function.comp_def] using h1) (by simpa [List.map_map,Function.comp_def] using h2) hcs
       have hzi:∃ i,P.info? t=some i∧i.zero=some z:=by
        unfold Tab.zero at hz
        split at hz
        ·rename_i ti hti
         obtain ⟨i,e1,_,_,e4,_⟩:=ZH htb hti
         exact ⟨i,e1,by rw [e4];exact hz⟩
        ·cases hz
       obtain ⟨i,hi,hiz⟩:=hzi
       have hplaces:∀ (l:List Field),(∀ f∈l,f∈F.toList)→(l.mapM fun f=>(Prod.mk f.offset <$> sizeOf f.type:Sem (Nat × Nat))).run P w=.ok (l.map fun f=>(f.offset,tb.size f.type)) w:=by
        intro l
        induction l with
        | nil=>intro _;simp
        | cons f l ih =>
         intro hl
         have hf:f∈F.toList:=hl f (by simp)
         have hall':=List.all_eq_true.1 hall (f.offset,f.type,P.cellsOf f.type) (by rw [←hfs'];exact List.mem_map.2 ⟨f,hf,rfl⟩)
         simp only [Bool.and_eq_true] at hall'
         have hko:tb.k f.type≠.oth:=by intro e;simp [Tab.known,e] at hall'
         have hs:=run_sizeOf htb hko w
         have ih':=ih (fun f hf=>hl f (by simp [hf]))
         simp [List.mapM_cons,hs,ih']
       have hpl:=hplaces F.toList (fun f hf=>hf)
       have hfun:zeV fs=fun i=>((F.toList.map fun f=>(f.offset,tb.size f.type)).toArray)[i]?:=by
        funext i
        rw [←hfs']
        simp only [zeV,List.getElem?_map,List.getElem?_toArray,Array.getElem?_toList]
        cases hfl:F[i]? with
        | none=>rfl
        | some f =>
         simp only [Option.map_some,Option.some.injEq,Prod.mk.injEq,true_and]
         have hf:f∈F.toList:=by simpa using Array.mem_of_getElem? hfl
         have hall':=List.all_eq_true.1 hall (f.offset,f.type,P.cellsOf f.type) (by rw [←hfs'];exact List.mem_map.2 ⟨f,hf,rfl⟩)
         simp only [Bool.and_eq_true,beq_iff_eq] at hall'
         exact hall'.2.symm
       rw [hfun] at hr1
       have:(execOp a.eval { dst,op:=.build t parts,type:=ty,pos,after,guard }).run P w=.ok (.value (.agg rr)) w:=by
        have hm:(F.mapM fun f=>(do pure (f.offset,←sizeOf f.type):Sem (Nat × Nat))).run P w=.ok (F.toList.map fun f=>(f.offset,tb.size f.type)).toArray w:=by
         rw [Array.mapM_eq_mapM_toList]
         simp only [bind_pure_comp,Sem.run_map,hpl,Result.andThen_ok]
        have hp2:(parts.map fun x=>(x.1,a.eval x.2)).toList=parts.toList.map fun x=>(x.1,a.eval x.2):=by simp
        simp only [execOp,Instr.build,Sem.run_bind,zeroValue,typeInfo,run_program,hi,hiz,Result.andThen_ok,Sem.run_pure,run_underlying hF,hm,hp2,hr1]
       rw [this]
       have hone:∀ v∈rr.toList,v.oneCell'=true:=zhG _ hr1 (Xv hzs) (by
        intro x hx v hv'
        obtain ⟨k,hk⟩:=List.getElem?_of_mem hx
        have hk2:(parts.toList.map fun x=>a.eval x.2)[k]?=some x.2:=by
         rw [List.getElem?_map] at hk ⊢
         cases hpk:parts.toList[k]? with
         | none=>rw [hpk] at hk;simp at hk
         | some y=>rw [hpk] at hk;simp at hk;subst hk;rfl
        have hlt:k < (ps.map (·.2)).length:=by rw [←h2.1];exact (List.getElem?_eq_some_iff.1 hk2).1
        have hp:=List.getElem?_eq_getElem hlt
        refine cells_one (h2.2 k _ _ hp hk2) ?_ v hv'
        simp only [List.getElem_map]
        exact zdn hps _ (List.getElem_mem _))
       exact Yh hfs (.pv _ _ (by have:=PRel.agg (K:=K) (w:=w) cs rr.toList hr2.1 hone hr2.2;simpa using this))
      ·cases h
     ·cases h
    ·cases h
  ·cases h
 | buildSlice t len parts =>
  dsimp only at h
  split at h
  ·rename_i e hk
   split at h
   ·rename_i xs hxs
    split at h
    ·rename_i ps hps
     split at h
     ·rename_i hc
      simp only [Option.some.injEq] at h;subst h
      obtain ⟨hl,hpos,hsm,hsz,hz,hall⟩:=hc
      have hseq:∀ (l:List (Nat × Operand)) (k:Nat) (ys:List Operand),zcy k l=some ys→l=(ys.zipIdx k).map fun x=>(x.2,x.1):=by
       intro l
       induction l with
       | nil=>intro k ys h;simp [zcy] at h;subst h;rfl
       | cons x l ih =>
        intro k ys h
        obtain ⟨i,x⟩:=x
        simp only [zcy] at h
        split at h
        ·rename_i hik
         split at h
         ·rename_i l' hl'
          simp only [Option.some.injEq] at h;subst h hik
          rw [ih _ _ hl']
          simp [List.zipIdx_cons]
         ·cases h
        ·cases h
      have hparts:=hseq parts.toList 0 xs hxs
      have hvx:zqk K w ρ H env a xs:=fun x hx=>hv x (by
       simp only [Op.operands,hparts,List.map_map]
       have:(List.map ((fun x:Nat × Operand=>x.2) ∘ fun x:Operand × Nat=>(x.2,x.1)) (xs.zipIdx 0))=xs:=by
        rw [show ((fun x:Nat × Operand=>x.2) ∘ fun x:Operand × Nat=>(x.2,x.1))=Prod.fst from rfl]
        simp
       rw [this];simpa using hx)
      have hr:=zcT hfs hvx hps
      have hzi:∃ i z,P.info? e=some i∧i.size=tb.size e∧i.zero=some z:=by
       obtain ⟨z,hz⟩:=Option.isSome_iff_exists.1 hz
       unfold Tab.zero at hz
       split at hz
       ·rename_i ti hti
        obtain ⟨i,e1,e2,_,e4,_⟩:=ZH htb hti
        exact ⟨i,z,e1,by simp [Tab.size,hti,e2],by rw [e4];exact hz⟩
       ·cases hz
      obtain ⟨ie,z,hie,his,hiz⟩:=hzi
      have hcell:∀ v∈xs.map a.eval,v.cells.size=ie.size:=by
       intro v hv
       obtain ⟨k,hk⟩:=List.getElem?_of_mem hv
       have hlt:k < ps.length:=by rw [←hr.1];exact (List.getElem?_eq_some_iff.1 hk).1
       have hp:=List.getElem?_eq_getElem hlt
       have h1:=QF (hr.2 k _ v hp hk)
       have h2:=List.all_eq_true.1 hall ps[k] (List.getElem_mem hlt)
       simp only [beq_iff_eq] at h2
       have h3:=h1.1
       simp only [Array.length_toList] at h3
       omega
      have hlen:(xs.map a.eval).length=len:=by rw [hr.1,hl]
      have hfill:=Great.fill_whole (s:=ie.size) (by omega) (xs.map a.eval) ((Array.range (len * ie.size)).map (z.cells[· % z.cells.size]!)) hcell (by simp only [Array.size_map,Array.size_range,hlen])
      have hrun:=run_buildSlice (P:=P) w t e len (parts.map fun x=>(x.1,a.eval x.2)) _ ie z (Zl htb hk) hie hiz (by rw [his];omega) (by rw [his];have:=Nat.mul_pos hpos hsz;omega) (by
       have e1:(parts.map fun x=>(x.1,a.eval x.2)).toList=((xs.map a.eval).zipIdx 0).map fun x=>(x.2,x.1):=by
        rw [Array.toList_map,hparts,List.zipIdx_map,List.map_map,List.map_map];rfl
       rw [e1]
       exact hfill)
      have:(execOp a.eval { dst,op:=.buildSlice t len parts,type:=ty,pos,after,guard }).run P w=.ok (.value (.slice (some ⟨w.heap.size,0,none⟩) len len)) (w.alloc (.cells ((xs.map a.eval).flatMap fun v=>v.cells.toList).toArray e)):=by
       simp only [execOp]
       rw [Sem.run_bind]
       have e2:(parts.map fun (i,x)=>(i,a.eval x))=parts.map fun x=>(x.1,a.eval x.2):=rfl
       rw [e2,hrun];rfl
      rw [this]
      generalize hfl:((xs.map a.eval).flatMap fun v=>v.cells.toList)=flat
      have hev:=zbh hfs.lt flat.toArray e flat.length
      have hone:∀ v∈flat.toArray.toList,v.oneCell'=true:=by
       intro v hv'
       simp only at hv'
       rw [←hfl] at hv'
       obtain ⟨u,hu,hvu⟩:=List.mem_flatMap.1 hv'
       obtain ⟨k,hk⟩:=List.getElem?_of_mem hu
       have hlt:k < ps.length:=by rw [←hr.1];exact (List.getElem?_eq_some_iff.1 hk).1
       exact cells_one (hr.2 k _ u (List.getElem?_eq_getElem hlt) hk) (zhA hps _ (List.getElem_mem _)) v hvu
      have hrow:=zhL (K:=K) (w:=w) flat.toArray e flat.length (by simp) hone
      subst hl
      refine ⟨_,hev,.pv _ _ (.slc (tb.size e) ps true w.heap.size 0 ps.length (fun i=>(((xs.map a.eval)[i]?).getD undef).cells.toList) hsz (Nat.le_refl _) (fun _=>rfl) ?_ ?_ ?_ ?_)⟩
      ·have:=Nat.le_mul_of_pos_right ps.length hsz;unfold maxLen;omega
      ·have:=Nat.le_mul_of_pos_right ps.length hsz;unfold maxLen;omega
      ·intro i p hp
       have hlt:i < (xs.map a.eval).length:=by rw [hlen];exact (List.getElem?_eq_some_iff.1 hp).1
       have hx:=List.getElem?_eq_getElem hlt
       have hcs:=hcell _ (List.getElem_mem hlt)
       have hpc:=List.all_eq_true.1 hall p (List.mem_of_getElem? hp)
       simp only [beq_iff_eq] at hpc
       refine ⟨hpc,by rw [hx];simp only [Option.getD_some,Array.length_toList];omega,?_⟩
       rw [hx]
       intro k v hv
       simp only [Option.getD_some] at hv
       have hk:k < tb.size e:=by
        have:=(List.getElem?_eq_some_iff.1 hv).1
        simp only [Array.length_toList] at this;omega
       have hg:=Great.flat_get (s:=ie.size) (by omega) (xs.map a.eval) hcell (i * ie.size + k)
       have e3:(i * ie.size + k) / ie.size=i:=by rw [Nat.mul_comm,Nat.mul_add_div (by omega),Nat.div_eq_of_lt (by omega)];rfl
       have e4:(i * ie.size + k) % ie.size=k:=by rw [Nat.mul_comm,Nat.mul_add_mod,Nat.mod_eq_of_lt (by omega)]
       rw [e3,e4,hx,hfl] at hg
       simp only [Option.bind_some] at hg
       have hv':flat[i * ie.size + k]?=some v:=by rw [hg,←hv];simp
       have:=hrow (i * ie.size + k) v (by simpa using hv')
       rw [his] at this
       rw [Nat.zero_add] at this ⊢
       exact this
      ·intro i p k c v hp hc hv
       have hlt:i < (xs.map a.eval).length:=by rw [hlen];exact (List.getElem?_eq_some_iff.1 hp).1
       have hx:=List.getElem?_eq_getElem hlt
       rw [hx] at hv
       simp only [Option.getD_some] at hv
       exact ((QF (hr.2 i p _ hp hx)).2 k c v hc hv).later (hev.later hfs.lt)
     ·cases h
    ·cases h
   ·cases h
  ·cases h
 | _=>cases h
end
end Go.Cg
/- The rules of the walk: operations,code,calls. -/
namespace Go.Cg
open Go.RowKit


def Zf (ops:List Oper) (o:Oper):Option Tmp:=match o.guard with|none=>none|some (j,_)=>match ops[j]? with|some o'=>o'.dst|none=>none

def guardE (ops:List Oper) (env:Env) (o:Oper):Option Bool :=
  match o.guard with
  | none=>some true
  | some (_,want)=>match Zf ops o with
    | some t=>match env.get t with
      | some (.pv (.base (.bool b)))=>some (b==want)
      | some (.pv (.tup _))=>some false
      | _=>none
    | none=>none

section
variable {P:Program} {tb:Tab} {n:Nat} {g:Base} {K:KK} {w:World} {ρ:Nat→Value} {H:HEnv} {env:Env} {a:Act} {ops:List Oper} {o:Oper} {rest:List Oper} {Q:Env→HEnv→Prop} {r:AV}

theorem Yp {K:KK} {w:World} {t:Nat} {v:Value} (hs:a.tmps.size=n) (hd:Nat.blt t n=true) (he:EnvR K w ρ H env a.tmps) (hr:ARel K w ρ H r v):EnvR K w ρ H ((t,r)::env) (a.put (some t) v).tmps:=by
  have hd:=Nat.le_of_ble_eq_true hd
  intro t' av hg
  simp only [Env.get_nil,Env.get_cons] at hg
  simp only [Act.put]
  split at hg
  · rename_i e
    subst e
    simp only [Option.some.injEq] at hg;subst hg
    exact ⟨v,by rw [Array.getElem?_setIfInBounds_self_of_lt (by rw [hs];exact hd)],hr⟩
  · rename_i hne
    obtain ⟨u,h1,h2⟩:=he t' av hg
    exact ⟨u,by rw [Array.getElem?_setIfInBounds_ne hne];exact h1,h2⟩

theorem Zg {d:Option Tmp} {v:Value} (hs:a.tmps.size=n):(a.put d v).tmps.size=n:=by cases d <;> simp [Act.put,hs]
theorem put_defers {d:Option Tmp} {v:Value} {ds:List Deferred} (hs:a.defers=ds):(a.put d v).defers=ds:=by cases d <;> simp [Act.put,hs]

theorem qQ (he:EnvR K w ρ H env a.tmps) {x:Operand} {av:AV} (h:env.val x=some av):ARel K w ρ H av (a.eval x):=by
  cases x with
  | tmp t =>
    obtain ⟨v,h1,h2⟩:=he t av h
    simpa [Act.eval,Array.getD_eq_getD_getElem?,h1] using h2
  | const v =>
    simp only [Env.val] at h
    split at h
    · rename_i h1;simp only [Option.some.injEq] at h;subst h;exact .pv _ _ (.base v h1)
    · cases h
  | func f =>
    simp only [Env.val,Option.some.injEq] at h;subst h
    exact .pv _ _ (.fn (.func f) [] [] [] [] rfl rfl (by simp) (by simp))
  | global g =>
    simp only [Env.val,Option.some.injEq] at h;subst h
    exact .pv _ _ (.base _ rfl)

theorem qE (hi:Inv n g env H a w) {b:Bool} (h:guardE ops env o=some b):Region.wanted o (yielded ops.toArray a.tmps)=b:=by
  obtain ⟨_,_,K,ρ,hf,he⟩:=hi
  unfold guardE Zf at h
  cases hg:o.guard with
  | none=>simp [hg] at h;subst h;simp [Region.wanted,hg]
  | some x =>
    obtain ⟨j,want⟩:=x
    simp only [hg] at h
    cases hj:ops[j]? with
    | none=>simp [hj] at h
    | some o' =>
      simp only [hj] at h
      cases hd:o'.dst with
      | none=>simp [hd] at h
      | some t =>
        simp only [hd] at h
        split at h
        · rename_i bb hb
          simp only [Option.some.injEq] at h;subst h
          obtain ⟨v,h1,h2⟩:=he t _ hb
          cases h2 with
          | pv _ _ hp=>cases hp;simp only [Region.wanted,hg,yielded,List.getElem?_toArray,hj,Option.bind_some,hd,h1];cases bb <;> cases want <;> rfl
        · rename_i vs hb
          simp only [Option.some.injEq] at h;subst h
          obtain ⟨v,h1,h2⟩:=he t _ hb
          cases h2 with
          | pv _ _ hp=>cases hp;simp only [Region.wanted,hg,yielded,List.getElem?_toArray,hj,Option.bind_some,hd,h1];cases want <;> rfl
        · cases h

theorem VQ {K:KK} {w:World} {ρ:Nat→Value} {H:HEnv}:ARel K w ρ H (.pv (.tup [])) undef:=.pv _ _ (.tup [] [] rfl (by simp))

theorem znD (h:Q env H):AO P n g ops.toArray [] env H Q:=⟨fun a w hi=>⟨env,H,hi,rfl,h⟩⟩

theorem zB (hg:guardE ops env o=some true) (hq:QStep P g H o env r) {t:Nat} (hd:o.dst=some t) (ht:Nat.blt t n=true) (h:AO P n g ops.toArray rest ((t,r)::env) H Q):AO P n g ops.toArray (o::rest) env H Q:=by
  refine ⟨fun a w hi=>?_⟩
  have hw:=qE hi hg
  obtain ⟨h1,h2,K,ρ,hf,he⟩:=hi
  refine wpList_step fun KK hKK=>?_
  rw [if_pos hw]
  unfold Oper.wp
  have:=hq.go K ρ a w hf (fun x _ av hx=>qQ he hx)
  generalize (execOp a.eval o).run P w=res at this
  cases res with
  | halt x w'=>simp only [zdu] at this
  | ok nx w' =>
    cases nx <;> simp only [zdu] at this <;> simp only [Oper.upon]
    case value v =>
      obtain ⟨K',hev,hr⟩:=this
      exact hKK _ _ (h.go _ _ ⟨Zg h1,put_defers h2,K',ρ,hf.evo hev,by rw [hd];exact Yp h1 ht (he.later (hev.later hf.lt)) hr⟩)
    case enter f args =>
      obtain ⟨rfl,hc⟩:=this
      refine hc.mono fun e w'' ⟨v,K',he',hev,hr⟩=>?_
      subst he'
      exact hKK _ _ (h.go _ _ ⟨Zg h1,put_defers h2,K',ρ,hf.evo hev,by rw [hd];exact Yp h1 ht (he.later (hev.later hf.lt)) hr⟩)

theorem znU (htb:qp P tb) (hg:guardE ops env o=some true) (hq:opE tb H env o=some r) {t:Nat} (hd:o.dst=some t) (ht:Nat.blt t n=true) (h:AO P n g ops.toArray rest ((t,r)::env) H Q):AO P n g ops.toArray (o::rest) env H Q :=
  zB hg (zc1 htb hq) hd ht h

theorem zoc (hg:guardE ops env o=some false) {t:Nat} (hd:o.dst=some t) (ht:Nat.blt t n=true) (h:AO P n g ops.toArray rest ((t,.pv (.tup []))::env) H Q):AO P n g ops.toArray (o::rest) env H Q:=by
  refine ⟨fun a w hi=>?_⟩
  have hw:=qE hi hg
  obtain ⟨h1,h2,K,ρ,hf,he⟩:=hi
  refine wpList_step fun KK hKK=>?_
  rw [if_neg (by rw [hw];simp)]
  exact hKK _ _ (h.go _ _ ⟨Zg h1,put_defers h2,K,ρ,hf,by rw [hd];exact Yp h1 ht he VQ⟩)

/-- What is known of a truth value is told in the frame. -/
theorem zhJ (hi:Inv n g env H a w) {t:Nat} {b:Bool} (hb:env.get t=some (.pv (.base (.bool b)))) {c:Bool} (hc:b=c):Inv n g ((t,.pv (.base (.bool c)))::env) H a w:=by
  subst hc
  obtain ⟨h1,h2,K,ρ,hf,he⟩:=hi
  refine ⟨h1,h2,K,ρ,hf,fun t' av hg=>?_⟩
  simp only [Env.get_nil,Env.get_cons] at hg
  split at hg
  · rename_i e;subst e;simp only [Option.some.injEq] at hg;subst hg;exact he _ _ hb
  · exact he _ _ hg

theorem zsa {l:List Oper} {t:Nat} {b:Bool} (hv:(match l with|o::_=>Zf ops o|[]=>none)=some t) (hb:env.get t=some (.pv (.base (.bool b)))) (h1:b=true→AO P n g ops.toArray l ((t,.pv (.base (.bool true)))::env) H Q)
    (h2:b=false→AO P n g ops.toArray l ((t,.pv (.base (.bool false)))::env) H Q):AO P n g ops.toArray l env H Q:=by
  refine ⟨fun a w hi=>?_⟩
  cases hb':b
  · exact (h2 hb').go a w (zhJ hi hb hb')
  · exact (h1 hb').go a w (zhJ hi hb hb')

/-! ## Code -/
variable {QQ:QC} {c x y:Code}

theorem ZJ {R R':Exit→Act→World→Prop} (hq:∀ e a w,R e a w→R' e a w):∀ {l:List Oper} {a:Act} {w:World},wpList P ops.toArray R l a w→wpList P ops.toArray R' l a w
  | [],a,w,h=>hq _ _ _ h
  | o::l,a,w,h=>by
    unfold wpList at h ⊢
    split
    · rename_i hw
      rw [if_pos hw] at h
      rcases h with h|⟨h1,a',w',h2⟩
      · refine .inl ?_
        unfold Oper.wp at h ⊢
        generalize (execOp a.eval o).run P w=r at *
        cases r with
        | ok nx w' =>
          cases nx <;> simp only [Oper.upon] at h ⊢ <;>
            first
              | exact ZJ hq h
              | exact Calls.mono h (fun e w'' he=>by cases e <;> first|exact ZJ hq he|exact hq _ _ _ he|(obtain ⟨a',w',hh⟩:=he;exact ⟨a',w',hq _ _ _ hh⟩))
              | exact Rows.mono h (fun _ _ he=>ZJ hq he)
        | halt x w'=>cases x <;> simp only [Oper.upon] at h ⊢ <;> exact hq _ _ _ h
      · exact .inr ⟨h1,a',w',hq _ _ _ h2⟩
    · rename_i hw
      rw [if_neg hw] at h
      exact ZJ hq h

theorem AW.mono {QQ':QC} (h:AW P n g c env H QQ) (hq:∀ e env H,QQ e env H→QQ' e env H):AW P n g c env H QQ' :=
  ⟨fun a w hi r d=>wpIn_mono (h.go a w hi r d) fun e _ _ ⟨env',H',h1,h2⟩=>⟨env',H',h1,hq e env' H' h2⟩⟩

theorem ziE {id:Nat} (h:AO P n g ops.toArray ops env H (fun env' H'=>QQ .normal env' H')) (hnd:Zj ops=true:=by kernel_rfl):AW P n g (.region id ops.toArray false) env H QQ :=
  ⟨fun a w hi r d=>wpIn_mono (zk9 (R:=fun a' w'=>∃ env' H',Inv n g env' H' a' w'∧QQ .normal env' H') hnd (ZJ (fun e a' w' ⟨env',H',h1,h2,h3⟩=>⟨h2,env',H',h1,h3⟩) (h.go a w hi))) (fun e a' w' h=>by obtain ⟨rfl,h⟩:=h;exact h)⟩

def zsW (next:Env→HEnv→Prop) (QQ:QC):QC
  | .normal,env,H=>next env H
  | e,env,H=>QQ e env H

theorem zjB (h:AW P n g x env H (zsW (fun env' H'=>AW P n g y env' H' QQ) QQ)):AW P n g (.seq x y) env H QQ :=
  ⟨fun a w hi r d=>wpIn_seq (wpIn_mono (h.go a w hi r d) fun e a' w' ⟨env',H',h1,h2⟩=>by
    cases e <;> first
      | exact h2.go a' w' h1 r d
      | exact ⟨env',H',h1,h2⟩)⟩

theorem zn6 (h:QQ .normal env H):AW P n g .skip env H QQ:=⟨fun _ _ hi _ _=>wpIn_skip ⟨env,H,hi,h⟩⟩
theorem zmD (h:QQ .ret env H):AW P n g .ret env H QQ:=⟨fun _ _ hi _ _=>wpIn_ret ⟨env,H,hi,h⟩⟩
theorem zoa {id:Nat} (h:QQ (.exit id) env H):AW P n g (.exit id) env H QQ:=⟨fun _ _ hi _ _=>wpIn_exit ⟨env,H,hi,h⟩⟩

def zrg (id:Nat) (QQ:QC):QC
  | .exit id',env,H=>if id'=id then QQ .normal env H else QQ (.exit id') env H
  | e,env,H=>QQ e env H

theorem zkS {id:Nat} (h:AW P n g c env H (zrg id QQ)):AW P n g (.block id c) env H QQ :=
  ⟨fun a w hi r d=>wpIn_block (wpIn_mono (h.go a w hi r d) fun e a' w' ⟨env',H',h1,h2⟩=>by
    cases e <;> first
      | exact ⟨env',H',h1,h2⟩
      | (simp only [zrg,Exit.inBlock] at h2 ⊢
         split
         · rename_i he;rw [if_pos he] at h2;exact ⟨env',H',h1,h2⟩
         · rename_i he;rw [if_neg he] at h2;exact ⟨env',H',h1,h2⟩))⟩

theorem zfa (hi:Inv n g env H a w) {c:Operand} {b:Bool} (hc:env.val c=some (.pv (.base (.bool b)))):a.eval c=.bool b:=by
  obtain ⟨_,_,K,ρ,_,he⟩:=hi
  have:=qQ he hc
  generalize a.eval c=v at this
  cases this with|pv _ _ hp=>cases hp;rfl

theorem zbI {c:Operand} (hc:env.val c=some (.pv (.base (.bool true)))) (h:AW P n g x env H QQ):AW P n g (.cond c x y) env H QQ :=
  ⟨fun a w hi r d=>wpIn_cond_true (zfa hi hc) (h.go a w hi r d)⟩
theorem zaV {c:Operand} (hc:env.val c=some (.pv (.base (.bool false)))) (h:AW P n g y env H QQ):AW P n g (.cond c x y) env H QQ :=
  ⟨fun a w hi r d=>wpIn_cond_false (zfa hi hc) (h.go a w hi r d)⟩
theorem zsh {t:Nat} {b:Bool} (hc:env.get t=some (.pv (.base (.bool b)))) (h1:b=true→AW P n g x env H QQ) (h2:b=false→AW P n g y env H QQ):AW P n g (.cond (.tmp t) x y) env H QQ :=
  ⟨fun a w hi r d=>wpIn_cond_split (zfa (c:=.tmp t) hi hc) (fun h=>(h1 h).go a w hi r d) (fun h=>(h2 h).go a w hi r d)⟩

/-! ## The frame,told anew -/
def Sub (env env':Env):Prop:=∀ t av,env'.get t=some av→env.get t=some av
theorem yS:Sub env []:=fun t av h=>by simp [Env.get_nil,Env.get_cons] at h
theorem yG {env':Env} {t:Nat} {av:AV} (h:env.get t=some av) (hs:Sub env env'):Sub env ((t,av)::env'):=fun t' av' h'=>by
  simp only [Env.get_nil,Env.get_cons] at h'
  split at h'
  · rename_i e;subst e;simp only [Option.some.injEq] at h';subst h';exact h
  · exact hs t' av' h'
theorem Inv.sub {env':Env} (hi:Inv n g env H a w) (hs:Sub env env'):Inv n g env' H a w :=
  let ⟨h1,h2,K,ρ,hf,he⟩:=hi;⟨h1,h2,K,ρ,hf,fun t av h=>he t av (hs t av h)⟩
mutual
def Yn (H:HEnv):AV→Bool
  | .own i=>(H.get i).isSome
  | .box i _=>(H.get i).isSome
  | .ad i _=>(H.get i).isSome
  | .agg cs=>Ql H cs
  | .fn _ a b=>Ql H a&&Ql H b
  | .pv _=>true
  | .any=>true
  | .any1=>true
def Ql (H:HEnv):List AV→Bool
  | []=>true
  | c::cs=>Yn H c&&Ql H cs
end
theorem Yf {H:HEnv}:∀ {cs:List AV},Ql H cs=true→∀ (k:Nat) (c:AV),cs[k]?=some c→Yn H c=true
  | [],_,k,c,h=>by simp at h
  | c::cs,h,k,c',hk=>by
    simp only [Ql,Bool.and_eq_true] at h
    cases k with
    | zero=>simp at hk;subst hk;exact h.1
    | succ k=>simp at hk;exact Yf h.2 k c' hk
def zas (H:HEnv):Env→Bool
  | []=>true
  | (_,v)::e=>Yn H v&&zas H e
def hIn (H:HEnv):HEnv→Bool
  | []=>true
  | (_,.cell v)::e=>Yn H v&&hIn H e
  | (_,.pin v _)::e=>Yn H v&&hIn H e
  | _::e=>hIn H e
theorem zcZ {H:HEnv}:∀ {e:Env},zas H e=true→∀ t v,e.get t=some v→Yn H v=true
  | [],_,t,v,h=>by simp [Env.get_nil,Env.get_cons] at h
  | (t',v')::e,h,t,v,hv=>by
    simp only [zas,Bool.and_eq_true] at h
    simp only [Env.get_nil,Env.get_cons] at hv
    split at hv
    · simp only [Option.some.injEq] at hv;subst hv;exact h.1
    · exact zcZ h.2 t v hv
theorem QE {H:HEnv}:∀ {e:HEnv},hIn H e=true→∀ i v,e.get i=some (.cell v)→Yn H v=true
  | [],_,t,v,h=>by simp [HEnv.get_nil,HEnv.get_cons] at h
  | (j,h')::e,h,i,v,hv=>by
    simp only [HEnv.get_nil,HEnv.get_cons] at hv
    split at hv
    · simp only [Option.some.injEq] at hv;subst hv
      simp only [hIn,Bool.and_eq_true] at h;exact h.1
    · cases h' <;> simp only [hIn,Bool.and_eq_true] at h <;> first|exact QE h.2 i v hv|exact QE h i v hv
theorem YJ {H:HEnv}:∀ {e:HEnv},hIn H e=true→∀ i v u,e.get i=some (.pin v u)→Yn H v=true
  | [],_,t,v,_,h=>by simp [HEnv.get_nil,HEnv.get_cons] at h
  | (j,h')::e,h,i,v,u,hv=>by
    simp only [HEnv.get_nil,HEnv.get_cons] at hv
    split at hv
    · simp only [Option.some.injEq] at hv;subst hv
      simp only [hIn,Bool.and_eq_true] at h;exact h.1
    · cases h' <;> simp only [hIn,Bool.and_eq_true] at h <;> first|exact YJ h.2 i v u hv|exact YJ h i v u hv
theorem ARel.refs {K:KK} {w:World} {ρ:Nat→Value} {H H':HEnv} {av:AV} {v:Value} (h:ARel K w ρ H av v):Yn H' av=true→ARel K w ρ H' av v:=by
  induction h with
  | pv p v hp=>exact fun _=>.pv p v hp
  | own i _=>exact fun h=>.own i h
  | box i off b _ hb=>exact fun h=>.box i off b h hb
  | ad i off b m c _ hb=>exact fun h=>.ad i off b m c h hb
  | agg cs vs h1 h2 _ ih=>exact fun h=>.agg cs vs h1 h2 fun k c v hc hv=>ih k c v hc hv (Yf h k c hc)
  | fn f a b vf vc h1 h2 _ _ ih1 ih2 =>
    intro h
    simp only [Yn,Bool.and_eq_true] at h
    exact .fn f a b vf vc h1 h2 (fun k c v hc hv=>ih1 k c v hc hv (Yf h.1 k c hc)) (fun k c v hc hv=>ih2 k c v hc hv (Yf h.2 k c hc))
  | any v=>exact fun _=>.any v
  | any1 v h1 h2=>exact fun _=>.any1 v h1 h2

/-- Less is owned. -/
def HSub (H H':HEnv):Prop:=∀ i h,H'.get i=some h→H.get i=some h
theorem zK:HSub H []:=fun i h e=>by simp [HEnv.get_nil,HEnv.get_cons] at e
theorem zT {H':HEnv} {i:Nat} {e:HE} (h:H.get i=some e) (hs:HSub H H'):HSub H ((i,e)::H'):=fun i' e' h'=>by
  simp only [HEnv.get_nil,HEnv.get_cons] at h'
  split at h'
  · rename_i q;subst q;simp only [Option.some.injEq] at h';subst h';exact h
  · exact hs i' e' h'
theorem qG {H':HEnv} {i:Nat} {t sz:Nat} {es es':List PV} (h:H.get i=some (.row t sz es)) (e:es=es') (hs:HSub H H'):HSub H ((i,.row t sz es')::H'):=zT (by rw [h,e]) hs
def Wn (H H':HEnv) (env':Env):Prop:=HSub H H'∧(zas H' env'&&hIn H' H')=true
theorem Inv.hsub {H':HEnv} (hi:Inv n g env H a w) (hs:Wn H H' env):Inv n g env H' a w:=by
  obtain ⟨h1,h2,K,ρ,hf,he⟩:=hi
  obtain ⟨hs,hin⟩:=hs
  simp only [Bool.and_eq_true] at hin
  refine ⟨h1,h2,K,ρ,⟨hf.below,hf.old,hf.new,hf.lt,hf.others,hf.pt,fun i h b hi=>hf.away i h b (hs i h hi),?_,?_⟩,fun t av ht=>let ⟨v,v1,v2⟩:=he t av ht;⟨v,v1,v2.refs (zcZ hin.1 t av ht)⟩⟩
  · intro i h hi
    have:=hf.heap.ok i h (hs i h hi)
    cases h with
    | cell v =>
      obtain ⟨b,t,arr,u,e1,e2,e3,e4,e5,e6⟩:=this
      exact ⟨b,t,arr,u,e1,e2,e3,e4.refs (QE hin.2 i v hi),e5,e6⟩
    | row t sz es=>exact this
    | mrow t sz es=>exact this
    | dead=>trivial
    | pin v u=>exact ARel.refs this (YJ hin.2 i v u hi)
    | obj X=>exact this
  · intro i j h h' b hij h1 h2
    exact hf.heap.apart i j h h' b hij (hs i h h1) (hs j h' h2)

/-- A loop: what the frame is at each round's head is told by an index. -/
def ztT {ι:Type} (E:ι→Env) (HH:ι→HEnv) (Pre:ι→Prop) (μ:ι→Nat) (i:ι) (QQ:QC):QC
  | .normal,env',H'=>∃ j,Pre j∧μ j < μ i∧Sub env' (E j)∧Wn H' (HH j) (E j)
  | e,env',H'=>QQ e env' H'

theorem zJ {ι:Type} (E:ι→Env) (HH:ι→HEnv) (Pre:ι→Prop) (μ:ι→Nat) (i0:ι) (hpre:Pre i0) (hs:Sub env (E i0)) (hH:Wn H (HH i0) (E i0))
    (round:∀ i,Pre i→AW P n g c (E i) (HH i) (ztT E HH Pre μ i QQ)):AW P n g (.loop c) env H QQ:=by
  refine ⟨fun a w hi r d b k cs hro hb hr=>?_⟩
  have key:∀ m i,μ i=m→Pre i→∀ a w,Inv n g (E i) (HH i) a w →
      ∃ e a' w',(∃ env' H',Inv n g env' H' a' w'∧QQ e env' H')∧ArrivesIn (Machine.fenced P (zdf r)) P (lone (b.atR a (.code c::.inLoop c::k)) cs w) b k cs e a' w':=by
    intro m
    induction m using Nat.strongRecOn with
    | _ m ih =>
      intro i hm hp a w hi
      obtain ⟨e,a₁,w₁,⟨env',H',h1,h2⟩,harr⟩:=(round i hp).go a w hi r d b (.inLoop c::k) cs hro hb hr
      cases e with
      | normal =>
        obtain ⟨j,hpj,hlt,hsub,hfit⟩:=h2
        obtain ⟨e₂,a₂,w₂,hq₂,harr₂⟩:=ih (μ j) (by omega) j rfl hpj a₁ w₁ ((h1.sub hsub).hsub hfit)
        exact ⟨e₂,a₂,w₂,hq₂,.of_steps (StepsIn.trans harr (.one (fenced_calm hb hr rfl) stepR_inLoop)) harr₂⟩
      | exit id=>exact ⟨_,a₁,w₁,⟨env',H',h1,h2⟩,.pass (x:=.inLoop c) rfl (fun _ _=>.inl (by simp)) harr⟩
      | goto l=>exact ⟨_,a₁,w₁,⟨env',H',h1,h2⟩,.pass (x:=.inLoop c) rfl (fun _ _=>.inl (by simp)) harr⟩
      | ret=>exact ⟨_,a₁,w₁,⟨env',H',h1,h2⟩,.pass (x:=.inLoop c) rfl (fun _ _=>.inl (by simp)) harr⟩
      | panic ch=>exact ⟨_,a₁,w₁,⟨env',H',h1,h2⟩,.pass (x:=.inLoop c) rfl (fun _ _=>.inl (by simp)) harr⟩
      | outgrown=>exact ⟨_,a₁,w₁,⟨env',H',h1,h2⟩,.pass (x:=.inLoop c) rfl (fun _ _=>.inl (by simp)) harr⟩
  obtain ⟨e,a',w',hq,harr⟩:=key _ i0 rfl hpre a w ((hi.sub hs).hsub hH)
  exact ⟨e,a',w',hq,.of_steps (.one (fenced_calm hb hr rfl) stepR_loop) harr⟩
end
end Go.Cg
namespace Go.Cg
open Go.RowKit
def Tells (a b:AV):Prop:=∀ (K:KK) (w:World) (ρ:Nat→Value) (H:HEnv) (v:Value),ARel K w ρ H a v→ARel K w ρ H b v
theorem Tells.refl (a:AV):Tells a a:=fun _ _ _ _ _ h=>h
theorem Xp (sz:Nat) (f:Bool):Tells (.pv (.base (.slice none 0 0))) (.pv (.slc sz [] f)):=fun K w ρ H v h=>by
 cases h with|pv _ _ hp=>cases hp;exact .pv _ _ (.nil sz f)
theorem zdH (sz:Nat) (es:List PV) (f:Bool):Tells (.pv (.slc sz es f)) (.pv (.slc sz es false)):=fun K w ρ H v h=>by
 cases h with
 | pv _ _ hp=>cases hp with
  | nil=>exact .pv _ _ (.nil sz false)
  | emp _ _ a=>exact .pv _ _ (.emp sz false a)
  | slc _ _ _ b o cap vss h0 h1 h2 h3 h4 h5 h6=>exact .pv _ _ (.slc sz es false b o cap vss h0 h1 (by simp) h3 h4 h5 h6)
def EntE (env env2:Env):Prop:=∀ t av2,env2.get t=some av2→∃ av,env.get t=some av∧Tells av av2
theorem EntE.refl (env:Env):EntE env env:=fun t av h=>⟨av,h,.refl av⟩
theorem EntE.one {env:Env} {t:Nat} {a b:AV} (h:env.get t=some a) (ht:Tells a b):EntE env ((t,b)::env):=fun t' av h'=>by
 simp only [Env.get_nil,Env.get_cons] at h'
 split at h'
 ·rename_i e;subst e;simp only [Option.some.injEq] at h';subst h';exact ⟨a,h,ht⟩
 ·exact ⟨av,h',.refl av⟩
def zfm:Nat→List PV→Env
 | _,[]=>[]
 | k,p::ps=>(k,.pv p)::zfm (k + 1) ps
def resE (tb:Tab) (H:HEnv) (env:Env):ResultVar→Option PV
 | .tmp t=>env.pv H (.tmp t)
 | .cell a ty=>match env.get a with
  | some (.box i off)=>match H.get i with
   | some (.cell v)=>match Xy tb H ty v off with|some x=>x.toPV H|none=>none
   | _=>none
  | some (.pv (.ptr p off))=>zc4 tb ty p off
  | _=>none
def zaJ (tb:Tab) (H:HEnv) (env:Env):List ResultVar→Option (List PV)
 | []=>some []
 | r::rs=>match resE tb H env r,zaJ tb H env rs with|some p,some ps=>some (p::ps)|_,_=>none
def zk:List PV→PV
 | [p]=>p
 | ps=>.tup ps
def zpI (tb:Tab) (rs:List ResultVar) (r:PV):QC:=fun e env H=>(e=.normal∨e=.ret)∧∃ env2,EntE env env2∧∃ ps,zaJ tb H env2 rs=some ps∧zk ps=r
section
variable {P:Program} {tb:Tab} {n:Nat} {g:Base} {K:KK} {w:World} {ρ:Nat→Value} {H:HEnv} {env:Env} {a:Act} {ops:List Oper} {o:Oper} {rest:List Oper} {Q:Env→HEnv→Prop} {r:PV} {f:FuncId} {args:List PV}
theorem za2:∀ (ps:List PV) (k t:Nat) (av:AV),(zfm k ps).get t=some av→k≤t∧∃ p,ps[t - k]?=some p∧av=.pv p
 | [],k,t,av,h=>by simp [zfm,Env.get_nil,Env.get_cons] at h
 | p::ps,k,t,av,h=>by
  simp only [zfm,Env.get_nil,Env.get_cons] at h
  split at h
  ·rename_i e;subst e;simp only [Option.some.injEq] at h;exact ⟨Nat.le_refl _,p,by simp,h.symm⟩
  ·obtain ⟨h1,q,h2,h3⟩:=za2 ps (k + 1) t av h
   refine ⟨by omega,q,?_,h3⟩
   rw [show t - k=(t - (k + 1)) + 1 by omega]
   simpa using h2
theorem zqh (htb:qp P tb) (hf:FS g K ρ H w) (he:EnvR K w ρ H env a.tmps) {x:ResultVar} {p:PV} (h:resE tb H env x=some p) :
  ∃ v,(match x with|.tmp t=>pure (a.tmps.getD t undef)|.cell c t=>do loadVar t (←asAddr (a.tmps.getD c undef)):Sem Value).run P w=.ok v w∧PRel K w p v:=by
 cases x with
 | tmp t =>
  refine ⟨_,rfl,?_⟩
  have:=qo (a:=a) hf (x:=.tmp t) (fun av hx=>qQ he hx) h
  exact this
 | cell c t =>
  simp only [resE] at h
  have hload:∀ v,(∃ ad,v=.pointer (some ad))→(do loadVar t (←asAddr v):Sem Value).run P w=(Instr.loadAt t v).run P w:=by
   rintro v ⟨ad,rfl⟩;simp [Instr.loadAt,Instr.sureAddr,asAddr]
  split at h
  ·rename_i i off hx
   split at h
   ·rename_i v hv
    split at h
    ·rename_i x hxx
     have hb:=qQ he (x:=.tmp c) hx
     obtain ⟨u,h1,h2⟩:=zb7 htb hf hb hv hxx
     refine ⟨u,?_,zcF hf h2 h⟩
     have hpt:∃ ad,a.eval (.tmp c)=.pointer (some ad):=by generalize a.eval (.tmp c)=vv at hb;cases hb;exact ⟨_,rfl⟩
     exact (hload _ hpt).trans h1
    ·cases h
   ·cases h
  ·rename_i q off hx
   have hb:=qQ he (x:=.tmp c) hx
   generalize hvv:a.eval (.tmp c)=vv at hb
   cases hb with
   | pv _ _ hp =>
    obtain ⟨u,h1,h2⟩:=zb9 htb hp h
    refine ⟨u,?_,h2⟩
    have hpt:∃ ad,vv=.pointer (some ad):=by cases hp;exact ⟨_,rfl⟩
    have hh:a.tmps.getD c undef=vv:=hvv
    subst hh
    exact (hload _ hpt).trans h1
  ·cases h
theorem za7 (htb:qp P tb) (hf:FS g K ρ H w) (he:EnvR K w ρ H env a.tmps):∀ {xs:List ResultVar} {ps:List PV},zaJ tb H env xs=some ps →
  ∃ vs,(xs.mapM fun|.tmp t=>pure (a.tmps.getD t undef)|.cell c t=>do loadVar t (←asAddr (a.tmps.getD c undef)):Sem (List Value)).run P w=.ok vs w∧PRels K w ps vs
 | [],ps,h=>by simp [zaJ] at h;subst h;exact ⟨[],by simp,.nil⟩
 | x::xs,ps,h=>by
  simp only [zaJ] at h
  split at h
  ·rename_i p ps' h1 h2
   simp only [Option.some.injEq] at h;subst h
   obtain ⟨v,e1,r1⟩:=zqh htb hf he h1
   obtain ⟨vs,e2,r2⟩:=za7 htb hf he h2
   refine ⟨v::vs,?_,.cons r1 r2⟩
   rw [List.mapM_cons,Sem.run_bind]
   erw [e1]
   rw [Result.andThen_ok,Sem.run_bind]
   erw [e2]
   rfl
  ·cases h
theorem zh (htb:qp P tb) {fn:Func} {c:Code} (hf:P.funcs[f]?=some fn) (hb:fn.body=some c) (hn:(fn.name == "runtime.NumGoroutine")=false) (hnt:fn.ntmps=n) (hargs:args.length≤n)
  (rs:List ResultVar) (hrs:fn.results.toList=rs) (h:lensOk args→∀ g:Base,Plain g→AW P n g c (zfm 0 args) [] (zpI tb rs r)):ACall P f args r:=by
 refine ⟨⟨fn,hf,by simp [hb],hn⟩,fun K w vs hl hv=>?_⟩
 refine calls_of_wp hf hb ?_
 have hlen:vs.length=args.length:=hv.1
 refine wp_mono (wpIn_wide.1 ((h hv.lensOk (Base.of w K (bare w) []) ⟨rfl,hl⟩).go _ w ⟨by simp [hnt];omega,rfl,K,fun _=>undef,⟨.refl _ _,fun _ _ h=>h,fun _ _ h=>.inl h,hl,WX _ _,.base,.none _ _,⟨by simp [HEnv.get_nil,HEnv.get_cons],by simp [HEnv.get_nil,HEnv.get_cons]⟩⟩,?_⟩ none 0)) ?_
 ·intro t av hg
  obtain ⟨_,p,hp,rfl⟩:=za2 args 0 t av hg
  have hlt:t < vs.length:=by rw [hlen];exact (List.getElem?_eq_some_iff.1 hp).1
  refine ⟨vs[t],?_,.pv _ _ (hv.2 t p _ hp (List.getElem?_eq_getElem hlt))⟩
  rw [Array.getElem?_append_left (by simpa using hlt)]
  simp [hlt]
 ·rintro e a' w' ⟨env1,H',hi,he,env',hent,ps,hps,rfl⟩
  obtain ⟨_,h2,K',ρ',hf',he0⟩:=hi
  have he':EnvR K' w' ρ' H' env' a'.tmps:=fun t av ht=>by
   obtain ⟨av0,q1,q2⟩:=hent t av ht
   obtain ⟨v,v1,v2⟩:=he0 t av0 q1
   exact ⟨v,v1,q2 _ _ _ _ _ v2⟩
  obtain ⟨us,hrun,hru⟩:=za7 htb hf' he' hps
  have hev:Evo K K' w w':=⟨hf'.below,hf'.old,hf'.new,hf'.lt⟩
  have hres:(results fn a'.tmps).run P w'=.ok (if hh:us.toArray.size=1 then us.toArray[0] else .tuple us.toArray) w':=by
   unfold results
   rw [Array.mapM_eq_mapM_toList,hrs]
   simp only [Sem.run_bind,Sem.run_map]
   erw [hrun]
   rfl
  have hval:PRel K' w' (zk ps) (if hh:us.toArray.size=1 then us.toArray[0] else .tuple us.toArray):=by
   split
   ·rename_i hh
    have hl1:=hru.1
    have hu:us.length=1:=by simpa using hh
    obtain ⟨u,rfl⟩:=List.length_eq_one_iff.1 hu
    obtain ⟨p,rfl⟩:=List.length_eq_one_iff.1 (show ps.length=1 by omega)
    exact hru.2 0 p u (by simp) (by simp)
   ·rename_i hh
    simp at hh
    have:zk ps=.tup ps:=by
     unfold zk
     split
     ·rename_i p;exact absurd (by have:=hru.1;simpa using this) hh
     ·rfl
    rw [this]
    exact .tup ps us hru.1 hru.2
  rcases he with rfl|rfl
  ·exact ⟨h2,_,hres,_,K',rfl,hev,hval⟩
  ·exact ⟨h2,_,hres,_,K',rfl,hev,hval⟩
theorem ZU {f:FuncId} (hs:zbV P f) (vs:Array Value) (w:World):(callFunc f vs).run P w=.ok (.enter f vs) w:=by
 obtain ⟨fn,h1,h2,h3⟩:=hs
 have h3':fn.name ≠ "runtime.NumGoroutine" := by simpa using h3
 simp only [callFunc,Sem.run_bind,run_program,Result.andThen_ok,h1,h3,h2,Bool.false_eq_true,if_false,Sem.run_pure]
theorem zG {xs:Array Operand} {ts:Array TypeId} (hop:o.op=.call { callee:=.value (.func f),args:=xs,argTypes:=ts }) (hargs:pvs env H xs.toList=some args) (hc:ACall P f args r):QStep P g H o env (.pv r):=by
 refine ⟨fun K ρ a w hf hv=>?_⟩
 have hp:=zcT hf (a:=a) (xs:=xs.toList) (fun x hx=>hv x (by rw [hop];simp [Op.operands,Call.operands];exact .inr (by simpa using hx))) hargs
 have:(execOp a.eval o).run P w=.ok (.enter f (xs.toList.map a.eval).toArray) w:=by
  have e:(xs.toList.map a.eval).toArray=xs.map a.eval:=by rw [←Array.toList_map,Array.toArray_toList]
  rw [e]
  simp [execOp,hop,resolve,Act.eval,Deferred.ofValue,invoke,ZU hc.stands]
 rw [this]
 refine ⟨rfl,(hc.calls K w _ hf.lt hp).mono fun e w'' ⟨v,K',h1,h2,h3⟩=>⟨v,K',h1,h2,.pv _ _ h3⟩⟩
theorem zn5 {t:Tmp} {xs:Array Operand} {ts:Array TypeId} {first cap ps:List PV} (hop:o.op=.call { callee:=.value (.tmp t),args:=xs,argTypes:=ts }) (ht:env.get t=some (.pv (.fn (.func f) first cap))) (hargs:pvs env H xs.toList=some ps)
  (hc:ACall P f (first++ps++cap) r):QStep P g H o env (.pv r):=by
 refine ⟨fun K ρ a w hf hv=>?_⟩
 have hp:=zcT hf (a:=a) (xs:=xs.toList) (fun x hx=>hv x (by rw [hop];simp [Op.operands,Call.operands];exact .inr (by simpa using hx))) hargs
 have hfn:=hv (.tmp t) (by rw [hop];simp [Op.operands,Call.operands]) _ ht
 generalize hfv:a.eval (.tmp t)=fv at hfn
 cases hfn with
 | pv _ _ hq =>
  cases hq with
  | fn _ _ _ vf vc h1 h2 h3 h4 =>
   have:(execOp a.eval o).run P w=.ok (.enter f (vf++xs.toList.map a.eval++vc).toArray) w:=by
    have e:(vf++xs.toList.map a.eval++vc).toArray=vf.toArray++xs.map a.eval++vc.toArray:=by
     rw [show xs.map a.eval=(xs.toList.map a.eval).toArray by rw [←Array.toList_map,Array.toArray_toList]]
     simp
    rw [e]
    simp [execOp,hop,resolve,hfv,Deferred.ofValue,invoke,ZU hc.stands]
   rw [this]
   refine ⟨rfl,(hc.calls K w _ hf.lt ((PRels.append ⟨h1,h3⟩ hp).append ⟨h2,h4⟩)).mono fun e w'' ⟨v,K',h1,h2,h3⟩=>⟨v,K',h1,h2,.pv _ _ h3⟩⟩
theorem zl {t e:TypeId} {x i:Operand} {sz:Nat} {es:List PV} {full:Bool} {k:IntKind} {m:Int} {p:PV} (htb:qp P tb) (hop:o.op=.indexAddr t x i) (hk:tb.k t=.sl e) (hke:tb.known e=true) (hsz:tb.size e=sz)
  (hx:env.pv H x=some (.slc sz es full)) (hi:env.pv H i=some (.base (.int k m))) (h0:0≤m) (he:es[m.toNat]?=some p):QStep P g H o env (.pv (.ptr p 0)):=by
 refine ⟨fun K ρ a w hf hv=>?_⟩
 have hxr:=qo hf (hv x (by rw [hop];simp [Op.operands])) hx
 have hir:=qo hf (hv i (by rw [hop];simp [Op.operands])) hi
 generalize hxv:a.eval x=xv at hxr
 generalize hiv:a.eval i=iv at hir
 cases hir
 have hko:tb.k e≠.oth:=by intro h;simp [Tab.known,h] at hke
 have hs:=run_sizeOf htb hko w
 have hlt:m.toNat < es.length:=(List.getElem?_eq_some_iff.1 he).1
 cases hxr with
 | nil=>simp at hlt
 | emp=>simp at hlt
 | slc _ _ _ b off cap vss h1 h2 h3 h4 h5 h6 h7 =>
  have:(execOp a.eval o).run P w=.ok (.value (.pointer (some ⟨b,off + m.toNat * sz,none⟩))) w:=by
   have hlt':m < (es.length:Int):=by omega
   simp [execOp,hop,hxv,hiv,Instr.indexAt,asIntOf,run_underlying (Zl htb hk),h0,hlt',hs,hsz,Addr.add_lit]
  rw [this]
  refine Yh hf (.pv _ _ ?_)
  obtain ⟨e1,e2,e3⟩:=h6 _ p he
  have:=PRel.ptr (K:=K) (w:=w) p 0 b (off + m.toNat * sz) (vss m.toNat) (by omega) e3 (fun k c v hc hv=>h7 _ p k c v he hc hv)
  simpa using this
end
mutual
def kill (i:Nat):AV→AV
 | .own j=>if j=i then .any1 else .own j
 | .ad j o=>if j=i then .any1 else .ad j o
 | .agg cs=>.agg (kills i cs)
 | .fn f a b=>.fn f (kills i a) (kills i b)
 | .pv p=>.pv p
 | .box j o=>.box j o
 | .any=>.any
 | .any1=>.any1
def kills (i:Nat):List AV→List AV
 | []=>[]
 | c::cs=>kill i c::kills i cs
end
def zes (i:Nat):Env→Env
 | []=>[]
 | (t,v)::e=>(t,kill i v)::zes i e
def XO (i:Nat):HEnv→HEnv
 | []=>[]
 | (j,.cell v)::e=>(j,.cell (kill i v))::XO i e
 | (j,.pin v u)::e=>(j,.pin (kill i v) u)::XO i e
 | x::e=>x::XO i e
def isVal (H:HEnv) (i:Nat):Bool:=match H.get i with|some (.row _ _ _)=>true|some (.obj _)=>true|some (.mrow _ _ _)=>true|_=>false
def zmj (H:HEnv):AV→Bool
 | .pv (.agg _)=>false
 | .pv (.tup _)=>false
 | .pv _=>true
 | .own i=>isVal H i
 | .box _ _=>true
 | .ad _ _=>true
 | .fn _ _ _=>true
 | _=>false
section
variable {P:Program} {tb:Tab} {n:Nat} {g:Base} {K K':KK} {w w':World} {ρ ρ':Nat→Value} {H H':HEnv} {env:Env} {a:Act} {ops:List Oper} {o:Oper} {rest:List Oper} {Q:Env→HEnv→Prop} {QQ:QC} {c:Code}
theorem zc3 (i:Nat):∀ (cs:List AV) (k:Nat),(kills i cs)[k]?=(cs[k]?).map (kill i)
 | [],k=>by simp [kills]
 | c::cs,k=>by
  cases k with
  | zero=>simp [kills]
  | succ k=>simp [kills,zc3 i cs k]
theorem Vr (i:Nat):∀ (cs:List AV),(kills i cs).length=cs.length
 | []=>rfl
 | c::cs=>by simp [kills,Vr i cs]
theorem zcv (i:Nat):∀ (e:Env) (t:Nat),(zes i e).get t=(e.get t).map (kill i)
 | [],t=>rfl
 | (t',v)::e,t=>by
  simp only [zes,Env.get_nil,Env.get_cons]
  split
  ·rfl
  ·exact zcv i e t
def killHE (i:Nat):HE→HE
 | .cell v=>.cell (kill i v)
 | .pin v u=>.pin (kill i v) u
 | h=>h
theorem YN (i:Nat):∀ (e:HEnv) (t:Nat),(XO i e).get t=(e.get t).map (killHE i)
 | [],t=>rfl
 | (j,h)::e,t=>by
  cases h <;> simp only [XO,HEnv.get_nil,HEnv.get_cons] <;> split <;> first|rfl|exact YN i e t
theorem ARel.kill (hl:Later K K' w w') (i:Nat) (hk:∀ j,j≠i→(H.get j).isSome=true→(H'.get j).isSome=true∧ρ' j=ρ j)
  (hb:∀ b,ρ i=.pointer (some ⟨b,0,none⟩)→False) (h1:(ρ i).cells=#[ρ i]∧(ρ i).oneCell'=true) {av:AV} {v:Value} (h:ARel K w ρ H av v):ARel K' w' ρ' H' (Cg.kill i av) v:=by
 induction h with
 | pv p v hp=>exact .pv p v (hp.later hl)
 | own j hj =>
  simp only [Cg.kill]
  split
  ·rename_i e;subst e;exact .any1 _ h1.1 h1.2
  ·rename_i hne
   obtain ⟨h1,h2⟩:=hk j hne hj
   rw [←h2];exact .own j h1
 | box j off b hj hr =>
  by_cases e:j=i
  ·subst e;exact (hb b hr).elim
  ·obtain ⟨h1,h2⟩:=hk j e hj
   exact .box j off b h1 (by rw [h2];exact hr)
 | ad j off b m c hj hr =>
  simp only [Cg.kill]
  split
  ·exact .any1 _ rfl rfl
  ·rename_i hne
   obtain ⟨h1,h2⟩:=hk j hne hj
   exact .ad j off b m c h1 (by rw [h2];exact hr)
 | agg cs vs h1 h2 _ ih =>
  refine .agg _ vs (by rw [Vr];exact h1) h2 fun k c v hc hv=>?_
  rw [zc3] at hc
  cases hcs:cs[k]? with
  | none=>simp [hcs] at hc
  | some c'=>simp [hcs] at hc;subst hc;exact ih k c' v hcs hv
 | fn f first cap vf vc h1 h2 _ _ ih1 ih2 =>
  refine .fn f _ _ vf vc (by rw [Vr];exact h1) (by rw [Vr];exact h2) (fun k c v hc hv=>?_) (fun k c v hc hv=>?_)
  ·rw [zc3] at hc
   cases hcs:first[k]? with
   | none=>simp [hcs] at hc
   | some c'=>simp [hcs] at hc;subst hc;exact ih1 k c' v hcs hv
  ·rw [zc3] at hc
   cases hcs:cap[k]? with
   | none=>simp [hcs] at hc
   | some c'=>simp [hcs] at hc;subst hc;exact ih2 k c' v hcs hv
 | any v=>exact .any v
 | any1 v h1 h2=>exact .any1 v h1 h2
theorem ARel.keeps (hl:Later K K' w w') (hk:∀ j,(H.get j).isSome=true→(H'.get j).isSome=true∧ρ' j=ρ j) {av:AV} {v:Value} (h:ARel K w ρ H av v):ARel K' w' ρ' H' av v:=by
 induction h with
 | pv p v hp=>exact .pv p v (hp.later hl)
 | own j hj=>obtain ⟨h1,h2⟩:=hk j hj;rw [←h2];exact .own j h1
 | box j off b hj hr=>obtain ⟨h1,h2⟩:=hk j hj;exact .box j off b h1 (by rw [h2];exact hr)
 | ad j off b m c hj hr=>obtain ⟨h1,h2⟩:=hk j hj;exact .ad j off b m c h1 (by rw [h2];exact hr)
 | agg cs vs h1 h2 _ ih=>exact .agg cs vs h1 h2 ih
 | fn f first cap vf vc h1 h2 _ _ ih1 ih2=>exact .fn f first cap vf vc h1 h2 ih1 ih2
 | any v=>exact .any v
 | any1 v h1 h2=>exact .any1 v h1 h2
theorem HOk.keeps {B:Nat} (hev:Evo K K' w w') (hl:∀ b o,K b o→b < w.heap.size) (hk:∀ j,(H.get j).isSome=true→(H'.get j).isSome=true∧ρ' j=ρ j) {e:HE} {r:Value} (h:HOk K w B ρ H e r):HOk K' w' B ρ' H' e r:=by
 have hlat:=hev.later hl
 cases e with
 | cell v =>
  obtain ⟨b,t,arr,u,rfl,hB,hb,hu,ha,hn⟩:=h
  have hlt:b < w.heap.size:=(Array.getElem?_eq_some_iff.1 hb).1
  exact ⟨b,t,arr,u,rfl,hB,by rw [hev.below.block b hlt];exact hb,hu.keeps hlat hk,ha,fun o ho=>(hev.new b o ho).elim (hn o) (fun h2=>by omega)⟩
 | row t sz es =>
  obtain ⟨xs,hown,h0,hc,hkk⟩:=h
  refine ⟨xs,hown.kept (row:=none) ⟨hev.below.os,hev.below.tape,hev.below.output,hev.below.size,fun k hk _=>hev.below.block k hk⟩ ?_,h0,?_,?_⟩
  ·cases hb:r.ownBlock <;> simp
  ·intro i e he
   obtain ⟨h2,h3⟩:=hc i e he
   exact ⟨h2,fun k c hc=>let ⟨v,h4,h5,h6⟩:=h3 k c hc;⟨v,h4,h5,h6.later hlat⟩⟩
  ·intro b hb o
   rw [←hkk b hb o]
   have hlt:=(hown.lt b hb).2
   exact ⟨fun ho=>(hev.new b o ho).resolve_right (by omega),hev.sub b o⟩
 | mrow t sz es =>
  obtain ⟨xs,hown,h0,hc,hkk⟩:=h
  refine ⟨xs,hown.kept (row:=none) ⟨hev.below.os,hev.below.tape,hev.below.output,hev.below.size,fun k hk _=>hev.below.block k hk⟩ ?_,h0,?_,?_⟩
  ·cases hb:r.ownBlock <;> simp
  ·intro i e he
   obtain ⟨h2,h3⟩:=hc i e he
   exact ⟨h2,fun k c hc=>let ⟨v,h4,h5,h6⟩:=h3 k c hc;⟨v,h4,h5,h6.later hlat⟩⟩
  ·intro b hb o ho
   have hlt:=(hown.lt b hb).2
   exact (hev.new b o ho).elim (hkk b hb o) (fun h2=>by omega)
 | dead=>trivial
 | pin v u=>exact ARel.keeps hlat hk h
 | obj X =>
  obtain ⟨b,ob,rfl,hB,hb,hx,hn⟩:=h
  have hlt:b < w.heap.size:=(Array.getElem?_eq_some_iff.1 hb).1
  exact ⟨b,ob,rfl,hB,by rw [hev.below.block b hlt];exact hb,hx,fun o ho=>(hev.new b o ho).elim (hn o) (fun h2=>by omega)⟩
theorem HOk.block_lt {B:Nat} {e:HE} {r:Value} (h:HOk K w B ρ H e r) (hl:e.live=true) {b:Nat} (hb:zY r=some b):B≤b∧b < w.heap.size:=by
 cases e with
 | cell v =>
  obtain ⟨b',t,arr,u,rfl,hB,hb',_⟩:=h
  simp only [zY,Option.some.injEq] at hb;subst hb
  exact ⟨hB,(Array.getElem?_eq_some_iff.1 hb').1⟩
 | row t sz es =>
  obtain ⟨xs,hown,_⟩:=h
  refine hown.lt b ?_
  rcases hown.2 with ⟨rfl,_⟩|⟨g,_,_,rfl,_⟩
  ·simp [zY] at hb
  ·simpa [zY,Value.ownBlock] using hb
 | mrow t sz es =>
  obtain ⟨xs,hown,_⟩:=h
  refine hown.lt b ?_
  rcases hown.2 with ⟨rfl,_⟩|⟨g,_,_,rfl,_⟩
  ·simp [zY] at hb
  ·simpa [zY,Value.ownBlock] using hb
 | dead=>simp [HE.live] at hl
 | pin v u=>simp [HE.live] at hl
 | obj X =>
  obtain ⟨b',ob,rfl,hB,hb',_⟩:=h
  simp only [zY,Option.some.injEq] at hb;subst hb
  exact ⟨hB,(Array.getElem?_eq_some_iff.1 hb').1⟩
theorem FS.fresh (hf:FS g K ρ H w) (hev:Evo K K' w w') {i:Nat} (hi:H.get i=none) {e:HE} {r:Value} (hok:HOk K' w' g.w0.heap.size (fun j=>if j=i then r else ρ j) ((i,e)::H) e r)
  (hnew:∀ b,zY r=some b→w.heap.size≤b):FS g K' (fun j=>if j=i then r else ρ j) ((i,e)::H) w':=by
 have hk:∀ j,(H.get j).isSome=true→(HEnv.get ((i,e)::H) j).isSome=true∧(fun j=>if j=i then r else ρ j) j=ρ j:=by
  intro j hj
  have hne:j≠i:=by rintro rfl;simp [hi] at hj
  refine ⟨?_,by simp [hne]⟩
  simp only [HEnv.get_nil,HEnv.get_cons];rw [if_neg (Ne.symm hne)];exact hj
 have h1:=hf.evo hev
 refine ⟨h1.below,h1.old,h1.new,h1.lt,h1.others,h1.pt,hf.away.fresh (fun b hb=>hf.pt.lt (hnew b hb)),?_,?_⟩
 ·intro j h hj
  simp only [HEnv.get_nil,HEnv.get_cons] at hj
  split at hj
  ·rename_i e';subst e';simp only [Option.some.injEq] at hj;subst hj;simpa using hok
  ·rename_i hne
   have:=(hf.heap.ok j h hj).keeps hev hf.lt hk
   simpa [Ne.symm hne] using this
 ·intro j k h h' b hjk hj hk' hlj hlk hbj hbk
  simp only [HEnv.get_nil,HEnv.get_cons] at hj hk'
  split at hj
  ·rename_i e';subst e'
   split at hk'
   ·rename_i e'';exact hjk (by omega)
   ·rename_i hne
    simp only [if_true] at hbj
    simp only [Ne.symm hne,if_false] at hbk
    have:=hnew b hbj
    have:=((hf.heap.ok k h' hk').block_lt hlk hbk).2
    omega
  ·rename_i hne
   simp only [Ne.symm hne,if_false] at hbj
   split at hk'
   ·rename_i e'';subst e''
    simp only [if_true] at hbk
    have:=hnew b hbk
    have:=((hf.heap.ok j h hj).block_lt hlj hbj).2
    omega
   ·rename_i hne'
    simp only [Ne.symm hne',if_false] at hbk
    exact hf.heap.apart j k h h' b hjk hj hk' hlj hlk hbj hbk
theorem EnvR.keeps {tmps:Array Value} (hl:Later K K' w w') (hk:∀ j,(H.get j).isSome=true→(H'.get j).isSome=true∧ρ' j=ρ j) (he:EnvR K w ρ H env tmps):EnvR K' w' ρ' H' env tmps :=
 fun t av ht=>let ⟨v,h1,h2⟩:=he t av ht;⟨v,h1,h2.keeps hl hk⟩
theorem qO {i:Nat} (hi:H.get i=none) (e:HE) (r:Value):∀ j,(H.get j).isSome=true→(HEnv.get ((i,e)::H) j).isSome=true∧(fun j=>if j=i then r else ρ j) j=ρ j:=by
 intro j hj
 have hne:j≠i:=by rintro rfl;simp [hi] at hj
 refine ⟨?_,by simp [hne]⟩
 simp only [HEnv.get_nil,HEnv.get_cons];rw [if_neg (Ne.symm hne)];exact hj
def zcw (v:Value):Option AV :=
 match v with
 | .agg cs=>match Vs cs.toList with|some ps=>some (.pv (.agg ps))|none=>none
 | v=>if Xh v then some (.pv (.base v)) else none
theorem ZO (htb:qp P tb) {ty t:Nat} (i:Nat) (hg:guardE ops env o=some true) (hop:o.op=.alloc ty) {z:Value} (hz:tb.zero ty=some z) {za:AV} (hza:zcw z=some za) (hi:H.get i=none) (hd:o.dst=some t) (ht:Nat.blt t n=true)
  (h:AO P n g ops.toArray rest ((t,.box i 0)::env) ((i,.cell za)::H) Q):AO P n g ops.toArray (o::rest) env H Q:=by
 refine ⟨fun a w hinv=>?_⟩
 have hw:=qE hinv hg
 obtain ⟨h1,h2,K,ρ,hf,he⟩:=hinv
 refine wpList_step fun KK hKK=>?_
 rw [if_pos hw]
 have hzi:∃ i,P.info? ty=some i∧i.zero=some z:=by
  unfold Tab.zero at hz
  split at hz
  ·rename_i ti hti
   obtain ⟨i,e1,_,_,e4,_⟩:=ZH htb hti
   exact ⟨i,e1,by rw [e4];exact hz⟩
  ·cases hz
 obtain ⟨ti,hti,htz⟩:=hzi
 have hrun:(execOp a.eval o).run P w=.ok (.value (.pointer (some ⟨w.heap.size,0,none⟩))) (w.alloc (.cells z.cells ty)):=by
  simp [execOp,hop,Instr.alloc,zeroValue,typeInfo,hti,htz,newVar,newRow]
 unfold Oper.wp
 rw [hrun]
 simp only [Oper.upon]
 have hev:Evo K K w (w.alloc (.cells z.cells ty)):=⟨(Below.refl _ _).alloc (Nat.le_refl _) _,fun _ _ h=>h,fun _ _ h=>.inl h,fun b o h=>by have:=hf.lt b o h;simp;omega⟩
 have hzr:ARel K (w.alloc (.cells z.cells ty)) (fun j=>if j=i then .pointer (some ⟨w.heap.size,0,none⟩) else ρ j) ((i,.cell za)::H) za z:=by
  unfold zcw at hza
  split at hza
  ·rename_i cs
   split at hza
   ·rename_i ps hps
    simp only [Option.some.injEq] at hza;subst hza
    have hr:=Xo (K:=K) (w:=w.alloc (.cells (Value.agg cs).cells ty)) hps
    have:=PRel.agg ps cs.toList hr.1 (Xv hps) hr.2
    exact .pv _ _ (by simpa using this)
   ·cases hza
  ·split at hza
   ·rename_i ho
    simp only [Option.some.injEq] at hza;subst hza
    exact .pv _ _ (.base _ ho)
   ·cases hza
 refine hKK _ _ (h.go _ _ ⟨Zg h1,put_defers h2,K,fun j=>if j=i then .pointer (some ⟨w.heap.size,0,none⟩) else ρ j,hf.fresh hev hi ⟨w.heap.size,ty,z.cells,z,rfl,hf.below.size,heap_alloc_new w _,hzr,rfl,fun o ho=>by have:=hf.lt _ o ho;omega⟩ (by simp [zY]),?_⟩)
 rw [hd]
 exact Yp h1 ht (he.keeps (hev.later hf.lt) (qO hi _ _)) (.box i 0 _ (by simp [HEnv.get_nil,HEnv.get_cons]) (by simp))
theorem zcX {ty:TypeId} {x:Operand} {t:Nat} (i:Nat) (hg:guardE ops env o=some true) (hop:o.op=.box ty x) {v:AV} (hx:env.val x=some v) (hi:H.get i=none) (hd:o.dst=some t) (ht:Nat.blt t n=true)
  (h:AO P n g ops.toArray rest ((t,.box i 0)::env) ((i,.cell v)::H) Q):AO P n g ops.toArray (o::rest) env H Q:=by
 refine ⟨fun a w hinv=>?_⟩
 have hw:=qE hinv hg
 obtain ⟨h1,h2,K,ρ,hf,he⟩:=hinv
 refine wpList_step fun KK hKK=>?_
 rw [if_pos hw]
 have hrun:(execOp a.eval o).run P w=.ok (.value (.pointer (some ⟨w.heap.size,0,none⟩))) (w.alloc (.cells (a.eval x).cells ty)):=by
  simp [execOp,hop,Instr.box,newVar,newRow]
 unfold Oper.wp
 rw [hrun]
 simp only [Oper.upon]
 have hev:Evo K K w (w.alloc (.cells (a.eval x).cells ty)):=⟨(Below.refl _ _).alloc (Nat.le_refl _) _,fun _ _ h=>h,fun _ _ h=>.inl h,fun b o h=>by have:=hf.lt b o h;simp;omega⟩
 have hxr:=qQ he hx
 refine hKK _ _ (h.go _ _ ⟨Zg h1,put_defers h2,K,fun j=>if j=i then .pointer (some ⟨w.heap.size,0,none⟩) else ρ j,hf.fresh hev hi ⟨w.heap.size,ty,_,a.eval x,rfl,hf.below.size,heap_alloc_new w _,hxr.keeps (hev.later hf.lt) (qO hi _ _),rfl,fun o ho=>by have:=hf.lt _ o ho;omega⟩ (by simp [zY]),?_⟩)
 rw [hd]
 exact Yp h1 ht (he.keeps (hev.later hf.lt) (qO hi _ _)) (.box i 0 _ (by simp [HEnv.get_nil,HEnv.get_cons]) (by simp))
theorem zkx {t:Nat} (i:Nat) (e:TypeId) (sz:Nat) (hsz:0 < sz) (ht:env.get t=some (.pv (.base (.slice none 0 0)))) (hi:H.get i=none) (hinv:Inv n g env H a w):Inv n g ((t,.own i)::env) ((i,.row e sz [])::H) a w:=by
 obtain ⟨h1,h2,K,ρ,hf,he⟩:=hinv
 have hev:Evo K K w w:=.refl hf.lt
 refine ⟨h1,h2,K,fun j=>if j=i then .slice none 0 0 else ρ j,hf.fresh hev hi ⟨[],World.ownsRow_nil w _ e sz,hsz,fun i e h=>by simp at h,by simp [Value.ownBlock]⟩ (by simp [zY]),?_⟩
 have he':=he.keeps (hev.later hf.lt) (H':=(i,.row e sz [])::H) (qO hi _ (.slice none 0 0))
 intro t' av hg
 simp only [Env.get_nil,Env.get_cons] at hg
 split at hg
 ·rename_i e';subst e'
  simp only [Option.some.injEq] at hg;subst hg
  obtain ⟨v,hv,hr⟩:=he _ _ ht
  cases hr with
  | pv _ _ hp =>
   cases hp
   refine ⟨_,hv,?_⟩
   have:=ARel.own (K:=K) (w:=w) (ρ:=fun j=>if j=i then .slice none 0 0 else ρ j) (H:=(i,HE.row e sz [])::H) i (by simp [HEnv.get_nil,HEnv.get_cons])
   simpa using this
 ·exact he' _ _ hg
theorem qY {t:Nat} (i:Nat) (e:TypeId) (sz:Nat) (hsz:0 < sz) (ht:env.get t=some (.pv (.base (.slice none 0 0)))) (hi:H.get i=none) (h:AW P n g c ((t,.own i)::env) ((i,.row e sz [])::H) QQ):AW P n g c env H QQ :=
 ⟨fun a w hinv=>h.go a w (zkx i e sz hsz ht hi hinv)⟩
theorem zf6 (b i:Nat) (e:TypeId) (sz:Nat) (hsz:0 < sz) (hb:H.get b=some (.cell (.pv (.base (.slice none 0 0))))) (hi:H.get i=none) (h:AW P n g c env ((b,.cell (.own i))::(i,.row e sz [])::H) QQ):AW P n g c env H QQ:=by
 refine ⟨fun a w hinv=>h.go a w ?_⟩
 obtain ⟨h1,h2,K,ρ,hf,he⟩:=hinv
 have hev:Evo K K w w:=.refl hf.lt
 have hne:b≠i:=by rintro rfl;simp [hi] at hb
 have hf2:FS g K (fun j=>if j=i then .slice none 0 0 else ρ j) ((i,.row e sz [])::H) w:=hf.fresh hev hi ⟨[],World.ownsRow_nil w _ e sz,hsz,fun i e h=>by simp at h,by simp [Value.ownBlock]⟩ (by simp [zY])
 have hk:∀ j,(HEnv.get ((i,HE.row e sz [])::H) j).isSome=true→(HEnv.get ((b,.cell (.own i))::(i,HE.row e sz [])::H) j).isSome=true∧(fun j=>if j=i then Value.slice none 0 0 else ρ j) j=(fun j=>if j=i then Value.slice none 0 0 else ρ j) j:=by
  intro j hj
  refine ⟨?_,rfl⟩
  simp only [HEnv.get_nil,HEnv.get_cons] at hj ⊢
  split
  ·rfl
  ·exact hj
 have hlat:=hev.later hf.lt
 refine ⟨h1,h2,K,fun j=>if j=i then .slice none 0 0 else ρ j,⟨hf2.below,hf2.old,hf2.new,hf2.lt,hf2.others,hf2.pt,hf2.away.set (e0:=.cell (.pv (.base (.slice none 0 0)))) (by rw [HEnv.get_cons,if_neg (Ne.symm hne)];exact hb) rfl,?_,?_⟩,(he.keeps hlat (qO hi _ _)).keeps hlat hk⟩
 ·intro j hh hj
  simp only [HEnv.get_nil,HEnv.get_cons] at hj
  split at hj
  ·rename_i e';subst e'
   simp only [Option.some.injEq] at hj;subst hj
   obtain ⟨b',t',arr,u,hr,hB,hheap,hu,harr,hn⟩:=hf.heap.ok b _ hb
   refine ⟨b',t',arr,u,by simpa [hne] using hr,hB,hheap,?_,harr,hn⟩
   cases hu with
   | pv _ _ hp =>
    cases hp
    have:=ARel.own (K:=K) (w:=w) (ρ:=fun j=>if j=i then .slice none 0 0 else ρ j) (H:=(b,.cell (.own i))::(i,HE.row e sz [])::H) i (by simp [HEnv.get_nil,HEnv.get_cons,hne])
    simpa using this
  ·have:=(hf2.heap.ok j hh (by simpa only [HEnv.get_nil,HEnv.get_cons] using hj)).keeps hev hf.lt hk
   exact this
 ·intro j k hh hh' bb hjk hj hk' hlj hlk hbj hbk
  have e1:∀ (j:Nat) (hh:HE),HEnv.get ((b,.cell (.own i))::(i,HE.row e sz [])::H) j=some hh→hh.live=true→∃ h0,HEnv.get ((i,HE.row e sz [])::H) j=some h0∧h0.live=true:=by
   intro j hh hj hl
   rw [HEnv.get_cons] at hj
   split at hj
   ·rename_i e';subst e'
    refine ⟨.cell (.pv (.base (.slice none 0 0))),?_,rfl⟩
    simp only [HEnv.get_nil,HEnv.get_cons];rw [if_neg (Ne.symm hne)];exact hb
   ·exact ⟨hh,hj,hl⟩
  obtain ⟨a1,a2,a3⟩:=e1 j hh hj hlj
  obtain ⟨b1,b2,b3⟩:=e1 k hh' hk' hlk
  exact hf2.heap.apart j k a1 b1 bb hjk a2 b2 a3 b3 hbj hbk
end
end Go.Cg
