/- A part of the walks by abstract values: no statement of its own. -/
import Derived.JoinedOf
import Derived.Test.YtdlokcmodgccnaaGreatU6
import Derived.OpenShut
import Derived.Deep.Slices
import Derived.ProofKit
import Derived.Test.YtdlokcmodgccnaaGreatU5
import Derived.Test.YtdlokcmodgccnaaGreatRows
set_option linter.unusedVariables false
set_option linter.unusedSimpArgs false
namespace Go.Cg
open Go
theorem zpg {P:Program} {f:FuncId} {fn:Func} {s:ChangeSpec} {c:OpenClaim}
  (a1:laidOutB P=true) (a2:mapsRowed P=true) (a3:P.stopsHeard=true) (a4:P.mayEnter=true) (a5:P.liftsFinal=c.lifted) (a6:P.make=some c.make)
  (b1:P.inPlace f=c.inPlace) (b2:P.unfollowed f=c.unfollowed) (b3:P.recurses f=c.recurses) (b4:P.varsNamed f=c.named)
  (rest:(c.wf (OpenSpec.ofChange s)&&fn.params.all (P.readableRec ·)&&namedTie P c.named s.vars &&
   (c.stops==[])&&(P.stops==[])&&(c.knobs==[])&&(P.stopKnobs==[]) &&
   (c.maps==(fn.params.toList++s.plain.varTypes P).any (P.mapsRec ·))&&(c.ifaces==(fn.params.toList++s.plain.varTypes P).any (P.ifacesRec ·))&&(c.mapsOut==P.mapsAmong fn.resultTypes.toList) &&
   (c.loops==(fn.params.toList++s.plain.varTypes P).any (P.loopsFrom ·))&&(c.wideKeys==(fn.params.toList++s.plain.varTypes P++fn.resultTypes.toList).any (P.wideKeysFrom ·)) &&
   s.vars.all (P.varReadable ·)&&fn.resultTypes.all (fun t=>P.readableRec t&&decide (t < P.types.size))&&(c.ifacesOut==fn.resultTypes.toList.any (P.ifacesRec ·))&&(c.loopsOut==fn.resultTypes.toList.any (P.loopsFrom ·))&&(c.plainKeys==P.plainKeys)&&c.shortTexts.isNone&&(c.kinds==(if c.domain.isEmpty then [] else fn.params.toList.map fun t=>match P.underlying t with|some (.int k)=>some k|_=>none))&&(c.pinned==c.pinnedBy) &&
   (c.veiled==(fn.params.toList++s.plain.varTypes P++fn.resultTypes.toList).any (P.veiledRec ·))&&c.veiledFits P fn.params.toList (fn.params.toList++s.plain.varTypes P++fn.resultTypes.toList))=true):joinedFacts P f fn s c=true:=by
 unfold joinedFacts
 rw [a1,a2,a3,a4,a5,a6,b1,b2,b3,b4]
 simp only [Bool.and_eq_true,beq_self_eq_true,and_true,true_and] at rest ⊢
 exact rest
end Go.Cg
namespace Go.Cg
open Go.RowKit
theorem ze4 {P:Program} {tb:Tab} {g:Base} {H:HEnv} {env:Env} {o:Oper} {ty e:TypeId} {x y:Operand} {sz:Nat} {es:List PV} {full full':Bool} (htb:qc P tb) (hop:o.op=.call { callee:=.builtin .append,args:=#[x,y],argTypes:=#[ty,ty] }) (hk:tb.k ty=.sl e)
  (hx:env.pv H x=some (.slc sz es full)) (hy:env.pv H y=some (.slc sz [] full')) (hke:tb.known e=true):QStep P g H o env (.pv (.slc sz es full)):=by
 refine ⟨fun K ρ a w hf hv=>?_⟩
 have hyr:=qw hf (hv y (by rw [hop];simp [Op.operands,Call.operands])) hy
 have hxr:=qw hf (hv x (by rw [hop];simp [Op.operands,Call.operands])) hx
 obtain ⟨news,n1,n2,n3,n4,n5⟩:=Wv hyr
 obtain ⟨us,m1,m2,m3,m4,m5⟩:=Wv hxr
 have hnews:news=[]:=List.eq_nil_of_length_eq_zero (by simpa using n1)
 have hko:tb.k e≠.oth:=by intro h;simp [Tab.known,h] at hke
 have hs:=run_sizeOf (P:=P) htb hko
 have hrun:(Builtin.append_ #[ty,ty] o.type #[a.eval x,a.eval y]).run P w=.ok (a.eval x) w:=by
  rcases n2 with ⟨hy0,_⟩|⟨ad',c',hy1,hy2,_,hxc⟩
  ·rcases m2 with ⟨e1,_⟩|⟨ad1,c1,e1,_,_,hle⟩
   ·rw [e1,hy0];simp [Builtin.append_,run_underlying (qQ htb hk),hs,Builtin.lenOf,Builtin.firstCells]
   ·rw [e1,hy0];simp [Builtin.append_,run_underlying (qQ htb hk),hs,Builtin.lenOf,Builtin.firstCells,hle,storeCells]
  ·rcases m2 with ⟨e1,_⟩|⟨ad1,c1,e1,_,_,hle⟩
   ·rw [e1,hy1];simp [Builtin.append_,run_underlying (qQ htb hk),hs,Builtin.lenOf,Builtin.firstCells,loadCells,loadCellsFrom]
   ·rw [e1,hy1];simp [Builtin.append_,run_underlying (qQ htb hk),hs,Builtin.lenOf,Builtin.firstCells,hle,storeCells,loadCells,loadCellsFrom]
 have:(execOp a.eval o).run P w=.ok (.value (a.eval x)) w:=by
  simp [execOp,hop,resolve,invoke,builtin,hrun]
 rw [this]
 exact ZT hf (.pv _ _ hxr)
end Go.Cg
namespace Go.Cg
open Go.RowKit Go.ChangeShapes Go.WideShapes Go.ChangeAt Go.Deep
def KW (w:World):KK:=fun b _=>b < w.heap.size
section
variable {H:Type} {enc:TypeId × Value→H} {P:Program} {w:World}
def Rd (enc:TypeId × Value→H) (P:Program) (w:World) (t:TypeId) (sz:Nat) (X:List PV→Prop):Prop :=
 P.cellsOf t=sz∧∀ fuel cs x,DataW.trod enc P w 0 (fun _=>true) true fuel t cs=some x→∃ pvs,X pvs∧PRels (KW w) w pvs cs∧cs.length=sz∧(∀ v∈cs,v.oneCell'=true)
theorem Rd.mono {t:TypeId} {sz:Nat} {X Y:List PV→Prop} (h:Rd enc P w t sz X) (hxy:∀ ps,X ps→Y ps):Rd enc P w t sz Y :=
 ⟨h.1,fun fuel cs x hx=>let ⟨ps,h1,h2⟩:=h.2 fuel cs x hx;⟨ps,hxy ps h1,h2⟩⟩
theorem zm3 {t:TypeId} {k:IntKind} (ht:P.underlying t=some (.int k)) (hc:P.cellsOf t=1):Rd enc P w t 1 (fun ps=>∃ n,(Lit.int k n).wf=true∧ps=[.base (.int k n)]):=by
 refine ⟨hc,fun fuel cs x hx=>?_⟩
 obtain ⟨n,rfl,_,hw⟩:=DataW.trod_int ht hx
 exact ⟨_,⟨n,hw,rfl⟩,.cons (.base _ rfl) .nil,rfl,by simp [Value.oneCell']⟩
theorem zsz {t:TypeId} (ht:P.underlying t=some .bool) (hc:P.cellsOf t=1):Rd enc P w t 1 (fun ps=>∃ b,ps=[.base (.bool b)]):=by
 refine ⟨hc,fun fuel cs x hx=>?_⟩
 obtain ⟨b,rfl,_⟩:=DataW.trod_bool ht hx
 exact ⟨_,⟨b,rfl⟩,.cons (.base _ rfl) .nil,rfl,by simp [Value.oneCell']⟩
theorem zob {t:TypeId} (ht:P.underlying t=some .string) (hc:P.cellsOf t=1):Rd enc P w t 1 (fun ps=>∃ s:ByteArray,s.size≤maxLen∧ps=[.base (.string s)]):=by
 refine ⟨hc,fun fuel cs x hx=>?_⟩
 obtain ⟨s,rfl,_,hs⟩:=DataW.trod_string ht hx
 exact ⟨_,⟨s,hs,rfl⟩,.cons (.base _ (by simpa [Xa] using hs)) .nil,rfl,by simp [Value.oneCell']⟩
theorem VP {t e:TypeId} {sz:Nat} {α:Type} [Inhabited α] {G:α→Prop} {f:α→PV} (ht:P.underlying t=some (.slice e)) (hc:P.cellsOf t=1) (h0:0 < sz) (he:Rd enc P w e sz (fun ps=>∃ x:α,G x∧ps=(f x).cells)) :
  Rd enc P w t 1 (fun ps=>∃ l:List α,(∀ x∈l,G x)∧ps=[.slc sz (l.map f) false]):=by
 refine ⟨hc,fun fuel cs x hx=>?_⟩
 obtain ⟨hes,hel⟩:=he
 rcases open_slice ht hx with ⟨rfl,_⟩|⟨a,len,cap,m,n,D,Pl,rfl,_,hl,hm,hmm,_,hall⟩
 ·exact ⟨_,⟨[],by simp,rfl⟩,.cons (.nil sz false) .nil,rfl,by simp [Value.oneCell']⟩
 ·simp only [if_true] at hmm
  subst hmm
  rw [hes] at hall
  by_cases hcap:m=0
  ·subst hcap
   obtain rfl:len=0:=by omega
   exact ⟨_,⟨[],by simp,rfl⟩,.cons (.emp sz false a) .nil,rfl,by simp [Value.oneCell']⟩
  ·have hx:∀ i,i < len→∃ y:α × List Value,G y.1∧w.cells? 0 (a.add (i * sz)) sz=some y.2∧PRels (KW w) w (f y.1).cells y.2∧y.2.length=sz∧(∀ v∈y.2,v.oneCell'=true):=by
    intro i hi
    obtain ⟨cs',h1,h2⟩:=hall i (by omega)
    obtain ⟨pvs,⟨x,hg,rfl⟩,h4,h5,h6⟩:=hel _ _ _ h2
    exact ⟨(x,cs'),hg,h1,h4,h5,h6⟩
   obtain ⟨F,hF⟩:=choose_lt hx
   obtain ⟨b,o,spot⟩:=a
   have hspot:spot=none:=by
    obtain ⟨cs',h1,_⟩:=hall 0 (by omega)
    obtain ⟨_,h2,h3⟩:=World.cells?_some h1
    have:=h3 0 h0
    have h4:cs'[0]?=some (cs'[0]'(by omega)):=List.getElem?_eq_getElem _
    rw [h4] at this
    simp only [Nat.zero_mul] at this
    have:=World.cell?_spot this
    simpa [Addr.add] using this
   subst hspot
   refine ⟨_,⟨(List.range len).map fun i=>(F i).1,?_,rfl⟩,.cons ?_ .nil,rfl,by simp [Value.oneCell']⟩
   ·intro x hx
    simp only [List.mem_map,List.mem_range] at hx
    obtain ⟨i,hi,rfl⟩:=hx
    exact (hF i hi).1
   ·have hlen:(((List.range len).map fun i=>(F i).1).map f).length=len:=by simp
    have hget:∀ i e,(((List.range len).map fun i=>(F i).1).map f)[i]?=some e→i < len∧e=f (F i).1:=by
     intro i e he
     have hi:i < len:=by have:=(List.getElem?_eq_some_iff.1 he).1;rw [hlen] at this;exact this
     refine ⟨hi,?_⟩
     simp [hi] at he
     exact he.symm
    have:=PRel.slc (K:=KW w) (w:=w) sz (((List.range len).map fun i=>(F i).1).map f) false b o m (fun i=>(F i).2) h0 (by rw [hlen];exact hl) (by simp) (by rw [hlen];omega) hm
     (fun i e he=>by
      obtain ⟨hi,rfl⟩:=hget i e he
      obtain ⟨_,h1,h2,h3,h4⟩:=hF i hi
      refine ⟨by rw [←h2.1];exact h3,h3,fun k v hv=>?_⟩
      have hk:k < sz:=by rw [←h3];exact (List.getElem?_eq_some_iff.1 hv).1
      obtain ⟨_,_,h5⟩:=World.cells?_some h1
      have h6:=h5 k hk
      rw [hv,Addr.add_lit,Addr.add_lit] at h6
      have h7:b < w.heap.size:=World.cells?_block h1 h0 |> (by simpa [Addr.add_lit] using ·)
      exact ⟨h7,h6,h4 v (List.mem_of_getElem? hv)⟩)
     (fun i e k c v he hc hv=>by
      obtain ⟨hi,rfl⟩:=hget i e he
      exact (hF i hi).2.2.1.2 k c v hc hv)
    rw [hlen] at this
    exact this
def zsf:List (List PV→Prop)→List PV→Prop
 | [],ps=>ps=[]
 | X::r,ps=>∃ a b,X a∧zsf r b∧ps=a++b
def ziG (enc:TypeId × Value→H) (P:Program) (w:World) (n:Nat):List Field→List (List PV→Prop)→Nat→Prop
 | [],[],off=>off=n
 | f::fs,X::Xs,off=>f.offset=off∧∃ sz,Rd enc P w f.type sz X∧ziG enc P w n fs Xs (off + sz)
 | _,_,_=>False
theorem Vz {n:Nat}:ziG enc P w n [] [] n:=rfl
theorem yO {n sz off:Nat} {f:Field} {fs:List Field} {X:List PV→Prop} {Xs:List (List PV→Prop)} (ho:f.offset=off) (hr:Rd enc P w f.type sz X) (h:ziG enc P w n fs Xs (off + sz)):ziG enc P w n (f::fs) (X::Xs) off:=⟨ho,sz,hr,h⟩
theorem zkF {n m:Nat} {cs:List Value} (hl:cs.length=n):∀ {fs:List Field} {Xs:List (List PV→Prop)} {off:Nat},ziG enc P w n fs Xs off →
  (∀ (i:Nat) (f:Field),fs[i]?=some f→∃ x,DataW.trod enc P w 0 (fun _=>true) true m f.type ((cs.drop f.offset).take (P.cellsOf f.type))=some x) →
  ∃ pvs,zsf Xs pvs∧PRels (KW w) w pvs (cs.drop off)∧(∀ v∈cs.drop off,v.oneCell'=true)
 | [],[],off,h,_=>by
  have h:off=n:=h
  subst h
  have:cs.drop off=[]:=by rw [←hl];simp
  rw [this]
  exact ⟨[],rfl,.nil,by simp⟩
 | f::fs,X::Xs,off,h,hall=>by
  obtain ⟨rfl,sz,⟨h1,h2⟩,h3⟩:=h
  obtain ⟨x,hx⟩:=hall 0 f rfl
  obtain ⟨pa,a1,a2,a3,a4⟩:=h2 _ _ _ hx
  obtain ⟨pb,b1,b2,b3⟩:=zkF hl h3 (fun i g hg=>hall (i + 1) g (by simpa using hg))
  have e:cs.drop f.offset=(cs.drop f.offset).take sz++cs.drop (f.offset + sz):=by
   rw [←List.drop_drop,List.take_append_drop]
  rw [h1] at a2 a3 a4
  rw [e]
  exact ⟨pa++pb,⟨pa,pb,a1,b1,rfl⟩,a2.append b2,fun v hv=>(List.mem_append.1 hv).elim (a4 v) (b3 v)⟩
theorem XJ {t:TypeId} {fs:Array Field} {n:Nat} {Xs:List (List PV→Prop)} (ht:P.underlying t=some (.struct fs)) (hc:P.cellsOf t=n) (hf:ziG enc P w n fs.toList Xs 0):Rd enc P w t n (zsf Xs):=by
 refine ⟨hc,fun fuel cs x hx=>?_⟩
 obtain ⟨xs,m,_,_,hl,hxs,hall⟩:=DataW.trod_struct ht hx
 have:=zkF (m:=m) (by rw [hl,hc]) hf (fun i f hf=>by
  have hi:i < fs.size:=by simpa using (List.getElem?_eq_some_iff.1 hf).1
  have:=hall i f (by simpa using hf)
  exact ⟨_,this.trans (List.getElem?_eq_getElem (by omega))⟩)
 simp only [List.drop_zero] at this
 obtain ⟨pvs,h1,h2,h3⟩:=this
 exact ⟨pvs,h1,h2,by rw [hl,hc],h3⟩
theorem zsN {t:TypeId} {X:List PV→Prop} (h:Rd enc P w t 1 X) {v:Value} {d:DataW H} {ps:List MemPlace} (hv:v.cells=#[v]) (ht:DataW.Trod enc P w 0 (fun _=>true) true t v d ps):∃ p,X [p]∧PRel (KW w) w p v:=by
 obtain ⟨fuel,hx⟩:=ht
 obtain ⟨pvs,h1,h2,_,_⟩:=h.2 _ _ _ hx
 rw [hv] at h2
 have hl:pvs.length=1:=by simpa using h2.1.symm
 obtain ⟨p,rfl⟩:=List.length_eq_one_iff.1 hl
 exact ⟨p,h1,h2.2 0 p v (by simp) (by simp)⟩
theorem zsO {t:TypeId} {n:Nat} {X:List PV→Prop} (h:Rd enc P w t n X) {cs:Array Value} {d:DataW H} {ps:List MemPlace} (ht:DataW.Trod enc P w 0 (fun _=>true) true t (.agg cs) d ps):∃ pvs,X pvs∧PRel (KW w) w (.agg pvs) (.agg cs):=by
 obtain ⟨fuel,hx⟩:=ht
 obtain ⟨pvs,h1,h2,_,h4⟩:=h.2 _ _ _ hx
 refine ⟨pvs,h1,?_⟩
 have:=PRel.agg pvs cs.toList h2.1 (by simpa [Value.cells] using h4) (by simpa [Value.cells] using h2.2)
 simpa using this
theorem zoZ {t e:TypeId} {v:Value} (ht:P.underlying t=some (.slice e)) {base:Nat} (h:Value.okWide P w .any base t v):v.cells=#[v]:=by
 simp only [Value.okWide,ht,Cell.okWide,Cell.ok] at h
 cases v <;> first|rfl|simp at h
theorem okWide_int_one {t:TypeId} {k:IntKind} {v:Value} (ht:P.underlying t=some (.int k)) {base:Nat} (h:Value.okWide P w .any base t v):v.cells=#[v]:=by
 simp only [Value.okWide,ht,Cell.okWide,Cell.ok] at h
 cases v <;> first|rfl|simp at h
theorem okWide_struct {t:TypeId} {fs:Array Field} {v:Value} (ht:P.underlying t=some (.struct fs)) {base:Nat} (h:Value.okWide P w .any base t v):∃ cs,v=.agg cs:=by
 simp only [Value.okWide,ht] at h
 obtain ⟨cs,h,_⟩:=h
 exact ⟨cs,h⟩
theorem zrz {t e:TypeId} {n:Nat} {v:Value} (ht:P.underlying t=some (.array n e)) {base:Nat} (h:Value.okWide P w .any base t v):∃ cs,v=.agg cs:=by
 simp only [Value.okWide,ht] at h
 obtain ⟨cs,h,_⟩:=h
 exact ⟨cs,h⟩
theorem ztt {t e:TypeId} {sz:Nat} {X:List PV→Prop} (ht:P.underlying t=some (.array 3 e)) (hc:P.cellsOf t=3 * sz) (he:Rd enc P w e sz X):Rd enc P w t (3 * sz) (zsf [X,X,X]):=by
 refine ⟨hc,fun fuel cs x hx=>?_⟩
 obtain ⟨xs,m,_,_,hl,hxs,hall⟩:=DataW.trod_array ht hx
 obtain ⟨hes,hel⟩:=he
 rw [hc] at hl
 rw [hes] at hall
 have one:∀ i,i < 3→∃ pvs,X pvs∧PRels (KW w) w pvs ((cs.drop (i * sz)).take sz)∧(∀ v∈(cs.drop (i * sz)).take sz,v.oneCell'=true):=by
  intro i hi
  have h1:=(hall i hi).trans (List.getElem?_eq_getElem (by omega))
  obtain ⟨pvs,h2,h3,_,h5⟩:=hel _ _ _ h1
  exact ⟨pvs,h2,h3,h5⟩
 obtain ⟨a,a1,a2,a3⟩:=one 0 (by omega)
 obtain ⟨b,b1,b2,b3⟩:=one 1 (by omega)
 obtain ⟨c,c1,c2,c3⟩:=one 2 (by omega)
 have hcs:cs=(cs.drop (0 * sz)).take sz++((cs.drop (1 * sz)).take sz++(cs.drop (2 * sz)).take sz):=by
  have e1:cs=cs.take sz++(cs.drop sz):=(List.take_append_drop sz cs).symm
  have e2:cs.drop sz=(cs.drop sz).take sz++(cs.drop sz).drop sz:=(List.take_append_drop sz _).symm
  have e3:(cs.drop sz).drop sz=(cs.drop (2 * sz)).take sz:=by
   rw [List.drop_drop,show sz + sz=2 * sz by omega,List.take_of_length_le];simp;omega
  simp only [Nat.zero_mul,List.drop_zero,Nat.one_mul]
  rw [←e3,←e2,←e1]
 refine ⟨a++(b++c),⟨a,b++c,a1,⟨b,c,b1,⟨c,[],c1,rfl,by simp⟩,rfl⟩,rfl⟩,?_,hl,?_⟩
 ·rw [hcs];exact a2.append (b2.append c2)
 ·rw [hcs]
  intro v hv
  simp only [List.mem_append] at hv
  rcases hv with hv|hv|hv
  ·exact a3 v hv
  ·exact b3 v hv
  ·exact c3 v hv
end
end Go.Cg
namespace Go.Cg
open Go.RowKit Go.Proofs
def zjr (t:Ty):Prop:=(Lit.int .i64 t.kind).wf=true∧(Lit.int .i64 t.index).wf=true∧(Lit.int .i64 t.dims).wf=true
def zqf (l:List Ty):Prop:=∀ t∈l,zjr t
def ztn (t:TD):Prop:=(Lit.int .i64 t.flags).wf=true∧(Lit.int .i64 t.ext).wf=true∧∀ f∈t.faces,(Lit.int .i64 f).wf=true
def zsU (f:Fd):Prop:=(Lit.int .i64 f.owner).wf=true∧zjr f.ty
def zpV (x:Ins):Prop:=(Lit.int .i64 x.op).wf=true∧(Lit.int .i64 x.arg).wf=true∧zjr x.t
def zsS (c:Cl):Prop:=(Lit.int .i64 c.kind).wf=true∧(Lit.int .i64 c.tf).wf=true∧(Lit.int .i64 c.tt).wf=true∧(Lit.int .i64 c.hf).wf=true∧(Lit.int .i64 c.ht).wf=true∧(Lit.int .i64 c.filter).wf=true∧zjr c.t
def ztr (m:Me):Prop:=(Lit.int .i64 m.owner).wf=true∧(Lit.int .i64 m.flags).wf=true∧zqf m.params∧zjr m.ret∧zqf m.locals∧(Lit.int .i64 m.max).wf=true∧(∀ x∈m.code,zpV x)∧∀ c∈m.clauses,zsS c
def zny (g:Img):Prop:=(∀ t∈g.types,ztn t)∧(∀ f∈g.fields,zsU f)∧(∀ m∈g.methods,ztr m)∧(Lit.int .i64 g.entry).wf=true
def zt6 (l:Ty × Ty × Ty):PV:=.agg ((yM l.1).cells++((yM l.2.1).cells++(yM l.2.2).cells))
def zt5 (l:Ty × Ty × Ty):Prop:=zjr l.1∧zjr l.2.1∧zjr l.2.2
def ztb (n:Int):Prop:=(Lit.int .u8 n).wf=true
section
variable {H:Type} {enc:TypeId × Value→H} {w:World}
theorem Xy:Rd enc Tryz.prog w 3 1 (fun ps=>∃ n,(Lit.int .i64 n).wf=true∧ps=[.base (.int .i64 n)]):=zm3 Tryz.underlying3 (by kernel_rfl)
theorem zsh:Rd enc Tryz.prog w 2 1 (fun ps=>∃ n,(Lit.int .i64 n).wf=true∧ps=[.base (.int .i64 n)]):=zm3 Tryz.underlying2 (by kernel_rfl)
theorem rdBool:Rd enc Tryz.prog w 4 1 (fun ps=>∃ b,ps=[.base (.bool b)]):=zsz Tryz.underlying4 (by kernel_rfl)
theorem rdStr:Rd enc Tryz.prog w 9 1 (fun ps=>∃ s:ByteArray,s.size≤maxLen∧ps=[.base (.string s)]):=zob Tryz.underlying9 (by kernel_rfl)
theorem zpY:Rd enc Tryz.prog w 42 4 (fun ps=>∃ t:Ty,zjr t∧ps=(yM t).cells):=by
 refine (XJ Tryz.underlying42 (by kernel_rfl) (yO rfl Xy (yO rfl Xy (yO rfl Xy (yO rfl rdBool Vz))))).mono ?_
 rintro _ ⟨_,_,⟨a,ha,rfl⟩,⟨_,_,⟨b,hb,rfl⟩,⟨_,_,⟨c,hc,rfl⟩,⟨_,_,⟨d,rfl⟩,rfl,rfl⟩,rfl⟩,rfl⟩,rfl⟩
 exact ⟨⟨a,b,c,d⟩,⟨ha,hb,hc⟩,rfl⟩
theorem zsH:Rd enc Tryz.prog w 40 1 (fun ps=>∃ l:List Ty,zqf l∧ps=[tys l]):=VP Tryz.underlying40 (by kernel_rfl) (by decide) zpY
theorem zta:Rd enc Tryz.prog w 67 1 (fun ps=>∃ l:List Int,(∀ n∈l,(Lit.int .i64 n).wf=true)∧ps=[ints l]) :=
 VP (f:=pi) Tryz.underlying67 (by kernel_rfl) (by decide) Xy
theorem ztX:Rd enc Tryz.prog w 69 4 (fun ps=>∃ t:TD,ztn t∧ps=(Zl t).cells):=by
 refine (XJ Tryz.underlying69 (by kernel_rfl) (yO rfl rdStr (yO rfl Xy (yO rfl Xy (yO rfl zta Vz))))).mono ?_
 rintro _ ⟨_,_,⟨a,ha,rfl⟩,⟨_,_,⟨b,hb,rfl⟩,⟨_,_,⟨c,hc,rfl⟩,⟨_,_,⟨d,hd,rfl⟩,rfl,rfl⟩,rfl⟩,rfl⟩,rfl⟩
 exact ⟨⟨a,b,c,d⟩,⟨hb,hc,hd⟩,rfl⟩
theorem zt0:Rd enc Tryz.prog w 109 7 (fun ps=>∃ t:Fd,zsU t∧ps=(Yb t).cells):=by
 refine (XJ Tryz.underlying109 (by kernel_rfl) (yO rfl rdStr (yO rfl Xy (yO rfl zpY (yO rfl rdBool Vz))))).mono ?_
 rintro _ ⟨_,_,⟨a,ha,rfl⟩,⟨_,_,⟨b,hb,rfl⟩,⟨_,_,⟨c,hc,rfl⟩,⟨_,_,⟨d,rfl⟩,rfl,rfl⟩,rfl⟩,rfl⟩,rfl⟩
 exact ⟨⟨a,b,c,d⟩,⟨hb,hc⟩,rfl⟩
theorem ztI:Rd enc Tryz.prog w 49 6 (fun ps=>∃ t:Ins,zpV t∧ps=(qj t).cells):=by
 refine (XJ Tryz.underlying49 (by kernel_rfl) (yO rfl Xy (yO rfl zsh (yO rfl zpY Vz)))).mono ?_
 rintro _ ⟨_,_,⟨a,ha,rfl⟩,⟨_,_,⟨b,hb,rfl⟩,⟨_,_,⟨c,hc,rfl⟩,rfl,rfl⟩,rfl⟩,rfl⟩
 exact ⟨⟨a,b,c⟩,⟨ha,hb,hc⟩,rfl⟩
theorem zt3:Rd enc Tryz.prog w 63 10 (fun ps=>∃ t:Cl,zsS t∧ps=(ZX t).cells):=by
 refine (XJ Tryz.underlying63 (by kernel_rfl) (yO rfl Xy (yO rfl Xy (yO rfl Xy (yO rfl Xy (yO rfl Xy (yO rfl Xy (yO rfl zpY Vz)))))))).mono ?_
 rintro _ ⟨_,_,⟨a,ha,rfl⟩,⟨_,_,⟨b,hb,rfl⟩,⟨_,_,⟨c,hc,rfl⟩,⟨_,_,⟨d,hd,rfl⟩,⟨_,_,⟨e,he,rfl⟩,⟨_,_,⟨f,hf,rfl⟩,⟨_,_,⟨t,ht,rfl⟩,rfl,rfl⟩,rfl⟩,rfl⟩,rfl⟩,rfl⟩,rfl⟩,rfl⟩
 exact ⟨⟨a,b,c,d,e,f,t⟩,⟨ha,hb,hc,hd,he,hf,ht⟩,rfl⟩
theorem zto:Rd enc Tryz.prog w 43 1 (fun ps=>∃ l:List Ins,(∀ x∈l,zpV x)∧ps=[.slc 6 (l.map qj) false]):=VP Tryz.underlying43 (by kernel_rfl) (by decide) ztI
theorem ztT:Rd enc Tryz.prog w 44 1 (fun ps=>∃ l:List Cl,(∀ x∈l,zsS x)∧ps=[.slc 10 (l.map ZX) false]):=VP Tryz.underlying44 (by kernel_rfl) (by decide) zt3
theorem ztY:Rd enc Tryz.prog w 46 12 (fun ps=>∃ t:Me,ztr t∧ps=(yB t).cells):=by
 refine (XJ Tryz.underlying46 (by kernel_rfl) (yO rfl rdStr (yO rfl Xy (yO rfl Xy (yO rfl zsH (yO rfl zpY (yO rfl zsH (yO rfl Xy (yO rfl zto (yO rfl ztT Vz)))))))))).mono ?_
 rintro _ ⟨_,_,⟨a,ha,rfl⟩,⟨_,_,⟨b,hb,rfl⟩,⟨_,_,⟨c,hc,rfl⟩,⟨_,_,⟨d,hd,rfl⟩,⟨_,_,⟨e,he,rfl⟩,⟨_,_,⟨f,hf,rfl⟩,⟨_,_,⟨t,ht,rfl⟩,⟨_,_,⟨x,hx,rfl⟩,⟨_,_,⟨y,hy,rfl⟩,rfl,rfl⟩,rfl⟩,rfl⟩,rfl⟩,rfl⟩,rfl⟩,rfl⟩,rfl⟩,rfl⟩
 exact ⟨⟨a,b,c,d,e,f,t,x,y⟩,⟨hb,hc,hd,he,hf,ht,hx,hy⟩,rfl⟩
theorem ztJ:Rd enc Tryz.prog w 22 1 (fun ps=>∃ l:List TD,(∀ x∈l,ztn x)∧ps=[.slc 4 (l.map Zl) false]):=VP Tryz.underlying22 (by kernel_rfl) (by decide) ztX
theorem ztG:Rd enc Tryz.prog w 23 1 (fun ps=>∃ l:List Fd,(∀ x∈l,zsU x)∧ps=[.slc 7 (l.map Yb) false]):=VP Tryz.underlying23 (by kernel_rfl) (by decide) zt0
theorem ztF:Rd enc Tryz.prog w 24 1 (fun ps=>∃ l:List Me,(∀ x∈l,ztr x)∧ps=[.slc 12 (l.map yB) false]):=VP Tryz.underlying24 (by kernel_rfl) (by decide) ztY
theorem ztP:Rd enc Tryz.prog w 26 4 (fun ps=>∃ t:Img,zny t∧ps=(zT t).cells):=by
 refine (XJ Tryz.underlying26 (by kernel_rfl) (yO rfl ztJ (yO rfl ztG (yO rfl ztF (yO rfl Xy Vz))))).mono ?_
 rintro _ ⟨_,_,⟨a,ha,rfl⟩,⟨_,_,⟨b,hb,rfl⟩,⟨_,_,⟨c,hc,rfl⟩,⟨_,_,⟨d,hd,rfl⟩,rfl,rfl⟩,rfl⟩,rfl⟩,rfl⟩
 exact ⟨⟨a,b,c,d⟩,⟨ha,hb,hc,hd⟩,rfl⟩
end
theorem own:ownKnob Tryz.prog.godebug=none:=by kernel_rfl
theorem laidOut:laidOutB Tryz.prog=true:=by kernel_rfl
theorem zt8 {H:Type} {enc:TypeId × Value→H} {w:World}:Rd enc Tryz.prog w 5 1 (fun ps=>∃ n,ztb n∧ps=[.base (.int .u8 n)]):=zm3 Tryz.underlying5 (by kernel_rfl)
theorem ztU {n:Int} (h:ztb n):0≤n∧n≤255:=by
 simp [ztb,Lit.wf,IntKind.has,IntKind.min,IntKind.max,IntKind.bits,IntKind.signed] at h;omega
end Go.Cg
