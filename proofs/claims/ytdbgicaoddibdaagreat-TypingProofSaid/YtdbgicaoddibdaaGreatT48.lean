/- A part of the walks by abstract values: no statement of its own. -/
import Derived.JoinedOf
import Derived.Test.YtdbgicaoddibdaaGreatT6
import Derived.OpenShut
import Derived.Deep.Slices
import Derived.ProofKit
import Derived.Test.YtdbgicaoddibdaaGreatT5
import Derived.Test.YtdbgicaoddibdaaGreatRows
import Derived.Test.YtdbgicaoddibdaaGreatT21
import Derived.Test.YtdbgicaoddibdaaGreatT41
import Derived.Test.YtdbgicaoddibdaaGreatT15
import Derived.Test.YtdbgicaoddibdaaGreatT16
import Derived.Test.YtdbgicaoddibdaaGreatT9
import Derived.Test.YtdbgicaoddibdaaGreatChecked
import Derived.Test.YtdbgicaoddibdaaGreatT25
import Derived.Test.YtdbgicaoddibdaaGreatT18
import Derived.Test.YtdbgicaoddibdaaGreatT11
import Derived.Test.YtdbgicaoddibdaaGreatT28
import Derived.Test.YtdbgicaoddibdaaGreatT20
import Derived.Test.YtdbgicaoddibdaaGreatT43
import Derived.Test.YtdbgicaoddibdaaGreatT19
import Derived.Test.YtdbgicaoddibdaaGreatT44
import Derived.Test.YtdbgicaoddibdaaGreatT29
import Derived.Test.YtdbgicaoddibdaaGreatT24
import Derived.Test.YtdbgicaoddibdaaGreatT22
import Derived.Test.YtdbgicaoddibdaaGreatT42
import Derived.Test.YtdbgicaoddibdaaGreatT46
import Derived.Test.YtdbgicaoddibdaaGreatT45
import Derived.Test.YtdbgicaoddibdaaGreatT47
set_option linter.unusedVariables false
set_option linter.unusedSimpArgs false
namespace Go.Cg
open Go
theorem zsq {P:Program} {f:FuncId} {fn:Func} {s:ChangeSpec} {c:OpenClaim}
  (a1:laidOutB P=true) (a2:mapsRowed P=true) (a3:P.stopsHeard=true) (a4:P.mayEnter=true) (a5:P.liftsFinal=c.lifted) (a6:P.make=some c.make)
  (b1:P.inPlace f=c.inPlace) (b2:P.unfollowed f=c.unfollowed) (b3:P.recurses f=c.recurses) (b4:P.varsNamed f=c.named)
  (rest:(c.wf (OpenSpec.ofChange s)&&fn.params.all (P.readableRec ·)&&namedTie P c.named s.vars &&
   (c.stops==[])&&(P.stops==[])&&(c.knobs==[])&&(P.stopKnobs==[]) &&
   (c.maps==(fn.params.toList++s.plain.varTypes P).any (P.mapsRec ·))&&(c.ifaces==(fn.params.toList++s.plain.varTypes P).any (P.ifacesRec ·))&&(c.mapsOut==P.mapsAmong fn.resultTypes.toList) &&
   (c.loops==(fn.params.toList++s.plain.varTypes P).any (P.loopsFrom ·))&&(c.wideKeys==(fn.params.toList++s.plain.varTypes P++fn.resultTypes.toList).any (P.wideKeysFrom ·)) &&
   s.vars.all (P.varReadable ·)&&fn.resultTypes.all (fun t=>P.readableRec t&&decide (t < P.types.size))&&(c.ifacesOut==fn.resultTypes.toList.any (P.ifacesRec ·))&&(c.loopsOut==fn.resultTypes.toList.any (P.loopsFrom ·))&&(c.plainKeys==P.plainKeys)&&c.shortTexts.isNone&&(c.kinds==(if c.domain.isEmpty then [] else fn.params.toList.map fun t=>match P.underlying t with|some (.int k)=>some k|_=>none))&&(c.pinned==c.pinnedBy) &&
   (c.veiled==(fn.params.toList++s.plain.varTypes P++fn.resultTypes.toList).any (P.veiledRec ·))&&c.veiledFits P fn.params.toList (fn.params.toList++s.plain.varTypes P++fn.resultTypes.toList))=true):joinedFacts P f fn s c=true:=by
 unfold joinedFacts;rw [a1,a2,a3,a4,a5,a6,b1,b2,b3,b4];simp only [Bool.and_eq_true,beq_self_eq_true,and_true,true_and] at rest ⊢;exact rest
end Go.Cg
namespace Go.Cg
open Go.RowKit Go.ChangeShapes Go.WideShapes Go.ChangeAt Go.Deep
def KW (w:World):KK:=fun b _=>b < w.heap.size
section
variable {H:Type} {enc:TypeId × Value→H} {P:Program} {w:World}
def Rd (enc:TypeId × Value→H) (P:Program) (w:World) (t:TypeId) (sz:Nat) (X:List PV→Prop):Prop :=
 P.cellsOf t=sz∧∀ fuel cs x,DataW.trod enc P w 0 (fun _=>true) true fuel t cs=some x→∃ pvs,X pvs∧PRels (KW w) w pvs cs∧cs.length=sz∧(∀ v∈cs,v.oneCell'=true)
theorem Rd.mono {t:TypeId} {sz:Nat} {X Y:List PV→Prop} (h:Rd enc P w t sz X) (hxy:∀ ps,X ps→Y ps):Rd enc P w t sz Y :=
 ⟨h.1,fun fuel cs x hx=>let ⟨ps,h1,h2⟩:=h.2 fuel cs x hx;⟨ps,hxy ps h1,h2⟩⟩
theorem zpN {t:TypeId} {k:IntKind} (ht:P.underlying t=some (.int k)) (hc:P.cellsOf t=1):Rd enc P w t 1 (fun ps=>∃ n,(Lit.int k n).wf=true∧ps=[.base (.int k n)]):=by
 refine ⟨hc,fun fuel cs x hx=>?_⟩;obtain ⟨n,rfl,_,hw⟩:=DataW.trod_int ht hx;exact ⟨_,⟨n,hw,rfl⟩,.cons (.base _ rfl) .nil,rfl,by simp [Value.oneCell']⟩
theorem zvu {t:TypeId} (ht:P.underlying t=some .bool) (hc:P.cellsOf t=1):Rd enc P w t 1 (fun ps=>∃ b,ps=[.base (.bool b)]):=by
 refine ⟨hc,fun fuel cs x hx=>?_⟩;obtain ⟨b,rfl,_⟩:=DataW.trod_bool ht hx;exact ⟨_,⟨b,rfl⟩,.cons (.base _ rfl) .nil,rfl,by simp [Value.oneCell']⟩
theorem zst {t:TypeId} (ht:P.underlying t=some .string) (hc:P.cellsOf t=1):Rd enc P w t 1 (fun ps=>∃ s:ByteArray,s.size≤maxLen∧ps=[.base (.string s)]):=by
 refine ⟨hc,fun fuel cs x hx=>?_⟩;obtain ⟨s,rfl,_,hs⟩:=DataW.trod_string ht hx;exact ⟨_,⟨s,hs,rfl⟩,.cons (.base _ (by simpa [Zm] using hs)) .nil,rfl,by simp [Value.oneCell']⟩
theorem zaG {t e:TypeId} {sz:Nat} {α:Type} [Inhabited α] {G:α→Prop} {f:α→PV} (ht:P.underlying t=some (.slice e)) (hc:P.cellsOf t=1) (h0:0 < sz) (he:Rd enc P w e sz (fun ps=>∃ x:α,G x∧ps=(f x).cells)) :
  Rd enc P w t 1 (fun ps=>∃ l:List α,(∀ x∈l,G x)∧ps=[.slc sz (l.map f) false]):=by
 refine ⟨hc,fun fuel cs x hx=>?_⟩;obtain ⟨hes,hel⟩:=he;rcases open_slice ht hx with ⟨rfl,_⟩|⟨a,len,cap,m,n,D,Pl,rfl,_,hl,hm,hmm,_,hall⟩
 ·exact ⟨_,⟨[],by simp,rfl⟩,.cons (.nil sz false) .nil,rfl,by simp [Value.oneCell']⟩
 ·simp only [if_true] at hmm;subst hmm;rw [hes] at hall;by_cases hcap:m=0
  ·subst hcap;obtain rfl:len=0:=by omega
   exact ⟨_,⟨[],by simp,rfl⟩,.cons (.emp sz false a) .nil,rfl,by simp [Value.oneCell']⟩
  ·have hx:∀ i,i < len→∃ y:α × List Value,G y.1∧w.cells? 0 (a.add (i * sz)) sz=some y.2∧PRels (KW w) w (f y.1).cells y.2∧y.2.length=sz∧(∀ v∈y.2,v.oneCell'=true):=by
    intro i hi;obtain ⟨cs',h1,h2⟩:=hall i zwy62;obtain ⟨pvs,⟨x,hg,rfl⟩,h4,h5,h6⟩:=hel _ _ _ h2;exact ⟨(x,cs'),hg,h1,h4,h5,h6⟩
   obtain ⟨F,hF⟩:=choose_lt hx;obtain ⟨b,o,spot⟩:=a;have hspot:spot=none:=by
    obtain ⟨cs',h1,_⟩:=hall 0 zwy62;obtain ⟨_,h2,h3⟩:=World.cells?_some h1;have:=h3 0 h0;have h4:cs'[0]?=some (cs'[0]'zwy62):=List.getElem?_eq_getElem _;rw [h4] at this;simp only [Nat.zero_mul] at this;have:=World.cell?_spot this;simpa [Addr.add] using this
   subst hspot;refine ⟨_,⟨(List.range len).map fun i=>(F i).1,?_,rfl⟩,.cons ?_ .nil,rfl,by simp [Value.oneCell']⟩
   ·intro x hx;simp only [List.mem_map,List.mem_range] at hx;obtain ⟨i,hi,rfl⟩:=hx;exact (hF i hi).1
   ·have hlen:(((List.range len).map fun i=>(F i).1).map f).length=len:=by simp
    have hget:∀ i e,(((List.range len).map fun i=>(F i).1).map f)[i]?=some e→i < len∧e=f (F i).1:=by
     intro i e he;have hi:i < len:=by have:=(List.getElem?_eq_some_iff.1 he).1;rw [hlen] at this;exact this
     refine ⟨hi,?_⟩;simp [hi] at he;exact he.symm
    have:=PRel.slc (K:=KW w) (w:=w) sz (((List.range len).map fun i=>(F i).1).map f) false b o m (fun i=>(F i).2) h0 (by rw [hlen];exact hl) zwy63 (by rw [hlen];omega) hm
     (fun i e he=>by
      obtain ⟨hi,rfl⟩:=hget i e he;obtain ⟨_,h1,h2,h3,h4⟩:=hF i hi;refine ⟨by rw [←h2.1];exact h3,h3,fun k v hv=>?_⟩;have hk:k < sz:=by rw [←h3];exact (List.getElem?_eq_some_iff.1 hv).1
      obtain ⟨_,_,h5⟩:=World.cells?_some h1;have h6:=h5 k hk;rw [hv,Addr.add_lit,Addr.add_lit] at h6;have h7:b < w.heap.size:=World.cells?_block h1 h0 |> (by simpa [Addr.add_lit] using ·);exact ⟨h7,h6,h4 v (List.mem_of_getElem? hv)⟩)
     (fun i e k c v he hc hv=>by
      obtain ⟨hi,rfl⟩:=hget i e he;exact (hF i hi).2.2.1.2 k c v hc hv)
    rw [hlen] at this;exact this
def zvQ:List (List PV→Prop)→List PV→Prop
 | [],ps=>ps=[]
 | X::r,ps=>∃ a b,X a∧zvQ r b∧ps=a++b
def zkn (enc:TypeId × Value→H) (P:Program) (w:World) (n:Nat):List Field→List (List PV→Prop)→Nat→Prop
 | [],[],off=>off=n
 | f::fs,X::Xs,off=>f.offset=off∧∃ sz,Rd enc P w f.type sz X∧zkn enc P w n fs Xs (off + sz)
 | _,_,_=>False
theorem zay {n:Nat}:zkn enc P w n [] [] n:=rfl
theorem yM {n sz off:Nat} {f:Field} {fs:List Field} {X:List PV→Prop} {Xs:List (List PV→Prop)} (ho:f.offset=off) (hr:Rd enc P w f.type sz X) (h:zkn enc P w n fs Xs (off + sz)):zkn enc P w n (f::fs) (X::Xs) off:=⟨ho,sz,hr,h⟩
theorem zmE {n m:Nat} {cs:List Value} (hl:cs.length=n):∀ {fs:List Field} {Xs:List (List PV→Prop)} {off:Nat},zkn enc P w n fs Xs off →
  (∀ (i:Nat) (f:Field),fs[i]?=some f→∃ x,DataW.trod enc P w 0 (fun _=>true) true m f.type ((cs.drop f.offset).take (P.cellsOf f.type))=some x) →
  ∃ pvs,zvQ Xs pvs∧PRels (KW w) w pvs (cs.drop off)∧(∀ v∈cs.drop off,v.oneCell'=true)
 | [],[],off,h,_=>by
  have h:off=n:=h;subst h;have:cs.drop off=[]:=by rw [←hl];simp
  rw [this];exact ⟨[],rfl,.nil,by simp⟩
 | f::fs,X::Xs,off,h,hall=>by
  obtain ⟨rfl,sz,⟨h1,h2⟩,h3⟩:=h;obtain ⟨x,hx⟩:=hall 0 f rfl;obtain ⟨pa,a1,a2,a3,a4⟩:=h2 _ _ _ hx;obtain ⟨pb,b1,b2,b3⟩:=zmE hl h3 (fun i g hg=>hall (i + 1) g (by simpa using hg));have e:cs.drop f.offset=(cs.drop f.offset).take sz++cs.drop (f.offset + sz):=by
   rw [←List.drop_drop,List.take_append_drop]
  rw [h1] at a2 a3 a4;rw [e];exact ⟨pa++pb,⟨pa,pb,a1,b1,rfl⟩,a2.append b2,fun v hv=>(List.mem_append.1 hv).elim (a4 v) (b3 v)⟩
theorem WR {t:TypeId} {fs:Array Field} {n:Nat} {Xs:List (List PV→Prop)} (ht:P.underlying t=some (.struct fs)) (hc:P.cellsOf t=n) (hf:zkn enc P w n fs.toList Xs 0):Rd enc P w t n (zvQ Xs):=by
 refine ⟨hc,fun fuel cs x hx=>?_⟩;obtain ⟨xs,m,_,_,hl,hxs,hall⟩:=DataW.trod_struct ht hx;have:=zmE (m:=m) (by rw [hl,hc]) hf (fun i f hf=>by
  have hi:i < fs.size:=by simpa using (List.getElem?_eq_some_iff.1 hf).1
  have:=hall i f (by simpa using hf);exact ⟨_,this.trans (List.getElem?_eq_getElem zwy62)⟩)
 simp only [List.drop_zero] at this;obtain ⟨pvs,h1,h2,h3⟩:=this;exact ⟨pvs,h1,h2,by rw [hl,hc],h3⟩
theorem zwF {t:TypeId} {X:List PV→Prop} (h:Rd enc P w t 1 X) {v:Value} {d:DataW H} {ps:List MemPlace} (hv:v.cells=#[v]) (ht:DataW.Trod enc P w 0 (fun _=>true) true t v d ps):∃ p,X [p]∧PRel (KW w) w p v:=by
 obtain ⟨fuel,hx⟩:=ht;obtain ⟨pvs,h1,h2,_,_⟩:=h.2 _ _ _ hx;rw [hv] at h2;have hl:pvs.length=1:=by simpa using h2.1.symm
 obtain ⟨p,rfl⟩:=List.length_eq_one_iff.1 hl;exact ⟨p,h1,h2.2 0 p v zwy63 zwy63⟩
theorem zwS {t:TypeId} {n:Nat} {X:List PV→Prop} (h:Rd enc P w t n X) {cs:Array Value} {d:DataW H} {ps:List MemPlace} (ht:DataW.Trod enc P w 0 (fun _=>true) true t (.agg cs) d ps):∃ pvs,X pvs∧PRel (KW w) w (.agg pvs) (.agg cs):=by
 obtain ⟨fuel,hx⟩:=ht;obtain ⟨pvs,h1,h2,_,h4⟩:=h.2 _ _ _ hx;refine ⟨pvs,h1,?_⟩;have:=PRel.agg pvs cs.toList h2.1 (by simpa [Value.cells] using h4) (by simpa [Value.cells] using h2.2);simpa using this
theorem zsK {t e:TypeId} {v:Value} (ht:P.underlying t=some (.slice e)) {base:Nat} (h:Value.okWide P w .any base t v):v.cells=#[v]:=by
 simp only [Value.okWide,ht,Cell.okWide,Cell.ok] at h;cases v <;> first|rfl|simp at h
theorem okWide_int_one {t:TypeId} {k:IntKind} {v:Value} (ht:P.underlying t=some (.int k)) {base:Nat} (h:Value.okWide P w .any base t v):v.cells=#[v]:=by
 simp only [Value.okWide,ht,Cell.okWide,Cell.ok] at h;cases v <;> first|rfl|simp at h
theorem okWide_struct {t:TypeId} {fs:Array Field} {v:Value} (ht:P.underlying t=some (.struct fs)) {base:Nat} (h:Value.okWide P w .any base t v):∃ cs,v=.agg cs:=by
 simp only [Value.okWide,ht] at h;obtain ⟨cs,h,_⟩:=h;exact ⟨cs,h⟩
theorem zvp {t e:TypeId} {n:Nat} {v:Value} (ht:P.underlying t=some (.array n e)) {base:Nat} (h:Value.okWide P w .any base t v):∃ cs,v=.agg cs:=by
 simp only [Value.okWide,ht] at h;obtain ⟨cs,h,_⟩:=h;exact ⟨cs,h⟩
theorem zw9 {t e:TypeId} {sz:Nat} {X:List PV→Prop} (ht:P.underlying t=some (.array 3 e)) (hc:P.cellsOf t=3 * sz) (he:Rd enc P w e sz X):Rd enc P w t (3 * sz) (zvQ [X,X,X]):=by
 refine ⟨hc,fun fuel cs x hx=>?_⟩;obtain ⟨xs,m,_,_,hl,hxs,hall⟩:=DataW.trod_array ht hx;obtain ⟨hes,hel⟩:=he;rw [hc] at hl;rw [hes] at hall;have one:∀ i,i < 3→∃ pvs,X pvs∧PRels (KW w) w pvs ((cs.drop (i * sz)).take sz)∧(∀ v∈(cs.drop (i * sz)).take sz,v.oneCell'=true):=by
  intro i hi;have h1:=(hall i hi).trans (List.getElem?_eq_getElem zwy62);obtain ⟨pvs,h2,h3,_,h5⟩:=hel _ _ _ h1;exact ⟨pvs,h2,h3,h5⟩
 obtain ⟨a,a1,a2,a3⟩:=one 0 zwy62;obtain ⟨b,b1,b2,b3⟩:=one 1 zwy62;obtain ⟨c,c1,c2,c3⟩:=one 2 zwy62;have hcs:cs=(cs.drop (0 * sz)).take sz++((cs.drop (1 * sz)).take sz++(cs.drop (2 * sz)).take sz):=by
  have e1:cs=cs.take sz++(cs.drop sz):=(List.take_append_drop sz cs).symm;have e2:cs.drop sz=(cs.drop sz).take sz++(cs.drop sz).drop sz:=(List.take_append_drop sz _).symm;have e3:(cs.drop sz).drop sz=(cs.drop (2 * sz)).take sz:=by
   rw [List.drop_drop,show sz + sz=2 * sz by omega,List.take_of_length_le];simp;omega
  simp only [Nat.zero_mul,List.drop_zero,Nat.one_mul];rw [←e3,←e2,←e1]
 refine ⟨a++(b++c),⟨a,b++c,a1,⟨b,c,b1,⟨c,[],c1,rfl,by simp⟩,rfl⟩,rfl⟩,?_,hl,?_⟩
 ·rw [hcs];exact a2.append (b2.append c2)
 ·rw [hcs];intro v hv;simp only [List.mem_append] at hv;rcases hv with hv|hv|hv
  ·exact a3 v hv
  ·exact b3 v hv
  ·exact c3 v hv
end
end Go.Cg
namespace Go.Cg
open Go.RowKit Go.Proofs
def zlu (t:Ty):Prop:=(Lit.int .i64 t.kind).wf=true∧(Lit.int .i64 t.index).wf=true∧(Lit.int .i64 t.dims).wf=true
def ztt (l:List Ty):Prop:=∀ t∈l,zlu t
def zw4 (t:TD):Prop:=(Lit.int .i64 t.flags).wf=true∧(Lit.int .i64 t.ext).wf=true∧∀ f∈t.faces,(Lit.int .i64 f).wf=true
def zwQ (f:Fd):Prop:=(Lit.int .i64 f.owner).wf=true∧zlu f.ty
def ztQ (x:Ins):Prop:=(Lit.int .i64 x.op).wf=true∧(Lit.int .i64 x.arg).wf=true∧zlu x.t
def zwW (c:Cl):Prop:=(Lit.int .i64 c.kind).wf=true∧(Lit.int .i64 c.tf).wf=true∧(Lit.int .i64 c.tt).wf=true∧(Lit.int .i64 c.hf).wf=true∧(Lit.int .i64 c.ht).wf=true∧(Lit.int .i64 c.filter).wf=true∧zlu c.t
def zw3 (m:Me):Prop:=(Lit.int .i64 m.owner).wf=true∧(Lit.int .i64 m.flags).wf=true∧ztt m.params∧zlu m.ret∧ztt m.locals∧(Lit.int .i64 m.max).wf=true∧(∀ x∈m.code,ztQ x)∧∀ c∈m.clauses,zwW c
def zqr (g:Img):Prop:=(∀ t∈g.types,zw4 t)∧(∀ f∈g.fields,zwQ f)∧(∀ m∈g.methods,zw3 m)∧(Lit.int .i64 g.entry).wf=true
def zxR (l:Ty × Ty × Ty):PV:=.agg ((yJ l.1).cells++((yJ l.2.1).cells++(yJ l.2.2).cells))
def zxS (l:Ty × Ty × Ty):Prop:=zlu l.1∧zlu l.2.1∧zlu l.2.2
def zwz (n:Int):Prop:=(Lit.int .u8 n).wf=true
section
variable {H:Type} {enc:TypeId × Value→H} {w:World}
theorem XZ:Rd enc Tryz.prog w 3 1 (fun ps=>∃ n,(Lit.int .i64 n).wf=true∧ps=[.base (.int .i64 n)]):=zpN Tryz.underlying3 zws
theorem zu0:Rd enc Tryz.prog w 2 1 (fun ps=>∃ n,(Lit.int .i64 n).wf=true∧ps=[.base (.int .i64 n)]):=zpN Tryz.underlying2 zws
theorem rdBool:Rd enc Tryz.prog w 4 1 (fun ps=>∃ b,ps=[.base (.bool b)]):=zvu Tryz.underlying4 zws
theorem rdStr:Rd enc Tryz.prog w 9 1 (fun ps=>∃ s:ByteArray,s.size≤maxLen∧ps=[.base (.string s)]):=zst Tryz.underlying9 zws
theorem ztd:Rd enc Tryz.prog w 40 4 (fun ps=>∃ t:Ty,zlu t∧ps=(yJ t).cells):=by
 refine (WR Tryz.underlying40 zws (yM rfl XZ (yM rfl XZ (yM rfl XZ (yM rfl rdBool zay))))).mono ?_;rintro _ ⟨_,_,⟨a,ha,rfl⟩,⟨_,_,⟨b,hb,rfl⟩,⟨_,_,⟨c,hc,rfl⟩,⟨_,_,⟨d,rfl⟩,rfl,rfl⟩,rfl⟩,rfl⟩,rfl⟩;exact ⟨⟨a,b,c,d⟩,⟨ha,hb,hc⟩,rfl⟩
theorem zwq:Rd enc Tryz.prog w 47 1 (fun ps=>∃ l:List Ty,ztt l∧ps=[tys l]):=zaG Tryz.underlying47 zws zwy67 ztd
theorem zww:Rd enc Tryz.prog w 41 1 (fun ps=>∃ l:List Int,(∀ n∈l,(Lit.int .i64 n).wf=true)∧ps=[ints l]) :=
 zaG (f:=pi) Tryz.underlying41 zws zwy67 XZ
theorem zxN:Rd enc Tryz.prog w 43 4 (fun ps=>∃ t:TD,zw4 t∧ps=(ZB t).cells):=by
 refine (WR Tryz.underlying43 zws (yM rfl rdStr (yM rfl XZ (yM rfl XZ (yM rfl zww zay))))).mono ?_;rintro _ ⟨_,_,⟨a,ha,rfl⟩,⟨_,_,⟨b,hb,rfl⟩,⟨_,_,⟨c,hc,rfl⟩,⟨_,_,⟨d,hd,rfl⟩,rfl,rfl⟩,rfl⟩,rfl⟩,rfl⟩;exact ⟨⟨a,b,c,d⟩,⟨hb,hc,hd⟩,rfl⟩
theorem zxG:Rd enc Tryz.prog w 128 7 (fun ps=>∃ t:Fd,zwQ t∧ps=(Yo t).cells):=by
 refine (WR Tryz.underlying128 zws (yM rfl rdStr (yM rfl XZ (yM rfl ztd (yM rfl rdBool zay))))).mono ?_;rintro _ ⟨_,_,⟨a,ha,rfl⟩,⟨_,_,⟨b,hb,rfl⟩,⟨_,_,⟨c,hc,rfl⟩,⟨_,_,⟨d,rfl⟩,rfl,rfl⟩,rfl⟩,rfl⟩,rfl⟩;exact ⟨⟨a,b,c,d⟩,⟨hb,hc⟩,rfl⟩
theorem zxt:Rd enc Tryz.prog w 45 6 (fun ps=>∃ t:Ins,ztQ t∧ps=(qx t).cells):=by
 refine (WR Tryz.underlying45 zws (yM rfl XZ (yM rfl zu0 (yM rfl ztd zay)))).mono ?_;rintro _ ⟨_,_,⟨a,ha,rfl⟩,⟨_,_,⟨b,hb,rfl⟩,⟨_,_,⟨c,hc,rfl⟩,rfl,rfl⟩,rfl⟩,rfl⟩;exact ⟨⟨a,b,c⟩,⟨ha,hb,hc⟩,rfl⟩
theorem zxQ:Rd enc Tryz.prog w 97 10 (fun ps=>∃ t:Cl,zwW t∧ps=(Zg t).cells):=by
 refine (WR Tryz.underlying97 zws (yM rfl XZ (yM rfl XZ (yM rfl XZ (yM rfl XZ (yM rfl XZ (yM rfl XZ (yM rfl ztd zay)))))))).mono ?_;rintro _ ⟨_,_,⟨a,ha,rfl⟩,⟨_,_,⟨b,hb,rfl⟩,⟨_,_,⟨c,hc,rfl⟩,⟨_,_,⟨d,hd,rfl⟩,⟨_,_,⟨e,he,rfl⟩,⟨_,_,⟨f,hf,rfl⟩,⟨_,_,⟨t,ht,rfl⟩,rfl,rfl⟩,rfl⟩,rfl⟩,rfl⟩,rfl⟩,rfl⟩,rfl⟩;exact ⟨⟨a,b,c,d,e,f,t⟩,⟨ha,hb,hc,hd,he,hf,ht⟩,rfl⟩
theorem zwX:Rd enc Tryz.prog w 46 1 (fun ps=>∃ l:List Ins,(∀ x∈l,ztQ x)∧ps=[.slc 6 (l.map qx) false]):=zaG Tryz.underlying46 zws zwy67 zxt
theorem zxa:Rd enc Tryz.prog w 48 1 (fun ps=>∃ l:List Cl,(∀ x∈l,zwW x)∧ps=[.slc 10 (l.map Zg) false]):=zaG Tryz.underlying48 zws zwy67 zxQ
theorem zxK:Rd enc Tryz.prog w 50 12 (fun ps=>∃ t:Me,zw3 t∧ps=(yh t).cells):=by
 refine (WR Tryz.underlying50 zws (yM rfl rdStr (yM rfl XZ (yM rfl XZ (yM rfl zwq (yM rfl ztd (yM rfl zwq (yM rfl XZ (yM rfl zwX (yM rfl zxa zay)))))))))).mono ?_;rintro _ ⟨_,_,⟨a,ha,rfl⟩,⟨_,_,⟨b,hb,rfl⟩,⟨_,_,⟨c,hc,rfl⟩,⟨_,_,⟨d,hd,rfl⟩,⟨_,_,⟨e,he,rfl⟩,⟨_,_,⟨f,hf,rfl⟩,⟨_,_,⟨t,ht,rfl⟩,⟨_,_,⟨x,hx,rfl⟩,⟨_,_,⟨y,hy,rfl⟩,rfl,rfl⟩,rfl⟩,rfl⟩,rfl⟩,rfl⟩,rfl⟩,rfl⟩,rfl⟩,rfl⟩;exact ⟨⟨a,b,c,d,e,f,t,x,y⟩,⟨hb,hc,hd,he,hf,ht,hx,hy⟩,rfl⟩
theorem zxv:Rd enc Tryz.prog w 22 1 (fun ps=>∃ l:List TD,(∀ x∈l,zw4 x)∧ps=[.slc 4 (l.map ZB) false]):=zaG Tryz.underlying22 zws zwy67 zxN
theorem zxk:Rd enc Tryz.prog w 23 1 (fun ps=>∃ l:List Fd,(∀ x∈l,zwQ x)∧ps=[.slc 7 (l.map Yo) false]):=zaG Tryz.underlying23 zws zwy67 zxG
theorem zxb:Rd enc Tryz.prog w 24 1 (fun ps=>∃ l:List Me,(∀ x∈l,zw3 x)∧ps=[.slc 12 (l.map yh) false]):=zaG Tryz.underlying24 zws zwy67 zxK
theorem zxq:Rd enc Tryz.prog w 26 4 (fun ps=>∃ t:Img,zqr t∧ps=(zO t).cells):=by
 refine (WR Tryz.underlying26 zws (yM rfl zxv (yM rfl zxk (yM rfl zxb (yM rfl XZ zay))))).mono ?_;rintro _ ⟨_,_,⟨a,ha,rfl⟩,⟨_,_,⟨b,hb,rfl⟩,⟨_,_,⟨c,hc,rfl⟩,⟨_,_,⟨d,hd,rfl⟩,rfl,rfl⟩,rfl⟩,rfl⟩,rfl⟩;exact ⟨⟨a,b,c,d⟩,⟨ha,hb,hc,hd⟩,rfl⟩
end
theorem own:ownKnob Tryz.prog.godebug=none:=by kernel_rfl
theorem laidOut:laidOutB Tryz.prog=true:=by kernel_rfl
theorem zxT {H:Type} {enc:TypeId × Value→H} {w:World}:Rd enc Tryz.prog w 5 1 (fun ps=>∃ n,zwz n∧ps=[.base (.int .u8 n)]):=zpN Tryz.underlying5 zws
theorem zxB {n:Int} (h:zwz n):0≤n∧n≤255:=by
 simp [zwz,Lit.wf,IntKind.has,IntKind.min,IntKind.max,IntKind.bits,IntKind.signed] at h;omega
def zm6 (n:Int):Prop:=(Lit.int .i64 n).wf=true
theorem zxe {H:Type} {enc:TypeId × Value→H} {w:World}:Rd enc Tryz.prog w 3 1 (fun ps=>∃ n,zm6 n∧ps=[.base (.int .i64 n)]):=XZ
theorem zxm {n:Int} (h:zm6 n) : -9223372036854775808≤n∧n≤9223372036854775807:=by
 simp [zm6,Lit.wf,IntKind.has,IntKind.min,IntKind.max,IntKind.bits,IntKind.signed] at h;omega
theorem zsH {g:Img} (h:zqr g):∀ m∈g.methods,∀ x∈m.code,zfD x:=fun m hm x hx=>by
 have:=((h.2.2.1 m hm).2.2.2.2.2.2.1 x hx).2.1;simp [Lit.wf,IntKind.has,IntKind.min,IntKind.max,IntKind.bits,IntKind.signed] at this;exact ⟨by omega,by omega⟩
end Go.Cg
namespace Go.Cg
open Go.RowKit
section
variable {P:Program} {tb:Tab} {n:Nat} {g:Base} {K:KK} {w:World} {ρ:Nat→Value} {H:HEnv} {env:Env} {a:Act} {ops:List Oper} {o:Oper} {rest:List Oper} {Q:Env→HEnv→Prop} {c:Code} {QQ:QC}
def zdH (ks:List (Int × Value)) (ob:Obj):Prop:=∃ es clock,ob=.map es clock∧es.size=ks.length∧∀ (i:Nat) (e:MapEntry) (x:Int × Value),es.toList[i]?=some e→ks[i]?=some x→e.key=.int .i64 x.1∧e.val=x.2
def Zk {α:Type} (k:Int):List (Int × α)→Nat→Option (Nat × α)
 | [],_=>none
 | x::l,i=>if k=x.1 then some (i,x.2) else Zk k l (i + 1)
def zbA {α:Type} (ks:List (Int × α)) (k:Int) (u:α):List (Int × α):=match Zk k ks 0 with
 | some (i,_)=>ks.set i (k,u)
 | none=>ks++[(k,u)]
theorem zfF {k:Int} {kk:IntKind}:∀ (es:List MapEntry) (ks:List (Int × Value)) (i:Nat),es.length=ks.length→(∀ (j:Nat) (e:MapEntry) (x:Int × Value),es[j]?=some e→ks[j]?=some x→e.key=.int .i64 x.1∧e.val=x.2) →
  Instr.findNow (.int kk) (.int .i64 k) es i=some (Zk k ks i)
 | [],[],_,_,_=>rfl
 | e::es,x::ks,i,hl,h=>by
  obtain ⟨h1,h2⟩:=h 0 e x rfl rfl;have ih:=zfF (k:=k) (kk:=kk) es ks (i + 1) zwy79 fun j=>h (j + 1)
  simp only [Instr.findNow,h1,Instr.sameNow,if_true,Zk];by_cases hk:k=x.1
  ·rw [show (k==x.1)=true by simpa using hk,if_pos hk,h2]
  ·rw [show (k==x.1)=false by simpa using hk,if_neg hk];exact ih
theorem zct {α:Type} {k:Int}:∀ (ks:List (Int × α)) (i:Nat) {j:Nat} {u:α},Zk k ks i=some (j,u)→i≤j∧ks[j - i]?=some (k,u)
 | [],_,_,_,h=>by cases h
 | x::ks,i,j,u,h=>by
  unfold Zk at h;split at h
  ·rename_i hk;simp only [Option.some.injEq,Prod.mk.injEq] at h;obtain ⟨rfl,rfl⟩:=h;exact ⟨Nat.le_refl _,by rw [Nat.sub_self,hk];rfl⟩
  ·obtain ⟨h1,h2⟩:=zct ks (i + 1) h;exact ⟨by omega,by rw [show j - i=(j - (i + 1)) + 1 by omega];exact h2⟩
def VW {α:Type} (l:List (Int × α)) (k:Int) (us:List Value) (u:Value):List Value:=match Zk k l 0 with
 | some (i,_)=>us.set i u
 | none=>us++[u]
theorem zl5 {α:Type} {k:Int}:∀ (l:List (Int × α)) (us:List Value) (i:Nat),us.length=l.length →
  (Zk k l i=none→Zk k ((l.map Prod.fst).zip us) i=none)∧∀ j x,Zk k l i=some (j,x)→∃ u,us[j - i]?=some u∧Zk k ((l.map Prod.fst).zip us) i=some (j,u)
 | [],us,i,h=>⟨fun _=>by simp [Zk],fun j x hx=>by cases hx⟩
 | e::l,[],i,h=>by simp at h
 | e::l,u::us,i,h=>by
  obtain ⟨h1,h2⟩:=zl5 (k:=k) l us (i + 1) zwy97;simp only [List.map_cons,List.zip_cons_cons,Zk];by_cases hk:k=e.1
  ·rw [if_pos hk,if_pos hk];refine ⟨fun h=>by (cases h),fun j x hx=>?_⟩;simp only [Option.some.injEq,Prod.mk.injEq] at hx;obtain ⟨rfl,rfl⟩:=hx;exact ⟨u,by rw [Nat.sub_self];rfl,rfl⟩
  ·rw [if_neg hk,if_neg hk];refine ⟨h1,fun j x hx=>?_⟩;obtain ⟨u',a1,a2⟩:=h2 j x hx;have:=(zct _ _ hx).1;exact ⟨u',by rw [show j - i=(j - (i + 1)) + 1 by omega];exact a1,a2⟩
theorem zqK {α β:Type}:∀ (l:List α) (us:List β) (i:Nat) (x:α) (u:β),(l.set i x).zip (us.set i u)=(l.zip us).set i (x,u)
 | [],us,i,x,u=>by simp
 | a::l,[],i,x,u=>by cases i <;> simp
 | a::l,b::us,0,x,u=>by simp
 | a::l,b::us,i + 1,x,u=>by simp [zqK l us i x u]
theorem zmP {α:Type} {l:List (Int × α)} {us:List Value} (h:us.length=l.length) (k:Int) (x:α) (u:Value):zbA ((l.map Prod.fst).zip us) k u=((zbA l k x).map Prod.fst).zip (VW l k us u):=by
 obtain ⟨h1,h2⟩:=zl5 (k:=k) l us 0 h;unfold zbA VW;cases hx:Zk k l 0 with
 | none =>
  rw [h1 hx];simp only [List.map_append,List.map_cons,List.map_nil];rw [List.zip_append zwy88];rfl
 | some p =>
  obtain ⟨j,y⟩:=p;obtain ⟨u',_,a2⟩:=h2 j y hx;rw [a2];simp only [List.map_set];rw [zqK]
theorem zcw {α:Type} {l:List (Int × α)} {us:List Value} (h:us.length=l.length) (k:Int) (x:α) (u:Value):(VW l k us u).length=(zbA l k x).length:=by
 unfold zbA VW;cases hx:Zk k l 0 <;> simp [h]
theorem zpf {k:Int}:MapKept.IsKey (.int .i64) (.int .i64 k):=by simp [MapKept.IsKey]
theorem zkA {t kt et:Nat} {m x:Operand} {i:Nat} {ks:List (Int × Value)} {k:Int} {z:Value} (htb:yR P tb) (hop:o.op=.lookup t m x true) (hk:tb.k t=.map kt et) (hkt:tb.k kt=.int .i64) (hz:tb.zero et=some z) (hzb:Zm z=true)
  (hm:env.val m=some (.own i)) (hi:H.get i=some (.obj (zdH ks))) (hx:env.pv H x=some (.base (.int .i64 k))) (hb:∀ j u,Zk k ks 0=some (j,u)→Zm u=true) :
  QStep P g H o env (.pv (.tup [.base ((Zk k ks 0).elim z Prod.snd),.base (.bool (Zk k ks 0).isSome)])):=by
 refine ⟨fun K ρ a w hfs hv=>?_⟩;have hmr:=hv m zwy69 _ hm;have hxr:=qc hfs (hv x zwy69) hx;generalize hmv:a.eval m=mv at hmr;generalize hxv:a.eval x=xv at hxr;obtain ⟨b,ob,hr,hB,hheap,⟨es,clock,rfl,hes,hent⟩,hn⟩:=hfs.heap.ok i _ hi;cases hxr;cases hmr with
 | own _ _ =>
  have hck:(Instr.checkKey es.isEmpty 10000 kt (.int .i64 k)).run P w=.ok () w:=MapKept.run_checkKey (Xi htb hkt) zpf es.isEmpty 9999;have r1:=MapKept.run_findKey (P:=P) (w:=w) (Xi htb hkt) (zfF (k:=k) (kk:=.i64) es.toList ks 0 (by simpa using hes) hent);have hzi:(zeroValue et).run P w=.ok z w:=by
   unfold Tab.zero at hz;split at hz
   ·rename_i ti hti;obtain ⟨i,e1,_,_,e4,_⟩:=ZJ htb hti;simp [zeroValue,typeInfo,e1,e4,hz]
   ·cases hz
  have hgo:=run_getObj_map (P:=P) w b es clock hheap;have hrun:(execOp a.eval o).run P w=.ok (.value (.tuple #[(Zk k ks 0).elim z Prod.snd,.bool (Zk k ks 0).isSome])) w:=by
   cases hix:Zk k ks 0 with
   | none=>rw [hix] at r1;simp [execOp,hop,hmv,hxv,hr,Instr.lookup,run_underlying (zdk htb hk),hgo,hck,r1,hzi]
   | some p=>obtain ⟨j,u⟩:=p;rw [hix] at r1;simp [execOp,hop,hmv,hxv,hr,Instr.lookup,run_underlying (zdk htb hk),hgo,hck,r1]
  rw [hrun];refine ZP hfs (.pv _ _ (.tup _ [(Zk k ks 0).elim z Prod.snd,.bool (Zk k ks 0).isSome] rfl fun j c v hc hv=>?_))
  match j with
  | 0 =>
   simp only [List.getElem?_cons_zero,Option.some.injEq] at hc hv;subst hc hv;refine .base _ ?_;cases hix:Zk k ks 0 with
   | none=>exact hzb
   | some p=>exact hb p.1 p.2 hix
  | 1 =>
   simp only [List.getElem?_cons_succ,List.getElem?_cons_zero,Option.some.injEq] at hc hv;subst hc hv;exact .base _ rfl
  | j + 2=>simp at hc
theorem zng {ks:List (Int × Value)} {es:Array MapEntry} {clock:Nat} {k:Int} {u:Value} (hes:es.size=ks.length) (hent:∀ (i:Nat) (e:MapEntry) (x:Int × Value),es.toList[i]?=some e→ks[i]?=some x→e.key=.int .i64 x.1∧e.val=x.2) :
  zdH (zbA ks k u) (match Zk k ks 0 with|some (i,_)=>.map (es.modify i fun e=>{ e with key:=.int .i64 k,val:=u }) clock|none=>.map (es.push { key:=.int .i64 k,val:=u,born:=clock }) (clock + 1)):=by
 unfold zbA;cases hix:Zk k ks 0 with
 | none =>
  refine ⟨_,_,rfl,by simp [hes],fun j e y he' hy=>?_⟩;rw [Array.toList_push,List.getElem?_append] at he';rw [List.getElem?_append] at hy;have hl:es.toList.length=ks.length:=by simpa using hes
  rw [hl] at he';split at he'
  ·rename_i hj;rw [if_pos hj] at hy;exact hent j e y he' hy
  ·rename_i hj;rw [if_neg hj] at hy;have hj0:j - ks.length=0:=by have:=(List.getElem?_eq_some_iff.1 he').1;simp at this;omega
   rw [hj0] at he' hy;simp only [List.getElem?_cons_zero,Option.some.injEq] at he' hy;subst he' hy;exact ⟨rfl,rfl⟩
 | some p =>
  obtain ⟨i,v⟩:=p;refine ⟨_,_,rfl,by simp [hes],fun j e y he' hy=>?_⟩;rw [List.getElem?_set] at hy;rw [Array.toList_modify,List.getElem?_modify] at he';by_cases hj:i=j
  ·subst hj;simp only [if_true] at he' hy;split at hy
   ·simp only [Option.some.injEq] at hy;subst hy;cases he:es.toList[i]? with
    | none=>rw [he] at he';simp at he'
    | some e0=>rw [he] at he';simp at he';subst he';exact ⟨rfl,rfl⟩
   ·cases hy
  ·simp only [hj,if_false] at he' hy;refine hent j e y ?_ hy;cases he:es.toList[j]? with
   | none=>rw [he] at he';simp at he'
   | some e0=>rw [he] at he';simpa using he'
theorem zgN {t kt et:Nat} {m x v:Operand} {b:Nat} {ks:List (Int × Value)} {es:Array MapEntry} {clock:Nat} {k:Int} {u:Value} (htb:yR P tb) (hop:o.op=.mapUpdate t m x v∨o.op=.insert t m x v) (hk:tb.k t=.map kt et) (hkt:tb.k kt=.int .i64)
  (hm:a.eval m=.map (some b)) (hx:a.eval x=.int .i64 k) (hv:a.eval v=u) (hheap:w.heap[b]?=some (.map es clock)) (hes:es.size=ks.length) (hent:∀ (i:Nat) (e:MapEntry) (x:Int × Value),es.toList[i]?=some e→ks[i]?=some x→e.key=.int .i64 x.1∧e.val=x.2) :
  (execOp a.eval o).run P w=.ok .skip (w.putObj b (match Zk k ks 0 with|some (i,_)=>.map (es.modify i fun e=>{ e with key:=.int .i64 k,val:=u }) clock|none=>.map (es.push { key:=.int .i64 k,val:=u,born:=clock }) (clock + 1))):=by
 have hck:(Instr.checkKey false 10000 kt (.int .i64 k)).run P w=.ok () w:=MapKept.run_checkKey (Xi htb hkt) zpf false 9999;have r1:=MapKept.run_findKey (P:=P) (w:=w) (Xi htb hkt) (zfF (k:=k) (kk:=.i64) es.toList ks 0 (by simpa using hes) hent);have hgo:=run_getObj_map (P:=P) w b es clock hheap;have hso:∀ ob',(setObj b ob').run P w=.ok () (w.putObj b ob'):=fun ob'=>by simp [setObj,Sem.run,hheap,World.putObj]
 cases hix:Zk k ks 0 with
 | none=>rw [hix] at r1;rcases hop with hop|hop <;> simp [execOp,hop,hm,hx,hv,Instr.mapUpdate,run_underlying (zdk htb hk),hgo,hck,r1,hso]
 | some p =>
  obtain ⟨j,u0⟩:=p;rw [hix] at r1;obtain ⟨_,hj⟩:=zct ks 0 hix;rw [Nat.sub_zero] at hj;have hjl:j < es.size:=by rw [hes];exact (List.getElem?_eq_some_iff.1 hj).1
  have hkey:((es[j]?).map (·.key)).getD (.int .i64 k)=.int .i64 k:=by
   have:=(hent j es[j] (k,u0) (by rw [List.getElem?_eq_getElem (by simpa using hjl)];simp) hj).1;rw [Array.getElem?_eq_getElem hjl];exact this
  rcases hop with hop|hop <;> simp [execOp,hop,hm,hx,hv,Instr.mapUpdate,run_underlying (zdk htb hk),hgo,hck,r1,hso,hkey,MapKept.run_keyThatStays (P:=P) (w:=w) (zpf (k:=k))]
theorem zed {t kt et:Nat} {m x v:Operand} {i:Nat} {ks:List (Int × Value)} {k:Int} {u:Value} (hw1:g.w1.heap.size=0) (htb:yR P tb) (hg:guardE ops env o=some true) (hop:o.op=.mapUpdate t m x v∨o.op=.insert t m x v) (hk:tb.k t=.map kt et) (hkt:tb.k kt=.int .i64)
  (hm:env.val m=some (.own i)) (hi:H.get i=some (.obj (zdH ks))) (hx:env.pv H x=some (.base (.int .i64 k))) (hv:env.pv H v=some (.base u)) (hd:o.dst=none)
  (h:AO P n g ops.toArray rest env ((i,.obj (zdH (zbA ks k u)))::H) Q):AO P n g ops.toArray (o::rest) env H Q:=by
 refine ⟨fun a w hinv=>?_⟩;have hw:=yT hinv hg;obtain ⟨h1,h2,K,ρ,hfs,he⟩:=hinv;refine wpList_step fun KK hKK=>?_
 rw [if_pos hw];have hmr:=qA he hm;have hxr:=qc (a:=a) hfs (x:=x) (fun av hh=>qA he hh) hx;have hvr:=qc (a:=a) hfs (x:=v) (fun av hh=>qA he hh) hv;generalize hmv:a.eval m=mv at hmr;generalize hxv:a.eval x=xv at hxr;generalize hvv:a.eval v=vv at hvr;obtain ⟨b,ob,hr,hB,hheap,⟨es,clock,rfl,hes,hent⟩,hn⟩:=hfs.heap.ok i _ hi;cases hvr;cases hxr;cases hmr with
 | own _ _ =>
  rw [hr] at hmv;have hrun:=zgN (P:=P) (w:=w) htb hop hk hkt hmv hxv hvv hheap hes hent;obtain ⟨hfs2,hlat⟩:=FS.setObj hfs hw1 hi hr (zng (k:=k) (u:=u) (clock:=clock) hes hent);unfold Oper.wp;rw [hrun];simp only [Oper.upon];have hd':a.put o.dst undef=a:=by rw [hd];rfl
  rw [hd'];exact hKK _ _ (h.go _ _ ⟨h1,h2,K,ρ,hfs2,he.keeps hlat fun j hj=>⟨by rw [HEnv.get_cons];split <;> first|rfl|exact hj,rfl⟩⟩)
theorem zhX {t kt et:Nat} {m x v:Operand} {i:Nat} {ks:List (Int × Value)} {k:Int} {u:Value} {N N1:HEnv} (hw1:g.w1.heap.size=0) (htb:yR P tb) (hop:o.op=.mapUpdate t m x v∨o.op=.insert t m x v) (hk:tb.k t=.map kt et) (hkt:tb.k kt=.int .i64)
  (hm:env.val m=some (.own i)) (hi:H.get i=some (.obj (zdH ks))) (hx:env.val x=some (.pv (.base (.int .i64 k)))) (hv:env.val v=some (.pv (.base u))):EStepN P g H ((i,.obj (zdH (zbA ks k u)))::H) N N1 o env (.pv (.tup [])) none:=by
 refine ⟨fun K ρ a w hfs he=>.inr ⟨rfl,?_⟩⟩;have hmr:=he m zwy96 _ hm;have hxr:=he x zwy96 _ hx;have hvr:=he v zwy96 _ hv;generalize hmv:a.eval m=mv at hmr;generalize hxv:a.eval x=xv at hxr;generalize hvv:a.eval v=vv at hvr;obtain ⟨b,ob,hr,hB,hheap,⟨es,clock,rfl,hes,hent⟩,hn⟩:=hfs.heap.ok i _ hi;cases hvr with
 | pv _ _ hvr =>
 cases hvr;cases hxr with
 | pv _ _ hxr =>
 cases hxr;cases hmr with
 | own _ _ =>
  rw [hr] at hmv;have hrun:=zgN (P:=P) (w:=w) htb hop hk hkt hmv hxv hvv hheap hes hent;obtain ⟨hfs2,hlat⟩:=FS.setObj hfs hw1 hi hr (zng (k:=k) (u:=u) (clock:=clock) hes hent);exact ⟨undef,_,K,ρ,.inr ⟨hrun,rfl⟩,hfs2,hlat,fun _ _=>rfl,zbG⟩
theorem zl9 {t d:Nat} (i:Nat) (hg:guardE ops env o=some true) (hop:o.op=.makeMap t none) (hi:H.get i=none) (hd:o.dst=some d) (ht:Nat.blt d n=true)
  (h:AO P n g ops.toArray rest ((d,.own i)::env) ((i,.obj (zdH []))::H) Q):AO P n g ops.toArray (o::rest) env H Q:=by
 refine ⟨fun a w hinv=>?_⟩;have hw:=yT hinv hg;obtain ⟨h1,h2,K,ρ,hf,he⟩:=hinv;refine wpList_step fun KK hKK=>?_
 rw [if_pos hw];have hrun:(execOp a.eval o).run P w=.ok (.value (.map (some w.heap.size))) (w.alloc (.map #[] 0)):=by
  simp [execOp,hop,run_makeMap]
 unfold Oper.wp;rw [hrun];simp only [Oper.upon];have hev:Evo K K w (w.alloc (.map #[] 0)):=⟨(Below.refl _ _).alloc (Nat.le_refl _) _,fun _ _ h=>h,fun _ _ h=>.inl h,fun b o h=>by have:=hf.lt b o h;simp;omega⟩
 refine hKK _ _ (h.go _ _ ⟨qW h1,put_defers h2,K,fun j=>if j=i then .map (some w.heap.size) else ρ j,hf.fresh hev hi ⟨w.heap.size,.map #[] 0,rfl,hf.below.size,heap_alloc_new w _,⟨#[],0,rfl,rfl,fun i e x h=>by simp at h⟩,fun o ho=>by have:=hf.lt _ o ho;omega⟩ zwy112,?_⟩);rw [hd];have:=ARel.own (K:=K) (w:=w.alloc (.map #[] 0)) (ρ:=fun j=>if j=i then .map (some w.heap.size) else ρ j) (H:=(i,HE.obj (zdH []))::H) i zwy94;exact Zo h1 ht (he.keeps (hev.later hf.lt) (Za hi _ _)) (by simpa using this)
end
end Go.Cg
namespace Go.Cg
def QX (c:Cl):List (Int × List Ty) :=
 if c.kind==1 then [(c.hf,[c.t])]
 else if c.kind==2 then [(c.hf,[⟨4,0,0,false⟩]),(c.filter,[⟨4,0,0,false⟩])]
 else [(c.hf,[])]
def zaq (m:Me):List (Int × List Ty):=(0,[])::m.clauses.flatMap QX
def zkG (l:List (Int × List Ty)) (t:Int):Option (List Ty):=l.foldl (fun r e=>if e.1==t then some e.2 else r) none
def WH (l:List (Int × List Ty)) (e:Int × List Ty):List (Int × List Ty):=zbA l e.1 e.2
def gvE (cs:List Cl):List (Int × List Ty):=((0,[])::cs.flatMap QX).foldl WH []
theorem zn6 {α:Type} (t k:Int) (x:α):∀ (l:List (Int × α)) (i:Nat),(Zk k l i=none→(Zk t (l++[(k,x)]) i).map Prod.snd=if k=t then some x else (Zk t l i).map Prod.snd) ∧
  ∀ j y,Zk k l i=some (j,y)→(Zk t (l.set (j - i) (k,x)) i).map Prod.snd=if k=t then some x else (Zk t l i).map Prod.snd
 | [],i=>⟨fun _=>by
   by_cases h:k=t
   ·subst h;simp [Zk]
   ·simp [Zk,h,Ne.symm h],fun j y h=>by cases h⟩
 | e::l,i=>by
  obtain ⟨h1,h2⟩:=zn6 t k x l (i + 1);by_cases hk:k=e.1
  ·refine ⟨fun h=>by simp [Zk,hk] at h,fun j y h=>?_⟩;simp only [Zk,hk,if_true,Option.some.injEq,Prod.mk.injEq] at h;obtain ⟨rfl,rfl⟩:=h;rw [Nat.sub_self,List.set_cons_zero];by_cases ht:k=t
   ·subst ht;simp [Zk]
   ·have h3:¬ t=e.1:=fun e2=>ht (hk.trans e2.symm)
    have h4:¬ t=k:=fun e2=>ht e2.symm
    simp only [Zk,ht,h3,h4,if_false]
  ·refine ⟨fun h=>?_,fun j y h=>?_⟩
   ·simp only [Zk,hk,if_false] at h;by_cases ht:t=e.1
    ·have h5:¬ k=t:=fun e2=>hk (e2.trans ht)
     simp only [List.cons_append,Zk,ht,if_true];rw [←ht,if_neg h5]
    ·simp only [List.cons_append,Zk,ht,if_false];exact h1 h
   ·simp only [Zk,hk,if_false] at h;have hj:=(zct _ _ h).1;have h6:=h2 j y h;rw [show j - i=(j - (i + 1)) + 1 by omega,List.set_cons_succ];by_cases ht:t=e.1
    ·have h5:¬ k=t:=fun e2=>hk (e2.trans ht)
     simp only [Zk,ht,if_true];rw [←ht,if_neg h5]
    ·simp only [Zk,ht,if_false];exact h6
theorem ztJ (l:List (Int × List Ty)) (e:Int × List Ty) (t:Int):(Zk t (WH l e) 0).map Prod.snd=if e.1==t then some e.2 else (Zk t l 0).map Prod.snd:=by
 obtain ⟨h1,h2⟩:=zn6 t e.1 e.2 l 0;unfold WH zbA;cases hx:Zk e.1 l 0 with
 | none=>simpa using h1 hx
 | some p=>simpa using h2 p.1 p.2 hx
theorem zkF (t:Int):∀ (es l:List (Int × List Ty)),(Zk t (es.foldl WH l) 0).map Prod.snd=es.foldl (fun r e=>if e.1==t then some e.2 else r) ((Zk t l 0).map Prod.snd)
 | [],l=>rfl
 | e::es,l=>by rw [List.foldl_cons,List.foldl_cons,zkF t es,ztJ]
theorem ztW (m:Me) (t:Int):(Zk t (gvE m.clauses) 0).map Prod.snd=zkG (zaq m) t:=zkF t _ []
theorem ztV {cs:List Cl} {k:Nat} {c:Cl} (h:cs[k]?=some c):gvE (cs.take (k + 1))=(QX c).foldl WH (gvE (cs.take k)):=by
 have h2:cs.take (k + 1)=cs.take k++[c]:=by rw [List.take_add_one,h];rfl
 rw [gvE,h2,gvE];simp only [List.flatMap_append,List.flatMap_cons,List.flatMap_nil,List.append_nil,←List.cons_append,List.foldl_append]
abbrev zeH (l:List (Int × List Ty)):PV:=.tup (l.map fun e=>tys e.2)
abbrev gvH (l:List (Int × List Ty)) (us:List Value):HEnv:=[(60,.obj (zdH ((l.map Prod.fst).zip us))),(61,.pin (.pv (zeH l)) (.tuple us.toArray))]
theorem zhF {K:KK} {w:World} {l:List (Int × List Ty)} {us:List Value} {e:Int × List Ty} {u:Value} (h:PRel K w (zeH l) (.tuple us.toArray)) (hp:PRel K w (tys e.2) u):PRel K w (zeH (WH l e)) (.tuple (VW l e.1 us u).toArray):=by
 unfold WH zbA VW;cases hx:Zk e.1 l 0 with
 | none =>
  have:=zv0 h hp;simpa [zeH] using this
 | some p =>
  have:=zvl h hp p.1;simpa [zeH,List.map_set] using this
end Go.Cg
namespace Go.Cg
open Go Go.Proofs
theorem zvs:laidOutB Tryz.checked.prog=true:=by kernel_rfl
theorem zu6:mapsRowed Tryz.checked.prog=true:=by kernel_rfl
theorem ztH:Tryz.checked.prog.stopsHeard=true:=by kernel_rfl
theorem zuS:Tryz.checked.prog.mayEnter=true:=by kernel_rfl
theorem zs3:Tryz.checked.prog.liftsFinal=false:=by kernel_rfl
theorem zvP:Tryz.checked.prog.make=some .cut:=by kernel_rfl
end Go.Cg
namespace Go.Cg
open Go.Proofs
theorem zoM {k:Int} {c:Cl} {x:Pt} (h:x∈yE k c):x.c=k∧(x.p=1∨x.p=2∨(x.p=3∧c.kind=2))∧bounds c x.p=(x.f,x.t):=by
 unfold yE at h;by_cases hk:c.kind=2
 ·simp [hk] at h;rcases h with rfl|rfl|rfl <;> simp [bounds,hk]
 ·simp [hk] at h;rcases h with rfl|rfl <;> simp [bounds]
theorem zwg {n:Int} {c:Cl} (h:WL n c=0):meet c 1 c 2=false∧meet c 1 c 3=false∧meet c 2 c 3=false:=by
 unfold WL at h;split at h
 ·simp at h
 ·split at h
  ·simp at h
  ·split at h
   ·simp at h
   ·rename_i h1;simp only [Bool.or_eq_true,not_or,Bool.not_eq_true] at h1;exact ⟨h1.1.1,h1.1.2,h1.2⟩
theorem zfL {n:Int} {l:List Cl} (h:(Qm n l).2=0):(∀ i,i < l.length→WL n (l.getD i default)=0)∧∀ j i,i < l.length→j < i→zem (l.getD j default) (l.getD i default)=true:=by
 have h6:¬ 6 < l.length:=fun h6=>by simp [Qm,h6] at h
 have hall:∀ i,i < l.length→Wh n l i=0:=by
  intro i hi;rw [Qm,if_neg h6] at h;split at h
  ·rename_i j hj;have:=List.find?_some hj;simp only [bne_iff_ne,ne_eq] at this;exact absurd h this
  ·rename_i hn;have:=List.find?_eq_none.1 hn i (List.mem_range.2 hi);simpa using this
 refine ⟨fun i hi=>zf9 (hall i hi),fun j i hi hj=>?_⟩;have:=hall i hi;rw [Wh,zf9 this] at this;simp only [bne_self_eq_false,Bool.false_eq_true,if_false] at this;split at this
 ·simp at this
 ·rename_i hb;simp only [zab,Bool.not_eq_true,List.any_eq_false,List.mem_range,Bool.not_eq_true'] at hb;have:=hb j hj;simpa using this
theorem zmL {n:Int} {l:List Cl} (hc:(Qm n l).2=0) {j:Nat} (hj:j < l.length) {y:Pt} (hy:y∈yE j (l.getD j default)):y.t≤n∧0≤y.f:=by
 have ha:=(zfL hc).1 j hj;have hok:=zcN ha;generalize l.getD j default=c at *;have h1:c.tt≤n∧c.ht≤n:=by
  unfold WL at ha;split at ha
  ·simp at ha
  ·rename_i h1;simp only [zgh,zf0,Bool.or_eq_true,decide_eq_true_eq,Bool.not_eq_true',Bool.and_eq_false_iff,decide_eq_false_iff_not,not_or,Decidable.not_not] at h1;omega
 obtain ⟨_,p1,b1⟩:=zoM hy;have e:=hok.t;have e2:=hok.h;have e3:=hok.h0;have e4:=hok.t0;rcases p1 with p1|p1|⟨p1,hk⟩ <;> rw [p1] at b1 <;> simp [bounds] at b1
 ·omega
 ·omega
 ·have:=hok.f hk;rw [hk] at b1;simp at b1;omega
end Go.Cg
namespace Go.Cg
open Go.RowKit
section
variable {P:Program} {tb:Tab} {n:Nat} {g:Base} {K K':KK} {w w':World} {ρ ρ':Nat→Value} {H H':HEnv} {env:Env} {a:Act} {ops:List Oper} {o:Oper} {rest:List Oper} {Q:Env→HEnv→Prop} {f:FuncId} {args:List AV} {r:AV}
theorem zrX {d:Tmp} {ars:List AV} (Hc Hc' R:HEnv) (env2:Env) {lone:Bool} (ps:List Nat) (hw1:lone=true→g.w1.heap.size=0) (hg:guardE ops env o=some true)
  (henter:∀ (K:KK) (ρ:Nat→Value) (a:Act) (w:World),FS g K ρ H w→EnvR K w ρ H env a.tmps→Vy P f→∃ vs:List Value,(execOp a.eval o).run P w=.ok (.enter f vs.toArray) w∧Yx K w ρ H ars vs) (hsub:HSub H (Hc++R)) (hs:Sub env env2) (hd:o.dst=some d) (hdt:Nat.blt d n=true)
  (hchk:YB Hc Hc' R ps ars env2 r=true) (hc:∀ us,ACallM P f ars (Hc++qE us ps) r (Hc'++qE us ps) lone)
  (h:AO P n g ops.toArray rest ((d,r)::env2) (Hc'++R) Q):AO P n g ops.toArray (o::rest) env H Q:=by
 obtain ⟨hk0,hk6⟩:=zcU hchk;refine ⟨fun a w hinv=>?_⟩;have hw:=yT hinv hg;obtain ⟨h1,h2,K,ρ,hf,he⟩:=hinv;refine wpList_step fun KK hKK=>?_
 rw [if_pos hw];obtain ⟨vs,hrun,hall⟩:=henter K ρ a w hf he (hc ρ).stands;unfold Oper.wp;rw [hrun];simp only [Oper.upon];refine (zbC Hc Hc' R ps hw1 hsub hk0 hc hf hall).mono fun e w' ⟨v,K',ρ2,e1,hf',hv,hlat,hps⟩=>?_
 subst e1;refine hKK _ _ (h.go _ _ ⟨qW h1,put_defers h2,K',ρ2,hf',?_⟩);rw [hd];refine Zo h1 hdt (fun t av ht=>?_) hv;obtain ⟨u1,u2,u3⟩:=he t av (hs t av ht);exact ⟨u1,u2,(u3.refs (zbo hk6 t av ht)).keeps hlat hps⟩
theorem zaF {t:Tmp} {xs:Array Operand} {ts:Array TypeId} {d:Tmp} {first cap ars:List AV} (Hc Hc' R:HEnv) (env2:Env) {lone:Bool} (ps:List Nat) (hw1:lone=true→g.w1.heap.size=0) (hg:guardE ops env o=some true)
  (hop:o.op=.call { callee:=.value (.tmp t),args:=xs,argTypes:=ts }) (ht:env.get t=some (.fn (.func f) first cap)) (hargs:avs env xs.toList=some ars) (hsub:HSub H (Hc++R)) (hs:Sub env env2) (hd:o.dst=some d) (hdt:Nat.blt d n=true)
  (hchk:YB Hc Hc' R ps (first++ars++cap) env2 r=true) (hc:∀ us,ACallM P f (first++ars++cap) (Hc++qE us ps) r (Hc'++qE us ps) lone)
  (h:AO P n g ops.toArray rest ((d,r)::env2) (Hc'++R) Q):AO P n g ops.toArray (o::rest) env H Q :=
 zrX Hc Hc' R env2 ps hw1 hg (fun K ρ a w hf he hst=>by
  have hfn:=qA he (x:=.tmp t) ht;generalize hfv:a.eval (.tmp t)=fv at hfn;have hpa:=VP (a:=a) he hargs;cases hfn with
  | fn _ _ _ vf vc f1 f2 f3 f4 =>
   refine ⟨vf++xs.toList.map a.eval++vc,?_,by have:=hpa.1;simp at this;simp [f1,f2,this],fun k c v hc hv=>?_⟩
   ·have e:(vf++xs.toList.map a.eval++vc).toArray=vf.toArray++xs.map a.eval++vc.toArray:=by
     rw [show xs.map a.eval=(xs.toList.map a.eval).toArray by rw [←Array.toList_map,Array.toArray_toList]];simp
    rw [e];simp [execOp,hop,resolve,hfv,Deferred.ofValue,invoke,Ze hst]
   ·rw [List.append_assoc,List.getElem?_append] at hc hv;split at hc
    ·rename_i hl;rw [if_pos zwy62] at hv;exact f3 k c v hc hv
    ·rename_i hl;rw [if_neg zwy62,f1] at hv;rw [List.getElem?_append] at hc hv;have e:(xs.toList.map a.eval).length=ars.length:=hpa.1;split at hc
     ·rename_i hl2;rw [if_pos zwy62] at hv;exact hpa.2 _ c v hc hv
     ·rename_i hl2;rw [if_neg zwy62,e] at hv;exact f4 _ c v hc hv) hsub hs hd hdt hchk hc h
variable {listed:List Bool} {QQ:QC}
end
section
variable {P:Program} {n:Nat} {g:Base} {H:HEnv} {env:Env} {ops:List Oper} {o:Oper} {rest:List Oper} {f:FuncId} {QQ:QC}
theorem zi6 {t:Tmp} {xs:Array Operand} {ts:Array TypeId} {first cap ars:List AV} {v:Value} (Hc R:HEnv) {lone:Bool} (hw1:lone=true→g.w1.heap.size=0) (hg:guardE ops env o=some true)
  (hop:o.op=.call { callee:=.value (.tmp t),args:=xs,argTypes:=ts }) (ht:env.get t=some (.fn (.func f) first cap)) (hargs:avs env xs.toList=some ars) (hsub:HSub H (Hc++R)) (hchk:zkT Hc R (first++ars++cap)=true) (hc:ACallPan P f (first++ars++cap) Hc v lone)
  (h:QQ (.panic [{ v:=v,recovered:=false }]) (Vb R env) R):AOX P n g ops.toArray (o::rest) env H QQ:=by
 refine ⟨fun a w hinv=>?_⟩;have hw:=yT hinv hg;obtain ⟨h1,h2,K,ρ,hf,he⟩:=hinv;refine wpList_step fun KK hKK=>?_
 rw [if_pos hw];have henter:∃ vs:List Value,(execOp a.eval o).run P w=.ok (.enter f vs.toArray) w∧Yx K w ρ H (first++ars++cap) vs:=by
  have hfn:=qA he (x:=.tmp t) ht;generalize hfv:a.eval (.tmp t)=fv at hfn;have hpa:=VP (a:=a) he hargs;cases hfn with
  | fn _ _ _ vf vc f1 f2 f3 f4 =>
   refine ⟨vf++xs.toList.map a.eval++vc,?_,by have:=hpa.1;simp at this;simp [f1,f2,this],fun k c v hc hv=>?_⟩
   ·have e:(vf++xs.toList.map a.eval++vc).toArray=vf.toArray++xs.map a.eval++vc.toArray:=by
     rw [show xs.map a.eval=(xs.toList.map a.eval).toArray by rw [←Array.toList_map,Array.toArray_toList]];simp
    rw [e];simp [execOp,hop,resolve,hfv,Deferred.ofValue,invoke,Ze hc.stands]
   ·rw [List.append_assoc,List.getElem?_append] at hc hv;split at hc
    ·rename_i hl;rw [if_pos zwy62] at hv;exact f3 k c v hc hv
    ·rename_i hl;rw [if_neg zwy62,f1] at hv;rw [List.getElem?_append] at hc hv;have e:(xs.toList.map a.eval).length=ars.length:=hpa.1;split at hc
     ·rename_i hl2;rw [if_pos zwy62] at hv;exact hpa.2 _ c v hc hv
     ·rename_i hl2;rw [if_neg zwy62,e] at hv;exact f4 _ c v hc hv
 obtain ⟨vs,hrun,hall⟩:=henter;unfold Oper.wp;rw [hrun];simp only [Oper.upon];refine (zj7 Hc R hw1 hsub hchk hc hf hall).mono fun e w' ⟨e1,K',ρ2,hf',hlat,hps⟩=>?_
 subst e1;refine ⟨Vb R env,R,⟨h1,h2,K',ρ2,hf',fun t av ht=>?_⟩,.inr ⟨_,rfl⟩,h⟩;rw [Vt] at ht;cases hE:env.get t with
 | none=>simp [hE] at ht
 | some v0 =>
  obtain ⟨u,u1,u2⟩:=he t v0 hE;simp only [hE,Option.map_some,Option.some.injEq] at ht;subst ht;refine ⟨u,u1,?_⟩;split
  ·rename_i hr;exact (u2.refs hr).keeps hlat fun j hj=>⟨hj,hps j hj⟩
  ·exact .any u
end
end Go.Cg
namespace Go.Cg
open Go.Proofs
abbrev zeR:PV:=.slc 4 [.agg [pi 4,pi 0,pi 0,pb false]] true
abbrev zps:Value:=.slice none 0 0
theorem zxI {K:KK} {w:World}:PRel K w (zeH (gvE [])) (.tuple [zps].toArray) :=
 .tup _ [zps] rfl fun k c v h1 h2=>by
  match k with
  | 0=>simp [gvE,WH,zbA,Zk] at h1 h2;subst h1 h2;exact .nil 4 false
  | k + 1=>simp at h2
theorem zug {H:HEnv} {l:List (Int × List Ty)} {us:List Value} {e:Int × List Ty} {u:Value} {p2:HE} (hus:us.length=l.length) (h0:H.get 60=some (.obj (zdH (zbA ((l.map Prod.fst).zip us) e.1 u)))) (h1:H.get 61=some (.pin (.pv (zeH (WH l e))) (.tuple (VW l e.1 us u).toArray))) (h2:H.get 62=some p2) :
  HSub H (gvH (WH l e) (VW l e.1 us u)++[(62,p2)]):=by
 rw [zmP hus e.1 e.2 u] at h0;exact zx h0 (zx h1 (zx h2 zA))
theorem zwB {H:HEnv} {l:List (Int × List Ty)} {us:List Value} {e e2:Int × List Ty} {u:Value} {p2:HE} (hus:us.length=l.length) (h0:H.get 60=some (.obj (zdH (zbA (zbA ((l.map Prod.fst).zip us) e.1 u) e2.1 u)))) (h1:H.get 61=some (.pin (.pv (zeH (WH (WH l e) e2))) (.tuple (VW (WH l e) e2.1 (VW l e.1 us u) u).toArray))) (h2:H.get 62=some p2) :
  HSub H (gvH (WH (WH l e) e2) (VW (WH l e) e2.1 (VW l e.1 us u) u)++[(62,p2)]):=by
 rw [zmP hus e.1 e.2 u] at h0;exact zug (zcw hus _ _ _) h0 h1 h2
set_option maxHeartbeats 2000000 in
theorem zeu (m:Me) (hm:m.clauses.length≤100000):ACallU Tryz.prog 15 [.pv (yh m)] [] (fun _:List Value=>.own 60) (fun us=>gvH (gvE m.clauses) us) true:=by
 refine ze0 zf Tryz.func15 rfl zws Tryz.ntmps15 zwy63 _ rfl (fun gB hw1=>?_)
 repeat' (first|refine sM ?_|refine zl9 60 rfl rfl rfl rfl rfl ?_|refine zed (hw1 rfl) zf rfl (.inr rfl) rfl rfl rfl rfl rfl rfl rfl ?_|refine sK ?_|refine sC (fun _=>?_) (fun _=>?_)|fail)
 refine zsh 4 62 rfl (fun uO=>znS 61 (zeH (gvE [])) (.tuple [zps].toArray) (fun _ _ _ _=>zxI) ?_);refine zW (fun x:Nat × List Value=>[(3,.own 60),(4,.pv (.base uO)),(12,.pv (.slc 10 (m.clauses.map Zg) false)),(13,.pv (pi ((m.clauses.map Zg).length:Nat))),(14,.pv (pi x.1))]) (fun x=>gvH (gvE (m.clauses.take x.1)) x.2++[(62,.pin (.pv zeR) uO)]) (fun x=>x.1≤m.clauses.length∧x.2.length=(gvE (m.clauses.take x.1)).length) (fun x=>m.clauses.length - x.1) (0,[zps]) ⟨Nat.zero_le _,rfl⟩ (tS) ⟨by repeat (first|exact zA|refine aB ?_),rfl⟩ ?_;rintro ⟨k,us⟩ ⟨hk,hus⟩;dsimp only at hk hus ⊢;obtain ⟨l,hl⟩:∃ l,l=gvE (m.clauses.take k):=⟨_,rfl⟩
 rw [←hl] at hus ⊢;by_cases hlt:k < m.clauses.length
 ·obtain ⟨c,hc⟩:∃ c,m.clauses[k]?=some c:=⟨_,List.getElem?_eq_getElem hlt⟩
  have he:(m.clauses.map Zg)[k]?=some (Zg c):=by rw [List.getElem?_map,hc];rfl
  have hdk:decide ((k:Int) < (((m.clauses.map Zg).length:Nat):Int))=true:=decide_eq_true zwy80;have hs:=ztV hc;rw [←hl] at hs;by_cases h1:c.kind=1
  ·have hb1:(c.kind==1)=true:=by rw [h1];rfl
   have hcg:QX c=[(c.hf,[c.t])]:=by rw [QX,if_pos hb1]
   rw [hcg] at hs
   repeat' (first|refine sM ?_|refine zrB 30 64 rfl (fun u1=>?_)|refine zed (hw1 rfl) zf rfl (.inl rfl) rfl rfl rfl rfl rfl rfl rfl ?_|refine zet 30 rfl 61 (zeH (WH l (c.hf,[c.t]))) (.tuple (VW l c.hf us u1).toArray) [(3,.own 60),(4,.pv (.base uO)),(12,.pv (.slc 10 (m.clauses.map Zg) false)),(13,.pv (pi ((m.clauses.map Zg).length:Nat))),(14,.pv (pi k))] (gvH (WH l (c.hf,[c.t])) (VW l c.hf us u1)++[(62,.pin (.pv zeR) uO)]) (fun K ρ w hf=>zhF (Xz (j:=61) hf rfl) (zfe _ _ _ _ _ _ (Xz (j:=64) hf rfl))) tS ⟨zug hus rfl rfl rfl,rfl⟩ ?_|(refine shX ?_;first|refine qX he ?_)|refine sK ?_|refine sC (fun _=>?_) (fun _=>?_)|fail)
   exact ⟨(k + 1,VW l c.hf us u1),⟨hlt,by rw [hs];exact zcw hus _ _ _⟩,tD,(tS),by dsimp only;rw [hs];exact ⟨by repeat (first|exact zA|refine aB ?_),rfl⟩⟩
  ·have hb1:(c.kind==1)=false:=by simpa using h1
   by_cases h2:c.kind=2
   ·have hb2:(c.kind==2)=true:=by rw [h2];rfl
    have hcg:QX c=[(c.hf,[⟨4,0,0,false⟩]),(c.filter,[⟨4,0,0,false⟩])]:=by rw [QX,if_neg (by simp [hb1]),if_pos hb2]
    rw [hcg] at hs
    repeat' (first|refine sM ?_|refine Zr (id:=11) 10 10 [8,9] [] (mkL [((0,.cell (.pv (Zg c)))::(gvH l us++[(62,.pin (.pv zeR) uO)])),(60,.obj (zdH (zbA ((l.map Prod.fst).zip us) c.hf uO)))::((0,.cell (.pv (Zg c)))::(gvH l us++[(62,.pin (.pv zeR) uO)])),(60,.obj (zdH (zbA (zbA ((l.map Prod.fst).zip us) c.hf uO) c.filter uO)))::(60,.obj (zdH (zbA ((l.map Prod.fst).zip us) c.hf uO)))::((0,.cell (.pv (Zg c)))::(gvH l us++[(62,.pin (.pv zeR) uO)]))]) (fun _=>[(60,.dead),(0,.cell (.pv (Zg c))),(61,.pin (.pv (zeH l)) (.tuple us.toArray)),(62,.pin (.pv zeR) uO)]) ([(60,.dead),(0,.cell (.pv (Zg c))),(61,.pin (.pv (zeH l)) (.tuple us.toArray)),(62,.pin (.pv zeR) uO)]) none rfl zws zws zws zws zws zws zws (fun p hp=>by simp at hp) rfl (zde (i:=60) rfl ⟨tH,tH,tH,trivial⟩) rfl (fun _ _ _ _=>rfl) (fun q h=>by have:q=0∨q=1∨q=2:=(by simp at h;omega);rcases this with rfl|rfl|rfl <;> rfl) tH rfl (fun v hv=>by cases hv) ?_|refine Qp 8 [0,1] rfl rfl ?_|refine Zt [0] (.pv (.tup [])) rfl rfl rfl ?_|refine Zt [] (.pv (.tup [])) rfl rfl rfl ?_|refine ZV ?_|intro _|refine QL ?_|refine ⟨⟨rfl,zhX (hw1 rfl) zf (.inl rfl) rfl rfl rfl rfl rfl rfl,.inl rfl⟩,?_⟩|refine zet 38 rfl 61 (zeH (WH (WH l (c.hf,[⟨4,0,0,false⟩])) (c.filter,[⟨4,0,0,false⟩]))) (.tuple (VW (WH l (c.hf,[⟨4,0,0,false⟩])) c.filter (VW l c.hf us uO) uO).toArray) [(3,.own 60),(4,.pv (.base uO)),(12,.pv (.slc 10 (m.clauses.map Zg) false)),(13,.pv (pi ((m.clauses.map Zg).length:Nat))),(14,.pv (pi k))] (gvH (WH (WH l (c.hf,[⟨4,0,0,false⟩])) (c.filter,[⟨4,0,0,false⟩])) (VW (WH l (c.hf,[⟨4,0,0,false⟩])) c.filter (VW l c.hf us uO) uO)++[(62,.pin (.pv zeR) uO)]) (fun K ρ w hf=>zhF (zhF (Xz (j:=61) hf rfl) (zfe _ _ _ _ _ _ (Xz (j:=62) hf rfl))) (zfe _ _ _ _ _ _ (Xz (j:=62) hf rfl))) tS ⟨zwB hus rfl rfl rfl,rfl⟩ ?_|(refine shX ?_;first|refine qX he ?_)|refine sK ?_|refine sC (fun _=>?_) (fun _=>?_)|fail)
    exact ⟨(k + 1,VW (WH l (c.hf,[⟨4,0,0,false⟩])) c.filter (VW l c.hf us uO) uO),⟨hlt,by rw [hs];exact zcw (zcw hus _ _ _) _ _ _⟩,tD,(tS),by dsimp only;rw [hs];exact ⟨by repeat (first|exact zA|refine aB ?_),rfl⟩⟩
   ·have hb2:(c.kind==2)=false:=by simpa using h2
    have hcg:QX c=[(c.hf,[])]:=by rw [QX,if_neg (by simp [hb1]),if_neg (by simp [hb2])]
    rw [hcg] at hs
    repeat' (first|refine sM ?_|refine zed (hw1 rfl) zf rfl (.inl rfl) rfl rfl rfl rfl rfl rfl rfl ?_|refine zet 22 rfl 61 (zeH (WH l (c.hf,[]))) (.tuple (VW l c.hf us zps).toArray) [(3,.own 60),(4,.pv (.base uO)),(12,.pv (.slc 10 (m.clauses.map Zg) false)),(13,.pv (pi ((m.clauses.map Zg).length:Nat))),(14,.pv (pi k))] (gvH (WH l (c.hf,[])) (VW l c.hf us zps)++[(62,.pin (.pv zeR) uO)]) (fun K ρ w hf=>zhF (Xz (j:=61) hf rfl) (.nil 4 false)) tS ⟨zug hus rfl rfl rfl,rfl⟩ ?_|(refine shX ?_;first|refine qX he ?_)|refine sK ?_|refine sC (fun _=>?_) (fun _=>?_)|fail)
    exact ⟨(k + 1,VW l c.hf us zps),⟨hlt,by rw [hs];exact zcw hus _ _ _⟩,tD,(tS),by dsimp only;rw [hs];exact ⟨by repeat (first|exact zA|refine aB ?_),rfl⟩⟩
 ·have hk2:k=m.clauses.length:=by omega
  subst hk2;have hdk:decide ((m.clauses.length:Int) < (((m.clauses.map Zg).length:Nat):Int))=false:=decide_eq_false zwy80;rw [List.take_length] at hl;subst hl
  repeat' (first|refine sK ?_|refine sC (fun _=>?_) (fun _=>?_)|fail)
  exact ⟨us,.inr rfl,.inr ⟨_,rfl,rfl,⟨by repeat (first|exact zA|refine aB ?_),rfl⟩⟩⟩
end Go.Cg









namespace Go.Cg
open Go.Proofs
set_option maxHeartbeats 20000000
def zaT (g:Img) (m:Int):Bool:=decide (m < 0)||qJ (mAt g m).flags 4
def zb4 (g:Img) (t:Int) (what:Int→Int) (fs:List Int):Bool:=!(tbl g t).any (zaT g)&&!fs.any fun f=>(methodsOf g f).any fun m=>zaT g (what m)
def okI (g:Img) (m:Int):Prop:=m < 0∨mOk g m
theorem zgY (g:Img) (hF:Fine g) (m:Int) (hm:okI g m):ACall Tryz.prog 97 ([]++[pi m]++[.ptr (zO g) 0]) (pb (zaT g m)):=by
 show ACall Tryz.prog 97 [pi m,.ptr (zO g) 0] (pb (zaT g m))
 refine zi zf Tryz.func97 rfl zws Tryz.ntmps97 zwy63 _ rfl (fun hw gB hgB=>?_);by_cases h0:m < 0
 ·repeat' (first|refine sK ?_|refine sC (fun _=>?_) (fun _=>?_)|fail)
  exact retq rfl (by rw [zaT,decide_eq_true h0];rfl)
 ·have hm2:mOk g m:=hm.resolve_left h0;have hem:=WV hm2;have h:=zaj hF.formed hm2;have c:=Xr (mAt g m) 4;rw [(zbn h.1 h.2).2.2.1] at c;have hd:decide (m < 0)=false:=decide_eq_false h0
  repeat' (first|(refine shC ?_;first|refine qC c ?_)|(refine shX ?_;first|refine zy rfl (ah hm2.1 hem) rfl rfl ?_|refine zq rfl (ah hm2.1 hem) rfl rfl ?_)|refine sK ?_|refine sC (fun _=>?_) (fun _=>?_)|fail)
  exact retq rfl (by rw [zaT,hd];rfl)
theorem ztM {g:Img} (hW:Wl g) {t m:Int} (hm:mOk g m) (hb:yt g (zb1 g m)=0→zb1 g m∈up g t):mOk g (zeJ g t m):=by
 rw [zeJ];split
 ·exact hm
 ·rename_i h;have:=zqi hW hb h;rw [zT this];exact zqy (List.getElem_mem this)
theorem ztX {g:Img} (hW:Wl g) {t m:Int} (hk:yt g t=0):okI g (zav g t m):=by
 rw [zav];cases h:zp7 g t m with
 | none=>exact .inl (by show (-1:Int) < 0;omega)
 | some k =>
  have:=List.mem_of_find?_eq_some h;obtain ⟨u,hu,hku⟩:=List.mem_flatMap.1 this;obtain ⟨q1,q2,q3⟩:=up0 hW hk hu hku;exact .inr (ztM hW q1 q3)
theorem zsu {g:Img} (hF:Fm g) (t:Int):(YJ g t).length≤g.types.length:=by
 have:=(ziR hF t).2.len;rw [YJ,sortL];simpa using this
theorem zwk26 {G:Prop} (h:G:=by repeat' (first|(refine shC ?_;first|(have:=b0;refine qC cf ?_)|(have:=b0;refine qV (cv) ?_)|(have:=b1;refine qC c1 ?_)|(have:=b1;refine qC c2 ?_))|(refine shX ?_;first|(have:=b0;refine qX hem ?_))|refine sK ?_|refine sC (fun _=>?_) (fun _=>?_)|(have:=b2;exact retq rfl zwy109)|exact ⟨j + 1,⟨hjl,hr⟩,tD,tS,tH⟩|exact ⟨i + 1,⟨hlt,hr⟩,tD,tS,tH⟩|exact retq rfl rfl|fail)):G:=h
theorem znF (g:Img) (hF:Fine g) (t:Int) (hk:yt g t=0):ACall Tryz.prog 55 [zO g,pi t] (pb (zb4 g t (zav g t) (YJ g t))):=by
 have hW:=zfg hF.well;obtain ⟨hgt,_,hgm,_⟩:=yG hF.formed;have c1:=ziy g hF t;have c2:=XH (tbl g t) (zaT g) 97 [] [.ptr (zO g) 0] (fun x hx=>zgY g hF x (.inr (zqy hx)));have c3:=zgX g t (VH hF.formed);have hfpl:=zsu (VH hF.formed) t;refine zi zf Tryz.func55 rfl zws Tryz.ntmps55 zwy63 _ rfl (fun hw gB hgB=>?_);rw [zb4];cases ho:(tbl g t).any (zaT g)
 ·rw [ho] at c2
  repeat' (first|(refine shC ?_;first|refine qC c1 ?_|refine qC c2 ?_|refine qC c3 ?_)|refine sK ?_|refine sC (fun _=>?_) (fun _=>?_)|fail)
  refine zW (fun i:Nat=>[(1,.pv (pi t)),(2,.pv (.ptr (zO g) 0)),(5,.pv (.fn (.func 97) [] [.ptr (zO g) 0])),(18,.pv (ints (YJ g t))),(19,.pv (pi (YJ g t).length)),(20,.pv (pi i))]) (fun _=>[])
   (fun i=>i≤(YJ g t).length∧((YJ g t).any fun f=>(methodsOf g f).any fun m=>zaT g (zav g t m))=((YJ g t).drop i).any fun f=>(methodsOf g f).any fun m=>zaT g (zav g t m)) (fun i=>(YJ g t).length - i) 0 ⟨by omega,rfl⟩
   zwy71 tH ?_
  rintro i ⟨hi,hr⟩;by_cases hlt:i < (YJ g t).length
  ·obtain ⟨f,hf⟩:∃ f,f=(YJ g t)[i]:=⟨_,rfl⟩
   have hef:((YJ g t).map pi)[i]?=some (pi f):=by rw [hf];exact zY (f:=pi) hlt
   have cm:=YG g f zwy62;have hml:=Xl g f;rw [zcu hlt,←hf] at hr
   repeat' (first|(refine shC ?_;first|refine qC cm ?_)|(refine shX ?_;first|refine qX hef ?_)|refine sK ?_|refine sC (fun _=>?_) (fun _=>?_)|fail)
   refine zW (fun j:Nat=>[(1,.pv (pi t)),(2,.pv (.ptr (zO g) 0)),(5,.pv (.fn (.func 97) [] [.ptr (zO g) 0])),(18,.pv (ints (YJ g t))),(19,.pv (pi (YJ g t).length)),(20,.pv (pi i)),(26,.pv (ints (methodsOf g f))),(27,.pv (pi (methodsOf g f).length)),(28,.pv (pi j))]) (fun _=>[])
    (fun j=>j≤(methodsOf g f).length∧((YJ g t).any fun f=>(methodsOf g f).any fun m=>zaT g (zav g t m))=((((methodsOf g f).drop j).any fun m=>zaT g (zav g t m))||((YJ g t).drop (i + 1)).any fun f=>(methodsOf g f).any fun m=>zaT g (zav g t m))) (fun j=>(methodsOf g f).length - j) 0 ⟨by omega,hr⟩
    zwy71 tH ?_
   clear hr;rintro j ⟨hj,hr⟩;by_cases hjl:j < (methodsOf g f).length
   ·obtain ⟨m,hm⟩:∃ m,m=(methodsOf g f)[j]:=⟨_,rfl⟩
    have hem:((methodsOf g f).map pi)[j]?=some (pi m):=by rw [hm];exact zY (f:=pi) hjl
    have hmk:mOk g m:=by rw [hm];exact qO (List.getElem_mem hjl)
    have cf:=zq4 g hF t m hmk hk;have cv:=zgY g hF (zav g t m) (ztX hW hk);rw [zcu hjl,←hm] at hr;cases hop:zaT g (zav g t m)
    ·rw [hop] at cv hr;have b0:=();exact zwk26
    ·rw [hop] at cv hr;have b0:=();have b2:=();exact zwk26
   ·rw [drop_end zwy62] at hr;exact zwk26
  ·rw [drop_end zwy62] at hr;have b2:=();exact zwk26
 ·rw [ho] at c2;have b1:=();exact zwk26
def zvV (t:Ty):Bool:=decide (t=⟨1,0,0,false⟩)||decide (t=⟨2,0,0,false⟩)||decide (t=⟨3,0,0,false⟩)
def zv7 (m:Me):Bool:=qJ m.flags 1&&!qJ m.flags 4&&m.params.length==0&&zvV m.ret
theorem zxC {t:Ty} (hp:ZY t=true) (hr:t.ref=false):zvV t=(t.dims==0&&decide (1≤t.kind)&&decide (t.kind≤3)):=by
 obtain ⟨k,i,d,r⟩:=t;simp only at hr;subst hr;rw [Bool.eq_iff_iff];simp only [zvV,Ty.mk.injEq,Bool.or_eq_true,decide_eq_true_eq,Bool.and_eq_true,beq_iff_eq,and_true];constructor
 ·omega
 ·rintro ⟨⟨h1,h2⟩,h3⟩;have hk:k=1∨k=2∨k=3:=by omega
  rcases hk with rfl|rfl|rfl <;> simp_all [ZY]
set_option maxHeartbeats 1000000 in
theorem zlX (g:Img) (m:Me) (h:MeOk g m):ACall Tryz.prog 57 [yh m] (pb (zv7 m)):=by
 obtain ⟨h1,_,h4,_,_⟩:=zwC h;have e1:=Vo m.ret ⟨1,0,0,false⟩;have e2:=Vo m.ret ⟨2,0,0,false⟩;have e3:=Vo m.ret ⟨3,0,0,false⟩;have hl:((((m.params.map yJ).length:Nat):Int)==0)=(m.params.length==0):=by
  rw [List.length_map,Bool.eq_iff_iff];simp only [beq_iff_eq];omega
 refine zi zf Tryz.func57 rfl zws Tryz.ntmps57 zwy63 _ rfl (fun hw gB hgB=>?_);rw [zv7,zvV,←e1,←e2,←e3];generalize qJ m.flags 1=b1 at h1 ⊢;generalize qJ m.flags 4=b4 at h4 ⊢;clear e1 e2 e3
 repeat' (first|(refine shC ?_;first|refine qC h1 ?_|refine qC h4 ?_)|refine sA ?_|refine sC (fun _=>?_) (fun _=>?_)|fail)
 all_goals (refine ay ?_;first|(simp_all [zC];done)|(simp_all [zC];intro hh;rcases hh with ⟨a1,a2,a3,a4⟩|⟨a1,a2,a3,a4⟩ <;> simp_all))
abbrev zfI:=(Int × Int) × Int
def zja (r:zfI):PV:=.tup [.agg [pi r.1.1,pi r.1.2],pi r.2]
def stE (g:Img):zfI:=if decide (0≤g.entry)&&!zv7 (mAt g g.entry) then ((1,g.entry),11) else ((0,0),0)
def zuT (g:Img) (t:Int):Bool:=yt g t==3&&(methodsOf g t).length==0
def zxw (g:Img) (W:Int→Bool) (t:Int):Bool:=yt g t==0&&!qJ (g.types.getD t.toNat default).flags 4&&!W t
def stD (g:Img):List Nat→zfI
 | []=>stE g
 | t::ts=>if zuT g (t:Int) then ((0,(t:Int)),8) else stD g ts
def stC (g:Img) (W:Int→Bool):List Nat→zfI
 | []=>stD g (List.range g.types.length)
 | t::ts=>if zxw g W (t:Int) then ((0,(t:Int)),18) else stC g W ts
def stM (g:Img):List Nat→zfI
 | []=>stC g (fun t=>zb4 g t (zmu g t) (zbU g t)) (List.range g.types.length)
 | i::is=>if zom g (mAt g (i:Int)) then (if zje g (mAt g (i:Int)) then stM g is else ((1,(i:Int)),10)) else ((1,(i:Int)),8)
def qG (g:Img):zfI:=if zgW g then stM g (List.range g.methods.length) else ((0,0),17)
theorem zdS {n k:Nat} (h:k < n):(List.range n).drop k=k::(List.range n).drop (k + 1):=by
 rw [List.drop_eq_getElem_cons zwy97];simp
theorem zgs (n:Nat):(List.range n).drop n=[]:=List.drop_eq_nil_of_le zwy63
theorem zdP {l l':List Int} {p q:Int→Bool} (h:∀ x,x∈l↔x∈l') (hp:∀ x∈l,p x=q x):l.any p=l'.any q:=by
 rw [Bool.eq_iff_iff,List.any_eq_true,List.any_eq_true];constructor
 ·rintro ⟨x,hx,hpx⟩;exact ⟨x,(h x).1 hx,by rw [←hp x hx];exact hpx⟩
 ·rintro ⟨x,hx,hpx⟩;exact ⟨x,(h x).2 hx,by rw [hp x ((h x).2 hx)];exact hpx⟩
theorem zrP {k:Int} {b1 b2 b4 b8 b16 rv f16 em nc m1 ab:Bool} (h:zfQ k b1 b2 b4 b8 b16 rv f16 em nc m1 ab=true) (hk:k=2):b2=true:=by
 subst hk;cases b2
 ·cases b4
  ·simp [zfQ] at h
  ·simp [zfQ] at h
 ·rfl
theorem ztx {g:Img} (hF:Fine g) (hm:∀ i,i < g.methods.length→zom g (mAt g (i:Int))=true) (t:Int):zb4 g t (zav g t) (YJ g t)=zb4 g t (zmu g t) (zbU g t):=by
 have hFm:=VH hF.formed;have hW:=zfg hF.well;rw [zb4,zb4];congr 2;refine zdP (fun f=>by rw [zek hFm,zik hFm]) fun f hf=>?_
 refine zdP (fun m=>Iff.rfl) fun m hmm=>?_
 have hk:yt g (zb1 g m)=2:=by rw [zbk hmm];exact hW.rf_kind ((zek hFm).1 hf)
 have hmo:=qO hmm;have h1:=hm m.toNat hmo.2;rw [Int.toNat_of_nonneg hmo.1] at h1;have hv:zgi g m=true:=zrP h1 hk;rw [zmu,hk,hv];rfl
theorem zph {g:Img} {k:Nat} (h:k < g.methods.length):mOk g (k:Int):=⟨by omega,by simpa using h⟩
theorem zw2 {g:Img} {k:Nat} (h:k < g.methods.length):(g.methods.map yh)[((k:Int)).toNat]?=some (yh (mAt g (k:Int))):=WV (zph h)
theorem zwR {g:Img} {k:Nat} (h:k < g.types.length):(g.types.map ZB)[((k:Int)).toNat]?=some (ZB (g.types.getD ((k:Int)).toNat default)):=by
 have h':((k:Int)).toNat < g.types.length:=by simpa using h
 rw [zT h'];exact Yy h'
theorem zur {g:Img} (hf:yI g=true) (h:0≤g.entry):mOk g g.entry:=by
 simp only [yI,Bool.and_eq_true,decide_eq_true_eq] at hf;exact ⟨h,by omega⟩
theorem zq6 {f:Int} (h0:0≤f) (h1:f≤31):(IntKind.i64.wrap ((BitVec.ofInt IntKind.i64.bits f &&& BitVec.ofInt IntKind.i64.bits 4).toNat:Int)==0)=!qJ f 4:=by
 rw [←(zbn h0 h1).2.2.1,qL,bne,Bool.not_not]
theorem zsp {g:Img} (hf:yI g=true) {k:Nat} (h:k < g.types.length):0≤(g.types.getD ((k:Int)).toNat default).flags∧(g.types.getD ((k:Int)).toNat default).flags≤31:=zn7 hf zwy62 zwy97
theorem zul {l:List Int}:((((l.map pi).length:Nat):Int)==0)=(l.length==0):=by
 rw [List.length_map,Bool.eq_iff_iff];simp only [beq_iff_eq];omega
theorem zwk27 {G:Prop} (h:G:=by repeat' (first|(refine shC ?_;first|(have:=b0;refine qC c0 ?_)|(have:=b1;refine qC cf ?_)|(have:=b2;refine qC co ?_)|(have:=b3;refine qC ct ?_)|(have:=b4;refine qC ck ?_)|(have:=b5;refine qC cw ?_)|(have:=b6;refine qC cm ?_)|(have:=b7;refine qC cb ?_))|(refine shX ?_;first|(have:=b8;refine qX he ?_)|(have:=b7;refine zy rfl (ah h0 hem) rfl rfl ?_)|(have:=b7;refine zq rfl (ah h0 hem) rfl rfl ?_))|refine sK ?_|refine sC (fun _=>?_) (fun _=>?_)|(have:=b0;exact retq rfl (by rw [qG,hfi];rfl))|(have:=b9;exact retq rfl zwy109)|exact ⟨k + 1,⟨hlt,hr⟩,tD,tS,tH⟩|fail)):G:=h
set_option maxHeartbeats 4000000 in
theorem zcX (g:Img) (hx:OkA g):ACall Tryz.prog 30 [zO g] (zja (qG g)):=by
 have c0:=zo2 g hx;refine zi zf Tryz.func30 rfl zws Tryz.ntmps30 zwy63 _ rfl (fun hw gB hgB=>?_);cases hfi:zgW g
 ·rw [hfi] at c0;have b0:=();exact zwk27
 ·rw [hfi] at c0;have hF:=Xc hfi;obtain ⟨hgt,_,hgm,_⟩:=yG hF.formed;have hr0:qG g=stM g (List.range g.methods.length):=by rw [qG,hfi];rfl
  repeat' (first|(refine shC ?_;first|refine qC c0 ?_)|refine sK ?_|refine sC (fun _=>?_) (fun _=>?_)|fail)
  refine zW (fun k:Nat=>[(1,.pv (.ptr (zO g) 0)),(2,.box 0 0),(14,.pv (.slc 12 (g.methods.map yh) false)),(15,.pv (pi g.methods.length)),(16,.pv (pi k))]) (fun _=>[(0,.cell (.pv (.agg [pi 0,pi 0])))])
   (fun k=>k≤g.methods.length∧qG g=stM g ((List.range g.methods.length).drop k)∧∀ i,i < k→zom g (mAt g (i:Int))=true) (fun k=>g.methods.length - k) 0 ⟨by omega,hr0,fun i h=>by omega⟩ zwy71 tH ?_
  rintro k ⟨hk,hr,hall⟩;by_cases hlt:k < g.methods.length
  ·have he:=zw2 hlt;have hM:=Xb hF.formed (zph hlt);have cf:=zjV g hF.formed _ hM;have co:=zn8 g hF.formed _ hM;have ct:=znJ g hF.formed _ hM;have hfe:=zvY hM;rw [zdS hlt,stM] at hr;cases hf:zqN g (mAt g (k:Int))
   ·rw [hf] at cf hfe;rw [←hfe] at hr;have b1:=();have b8:=();have b9:=();exact zwk27
   ·rw [hf] at cf hfe;cases ho:zlS g (mAt g (k:Int))
    ·rw [ho] at co hfe;rw [←hfe] at hr;have b1:=();have b2:=();have b8:=();have b9:=();exact zwk27
    ·rw [ho] at co hfe;have hfR:zom g (mAt g (k:Int))=true:=hfe.symm;rw [hfR,if_pos rfl] at hr;cases ht:zje g (mAt g (k:Int))
     ·rw [ht] at ct hr;have b1:=();have b2:=();have b3:=();have b8:=();have b9:=();exact zwk27
     ·rw [ht] at ct hr
      repeat' (first|(refine shC ?_;first|refine qC cf ?_|refine qC co ?_|refine qC ct ?_)|(refine shX ?_;first|refine qX he ?_)|refine sK ?_|refine sC (fun _=>?_) (fun _=>?_)|fail)
      exact ⟨k + 1,⟨hlt,hr,fun i hi=>by
       by_cases e:i=k
       ·subst e;exact hfR
       ·exact hall i zwy62⟩,tD,tS,tH⟩
  ·have hk2:k=g.methods.length:=by omega
   subst hk2;rw [zgs,stM] at hr;have hwe:=fun t=>ztx hF hall t
   clear hall
   repeat' (first|refine sK ?_|refine sC (fun _=>?_) (fun _=>?_)|fail)
   refine zW (fun k:Nat=>[(1,.pv (.ptr (zO g) 0)),(2,.box 0 0),(43,.pv (.slc 4 (g.types.map ZB) false)),(44,.pv (pi g.types.length)),(45,.pv (pi k))]) (fun _=>[(0,.cell (.pv (.agg [pi 0,pi 0])))])
    (fun k=>k≤g.types.length∧qG g=stC g (fun t=>zb4 g t (zmu g t) (zbU g t)) ((List.range g.types.length).drop k)) (fun k=>g.types.length - k) 0 ⟨by omega,hr⟩ zwy71 tH ?_
   clear hr hk hlt;rintro k ⟨hk,hr⟩;by_cases hlt:k < g.types.length
   ·have he:=zwR hlt;have hfl:=zsp hF.formed hlt;have hz:=zq6 hfl.1 hfl.2;have ck:=ZI g hF.formed (k:Int);rw [zdS hlt,stC,zxw] at hr;by_cases hk0:yt g (k:Int)=0
    ·have cw:=znF g hF (k:Int) hk0;rw [hwe] at cw;rw [hk0] at ck hr;cases hb:qJ (g.types.getD ((k:Int)).toNat default).flags 4
     ·rw [hb] at hz hr;cases hw2:zb4 g (k:Int) (zmu g (k:Int)) (zbU g (k:Int))
      ·rw [hw2] at cw hr;have b4:=();have b5:=();have b8:=();have b9:=();exact zwk27
      ·rw [hw2] at cw hr;have b4:=();have b5:=();have b8:=();exact zwk27
     ·rw [hb] at hz hr;have b4:=();have b8:=();exact zwk27
    ·have hkb:(yt g (k:Int)==0)=false:=by simp [hk0]
     rw [hkb] at hr;have b4:=();have b8:=();exact zwk27
   ·have hk2:k=g.types.length:=by omega
    subst hk2;rw [zgs,stC] at hr
    repeat' (first|refine sK ?_|refine sC (fun _=>?_) (fun _=>?_)|fail)
    refine zW (fun k:Nat=>[(1,.pv (.ptr (zO g) 0)),(2,.box 0 0),(71,.pv (pi g.types.length)),(72,.pv (pi k))]) (fun _=>[(0,.cell (.pv (.agg [pi 0,pi 0])))])
     (fun k=>k≤g.types.length∧qG g=stD g ((List.range g.types.length).drop k)) (fun k=>g.types.length - k) 0 ⟨by omega,hr⟩ zwy71 tH ?_
    clear hr hk hlt;rintro k ⟨hk,hr⟩;by_cases hlt:k < g.types.length
    ·have ck:=ZI g hF.formed (k:Int);have cm:=YG g (k:Int) zwy62;have hlz:=zul (l:=methodsOf g (k:Int));rw [zdS hlt,stD,zuT] at hr;by_cases hk3:yt g (k:Int)=3
     ·rw [hk3] at ck hr;cases hb:(methodsOf g (k:Int)).length==0
      ·rw [hb] at hlz hr;have b4:=();have b6:=();exact zwk27
      ·rw [hb] at hlz hr;have b4:=();have b6:=();have b9:=();exact zwk27
     ·have hkb:(yt g (k:Int)==3)=false:=by simp [hk3]
      rw [hkb] at hr;have b4:=();exact zwk27
    ·have hk2:k=g.types.length:=by omega
     subst hk2;rw [zgs,stD,stE] at hr;by_cases h0:0≤g.entry
     ·have hen:=zur hF.formed h0;have hem:=WV hen;have cb:=zlX g _ (Xb hF.formed hen);rw [decide_eq_true h0] at hr;cases hb:zv7 (mAt g g.entry)
      ·rw [hb] at cb hr;have b7:=();have b9:=();exact zwk27
      ·rw [hb] at cb hr;have b7:=();have b9:=();exact zwk27
     ·rw [decide_eq_false h0] at hr;have b9:=();exact zwk27
end Go.Cg










namespace Go.Cg
open Go.Proofs
theorem zvF {n:Nat} {l:List Cl} (hc:(Qm n l).2=0) {c:Cl} (hm:c∈l):c.hf.toNat < n∧(c.kind=2→c.filter.toNat < n):=by
 obtain ⟨j,hj,rfl⟩:=List.getElem_of_mem hm;have e:l.getD j default=l[j]:=zT hj;have ha:=(zfL hc).1 j hj;have hok:=zcN ha;have k2:=zmL hc hj (y:=⟨j,2,(l.getD j default).hf,(l.getD j default).ht⟩) (by unfold yE;simp);rw [e] at hok k2;have e1:=hok.h;have e2:=hok.h0;simp only at k2;refine ⟨by omega,fun hk=>?_⟩;have:=hok.f hk;omega
theorem zsc:∀ k:Fin 76,1≤k.val→ZU (ofI (k.val:Int)).2.2=true→yL (k.val:Int)=5:=by decide
theorem zjR {m:Me} {i:Int} (h:ZU (YN m i)=true):yL (qm m i).op=5:=by
 unfold YN at h;split at h
 ·rename_i h1;simp only [Bool.and_eq_true,decide_eq_true_eq] at h1;have:=zsc ⟨(qm m i).op.toNat,by omega⟩ (by simp only;omega);simp only [Int.toNat_of_nonneg (show 0≤(qm m i).op by omega)] at this;exact this h
 ·simp [ZU] at h
theorem zkh {g:Img} {m:Me} (hf:ZT g m=true) {i:Int} (hi:i.toNat < m.code.length) (h:ZU (YN m i)=true):0≤(qm m i).arg∧(qm m i).arg.toNat < m.code.length:=by
 have h5:=zjR h;unfold ZT zac at hf;simp only [Bool.and_eq_true] at hf;have hx:=List.all_eq_true.1 hf.2.1.1.2 (qm m i) (by unfold qm;rw [zT hi];exact List.getElem_mem hi);unfold codeOk at hx;rw [h5] at hx;simp only [Bool.and_eq_true,beq_self_eq_true,if_true,decide_eq_true_eq,beq_iff_eq] at hx;have h0:0≤(qm m i).arg:=by
  have:=hx.1;unfold WQ at this;rw [h5] at this;split at this
  ·simp at this
  ·split at this
   ·simp at this
   ·rename_i h2;simp [zc0] at h2;omega
 have:=hx.2;exact ⟨h0,by omega⟩
theorem zp6 {g:Img}:∀ {l:List Nat},(stD g l).2=0→∀ i∈l,zuT g (i:Int)=false
 | [],_,i,hi=>by cases hi
 | j::l,h,i,hi=>by
  rw [stD] at h;cases hb:zuT g (j:Int)
  ·rw [hb,if_neg zwy63] at h;rcases List.mem_cons.1 hi with rfl|hi
   ·exact hb
   ·exact zp6 h i hi
  ·rw [hb,if_pos rfl] at h;cases h
theorem ztc {g:Img} {W:Int→Bool}:∀ {l:List Nat},(stC g W l).2=0→(stD g (List.range g.types.length)).2=0
 | [],h=>h
 | j::l,h=>by
  rw [stC] at h;split at h
  ·cases h
  ·exact ztc h
theorem ztg {g:Img}:∀ {l:List Nat},(stM g l).2=0→(stD g (List.range g.types.length)).2=0
 | [],h=>ztc h
 | j::l,h=>by
  rw [stM] at h;split at h
  ·split at h
   ·exact ztg h
   ·cases h
  ·cases h
theorem Qo {g:Img} (h:(qG g).2=0):zgW g=true∧∀ t:Int,yt g t=3→methodsOf g t≠[]:=by
 unfold qG at h;split at h
 ·rename_i hf;refine ⟨hf,fun t hk=>?_⟩;have hin:0≤t∧t < g.types.length:=by
   unfold yt at hk;cases ht:typeAt g t with
   | none=>rw [ht] at hk;simp at hk
   | some td =>
    unfold typeAt at ht;split at ht
    ·rename_i hh;have:=(List.getElem?_eq_some_iff.1 ht).1;omega
    ·cases ht
  have:=zp6 (ztg h) t.toNat (by rw [List.mem_range];omega);rw [show ((t.toNat:Nat):Int)=t by omega,zuT,hk] at this;intro he;rw [he] at this;cases this
 ·cases h
theorem opk:∀ n:Fin 76,1≤n.val→(2≤n.val→n.val≤7→yL (n.val:Int)=3∨yL (n.val:Int)=4)∧((n.val=43∨n.val=44∨n.val=45∨n.val=67)→yL (n.val:Int)=6)∧(48≤n.val→n.val≤53→yL (n.val:Int)=7):=by decide +kernel
theorem zw6 {op:Int} (h1:1≤op) (h2:op≤75):(2≤op→op≤7→yL op=3∨yL op=4)∧((op=43∨op=44∨op=45∨op=67)→yL op=6)∧(48≤op→op≤53→yL op=7):=by
 have:=opk ⟨op.toNat,by omega⟩ (by show 1≤op.toNat;omega);simp only [show ((op.toNat:Nat):Int)=op by omega] at this;exact ⟨fun a b=>this.1 zwy62 zwy62,fun a=>this.2.1 zwy62,fun a b=>this.2.2 zwy62 zwy62⟩
theorem zv1 {g:Img} {m:Me} {a:Int} (h:ZT g m=true) (h0:0≤a) (h1:a.toNat < m.code.length):codeOk g m (qm m a)=true:=by
 simp only [ZT,zac,Bool.and_eq_true,List.all_eq_true] at h;exact h.2.1.1.2 _ (by rw [qm,zT h1];exact List.getElem_mem h1)
theorem ztE {g:Img} (hc:(qG g).2=0) {m a:Int} (hm:mOk g m) (h0:0≤a) (h1:a.toNat < (mAt g m).code.length):XOk g (qm (mAt g m) a):=by
 obtain ⟨hf,hd⟩:=Qo hc;have hF:=Xc hf;have hcode:=zv1 (Xb hF.formed hm).formed h0 h1;generalize qm (mAt g m) a=x at hcode ⊢;rw [codeOk,Bool.and_eq_true] at hcode;obtain ⟨e1,e2⟩:=hcode;have e1:WQ x=0:=by simpa using e1
 unfold WQ at e1;split at e1
 ·cases e1
 rename_i hop;have b1:1≤x.op:=by omega
 have b2:x.op≤75:=by omega
 split at e1
 ·cases e1
 rename_i harg;split at e1
 ·cases e1
 rename_i hty;split at e1
 ·cases e1
 rename_i hwh;obtain ⟨k1,k2,k3⟩:=zw6 b1 b2;have hmo:∀ i:Int,0≤i→i.toNat < g.methods.length→(mAt g i).params.length≤100∧0≤(mAt g i).owner∧(mAt g i).owner.toNat < g.types.length:=fun i i0 i1=>by
  have hM:=Xb hF.formed (x:=i) ⟨i0,i1⟩;have:=hM.small;exact ⟨by omega,hM.o0,hM.o1⟩
 refine ⟨b1,b2,fun a1 a2=>?_,fun a1=>?_,fun a1 a2=>?_,fun _ _=>?_,fun i i0 i1=>(hmo i i0 i1).1,fun _ _ _ hk=>hd _ ?_⟩
 ·rcases k1 a1 a2 with e|e <;> rw [e] at harg <;> simp [zc0] at harg <;> omega
 ·rw [k2 a1] at harg e2;simp [zc0] at harg e2;exact ⟨by omega,by omega,hmo _ zwy62 zwy62⟩
 ·rw [k3 a1 a2] at harg e2;simp [zc0] at harg e2;exact ⟨by omega,by omega⟩
 ·by_cases h8:yL x.op=8
  ·have hw:Yc x.t 1=true:=by
    cases hw:Yc x.t 1
    ·exact absurd ⟨h8,hw⟩ hwh
    ·rfl
   have hp:ZY x.t=true:=by
    unfold Yc at hw;split at hw
    ·cases hw
    ·rename_i hp;simpa using hp
   have hd:0≤x.t.dims∧x.t.dims≤3:=by
    unfold ZY at hp;split at hp
    ·cases hp
    ·rename_i hb;simp at hb;omega
   omega
  ·have ht:x.t=ty0:=Classical.byContradiction fun hne=>hty ⟨h8,hne⟩
   rw [ht];exact ⟨Int.le_refl 0,by show (0:Int)≤100;omega⟩
 ·rw [←ziD hF.formed];exact hk
theorem zrg {g:Img} (hf:yI g=true) {m:Me} (h:m∈g.methods):MeOk g m:=by
 obtain ⟨i,hi,rfl⟩:=List.getElem_of_mem h;have:=Xb hf (x:=(i:Int)) (zph hi)
 rwa [show mAt g (i:Int)=g.methods[i] by rw [mAt,show ((i:Int)).toNat=i by omega,zT hi]] at this
theorem ztr {g:Img} (hf:yI g=true):OwnOk g:=by
 obtain ⟨b1,b2,b3,_⟩:=yG hf;refine ⟨by omega,by omega,by omega,fun td h=>?_,fun m h=>?_⟩
 ·have:=((VH hf).faces td h).1;omega
 ·have:=(zrg hf h).small;omega
set_option maxHeartbeats 4000000 in
theorem zbW (g:Img) (hx:OkA g) (hc:(qG g).2=0):ACall Tryz.prog 11 [zO g] (.ptr (zO g) 0):=by
 have c1:=zcX g hx;have c2:=zsb g (ztr (Xc (Qo hc).1).formed);rw [show zja (qG g)=.tup [.agg [pi (qG g).1.1,pi (qG g).1.2],pi 0] by rw [zja,hc]] at c1;refine zi zf Tryz.func11 rfl zws Tryz.ntmps11 zwy63 _ rfl (fun hw gB hgB=>?_)
 repeat' (first|(refine shC ?_;first|refine qC c1 ?_|refine qC c2 ?_)|refine sK ?_|refine sC (fun _=>?_) (fun _=>?_)|fail)
 exact retq rfl rfl
def NzS {α:Type} (act:SM α):Prop:=∀ l e,act l=.error e→e≠0
theorem zvW {α β:Type} {x:SM α} {f:α→SM β} (hx:NzS x) (hf:∀ a,NzS (f a)):NzS (x >>= f):=fun l e h=>by
 rw [zB] at h;cases hxl:x l with
 | error e'=>rw [hxl] at h;cases h;exact hx l e hxl
 | ok p=>rw [hxl] at h;exact hf p.1 p.2 e h
theorem zvj {α:Type} (a:α):NzS (pure a:SM α):=fun l e h=>by rw [zG] at h;cases h
theorem zvZ (b:Bool) {k:Int} (hk:k≠0):NzS (zL b k):=fun l e h=>by unfold zL at h;split at h <;> cases h;exact hk
theorem zwx:NzS YU:=fun l e h=>by unfold YU at h;split at h <;> cases h;decide
theorem zu4 (max:Int) (ts:List Ty):NzS (yX max ts):=fun l e h=>by unfold yX at h;split at h <;> cases h;decide
theorem zt3:NzS zcb:=fun l e h=>by cases h
theorem zuG {k:Int} (hk:k≠0):NzS (emptyS k):=fun l e h=>by unfold emptyS at h;split at h <;> cases h;exact hk
theorem zuM (g:Img) (ls:List Ty):NzS (ZN g ls):=fun l e h=>by
 unfold ZN at h;split at h
 ·cases h;decide
 ·split at h <;> cases h;decide
theorem zwy {α:Type} {p:Prop} [Decidable p] {x y:SM α} (hx:NzS x) (hy:NzS y):NzS (if p then x else y):=by split <;> assumption
theorem zxy (g:Img) (ar:List Ty) (m:Me) (x:Ins):NzS (doS g ar m x):=by
 unfold doS qZ qF Zy qK yH Zd yF yA yu ZA yK;dsimp only;unfold zaN YL Qn Zv zc5 Zi QE Zq WE
 repeat' (first|with_reducible exact zwx|with_reducible exact zu4 _ _|with_reducible exact zvj _|with_reducible exact zt3|with_reducible exact zvZ _ zwy67|with_reducible exact zuG zwy67|with_reducible exact zuM _ _|with_reducible refine zvW ?_ fun _=>?_|with_reducible refine zwy ?_ ?_)
theorem zqs {g:Img} {m a:Int} {l:List Ty} {e:Int} (h:stepS g m a l=.error e):e≠0:=zxy _ _ _ _ l e h
theorem zbR (g:Img) (hc:(qG g).2=0) {m a:Int} (hm:mOk g m) (h0:0≤a) (h1:a.toNat < (mAt g m).code.length) (l:List Ty) (hl:l.length≤100) :
  ACall Tryz.prog 20 [.ptr (zO g) 0,pi m,pi a,tys l] (ztv (stepS g m a l)):=by
 have hf:=(Xc (Qo hc).1).formed;have hM:=(Xb hf hm).small;have hb:=yG hf;exact zsj g (VH hf) zwy62 m a l hl hm zwy62 h0 h1 (ztE hc hm h0 h1)
set_option maxHeartbeats 20000000
def VL (g:Img):Bool:=(qG g).2==0
def zbd (g:Img) (m:Int):Bool:=decide (0≤m)&&decide (m < g.methods.length)&&decide (0 < (mAt g m).code.length)
theorem zpD (g:Img) (hx:OkA g):ACall Tryz.prog 36 [zO g] (pb (VL g)):=by
 have c1:=zcX g hx;rw [zja] at c1;rw [VL];generalize (qG g).2=e at c1 ⊢;refine zi zf Tryz.func36 rfl zws Tryz.ntmps36 zwy63 _ rfl (fun hw gB hgB=>?_)
 repeat' (first|(refine shC ?_;first|refine qC c1 ?_)|refine sK ?_|refine sC (fun _=>?_) (fun _=>?_)|fail)
 exact retq rfl rfl
theorem zqg {g:Img} {m:Me} (h:MeOk g m):ClOk m:=by
 have hs:=h.small;refine ⟨hs.2.2.2.1,fun at_ x hx=>?_,by omega⟩;have hr:=h.formed;simp only [ZT,zac,zfp,Bool.and_eq_true,decide_eq_true_eq,beq_iff_eq] at hr;obtain ⟨j,h1,h2,h3⟩:=zgn hx;have hp:=zmL hr.2.2 h1 h2;simp only [zev,Bool.and_eq_true,decide_eq_true_eq] at h3;have hc:=zuJ h2;exact ⟨by omega,by omega,by omega⟩
theorem zvo {g:Img} (hc:(qG g).2=0) {m:Int} (hm:mOk g m) (i:Nat) (hi:i < (mAt g m).code.length):ACall Tryz.prog 65 [Xe g (mAt g m),pi (i:Int)] (pi (Vq g (mAt g m) (i:Int))):=by
 have hF:=(Xc (Qo hc).1).formed;have hM:=Xb hF hm;have hcl:=zqg hM;have hs:=hM.small;have h1:((i:Nat):Int).toNat < (mAt g m).code.length:=by omega
 refine zr2 g (mAt g m) i zwy62 zwy62 (zvy g _ hcl i zwy62 h1) (zmD g _ hcl i zwy62 h1) (zsd g _ hcl i zwy62 h1 fun _ hop=>?_);have hk:(i:Int) + 1 < ((mAt g m).code.length:Int):=by
  apply Classical.byContradiction;intro hh;rw [opV,decide_eq_true (show ((mAt g m).code.length:Int)≤(i:Int) + 1 by omega)] at hop;simp at hop
 have hop2:(qm (mAt g m) ((i:Int) + 1)).op=43∨(qm (mAt g m) ((i:Int) + 1)).op=44:=by
  rw [opV,decide_eq_false (show ¬ ((mAt g m).code.length:Int)≤(i:Int) + 1 by omega),decide_eq_false (show ¬ (i:Int) + 1 < 0 by omega)] at hop;exact hop
 have hm2:=(ztE hc hm (show 0≤(i:Int) + 1 by omega) zwy62).m (by rcases hop2 with h|h <;> simp [h]);exact ⟨⟨hm2.1,hm2.2.1⟩,hm2.2.2.1⟩
theorem zkx {g:Img} (hc:(qG g).2=0) {m:Int} (hm:mOk g m):ACall Tryz.prog 32 [Xe g (mAt g m)] (.tup [pi (zbH g (mAt g m)).1,pi (zbH g (mAt g m)).2]) :=
 zuU g _ (zqg (Xb (Xc (Qo hc).1).formed hm)) fun i hi=>zvo hc hm i hi
def zbI (g:Img) (m:Int):Int × Int:=if VL g&&zbd g m then zbH g (mAt g m) else (0,17)
theorem zwk16 {G:Prop} (h:G:=by repeat' (first|(refine shC ?_;first|refine qC c1 ?_|(have:=b0;refine qC c2 ?_)|(have:=b1;refine qC c3 ?_))|(refine shX ?_;first|(have:=b1;refine zy rfl (ah hm.1 he) rfl rfl ?_)|(have:=b1;refine zq rfl (ah hm.1 he) rfl rfl ?_))|refine sK ?_|refine sC (fun _=>?_) (fun _=>?_)|(have:=b2;exact retq rfl (by simp [zC,zbI,hwl]))|(have:=b3;exact retq rfl (by simp [zC,zbI,hwl,hk]))|exact retq rfl rfl|fail)):G:=h
theorem zfT (g:Img) (hx:OkA g) (m:Int):ACall Tryz.prog 14 [zO g,pi m] (.tup [pi (zbI g m).1,pi (zbI g m).2]):=by
 have c1:=zpD g hx;have c2:ACall Tryz.prog 12 [zO g,pi m] (pb (zbd g m)):=zhY g m;cases hwl:VL g
 ·rw [hwl] at c1;refine zi zf Tryz.func14 rfl zws Tryz.ntmps14 zwy63 _ rfl (fun hw gB hgB=>?_);have b2:=();exact zwk16
 ·rw [hwl] at c1;cases hk:zbd g m
  ·rw [hk] at c2;refine zi zf Tryz.func14 rfl zws Tryz.ntmps14 zwy63 _ rfl (fun hw gB hgB=>?_);have b0:=();have b3:=();exact zwk16
  ·rw [hk] at c2;have hc:(qG g).2=0:=by simpa [VL] using hwl
   have hm:mOk g m:=by
    simp only [zbd,Bool.and_eq_true,decide_eq_true_eq] at hk;exact ⟨hk.1.1,by omega⟩
   have c3:=zkx hc hm;have he:(g.methods.map yh)[m.toNat]?=some (yh (mAt g m)):=by rw [mAt,zT hm.2];exact zY hm.2
   have hF:zbI g m=zbH g (mAt g m):=by rw [zbI,hwl,hk];rfl
   rw [hF];refine zi zf Tryz.func14 rfl zws Tryz.ntmps14 zwy63 _ rfl (fun hw gB hgB=>?_);have b0:=();have b1:=();exact zwk16
end Go.Cg
