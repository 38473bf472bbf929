/- A part of the walks by abstract values: no statement of its own. -/
import Derived.Test.YtoeplllgofpddaaGreatU4
import Derived.Shelf.RegionOpenPlain
import Derived.WalkKit
import Derived.Lib.Walk
import Derived.Lib.SliceRun
import Derived.Lib.AppendZerosOnto
import Derived.Test.YtoeplllgofpddaaGreatU6
import Derived.Test.YtoeplllgofpddaaGreatU5
import Derived.Maps.Own
import Derived.Maps.Views
import Derived.Shelf.Sort.Plain
import Derived.Shelf.Slices.In.SortNone
import Derived.Test.YtoeplllgofpddaaGreatProg
import Derived.Sort.OwnSortedInts
set_option linter.unusedVariables false
set_option linter.unusedSimpArgs false
namespace Go.Cg
open Go.RowKit
structure ACallR (P:Program) (f:FuncId) (args:List PV) (e:TypeId) (sz:Nat) (es:List PV):Prop where
 stands:zbV P f
 calls:∀ (K:KK) (w:World) (vs:List Value),(∀ b o,K b o→b < w.heap.size)→PRels K w args vs →
  Calls P f vs.toArray w fun ex w'=>∃ v K' xs,ex=.returned v∧Evo K K' w w'∧w'.ownsRow w.heap.size e sz v es.length xs∧CellsRel K' w' sz es xs∧(∀ b,v.ownBlock=some b→∀ o,K' b o↔o < es.length * sz)
section
variable {P:Program} {tb:Tab} {n:Nat} {g:Base} {H:HEnv} {env:Env} {ops:List Oper} {o:Oper} {rest:List Oper} {Q:Env→HEnv→Prop}
theorem zif {w:World} {B B':Nat} {e:TypeId} {sz:Nat} {v:Value} {n:Nat} {xs:List Value} (hB:B'≤B) (h:w.ownsRow B e sz v n xs):w.ownsRow B' e sz v n xs:=by
 obtain ⟨h1,h2⟩:=h
 refine ⟨h1,h2.imp id ?_⟩
 rintro ⟨g,cap,cur,a,b,c⟩
 exact ⟨g,cap,cur,a,Nat.le_trans hB b,c⟩
theorem zcd {xs:Array Operand} {ts:Array TypeId} {f:FuncId} {args es:List PV} {e:TypeId} {sz t:Nat} (i:Nat) (hg:guardE ops env o=some true) (hop:o.op=.call { callee:=.value (.func f),args:=xs,argTypes:=ts }) (hargs:pvs env H xs.toList=some args)
  (hc:ACallR P f args e sz es) (h0:0 < sz) (hi:H.get i=none) (hd:o.dst=some t) (ht:Nat.blt t n=true)
  (h:AO P n g ops.toArray rest ((t,.own i)::env) ((i,.row e sz es)::H) Q):AO P n g ops.toArray (o::rest) env H Q:=by
 refine ⟨fun a w hinv=>?_⟩
 have hw:=qE hinv hg
 obtain ⟨h1,h2,K,ρ,hf,he⟩:=hinv
 refine wpList_step fun KK hKK=>?_
 rw [if_pos hw]
 have hp:=zcT hf (a:=a) (xs:=xs.toList) (fun x hx av hxx=>qQ he hxx) hargs
 have hrun:(execOp a.eval o).run P w=.ok (.enter f (xs.toList.map a.eval).toArray) w:=by
  have e:(xs.toList.map a.eval).toArray=xs.map a.eval:=by rw [←Array.toList_map,Array.toArray_toList]
  rw [e]
  simp [execOp,hop,resolve,Act.eval,Deferred.ofValue,invoke,ZU hc.stands]
 unfold Oper.wp
 rw [hrun]
 simp only [Oper.upon]
 refine (hc.calls K w _ hf.lt hp).mono ?_
 rintro ex w'' ⟨v,K',us,rfl,hev,hown,hcr,hk⟩
 have hlow:=zif hf.below.size hown
 refine hKK _ _ (h.go _ _ ⟨Zg h1,put_defers h2,K',fun j=>if j=i then v else ρ j,hf.fresh hev hi ⟨us,by simpa using hlow,h0,hcr,by simpa using hk⟩ ?_,?_⟩)
 ·intro b hb
  refine (hown.lt b ?_).1
  rcases hown.2 with ⟨rfl,_⟩|⟨g,_,_,rfl,_⟩
  ·simp [zY] at hb
  ·simpa [zY,Value.ownBlock] using hb
 ·rw [hd]
  refine Yp h1 ht (he.keeps (hev.later hf.lt) (qO hi _ _)) ?_
  have:=ARel.own (K:=K') (w:=w'') (ρ:=fun j=>if j=i then v else ρ j) (H:=(i,HE.row e sz es)::H) i (by simp [HEnv.get_nil,HEnv.get_cons])
  simpa using this
theorem zi1 (htb:qp P tb) {t e d:Nat} {parts:Array (Nat × Operand)} (i:Nat) (hg:guardE ops env o=some true) (hop:o.op=.buildSlice t 0 parts) (hp:parts=#[]) (hk:tb.k t=.sl e) (hke:tb.known e=true) (hsz:Nat.blt 0 (tb.size e)=true) (hi:H.get i=none) (hd:o.dst=some d) (ht:Nat.blt d n=true)
  (h:AO P n g ops.toArray rest ((d,.own i)::env) ((i,.row e (tb.size e) [])::H) Q):AO P n g ops.toArray (o::rest) env H Q:=by
 refine ⟨fun a w hinv=>?_⟩
 have hw:=qE hinv hg
 obtain ⟨h1,h2,K,ρ,hf,he⟩:=hinv
 refine wpList_step fun KK hKK=>?_
 rw [if_pos hw]
 subst hp
 have hko:tb.k e≠.oth:=by intro h;simp [Tab.known,h] at hke
 have hs:=run_sizeOf htb hko w
 have hrun:(execOp a.eval o).run P w=.ok (.value (.slice (some ⟨w.heap.size,0,none⟩) 0 0)) (w.alloc (.cells #[] e)):=by
  have e0:Array.range 0=#[]:=Array.eq_empty_of_size_eq_zero (by simp)
  simp [execOp,hop,Instr.buildSlice,run_underlying (Zl htb hk),hs,Instr.fill,newRow,e0]
 unfold Oper.wp
 rw [hrun]
 simp only [Oper.upon]
 have hev:Evo K K w (w.alloc (.cells #[] e)):=⟨(Below.refl _ _).alloc (Nat.le_refl _) _,fun _ _ h=>h,fun _ _ h=>.inl h,fun b o h=>by have:=hf.lt b o h;simp;omega⟩
 refine hKK _ _ (h.go _ _ ⟨Zg h1,put_defers h2,K,fun j=>if j=i then .slice (some ⟨w.heap.size,0,none⟩) 0 0 else ρ j,hf.fresh hev hi ⟨[],⟨by simp,.inr ⟨w.heap.size,0,#[],by simp,hf.below.size,heap_alloc_new w _,Nat.le_refl _,by simp [maxLen],by simp,by simp⟩⟩,Nat.le_of_ble_eq_true hsz,fun i e h=>by simp at h,?_⟩ (by simp [zY]),?_⟩)
 ·intro b hb o
  simp [Value.ownBlock] at hb
  subst hb
  refine ⟨fun h=>?_,fun h=>by simp at h⟩
  have:=hf.lt _ _ h
  omega
 ·rw [hd]
  refine Yp h1 ht (he.keeps (hev.later hf.lt) (qO hi _ _)) ?_
  have:=ARel.own (K:=K) (w:=w.alloc (.cells #[] e)) (ρ:=fun j=>if j=i then .slice (some ⟨w.heap.size,0,none⟩) 0 0 else ρ j) (H:=(i,HE.row e (tb.size e) [])::H) i (by simp [HEnv.get_nil,HEnv.get_cons])
  simpa using this
def zt2 (t:Nat) (e:TypeId) (sz:Nat) (es:List PV):QC:=fun ex env H=>(ex=.normal∨ex=.ret)∧∃ i,env.get t=some (.own i)∧H.get i=some (.row e sz es)
theorem zey {fn:Func} {c:Code} {f:FuncId} {args:List PV} {t:Nat} {e:TypeId} {sz:Nat} {es:List PV} (hf:P.funcs[f]?=some fn) (hb:fn.body=some c) (hn:(fn.name == "runtime.NumGoroutine")=false) (hnt:fn.ntmps=n) (hargs:args.length≤n)
  (hrs:fn.results.toList=[.tmp t]) (h:lensOk args→∀ g:Base,Plain g→AW P n g c (zfm 0 args) [] (zt2 t e sz es)):ACallR P f args e sz es:=by
 refine ⟨⟨fn,hf,by simp [hb],hn⟩,fun K w vs hl hv=>?_⟩
 refine calls_of_wp hf hb ?_
 have hlen:vs.length=args.length:=hv.1
 refine wp_mono (wpIn_wide.1 ((h hv.lensOk (Base.of w K (bare w) []) ⟨rfl,hl⟩).go _ w ⟨by simp [hnt];omega,rfl,K,fun _=>undef,⟨.refl _ _,fun _ _ h=>h,fun _ _ h=>.inl h,hl,WX _ _,.base,.none _ _,⟨by simp [HEnv.get_nil,HEnv.get_cons],by simp [HEnv.get_nil,HEnv.get_cons]⟩⟩,?_⟩ none 0)) ?_
 ·intro t av hg
  obtain ⟨_,p,hp,rfl⟩:=za2 args 0 t av hg
  have hlt:t < vs.length:=by rw [hlen];exact (List.getElem?_eq_some_iff.1 hp).1
  refine ⟨vs[t],?_,.pv _ _ (hv.2 t p _ hp (List.getElem?_eq_getElem hlt))⟩
  rw [Array.getElem?_append_left (by simpa using hlt)]
  simp [hlt]
 ·rintro ex a' w' ⟨env1,H',hi,he,i,hgi,hHi⟩
  obtain ⟨_,h2,K',ρ',hf',he0⟩:=hi
  obtain ⟨v,v1,v2⟩:=he0 t _ hgi
  cases v2
  obtain ⟨xs,hown,hsz,hcr,hk⟩:=hf'.heap.ok i _ hHi
  have hev:Evo K K' w w':=⟨hf'.below,hf'.old,hf'.new,hf'.lt⟩
  have hres:(results fn a'.tmps).run P w'=.ok (ρ' i) w':=by
   unfold results
   rw [Array.mapM_eq_mapM_toList,hrs]
   simp [Array.getD_eq_getD_getElem?,v1]
  rcases he with rfl|rfl
  ·exact ⟨h2,_,hres,_,K',xs,rfl,hev,hown,hcr,hk⟩
  ·exact ⟨h2,_,hres,_,K',xs,rfl,hev,hown,hcr,hk⟩
end
end Go.Cg
set_option linter.unusedVariables false
set_option linter.unusedSimpArgs false
namespace Go.Cg
open Go.Proofs Go.Shelf Go.RowKit Go.Lib
set_option maxHeartbeats 20000000
theorem zs9:∃ i,Tryz.prog.info? 60=some i∧i.zero=some (.agg #[.int .i64 0,.int .i64 0,.int .i64 0,.bool false])∧i.size=4∧i.bytes=32:=by
 obtain ⟨i,h1,h2,h3,h4,_⟩:=ZH (t:=60) zf rfl
 exact ⟨i,h1,h4,h2,h3⟩
def zTy:Value:=.agg #[.int .i64 0,.int .i64 0,.int .i64 0,.bool false]
set_option maxRecDepth 100000 in
theorem zqr (n:Nat) (hn0:0 < n) (hn:n≤1000) (w:World) :
  Calls Tryz.prog 160 #[.slice none 0 0,.int .i64 n] w fun e w'=>e=.returned (.slice (some ⟨w.heap.size,0,none⟩) 0 (grownCap w n 0 60)) ∧
   w'=w.drew.alloc (.cells (Builtin.zeroCells zTy.cells n++Builtin.zeroCells zTy.cells (grownCap w n 0 60 - n)) 60):=by
 obtain ⟨i0,hi0,hz0,hs0,hb0⟩:=zs9
 have u40:=run_underlying Tryz.underlying53
 have u3:=run_underlying Tryz.underlying3
 have h1:¬ ((n:Int) < 0):=by omega
 have h2:wrap64 ((0:Int) - 0)=0:=by unfold wrap64;omega
 have h3:wrap64 ((n:Int) - 0)=(n:Int):=by unfold wrap64;omega
 have h4:(n:Int) > 0:=by omega
 have z28:∀ w,(Go.sizeOf 60).run Tryz.prog w=.ok i0.size w:=fun w=>by simp [Go.sizeOf,typeInfo,hi0]
 have hold:(Builtin.firstCells i0.size 0 (.slice none 0 0)).run Tryz.prog w.drew=.ok #[] w.drew:=run_firstCells_none w.drew i0.size 0 0 0
 have hrz:∀ ty,(Builtin.append_ #[53,3] ty #[.slice none 0 0,.int .i64 (n:Int)]).run Tryz.prog w =
   .ok (.slice (some ⟨w.heap.size,0,none⟩) n (grownCap w n 0 60)) (w.drew.alloc (.cells (Builtin.zeroCells zTy.cells n++Builtin.zeroCells zTy.cells (grownCap w n 0 60 - n)) 60)):=fun ty=>by
  have h:=Lib.run_append_grow_zeros w 53 3 ty 60 i0 zTy .i64 .i64 Tryz.underlying53 Tryz.underlying3 hi0 hz0 none 0 0 [] hold n hn0 (by omega) (by omega) (by omega)
   (by rw [hb0];omega)
   (by rw [Nat.zero_add];exact growslice_fits hn0 (by rw [hb0];omega))
  rw [Nat.zero_add] at h
  simpa using h
 have hGn:n≤grownCap w n 0 60:=grownCap_ge w _ _ _
 obtain ⟨G,hG⟩:∃ G,G=grownCap w n 0 60:=⟨_,rfl⟩
 rw [←hG] at hrz hGn ⊢
 have hG63:G≤9223372036854775807:=by
  have:=grownCap_le_maxLen w n 0 60 (by unfold maxLen;omega)
  rw [←hG] at this
  unfold maxLen at this
  omega
 clear hold hG
 go_enter Tryz.func160,Tryz.ntmps160
 go_wp2_with (at_builtin;refine Lib.wpList_append_run _ rfl _ _ _ _ rfl _ _ rfl rfl _ _ (hrz _) ?_)
 all_goals (go_ret;exact ⟨rfl,rfl⟩)
theorem zoO (w:World):Calls Tryz.prog 160 #[.slice none 0 0,.int .i64 0] w fun e w'=>e=.returned (.slice none 0 0)∧w'=w:=by
 have u40:=run_underlying Tryz.underlying53
 have u3:=run_underlying Tryz.underlying3
 go_enter Tryz.func160,Tryz.ntmps160
 go_wp2
 go_ret
 exact ⟨rfl,rfl⟩
theorem ziR (m:Int) (h0:0≤m) (h1:m≤1000):ACallR Tryz.prog 160 [.base (.slice none 0 0),pi m] 60 4 []:=by
 refine ⟨⟨_,Tryz.func160,rfl,by kernel_rfl⟩,fun K w vs hl hv=>?_⟩
 obtain ⟨v0,vs0,rfl,r0,hv0⟩:=hv.cons_inv
 obtain ⟨v1,vs1,rfl,r1,hv1⟩:=hv0.cons_inv
 obtain rfl:=hv1.nil_inv
 cases r0
 cases r1
 obtain ⟨n,rfl⟩:=Int.eq_ofNat_of_zero_le h0
 by_cases hn:n=0
 ·subst hn
  refine (zoO w).mono ?_
  rintro e w' ⟨rfl,rfl⟩
  exact ⟨_,K,[],rfl,.refl hl,World.ownsRow_nil _ _ _ _,fun i e h=>by simp at h,by simp [Value.ownBlock]⟩
 ·refine (zqr n (by omega) (by omega) w).mono ?_
  rintro e w' ⟨rfl,rfl⟩
  have hev:Evo K K w (w.drew.alloc (.cells (Builtin.zeroCells zTy.cells n++Builtin.zeroCells zTy.cells (grownCap w n 0 60 - n)) 60)) :=
   (Evo.refl hl).drew.trans ⟨(Below.refl _ _).alloc (Nat.le_refl _) _,fun _ _ h=>h,fun _ _ h=>.inl h,fun b o h=>by have:=hl b o h;simp;omega⟩
  have hG:=grownCap_ge w n 0 60
  refine ⟨_,K,[],rfl,hev,?_,fun i e h=>by simp at h,?_⟩
  ·refine ⟨rfl,.inr ⟨w.heap.size,grownCap w n 0 60,_,rfl,Nat.le_refl _,by simpa using heap_alloc_new w.drew _,by simp,grownCap_le_maxLen w n 0 60 (by unfold maxLen;omega),?_,rfl⟩⟩
   simp [size_zeroCells,zTy,Value.cells]
   omega
  ·intro b hb o
   simp [Value.ownBlock] at hb
   subst hb
   refine ⟨fun h=>?_,fun h=>by simp at h⟩
   have:=hl _ _ h
   omega
end Go.Cg
namespace Go.Cg
open Go.Proofs
set_option maxHeartbeats 20000000
theorem zbY (l:List Ty) (hb:l.length≤1000):ACall Tryz.prog 78 [tys l] (tys l):=by
 refine zh zf Tryz.func78 rfl (by kernel_rfl) Tryz.ntmps78 (by simp) _ rfl (fun hw gB hgB=>?_)
 repeat' (first|refine XH zf rfl rfl rfl rfl rfl rfl rfl (fun bb hbb=>?_)|refine zB rfl (YK zf rfl rfl rfl rfl rfl) rfl rfl ?_|(refine yH ?_;first|refine zB rfl (Qq zf rfl rfl (.inl rfl) rfl rfl (by show _ * 32≤_;simp;omega) (by simp;omega)) rfl rfl ?_)|refine sA ?_|refine sC (fun _=>?_) (fun _=>?_)|fail)
 ·rename_i h
  have:l=[]:=by have:=hbb h;simpa using this
  subst this
  exact zcp (t:=2) (ps:=[tys []]) rfl (Xp 4 false) rfl rfl
 ·exact retq rfl rfl
theorem zaB (l:List Ty) (k:Int) (h:k < 0∨(l.length:Int) < k):ACall Tryz.prog 171 [tys l,pi k] (.tup [.base (.slice none 0 0),.base (.slice none 0 0),pi 9]):=by
 refine zh zf Tryz.func171 rfl (by kernel_rfl) Tryz.ntmps171 (by simp) _ rfl (fun hw gB hgB=>?_)
 have hl:=zb1 hw.1
 rcases h with h|h
 ·repeat' (first|refine sK ?_|refine sC (fun _=>?_) (fun _=>?_)|fail)
  exact retq rfl rfl
 ·by_cases h2:k < 0
  ·repeat' (first|refine sK ?_|refine sC (fun _=>?_) (fun _=>?_)|fail)
   exact retq rfl rfl
  ·repeat' (first|refine sK ?_|refine sC (fun _=>?_) (fun _=>?_)|fail)
   exact retq rfl rfl
theorem zlG (l:List Ty) (k:Int) (hb:l.length≤1000) (h:0≤k) (h2:k≤l.length):ACall Tryz.prog 171 [tys l,pi k] (.tup [tys (l.take (l.length - k.toNat)),tys (l.drop (l.length - k.toNat)),pi 0]):=by
 refine zh zf Tryz.func171 rfl (by kernel_rfl) Tryz.ntmps171 (by simp) _ rfl (fun hw gB hgB=>?_)
 have hl:=zb1 hw.1
 have hm:IntKind.i64.wrap (((l.map yJ).length:Int) - k)=((l.length - k.toNat:Nat):Int):=by
  rw [List.length_map,wrap_in (by omega) (by omega)];omega
 repeat' (first|refine AD.step _ _ _ _ _ rfl (Xn (xs:=l) (f:=yJ) 0 (l.length - k.toNat) zf rfl rfl rfl rfl rfl rfl (congrArg some hm) (by omega) (by omega)) rfl rfl ?_|refine AD.step _ _ _ _ _ rfl (Xn (xs:=l) (f:=yJ) (l.length - k.toNat) l.length zf rfl rfl rfl rfl rfl (congrArg some hm) (by simp [zaY]) (by omega) (by omega)) rfl rfl ?_|(refine shC ?_;first|refine zB rfl (zG rfl rfl (zbY _ (by simp;omega))) rfl rfl ?_|refine AD.step _ _ _ _ _ rfl (zG rfl rfl (zbY _ (by simp;omega))) rfl rfl ?_)|refine sK ?_|refine sC (fun _=>?_) (fun _=>?_)|fail)
 exact retq rfl (by simp [zk])
set_option maxHeartbeats 20000000
def zdz (a b:List Ty):Nat→Int
 | 0=>0
 | 1=>a.length
 | _=>a.length + b.length
def znx (a b:List Ty):Nat→List Ty
 | 0=>[]
 | 1=>a
 | _=>a++b
theorem zfS (a b:List Ty) (ha:a.length≤200) (hb:b.length≤200):ACall Tryz.prog 114 [.slc 1 [tys a,tys b] true] (tys (a++b)):=by
 refine zh zf Tryz.func114 rfl (by kernel_rfl) Tryz.ntmps114 (by simp) _ rfl (fun hw gB hgB=>?_)
 repeat' (first|refine sK ?_|refine sC (fun _=>?_) (fun _=>?_)|fail)
 refine zJ (fun k:Nat=>[(0,.pv (.slc 1 [tys a,tys b] true)),(9,.pv (.slc 1 [tys a,tys b] true)),(10,.pv (pi 2)),(11,.pv (pi k)),(3,.pv (pi (zdz a b k)))]) (fun _=>[]) (fun k=>k≤2) (fun k=>2 - k) 0 (by omega) (tS) tH ?_
 intro k hk
 have hk3:k=0∨k=1∨k=2:=by omega
 rcases hk3 with rfl|rfl|rfl
 ·repeat' (first|refine zB rfl (zde zf rfl (by first|omega|(simp [zdz] <;> omega)) (by first|omega|(simp [zdz] <;> omega))) rfl rfl ?_|(refine shX ?_;first|refine zB rfl (zl zf rfl rfl rfl rfl rfl rfl (by decide) rfl) rfl rfl ?_|refine AD.step _ _ _ _ _ rfl (zl zf rfl rfl rfl rfl rfl rfl (by decide) rfl) rfl rfl ?_)|refine sK ?_|refine sC (fun _=>?_) (fun _=>?_)|fail)
  exact ⟨1,by omega,tD,by repeat (first|exact yS|refine yG rfl ?_|(refine Zc rfl ?_ ?_;· (first|(simp [zdz];done)|(simp [zdz];omega)|omega))),tH⟩
 ·repeat' (first|refine zB rfl (zde zf rfl (by first|omega|(simp [zdz] <;> omega)) (by first|omega|(simp [zdz] <;> omega))) rfl rfl ?_|(refine shX ?_;first|refine zB rfl (zl zf rfl rfl rfl rfl rfl rfl (by decide) rfl) rfl rfl ?_|refine AD.step _ _ _ _ _ rfl (zl zf rfl rfl rfl rfl rfl rfl (by decide) rfl) rfl rfl ?_)|refine sK ?_|refine sC (fun _=>?_) (fun _=>?_)|fail)
  exact ⟨2,by omega,tD,by repeat (first|exact yS|refine yG rfl ?_|(refine Zc rfl ?_ ?_;· (first|(simp [zdz];done)|(simp [zdz];omega)|omega))),tH⟩
 ·repeat' (first|(refine zu ?_;first|refine zcd 0 rfl rfl rfl (ziR _ (by simp [zdz];omega) (by simp [zdz];omega)) (by decide) rfl rfl rfl ?_)|refine sK ?_|refine sC (fun _=>?_) (fun _=>?_)|fail)
  refine zJ (fun k:Nat=>[(6,.own 0),(25,.pv (.slc 1 [tys a,tys b] true)),(26,.pv (pi 2)),(27,.pv (pi k))]) (fun k=>[(0,.row 60 4 ((znx a b k).map yJ))]) (fun k=>k≤2) (fun k=>2 - k) 0 (by omega) (tS) tH ?_
  intro k hk
  have hk3:k=0∨k=1∨k=2:=by omega
  rcases hk3 with rfl|rfl|rfl
  ·repeat' (first|refine zB rfl (zde zf rfl (by first|omega|(simp [zdz] <;> omega)) (by first|omega|(simp [zdz] <;> omega))) rfl rfl ?_|(refine shX ?_;first|refine zB rfl (zl zf rfl rfl rfl rfl rfl rfl (by decide) rfl) rfl rfl ?_|refine AD.step _ _ _ _ _ rfl (zl zf rfl rfl rfl rfl rfl rfl (by decide) rfl) rfl rfl ?_)|(refine yH ?_;first|refine yU zf rfl rfl rfl rfl rfl rfl rfl (by show _ * 32≤_;simp [znx];omega) (by simp [znx];omega) rfl rfl ?_)|refine sK ?_|refine sC (fun _=>?_) (fun _=>?_)|fail)
   exact ⟨1,by omega,tD,by repeat (first|exact yS|refine yG rfl ?_|(refine Zc rfl ?_ ?_;· omega)),⟨zT rfl zK,rfl⟩⟩
  ·repeat' (first|refine zB rfl (zde zf rfl (by first|omega|(simp [zdz] <;> omega)) (by first|omega|(simp [zdz] <;> omega))) rfl rfl ?_|(refine shX ?_;first|refine zB rfl (zl zf rfl rfl rfl rfl rfl rfl (by decide) rfl) rfl rfl ?_|refine AD.step _ _ _ _ _ rfl (zl zf rfl rfl rfl rfl rfl rfl (by decide) rfl) rfl rfl ?_)|(refine yH ?_;first|refine yU zf rfl rfl rfl rfl rfl rfl rfl (by show _ * 32≤_;simp [znx];omega) (by simp [znx];omega) rfl rfl ?_)|refine sK ?_|refine sC (fun _=>?_) (fun _=>?_)|fail)
   exact ⟨2,by omega,tD,by repeat (first|exact yS|refine yG rfl ?_|(refine Zc rfl ?_ ?_;· omega)),⟨zT (by show some (HE.row 60 4 (_++_))=_;simp [znx]) zK,rfl⟩⟩
  ·repeat' (first|refine sK ?_|refine sC (fun _=>?_) (fun _=>?_)|fail)
   exact retq rfl (by simp [zk,znx,tys])
theorem zoV (a b:List Ty) (m:Int) (ha:a.length≤200) (hb:b.length≤200) (h:(a.length + b.length:Int)≤m):ACall Tryz.prog 170 [tys a,pi m,tys b] (.tup [tys (a++b),pi 0]):=by
 refine zh zf Tryz.func170 rfl (by kernel_rfl) Tryz.ntmps170 (by simp) _ rfl (fun hw gB hgB=>?_)
 have hl:¬ (m < (((a++b).map yJ).length:Int)):=by simp;omega
 repeat' (first|(refine shC ?_;first|refine qC (zfS a b ha hb) ?_)|refine sK ?_|refine sC (fun _=>?_) (fun _=>?_)|fail)
 all_goals exact retq rfl (by simp [zk])
theorem zjb (a b:List Ty) (m:Int) (ha:a.length≤200) (hb:b.length≤200) (h:m < (a.length + b.length:Int)):ACall Tryz.prog 170 [tys a,pi m,tys b] (.tup [.base (.slice none 0 0),pi 9]):=by
 refine zh zf Tryz.func170 rfl (by kernel_rfl) Tryz.ntmps170 (by simp) _ rfl (fun hw gB hgB=>?_)
 have hl:m < (((a++b).map yJ).length:Int):=by simp;omega
 repeat' (first|(refine shC ?_;first|refine qC (zfS a b ha hb) ?_)|refine sK ?_|refine sC (fun _=>?_) (fun _=>?_)|fail)
 all_goals exact retq rfl (by simp [zk])
set_option maxHeartbeats 20000000
def Vl (k:Int) (st:Bool) (o:Int):Ty × Bool:=if k < 0||st then (ty0,false) else if k==1 then (⟨6,o,0,true⟩,true) else (⟨5,o,0,false⟩,true)
theorem ziX (g:Img) (m:Me):ACall Tryz.prog 81 [zH g,yL m] (.tup [yJ (Vl (Yt g m.owner) (qK m.flags 1) m.owner).1,pb (Vl (Yt g m.owner) (qK m.flags 1) m.owner).2]):=by
 refine zh zf Tryz.func81 rfl (by kernel_rfl) Tryz.ntmps81 (by simp) _ rfl (fun hw gB hgB=>?_)
 repeat' (first|(refine shC ?_;first|refine qC (Qz _ _) ?_)|refine sA ?_|refine sC (fun _=>?_) (fun _=>?_)|fail)
 ·rename_i h1
  have hs:Vl (Yt g m.owner) (qK m.flags 1) m.owner=(ty0,false):=by simp_all [Vl]
  rw [hs];exact retq rfl rfl
 ·rename_i h1 h2
  have h3:(qK m.flags 1)=true:=h2
  have hs:Vl (Yt g m.owner) (qK m.flags 1) m.owner=(ty0,false):=by simp [Vl,h3]
  rw [hs];exact retq rfl rfl
 ·rename_i h1 h2 h4
  have h3:(qK m.flags 1)=false:=h2
  have hs:Vl (Yt g m.owner) (qK m.flags 1) m.owner=(⟨6,m.owner,0,true⟩,true):=by rw [Vl,h3];simp_all
  rw [hs];exact retq rfl rfl
 ·rename_i h1 h2 h4
  have h3:(qK m.flags 1)=false:=h2
  have hs:Vl (Yt g m.owner) (qK m.flags 1) m.owner=(⟨5,m.owner,0,false⟩,true):=by rw [Vl,h3];simp_all
  rw [hs];exact retq rfl rfl
def zsS (x:Ty × Bool) (l:List Ty):List Ty:=(if x.2 then [x.1] else [])++l
theorem zc6 (g:Img) (m:Me) (hp:m.params.length≤1000):ACall Tryz.prog 54 [zH g,yL m] (tys (zsS (Vl (Yt g m.owner) (qK m.flags 1) m.owner) m.params)):=by
 refine zh zf Tryz.func54 rfl (by kernel_rfl) Tryz.ntmps54 (by simp) _ rfl (fun hw gB hgB=>?_)
 have c1:=ziX g m
 generalize Vl (Yt g m.owner) (qK m.flags 1) m.owner=x at c1 ⊢
 obtain ⟨t,b⟩:=x
 cases b
 ·repeat' (first|refine qY (t:=5) 0 60 4 (by decide) rfl rfl ?_|(refine shC ?_;first|refine qC c1 ?_)|(refine yH ?_;first|refine yU zf rfl rfl rfl rfl rfl rfl rfl (by show _ * 32≤_;simp;omega) (by simp;omega) rfl rfl ?_)|refine sA ?_|refine sC (fun _=>?_) (fun _=>?_)|fail)
  exact retq rfl rfl
 ·repeat' (first|refine qY (t:=5) 0 60 4 (by decide) rfl rfl ?_|(refine shC ?_;first|refine qC c1 ?_)|(refine yH ?_;first|refine yU zf rfl rfl rfl rfl rfl rfl rfl (by show _ * 32≤_;simp;try omega) (by simp;try omega) rfl rfl ?_)|refine sA ?_|refine sC (fun _=>?_) (fun _=>?_)|fail)
  exact retq rfl rfl
theorem zp0:∀ n:Fin 32,zfq (n.val:Int)=XV (n.val:Int):=by decide +kernel
theorem zgH {f:Int} (h0:0≤f) (h1:f≤31):zfq f=XV f:=by
 have:=zp0 ⟨f.toNat,by omega⟩
 simpa [Int.toNat_of_nonneg h0] using this
theorem Yc {g:Img} (h:Yq g=true):yg g=true:=by
 cases hf:yg g with
 | true=>rfl
 | false=>simp [Yq,Xm,hf] at h
theorem zg2 {g:Img} (h:yg g=true) (t:Int):Yt g t=zN g t:=by
 unfold Yt zN
 cases ht:typeAt g t with
 | none=>rfl
 | some td =>
  have hm:td∈g.types:=by
   unfold typeAt at ht
   split at ht
   ·exact List.mem_of_getElem? ht
   ·cases ht
  obtain ⟨h1,h2,_⟩:=Ye ((zW h).2.2.2 td hm)
  exact zgH h1 h2
set_option maxHeartbeats 20000000
theorem Qa (g:Img) (t:Int) (hg:g.types.length≤1000):ACall Tryz.prog 148 [zH g,pi t] (ints (up g t)):=by
 refine zh zf Tryz.func148 rfl (by kernel_rfl) Tryz.ntmps148 (by simp) _ rfl (fun hw gB hgB=>?_)
 repeat' (first|refine sA ?_|refine sC (fun _=>?_) (fun _=>?_)|fail)
 refine qY (t:=5) 0 3 1 (by decide) rfl rfl ?_
 refine zJ (fun x:Int × List Int=>[(1,.pv (pi x.1)),(2,.pv (.ptr (zH g) 0)),(5,.own 0)]) (fun x=>[(0,.row 3 1 (x.2.map pi))]) (UpInv g t) (fun x=>g.types.length + 1 - x.2.length) (t,[]) ⟨rfl,by simp,by simp⟩ (tS) ⟨zT rfl zK,rfl⟩ ?_
 rintro ⟨t',out⟩ hi
 have hlen:=hi.len
 simp only at hlen
 cases ht:typeAt g t' with
 | none =>
  have hth:there g t'=false:=by
   cases hh:there g t' with
   | false=>rfl
   | true=>obtain ⟨td,h⟩:=(ZM g t').1 hh;rw [ht] at h;cases h
  have c1:ACall Tryz.prog 97 [zH g,pi t'] (pb false):=by rw [←hth];exact YV g t'
  repeat' (first|(refine shC ?_;first|refine qC c1 ?_)|refine sK ?_|refine sC (fun _=>?_) (fun _=>?_)|fail)
  exact retq rfl (by rw [←hi.stop (.inl ht)];rfl)
 | some td =>
  have hth:there g t'=true:=(ZM g t').2 ⟨td,ht⟩
  have c1:ACall Tryz.prog 97 [zH g,pi t'] (pb true):=by rw [←hth];exact YV g t'
  obtain ⟨h0,he⟩:=qA ht
  by_cases hm:t'∈out
  ·have c2:ACall Tryz.prog 183 [ints out,pi t'] (pb true):=by have:=Qi out t';rwa [decide_eq_true hm] at this
   repeat' (first|(refine shC ?_;first|refine qC c1 ?_|refine qC c2 ?_)|refine sK ?_|refine sC (fun _=>?_) (fun _=>?_)|fail)
   exact retq rfl (by rw [←hi.stop (.inr hm)];rfl)
  ·have c2:ACall Tryz.prog 183 [ints out,pi t'] (pb false):=by have:=Qi out t';rwa [decide_eq_false hm] at this
   have hnx:=hi.next ht hm
   repeat' (first|(refine shC ?_;first|refine qC c1 ?_|refine qC c2 ?_)|(refine shX ?_;first|refine zB rfl (zl zf rfl rfl rfl rfl rfl rfl h0 he) rfl rfl ?_|refine AD.step _ _ _ _ _ rfl (zl zf rfl rfl rfl rfl rfl rfl h0 he) rfl rfl ?_)|(refine yH ?_;first|refine yU zf rfl rfl rfl rfl rfl rfl rfl (by show _ * 8≤_;simp;omega) (by simp;omega) rfl rfl ?_)|refine sK ?_|refine sC (fun _=>?_) (fun _=>?_)|fail)
   refine ⟨(td.ext,out++[t']),hnx,by simp;omega,tS,⟨qG rfl (by simp) zK,rfl⟩⟩
theorem zfX (l:List Int) (hb:l.length≤100000):ACall Tryz.prog 77 [ints l] (ints l):=by
 refine zh zf Tryz.func77 rfl (by kernel_rfl) Tryz.ntmps77 (by simp) _ rfl (fun hw gB hgB=>?_)
 repeat' (first|refine XH zf rfl rfl rfl rfl rfl rfl rfl (fun bb hbb=>?_)|refine zB rfl (YK zf rfl rfl rfl rfl rfl) rfl rfl ?_|(refine yH ?_;first|refine zB rfl (Qq zf rfl rfl (.inl rfl) rfl rfl (by show _ * 8≤_;simp;omega) (by simp;omega)) rfl rfl ?_)|refine sA ?_|refine sC (fun _=>?_) (fun _=>?_)|fail)
 ·rename_i h
  have:l=[]:=by have:=hbb h;simpa using this
  subst this
  exact zcp (t:=2) (ps:=[ints []]) rfl (Xp 1 false) rfl rfl
 ·exact retq rfl rfl
def zdd (l:List Int) (p:Int→Bool):Int:=if l.any p then ((l.findIdx p:Nat):Int) else -1
theorem zab (l:List Int) (p:Int→Bool) (f:FuncId) (first cap:List PV) (hp:∀ x∈l,ACall Tryz.prog f (first++[pi x]++cap) (pb (p x))):ACall Tryz.prog 163 [ints l,.fn (.func f) first cap] (pi (zdd l p)):=by
 refine zh zf Tryz.func163 rfl (by kernel_rfl) Tryz.ntmps163 (by simp) _ rfl (fun hw gB hgB=>?_)
 have hl:=zcD hw.1
 repeat' (first|refine sA ?_|refine sC (fun _=>?_) (fun _=>?_)|fail)
 refine zJ (fun k:Nat=>[(0,.pv (ints l)),(1,.pv (.fn (.func f) first cap)),(7,.pv (pi l.length)),(8,.pv (pi k))]) (fun _=>[]) (fun k=>k≤l.length∧∀ j (h:j < k) (h2:j < l.length),p l[j]=false) (fun k=>l.length - k) 0 ⟨by omega,fun j h=>by omega⟩ (tS) tH ?_
 rintro k ⟨hk,hno⟩
 by_cases hlt:k < l.length
 ·have he:=qB hlt
  have c1:=hp _ (List.getElem_mem hlt)
  cases hpx:p l[k]
  ·rw [hpx] at c1
   repeat' (first|(refine shC ?_;first|refine qV (c1) ?_)|(refine shX ?_;first|refine qX he ?_)|refine sK ?_|refine sC (fun _=>?_) (fun _=>?_)|fail)
   exact ⟨k + 1,⟨hlt,fun j hj h2=>by
    by_cases e:j=k
    ·subst e;exact hpx
    ·exact hno j (by omega) h2⟩,tD,tS,tH⟩
  ·rw [hpx] at c1
   have hi:l.findIdx p=k:=by
    rw [List.findIdx_eq hlt]
    exact ⟨hpx,fun j hj=>hno j hj (by omega)⟩
   have ha:l.any p=true:=List.any_eq_true.2 ⟨_,List.getElem_mem hlt,hpx⟩
   repeat' (first|(refine shC ?_;first|refine qV (c1) ?_)|(refine shX ?_;first|refine qX he ?_)|refine sK ?_|refine sC (fun _=>?_) (fun _=>?_)|fail)
   exact retq rfl (by simp [zk,zdd,ha,hi])
 ·have ha:l.any p=false:=by
   rw [List.any_eq_false]
   intro x hx
   obtain ⟨j,hj,rfl⟩:=List.getElem_of_mem hx
   simp [hno j (by omega) hj]
  repeat' (first|refine sK ?_|refine sC (fun _=>?_) (fun _=>?_)|fail)
  exact retq rfl (by simp [zk,zdd,ha])
theorem zet (l:List Int) (f:FuncId) (first cap:List PV) (hp:∀ x∈l,ACall Tryz.prog f (first++[pi x]++cap) (pb false)):ACall Tryz.prog 194 [ints l,.fn (.func f) first cap] (ints l):=by
 refine zh zf Tryz.func194 rfl (by kernel_rfl) Tryz.ntmps194 (by simp) _ rfl (fun hw gB hgB=>?_)
 have c1:=zab l (fun _=>false) f first cap hp
 rw [show zdd l (fun _=>false) = -1 by simp [zdd]] at c1
 repeat' (first|(refine shC ?_;first|refine qC c1 ?_)|refine sA ?_|refine sC (fun _=>?_) (fun _=>?_)|fail)
 exact retq rfl rfl
theorem zkp (g:Img) (x:Int):ACall Tryz.prog 195 [pi x,.ptr (zH g) 0] (pb (!there g x)):=by
 refine zh zf Tryz.func195 rfl (by kernel_rfl) Tryz.ntmps195 (by simp) _ rfl (fun hw gB hgB=>?_)
 repeat' (first|(refine shC ?_;first|refine qC (YV g x) ?_)|refine sA ?_|refine sC (fun _=>?_) (fun _=>?_)|fail)
 all_goals first|(refine retq rfl ?_;first|(simp only [zk,BL,List.length_map] at *;simp only [*,BL,List.length_map];done)|(simp_all [zk];done)|(simp_all [zk];omega)|(simp_all [zk];intros;omega))|(refine ZN rfl ?_;first|(simp only [zk,BL,List.length_map] at *;simp only [*,BL,List.length_map];done)|(simp_all [zk];done)|(simp_all [zk];omega)|(simp_all [zk];intros;omega))|skip
theorem WL (g:Img) (t:Int) (hfc:(yQ g t).length≤1000) (hin:∀ f∈yQ g t,there g f=true):ACall Tryz.prog 165 [zH g,pi t] (ints (yQ g t)):=by
 refine zh zf Tryz.func165 rfl (by kernel_rfl) Tryz.ntmps165 (by simp) _ rfl (fun hw gB hgB=>?_)
 cases ht:typeAt g t with
 | none =>
  have hth:there g t=false:=by
   cases hh:there g t with
   | false=>rfl
   | true=>obtain ⟨td,h⟩:=(ZM g t).1 hh;rw [ht] at h;cases h
  have c1:ACall Tryz.prog 97 [zH g,pi t] (pb false):=by rw [←hth];exact YV g t
  repeat' (first|(refine shC ?_;first|refine qC c1 ?_)|refine sK ?_|refine sC (fun _=>?_) (fun _=>?_)|fail)
  rw [yQ,ht]
  exact zcp (t:=4) (ps:=[ints []]) rfl (Xp 1 false) rfl rfl
 | some td =>
  have hth:there g t=true:=(ZM g t).2 ⟨td,ht⟩
  have c1:ACall Tryz.prog 97 [zH g,pi t] (pb true):=by rw [←hth];exact YV g t
  obtain ⟨h0,he⟩:=qA ht
  have hfa:yQ g t=td.faces:=by rw [yQ,ht]
  rw [hfa] at hin hfc ⊢
  have c2:=zet td.faces 195 [] [.ptr (zH g) 0] (fun x hx=>by have:=zkp g x;rw [hin x hx] at this;exact this)
  repeat' (first|(refine shC ?_;first|refine qC c1 ?_|refine zB rfl (zG rfl rfl (zfX _ (by omega))) rfl rfl ?_|refine AD.step _ _ _ _ _ rfl (zG rfl rfl (zfX _ (by omega))) rfl rfl ?_|refine qC c2 ?_)|(refine shX ?_;first|refine zB rfl (zl zf rfl rfl rfl rfl rfl rfl h0 he) rfl rfl ?_|refine AD.step _ _ _ _ _ rfl (zl zf rfl rfl rfl rfl rfl rfl h0 he) rfl rfl ?_)|refine sK ?_|refine sC (fun _=>?_) (fun _=>?_)|fail)
  exact retq rfl rfl
theorem zkY (g:Img) (t:Int) (hfc:(yQ g t).length≤1000) (hin:∀ f∈yQ g t,there g f=true):ACall Tryz.prog 167 [pi t,.ptr (zH g) 0] (ints (yQ g t)):=by
 refine zh zf Tryz.func167 rfl (by kernel_rfl) Tryz.ntmps167 (by simp) _ rfl (fun hw gB hgB=>?_)
 repeat' (first|(refine shC ?_;first|refine qC (WL g t hfc hin) ?_)|refine sA ?_|refine sC (fun _=>?_) (fun _=>?_)|fail)
 exact retq rfl rfl
end Go.Cg
namespace Go.Cg
open Go.RowKit Go.Maps Go.WideElems
def qH (us:Nat→Value):Nat→Env→HEnv
 | _,[]=>[]
 | b,(t,av)::e=>(b,.pin av (us t))::qH us (b + 1) e
def zkJ:Env→Bool
 | []=>true
 | (t,_)::e=>(Env.get e t).isNone&&zkJ e
def zew (b:Nat):HEnv→Bool
 | []=>true
 | (i,_)::e=>Nat.blt i b&&zew b e
theorem get_append {H G:HEnv} {i:Nat}:HEnv.get (H++G) i=match HEnv.get H i with|some h=>some h|none=>HEnv.get G i:=by
 induction H with
 | nil=>rfl
 | cons x H ih =>
  obtain ⟨j,h⟩:=x
  rw [List.cons_append,HEnv.get_cons,HEnv.get_cons]
  split
  ·rfl
  ·exact ih
theorem VG {b:Nat}:∀ {H:HEnv},zew b H=true→∀ i h,H.get i=some h→i < b
 | [],_,i,h,hg=>by simp [HEnv.get_nil] at hg
 | (j,x)::e,hi,i,h,hg=>by
  simp only [zew,Bool.and_eq_true] at hi
  rw [HEnv.get_cons] at hg
  split at hg
  ·rename_i e';subst e';exact Nat.le_of_ble_eq_true hi.1
  ·exact VG hi.2 i h hg
theorem zaz {us:Nat→Value}:∀ {e:Env} {b i:Nat} {h:HE},HEnv.get (qH us b e) i=some h→b≤i∧∃ t av,(t,av)∈e∧h=.pin av (us t)
 | [],b,i,h,hg=>by simp [qH,HEnv.get_nil] at hg
 | (t,av)::e,b,i,h,hg=>by
  rw [qH,HEnv.get_cons] at hg
  split at hg
  ·rename_i e';subst e'
   simp only [Option.some.injEq] at hg;subst hg
   exact ⟨Nat.le_refl _,t,av,by simp,rfl⟩
  ·obtain ⟨h1,t',av',h2,h3⟩:=zaz hg
   exact ⟨by omega,t',av',by simp [h2],h3⟩
theorem zhd {us:Nat→Value}:∀ {e:Env} {b:Nat} {t:Nat} {av:AV},(t,av)∈e→∃ i,b≤i∧HEnv.get (qH us b e) i=some (.pin av (us t))
 | [],b,t,av,h=>by simp at h
 | (t',av')::e,b,t,av,h=>by
  simp only [List.mem_cons,Prod.mk.injEq] at h
  rcases h with ⟨rfl,rfl⟩|h
  ·exact ⟨b,Nat.le_refl _,by rw [qH,HEnv.get_cons,if_pos rfl]⟩
  ·obtain ⟨i,h1,h2⟩:=zhd (b:=b + 1) h
   exact ⟨i,by omega,by rw [qH,HEnv.get_cons,if_neg (by omega)];exact h2⟩
theorem zgf:∀ {e:Env} {t:Nat} {av:AV},e.get t=some av→(t,av)∈e
 | [],t,av,h=>by simp [Env.get_nil] at h
 | (t',av')::e,t,av,h=>by
  rw [Env.get_cons] at h
  split at h
  ·rename_i e';subst e';simp only [Option.some.injEq] at h;subst h;simp
  ·simp [zgf h]
theorem zdK:∀ {e:Env},zkJ e=true→∀ {t:Nat} {av:AV},(t,av)∈e→e.get t=some av
 | [],_,t,av,h=>by simp at h
 | (t',av')::e,hn,t,av,h=>by
  simp only [zkJ,Bool.and_eq_true,Option.isNone_iff_eq_none] at hn
  rw [Env.get_cons]
  simp only [List.mem_cons,Prod.mk.injEq] at h
  rcases h with ⟨rfl,rfl⟩|h
  ·simp
  ·have:=zdK hn.2 h
   split
   ·rename_i e';subst e';rw [hn.1] at this;cases this
   ·exact this
def YZ (K:KK) (w:World) (ρ:Nat→Value) (H:HEnv) (ars:List AV) (vs:List Value):Prop :=
 vs.length=ars.length∧∀ (k:Nat) (c:AV) (v:Value),ars[k]?=some c→vs[k]?=some v→ARel K w ρ H c v
structure ACallH (P:Program) (f:FuncId) (args:List AV) (H H':HEnv):Prop where
 stands:zbV P f
 calls:∀ (g:Base) (K:KK) (ρ:Nat→Value) (w:World) (vs:List Value),Plain g→FS g K ρ H w→YZ K w ρ H args vs →
  Calls P f vs.toArray w fun e w'=>∃ K' ρ',e=.returned (.tuple #[])∧FS g K' ρ' H' w'
def zat:Nat→List AV→Env
 | _,[]=>[]
 | k,p::ps=>(k,p)::zat (k + 1) ps
def ztY (H':HEnv):QC:=fun ex _ H=>(ex=.normal∨ex=.ret)∧Wn H H' []
section
variable {P:Program} {tb:Tab} {n:Nat} {g:Base} {K:KK} {w:World} {ρ:Nat→Value} {H H':HEnv} {env:Env} {a:Act} {ops:List Oper} {o:Oper} {rest:List Oper} {Q:Env→HEnv→Prop} {f:FuncId} {args:List AV}
theorem zbp:∀ (ps:List AV) (k t:Nat) (av:AV),(zat k ps).get t=some av→k≤t∧ps[t - k]?=some av
 | [],k,t,av,h=>by simp [zat,Env.get_nil] at h
 | p::ps,k,t,av,h=>by
  simp only [zat,Env.get_cons] at h
  split at h
  ·rename_i e;subst e;simp only [Option.some.injEq] at h;exact ⟨Nat.le_refl _,by simp [h]⟩
  ·obtain ⟨h1,h2⟩:=zbp ps (k + 1) t av h
   refine ⟨by omega,?_⟩
   rw [show t - k=(t - (k + 1)) + 1 by omega]
   simpa using h2
theorem zjE {fn:Func} {c:Code} (hf:P.funcs[f]?=some fn) (hb:fn.body=some c) (hn:(fn.name == "runtime.NumGoroutine")=false) (hnt:fn.ntmps=n) (hargs:args.length≤n) (hrs:fn.results=#[])
  (h:∀ g:Base,Plain g→AW P n g c (zat 0 args) H (ztY H')):ACallH P f args H H':=by
 refine ⟨⟨fn,hf,by simp [hb],hn⟩,fun g0 K ρ w vs hw1 hfs0 hv=>?_⟩
 obtain ⟨g,hg0⟩:∃ g:Base,g=⟨g0.w0,g0.K0,g0.w1,[],g0.wp,g0.pr⟩:=⟨_,rfl⟩
 have hfs:FS g K ρ H w:=by subst hg0;exact ⟨hfs0.below,hfs0.old,hfs0.new,hfs0.lt,hfs0.others,⟨hfs0.pt.same,hfs0.pt.kept⟩,hfs0.away,hfs0.heap⟩
 refine calls_of_wp hf hb ?_
 have hlen:vs.length=args.length:=hv.1
 refine wp_mono (wpIn_wide.1 ((h g (by subst hg0;exact hw1)).go _ w ⟨by simp [hnt];omega,by subst hg0;rfl,K,ρ,hfs,?_⟩ none 0)) ?_
 ·intro t av hg
  obtain ⟨_,hp⟩:=zbp args 0 t av hg
  have hlt:t < vs.length:=by rw [hlen];exact (List.getElem?_eq_some_iff.1 hp).1
  refine ⟨vs[t],?_,hv.2 t av _ hp (List.getElem?_eq_getElem hlt)⟩
  rw [Array.getElem?_append_left (by simpa using hlt)]
  simp [hlt]
 ·rintro e a' w' ⟨env1,H1,hi,he,hfit⟩
  have hi2:Inv n g [] H' a' w':=(hi.sub yS).hsub hfit
  obtain ⟨_,h2,K',ρ',hf1,_⟩:=hi2
  subst hg0
  have hf':FS g0 K' ρ' H' w':=⟨hf1.below,hf1.old,hf1.new,hf1.lt,hf1.others,⟨hf1.pt.same,hf1.pt.kept⟩,hf1.away,hf1.heap⟩
  have hres:(results fn a'.tmps).run P w'=.ok (.tuple #[]) w':=by
   unfold results
   rw [hrs,Array.mapM_eq_mapM_toList]
   rfl
  rcases he with rfl|rfl
  ·exact ⟨h2,_,hres,K',ρ',rfl,hf'⟩
  ·exact ⟨h2,_,hres,K',ρ',rfl,hf'⟩
def avs (env:Env):List Operand→Option (List AV)
 | []=>some []
 | x::xs=>match env.val x,avs env xs with|some v,some vs=>some (v::vs)|_,_=>none
theorem zcV (he:EnvR K w ρ H env a.tmps):∀ {xs:List Operand} {ars:List AV},avs env xs=some ars→YZ K w ρ H ars (xs.map a.eval)
 | [],ars,h=>by simp [avs] at h;subst h;exact ⟨rfl,fun k c v h=>by simp at h⟩
 | x::xs,ars,h=>by
  simp only [avs] at h
  split at h
  ·rename_i v vs h1 h2
   simp only [Option.some.injEq] at h;subst h
   obtain ⟨l1,l2⟩:=zcV he h2
   refine ⟨by simpa using l1,fun k c u hc hu=>?_⟩
   cases k with
   | zero=>simp at hc hu;subst hc hu;exact qQ he h1
   | succ k=>simp at hc hu;exact l2 k c u hc (by simpa using hu)
  ·cases h
theorem yZ {G:HEnv} (j:Nat) (h:(H.get j).isSome=true):(HEnv.get (H++G) j).isSome=true:=by
 rw [get_append]
 cases hh:H.get j with
 | none=>simp [hh] at h
 | some x=>rfl
theorem zlq {t d:Tmp} {xs:Array Operand} {ts:Array TypeId} {first cap ars:List AV} (env2:Env) (H':HEnv) (b:Nat) (hw1:Plain g) (hg:guardE ops env o=some true) (hop:o.op=.call { callee:=.value (.tmp t),args:=xs,argTypes:=ts })
  (ht:env.get t=some (.fn (.func f) first cap)) (hargs:avs env xs.toList=some ars) (hs:Sub env env2) (hnd:zkJ env2=true) (hb:zew b H=true) (hb':zew b H'=true)
  (hfit:(zas H' env2&&hIn H' H')=true) (hd:o.dst=some d) (hdt:Nat.blt d n=true)
  (hc:∀ us,ACallH P f (first++ars++cap) (H++qH us b env2) (H'++qH us b env2))
  (h:AO P n g ops.toArray rest ((d,.pv (.tup []))::env2) H' Q):AO P n g ops.toArray (o::rest) env H Q:=by
 refine ⟨fun a w hinv=>?_⟩
 have hw:=qE hinv hg
 have hinv2:=hinv.sub hs
 obtain ⟨h1,h2,K,ρ,hf,he⟩:=hinv
 have he2:EnvR K w ρ H env2 a.tmps:=fun t av ht=>he t av (hs t av ht)
 refine wpList_step fun KK hKK=>?_
 rw [if_pos hw]
 let us:Nat→Value:=fun t=>a.tmps.getD t undef
 have hus:∀ t av,(t,av)∈env2→ARel K w ρ H av (us t):=by
  intro t av hm
  obtain ⟨v,v1,v2⟩:=he2 t av (zdK hnd hm)
  have:us t=v:=by simp [us,Array.getD_eq_getD_getElem?,v1]
  rw [this];exact v2
 have hlat:Later K K w w:=.refl K w
 have hk:∀ j,(H.get j).isSome=true→(HEnv.get (H++qH us b env2) j).isSome=true∧ρ j=ρ j:=fun j hj=>⟨yZ j hj,rfl⟩
 have hfs:FS g K ρ (H++qH us b env2) w:=by
  have e1:∀ i x,HEnv.get (H++qH us b env2) i=some x→x.live=true→H.get i=some x:=by
   intro i x hi hl
   rw [get_append] at hi
   cases hh:H.get i with
   | some z=>rw [hh] at hi;exact hi
   | none =>
    rw [hh] at hi
    obtain ⟨_,t,av,hm,rfl⟩:=zaz hi
    simp [HE.live] at hl
  refine ⟨hf.below,hf.old,hf.new,hf.lt,hf.others,hf.pt,fun i h bb hi hl=>hf.away i h bb (e1 i h hi hl) hl,?_,?_⟩
  ·intro i e hi
   rw [get_append] at hi
   cases hh:H.get i with
   | some x=>rw [hh] at hi;simp only [Option.some.injEq] at hi;subst hi;exact (hf.heap.ok i _ hh).keeps (.refl hf.lt) hf.lt hk
   | none =>
    rw [hh] at hi
    obtain ⟨_,t,av,hm,rfl⟩:=zaz hi
    exact (hus t av hm).keeps hlat hk
  ·intro i j x y bb hij hi hj lx ly bx bby
   have e1:∀ i x,HEnv.get (H++qH us b env2) i=some x→x.live=true→H.get i=some x:=by
    intro i x hi hl
    rw [get_append] at hi
    cases hh:H.get i with
    | some z=>rw [hh] at hi;exact hi
    | none =>
     rw [hh] at hi
     obtain ⟨_,t,av,hm,rfl⟩:=zaz hi
     simp [HE.live] at hl
   exact hf.heap.apart i j x y bb hij (e1 i x hi lx) (e1 j y hj ly) lx ly bx bby
 have hfn:=qQ he (x:=.tmp t) ht
 generalize hfv:a.eval (.tmp t)=fv at hfn
 cases hfn with
 | fn _ _ _ vf vc f1 f2 f3 f4 =>
  have hpa:=zcV (a:=a) he hargs
  have hall:YZ K w ρ (H++qH us b env2) (first++ars++cap) (vf++xs.toList.map a.eval++vc):=by
   refine ⟨by have:=hpa.1;simp at this;simp [f1,f2,this],fun k c v hc hv=>?_⟩
   have:ARel K w ρ H c v:=by
    rw [List.append_assoc,List.getElem?_append] at hc hv
    split at hc
    ·rename_i hl
     rw [if_pos (by omega)] at hv
     exact f3 k c v hc hv
    ·rename_i hl
     rw [if_neg (by omega)] at hv
     rw [f1] at hv
     rw [List.getElem?_append] at hc hv
     have e:(xs.toList.map a.eval).length=ars.length:=hpa.1
     split at hc
     ·rename_i hl2
      rw [if_pos (by omega)] at hv
      exact hpa.2 _ c v hc hv
     ·rename_i hl2
      rw [if_neg (by omega),e] at hv
      exact f4 _ c v hc hv
   exact this.keeps hlat hk
  have hrun:(execOp a.eval o).run P w=.ok (.enter f (vf++xs.toList.map a.eval++vc).toArray) w:=by
   have e:(vf++xs.toList.map a.eval++vc).toArray=vf.toArray++xs.map a.eval++vc.toArray:=by
    rw [show xs.map a.eval=(xs.toList.map a.eval).toArray by rw [←Array.toList_map,Array.toArray_toList]]
    simp
   rw [e]
   simp [execOp,hop,resolve,hfv,Deferred.ofValue,invoke,ZU (hc us).stands]
  unfold Oper.wp
  rw [hrun]
  simp only [Oper.upon]
  refine ((hc us).calls g K ρ w _ hw1 hfs hall).mono fun e w'' ⟨K',ρ',e1,hfs'⟩=>?_
  subst e1
  have hinv':Inv n g env2 (H'++qH us b env2) a w'':=by
   refine ⟨h1,h2,K',ρ',hfs',fun t av ht=>?_⟩
   obtain ⟨i,hi1,hi2⟩:=zhd (us:=us) (b:=b) (zgf ht)
   have hno:H'.get i=none:=by
    cases hh:H'.get i with
    | none=>rfl
    | some x=>have:=VG hb' i x hh;omega
   have hget:HEnv.get (H'++qH us b env2) i=some (.pin av (us t)):=by rw [get_append,hno];exact hi2
   have hrel:=hfs'.heap.ok i _ hget
   obtain ⟨v,v1,_⟩:=he2 t av ht
   have:us t=v:=by simp [us,Array.getD_eq_getD_getElem?,v1]
   exact ⟨v,v1,by rw [←this];exact hrel⟩
  have hinv3:Inv n g env2 H' a w'':=hinv'.hsub ⟨fun i x hi=>by rw [get_append,hi],hfit⟩
  obtain ⟨q1,q2,K3,ρ3,q3,q4⟩:=hinv3
  refine hKK _ _ (h.go _ _ ⟨Zg q1,put_defers q2,K3,ρ3,q3,?_⟩)
  rw [hd]
  exact Yp q1 hdt q4 (.pv _ _ (.tup [] [] rfl (by simp)))
end
end Go.Cg
namespace Go.Cg
open Go.RowKit Go.Maps Go.WideElems Go.ChangeMaps Go.MapKept
def MapSet (P:Program) (kt et:TypeId) (met:List Int) (o:Obj):Prop :=
 ∃ es clock,o=.map es clock∧Fit (H:=Unit) P kt (plainElem P et) es clock∧es.size≤met.length ∧
  ∀ x,(Lit.int .i64 x).wf=true→(DataW.map ((es.toList.map (rg P kt (plainElem (H:=Unit) P et))).foldr DataW.insert [])).atKey (.int .i64 x) (.lit (.int .i64 0))=.lit (.int .i64 (if x∈met then 1 else 0))
section
variable {P:Program} {tb:Tab} {n:Nat} {g:Base} {K:KK} {w:World} {ρ:Nat→Value} {H:HEnv} {env:Env} {a:Act} {ops:List Oper} {o:Oper} {rest:List Oper} {Q:Env→HEnv→Prop}
theorem znJ (kt et:TypeId):MapSet P kt et [] (.map #[] 0) :=
 ⟨#[],0,rfl,⟨by simp,stamped_empty 0,by simp⟩,Nat.le_refl _,fun x _=>by simp;rfl⟩
theorem znN {t kt et d:Nat} (i:Nat) (hg:guardE ops env o=some true) (hop:o.op=.makeMap t none) (hi:H.get i=none) (hd:o.dst=some d) (ht:Nat.blt d n=true)
  (h:AO P n g ops.toArray rest ((d,.own i)::env) ((i,.obj (MapSet P kt et []))::H) Q):AO P n g ops.toArray (o::rest) env H Q:=by
 refine ⟨fun a w hinv=>?_⟩
 have hw:=qE hinv hg
 obtain ⟨h1,h2,K,ρ,hf,he⟩:=hinv
 refine wpList_step fun KK hKK=>?_
 rw [if_pos hw]
 have hrun:(execOp a.eval o).run P w=.ok (.value (.map (some w.heap.size))) (w.alloc (.map #[] 0)):=by
  simp [execOp,hop,run_makeMap]
 unfold Oper.wp
 rw [hrun]
 simp only [Oper.upon]
 have hev:Evo K K w (w.alloc (.map #[] 0)):=⟨(Below.refl _ _).alloc (Nat.le_refl _) _,fun _ _ h=>h,fun _ _ h=>.inl h,fun b o h=>by have:=hf.lt b o h;simp;omega⟩
 refine hKK _ _ (h.go _ _ ⟨Zg h1,put_defers h2,K,fun j=>if j=i then .map (some w.heap.size) else ρ j,hf.fresh hev hi ⟨w.heap.size,.map #[] 0,rfl,hf.below.size,heap_alloc_new w _,znJ kt et,fun o ho=>by have:=hf.lt _ o ho;omega⟩ (by simp [zY]),?_⟩)
 rw [hd]
 have:=ARel.own (K:=K) (w:=w.alloc (.map #[] 0)) (ρ:=fun j=>if j=i then .map (some w.heap.size) else ρ j) (H:=(i,HE.obj (MapSet P kt et []))::H) i (by simp [HEnv.get_cons])
 exact Yp h1 ht (he.keeps (hev.later hf.lt) (qO hi _ _)) (by simpa using this)
theorem zol {kt et:TypeId} {met:List Int} {b:Nat} {ob:Obj} (hb:w.heap[b]?=some ob) (h:MapSet P kt et met ob) :
  ∃ D:DataW Unit,w.ownsMap P kt (plainElem P et) b met.length D∧∀ x,(Lit.int .i64 x).wf=true→D.atKey (.int .i64 x) (.lit (.int .i64 0))=.lit (.int .i64 (if x∈met then 1 else 0)):=by
 obtain ⟨es,clock,rfl,F,hs,hat⟩:=h
 exact ⟨_,⟨es,clock,hb,F,hs,rfl⟩,hat⟩
theorem znY {t kt et:Nat} (htb:qp P tb) (h:tb.k t=.map kt et):P.underlying t=some (.map kt et):=by
 obtain ⟨d,i,h1,_,_,h2⟩:=Vy htb h (by simp)
 cases d <;> simp [zhB] at h2
 obtain ⟨rfl,rfl⟩:=h2;exact h1
theorem zqX {t kt et:Nat} {m x:Operand} {i:Nat} {met:List Int} {k:Int} (htb:qp P tb) (hop:o.op=.lookup t m x false) (hk:tb.k t=.map kt et) (hkt:tb.k kt=.int .i64) (het:tb.k et=.int .i64) (hz:tb.zero et=some (.int .i64 0))
  (hm:env.val m=some (.own i)) (hi:H.get i=some (.obj (MapSet P kt et met))) (hx:env.pv H x=some (.base (.int .i64 k))) (hwf:(Lit.int .i64 k).wf=true) :
  QStep P g H o env (.pv (.base (.int .i64 (if k∈met then 1 else 0)))):=by
 refine ⟨fun K ρ a w hf hv=>?_⟩
 have hmr:=hv m (by rw [hop];simp [Op.operands]) _ hm
 have hxr:=qo hf (hv x (by rw [hop];simp [Op.operands])) hx
 generalize hmv:a.eval m=mv at hmr
 generalize hxv:a.eval x=xv at hxr
 cases hxr
 obtain ⟨b,ob,hr,hB,hheap,hX,hn⟩:=hf.heap.ok i _ hi
 cases hmr with
 | own _ _ =>
  obtain ⟨D,hown,hat⟩:=zol hheap hX
  have hzi:(zeroValue et).run P w=.ok (.int .i64 0) w:=by
   unfold Tab.zero at hz
   split at hz
   ·rename_i ti hti
    obtain ⟨i,e1,_,_,e4,_⟩:=ZH htb hti
    simp [zeroValue,typeInfo,e1,e4,hz]
   ·cases hz
  obtain ⟨c,hrun,hc,hwc⟩:=hown.lookup_int (t:=t) (int_keyed (VE htb hkt)) (znY htb hk) (VE htb het) hzi (keyOf_int_mk (VE htb hkt) hwf)
  rw [hat k hwf] at hc
  simp only [DataW.lit.injEq,Lit.int.injEq,true_and] at hc
  subst hc
  have:(execOp a.eval o).run P w=.ok (.value (.int .i64 (if k∈met then 1 else 0))) w:=by
   rw [←hr] at hrun
   simp [execOp,hop,hmv,hxv,hrun,Result.andThen]
  rw [this]
  exact Yh hf (.pv _ _ (.base _ rfl))
theorem ziC {t kt et:Nat} {m x:Operand} {i:Nat} {met:List Int} {k c:Int} (hc:(if k∈met then (1:Int) else 0)=c) (htb:qp P tb) (hop:o.op=.lookup t m x false) (hk:tb.k t=.map kt et) (hkt:tb.k kt=.int .i64) (het:tb.k et=.int .i64) (hz:tb.zero et=some (.int .i64 0))
  (hm:env.val m=some (.own i)) (hi:H.get i=some (.obj (MapSet P kt et met))) (hx:env.pv H x=some (.base (.int .i64 k))) (hwf:(Lit.int .i64 k).wf=true) :
  QStep P g H o env (.pv (.base (.int .i64 c))):=by
 subst hc;exact zqX htb hop hk hkt het hz hm hi hx hwf
theorem zsx {l:List Oper} (env2:Env) (H2:HEnv) (hs:Sub env env2) (hf:Wn H H2 env2) (h:AO P n g ops.toArray l env2 H2 Q):AO P n g ops.toArray l env H Q:=⟨fun a w hi=>h.go a w ((hi.sub hs).hsub hf)⟩
theorem zjL {t kt et:Nat} {m x v:Operand} {i:Nat} {met:List Int} {k:Int} (hw1:g.w1.heap.size=0) (htb:qp P tb) (hg:guardE ops env o=some true) (hop:o.op=.mapUpdate t m x v) (hk:tb.k t=.map kt et) (hkt:tb.k kt=.int .i64) (het:tb.k et=.int .i64)
  (hm:env.val m=some (.own i)) (hi:H.get i=some (.obj (MapSet P kt et met))) (hx:env.pv H x=some (.base (.int .i64 k))) (hv:env.pv H v=some (.base (.int .i64 1))) (hwf:(Lit.int .i64 k).wf=true) (hlen:met.length < maxLen) (hd:o.dst=none)
  (h:AO P n g ops.toArray rest env ((i,.obj (MapSet P kt et (met++[k])))::H) Q):AO P n g ops.toArray (o::rest) env H Q:=by
 refine ⟨fun a w hinv=>?_⟩
 have hw:=qE hinv hg
 obtain ⟨h1,h2,K,ρ,hf,he⟩:=hinv
 refine wpList_step fun KK hKK=>?_
 rw [if_pos hw]
 have hmr:=qQ he hm
 have hxr:=qo (a:=a) hf (x:=x) (fun av hh=>qQ he hh) hx
 have hvr:=qo (a:=a) hf (x:=v) (fun av hh=>qQ he hh) hv
 generalize hmv:a.eval m=mv at hmr
 generalize hxv:a.eval x=xv at hxr
 generalize hvv:a.eval v=vv at hvr
 cases hxr;cases hvr
 obtain ⟨b,ob,hr,hB,hheap,hX,hnK⟩:=hf.heap.ok i _ hi
 cases hmr with
 | own _ _ =>
  obtain ⟨D,hown,hat⟩:=zol hheap hX
  have h1wf:(Lit.int .i64 1).wf=true:=by decide
  obtain ⟨w',hrun,hown',hgrow⟩:=hown.update (t:=t) (int_keyed (VE htb hkt)) (znY htb hk) hlen (val:=.int .i64 1) (keyOf_int_mk (VE htb hkt) hwf) (plainElem_int (VE htb het) h1wf)
  have hrun':(execOp a.eval o).run P w=.ok .skip w':=by
   rw [←hr] at hrun
   simp [execOp,hop,hmv,hxv,hvv,hrun,Result.andThen]
  have hX':∃ ob',w'.heap[b]?=some ob'∧MapSet P kt et (met++[k]) ob':=by
   obtain ⟨es,clock,hb,F,hs,hD⟩:=hown'
   refine ⟨_,hb,es,clock,rfl,F,by simpa using hs,fun y hy=>?_⟩
   rw [←hD]
   by_cases e:y=k
   ·subst e
    rw [atKey_put_same hown.isMap (by simp [WideAt.IsKeyLit])]
    simp
   ·rw [atKey_put_other (by simpa using e),hat y hy]
    simp [e]
  obtain ⟨ob',hb',hX2⟩:=hX'
  unfold Oper.wp
  rw [hrun']
  simp only [Oper.upon]
  have hlat:Later K K w w':=⟨fun _ _ h=>h,fun b' o hk=>by
   have hne:b'≠b:=by rintro rfl;exact hnK o hk
   exact World.cell?_of_block (hgrow.block b' (hf.lt b' o hk) (by simp [hne]))⟩
  have hkeep:∀ j,(H.get j).isSome=true→(HEnv.get ((i,.obj (MapSet P kt et (met++[k])))::H) j).isSome=true∧ρ j=ρ j:=by
   intro j hj
   refine ⟨?_,rfl⟩
   simp only [HEnv.get_nil,HEnv.get_cons]
   split
   ·rfl
   ·exact hj
  have hd':a.put o.dst undef=a:=by rw [hd];rfl
  rw [hd']
  refine hKK _ _ (h.go _ _ ⟨h1,h2,K,ρ,⟨hf.below.grown hgrow hf.below.size (fun k hk=>by simp at hk;omega),hf.old,hf.new,fun b o hk=>Nat.lt_of_lt_of_le (hf.lt b o hk) hgrow.size,⟨by rw [hw1];omega,fun k o hk=>by have:=(Array.getElem?_eq_some_iff.1 hk).1;omega⟩,hf.pt.grown hf.old hgrow hlat (fun b2 hb2=>by cases hb2;exact hf.away i _ b hi rfl (by rw [hr];rfl)) (fun _ _ h=>.inl h),hf.away.set hi rfl,?_,?_⟩,he.keeps hlat hkeep⟩)
  ·intro j e hj
   simp only [HEnv.get_nil,HEnv.get_cons] at hj
   split at hj
   ·rename_i e';subst e'
    simp only [Option.some.injEq] at hj;subst hj
    exact ⟨b,ob',hr,hB,hb',hX2,hnK⟩
   ·rename_i hne
    by_cases hlive:e.live=true
    ·have:=(hf.heap.ok j e hj).grown (f:=id) hgrow hlat (fun b o h=>.inl h) (fun av v h=>h.keeps hlat hkeep) hlive (fun b' hb' e'=>by
      simp at e';subst e'
      exact hf.heap.apart i j _ e b hne hi hj rfl hlive (by rw [hr];rfl) hb')
     cases e <;> exact this
    ·cases e <;> simp [HE.live] at hlive
     ·trivial
     ·exact ARel.keeps hlat hkeep (hf.heap.ok j _ hj)
  ·intro j k2 e e' bb hjk hj hk' hlj hlk hbj hbk
   have e1:∀ (j:Nat) (hh:HE),HEnv.get ((i,.obj (MapSet P kt et (met++[k])))::H) j=some hh→hh.live=true→∃ h0,H.get j=some h0∧h0.live=true:=by
    intro j hh hj hl
    rw [HEnv.get_cons] at hj
    split at hj
    ·rename_i e';subst e';exact ⟨_,hi,rfl⟩
    ·exact ⟨hh,hj,hl⟩
   obtain ⟨a1,a2,a3⟩:=e1 j e hj hlj
   obtain ⟨b1,b2,b3⟩:=e1 k2 e' hk' hlk
   exact hf.heap.apart j k2 a1 b1 bb hjk a2 b2 a3 b3 hbj hbk
end
end Go.Cg
namespace Go.Proofs
open Go.Shelf
def Tryz.lays189_ren:Go.Shelf.Ren:=⟨fun|189=>197|125=>219|257=>218|128=>242|129=>243|294=>233|295=>234|296=>235|297=>236|298=>237|299=>238|216=>239|300=>240|301=>241|328=>264|329=>265|330=>266|331=>267|332=>268|215=>269|343=>280|n=>n,fun|28=>97|3=>3|46=>151|0=>0|51=>223|53=>33|4=>4|183=>216|182=>215|131=>220|5=>5|9=>9|218=>238|222=>241|228=>249|229=>178|n=>n,fun|n=>n⟩
theorem Tryz.lays189:Go.Proofs.Lays.n189 Tryz.prog Tryz.lays189_ren:={
 mixed:=by kernel_rfl
 f125:=Tryz.func219.trans (congrArg some (by kernel_rfl))
 f128:=Tryz.func242.trans (congrArg some (by kernel_rfl))
 f129:=Tryz.func243.trans (congrArg some (by kernel_rfl))
 f189:=Tryz.func197.trans (congrArg some (by kernel_rfl))
 f215:=Tryz.func269.trans (congrArg some (by kernel_rfl))
 f216:=Tryz.func239.trans (congrArg some (by kernel_rfl))
 f257:=Tryz.func218.trans (congrArg some (by kernel_rfl))
 f294:=Tryz.func233.trans (congrArg some (by kernel_rfl))
 f295:=Tryz.func234.trans (congrArg some (by kernel_rfl))
 f296:=Tryz.func235.trans (congrArg some (by kernel_rfl))
 f297:=Tryz.func236.trans (congrArg some (by kernel_rfl))
 f298:=Tryz.func237.trans (congrArg some (by kernel_rfl))
 f299:=Tryz.func238.trans (congrArg some (by kernel_rfl))
 f300:=Tryz.func240.trans (congrArg some (by kernel_rfl))
 f301:=Tryz.func241.trans (congrArg some (by kernel_rfl))
 f328:=Tryz.func264.trans (congrArg some (by kernel_rfl))
 f329:=Tryz.func265.trans (congrArg some (by kernel_rfl))
 f330:=Tryz.func266.trans (congrArg some (by kernel_rfl))
 f331:=Tryz.func267.trans (congrArg some (by kernel_rfl))
 f332:=Tryz.func268.trans (congrArg some (by kernel_rfl))
 f343:=Tryz.func280.trans (congrArg some (by kernel_rfl))
 t0:=Tryz.underlying0
 a0:=Tryz.isAgg0
 z0:=Tryz.sizeOf0
 v0:=Tryz.zeroValue0
 t3:=Tryz.underlying3
 a3:=Tryz.isAgg3
 z3:=Tryz.sizeOf3
 v3:=Tryz.zeroValue3
 t4:=Tryz.underlying4
 a4:=Tryz.isAgg4
 z4:=Tryz.sizeOf4
 v4:=Tryz.zeroValue4
 t5:=Tryz.underlying5
 a5:=Tryz.isAgg5
 z5:=Tryz.sizeOf5
 v5:=Tryz.zeroValue5
 t9:=Tryz.underlying9
 a9:=Tryz.isAgg9
 z9:=Tryz.sizeOf9
 v9:=Tryz.zeroValue9
 t28:=Tryz.underlying97
 a28:=Tryz.isAgg97
 z28:=Tryz.sizeOf97
 v28:=Tryz.zeroValue97
 t46:=Tryz.underlying151
 a46:=Tryz.isAgg151
 z46:=Tryz.sizeOf151
 v46:=Tryz.zeroValue151
 t51:=Tryz.underlying223
 a51:=Tryz.isAgg223
 z51:=Tryz.sizeOf223
 v51:=Tryz.zeroValue223
 t53:=Tryz.underlying33
 a53:=Tryz.isAgg33
 z53:=Tryz.sizeOf33
 v53:=Tryz.zeroValue33
 t131:=Tryz.underlying220
 a131:=Tryz.isAgg220
 z131:=Tryz.sizeOf220
 v131:=Tryz.zeroValue220
 t182:=Tryz.underlying215
 a182:=Tryz.isAgg215
 z182:=Tryz.sizeOf215
 v182:=Tryz.zeroValue215
 t183:=Tryz.underlying216
 a183:=Tryz.isAgg216
 z183:=Tryz.sizeOf216
 v183:=Tryz.zeroValue216
 t218:=Tryz.underlying238
 a218:=Tryz.isAgg238
 z218:=Tryz.sizeOf238
 v218:=Tryz.zeroValue238
 t222:=Tryz.underlying241
 a222:=Tryz.isAgg241
 z222:=Tryz.sizeOf241
 v222:=Tryz.zeroValue241
 t228:=Tryz.underlying249
 a228:=Tryz.isAgg249
 z228:=Tryz.sizeOf249
 v228:=Tryz.zeroValue249
 t229:=Tryz.underlying178
 a229:=Tryz.isAgg178
 z229:=Tryz.sizeOf178
 v229:=Tryz.zeroValue178 }
open Go.Sort Go.RowKit in
theorem Tryz.slices_Sort_int (blk off cap:Nat) (zs:List Int) (w:World) (hH:Holds (Value.int .i64) w blk off zs.toArray) (hblk:blk < w.heap.size) (hsz:zs.length < 4611686018427387904) :
  Calls Tryz.prog 197 #[.slice (some ⟨blk,off,none⟩) zs.length cap] w fun e w' =>
   e=.returned (.tuple #[])∧∃ n os,w'=grow (putRow (Value.int .i64) (Sort.ahead w n) blk off (zs.mergeSort fun x y=>decide (x≤y)).toArray) os:=Any.slices_Sort_int Tryz.lays189 blk off cap zs w hH hblk hsz
open Go.RowKit Go.Sort in
theorem Tryz.slices_Sort_int_none (p:Option Addr) (cap:Nat) (w:World) :
  Calls Tryz.prog 197 #[.slice p 0 cap] w fun e w'=>e=.returned (.tuple #[])∧w'=w:=Any.slices_Sort_int_none Tryz.lays189 p cap w
end Go.Proofs
/- slices.Sort,of a row of the call's own. -/
namespace Go.Cg
open Go.RowKit Go.Proofs

mutual
/-- Values that bear no address. -/
def PV.free:PV→Bool
  | .base _=>true
  | .agg cs=>frees cs
  | .slc _ es _=>es.isEmpty
  | .ptr _ _=>false
  | .fn _ a b=>frees a&&frees b
  | .tup cs=>frees cs
def frees:List PV→Bool
  | []=>true
  | c::cs=>c.free&&frees cs
end
theorem QD:∀ {cs:List PV},frees cs=true→∀ (k:Nat) (c:PV),cs[k]?=some c→c.free=true
  | [],_,k,c,h=>by simp at h
  | c::cs,h,k,c',hk=>by
    simp only [frees,Bool.and_eq_true] at h
    cases k with
    | zero=>simp at hk;subst hk;exact h.1
    | succ k=>simp at hk;exact QD h.2 k c' hk
mutual
def AV.freeA:AV→Bool
  | .pv p=>p.free
  | .agg cs=>zfh cs
  | .fn _ a b=>zfh a&&zfh b
  | _=>true
def zfh:List AV→Bool
  | []=>true
  | c::cs=>c.freeA&&zfh cs
end
theorem zbQ:∀ {cs:List AV},zfh cs=true→∀ (k:Nat) (c:AV),cs[k]?=some c→c.freeA=true
  | [],_,k,c,h=>by simp at h
  | c::cs,h,k,c',hk=>by
    simp only [zfh,Bool.and_eq_true] at h
    cases k with
    | zero=>simp at hk;subst hk;exact h.1
    | succ k=>simp at hk;exact zbQ h.2 k c' hk
def HE.freeH:HE→Bool
  | .cell v=>v.freeA
  | .pin v _=>v.freeA
  | .row _ _ es=>frees es
  | .mrow _ _ es=>frees es
  | _=>true
def zgq:Env→Bool
  | []=>true
  | (_,v)::e=>v.freeA&&zgq e
def znW (i:Nat):HEnv→Bool
  | []=>true
  | (j,h)::e=>(Nat.beq i j||h.freeH)&&znW i e
theorem zfu:∀ {e:Env},zgq e=true→∀ t v,e.get t=some v→v.freeA=true
  | [],_,t,v,h=>by simp [Env.get_nil] at h
  | (t',v')::e,h,t,v,hv=>by
    simp only [zgq,Bool.and_eq_true] at h
    rw [Env.get_cons] at hv
    split at hv
    · simp only [Option.some.injEq] at hv;subst hv;exact h.1
    · exact zfu h.2 t v hv
theorem ziH {i:Nat}:∀ {e:HEnv},znW i e=true→∀ j h,e.get j=some h→j≠i→h.freeH=true
  | [],_,j,h,hg,_=>by simp [HEnv.get_nil] at hg
  | (k,x)::e,hf,j,h,hg,hne=>by
    simp only [znW,Bool.and_eq_true,Bool.or_eq_true] at hf
    rw [HEnv.get_cons] at hg
    split at hg
    · rename_i e';subst e'
      simp only [Option.some.injEq] at hg;subst hg
      rcases hf.1 with h1|h1
      · exact (hne (Nat.eq_of_beq_eq_true h1).symm).elim
      · exact h1
    · exact ziH hf.2 j h hg hne

section
variable {K K':KK} {w w':World} {ρ:Nat→Value} {H H':HEnv}
theorem PRel.free {p:PV} {v:Value} (h:PRel K w p v):p.free=true→PRel K' w' p v:=by
  induction h with
  | base v h1=>exact fun _=>.base v h1
  | agg cs vs hl h1 _ ih=>exact fun hf=>.agg cs vs hl h1 fun k c v hc hv=>ih k c v hc hv (QD hf k c hc)
  | nil sz full=>exact fun _=>.nil sz full
  | emp sz full a=>exact fun _=>.emp sz full a
  | slc sz es full b o cap vss h0 h1 h2 h3 h4 h5 h6 ih =>
    intro hf
    have hes:es=[]:=by simpa [PV.free] using hf
    subst hes
    refine .slc sz [] full b o cap vss h0 h1 h2 h3 h4 (fun i e he=>by simp at he) (fun i e k c v he=>by simp at he)
  | ptr p off b o vs hl hr _ ih=>intro hf;simp [PV.free] at hf
  | fn f a b vf vc h1 h2 _ _ ih1 ih2 =>
    intro hf
    simp only [PV.free,Bool.and_eq_true] at hf
    exact .fn f a b vf vc h1 h2 (fun k c v hc hv=>ih1 k c v hc hv (QD hf.1 k c hc)) (fun k c v hc hv=>ih2 k c v hc hv (QD hf.2 k c hc))
  | tup cs vs hl _ ih=>exact fun hf=>.tup cs vs hl fun k c v hc hv=>ih k c v hc hv (QD hf k c hc)
theorem ARel.free (hk:∀ j,(H.get j).isSome=true→(H'.get j).isSome=true) {av:AV} {v:Value} (h:ARel K w ρ H av v):av.freeA=true→ARel K' w' ρ H' av v:=by
  induction h with
  | pv p v hp=>exact fun hf=>.pv p v (hp.free hf)
  | own j hj=>exact fun _=>.own j (hk j hj)
  | box j off b hj hr=>exact fun _=>.box j off b (hk j hj) hr
  | ad j off b m c hj hr=>exact fun _=>.ad j off b m c (hk j hj) hr
  | agg cs vs h1 h2 _ ih=>exact fun hf=>.agg cs vs h1 h2 fun k c v hc hv=>ih k c v hc hv (zbQ hf k c hc)
  | fn f a b vf vc h1 h2 _ _ ih1 ih2 =>
    intro hf
    simp only [AV.freeA,Bool.and_eq_true] at hf
    exact .fn f a b vf vc h1 h2 (fun k c v hc hv=>ih1 k c v hc hv (zbQ hf.1 k c hc)) (fun k c v hc hv=>ih2 k c v hc hv (zbQ hf.2 k c hc))
  | any v=>exact fun _=>.any v
  | any1 v h1 h2=>exact fun _=>.any1 v h1 h2
end

def sortL (l:List Int):List Int:=l.mergeSort fun x y=>decide (x≤y)
theorem zeQ (l:List Int):(sortL l).length=l.length:=List.length_mergeSort _
theorem ze8 {l:List Int} {x:Int}:x∈sortL l↔x∈l:=List.mem_mergeSort

section
variable {n:Nat} {g:Base} {H:HEnv} {env:Env} {ops:List Oper} {o:Oper} {rest:List Oper} {Q:Env→HEnv→Prop}
theorem zqH {w:World} {B:Nat} {v:Value} {l:List Int} (h:w.ownsRow B 3 1 v l.length (l.map (Value.int .i64))) (hl:l.length < 4611686018427387904) :
    Calls Tryz.prog 197 #[v] w fun e w'=>e=.returned (.tuple #[])∧w'.ownsRow B 3 1 v l.length ((sortL l).map (Value.int .i64))∧w.grownBy w' v.ownBlock:=by
  rcases h.2 with ⟨rfl,h0⟩|⟨b,cap,cur,rfl,hb,hheap,h1,h2,h3,h4⟩
  · have:l=[]:=List.eq_nil_of_length_eq_zero h0
    subst this
    refine (Tryz.slices_Sort_int_none none 0 w).mono fun e w' ⟨e1,e2⟩=>?_
    subst e2
    exact ⟨e1,by simpa [sortL] using h,⟨rfl,rfl,rfl,Nat.le_refl _,fun _ _ _=>rfl⟩⟩
  · have hlt:b < w.heap.size:=(Array.getElem?_eq_some_iff.1 hheap).1
    refine (Tryz.slices_Sort_int b 0 cap l w (holds_of_blockI hheap (by simpa using h4)) hlt hl).mono fun e w' ⟨e1,m,os,e2⟩=>?_
    subst e2
    refine ⟨e1,?_,grownBy_sortedI _⟩
    exact ownsRow_sortedI (zeQ l) hb hheap h1 h2 h3

/-- slices.Sort,of a row of the call's own: the frame is told anew. -/
theorem zsO {d:Tmp} {x:Operand} {ts:Array TypeId} {i:Nat} {l:List Int} (env2:Env) (hpl:Plain g) (hg:guardE ops env o=some true) (hop:o.op=.call { callee:=.value (.func 197),args:=#[x],argTypes:=ts }) (hst:zbV Tryz.prog 197)
    (hx:env.val x=some (.own i)) (hi:H.get i=some (.row 3 1 (l.map pi))) (hl:l.length≤100000) (hs:Sub env env2) (hfe:zgq env2=true) (hfh:znW i H=true) (hd:o.dst=some d) (hdt:Nat.blt d n=true)
    (h:AO Tryz.prog n g ops.toArray rest ((d,.pv (.tup []))::env2) ((i,.row 3 1 ((sortL l).map pi))::H) Q):AO Tryz.prog n g ops.toArray (o::rest) env H Q:=by
  refine ⟨fun a w hinv=>?_⟩
  have hw:=qE hinv hg
  obtain ⟨h1,h2,K,ρ,hf,he⟩:=hinv
  refine wpList_step fun KK hKK=>?_
  rw [if_pos hw]
  have hxr:=qQ he hx
  generalize hxv:a.eval x=xv at hxr
  obtain ⟨us,hown,hsz,hcr,hKK'⟩:=hf.heap.ok i _ hi
  have hus:us=l.map (Value.int .i64):=by
    apply List.ext_getElem?
    intro j
    have hlen:=hown.1
    simp at hlen
    by_cases hj:j < l.length
    · obtain ⟨_,h3⟩:=hcr j (pi l[j]) (by simp [hj])
      obtain ⟨v,h4,_,h5⟩:=h3 0 (pi l[j]) rfl
      cases h5
      simp only [Nat.mul_one,Nat.add_zero] at h4
      rw [h4];simp [hj]
    · rw [List.getElem?_eq_none (by omega),List.getElem?_eq_none (by simp;omega)]
  subst hus
  rw [List.length_map] at hown
  cases hxr with
  | own _ _ =>
    have hrun:(execOp a.eval o).run Tryz.prog w=.ok (.enter 197 #[ρ i]) w:=by
      simp [execOp,hop,resolve,Act.eval,Deferred.ofValue,invoke,ZU hst]
      simpa [Act.eval] using hxv
    unfold Oper.wp
    rw [hrun]
    simp only [Oper.upon]
    refine (zqH hown (by omega)).mono fun e w' ⟨e1,hown',hgrow⟩=>?_
    subst e1
    have hlow:∀ b,(ρ i).ownBlock=some b→g.w0.heap.size≤b:=fun b hb=>(hown.lt b hb).1
    have hcr2:∀ (j:Nat) (o:Obj),(ρ i).ownBlock=some j→w.heap[j]?=some o→o.isCells=true:=by
      intro j o hj ho
      rcases hown.2 with ⟨h,_⟩|⟨b2,cap,cur,h,_,hh,_⟩
      · rw [h] at hj;simp [Value.ownBlock] at hj
      · rw [h] at hj
        simp only [Value.ownBlock,Option.some.injEq] at hj
        subst hj
        rw [hh] at ho;cases ho;rfl
    have hsome:∀ j,(H.get j).isSome=true→(HEnv.get ((i,.row 3 1 ((sortL l).map pi))::H) j).isSome=true:=by
      intro j hj
      simp only [HEnv.get_cons]
      split
      · rfl
      · exact hj
    have hbo:∀ b,zY (ρ i)=some b↔(ρ i).ownBlock=some b:=by
      intro b
      rcases hown.2 with ⟨e,_⟩|⟨_,_,_,e,_⟩ <;> rw [e] <;> simp [zY,Value.ownBlock]
    have hpt:Prot g K w':=⟨fun b hb=>let ⟨p1,p2,p3⟩:=hf.pt.same b hb;⟨Nat.lt_of_lt_of_le p1 hgrow.size,(hgrow.block b p1 (fun e=>hf.away i _ b hi rfl ((hbo b).2 e.symm) hb)).trans p2,p3⟩,fun b o h0=>by
      rw [←hf.pt.kept b o h0]
      exact World.cell?_of_block (hgrow.block b (hf.lt b o (hf.old b o h0)) (fun e=>by have:=hlow b e.symm;have:=hpl.2 b o h0;omega))⟩
    refine hKK _ _ (h.go _ _ ⟨Zg h1,put_defers h2,K,ρ,⟨hf.below.grown hgrow hf.below.size hlow,hf.old,hf.new,fun b o hk=>Nat.lt_of_lt_of_le (hf.lt b o hk) hgrow.size,hf.others.trans (KeepsOthers.of_grownBy hgrow hcr2),hpt,hf.away.set hi rfl,?_,?_⟩,?_⟩)
    · intro j e hj
      rw [HEnv.get_cons] at hj
      split at hj
      · rename_i e';subst e'
        simp only [Option.some.injEq] at hj;subst hj
        refine ⟨(sortL l).map (Value.int .i64),by rw [List.length_map,zeQ];exact hown',hsz,?_,?_⟩
        · intro k c hc
          rw [List.getElem?_map] at hc
          cases hk:(sortL l)[k]? with
          | none=>simp [hk] at hc
          | some y =>
            simp [hk] at hc;subst hc
            refine ⟨rfl,fun m c hm=>?_⟩
            cases m with
            | zero=>simp [PV.cells] at hm;subst hm;exact ⟨.int .i64 y,by simp [hk],rfl,.base _ rfl⟩
            | succ m=>simp [PV.cells] at hm
        · intro b hb o'
          rw [List.length_map,zeQ]
          have:=hKK' b hb o'
          simpa using this
      · rename_i hne
        have hfree:=ziH hfh j e hj (Ne.symm hne)
        have hok:=hf.heap.ok j e hj
        have hblk:e.live=true→∀ b,zY (ρ j)=some b→(ρ i).ownBlock≠some b:=fun hlive b hb e' =>
          hf.heap.apart i j _ e b hne hi hj rfl hlive ((hbo b).2 e') hb
        cases e with
        | cell v =>
          obtain ⟨b,t,arr,u,r1,r2,r3,r4,r5,r6⟩:=hok
          have hlt:b < w.heap.size:=(Array.getElem?_eq_some_iff.1 r3).1
          have:=hblk rfl b (by rw [r1];rfl)
          exact ⟨b,t,arr,u,r1,r2,by rw [hgrow.block b hlt (Ne.symm this)];exact r3,r4.free hsome hfree,r5,r6⟩
        | row t sz es =>
          obtain ⟨xs,r1,r2,r3,r4⟩:=hok
          refine ⟨xs,r1.kept hgrow ?_,r2,fun k c hc=>⟨(r3 k c hc).1,fun m q hq=>?_⟩,r4⟩
          · cases hb:(ρ j).ownBlock with
            | none=>exact .inl rfl
            | some b =>
              refine .inr fun e'=>?_
              have hb2:zY (ρ j)=some b:=by
                rcases r1.2 with ⟨e,_⟩|⟨_,_,_,e,_⟩
                · rw [e] at hb;simp [Value.ownBlock] at hb
                · rw [e] at hb ⊢;simpa [zY,Value.ownBlock] using hb
              exact hblk rfl b hb2 e'.symm
          · obtain ⟨v,v1,v2,v3⟩:=(r3 k c hc).2 m q hq
            refine ⟨v,v1,v2,v3.free ?_⟩
            have hcf:=QD hfree k c hc
            cases c <;> simp only [PV.cells] at hq <;> first
              | exact QD hcf m q hq
              | (cases m with
                 | zero=>simp at hq;subst hq;exact hcf
                 | succ m=>simp at hq)
        | mrow t sz es =>
          obtain ⟨xs,r1,r2,r3,r4⟩:=hok
          refine ⟨xs,r1.kept hgrow ?_,r2,fun k c hc=>⟨(r3 k c hc).1,fun m q hq=>?_⟩,r4⟩
          · cases hb:(ρ j).ownBlock with
            | none=>exact .inl rfl
            | some b =>
              refine .inr fun e'=>?_
              have hb2:zY (ρ j)=some b:=by
                rcases r1.2 with ⟨e,_⟩|⟨_,_,_,e,_⟩
                · rw [e] at hb;simp [Value.ownBlock] at hb
                · rw [e] at hb ⊢;simpa [zY,Value.ownBlock] using hb
              exact hblk rfl b hb2 e'.symm
          · obtain ⟨v,v1,v2,v3⟩:=(r3 k c hc).2 m q hq
            refine ⟨v,v1,v2,v3.free ?_⟩
            have hcf:=QD hfree k c hc
            cases c <;> simp only [PV.cells] at hq <;> first
              | exact QD hcf m q hq
              | (cases m with
                 | zero=>simp at hq;subst hq;exact hcf
                 | succ m=>simp at hq)
        | dead=>trivial
        | pin v u=>exact ARel.free hsome hok hfree
        | obj X =>
          obtain ⟨b,ob,r1,r2,r3,r4,r5⟩:=hok
          have hlt:b < w.heap.size:=(Array.getElem?_eq_some_iff.1 r3).1
          have:=hblk rfl b (by rw [r1];rfl)
          exact ⟨b,ob,r1,r2,by rw [hgrow.block b hlt (Ne.symm this)];exact r3,r4,r5⟩
    · intro j k e e' bb hjk hj hk' hlj hlk hbj hbk
      have e1:∀ (j:Nat) (hh:HE),HEnv.get ((i,.row 3 1 ((sortL l).map pi))::H) j=some hh→hh.live=true→∃ h0,H.get j=some h0∧h0.live=true:=by
        intro j hh hj hl
        rw [HEnv.get_cons] at hj
        split at hj
        · rename_i e';subst e';exact ⟨_,hi,rfl⟩
        · exact ⟨hh,hj,hl⟩
      obtain ⟨a1,a2,a3⟩:=e1 j e hj hlj
      obtain ⟨b1,b2,b3⟩:=e1 k e' hk' hlk
      exact hf.heap.apart j k a1 b1 bb hjk a2 b2 a3 b3 hbj hbk
    · rw [hd]
      refine Yp h1 hdt (fun t av ht=>?_) (.pv _ _ (.tup [] [] rfl (by simp)))
      obtain ⟨v,v1,v2⟩:=he t av (hs t av ht)
      exact ⟨v,v1,v2.free hsome (zfu hfe t av ht)⟩
end
end Go.Cg
namespace Go.Cg
open Go.Proofs
set_option maxHeartbeats 20000000
abbrev hR (met:List Int):HEnv:=[(0,.cell (.own 2)),(1,.cell (.own 3)),(2,.obj (MapSet Tryz.prog 3 3 met)),(3,.row 3 1 (met.map pi))]
structure GOk (G:HEnv):Prop where
 kill:XO 3 G=G
 ids:∀ i h,HEnv.get G i=some h→4≤i
 inn:∀ met,hIn (hR met++G) G=true
theorem zqK {met:List Int} {G:HEnv} {i:Nat} (h:4≤i):HEnv.get (hR met++G) i=HEnv.get G i:=by
 rw [get_append]
 have:HEnv.get (hR met) i=none:=by
  simp only [hR,HEnv.get_cons,HEnv.get_nil]
  rw [if_neg (by omega),if_neg (by omega),if_neg (by omega),if_neg (by omega)]
 rw [this]
theorem GOk.killHE {G:HEnv} (hG:GOk G) {i:Nat} {h:HE} (hg:HEnv.get G i=some h):Cg.killHE 3 h=h:=by
 have:=YN 3 G i
 rw [hG.kill,hg] at this
 simpa using this.symm
theorem zob {H:HEnv} {met:List Int} {G:HEnv} {env':Env} (hG:GOk G) (h0:H.get 0=some (.cell (.own 2))) (h1:H.get 1=some (.cell (.own 3))) (h2:H.get 2=some (.obj (MapSet Tryz.prog 3 3 met))) (h3:H.get 3=some (.row 3 1 (met.map pi)))
  (hr:∀ i h,4≤i→HEnv.get G i=some h→H.get i=some h) (he:zas (hR met++G) env'=true):Wn H (hR met++G) env':=by
 refine ⟨fun i h hi=>?_,?_⟩
 ·by_cases h4:4≤i
  ·rw [zqK h4] at hi;exact hr i h h4 hi
  ·have:i=0∨i=1∨i=2∨i=3:=by omega
   rw [get_append] at hi
   rcases this with rfl|rfl|rfl|rfl
   ·rw [h0];exact hi
   ·rw [h1];exact hi
   ·rw [h2];exact hi
   ·rw [h3];exact hi
 ·rw [he,Bool.true_and]
  show (true&&(true&&hIn (hR met++G) G))=true
  rw [hG.inn];rfl
theorem zjs {i:Nat} (h:HE) (met:List Int) (G:HEnv) (h4:4≤i) (hg:HEnv.get G i=some h):HEnv.get (hR met++G) i=some h:=by rw [zqK h4];exact hg
theorem zrN {x:Int} (h:0≤x∧x < 100000):(Lit.int .i64 x).wf=true:=by
 simp [Lit.wf,IntKind.has,IntKind.min,IntKind.max,IntKind.bits,IntKind.signed];omega
theorem zlv (l met:List Int) (G:HEnv) (hG:GOk G) (hx:∀ x∈l,0≤x∧x < 100000) (hlen:met.length + l.length≤100000) :
  ACallH Tryz.prog 196 [.pv (ints l),.box 0 0,.box 1 0] (hR met++G) (hR (l.foldl Yi met)++G):=by
 refine zjE Tryz.func196 rfl (by kernel_rfl) Tryz.ntmps196 (by simp) rfl (fun gB hgB=>?_)
 repeat' (first|refine sA ?_|refine sC (fun _=>?_) (fun _=>?_)|fail)
 refine zJ (fun x:Nat × List Int=>[(1,.box 0 0),(2,.box 1 0),(6,.pv (ints l)),(7,.pv (pi l.length)),(8,.pv (pi x.1))]) (fun x=>hR x.2++G)
  (fun x=>x.1≤l.length∧x.2.length≤met.length + x.1∧(l.drop x.1).foldl Yi x.2=l.foldl Yi met) (fun x=>l.length - x.1) (0,met) ⟨by simp,by simp,rfl⟩ (tS) (zob hG rfl rfl rfl rfl (fun i h h4 hg=>zjs h met G h4 hg) rfl) ?_
 rintro ⟨k,m⟩ ⟨hk,hml,hr⟩
 simp only at hk hml hr
 by_cases hlt:k < l.length
 ·have he:=qB hlt
  rw [Xl hlt] at hr
  have hwf:=zrN (hx _ (List.getElem_mem hlt))
  by_cases hm:l[k]∈m
  ·rw [show Yi m l[k]=m by simp [Yi,hm]] at hr
   repeat' (first|refine zB rfl (ziC (c:=1) (if_pos hm) zf rfl rfl rfl rfl rfl rfl rfl rfl hwf) rfl rfl ?_|(refine shX ?_;first|refine qX he ?_)|refine sK ?_|refine sC (fun _=>?_) (fun _=>?_)|fail)
   refine ⟨(k + 1,m),⟨hlt,by simp;omega,hr⟩,tD,tS,zob hG rfl rfl rfl rfl (fun i h h4 hg=>zjs h m G h4 hg) rfl⟩
  ·rw [show Yi m l[k]=m++[l[k]] by simp [Yi,hm]] at hr
   repeat' (first|refine zB rfl (ziC (c:=0) (if_neg hm) zf rfl rfl rfl rfl rfl rfl rfl rfl hwf) rfl rfl ?_|refine zjL hgB.1 zf rfl rfl rfl rfl rfl rfl rfl rfl rfl hwf (by simp [maxLen];omega) rfl ?_|(refine shX ?_;first|refine qX he ?_)|(refine yH ?_;first|refine yU zf rfl rfl rfl rfl rfl rfl rfl (by show _ * 8≤_;simp;omega) (by simp;omega) rfl rfl ?_)|refine sK ?_|refine sC (fun _=>?_) (fun _=>?_)|fail)
   refine ⟨(k + 1,m++[l[k]]),⟨hlt,by simp;omega,hr⟩,tD,tS,zob hG rfl rfl rfl (by show some (HE.row 3 1 _)=_;simp) (fun i h h4 hg=>?_) rfl⟩
   rw [HEnv.get_cons,if_neg (by omega),HEnv.get_cons,if_neg (by omega),YN,HEnv.get_cons,if_neg (by omega),zqK h4,hg]
   simp [hG.killHE hg]
 ·rw [drop_end (by omega)] at hr
  simp only [List.foldl_nil] at hr
  subst hr
  repeat' (first|refine sK ?_|refine sC (fun _=>?_) (fun _=>?_)|fail)
  exact ⟨.inl rfl,zob hG rfl rfl rfl rfl (fun i h h4 hg=>zjs h _ G h4 hg) rfl⟩
def Xe (step:Int→List Int):Nat→Nat→List Int→List Int
 | 0,_,met=>met
 | n + 1,i,met=>match met[i]? with|some u=>Xe step n (i + 1) ((step u).foldl Yi met)|none=>met
def Xj (N:Nat) (step:Int→List Int) (l:List Int):List Int:=Xe step (N + 1) 0 (l.foldl Yi [])
def NInv (N:Nat) (met:List Int):Prop:=met.Nodup∧∀ y∈met,0≤y∧y < N
theorem NInv.len {N:Nat} {met:List Int} (h:NInv N met):met.length≤N:=Zu _ _ h.1 h.2
theorem NInv.add {N:Nat} {met:List Int} (h:NInv N met) {x:Int} (hx:0≤x∧x < N):NInv N (Yi met x):=by
 unfold Yi
 split
 ·exact h
 ·rename_i hn
  refine ⟨?_,?_⟩
  ·rw [List.nodup_append];simp [h.1];intro b hb e;subst e;exact hn hb
  ·intro y hy
   simp only [List.mem_append,List.mem_singleton] at hy
   rcases hy with hy|rfl
   ·exact h.2 y hy
   ·exact hx
theorem NInv.fold {N:Nat}:∀ (l:List Int) {met:List Int},NInv N met→(∀ x∈l,0≤x∧x < N)→NInv N (l.foldl Yi met)
 | [],_,h,_=>h
 | f::l,_,h,hl=>NInv.fold l (h.add (hl f (by simp))) fun x hx=>hl x (by simp [hx])
theorem zdj:∀ (l met:List Int),met.length≤(l.foldl Yi met).length
 | [],met=>Nat.le_refl _
 | x::l,met=>by
  refine Nat.le_trans ?_ (zdj l (Yi met x))
  unfold Yi;split <;> simp
theorem zk5 {us:Nat→Value} {env2:Env} (h1:XO 3 (qH us 100 env2)=qH us 100 env2) (h2:∀ met,hIn (hR met++qH us 100 env2) (qH us 100 env2)=true):GOk (qH us 100 env2) :=
 ⟨h1,fun i h hg=>by have:=(zaz hg).1;omega,h2⟩
theorem zdr (N:Nat) (hN:N≤1000) (l:List Int) (step:Int→List Int) (f:FuncId) (first cap:List PV) (hl:∀ x∈l,0≤x∧x < N) (hll:l.length≤10000)
  (hs:∀ x:Int,0≤x→x < (N:Int)→ACall Tryz.prog f (first++[pi x]++cap) (ints (step x))) (hst:∀ x:Int,0≤x→x < (N:Int)→(step x).length≤10000∧∀ y∈step x,0≤y∧y < N) :
  ACall Tryz.prog 166 [ints l,.fn (.func f) first cap] (ints (sortL (Xj N step l))):=by
 refine zh zf Tryz.func166 rfl (by kernel_rfl) Tryz.ntmps166 (by simp) _ rfl (fun hw gB hgB=>?_)
 have hm0:NInv N (l.foldl Yi []):=NInv.fold l ⟨by simp,by simp⟩ hl
 repeat' (first|refine znN (kt:=3) (et:=3) 2 rfl rfl rfl rfl rfl ?_|refine zf6 1 3 3 1 (by decide) rfl rfl ?_|refine sA ?_|refine sC (fun _=>?_) (fun _=>?_)|fail)
 refine zsx [(0,.pv (ints l)),(1,.pv (.fn (.func f) first cap)),(5,.box 0 0),(6,.box 1 0),(7,.fn (.func 196) [] [.box 0 0,.box 1 0]),(11,.fn (.func 196) [] [.box 0 0,.box 1 0]),(12,.pv (ints l))] (hR []) (tS)
  ⟨by repeat (first|exact zK|refine zT rfl ?_),rfl⟩ ?_
 refine zlq [(1,.pv (.fn (.func f) first cap)),(5,.box 0 0),(6,.box 1 0),(7,.fn (.func 196) [] [.box 0 0,.box 1 0])] (hR (l.foldl Yi [])) 100 hgB rfl rfl rfl rfl (tS) rfl rfl rfl rfl rfl rfl
  (fun us=>zlv l [] _ (zk5 rfl (fun _=>rfl)) (fun x hx=>by have:=hl x hx;omega) (by simp;omega)) ?_
 repeat' (first|refine sA ?_|refine sC (fun _=>?_) (fun _=>?_)|fail)
 refine zJ (fun x:Nat × List Int=>[(1,.pv (.fn (.func f) first cap)),(5,.box 0 0),(6,.box 1 0),(7,.fn (.func 196) [] [.box 0 0,.box 1 0]),(8,.pv (pi x.1))]) (fun x=>hR x.2)
  (fun x=>x.1≤x.2.length∧NInv N x.2∧Xe step (N + 1 - x.1) x.1 x.2=Xj N step l) (fun x=>N + 1 - x.1) (0,l.foldl Yi []) ⟨by simp,hm0,rfl⟩ (tS) ⟨by repeat (first|exact zK|refine zT rfl ?_),rfl⟩ ?_
 rintro ⟨i,met⟩ ⟨hi,hmi,hr⟩
 simp only at hi hmi hr
 have hml:=hmi.len
 rw [show N + 1 - i=(N - i) + 1 by omega,Xe] at hr
 by_cases hlt:i < met.length
 ·have heU:=qB hlt
  rw [List.getElem?_eq_getElem hlt] at hr
  simp only at hr
  obtain ⟨hu0,hu1⟩:=hmi.2 _ (List.getElem_mem hlt)
  obtain ⟨hs1,hs2⟩:=hst _ hu0 hu1
  have c1:=hs _ hu0 hu1
  repeat' (first|(refine shC ?_;first|refine qV (c1) ?_)|(refine shX ?_;first|refine qX heU ?_)|refine sK ?_|refine sC (fun _=>?_) (fun _=>?_)|fail)
  refine zlq [(1,.pv (.fn (.func f) first cap)),(5,.box 0 0),(6,.box 1 0),(7,.fn (.func 196) [] [.box 0 0,.box 1 0]),(8,.pv (pi i))] (hR ((step met[i]).foldl Yi met)) 100 hgB rfl rfl rfl rfl (tS) rfl rfl rfl rfl rfl rfl
   (fun us=>zlv _ met _ (zk5 rfl (fun _=>rfl)) (fun x hx=>by have:=hs2 x hx;omega) (by omega)) ?_
  repeat' (first|refine sK ?_|refine sC (fun _=>?_) (fun _=>?_)|fail)
  have hmi2:=NInv.fold _ hmi hs2
  refine ⟨(i + 1,(step met[i]).foldl Yi met),⟨?_,hmi2,?_⟩,by simp only;omega,tS,⟨by repeat (first|exact zK|refine zT rfl ?_),rfl⟩⟩
  ·have:=zdj (step met[i]) met
   simp only;omega
  ·simp only
   rw [show N + 1 - (i + 1)=N - i by omega];exact hr
 ·rw [List.getElem?_eq_none (by omega)] at hr
  simp only at hr
  subst hr
  repeat' (first|refine zsO [(6,.box 1 0)] hgB rfl rfl ⟨Tryz.f197,Tryz.func197,rfl,by kernel_rfl⟩ rfl rfl (by simp only;omega) (tS) rfl rfl rfl rfl ?_|refine sK ?_|refine sC (fun _=>?_) (fun _=>?_)|fail)
  exact retq rfl rfl
def tyB (a b:Ty):Bool:=a.kind==b.kind&&(a.index==b.index&&(a.dims==b.dims&&(a.ref==b.ref&&true)))
end Go.Cg
