/- A part of the walks by abstract values: no statement of its own. -/
import Derived.JoinedOf
import Derived.Test.YtdlokcmodgccnaaGreatF5
import Derived.Test.YtdlokcmodgccnaaGreatF6
import Derived.Shelf.RegionOpenPlain
import Derived.WalkKit
import Derived.Lib.Walk
import Derived.Lib.SliceRun
import Derived.Lib.AppendZerosOnto
import Derived.Test.YtdlokcmodgccnaaGreatF9
import Derived.Test.YtdlokcmodgccnaaGreatF16
set_option linter.unusedVariables false
set_option linter.unusedSimpArgs false
namespace Go.Cg
open Go
theorem zp8 {P:Program} {f:FuncId} {fn:Func} {s:ChangeSpec} {c:OpenClaim}
  (a1:laidOutB P=true) (a2:mapsRowed P=true) (a3:P.stopsHeard=true) (a4:P.mayEnter=true) (a5:P.liftsFinal=c.lifted) (a6:P.make=some c.make)
  (b1:P.inPlace f=c.inPlace) (b2:P.unfollowed f=c.unfollowed) (b3:P.recurses f=c.recurses) (b4:P.varsNamed f=c.named)
  (rest:(c.wf (OpenSpec.ofChange s)&&fn.params.all (P.readableRec ·)&&namedTie P c.named s.vars &&
   (c.stops==[])&&(P.stops==[])&&(c.knobs==[])&&(P.stopKnobs==[]) &&
   (c.maps==(fn.params.toList++s.plain.varTypes P).any (P.mapsRec ·))&&(c.ifaces==(fn.params.toList++s.plain.varTypes P).any (P.ifacesRec ·))&&(c.mapsOut==P.mapsAmong fn.resultTypes.toList) &&
   (c.loops==(fn.params.toList++s.plain.varTypes P).any (P.loopsFrom ·))&&(c.wideKeys==(fn.params.toList++s.plain.varTypes P++fn.resultTypes.toList).any (P.wideKeysFrom ·)) &&
   s.vars.all (P.varReadable ·)&&fn.resultTypes.all (fun t=>P.readableRec t&&decide (t < P.types.size))&&(c.ifacesOut==fn.resultTypes.toList.any (P.ifacesRec ·))&&(c.loopsOut==fn.resultTypes.toList.any (P.loopsFrom ·))&&(c.plainKeys==P.plainKeys)&&c.shortTexts.isNone&&(c.kinds==(if c.domain.isEmpty then [] else fn.params.toList.map fun t=>match P.underlying t with|some (.int k)=>some k|_=>none))&&(c.pinned==c.pinnedBy) &&
   (c.veiled==(fn.params.toList++s.plain.varTypes P++fn.resultTypes.toList).any (P.veiledRec ·))&&c.veiledFits P fn.params.toList (fn.params.toList++s.plain.varTypes P++fn.resultTypes.toList))=true):joinedFacts P f fn s c=true:=by
 unfold joinedFacts
 rw [a1,a2,a3,a4,a5,a6,b1,b2,b3,b4]
 simp only [Bool.and_eq_true,beq_self_eq_true,and_true,true_and] at rest ⊢
 exact rest
end Go.Cg
set_option linter.unusedVariables false
set_option linter.unusedSimpArgs false
namespace Go.Cg
open Go.Proofs Go.Shelf Go.RowKit Go.Lib
set_option maxHeartbeats 20000000
theorem zug:∃ i,Tryz.prog.info? 42=some i∧i.zero=some (.agg #[.int .i64 0,.int .i64 0,.int .i64 0,.bool false])∧i.size=4∧i.bytes=32:=by
 obtain ⟨i,h1,h2,h3,h4,_⟩:=Zy (t:=42) zh rfl
 exact ⟨i,h1,h4,h2,h3⟩
def zTy:Value:=.agg #[.int .i64 0,.int .i64 0,.int .i64 0,.bool false]
set_option maxRecDepth 100000 in
theorem zr8 (n:Nat) (hn0:0 < n) (hn:n≤1000) (w:World) :
  Calls Tryz.prog 124 #[.slice none 0 0,.int .i64 n] w fun e w'=>e=.returned (.slice (some ⟨w.heap.size,0,none⟩) 0 (grownCap w n 0 42)) ∧
   w'=w.drew.alloc (.cells (Builtin.zeroCells zTy.cells n++Builtin.zeroCells zTy.cells (grownCap w n 0 42 - n)) 42):=by
 obtain ⟨i0,hi0,hz0,hs0,hb0⟩:=zug
 have u40:=run_underlying Tryz.underlying40
 have u3:=run_underlying Tryz.underlying3
 have h1:¬ ((n:Int) < 0):=by omega
 have h2:wrap64 ((0:Int) - 0)=0:=by unfold wrap64;omega
 have h3:wrap64 ((n:Int) - 0)=(n:Int):=by unfold wrap64;omega
 have h4:(n:Int) > 0:=by omega
 have z28:∀ w,(Go.sizeOf 42).run Tryz.prog w=.ok i0.size w:=fun w=>by simp [Go.sizeOf,typeInfo,hi0]
 have hold:(Builtin.firstCells i0.size 0 (.slice none 0 0)).run Tryz.prog w.drew=.ok #[] w.drew:=run_firstCells_none w.drew i0.size 0 0 0
 have hrz:∀ ty,(Builtin.append_ #[40,3] ty #[.slice none 0 0,.int .i64 (n:Int)]).run Tryz.prog w =
   .ok (.slice (some ⟨w.heap.size,0,none⟩) n (grownCap w n 0 42)) (w.drew.alloc (.cells (Builtin.zeroCells zTy.cells n++Builtin.zeroCells zTy.cells (grownCap w n 0 42 - n)) 42)):=fun ty=>by
  have h:=Lib.run_append_grow_zeros w 40 3 ty 42 i0 zTy .i64 .i64 Tryz.underlying40 Tryz.underlying3 hi0 hz0 none 0 0 [] hold n hn0 (by omega) (by omega) (by omega)
   (by rw [hb0];omega)
   (by rw [Nat.zero_add];exact growslice_fits hn0 (by rw [hb0];omega))
  rw [Nat.zero_add] at h
  simpa using h
 have hGn:n≤grownCap w n 0 42:=grownCap_ge w _ _ _
 obtain ⟨G,hG⟩:∃ G,G=grownCap w n 0 42:=⟨_,rfl⟩
 rw [←hG] at hrz hGn ⊢
 have hG63:G≤9223372036854775807:=by
  have:=grownCap_le_maxLen w n 0 42 (by unfold maxLen;omega)
  rw [←hG] at this
  unfold maxLen at this
  omega
 clear hold hG
 go_enter Tryz.func124,Tryz.ntmps124
 go_wp2_with (at_builtin;refine Lib.wpList_append_run _ rfl _ _ _ _ rfl _ _ rfl rfl _ _ (hrz _) ?_)
 all_goals (go_ret;exact ⟨rfl,rfl⟩)
theorem zqJ (w:World):Calls Tryz.prog 124 #[.slice none 0 0,.int .i64 0] w fun e w'=>e=.returned (.slice none 0 0)∧w'=w:=by
 have u40:=run_underlying Tryz.underlying40
 have u3:=run_underlying Tryz.underlying3
 go_enter Tryz.func124,Tryz.ntmps124
 go_wp2
 go_ret
 exact ⟨rfl,rfl⟩
theorem zjA (m:Int) (h0:0≤m) (h1:m≤1000):ACallR Tryz.prog 124 [.base (.slice none 0 0),pi m] 42 4 []:=by
 refine ⟨⟨_,Tryz.func124,rfl,by kernel_rfl⟩,fun K w vs hl hv=>?_⟩
 obtain ⟨v0,vs0,rfl,r0,hv0⟩:=hv.cons_inv
 obtain ⟨v1,vs1,rfl,r1,hv1⟩:=hv0.cons_inv
 obtain rfl:=hv1.nil_inv
 cases r0
 cases r1
 obtain ⟨n,rfl⟩:=Int.eq_ofNat_of_zero_le h0
 by_cases hn:n=0
 ·subst hn
  refine (zqJ w).mono ?_
  rintro e w' ⟨rfl,rfl⟩
  exact ⟨_,K,[],rfl,.refl hl,World.ownsRow_nil _ _ _ _,fun i e h=>by simp at h,by simp [Value.ownBlock]⟩
 ·refine (zr8 n (by omega) (by omega) w).mono ?_
  rintro e w' ⟨rfl,rfl⟩
  have hev:Evo K K w (w.drew.alloc (.cells (Builtin.zeroCells zTy.cells n++Builtin.zeroCells zTy.cells (grownCap w n 0 42 - n)) 42)) :=
   (Evo.refl hl).drew.trans ⟨(Below.refl _ _).alloc (Nat.le_refl _) _,fun _ _ h=>h,fun _ _ h=>.inl h,fun b o h=>by have:=hl b o h;simp;omega⟩
  have hG:=grownCap_ge w n 0 42
  refine ⟨_,K,[],rfl,hev,?_,fun i e h=>by simp at h,?_⟩
  ·refine ⟨rfl,.inr ⟨w.heap.size,grownCap w n 0 42,_,rfl,Nat.le_refl _,by simpa using heap_alloc_new w.drew _,by simp,grownCap_le_maxLen w n 0 42 (by unfold maxLen;omega),?_,rfl⟩⟩
   simp [size_zeroCells,zTy,Value.cells]
   omega
  ·intro b hb o
   simp [Value.ownBlock] at hb
   subst hb
   refine ⟨fun h=>?_,fun h=>by simp at h⟩
   have:=hl _ _ h
   omega
end Go.Cg
namespace Go.Cg
open Go.RowKit
theorem zfh {P:Program} {tb:Tab} {g:Base} {H:HEnv} {env:Env} {o:Oper} {ty e:TypeId} {x y:Operand} {sz:Nat} {es:List PV} {full full':Bool} (htb:yB P tb) (hop:o.op=.call { callee:=.builtin .append,args:=#[x,y],argTypes:=#[ty,ty] }) (hk:tb.k ty=.sl e)
  (hx:env.pv H x=some (.slc sz es full)) (hy:env.pv H y=some (.slc sz [] full')) (hke:tb.known e=true):QStep P g H o env (.pv (.slc sz es full)):=by
 refine ⟨fun K ρ a w hf hv=>?_⟩
 have hyr:=yG hf (hv y (by rw [hop];simp [Op.operands,Call.operands])) hy
 have hxr:=yG hf (hv x (by rw [hop];simp [Op.operands,Call.operands])) hx
 obtain ⟨news,n1,n2,n3,n4,n5⟩:=WQ hyr
 obtain ⟨us,m1,m2,m3,m4,m5⟩:=WQ hxr
 have hnews:news=[]:=List.eq_nil_of_length_eq_zero (by simpa using n1)
 have hko:tb.k e≠.oth:=by intro h;simp [Tab.known,h] at hke
 have hs:=run_sizeOf (P:=P) htb hko
 have hrun:(Builtin.append_ #[ty,ty] o.type #[a.eval x,a.eval y]).run P w=.ok (a.eval x) w:=by
  rcases n2 with ⟨hy0,_⟩|⟨ad',c',hy1,hy2,_,hxc⟩
  ·rcases m2 with ⟨e1,_⟩|⟨ad1,c1,e1,_,_,hle⟩
   ·rw [e1,hy0];simp [Builtin.append_,run_underlying (qj htb hk),hs,Builtin.lenOf,Builtin.firstCells]
   ·rw [e1,hy0];simp [Builtin.append_,run_underlying (qj htb hk),hs,Builtin.lenOf,Builtin.firstCells,hle,storeCells]
  ·rcases m2 with ⟨e1,_⟩|⟨ad1,c1,e1,_,_,hle⟩
   ·rw [e1,hy1];simp [Builtin.append_,run_underlying (qj htb hk),hs,Builtin.lenOf,Builtin.firstCells,loadCells,loadCellsFrom]
   ·rw [e1,hy1];simp [Builtin.append_,run_underlying (qj htb hk),hs,Builtin.lenOf,Builtin.firstCells,hle,storeCells,loadCells,loadCellsFrom]
 have:(execOp a.eval o).run P w=.ok (.value (a.eval x)) w:=by
  simp [execOp,hop,resolve,invoke,builtin,hrun]
 rw [this]
 exact ZB hf (.pv _ _ hxr)
end Go.Cg
namespace Go.Cg
open Go.Proofs
set_option maxHeartbeats 20000000
theorem zbo (l:List Ty) (hb:l.length≤1000):ACall Tryz.prog 73 [tys l] (tys l):=by
 refine zf zh Tryz.func73 rfl (by kernel_rfl) Tryz.ntmps73 (by simp) _ rfl (fun hw gB hgB=>?_)
 repeat' (first|refine Xx zh rfl rfl rfl rfl rfl rfl rfl (fun bb hbb=>?_)|refine zu rfl (Xl zh rfl rfl rfl rfl rfl) rfl rfl ?_|(refine zI ?_;first|refine zu rfl (XB zh rfl rfl (.inl rfl) rfl rfl (by show _ * 32≤_;simp;omega) (by simp;omega)) rfl rfl ?_)|refine sA ?_|refine sC (fun _=>?_) (fun _=>?_)|fail)
 ·rename_i h
  have:l=[]:=by have:=hbb h;simpa using this
  subst this
  exact zcA (t:=2) (ps:=[tys []]) rfl (Xb 4 false) rfl rfl
 ·exact retq rfl rfl
theorem zfQ (l:List Ty) (k:Int) (h:k < 0∨(l.length:Int) < k):ACall Tryz.prog 237 [tys l,pi k] (.tup [.base (.slice none 0 0),.base (.slice none 0 0),pi 9]):=by
 refine zf zh Tryz.func237 rfl (by kernel_rfl) Tryz.ntmps237 (by simp) _ rfl (fun hw gB hgB=>?_)
 have hl:=zgS hw.1
 rcases h with h|h
 ·repeat' (first|refine sK ?_|refine sC (fun _=>?_) (fun _=>?_)|fail)
  exact retq rfl rfl
 ·by_cases h2:k < 0
  ·repeat' (first|refine sK ?_|refine sC (fun _=>?_) (fun _=>?_)|fail)
   exact retq rfl rfl
  ·repeat' (first|refine sK ?_|refine sC (fun _=>?_) (fun _=>?_)|fail)
   exact retq rfl rfl
theorem zsF (l:List Ty) (k:Int) (hb:l.length≤1000) (h:0≤k) (h2:k≤l.length):ACall Tryz.prog 237 [tys l,pi k] (.tup [tys (l.take (l.length - k.toNat)),tys (l.drop (l.length - k.toNat)),pi 0]):=by
 refine zf zh Tryz.func237 rfl (by kernel_rfl) Tryz.ntmps237 (by simp) _ rfl (fun hw gB hgB=>?_)
 have hl:=zgS hw.1
 have hm:IntKind.i64.wrap (((l.map yK).length:Int) - k)=((l.length - k.toNat:Nat):Int):=by
  rw [List.length_map,wrap_in (by omega) (by omega)];omega
 repeat' (first|refine AD.step _ _ _ _ _ rfl (Zc (xs:=l) (f:=yK) 0 (l.length - k.toNat) zh rfl rfl rfl rfl rfl rfl (congrArg some hm) (by omega) (by omega)) rfl rfl ?_|refine AD.step _ _ _ _ _ rfl (Zc (xs:=l) (f:=yK) (l.length - k.toNat) l.length zh rfl rfl rfl rfl rfl (congrArg some hm) (by simp [YT]) (by omega) (by omega)) rfl rfl ?_|(refine shC ?_;first|refine zu rfl (qw rfl rfl (zbo _ (by simp;omega))) rfl rfl ?_|refine AD.step _ _ _ _ _ rfl (qw rfl rfl (zbo _ (by simp;omega))) rfl rfl ?_)|refine sK ?_|refine sC (fun _=>?_) (fun _=>?_)|fail)
 exact retq rfl (by simp [zi])
set_option maxHeartbeats 20000000
def zdh (a b:List Ty):Nat→Int
 | 0=>0
 | 1=>a.length
 | _=>a.length + b.length
def znA (a b:List Ty):Nat→List Ty
 | 0=>[]
 | 1=>a
 | _=>a++b
theorem zfS (a b:List Ty) (ha:a.length≤200) (hb:b.length≤200):ACall Tryz.prog 83 [.slc 1 [tys a,tys b] true] (tys (a++b)):=by
 refine zf zh Tryz.func83 rfl (by kernel_rfl) Tryz.ntmps83 (by simp) _ rfl (fun hw gB hgB=>?_)
 repeat' (first|refine sK ?_|refine sC (fun _=>?_) (fun _=>?_)|fail)
 refine zo (fun k:Nat=>[(0,.pv (.slc 1 [tys a,tys b] true)),(9,.pv (.slc 1 [tys a,tys b] true)),(10,.pv (pi 2)),(11,.pv (pi k)),(3,.pv (pi (zdh a b k)))]) (fun _=>[]) (fun k=>k≤2) (fun k=>2 - k) 0 (by omega) (tS) tH ?_
 intro k hk
 have hk3:k=0∨k=1∨k=2:=by omega
 rcases hk3 with rfl|rfl|rfl
 ·repeat' (first|refine zu rfl (zdg zh rfl (by first|omega|(simp [zdh] <;> omega)) (by first|omega|(simp [zdh] <;> omega))) rfl rfl ?_|(refine shX ?_;first|refine zu rfl (zk zh rfl rfl rfl rfl rfl rfl (by decide) rfl) rfl rfl ?_|refine AD.step _ _ _ _ _ rfl (zk zh rfl rfl rfl rfl rfl rfl (by decide) rfl) rfl rfl ?_)|refine sK ?_|refine sC (fun _=>?_) (fun _=>?_)|fail)
  exact ⟨1,by omega,tD,by repeat (first|exact zT|refine zM rfl ?_|(refine qg rfl ?_ ?_;· (first|(simp [zdh];done)|(simp [zdh];omega)|omega))),tH⟩
 ·repeat' (first|refine zu rfl (zdg zh rfl (by first|omega|(simp [zdh] <;> omega)) (by first|omega|(simp [zdh] <;> omega))) rfl rfl ?_|(refine shX ?_;first|refine zu rfl (zk zh rfl rfl rfl rfl rfl rfl (by decide) rfl) rfl rfl ?_|refine AD.step _ _ _ _ _ rfl (zk zh rfl rfl rfl rfl rfl rfl (by decide) rfl) rfl rfl ?_)|refine sK ?_|refine sC (fun _=>?_) (fun _=>?_)|fail)
  exact ⟨2,by omega,tD,by repeat (first|exact zT|refine zM rfl ?_|(refine qg rfl ?_ ?_;· (first|(simp [zdh];done)|(simp [zdh];omega)|omega))),tH⟩
 ·repeat' (first|(refine zL ?_;first|refine zcd 0 rfl rfl rfl (zjA _ (by simp [zdh];omega) (by simp [zdh];omega)) (by decide) rfl rfl rfl ?_)|refine sK ?_|refine sC (fun _=>?_) (fun _=>?_)|fail)
  refine zo (fun k:Nat=>[(6,.own 0),(25,.pv (.slc 1 [tys a,tys b] true)),(26,.pv (pi 2)),(27,.pv (pi k))]) (fun k=>[(0,.row 42 4 ((znA a b k).map yK))]) (fun k=>k≤2) (fun k=>2 - k) 0 (by omega) (tS) tH ?_
  intro k hk
  have hk3:k=0∨k=1∨k=2:=by omega
  rcases hk3 with rfl|rfl|rfl
  ·repeat' (first|refine zu rfl (zdg zh rfl (by first|omega|(simp [zdh] <;> omega)) (by first|omega|(simp [zdh] <;> omega))) rfl rfl ?_|(refine shX ?_;first|refine zu rfl (zk zh rfl rfl rfl rfl rfl rfl (by decide) rfl) rfl rfl ?_|refine AD.step _ _ _ _ _ rfl (zk zh rfl rfl rfl rfl rfl rfl (by decide) rfl) rfl rfl ?_)|(refine zI ?_;first|refine yc zh rfl rfl rfl rfl rfl rfl rfl (by show _ * 32≤_;simp [znA];omega) (by simp [znA];omega) rfl rfl ?_)|refine sK ?_|refine sC (fun _=>?_) (fun _=>?_)|fail)
   exact ⟨1,by omega,tD,by repeat (first|exact zT|refine zM rfl ?_|(refine qg rfl ?_ ?_;· omega)),⟨zn rfl zl,rfl⟩⟩
  ·repeat' (first|refine zu rfl (zdg zh rfl (by first|omega|(simp [zdh] <;> omega)) (by first|omega|(simp [zdh] <;> omega))) rfl rfl ?_|(refine shX ?_;first|refine zu rfl (zk zh rfl rfl rfl rfl rfl rfl (by decide) rfl) rfl rfl ?_|refine AD.step _ _ _ _ _ rfl (zk zh rfl rfl rfl rfl rfl rfl (by decide) rfl) rfl rfl ?_)|(refine zI ?_;first|refine yc zh rfl rfl rfl rfl rfl rfl rfl (by show _ * 32≤_;simp [znA];omega) (by simp [znA];omega) rfl rfl ?_)|refine sK ?_|refine sC (fun _=>?_) (fun _=>?_)|fail)
   exact ⟨2,by omega,tD,by repeat (first|exact zT|refine zM rfl ?_|(refine qg rfl ?_ ?_;· omega)),⟨zn (by show some (HE.row 42 4 (_++_))=_;simp [znA]) zl,rfl⟩⟩
  ·repeat' (first|refine sK ?_|refine sC (fun _=>?_) (fun _=>?_)|fail)
   exact retq rfl (by simp [zi,znA,tys])
theorem zpE (a b:List Ty) (m:Int) (ha:a.length≤200) (hb:b.length≤200) (h:(a.length + b.length:Int)≤m):ACall Tryz.prog 236 [tys a,pi m,tys b] (.tup [tys (a++b),pi 0]):=by
 refine zf zh Tryz.func236 rfl (by kernel_rfl) Tryz.ntmps236 (by simp) _ rfl (fun hw gB hgB=>?_)
 have hl:¬ (m < (((a++b).map yK).length:Int)):=by simp;omega
 repeat' (first|(refine shC ?_;first|refine qC (zfS a b ha hb) ?_)|refine sK ?_|refine sC (fun _=>?_) (fun _=>?_)|fail)
 all_goals exact retq rfl (by simp [zi])
theorem zkf (a b:List Ty) (m:Int) (ha:a.length≤200) (hb:b.length≤200) (h:m < (a.length + b.length:Int)):ACall Tryz.prog 236 [tys a,pi m,tys b] (.tup [.base (.slice none 0 0),pi 9]):=by
 refine zf zh Tryz.func236 rfl (by kernel_rfl) Tryz.ntmps236 (by simp) _ rfl (fun hw gB hgB=>?_)
 have hl:m < (((a++b).map yK).length:Int):=by simp;omega
 repeat' (first|(refine shC ?_;first|refine qC (zfS a b ha hb) ?_)|refine sK ?_|refine sC (fun _=>?_) (fun _=>?_)|fail)
 all_goals exact retq rfl (by simp [zi])
end Go.Cg
