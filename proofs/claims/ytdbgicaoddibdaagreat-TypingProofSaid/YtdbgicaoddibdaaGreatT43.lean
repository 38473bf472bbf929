/- A part of the walks by abstract values: no statement of its own. -/
import Derived.Test.YtdbgicaoddibdaaGreatT20
import Derived.Test.YtdbgicaoddibdaaGreatT41
import Derived.Test.YtdbgicaoddibdaaGreatT33
import Derived.Test.YtdbgicaoddibdaaGreatT24
import Derived.Test.YtdbgicaoddibdaaGreatT22
import Derived.Test.YtdbgicaoddibdaaGreatT15
import Derived.Test.YtdbgicaoddibdaaGreatT16
set_option linter.unusedVariables false
set_option linter.unusedSimpArgs false
namespace Go.Cg
open Go.RowKit
def AWU (P:Program) (n:Nat) (g:Base) (c:Code) (QQ:QC):Nat→Env→HEnv→Prop
 | 0,_,_=>False
 | m + 1,env,H=>AW P n g c env H (fun e env' H'=>match e with|.normal=>AWU P n g c QQ m env' H'|e=>QQ e env' H')
section
variable {P:Program} {n:Nat} {g:Base} {H:HEnv} {env:Env} {c:Code} {QQ:QC} {o:Oper}
structure AWUs (P:Program) (n:Nat) (g:Base) (c:Code) (QQ:QC) (m:Nat) (env:Env) (H:HEnv):Prop where
 h:AWU P n g c QQ m env H
theorem zcV {m:Nat} (h:AW P n g c env H (fun e env' H'=>match e with|.normal=>AWUs P n g c QQ m env' H'|e=>QQ e env' H')):AWUs P n g c QQ (m + 1) env H :=
 ⟨⟨fun a w hi r d=>wpIn_mono (h.go a w hi r d) fun e a' w' ⟨env',H',h1,h2⟩=>⟨env',H',h1,by cases e <;> first|exact h2.h|exact h2⟩⟩⟩
theorem XL (m:Nat) (h:AWUs P n g c QQ m env H):AW P n g (.loop c) env H QQ:=by
 refine ⟨fun a w hi r d b k cs hro hb hr=>?_⟩;have key:∀ m env H,AWU P n g c QQ m env H→∀ a w,Inv n g env H a w →
   ∃ e a' w',(∃ env' H',Inv n g env' H' a' w'∧QQ e env' H')∧ArrivesIn (Machine.fenced P (zaz r)) P (lone (b.atR a (.code c::.inLoop c::k)) cs w) b k cs e a' w':=by
  intro m;induction m with
  | zero=>intro env H h;exact h.elim
  | succ m ih =>
   intro env H h a w hi;obtain ⟨e,a₁,w₁,⟨env',H',h1,h2⟩,harr⟩:=AW.go h a w hi r d b (.inLoop c::k) cs hro hb hr;cases e with
   | normal =>
    obtain ⟨e₂,a₂,w₂,hq₂,harr₂⟩:=ih env' H' h2 a₁ w₁ h1;exact ⟨e₂,a₂,w₂,hq₂,.of_steps (StepsIn.trans harr (.one (fenced_calm hb hr rfl) stepR_inLoop)) harr₂⟩
   | exit id=>exact ⟨_,a₁,w₁,⟨env',H',h1,h2⟩,.pass (x:=.inLoop c) rfl (fun _ _=>.inl zwy63) harr⟩
   | goto l=>exact ⟨_,a₁,w₁,⟨env',H',h1,h2⟩,.pass (x:=.inLoop c) rfl (fun _ _=>.inl zwy63) harr⟩
   | ret=>exact ⟨_,a₁,w₁,⟨env',H',h1,h2⟩,.pass (x:=.inLoop c) rfl (fun _ _=>.inl zwy63) harr⟩
   | panic ch=>exact ⟨_,a₁,w₁,⟨env',H',h1,h2⟩,.pass (x:=.inLoop c) rfl (fun _ _=>.inl zwy63) harr⟩
   | outgrown=>exact ⟨_,a₁,w₁,⟨env',H',h1,h2⟩,.pass (x:=.inLoop c) rfl (fun _ _=>.inl zwy63) harr⟩
 obtain ⟨e,a',w',hq,harr⟩:=key _ _ _ h.h a w hi;exact ⟨e,a',w',hq,.of_steps (.one (fenced_calm hb hr rfl) stepR_loop) harr⟩
end
end Go.Cg
namespace Go.Cg
open Go.Proofs
set_option maxHeartbeats 20000000
def wrV (x:Int × Int × Int):Value:=.agg [.int .i64 x.1,.int .i64 x.2.1,.int .i64 x.2.2].toArray
theorem zoW (x:Int × Int × Int) {K:KK} {w:World}:PRel K w (QN x) (wrV x) :=
 .agg _ _ rfl (fun v hv=>by simp at hv;rcases hv with rfl|rfl|rfl <;> rfl) (fun k c v hc hv=>by
  match k with
  | 0=>simp at hc hv;subst hc hv;exact .base _ rfl
  | 1=>simp at hc hv;subst hc hv;exact .base _ rfl
  | 2=>simp at hc hv;subst hc hv;exact .base _ rfl
  | k + 3=>simp at hc)
abbrev HQ (l:List (Int × Int × Int)):HEnv:=(10,.cell (.own 11))::HR l
abbrev H0q:HEnv:=[(10,.cell (.pv (.slc 3 [] true)))]
abbrev qP (u:Value):HEnv:=[(12,.pin (.box 10 0) u)]
abbrev ifW (x:Int × Int × Int):AV:=.pv (.base (.iface 67 (wrV x)))
abbrev ifQ (u:Value):AV:=.pv (.base (.iface 61 u))
theorem zwk80 {G:Prop} (h:G:=by repeat' (first|(refine yC ?_;first|refine zcM 11 zf rfl rfl rfl (.inl rfl) rfl (Nat.lt_succ_self 0) rfl (show (0 + 1) * 24≤_ by omega) (show 0 + 1≤_ by omega) rfl rfl rfl ?_)|refine sK ?_|refine sC (fun _=>?_) (fun _=>?_)|exact ⟨.inl rfl,.inl ⟨[],rfl,rfl,⟨by repeat (first|exact zA|refine aB ?_),rfl⟩⟩⟩|fail)):G:=h
theorem zoa (x:Int × Int × Int) (u:Value):ACallM Tryz.prog 299 [.box 10 0,ifW x] (H0q++qP u) (.pv (.tup [])) (HQ [x]++qP u):=by
 refine yB zf Tryz.func299 rfl zws Tryz.ntmps299 zwy63 _ rfl (fun gB hw1=>?_)
 repeat' (first|refine zy rfl (zim (p:=QN x) rfl Tryz.underlying67 trivial rfl (fun _ _=>zoW x)) rfl rfl ?_|refine zeA (id:=2) rfl ?_|refine sK ?_|refine sC (fun _=>?_) (fun _=>?_)|fail)
 refine zbu 0 6 [0,1,2,3,4,5,6,7,8] [0,1,2,3,4,5,6,7,8] [1,2,3,4,5,6,0,7,8] [6,0,1,2,3,4,5,7,8] rfl zws zws (zfs zws ?_) (zfs zws ?_)
 ·refine zft 9 6 rfl zws zws zws zws ?_;exact zwk80
 ·refine zft 9 5 rfl zws zws zws zws ?_;exact zwk80
theorem zwk81 {G:Prop} (h:G:=by repeat' (first|(refine yC ?_;first|refine XI zf rfl rfl rfl rfl rfl rfl rfl (show (1 + 1) * 24≤_ by omega) (show 1 + 1≤_ by omega) rfl rfl ?_)|refine sK ?_|refine sC (fun _=>?_) (fun _=>?_)|exact ⟨.inl rfl,.inl ⟨[],rfl,rfl,⟨by repeat (first|exact zA|refine aB ?_),rfl⟩⟩⟩|fail)):G:=h
theorem zmx (y x:Int × Int × Int) (u:Value):ACallM Tryz.prog 299 [.box 10 0,ifW x] (HQ [y]++qP u) (.pv (.tup [])) (HQ [y,x]++qP u):=by
 refine yB zf Tryz.func299 rfl zws Tryz.ntmps299 zwy63 _ rfl (fun gB hw1=>?_)
 repeat' (first|refine zy rfl (zim (p:=QN x) rfl Tryz.underlying67 trivial rfl (fun _ _=>zoW x)) rfl rfl ?_|refine zeA (id:=2) rfl ?_|refine sK ?_|refine sC (fun _=>?_) (fun _=>?_)|fail)
 refine zbu 0 6 [0,1,2,3,4,5,6,7,8] [0,1,2,3,4,5,6,7,8] [1,2,3,4,5,6,0,7,8] [6,0,1,2,3,4,5,7,8] rfl zws zws (zfs zws ?_) (zfs zws ?_)
 ·refine zft 9 6 rfl zws zws zws zws ?_;exact zwk81
 ·refine zft 9 5 rfl zws zws zws zws ?_;exact zwk81
set_option maxHeartbeats 20000000
theorem zjF {P:Prop} (h:P:=by repeat (first|exact zA|refine aB ?_)):P:=h
abbrev rQ (u:Value):HEnv:=[(10,.cell (.own 11)),(12,.pin (.box 10 0) u)]
theorem zfB {o:Option Method} {p:Array FieldStep} {q:Option (FuncId × Bool)} (h:o.map (fun m=>(m.path,m.func))=some (p,q)):∃ m,o=some m∧m.path=p∧m.func=q:=by
 cases o with
 | none=>cases h
 | some m=>simp only [Option.map_some,Option.some.injEq,Prod.mk.injEq] at h;exact ⟨m,rfl,h⟩
theorem zxD:(Tryz.t61.methods.find? (·.name == "Len")).map (fun m=>(m.path,m.func))=some (#[],some (19,false)):=by kernel_rfl
theorem zlK {g:Base} {H:HEnv} {u:Value} {es:List PV} (hi:H.get 12=some (.pin (.box 10 0) u)) (hc:H.get 10=some (.cell (.own 11))) (hr:H.get 11=some (.mrow 67 3 es)):Recv Tryz.prog g H 61 u "Len" 19 (.own 11):=by
 obtain ⟨m,h1,h2,h3⟩:=zfB zxD;exact zta zf Tryz.typeInfo61 Tryz.runUnderlying61 h1 h2 h3 hi hc (by simp only [Qk,hr];rfl)
theorem zxz:(Tryz.t61.methods.find? (·.name == "Less")).map (fun m=>(m.path,m.func))=some (#[],some (297,false)):=by kernel_rfl
theorem zut {g:Base} {H:HEnv} {u:Value} {es:List PV} (hi:H.get 12=some (.pin (.box 10 0) u)) (hc:H.get 10=some (.cell (.own 11))) (hr:H.get 11=some (.mrow 67 3 es)):Recv Tryz.prog g H 61 u "Less" 297 (.own 11):=by
 obtain ⟨m,h1,h2,h3⟩:=zfB zxz;exact zta zf Tryz.typeInfo61 Tryz.runUnderlying61 h1 h2 h3 hi hc (by simp only [Qk,hr];rfl)
theorem zxl:(Tryz.t61.methods.find? (·.name == "Swap")).map (fun m=>(m.path,m.func))=some (#[],some (300,false)):=by kernel_rfl
theorem zok {g:Base} {H:HEnv} {u:Value} {es:List PV} (hi:H.get 12=some (.pin (.box 10 0) u)) (hc:H.get 10=some (.cell (.own 11))) (hr:H.get 11=some (.mrow 67 3 es)):Recv Tryz.prog g H 61 u "Swap" 300 (.own 11):=by
 obtain ⟨m,h1,h2,h3⟩:=zfB zxl;exact zta zf Tryz.typeInfo61 Tryz.runUnderlying61 h1 h2 h3 hi hc (by simp only [Qk,hr];rfl)
theorem zxp:(Tryz.t61.methods.find? (·.name == "Push")).map (fun m=>(m.path,m.func))=some (#[],some (299,true)):=by kernel_rfl
theorem zmU {g:Base} {H:HEnv} {u:Value} (hi:H.get 12=some (.pin (.box 10 0) u)):Recv Tryz.prog g H 61 u "Push" 299 (.box 10 0):=by
 obtain ⟨m,h1,h2,h3⟩:=zfB zxp;exact zwc Tryz.typeInfo61 Tryz.runUnderlying61 h1 h2 h3 hi
theorem zxO:(Tryz.t61.methods.find? (·.name == "Pop")).map (fun m=>(m.path,m.func))=some (#[],some (298,true)):=by kernel_rfl
theorem zv6 {g:Base} {H:HEnv} {u:Value} (hi:H.get 12=some (.pin (.box 10 0) u)):Recv Tryz.prog g H 61 u "Pop" 298 (.box 10 0):=by
 obtain ⟨m,h1,h2,h3⟩:=zfB zxO;exact zwc Tryz.typeInfo61 Tryz.runUnderlying61 h1 h2 h3 hi
theorem zsv (x:Int × Int × Int) (u:Value):ACallM Tryz.prog 40 [ifQ u,.pv (pi 0)] (HQ [x]++qP u) (.pv (.tup [])) (HQ [x]++qP u):=by
 refine yB zf Tryz.func40 rfl zws Tryz.ntmps40 zwy63 _ rfl (fun gB hw1=>?_)
 repeat' (first|refine XL 1 ?_|refine zcV ?_|refine sK ?_|refine sC (fun _=>?_) (fun _=>?_)|fail)
 exact ⟨.inl rfl,.inl ⟨[],rfl,rfl,⟨by repeat (first|exact zA|refine aB ?_),rfl⟩⟩⟩
theorem zr6 (y x:Int × Int × Int) (u:Value) (h:wlt x y=true):ACallM Tryz.prog 40 [ifQ u,.pv (pi 1)] (HQ [y,x]++qP u) (.pv (.tup [])) (HQ [x,y]++qP u):=by
 have c1:=fun us=>zow [y,x] 1 0 zwy63 zwy63 us
 have c2:=fun us=>zia [y,x] 0 1 zwy63 zwy63 us
 simp only [List.getElem_cons_zero,List.getElem_cons_succ,List.set_cons_zero,List.set_cons_succ] at c1 c2;rw [h] at c1;refine yB zf Tryz.func40 rfl zws Tryz.ntmps40 zwy63 _ rfl (fun gB hw1=>?_)
 repeat' (first|refine XL 2 ?_|refine zcV ?_|refine zb7 (HR [y,x]) (HR [y,x]) (rQ u) [11] zh rfl rfl rfl (zut rfl rfl rfl) rfl zjF rfl rfl rfl c1 ?_|refine zb7 (HR [y,x]) (HR [x,y]) (rQ u) [11] zh rfl rfl rfl (zok rfl rfl rfl) rfl zjF rfl rfl rfl c2 ?_|refine sK ?_|refine sC (fun _=>?_) (fun _=>?_)|fail)
 exact ⟨.inl rfl,.inl ⟨[],rfl,rfl,⟨by repeat (first|exact zA|refine aB ?_),rfl⟩⟩⟩
theorem zoi (x:Int × Int × Int) (u:Value):ACallM Tryz.prog 18 [ifQ u,ifW x] (H0q++qP u) (.pv (.tup [])) (HQ [x]++qP u):=by
 have c1:=zoa x u;have c2:=zdw [x];have c3:=zsv x u;refine yB zf Tryz.func18 rfl zws Tryz.ntmps18 zwy63 _ rfl (fun gB hw1=>?_)
 repeat' (first|refine zb7 (H0q++qP u) (HQ [x]++qP u) [] [] zh rfl rfl rfl (zmU rfl) rfl zjF rfl rfl rfl (fun _=>c1) ?_|refine zb7 (HR [x]) (HR [x]) (rQ u) [11] zh rfl rfl rfl (zlK rfl rfl rfl) rfl zjF rfl rfl rfl c2 ?_|(refine zn ?_;first|(refine XV (HQ [x]++qP u) (HQ [x]++qP u) ([]) ([]) zh rfl rfl rfl ?_ rfl rfl rfl (fun _=>c3) ?_;· (repeat (first|exact zA|refine aB ?_))))|refine sK ?_|refine sC (fun _=>?_) (fun _=>?_)|fail)
 exact ⟨.inl rfl,.inl ⟨[],rfl,rfl,⟨by repeat (first|exact zA|refine aB ?_),rfl⟩⟩⟩
theorem zmN (y x:Int × Int × Int) (u:Value) (h:wlt x y=true):ACallM Tryz.prog 18 [ifQ u,ifW x] (HQ [y]++qP u) (.pv (.tup [])) (HQ [x,y]++qP u):=by
 have c1:=zmx y x u;have c2:=zdw [y,x];have c3:=zr6 y x u h;refine yB zf Tryz.func18 rfl zws Tryz.ntmps18 zwy63 _ rfl (fun gB hw1=>?_)
 repeat' (first|refine zb7 (HQ [y]++qP u) (HQ [y,x]++qP u) [] [] zh rfl rfl rfl (zmU rfl) rfl zjF rfl rfl rfl (fun _=>c1) ?_|refine zb7 (HR [y,x]) (HR [y,x]) (rQ u) [11] zh rfl rfl rfl (zlK rfl rfl rfl) rfl zjF rfl rfl rfl c2 ?_|(refine zn ?_;first|(refine XV (HQ [y,x]++qP u) (HQ [x,y]++qP u) ([]) ([]) zh rfl rfl rfl ?_ rfl rfl rfl (fun _=>c3) ?_;· (repeat (first|exact zA|refine aB ?_))))|refine sK ?_|refine sC (fun _=>?_) (fun _=>?_)|fail)
 exact ⟨.inl rfl,.inl ⟨[],rfl,rfl,⟨by repeat (first|exact zA|refine aB ?_),rfl⟩⟩⟩
set_option maxHeartbeats 20000000
abbrev wrL (x:Int × Int × Int):List Value:=[.int .i64 x.1,.int .i64 x.2.1,.int .i64 x.2.2]
theorem zrm (y x:Int × Int × Int) (u:Value):ACallM Tryz.prog 298 [.box 10 0] (HQ [y,x]++qP u) (ifW x) []:=by
 have hl:1 < ([y,x].map QN).length:=Nat.lt_succ_self 1;have hp:([y,x].map QN)[1]?=some (QN x):=rfl;refine yB zf Tryz.func298 rfl zws Tryz.ntmps298 zwy63 _ rfl (fun gB hw1=>?_)
 repeat' (first|refine sM ?_|refine zy rfl (au (k:=1) (j:=0) hp) rfl rfl ?_|refine zq rfl (au (k:=1) (j:=0) hp) rfl rfl ?_|refine zy rfl (zjs (vs:=wrL x) rfl Tryz.underlying67 trivial rfl) rfl rfl ?_|refine zdp (l:=0) (h:=1) zf 11 20 rfl rfl rfl rfl rfl rfl rfl rfl rfl zwy67 zwy67 zwy63 zwy63 rfl rfl rfl (fun uu=>?_)|(refine shX ?_;first|refine zy rfl (ak (k:=1) hl) rfl rfl ?_|refine zq rfl (ak (k:=1) hl) rfl rfl ?_)|refine sK ?_|refine sC (fun _=>?_) (fun _=>?_)|fail)
 exact ⟨.inr rfl,.inl ⟨_,rfl,rfl,⟨by repeat (first|exact zA|refine aB ?_),rfl⟩⟩⟩
theorem zoE (y x:Int × Int × Int) (u:Value):ACallM Tryz.prog 89 [ifQ u,.pv (pi 0),.pv (pi 1)] (HQ [y,x]++qP u) (.pv (pb false)) (HQ [y,x]++qP u):=by
 refine yB zf Tryz.func89 rfl zws Tryz.ntmps89 zwy63 _ rfl (fun gB hw1=>?_)
 repeat' (first|refine XL 1 ?_|refine zcV ?_|refine sK ?_|refine sC (fun _=>?_) (fun _=>?_)|fail)
 exact ⟨.inr rfl,.inl ⟨_,rfl,rfl,⟨by repeat (first|exact zA|refine aB ?_),rfl⟩⟩⟩
theorem zsn (x y:Int × Int × Int) (u:Value):ACallM Tryz.prog 48 [ifQ u] (HQ [x,y]++qP u) (ifW x) []:=by
 have c1:=zdw [x,y];have c2:=fun us=>zia [x,y] 0 1 zwy63 zwy63 us
 simp only [List.getElem_cons_zero,List.getElem_cons_succ,List.set_cons_zero,List.set_cons_succ] at c2;have c3:=zoE y x u;have c4:=zrm y x u;refine yB zf Tryz.func48 rfl zws Tryz.ntmps48 zwy63 _ rfl (fun gB hw1=>?_)
 repeat' (first|refine zb7 (HR [x,y]) (HR [x,y]) (rQ u) [11] zh rfl rfl rfl (zlK rfl rfl rfl) rfl zjF rfl rfl rfl c1 ?_|refine zb7 (HR [x,y]) (HR [y,x]) (rQ u) [11] zh rfl rfl rfl (zok rfl rfl rfl) rfl zjF rfl rfl rfl c2 ?_|refine zb7 (HQ [y,x]++qP u) [] [] [] zh rfl rfl rfl (zv6 rfl) rfl zjF rfl rfl rfl (fun _=>c4) ?_|(refine zn ?_;first|(refine XV (HQ [y,x]++qP u) (HQ [y,x]++qP u) ([]) ([]) zh rfl rfl rfl ?_ rfl rfl rfl (fun _=>c3) ?_;· (repeat (first|exact zA|refine aB ?_))))|refine sK ?_|refine sC (fun _=>?_) (fun _=>?_)|fail)
 exact ⟨.inr rfl,.inl ⟨_,rfl,rfl,⟨by repeat (first|exact zA|refine aB ?_),rfl⟩⟩⟩
set_option maxHeartbeats 20000000
theorem zin (l:List (Int × Int × Int)) (f:Bool):ACall Tryz.prog 19 [.slc 3 (l.map QN) f] (pi l.length):=by
 refine zi zf Tryz.func19 rfl zws Tryz.ntmps19 zwy63 _ rfl (fun hw gB hgB=>?_)
 repeat' (first|refine sA ?_|refine sC (fun _=>?_) (fun _=>?_)|fail)
 exact retq rfl (by simp [zC])
theorem zl1 (x y:Int × Int × Int):ACallM Tryz.prog 23 [.box 10 0] (HQ [x,y]) (.pv (.tup [pi x.1,pi x.2.2])) []:=by
 have c1:=fun us=>zdw [x,y] us
 have c2:=fun u=>zsn x y u
 refine yB zf Tryz.func23 rfl zws Tryz.ntmps23 zwy63 _ rfl (fun gB hw1=>?_)
 repeat' (first|refine zj9 12 12 rfl rfl (fun u=>?_)|refine zy rfl (zlq rfl Tryz.underlying61 trivial rfl) rfl rfl ?_|refine XV (HQ [x,y]++qP _) [] [] [] zh rfl rfl rfl zjF rfl rfl rfl (fun _=>c2 _) ?_|refine zy rfl (zim (p:=QN x) rfl Tryz.underlying67 trivial rfl (fun _ _=>zoW x)) rfl rfl ?_|(refine zn ?_;first|(refine XV (HR [x,y]) (HR [x,y]) ([(10,.cell (.own 11))]) ([11]) zh rfl rfl rfl ?_ rfl rfl rfl c1 ?_;· (repeat (first|exact zA|refine aB ?_))))|refine sK ?_|refine sC (fun _=>?_) (fun _=>?_)|fail)
 exact ⟨.inr rfl,.inl ⟨_,rfl,rfl,⟨by repeat (first|exact zA|refine aB ?_),rfl⟩⟩⟩
abbrev tlH (u:Value):HEnv:=[(2,.cell (.pv (.base u)))]
theorem zoZ (at_ e:Int) (u:Value) (us:Nat→Value):ACallM Tryz.prog 17 [.pv (pi at_),.pv (pi e),.box 2 0] (tlH u++(H0q++qP u)++qE us [2]) (.pv (.tup [])) (tlH u++(HQ [(at_,0,e)]++qP u)++qE us [2]):=by
 have c1:=zin [] true;have c2:=zoi (at_,0,e) u;refine yB zf Tryz.func17 rfl zws Tryz.ntmps17 zwy63 _ rfl (fun gB hw1=>?_)
 repeat' (first|refine zV 11 10 rfl zws zws zws zws zws ?_|refine AD.step _ _ _ (ifQ u) _ rfl (zlq (t:=61) (d:=.pointer 63) rfl Tryz.underlying61 trivial rfl) rfl rfl ?_|refine AD.step _ _ _ (.box 10 0) _ rfl (zqe (u:=u) (av:=.box 10 0) 8 12 rfl rfl (zak zf rfl)) rfl rfl ?_|refine AD.step _ _ _ (ifW (at_,0,e)) _ rfl (zjs (t:=67) (vs:=wrL (at_,0,e)) rfl Tryz.underlying67 trivial rfl) rfl rfl ?_|(refine shC ?_;first|refine qC c1 ?_)|(refine zn ?_;first|(refine XV (H0q++qP u) (HQ [(at_,0,e)]++qP u) (tlH u++qE us [2]) ([]) zh rfl rfl rfl ?_ rfl rfl rfl (fun _=>c2) ?_;· (repeat (first|exact zA|refine aB ?_))))|refine sK ?_|refine sC (fun _=>?_) (fun _=>?_)|fail)
 exact ⟨.inl rfl,.inl ⟨[],rfl,rfl,⟨by repeat (first|exact zA|refine aB ?_),rfl⟩⟩⟩
theorem zpv (y:Int × Int × Int) (at_ e:Int) (u:Value) (h:wlt (at_,1,e) y=true) (us:Nat→Value):ACallM Tryz.prog 17 [.pv (pi at_),.pv (pi e),.box 2 0] (tlH u++(HQ [y]++qP u)++qE us [2]) (.pv (.tup [])) (tlH u++(HQ [(at_,1,e),y]++qP u)++qE us [2]):=by
 have c1:=zin [y] false;have c2:=zmN y (at_,1,e) u h;refine yB zf Tryz.func17 rfl zws Tryz.ntmps17 zwy63 _ rfl (fun gB hw1=>?_)
 repeat' (first|refine zV 11 10 rfl zws zws zws zws zws ?_|refine zy (r:=.pv (pi 1)) rfl (zqf (args:=fun ρ=>[.slc 3 [QN y] false]) rfl (fun _=>rfl) (fun ρ=>c1)) rfl rfl ?_|refine AD.step _ _ _ (.pv (pi 1)) _ rfl (zqf (args:=fun ρ=>[.slc 3 [QN y] false]) rfl (fun _=>rfl) (fun ρ=>c1)) rfl rfl ?_|refine AD.step _ _ _ (ifQ u) _ rfl (zlq (t:=61) (d:=.pointer 63) rfl Tryz.underlying61 trivial rfl) rfl rfl ?_|refine AD.step _ _ _ (.box 10 0) _ rfl (zqe (u:=u) (av:=.box 10 0) 8 12 rfl rfl (zak zf rfl)) rfl rfl ?_|refine AD.step _ _ _ (ifW (at_,1,e)) _ rfl (zjs (t:=67) (vs:=wrL (at_,1,e)) rfl Tryz.underlying67 trivial rfl) rfl rfl ?_|(refine zn ?_;first|(refine XV (HQ [y]++qP u) (HQ [(at_,1,e),y]++qP u) (tlH u++qE us [2]) ([]) zh rfl rfl rfl ?_ rfl rfl rfl (fun _=>c2) ?_;· (repeat (first|exact zA|refine aB ?_))))|refine sK ?_|refine sC (fun _=>?_) (fun _=>?_)|fail)
 exact ⟨.inl rfl,.inl ⟨[],rfl,rfl,⟨by repeat (first|exact zA|refine aB ?_),rfl⟩⟩⟩
end Go.Cg
