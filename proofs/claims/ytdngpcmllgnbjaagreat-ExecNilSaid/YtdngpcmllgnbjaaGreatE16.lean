/- A part of the walks by abstract values: no statement of its own. -/
import Derived.Test.YtdngpcmllgnbjaaGreatE9
import Derived.Test.YtdngpcmllgnbjaaGreatE5
import Derived.Test.YtdngpcmllgnbjaaGreatE10
import Derived.Shelf.Abstract
import Derived.OwnWalkIn
import Derived.TacticsInMore
import Derived.LoopNIn
import Derived.LoopIn
set_option linter.unusedVariables false
set_option linter.unusedSimpArgs false
namespace Go.Cg
open Go.Proofs

/-! images: how long;formed -/
theorem yc {α:Type} {f:α→PV} {l:List α} {k:Nat} (h:k < l.length):(l.map f)[((k:Int)).toNat]?=some (f l[k]):=by simp [h]

def zc6 (n:Int) (f:Int):Bool:=decide (0≤f)&&decide (f < n)
def Yw (t:TD) (n:Int):Bool :=
  zaR t.name&&decide (0≤t.flags)&&decide (t.flags≤31)&&decide (-1≤t.ext)&&decide (t.ext < n)&&decide ((t.faces.length:Int)≤4)&&t.faces.all (zc6 n)
def codeOk (g:Img) (m:Me) (x:Ins):Bool:=Wp x==0 &&
  (if yj x.op==5 then decide (x.arg < (m.code.length:Int)) else if yj x.op==6 then decide (x.arg < (g.methods.length:Int))
   else if yj x.op==7 then decide (x.arg < (g.fields.length:Int)) else if yj x.op==8 then zil x.t g.types.length else true)
theorem zqN {x:Ins} (h:(Wp x != 0)=false):1≤x.op∧x.op≤75:=by
  simp [Wp] at h
  by_cases h1:x.op < 1∨75 < x.op
  · simp [h1] at h
  · omega
def zec (t:Ty):Bool:=(t.kind==0&&(t.index==0&&(t.dims==0&&(t.ref==false&&true))))
def QX (g:Img) (c:Cl):Bool:=!((c.kind==1&&!XY c.t 1 g.types.length)||(c.kind != 1&&!zec c.t))
def za5 (g:Img) (m:Me):Bool:=decide ((m.code.length:Int)≤160)&&m.code.all (codeOk g m)&&m.clauses.all (QX g)&&zgt m.code.length m.clauses
def ZU (g:Img) (m:Me):Bool :=
 zaR m.name&&decide (0≤m.flags)&&decide (m.flags≤31)&&decide (0≤m.max)&&decide (m.max≤12)&&decide ((m.params.length:Int)≤6)&&decide ((m.locals.length:Int)≤12)&&XY m.ret 3 g.types.length
 && m.params.all (fun t=>XY t 2 g.types.length)&&m.locals.all (fun t=>XY t 2 g.types.length)&&za5 g m
def zhX (g:Img) (i:Nat):Bool :=
 let f:=g.fields.getD i default
 zaR f.name&&decide (0≤f.owner)&&decide (f.owner < g.types.length)&&(i==0||decide ((g.fields.getD (i - 1) default).owner≤f.owner))&&XY f.ty 1 g.types.length
def zgH (g:Img) (i:Nat):Bool :=
 let m:=g.methods.getD i default
 decide (0≤m.owner)&&decide (m.owner < g.types.length)&&(i==0||decide ((g.methods.getD (i - 1) default).owner≤m.owner))&&ZU g m
def zV (g:Img):Bool :=
 decide ((g.types.length:Int)≤32)&&decide ((g.fields.length:Int)≤64)&&decide ((g.methods.length:Int)≤64)&&decide (-1≤g.entry)&&decide (g.entry < g.methods.length)
 && g.types.all (fun t=>Yw t g.types.length)&&(List.range g.fields.length).all (zhX g)&&(List.range g.methods.length).all (zgH g)
theorem QM {p:Nat→Bool} {n k:Nat} (h:k < n):((List.range n).drop k).all p=(p k&&((List.range n).drop (k + 1)).all p):=by
 rw [zhU (by simpa using h)];simp
theorem zg3 {p:Nat→Bool} {n k:Nat} (h:k < n):((List.range n).drop k).any p=(p k||((List.range n).drop (k + 1)).any p):=by
 rw [zhT (by simpa using h)];simp
theorem zM {α:Type} {d:α} {l:List α} {k:Nat} (h:k < l.length):l.getD k d=l[k]:=by rw [List.getD_eq_getElem?_getD,List.getElem?_eq_getElem h];rfl
theorem zpu {g:Img} (h:(zx g).lenOk):g.types.length≤9223372036854775807∧g.fields.length≤9223372036854775807∧g.methods.length≤9223372036854775807:=by
 simp only [zx,PV.lenOk,lensOk,maxLen,List.length_map] at h
 exact ⟨h.1.1,h.2.1.1,h.2.2.1.1⟩
theorem zsf {g:Img} {k:Nat} (h:k < g.fields.length):zhX g k=(zaR g.fields[k].name&&decide (0≤g.fields[k].owner)&&decide (g.fields[k].owner < g.types.length)&&(k==0||decide ((g.fields.getD (k - 1) default).owner≤g.fields[k].owner))&&XY g.fields[k].ty 1 g.types.length):=by
 rw [zhX,zM h]
def zaL (g:Img):Nat→Int→List Int→List Int
 | 0,_,out=>out
 | n + 1,t,out=>match typeAt g t with
  | some td=>if t∈out then out else zaL g n td.ext (out++[t])
  | none=>out
def up (g:Img) (t:Int):List Int:=zaL g (g.types.length + 1) t []
def UpInv (g:Img) (t0:Int) (x:Int × List Int):Prop:=zaL g (g.types.length + 1 - x.2.length) x.1 x.2=up g t0∧x.2.Nodup∧∀ y∈x.2,0≤y∧y < g.types.length
theorem QF {g:Img} {t:Int} {td:TD} (h:typeAt g t=some td):0≤t∧t < g.types.length:=by
 unfold typeAt at h
 split at h
 ·have:=(List.getElem?_eq_some_iff.1 h).1;omega
 ·cases h
theorem UpInv.len {g:Img} {t0:Int} {x:Int × List Int} (h:UpInv g t0 x):x.2.length≤g.types.length:=ZF _ _ h.2.1 h.2.2
theorem UpInv.next {g:Img} {t0:Int} {t:Int} {out:List Int} {td:TD} (h:UpInv g t0 (t,out)) (ht:typeAt g t=some td) (hn:t∉out):UpInv g t0 (td.ext,out++[t]):=by
 have hl:=h.len
 obtain ⟨h1,h2,h3⟩:=h
 simp only at h1 h2 h3 hl
 rw [show g.types.length + 1 - out.length=(g.types.length + 1 - (out++[t]).length) + 1 by simp;omega,zaL,ht] at h1
 simp only [hn,if_false] at h1
 refine ⟨h1,?_,?_⟩
 ·rw [List.nodup_append];simp [h2];intro a ha e;subst e;exact hn ha
 ·intro y hy
  simp only [List.mem_append,List.mem_singleton] at hy
  rcases hy with hy|rfl
  ·exact h3 y hy
  ·exact QF ht
theorem UpInv.stop {g:Img} {t0:Int} {t:Int} {out:List Int} (h:UpInv g t0 (t,out)) (hs:typeAt g t=none∨t∈out):out=up g t0:=by
 have hl:=h.len
 obtain ⟨h1,h2,h3⟩:=h
 simp only at h1 h2 h3 hl
 rw [show g.types.length + 1 - out.length=(g.types.length - out.length) + 1 by omega,zaL] at h1
 cases ht:typeAt g t with
 | none=>rw [ht] at h1;exact h1
 | some td =>
  rcases hs with hs|hs
  ·rw [ht] at hs;cases hs
  ·rw [ht] at h1;simpa [hs] using h1
theorem zmH {g:Img}:∀ (n:Nat) (t:Int) (out:List Int),out.Nodup→(∀ y∈out,0≤y∧y < g.types.length)→(zaL g n t out).Nodup∧∀ y∈zaL g n t out,0≤y∧y < g.types.length
 | 0,t,out,h1,h2=>⟨h1,h2⟩
 | n + 1,t,out,h1,h2=>by
  rw [zaL]
  cases ht:typeAt g t with
  | none=>exact ⟨h1,h2⟩
  | some td =>
   by_cases hm:t∈out
   ·simp only [hm,if_true];exact ⟨h1,h2⟩
   ·simp only [hm,if_false]
    refine zmH n td.ext (out++[t]) ?_ ?_
    ·rw [List.nodup_append];simp [h1];intro a ha e;subst e;exact hm ha
    ·intro y hy
     simp only [List.mem_append,List.mem_singleton] at hy
     rcases hy with hy|rfl
     ·exact h2 y hy
     ·exact QF ht
theorem zcg (g:Img) (t:Int):(up g t).Nodup∧∀ y∈up g t,0≤y∧y < g.types.length:=zmH _ t [] (by simp) (by simp)
theorem WI {g:Img} {t:Int} (h:0≤t∧t < g.types.length):∃ td,typeAt g t=some td :=
 ⟨_,by rw [typeAt,if_pos h.1];exact List.getElem?_eq_getElem (by omega)⟩
def yw (g:Img) (u:Int):List Int:=match typeAt g u with|some td=>td.faces|none=>[]
def znN (g:Img) (met:List Int) (f:Int):List Int:=if there g f=true∧f∉met then met++[f] else met
def MInv (g:Img) (met:List Int):Prop:=met.Nodup∧∀ y∈met,0≤y∧y < g.types.length
theorem MInv.len {g:Img} {met:List Int} (h:MInv g met):met.length≤g.types.length:=ZF _ _ h.1 h.2
theorem zrZ {g:Img} {t:Int} (h:there g t=true):0≤t∧t < g.types.length:=by
 obtain ⟨td,h⟩:=(QB g t).1 h;exact QF h
theorem MInv.add {g:Img} {met:List Int} (h:MInv g met) (f:Int):MInv g (znN g met f):=by
 unfold znN
 split
 ·rename_i hc
  refine ⟨?_,?_⟩
  ·rw [List.nodup_append];simp [h.1];intro a ha e;subst e;exact hc.2 ha
  ·intro y hy
   simp only [List.mem_append,List.mem_singleton] at hy
   rcases hy with hy|rfl
   ·exact h.2 y hy
   ·exact zrZ hc.1
 ·exact h
theorem MInv.fold {g:Img}:∀ (l:List Int) {met:List Int},MInv g met→MInv g (l.foldl (znN g) met)
 | [],_,h=>h
 | f::l,_,h=>MInv.fold l (h.add f)
def zd4 (g:Img) (met:List Int) (u:Int):List Int:=(yw g u).foldl (znN g) met
theorem MInv.step {g:Img} {met:List Int} (h:MInv g met) (u:Int):MInv g (zd4 g met u):=MInv.fold _ h
def zvF (g:Img) (t:Int):List Int:=(up g t).foldl (zd4 g) []
def zo7 (g:Img):Nat→Nat→List Int→List Int
 | 0,_,met=>met
 | n + 1,i,met=>match met[i]? with|some u=>zo7 g n (i + 1) (zd4 g met u)|none=>met
def zuL (g:Img) (t:Int):List Int:=zo7 g (g.types.length + 1) 0 (zvF g t)
def nums (n:Nat):List Int:=(List.range n).map fun i:Nat=>(i:Int)
def zbf (g:Img) (t:Int):List Int:=(nums g.types.length).filter fun f=>decide (f∈zuL g t)
theorem zc3 {α β:Type} {f:β→α→β} {l:List α} {k:Nat} {b:β} (h:k < l.length):(l.drop k).foldl f b=(l.drop (k + 1)).foldl f (f b l[k]):=by rw [drop_cons h];rfl
end Go.Cg
set_option linter.unusedVariables false
set_option linter.unusedSimpArgs false
namespace Go.Cg
open Go.Proofs Go.RowKit Go.Shelf
set_option maxHeartbeats 20000000
attribute [local go_sem] Oper.semAt_some
theorem zgs {K:Cg.KK} {W:World} {p:PV} {vc:List Value} (hc:p.cells=[p]) (h:PRels K W [.ptr p 0] vc):∃ Bs o sv,vc=[.pointer (some ⟨Bs,o,none⟩)]∧W.cell? ⟨Bs,o,none⟩=some sv∧PRel K W p sv:=by
 obtain ⟨v,vs,rfl,r,h2⟩:=h.cons_inv
 obtain rfl:=h2.nil_inv
 cases r with
 | ptr _ _ b o vs hl hr hcc =>
  cases vs with
  | nil=>rw [hc] at hl;simp at hl
  | cons sv vs' =>
   have h0:=hr 0 sv rfl
   have hp:=hcc 0 p sv (by rw [hc];rfl) rfl
   exact ⟨b,o,sv,by simp,by simpa using h0.2.1,hp⟩
set_option maxRecDepth 100000 in
theorem znf:AIter Tryz.prog 330 [.ptr (tys []) 0] (fun x:Empty=>#[]) []:=by
 refine ⟨⟨_,Tryz.func330,rfl,by kernel_rfl⟩,fun K w vc n hp=>?_⟩
 obtain ⟨Bs,o,sv,rfl,hBs,hsv⟩:=zgs rfl hp
 intro rn J Jx W hW hJ hJx hY h0
 have hB2:W.cell? ⟨Bs,o,none⟩=some sv:=by
  obtain ⟨oo,ho,_⟩:=cells_of_cell hBs
  exact (hW.cell (p:=⟨Bs,o,none⟩) (Array.getElem?_eq_some_iff.1 ho).1).trans hBs
 obtain ⟨p,cap,rfl⟩:∃ p cap,sv=.slice p 0 cap:=by
  generalize hls:tys []=q at hsv
  cases hsv with
  | nil sz full=>exact ⟨none,0,rfl⟩
  | emp sz full a=>exact ⟨some a,0,rfl⟩
  | slc sz es full b2 o2 cap vss q0 q1 q2 q3 q4 q5 q6=>simp [tys] at hls;obtain ⟨rfl,rfl,_⟩:=hls;exact ⟨_,cap,rfl⟩
  | _=>simp [tys] at hls
 refine callsIn_of_wp Tryz.func330 rfl trivial ?_ rfl
 simp only [Tryz.ntmps330,List.size_toArray,List.length_cons,List.length_nil,Nat.reduceAdd,Nat.reduceSub,Array.replicate_succ,Array.replicate_zero,List.push_toArray,List.append_toArray,List.nil_append,List.cons_append]
 gi_wp2
 gi_loopw [3] (fun i wr=>i=.int .i64 (-1)∧J [] wr)
  (fun i _=>0)
 case atStart=>exact ⟨by first|rfl|(simp;done),h0⟩
 case round =>
  obtain ⟨rfl,hJs⟩:=hrel
  gi_wp2
  go_end0
  exact ⟨⟨_,rfl⟩,.inl ⟨_,rfl,hJs⟩⟩
abbrev ze9:Ty:=⟨2,0,0,false⟩
abbrev zvA:Value:=.agg #[.int .i64 2,.int .i64 0,.int .i64 0,.bool false]
abbrev zvR:Unit→Array Value:=fun _=>#[.int .i64 0,zvA]
theorem zsE (K:KK) (w:World):PRel K w (yK ze9) zvA:=by
 refine .agg _ [.int .i64 2,.int .i64 0,.int .i64 0,.bool false] rfl (fun v hv=>?_) (fun k c v hc hv=>?_)
 ·simp at hv;rcases hv with rfl|rfl|rfl|rfl <;> rfl
 ·match k,hc,hv with
  | 0,hc,hv=>cases hc;cases hv;exact .base _ rfl
  | 1,hc,hv=>cases hc;cases hv;exact .base _ rfl
  | 2,hc,hv=>cases hc;cases hv;exact .base _ rfl
  | 3,hc,hv=>cases hc;cases hv;exact .base _ rfl
  | k + 4,hc,_=>simp at hc
theorem zjA {K:Cg.KK} {W:World} {sv:Value} (hsv:PRel K W (tys [ze9]) sv):∃ b off cap,sv=.slice (some ⟨b,off,none⟩) 1 cap∧W.cell? ⟨b,off,none⟩=some (.int .i64 2)∧W.cell? ⟨b,off + 1,none⟩=some (.int .i64 0)∧W.cell? ⟨b,off + 2,none⟩=some (.int .i64 0)∧W.cell? ⟨b,off + 3,none⟩=some (.bool false):=by
 generalize hls:tys [ze9]=q at hsv
 cases hsv with
 | slc sz es full b2 o2 cap vss q0 q1 q2 q3 q4 q5 q6 =>
  simp only [tys,PV.slc.injEq] at hls
  obtain ⟨rfl,rfl,_⟩:=hls
  obtain ⟨e1,e2,e3⟩:=q5 0 _ rfl
  have hc:∀ (k:Nat) (x:Value),[pi 2,pi 0,pi 0,pb false][k]?=some (.base x)→W.cell? ⟨b2,o2 + k,none⟩=some x:=by
   intro k x hk
   have hlt:k < (vss 0).length:=by
    rw [e2];have:=(List.getElem?_eq_some_iff.1 hk).1;simpa using this
   have hv:=q6 0 _ k _ (vss 0)[k] rfl hk (List.getElem?_eq_getElem hlt)
   have hcell:=(e3 k _ (List.getElem?_eq_getElem hlt)).2.1
   generalize (vss 0)[k]=y at hv hcell
   cases hv
   simpa using hcell
  exact ⟨b2,o2,cap,rfl,hc 0 _ rfl,hc 1 _ rfl,hc 2 _ rfl,hc 3 _ rfl⟩
 | _=>simp [tys] at hls
set_option maxRecDepth 100000 in
theorem zmS:AIter Tryz.prog 330 [.ptr (tys [ze9]) 0] zvR [()]:=by
 refine ⟨⟨_,Tryz.func330,rfl,by kernel_rfl⟩,fun K w vc n hp=>?_⟩
 obtain ⟨Bs,o,sv,rfl,hBs,hsv⟩:=zgs rfl hp
 intro rn J Jx W hW hJ hJx hY h0
 have hk:∀ (x:Addr) (v:Value),w.cell? x=some v→W.cell? x=some v:=fun x u hx=>by
  obtain ⟨oo,ho,_⟩:=cells_of_cell hx
  exact (hW.cell (p:=x) (Array.getElem?_eq_some_iff.1 ho).1).trans hx
 have hpW:PRels K W [.ptr (tys [ze9]) 0] [.pointer (some ⟨Bs,o,none⟩)]:=hp.keepc hk
 obtain ⟨_,_,sv2,e,hB2,hs2⟩:=zgs rfl hpW
 simp only [List.cons.injEq,Value.pointer.injEq,Option.some.injEq,Addr.mk.injEq,and_true] at e
 obtain ⟨rfl,rfl⟩:=e
 obtain ⟨b,off,cap,rfl,k1,k2,k3,k4⟩:=zjA hs2
 clear hBs hsv hk hp
 refine callsIn_of_wp Tryz.func330 rfl trivial ?_ rfl
 simp only [Tryz.ntmps330,List.size_toArray,List.length_cons,List.length_nil,Nat.reduceAdd,Nat.reduceSub,Array.replicate_succ,Array.replicate_zero,List.push_toArray,List.append_toArray,List.nil_append,List.cons_append]
 gi_wp2
 gi_loopw [3] (fun i wr=>∃ r:Nat,r≤1∧i=.int .i64 ((r:Int) - 1)∧J (if r=0 then [()] else []) wr∧∃ K,PRels K wr [.ptr (tys [ze9]) 0] [.pointer (some ⟨Bs,o,none⟩)])
  (fun i _=>(RowKit.intOf i + 1).toNat)
 case atStart=>exact ⟨1,Nat.le_refl _,by first|rfl|(simp;done),h0,K,hpW⟩
 case round =>
  obtain ⟨r,hk,rfl,hJs,hnx⟩:=hrel
  obtain ⟨K',hn⟩:=hnx
  obtain ⟨_,_,sv2,e,hB3,hs3⟩:=zgs rfl hn
  simp only [List.cons.injEq,Value.pointer.injEq,Option.some.injEq,Addr.mk.injEq,and_true] at e
  obtain ⟨rfl,rfl⟩:=e
  obtain ⟨b,off,cap,rfl,k1,k2,k3,k4⟩:=zjA hs3
  cases r with
  | zero =>
   gi_wp2
   go_end0
   exact ⟨⟨_,rfl⟩,.inl (by simpa using hJs)⟩
  | succ m =>
   obtain rfl:m=0:=by omega
   obtain ⟨fn,tmps,assign,body,hy,hR⟩:=hY [] () wr hJs (by simp)
   rw [show (((0 + 1:Nat):Int) - 1)=0 by rfl]
   gi_wp2
   refine ⟨fun hh=>by simp [Fence.wide] at hh,hR.mono ?_⟩
   rintro e W3 (⟨rfl,hJ3,hk3⟩|⟨rfl,hJx3⟩)
   ·gi_wp2
    go_roundw
    case rel=>exact ⟨0,by omega,by first|rfl|(simp;done),hJ3,hk3 ⟨K',hn⟩⟩
    case measure=>simp [RowKit.intOf]
   ·gi_wp2
    refine bodyPost_ret (results_none rfl _ _ _) rfl ?_
    exact ⟨⟨_,rfl⟩,.inr ⟨_,trivial,hJx3⟩⟩
theorem zb3 (l:List Ty):ACall Tryz.prog 224 [tys l] (.fn (.func 330) [] [.ptr (tys l) 0]):=by
 refine zf zh Tryz.func224 rfl (by kernel_rfl) Tryz.ntmps224 (by simp) _ rfl (fun hw gB hgB=>?_)
 repeat' (first|refine sA ?_|refine sC (fun _=>?_) (fun _=>?_)|fail)
 exact retq rfl rfl
end Go.Cg
