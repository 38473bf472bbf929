/- A part of the walks by abstract values: no statement of its own. -/
import Derived.Test.YtdngpcmllgnbjaaGreatN25
import Derived.Test.YtdngpcmllgnbjaaGreatN8
import Derived.Test.YtdngpcmllgnbjaaGreatN24
import Derived.Test.YtdngpcmllgnbjaaGreatN19
import Derived.Test.YtdngpcmllgnbjaaGreatN7
import Derived.Test.YtdngpcmllgnbjaaGreatN9
set_option linter.unusedVariables false
set_option linter.unusedSimpArgs false
namespace Go.Cg
open Go.RowKit
section
variable {P:Program} {tb:Tab} {g:Base} {K:KK} {w:World} {ρ:Nat→Value} {H:HEnv} {env:Env} {a:Act} {o:Oper}
theorem zcw (htb:zX P tb) {ty:Nat} {x y:Operand} {i off:Nat} {c v r:AV} (hop:o.op=.store ty x y) (hx:env.val x=some (.box i off)) (hi:H.get i=some (.cell c)) (hy:env.val y=some v) (hr:zfH tb H ty c off v=some r) (hk:tb.known ty=true) (hn:zfk H c=true) :
  EStepN P g H ((i,.cell r)::H) H ((i,.cell r)::H) o env (.pv (.tup [])) none:=by
 refine ⟨fun K ρ a w hf hv=>.inr ⟨rfl,?_⟩⟩
 obtain ⟨w',hrun,hf',hlat⟩:=zgy (a:=a) htb hop hi hr hk hn hf (hv x (by rw [hop];simp [Op.operands]) _ hx) (hv y (by rw [hop];simp [Op.operands]) _ hy)
 exact ⟨undef,w',K,ρ,.inr ⟨hrun,rfl⟩,hf',hlat,fun _ _=>rfl,XD⟩
theorem Xq (htb:zX P tb) {ty:Nat} (i:Nat) (hop:o.op=.alloc ty) {z:Value} (hz:tb.zero ty=some z) {za:AV} (hza:zcU z=some za) (hi:H.get i=none):EStepN P g H ((i,.cell za)::H) H ((i,.cell za)::H) o env (.box i 0) none:=by
 refine ⟨fun K ρ a w hf hv=>.inr ⟨rfl,?_⟩⟩
 obtain ⟨v,w',hrun,hev,hf',hr⟩:=zgk (a:=a) htb i hop hz hza hi hf
 exact ⟨v,w',K,_,.inl hrun,hf',hev.later hf.lt,fun j hj=>(yG hi (.cell za) v j hj).2,hr⟩
end
section
variable {P:Program} {n:Nat} {g:Base} {H:HEnv} {env:Env} {o:Oper} {c:Code} {QQ:QC} {r:AV}
end
theorem FS.kill {g:Base} {K:KK} {ρ:Nat→Value} {H:HEnv} {w:World} (i:Nat) (hf:FS g K ρ H w):FS g K ρ ((i,.dead)::H) w:=by
 have hold:∀ j x,HEnv.get ((i,HE.dead)::H) j=some x→x.live=true→H.get j=some x:=fun j x hj hl=>by
  rw [HEnv.get_cons] at hj
  split at hj
  ·simp only [Option.some.injEq] at hj;subst hj;cases hl
  ·exact hj
 have hk:∀ j,(H.get j).isSome=true→(HEnv.get ((i,HE.dead)::H) j).isSome=true∧ρ j=ρ j:=fun j hj=>⟨by
  rw [HEnv.get_cons];split <;> first|rfl|exact hj,rfl⟩
 refine ⟨hf.below,hf.old,hf.new,hf.lt,hf.others,hf.pt,fun j x b hj hl hb=>hf.away j x b (hold j x hj hl) hl hb,fun j x hj=>?_,fun j j' x x' b hjj hj hj' hl hl' hb hb'=>hf.heap.apart j j' x x' b hjj (hold j x hj hl) (hold j' x' hj' hl') hl hl' hb hb'⟩
 rw [HEnv.get_cons] at hj
 split at hj
 ·simp only [Option.some.injEq] at hj;subst hj;trivial
 ·exact (hf.heap.ok j x hj).keeps (.refl hf.lt) hf.lt hk
def mkL (l:List HEnv) (p:Nat):HEnv:=l.getD p []
def zqk (a:HEnv):List HEnv→Prop
 | []=>True
 | x::l=>YO x a []∧zqk a l
def keysL:List HEnv→Bool
 | []=>true
 | x::l=>yV x x&&l.all (fun y=>yV x y)&&keysL l
theorem XY {g:Base} {a:HEnv}:∀ {l:List HEnv} {n:Nat},l.length=n + 1→zqk a l→∀ p,p≤n→∀ K ρ w,FS g K ρ (mkL l p) w→FS g K ρ a w
 | [],n,hl,_,p,hp,K,ρ,w,hf=>by simp at hl
 | x::l,n,hl,h,0,hp,K,ρ,w,hf=>hf.narrow h.1
 | x::l,n,hl,h,p + 1,hp,K,ρ,w,hf=>by
  cases n with
  | zero=>omega
  | succ n=>exact XY (l:=l) (n:=n) (by simpa using hl) h.2 p (by omega) K ρ w hf
def zqq (i:Nat) (a:HEnv):List HEnv→Prop
 | []=>True
 | x::l=>YO ((i,.dead)::x) a []∧zqq i a l
theorem zdd {g:Base} {i:Nat} {a:HEnv}:∀ {l:List HEnv} {n:Nat},l.length=n + 1→zqq i a l→∀ p,p≤n→∀ K ρ w,FS g K ρ (mkL l p) w→FS g K ρ a w
 | [],n,hl,_,p,hp,K,ρ,w,hf=>by simp at hl
 | x::l,n,hl,h,0,hp,K,ρ,w,hf=>(hf.kill i).narrow h.1
 | x::l,n,hl,h,p + 1,hp,K,ρ,w,hf=>by
  cases n with
  | zero=>omega
  | succ n=>exact zdd (l:=l) (n:=n) (by simpa using hl) h.2 p (by omega) K ρ w hf
theorem Zy:∀ {l:List HEnv} {n:Nat},l.length=n + 1→keysL l=true→∀ q p,q≤p→p≤n→yV (mkL l q) (mkL l p)=true
 | [],n,hl,_,q,p,_,_=>by simp at hl
 | x::l,n,hl,h,0,0,_,_=>by simp only [keysL,Bool.and_eq_true] at h;exact h.1.1
 | x::l,n,hl,h,0,p + 1,_,hp=>by
  simp only [keysL,Bool.and_eq_true,List.all_eq_true] at h
  have hlt:p < l.length:=by simp at hl;omega
  show yV x (l.getD p [])=true
  rw [List.getD_eq_getElem?_getD,List.getElem?_eq_getElem hlt]
  exact h.1.2 _ (List.getElem_mem hlt)
 | x::l,n,hl,h,q + 1,0,hq,_=>by omega
 | x::l,n,hl,h,q + 1,p + 1,hq,hp=>by
  simp only [keysL,Bool.and_eq_true] at h
  cases n with
  | zero=>omega
  | succ n=>exact Zy (l:=l) (n:=n) (by simpa using hl) h.2 q p (by omega) (by omega)
end Go.Cg
namespace Go.Cg
open Go.Proofs
set_option maxHeartbeats 20000000
structure SmP (x:Pt):Prop where
 f:0≤x.f∧x.f≤1000000
 t:0≤x.t∧x.t≤1000000
 c:0≤x.c∧x.c≤1000000
theorem zje (a b:Pt) (ha:SmP a) (hb:SmP b):ACall Tryz.prog 370 [zU a,zU b] (pi (zku a b)):=by
 have ha1:=ha.f
 have ha2:=ha.t
 have ha3:=ha.c
 have hb1:=hb.f
 have hb2:=hb.t
 have hb3:=hb.c
 have e1:IntKind.i64.wrap (a.t - a.f)=a.t - a.f:=wrap_in (by omega) (by omega)
 have e2:IntKind.i64.wrap (b.t - b.f)=b.t - b.f:=wrap_in (by omega) (by omega)
 have e3:IntKind.i64.wrap ((a.t - a.f) - (b.t - b.f))=(a.t - a.f) - (b.t - b.f):=wrap_in (by omega) (by omega)
 have e4:IntKind.i64.wrap (a.c - b.c)=a.c - b.c:=wrap_in (by omega) (by omega)
 by_cases h:(a.t - a.f) - (b.t - b.f)=0
 ·have hc:(!(IntKind.i64.wrap (IntKind.i64.wrap (a.t - a.f) - IntKind.i64.wrap (b.t - b.f))==0))=false:=by rw [e1,e2,e3,h];rfl
  refine zf zh Tryz.func370 rfl (by kernel_rfl) Tryz.ntmps370 (by simp) _ rfl (fun hw gB hgB=>?_)
  repeat' (first|refine sA ?_|refine sC (fun _=>?_) (fun _=>?_)|fail)
  all_goals (refine retq rfl ?_;simp [zl,zku,h,e4])
 ·have hc:(!(IntKind.i64.wrap (IntKind.i64.wrap (a.t - a.f) - IntKind.i64.wrap (b.t - b.f))==0))=true:=by rw [e1,e2,e3];simpa using h
  refine zf zh Tryz.func370 rfl (by kernel_rfl) Tryz.ntmps370 (by simp) _ rfl (fun hw gB hgB=>?_)
  repeat' (first|refine sA ?_|refine sC (fun _=>?_) (fun _=>?_)|fail)
  all_goals (refine retq rfl ?_;simp [zl,zku,h,e1,e2,e3])
abbrev Vu (us:Nat→Value) (l:List Pt):HEnv:=[(0,.mrow 362 4 (l.map zU)),(1000,.pin (.own 0) (us 0))]
def zpt (us:Nat→Value) (A:List PV) (k:Nat) (p q:PV):Nat→HEnv
 | 0=>[(0,.mrow 362 4 A),(1000,.pin (.own 0) (us 0))]
 | 1=>(0,.mrow 362 4 (A.set (k + 1) p))::[(0,.mrow 362 4 A),(1000,.pin (.own 0) (us 0))]
 | _=>(0,.mrow 362 4 ((A.set (k + 1) p).set k q))::(0,.mrow 362 4 (A.set (k + 1) p))::[(0,.mrow 362 4 A),(1000,.pin (.own 0) (us 0))]
abbrev zox (us:Nat→Value):HEnv:=[(0,.dead),(1000,.pin (.own 0) (us 0))]
theorem zmN (us:Nat→Value) (A:List PV) (k:Nat) (x y:PV):∀ p,p < 3→yV (zpt us A k x y p) (zox us)=true∧yV (zox us) (zpt us A k x y p)=true:=by
 intro p h
 have hp:p=0∨p=1∨p=2:=by omega
 rcases hp with rfl|rfl|rfl <;> exact ⟨rfl,rfl⟩
theorem zmM (us:Nat→Value) (A:List PV) (k:Nat) (x y:PV) {gB:Base}:∀ p,p≤2→∀ K ρ w,FS gB K ρ (zpt us A k x y p) w→FS gB K ρ (zox us) w:=by
 intro p h K ρ w hf
 have hp:p=0∨p=1∨p=2:=by omega
 rcases hp with rfl|rfl|rfl <;> exact (hf.kill 0).narrow (e:=[]) tH
theorem zoN (a b:Pt) (r t:List Pt):(((r.reverse++a::b::t).map zU).set (r.length + 1) (zU a)).set r.length (zU b)=(r.reverse++b::a::t).map zU:=by
 apply List.ext_getElem?
 intro i
 simp only [List.getElem?_set,List.length_set,List.length_map,List.length_append,List.length_reverse,List.length_cons,List.map_append,List.map_cons,List.getElem?_append,List.length_map]
 by_cases h1:r.length=i
 ·subst h1;simp
 ·by_cases h2:r.length + 1=i
  ·subst h2;simp
  ·simp only [h1,h2,if_false]
   by_cases h3:i < r.length
   ·simp [h3]
   ·simp only [h3,if_false]
    obtain ⟨m,rfl⟩:∃ m,i=r.length + (m + 2):=⟨i - r.length - 2,by omega⟩
    simp
theorem zgW (l:List Pt) (hl:l.length≤1000) (hs:∀ x∈l,SmP x) (us:Nat→Value) :
  ACallM Tryz.prog 422 [.own 0,.pv (pi 0),.pv (pi l.length),.pv (.fn (.func 370) [] [])] (Vu us l) (.pv (.tup [])) (Vu us (YZ l)):=by
 refine zJ zh Tryz.func422 rfl (by kernel_rfl) Tryz.ntmps422 (by simp) _ rfl (fun gB hw1=>?_)
 repeat' (first|refine sA ?_|refine sC (fun _=>?_) (fun _=>?_)|fail)
 refine zA (fun i:Nat=>[(0,.own 0),(1,.pv (pi 0)),(2,.pv (pi l.length)),(3,.pv (.fn (.func 370) [] [])),(8,.pv (pi i))])
  (fun i=>Vu us (YZ (l.take i)++l.drop i)) (fun i=>1≤i∧i≤l.length + 1) (fun i=>l.length + 1 - i) 1 (by omega) (tS) ⟨qJ rfl (by cases l <;> rfl) (by repeat (first|exact zk|refine zi rfl ?_)),rfl⟩ ?_
 rintro i ⟨hi1,hi2⟩
 by_cases hlt:i < l.length
 ·obtain ⟨x,hx⟩:∃ x,x=l[i]:=⟨_,rfl⟩
  obtain ⟨s,hsd⟩:∃ s,s=YZ (l.take i):=⟨_,rfl⟩
  have hxs:SmP x:=by rw [hx];exact hs _ (List.getElem_mem hlt)
  have hss:∀ y∈s,SmP y:=fun y hy=>by rw [hsd,zmE] at hy;exact hs y (List.mem_of_mem_take hy)
  have hsl:s.length=i:=by rw [hsd,zcP];simp;omega
  have hnext:YZ (l.take (i + 1))=zh7 s x:=by
   rw [List.take_succ_eq_append_getElem hlt,YZ,List.foldl_append,hsd,hx];rfl
  have hdrop:l.drop i=x::l.drop (i + 1):=by rw [hx];exact List.drop_eq_getElem_cons hlt
  rw [←hsd,hdrop]
  repeat' (first|refine sK ?_|refine sC (fun _=>?_) (fun _=>?_)|fail)
  refine zA (fun st:List Pt × List Pt=>[(0,.own 0),(1,.pv (pi 0)),(2,.pv (pi l.length)),(3,.pv (.fn (.func 370) [] [])),(8,.pv (pi i)),(9,.pv (pi st.1.length))])
   (fun st=>Vu us (st.1.reverse++x::(st.2++l.drop (i + 1)))) (fun st=>zah x st.1 st.2=zh7 s x∧∀ y∈st.1,SmP y) (fun st=>st.1.length) (s.reverse,[]) ⟨rfl,fun y hy=>hss y (by simpa using hy)⟩
   (by repeat (first|exact yj|refine zY rfl ?_|(refine qL rfl ?_ ?_;· (show (i:Int)=((s.reverse.length:Nat):Int);simp [hsl])))) ⟨qJ rfl (by simp) (by repeat (first|exact zk|refine zi rfl ?_)),rfl⟩ ?_
  rintro ⟨r,t⟩ ⟨hgo,hr⟩
  cases r with
  | nil =>
   repeat' (first|refine sK ?_|refine sC (fun _=>?_) (fun _=>?_)|fail)
   exact ⟨i + 1,by omega,tD,tS,⟨qJ rfl (by rw [hnext,←hgo];simp [zah]) (by repeat (first|exact zk|refine zi rfl ?_)),rfl⟩⟩
  | cons y r =>
   obtain ⟨D,hD⟩:∃ D,D=t++l.drop (i + 1):=⟨_,rfl⟩
   have hgo':zah x (y::r) t=zh7 s x:=hgo
   rw [zah] at hgo'
   have hsy:SmP y:=hr y (by simp)
   have hrl:r.length < 1000:=by
    have h1:=congrArg List.length hgo'
    rw [zjm,hsl] at h1
    split at h1
    ·rw [zcZ] at h1;simp at h1;omega
    ·simp at h1;omega
   have cb:=zje x y hxs hsy
   have e0:(y::r).reverse++x::(t++l.drop (i + 1))=r.reverse++y::x::D:=by rw [hD];simp
   have g0:((r.reverse++y::x::D).map zU)[r.length]?=some (zU y):=by simp
   have g1:((r.reverse++y::x::D).map zU)[r.length + 1]?=some (zU x):=by
    rw [List.getElem?_map,List.getElem?_append_right (by simp)];simp
   have h0:r.length < ((r.reverse++y::x::D).map zU).length:=by simp
   have h1:r.length + 1 < ((r.reverse++y::x::D).map zU).length:=by simp
   have sw:=zoN y x r D
   show AW _ _ _ _ [(0,.own 0),(1,.pv (pi 0)),(2,.pv (pi l.length)),(3,.pv (.fn (.func 370) [] [])),(8,.pv (pi i)),(9,.pv (pi (r.length + 1:Nat)))] (Vu us ((y::r).reverse++x::(t++l.drop (i + 1)))) _
   rw [e0]
   obtain ⟨k,hk⟩:∃ k,k=r.length:=⟨_,rfl⟩
   obtain ⟨A,hA⟩:∃ A,A=(r.reverse++y::x::D).map zU:=⟨_,rfl⟩
   rw [←hk] at g0 g1 h0 h1 sw hrl ⊢
   show AW _ _ _ _ _ [(0,.mrow 362 4 ((r.reverse++y::x::D).map zU)),(1000,.pin (.own 0) (us 0))] _
   rw [←hA] at g0 g1 h0 h1 sw ⊢
   have hp:decide ((0:Int) < ((k + 1:Nat):Int))=true:=decide_eq_true (by omega)
   have hix:IntKind.i64.wrap (((k + 1:Nat):Int) - 1)=(k:Nat):=by rw [wrap_in (by omega) (by omega)];omega
   by_cases hb:zku x y < 0
   ·have hbd:decide (zku x y < 0)=true:=decide_eq_true hb
    rw [if_pos hb] at hgo'
    have h0':k < (A.set (k + 1) (zU y)).length:=by rw [List.length_set];exact h0
    have g0':(A.set (k + 1) (zU y))[k]?=some (zU y):=by rw [List.getElem?_set_ne (by omega)];exact g0
    repeat' (first|refine Xo 18 18 [15,17] [[37,38,42,43,44,45,46,47,48,49,50,51],[52]] (zpt us A k (zU y) (zU x)) (fun _=>zox us) (zox us) none rfl (by kernel_rfl) (by kernel_rfl) (by kernel_rfl) (by kernel_rfl) (by kernel_rfl) (by kernel_rfl) (by kernel_rfl) (fun p hp=>zmN us A k _ _ p (by simp at hp;omega)) rfl (fun p hp=>zmM us A k _ _ p hp) rfl (fun _ _ _ _=>rfl) (fun _ _=>rfl) tH rfl (fun v hv=>by cases hv) ?_|refine zcG 0 2 [13,15] rfl rfl (by kernel_rfl) ?_|refine zaP 3 [10,12] rfl rfl ?_|refine zcG 0 10 [0,2] rfl rfl (by kernel_rfl) ?_|refine QX [1] (.pv (.tup [])) rfl rfl rfl ?_|refine zcG 1 1 [0] rfl rfl (by kernel_rfl) ?_|refine QX [] (.pv (.tup [])) rfl rfl rfl ?_|refine Yx ?_|refine ⟨⟨rfl,ZU (k:=k + 1) (j:=0) zh rfl rfl rfl rfl g1 rfl rfl rfl rfl,.inl rfl⟩,?_⟩|refine ⟨⟨rfl,ZU (k:=k) (j:=0) zh rfl rfl rfl rfl g0' rfl rfl rfl rfl,.inl rfl⟩,?_⟩|intro _|refine Xd ?_|refine zq rfl (yB (k:=k) (j:=0) zh rfl rfl rfl rfl g0 rfl) rfl rfl ?_|refine AD.step _ _ _ _ _ rfl (yB (k:=k) (j:=0) zh rfl rfl rfl rfl g0 rfl) rfl rfl ?_|refine zq rfl (yB (k:=k + 1) (j:=0) zh rfl rfl rfl rfl g1 rfl) rfl rfl ?_|refine AD.step _ _ _ _ _ rfl (yB (k:=k + 1) (j:=0) zh rfl rfl rfl rfl g1 rfl) rfl rfl ?_|(refine shC ?_;first|refine qV (cb) ?_)|(refine shX ?_;first|refine zq rfl (yw (k:=k) zh rfl rfl rfl rfl rfl rfl rfl hix h0) rfl rfl ?_|refine AD.step _ _ _ _ _ rfl (yw (k:=k) zh rfl rfl rfl rfl rfl rfl rfl hix h0) rfl rfl ?_|refine zq rfl (yw (k:=k + 1) zh rfl rfl rfl rfl rfl rfl rfl rfl h1) rfl rfl ?_|refine AD.step _ _ _ _ _ rfl (yw (k:=k + 1) zh rfl rfl rfl rfl rfl rfl rfl rfl h1) rfl rfl ?_|refine zq rfl (yw (k:=k) zh rfl rfl rfl rfl rfl rfl rfl hix h0') rfl rfl ?_|refine AD.step _ _ _ _ _ rfl (yw (k:=k) zh rfl rfl rfl rfl rfl rfl rfl hix h0') rfl rfl ?_)|refine sK ?_|refine sC (fun _=>?_) (fun _=>?_)|fail)
    exact ⟨(r,y::t),⟨hgo',fun z hz=>hr z (List.mem_cons_of_mem _ hz)⟩,Nat.lt_succ_self r.length,by repeat (first|exact yj|refine zY rfl ?_|(refine qL rfl ?_ ?_;· (show IntKind.i64.wrap _=((r.length:Nat):Int);rw [hix,hk]))),⟨qJ rfl (by rw [sw,hD];simp) (by repeat (first|exact zk|refine zi rfl ?_)),rfl⟩⟩
   ·have hbd:decide (zku x y < 0)=false:=decide_eq_false hb
    rw [if_neg hb] at hgo'
    repeat' (first|refine zq rfl (yB (k:=k) (j:=0) zh rfl rfl rfl rfl g0 rfl) rfl rfl ?_|refine AD.step _ _ _ _ _ rfl (yB (k:=k) (j:=0) zh rfl rfl rfl rfl g0 rfl) rfl rfl ?_|refine zq rfl (yB (k:=k + 1) (j:=0) zh rfl rfl rfl rfl g1 rfl) rfl rfl ?_|refine AD.step _ _ _ _ _ rfl (yB (k:=k + 1) (j:=0) zh rfl rfl rfl rfl g1 rfl) rfl rfl ?_|(refine shC ?_;first|refine qV (cb) ?_)|(refine shX ?_;first|refine zq rfl (yw (k:=k) zh rfl rfl rfl rfl rfl rfl rfl hix h0) rfl rfl ?_|refine AD.step _ _ _ _ _ rfl (yw (k:=k) zh rfl rfl rfl rfl rfl rfl rfl hix h0) rfl rfl ?_|refine zq rfl (yw (k:=k + 1) zh rfl rfl rfl rfl rfl rfl rfl rfl h1) rfl rfl ?_|refine AD.step _ _ _ _ _ rfl (yw (k:=k + 1) zh rfl rfl rfl rfl rfl rfl rfl rfl h1) rfl rfl ?_)|refine sK ?_|refine sC (fun _=>?_) (fun _=>?_)|fail)
    exact ⟨i + 1,by omega,tD,tS,⟨qJ rfl (by rw [hnext,←hgo',hA,hD];simp) (by repeat (first|exact zk|refine zi rfl ?_)),rfl⟩⟩
 ·repeat' (first|refine sK ?_|refine sC (fun _=>?_) (fun _=>?_)|fail)
  exact ⟨.inl rfl,.inl ⟨[],rfl,rfl,⟨qJ rfl (by rw [List.take_of_length_le (by omega),List.drop_eq_nil_of_le (by omega),List.append_nil]) (by repeat (first|exact zk|refine zi rfl ?_)),rfl⟩⟩⟩
set_option maxHeartbeats 20000000
abbrev mrP (l:List Pt):HEnv:=[(0,.mrow 362 4 (l.map zU))]
theorem zh9 (l:List Pt) (hl:l.length < 20) (hs:∀ x∈l,SmP x) (us:Nat→Value) :
  ACallM Tryz.prog 406 [.own 0,.pv (pi l.length),.pv (.fn (.func 370) [] [])] (Vu us l) (.pv (.tup [])) (Vu us (YZ l)):=by
 refine zJ zh Tryz.func406 rfl (by kernel_rfl) Tryz.ntmps406 (by simp) _ rfl (fun gB hw1=>?_)
 have hc:∀ us,ACallM _ _ _ _ _ _ _:=fun us=>zgW l (by omega) hs us
 have hd:decide ((20:Int)≤((l.length:Nat):Int))=false:=decide_eq_false (by omega)
 have hd2:decide ((20:Int) < ((l.length:Nat):Int))=false:=decide_eq_false (by omega)
 repeat' (first|refine sA ?_|refine sC (fun _=>?_) (fun _=>?_)|fail)
 refine zA (fun _:Unit=>[(0,.own 0),(1,.pv (pi l.length)),(2,.pv (.fn (.func 370) [] [])),(6,.pv (pi 20)),(7,.pv (pi 0)),(8,.pv (pi 20))]) (fun _=>Vu us l) (fun _=>True) (fun _=>0) () trivial (tS) tH ?_
 rintro _ _
 repeat' (first|(refine zQ ?_;first|(refine Zu (mrP l) (mrP (YZ l)) [(1000,.pin (.own 0) (us 0))] [(1,.pv (pi l.length)),(6,.pv (pi 20))] [0] yc rfl rfl rfl ?_ tS rfl rfl rfl hc ?_;· (repeat (first|exact zk|refine zi rfl ?_))))|refine sA ?_|refine sC (fun _=>?_) (fun _=>?_)|fail)
 refine zA (fun _:Unit=>[(1,.pv (pi l.length)),(6,.pv (pi 20))]) (fun _=>Vu us (YZ l)) (fun _=>True) (fun _=>0) () trivial (tS) tH ?_
 rintro _ _
 repeat' (first|refine sA ?_|refine sC (fun _=>?_) (fun _=>?_)|fail)
 exact ⟨.inl rfl,.inl ⟨[],rfl,rfl,tH⟩⟩
theorem zkQ (l:List Pt) (hl:l.length < 20) (hs:∀ x∈l,SmP x) (us:Nat→Value) :
  ACallM Tryz.prog 369 [.own 0,.pv (.fn (.func 370) [] [])] (Vu us l) (.pv (.tup [])) (Vu us (YZ l)):=by
 refine zJ zh Tryz.func369 rfl (by kernel_rfl) Tryz.ntmps369 (by simp) _ rfl (fun gB hw1=>?_)
 have hc:∀ us,ACallM _ _ _ _ _ _ _:=fun us=>zh9 l hl hs us
 rw [←List.length_map (f:=zU)] at hc
 repeat' (first|(refine zI ?_;first|refine zbd zh rfl rfl rfl rfl rfl rfl rfl ?_)|(refine zQ ?_;first|(refine Zu (mrP l) (mrP (YZ l)) [(1000,.pin (.own 0) (us 0))] [] [0] yc rfl rfl rfl ?_ tS rfl rfl rfl hc ?_;· (repeat (first|exact zk|refine zi rfl ?_))))|refine sA ?_|refine sC (fun _=>?_) (fun _=>?_)|fail)
 exact ⟨.inl rfl,.inl ⟨[],rfl,rfl,tH⟩⟩
set_option maxHeartbeats 20000000
section
variable {P:Program} {n:Nat} {g:Base} {H:HEnv} {env:Env} {QQ:QC}
theorem ziA (i:Nat) {a:Act} {w:World} (h:Inv n g env H a w):Inv n g env ((i,.dead)::H) a w:=by
 obtain ⟨g1,g2,K,ρ,hf,he⟩:=h
 exact ⟨g1,g2,K,ρ,hf.kill i,he.keeps (.refl K w) fun j hj=>⟨by rw [HEnv.get_cons];split <;> first|rfl|exact hj,rfl⟩⟩
theorem zl7 {t i e sz:Nat} {es:List PV} {a:Act} {w:World} (ht:env.get t=some (.own i)) (hi:H.get i=some (.row e sz es)) (h:Inv n g env H a w):Inv n g ((t,.pv (.slc sz es false))::env) H a w:=by
 obtain ⟨g1,g2,K,ρ,hf,he⟩:=h
 refine ⟨g1,g2,K,ρ,hf,fun t' av hg=>?_⟩
 rw [Env.get_cons] at hg
 split at hg
 ·rename_i e1;subst e1
  simp only [Option.some.injEq] at hg;subst hg
  obtain ⟨v,h1,h2⟩:=he _ _ ht
  exact ⟨v,h1,.pv _ _ (zdl hf hi h2)⟩
 ·exact he _ _ hg
theorem zbz {t i e sz:Nat} {es:List PV} (ht:env.get t=some (.own i)) (hi:H.get i=some (.mrow e sz es)) (k:QQ .ret ((t,.pv (.slc sz es false))::env) ((i,.dead)::(i,.row e sz es)::H)):AW P n g .ret env H QQ :=
 ⟨fun a w hinv=>(zfa k).go a w (ziA i (zl7 ht (by rw [HEnv.get_cons,if_pos rfl]) (zaN hi hinv)))⟩
theorem zj9 {t i j e sz h:Nat} {u:Value} {es:List PV} (ht:env.get t=some (.pv (.base (cut sz u 0 h)))) (hi:H.get i=some (.mrow e sz es)) (hj:H.get j=some (.pin (.own i) u)) (hij:(i==j)=false) (hh:h≤es.length) (h0:0 < es.length) (k:QQ .ret ((t,.pv (.slc sz (es.take h) false))::env) ((i,.dead)::(i,.row e sz es)::H)):AW P n g .ret env H QQ :=
 ⟨fun a w hinv=>(zfa k).go a w (ziA i (zmv (i:=i) (j:=j) ht (by rw [HEnv.get_cons,if_pos rfl]) (by rw [HEnv.get_cons,if_neg (by simpa using hij)];exact hj) hh h0 (zaN hi hinv)))⟩
end
theorem zja (p:Pt) (l:List Pt) (y:Pt):XO p (l++[y])=XO p l++(if zgS y (l.getLastD p) then [] else [y]):=by
 induction l generalizing p with
 | nil=>simp [XO]
 | cons z l ih =>
  rw [List.cons_append,XO,XO,ih z]
  have:(z::l).getLastD p=l.getLastD z:=by cases l <;> rfl
  rw [this]
  split <;> simp
theorem zfe {l:List Pt} {m:Nat} (h1:1≤m) (h:m < l.length):qW (l.take (m + 1))=qW (l.take m)++(if zgS l[m] (l[m - 1]'(by omega)) then [] else [l[m]]):=by
 rw [List.take_succ_eq_append_getElem h]
 cases l with
 | nil=>simp at h
 | cons x l =>
  obtain ⟨m,rfl⟩:∃ k,m=k + 1:=⟨m - 1,by omega⟩
  simp only [List.take_succ_cons,List.cons_append,qW,zja,List.getElem_cons_succ,Nat.add_sub_cancel]
  have:(l.take m).getLastD x=(x::l)[m]:=by
   have hm:m≤l.length:=by simp at h;omega
   cases m with
   | zero=>simp
   | succ m=>simp [List.getLastD_eq_getLast?,List.getLast?_take,show m < l.length by omega]
  rw [this]
theorem zdO (a b:Pt):ACall Tryz.prog 372 [zU a,zU b] (pb (zgS a b)):=by
 refine zf zh Tryz.func372 rfl (by kernel_rfl) Tryz.ntmps372 (by simp) _ rfl (fun hw gB hgB=>?_)
 repeat' (first|refine sA ?_|refine sC (fun _=>?_) (fun _=>?_)|fail)
 all_goals exact retq rfl rfl
abbrev zPt:PV:=.agg [pi 0,pi 0,pi 0,pi 0]
theorem zgV (l:List Pt) (hl:l.length < 20) (us:Nat→Value) :
  ACallM Tryz.prog 371 [.own 0,.pv (.fn (.func 372) [] [])] (Vu us l) (.pv (pts (qW l))) ([(0,.dead)]++zD us [0]):=by
 refine zJ zh Tryz.func371 rfl (by kernel_rfl) Tryz.ntmps371 (by simp) _ rfl (fun gB hw1=>?_)
 by_cases h2:l.length < 2
 ·have hd:decide ((((l.map zU).length:Nat):Int) < 2)=true:=decide_eq_true (by simp;omega)
  have hcp:qW l=l:=by
   cases l with
   | nil=>rfl
   | cons x l=>cases l with
    | nil=>rfl
    | cons y l=>simp at h2;omega
  repeat' (first|refine zbz (t:=4) (i:=0) rfl rfl ?_|(refine zI ?_;first|refine zbd zh rfl rfl rfl rfl rfl rfl rfl ?_)|refine sA ?_|refine sC (fun _=>?_) (fun _=>?_)|fail)
  exact ⟨.inr rfl,.inl ⟨_,rfl,by rw [hcp];rfl,tH⟩⟩
 ·have hd:decide ((((l.map zU).length:Nat):Int) < 2)=false:=decide_eq_false (by simp;omega)
  repeat' (first|refine zbz (t:=4) (i:=0) rfl rfl ?_|(refine zI ?_;first|refine zbd zh rfl rfl rfl rfl rfl rfl rfl ?_)|refine sA ?_|refine sC (fun _=>?_) (fun _=>?_)|fail)
  refine zA (fun i:Nat=>[(0,.own 0),(1,.pv (.fn (.func 372) [] [])),(5,.pv (pi i))]) (fun _=>Vu us l) (fun i=>1≤i∧i≤l.length∧qW (l.take i)=l.take i) (fun i=>l.length - i) 1 ⟨by omega,by omega,by cases l <;> rfl⟩ (tS) tH ?_
  rintro i ⟨hi1,hi2,hci⟩
  by_cases hlt:i < l.length
  ·have hd':decide (((i:Nat):Int) < (((l.map zU).length:Nat):Int))=true:=decide_eq_true (by simp;omega)
   have hln:(l.map zU).length=l.length:=by simp
   have g0:(l.map zU)[i]?=some (zU l[i]):=by simp [hlt]
   have g1:(l.map zU)[i - 1]?=some (zU (l[i - 1]'(by omega))):=by simp [show i - 1 < l.length by omega]
   have h0:i < (l.map zU).length:=by simp [hlt]
   have h1:i - 1 < (l.map zU).length:=by simp;omega
   have hix:IntKind.i64.wrap (((i:Nat):Int) - 1)=((i - 1:Nat):Int):=by rw [wrap_in (by omega) (by omega)];omega
   have hst:=zfe hi1 hlt
   have cb:=zdO l[i] (l[i - 1]'(by omega))
   cases hsame:zgS l[i] (l[i - 1]'(by omega))
   ·rw [hsame] at cb hst
    repeat' (first|refine zq rfl (yB (k:=i) (j:=0) zh rfl rfl rfl rfl g0 rfl) rfl rfl ?_|refine AD.step _ _ _ _ _ rfl (yB (k:=i) (j:=0) zh rfl rfl rfl rfl g0 rfl) rfl rfl ?_|refine zq rfl (yB (k:=i - 1) (j:=0) zh rfl rfl rfl rfl g1 rfl) rfl rfl ?_|refine AD.step _ _ _ _ _ rfl (yB (k:=i - 1) (j:=0) zh rfl rfl rfl rfl g1 rfl) rfl rfl ?_|(refine shC ?_;first|refine qV (cb) ?_)|(refine shX ?_;first|refine zq rfl (yw (k:=i - 1) zh rfl rfl rfl rfl rfl rfl rfl hix h1) rfl rfl ?_|refine AD.step _ _ _ _ _ rfl (yw (k:=i - 1) zh rfl rfl rfl rfl rfl rfl rfl hix h1) rfl rfl ?_|refine zq rfl (yw (k:=i) zh rfl rfl rfl rfl rfl rfl rfl rfl h0) rfl rfl ?_|refine AD.step _ _ _ _ _ rfl (yw (k:=i) zh rfl rfl rfl rfl rfl rfl rfl rfl h0) rfl rfl ?_)|(refine zI ?_;first|refine zbd zh rfl rfl rfl rfl rfl rfl rfl ?_)|refine sK ?_|refine sC (fun _=>?_) (fun _=>?_)|fail)
    exact ⟨i + 1,⟨by omega,by omega,by rw [hst,hci,List.take_succ_eq_append_getElem hlt];rfl⟩,tD,tS,tH⟩
   ·rw [hsame] at cb hst
    repeat' (first|refine zq rfl (yB (k:=i) (j:=0) zh rfl rfl rfl rfl g0 rfl) rfl rfl ?_|refine AD.step _ _ _ _ _ rfl (yB (k:=i) (j:=0) zh rfl rfl rfl rfl g0 rfl) rfl rfl ?_|refine zq rfl (yB (k:=i - 1) (j:=0) zh rfl rfl rfl rfl g1 rfl) rfl rfl ?_|refine AD.step _ _ _ _ _ rfl (yB (k:=i - 1) (j:=0) zh rfl rfl rfl rfl g1 rfl) rfl rfl ?_|refine zaY zh 0 20 rfl rfl rfl rfl rfl rfl rfl rfl rfl (by omega) (by simp only [List.length_map];omega) (by omega) (by simp only [List.length_map];omega) rfl rfl rfl (fun uu=>?_)|(refine shC ?_;first|refine qV (cb) ?_)|(refine shX ?_;first|refine zq rfl (yw (k:=i - 1) zh rfl rfl rfl rfl rfl rfl rfl hix h1) rfl rfl ?_|refine AD.step _ _ _ _ _ rfl (yw (k:=i - 1) zh rfl rfl rfl rfl rfl rfl rfl hix h1) rfl rfl ?_|refine zq rfl (yw (k:=i) zh rfl rfl rfl rfl rfl rfl rfl rfl h0) rfl rfl ?_|refine AD.step _ _ _ _ _ rfl (yw (k:=i) zh rfl rfl rfl rfl rfl rfl rfl rfl h0) rfl rfl ?_)|(refine zI ?_;first|refine zbd zh rfl rfl rfl rfl rfl rfl rfl ?_)|refine sK ?_|refine sC (fun _=>?_) (fun _=>?_)|fail)
    refine zA (fun st:Nat × List Pt=>[(0,.own 0),(1,.pv (.fn (.func 372) [] [])),(5,.pv (pi (qW (l.take (i + st.1))).length)),(6,.pv (.base (cut 4 uu i (l.map zU).length))),(7,.pv (pi st.1))])
     (fun st=>[(0,.mrow 362 4 ((qW (l.take (i + st.1))++(st.2++l.drop (i + st.1 - 1))).map zU)),(20,.pin (.own 0) uu),(1000,.pin (.own 0) (us 0))])
     (fun st=>1≤st.1∧i + st.1≤l.length∧(qW (l.take (i + st.1))).length + st.2.length=i + st.1 - 1) (fun st=>l.length - st.1) (1,[])
     ⟨Nat.le_refl _,hlt,by show (qW (l.take (i + 1))).length + 0=i + 1 - 1;rw [hst,hci];simp;omega⟩
     (by repeat (first|exact yj|refine zY rfl ?_|(refine qL rfl ?_ ?_;· (show ((i:Nat):Int)=(((qW (l.take (i + 1))).length:Nat):Int);rw [hst,hci];simp;omega))))
     ⟨qJ rfl (by show _=(qW (l.take (i + 1))++([]++l.drop (i + 1 - 1))).map zU;rw [hst,hci];simp) (by repeat (first|exact zk|refine zi rfl ?_)),rfl⟩ ?_
    rintro ⟨k,mid⟩ ⟨hk0,hkn,hkl⟩
    change 1≤k at hk0
    change i + k≤l.length at hkn
    change (qW (l.take (i + k))).length + mid.length=i + k - 1 at hkl
    obtain ⟨c,hc⟩:∃ c,c=qW (l.take (i + k)):=⟨_,rfl⟩
    show AW _ _ _ _ [(0,.own 0),(1,.pv (.fn (.func 372) [] [])),(5,.pv (pi (qW (l.take (i + k))).length)),(6,.pv (.base (cut 4 uu i (l.map zU).length))),(7,.pv (pi k))] [(0,.mrow 362 4 ((qW (l.take (i + k))++(mid++l.drop (i + k - 1))).map zU)),(20,.pin (.own 0) uu),(1000,.pin (.own 0) (us 0))] _
    have hcs:=fun h=>zfe (l:=l) (m:=i + k) (by omega) h
    rw [←hc] at hkl hcs ⊢
    obtain ⟨B,hB⟩:∃ B,B=(c++(mid++l.drop (i + k - 1))).map zU:=⟨_,rfl⟩
    rw [←hB]
    have hBl:B.length=l.length:=by rw [hB];simp;omega
    have hB0:0 < B.length:=by omega
    have hh:(l.map zU).length≤B.length:=by rw [hBl];simp
    by_cases hkt:i + k < l.length
    ·have hd2:decide (((k:Nat):Int) < (((l.map zU).length - i:Nat):Int))=true:=decide_eq_true (by simp;omega)
     have hdr:l.drop (i + k - 1)=(l[i + k - 1]'(by omega))::l.drop (i + k):=by rw [List.drop_eq_getElem_cons (by omega)];congr 2;omega
     have hdr2:l.drop (i + k)=l[i + k]::l.drop (i + k + 1):=List.drop_eq_getElem_cons hkt
     have cb:=zdO l[i + k] (l[i + k - 1]'(by omega))
     obtain ⟨y,hy⟩:∃ y,y=l[i + k - 1]'(by omega):=⟨_,rfl⟩
     obtain ⟨x,hx⟩:∃ x,x=l[i + k]:=⟨_,rfl⟩
     have hcs':=hcs hkt
     rw [←hx,←hy] at cb hcs'
     rw [←hy] at hdr
     rw [←hx] at hdr2
     have hB':B=(c++mid).map zU++zU y::zU x::(l.drop (i + k + 1)).map zU:=by rw [hB,hdr,hdr2];simp
     have hcl:((c++mid).map zU).length=i + (k - 1):=by simp;omega
     have gy:B[i + (k - 1)]?=some (zU y):=by rw [hB',List.getElem?_append_right (by omega),hcl];simp
     have gx:B[i + k]?=some (zU x):=by rw [hB',List.getElem?_append_right (by omega),hcl,show i + k - (i + (k - 1))=1 by omega];rfl
     have hk1:i + k < (l.map zU).length:=by simp;omega
     have hk2:i + (k - 1) < (l.map zU).length:=by simp;omega
     have hkx:IntKind.i64.wrap (((k:Nat):Int) - 1)=((k - 1:Nat):Int):=by rw [wrap_in (by omega) (by omega)];omega
     cases hs2:zgS x y
     ·rw [hs2] at cb hcs'
      obtain ⟨z,tl,hz⟩:∃ z tl,mid++[y]=z::tl:=by
       cases mid with
       | nil=>exact ⟨y,[],rfl⟩
       | cons z mid=>exact ⟨z,mid++[y],rfl⟩
      have hB2:B=c.map zU++zU z::(tl++l.drop (i + k)).map zU:=by
       have:c++(mid++y::l.drop (i + k))=c++z::(tl++l.drop (i + k)):=by
        rw [show mid++y::l.drop (i + k)=(mid++[y])++l.drop (i + k) by simp,hz];simp
       rw [hB,hdr,this];simp
      have gz:B[c.length]?=some (zU z):=by rw [hB2,List.getElem?_append_right (by simp)];simp
      have hcB:c.length < B.length:=by omega
      repeat' (first|refine zq rfl (zeD (j:=20) zh rfl rfl rfl rfl rfl hB0) rfl rfl ?_|refine zq rfl (Yb (j:=20) zh (k) rfl rfl rfl rfl rfl rfl rfl rfl rfl hk1 hh) rfl rfl ?_|refine AD.step _ _ _ _ _ rfl (Yb (j:=20) zh (k) rfl rfl rfl rfl rfl rfl rfl rfl rfl hk1 hh) rfl rfl ?_|refine zq rfl (Yb (j:=20) zh (k - 1) rfl rfl rfl rfl rfl rfl rfl rfl hkx hk2 hh) rfl rfl ?_|refine AD.step _ _ _ _ _ rfl (Yb (j:=20) zh (k - 1) rfl rfl rfl rfl rfl rfl rfl rfl hkx hk2 hh) rfl rfl ?_|refine zq rfl (yB (k:=i + k) (j:=0) zh rfl rfl rfl rfl gx rfl) rfl rfl ?_|refine AD.step _ _ _ _ _ rfl (yB (k:=i + k) (j:=0) zh rfl rfl rfl rfl gx rfl) rfl rfl ?_|refine zq rfl (yB (k:=i + (k - 1)) (j:=0) zh rfl rfl rfl rfl gy rfl) rfl rfl ?_|refine AD.step _ _ _ _ _ rfl (yB (k:=i + (k - 1)) (j:=0) zh rfl rfl rfl rfl gy rfl) rfl rfl ?_|(refine shC ?_;first|refine qV (cb) ?_)|(refine shX ?_;first|refine zq rfl (yw (k:=c.length) zh rfl rfl rfl rfl rfl rfl rfl rfl hcB) rfl rfl ?_|refine AD.step _ _ _ _ _ rfl (yw (k:=c.length) zh rfl rfl rfl rfl rfl rfl rfl rfl hcB) rfl rfl ?_)|(refine Yh ?_;first|refine Vb (k:=c.length) (j:=0) zh rfl rfl rfl rfl rfl gz rfl rfl rfl rfl rfl ?_)|refine sK ?_|refine sC (fun _=>?_) (fun _=>?_)|fail)
      have ht:tl.length=mid.length:=by have:=congrArg List.length hz;simp at this;omega
      have hcc:qW (l.take (i + (k + 1)))=c++[x]:=hcs'
      have hnew:B.set c.length (zU x)=(qW (l.take (i + (k + 1)))++(tl++l.drop (i + (k + 1) - 1))).map zU:=by
       rw [hcc,hB2,List.set_append_right _ _ (by simp)];simp
      have e5:IntKind.i64.wrap (((c.length:Nat):Int) + 1)=(((qW (l.take (i + (k + 1)))).length:Nat):Int):=by rw [wrap_in (by omega) (by omega),hcc];simp
      have e7:IntKind.i64.wrap (((k:Nat):Int) + 1)=((k + 1:Nat):Int):=by rw [wrap_in (by omega) (by omega)];omega
      exact ⟨(k + 1,tl),⟨by show 1≤k + 1;omega,by show i + (k + 1)≤l.length;omega,by show (qW (l.take (i + (k + 1)))).length + tl.length=i + (k + 1) - 1;rw [hcc,ht];simp;omega⟩,by show l.length - (k + 1) < l.length - k;omega,by repeat (first|exact yj|refine zY rfl ?_|(refine qL rfl ?_ ?_;· first|exact e5|exact e7)),⟨qJ rfl hnew (by repeat (first|exact zk|refine zi rfl ?_)),rfl⟩⟩
     ·rw [hs2] at cb hcs'
      repeat' (first|refine zq rfl (zeD (j:=20) zh rfl rfl rfl rfl rfl hB0) rfl rfl ?_|refine zq rfl (Yb (j:=20) zh (k) rfl rfl rfl rfl rfl rfl rfl rfl rfl hk1 hh) rfl rfl ?_|refine AD.step _ _ _ _ _ rfl (Yb (j:=20) zh (k) rfl rfl rfl rfl rfl rfl rfl rfl rfl hk1 hh) rfl rfl ?_|refine zq rfl (Yb (j:=20) zh (k - 1) rfl rfl rfl rfl rfl rfl rfl rfl hkx hk2 hh) rfl rfl ?_|refine AD.step _ _ _ _ _ rfl (Yb (j:=20) zh (k - 1) rfl rfl rfl rfl rfl rfl rfl rfl hkx hk2 hh) rfl rfl ?_|refine zq rfl (yB (k:=i + k) (j:=0) zh rfl rfl rfl rfl gx rfl) rfl rfl ?_|refine AD.step _ _ _ _ _ rfl (yB (k:=i + k) (j:=0) zh rfl rfl rfl rfl gx rfl) rfl rfl ?_|refine zq rfl (yB (k:=i + (k - 1)) (j:=0) zh rfl rfl rfl rfl gy rfl) rfl rfl ?_|refine AD.step _ _ _ _ _ rfl (yB (k:=i + (k - 1)) (j:=0) zh rfl rfl rfl rfl gy rfl) rfl rfl ?_|(refine shC ?_;first|refine qV (cb) ?_)|refine sK ?_|refine sC (fun _=>?_) (fun _=>?_)|fail)
      have hcc:qW (l.take (i + (k + 1)))=c:=by rw [show i + (k + 1)=i + k + 1 by omega,hcs'];simp
      have hnew:B=(qW (l.take (i + (k + 1)))++((mid++[y])++l.drop (i + (k + 1) - 1))).map zU:=by
       rw [hcc,hB,hdr];simp
      have e5:((c.length:Nat):Int)=(((qW (l.take (i + (k + 1)))).length:Nat):Int):=by rw [hcc]
      have e7:IntKind.i64.wrap (((k:Nat):Int) + 1)=((k + 1:Nat):Int):=by rw [wrap_in (by omega) (by omega)];omega
      exact ⟨(k + 1,mid++[y]),⟨by show 1≤k + 1;omega,by show i + (k + 1)≤l.length;omega,by show (qW (l.take (i + (k + 1)))).length + (mid++[y]).length=i + (k + 1) - 1;rw [hcc];simp;omega⟩,by show l.length - (k + 1) < l.length - k;omega,by repeat (first|exact yj|refine zY rfl ?_|(refine qL rfl ?_ ?_;· first|exact e5|exact e7)),⟨qJ rfl hnew (by repeat (first|exact zk|refine zi rfl ?_)),rfl⟩⟩
    ·have hd2:decide (((k:Nat):Int) < (((l.map zU).length - i:Nat):Int))=false:=decide_eq_false (by simp;omega)
     have hcB:c.length < B.length:=by omega
     have hcl:c=qW l:=by rw [hc,List.take_of_length_le (by omega)]
     have hfin:(B.take c.length++List.replicate (B.length - c.length) zPt++B.drop (c.length + (B.length - c.length))).take c.length=(qW l).map zU:=by
      rw [List.append_assoc,List.take_append_of_le_length (by simp;omega),List.take_take,Nat.min_self,hB,←hcl];simp
     repeat' (first|refine zq rfl (zeD (j:=20) zh rfl rfl rfl rfl rfl hB0) rfl rfl ?_|refine zaY zh 0 21 rfl rfl rfl rfl rfl rfl rfl rfl rfl (by omega) (by omega) (by omega) (by omega) rfl rfl rfl (fun u2=>?_)|refine zaY zh 0 22 rfl rfl rfl rfl rfl rfl rfl rfl rfl (by omega) (by omega) (by simp only [List.length_append,List.length_take,List.length_replicate,List.length_drop,Int.toNat_natCast];omega) (by simp only [List.length_append,List.length_take,List.length_replicate,List.length_drop,Int.toNat_natCast];omega) rfl rfl rfl (fun u3=>?_)|refine zj9 (t:=4) (i:=0) (j:=22) rfl rfl rfl rfl (by simp only [List.length_append,List.length_take,List.length_replicate,List.length_drop,Int.toNat_natCast];omega) (by simp only [List.length_append,List.length_take,List.length_replicate,List.length_drop,Int.toNat_natCast];omega) ?_|(refine zI ?_;first|refine zew (j:=21) zh rfl rfl rfl rfl rfl rfl (Nat.le_of_lt hcB) (Nat.le_refl _) hB0 rfl rfl rfl rfl ?_)|refine sK ?_|refine sC (fun _=>?_) (fun _=>?_)|fail)
     exact ⟨.inr rfl,.inl ⟨_,rfl,by rw [pts,←hfin];rfl,tH⟩⟩
  ·have hd':decide (((i:Nat):Int) < (((l.map zU).length:Nat):Int))=false:=decide_eq_false (by simp;omega)
   have hcp:qW l=l:=by rw [List.take_of_length_le (by omega)] at hci;exact hci
   repeat' (first|refine zbz (t:=4) (i:=0) rfl rfl ?_|(refine zI ?_;first|refine zbd zh rfl rfl rfl rfl rfl rfl rfl ?_)|refine sA ?_|refine sC (fun _=>?_) (fun _=>?_)|fail)
   exact ⟨.inr rfl,.inl ⟨_,rfl,by rw [hcp];rfl,tH⟩⟩
set_option maxHeartbeats 20000000
theorem zgZ (x:Pt) (at_:Int):ACall Tryz.prog 368 [.agg [pi x.f,pi x.t],pi at_] (pb (zd7 at_ x)):=by
 refine zf zh Tryz.func368 rfl (by kernel_rfl) Tryz.ntmps368 (by simp) _ rfl (fun hw gB hgB=>?_)
 repeat' (first|refine sA ?_|refine sC (fun _=>?_) (fun _=>?_)|fail)
 all_goals (refine retq rfl ?_;simp_all [zl,zd7];try omega)
theorem zbF (l:List Cl) (at_:Int) (hl:l.length≤6) (hs:∀ x∈zcN at_ l,SmP x):ACall Tryz.prog 318 [cls l,pi at_] (pts (VQ l at_)):=by
 have hlen:(zcN at_ l).length < 20:=by have:=za6 at_ l l.length;rw [zcN];omega
 have hso:∀ us,ACallM _ _ _ _ _ _ _:=fun us=>zkQ (zcN at_ l) hlen hs us
 have hco:∀ us,ACallM _ _ _ _ _ _ _:=fun us=>zgV (YZ (zcN at_ l)) (by rw [zcP];exact hlen) us
 refine zf zh Tryz.func318 rfl (by kernel_rfl) Tryz.ntmps318 (by simp) _ rfl (fun hw gB hgB=>?_)
 repeat' (first|refine zdx (t:=5) 0 362 4 (by decide) rfl rfl ?_|refine sA ?_|refine sC (fun _=>?_) (fun _=>?_)|fail)
 refine zA (fun k:Nat=>[(1,.pv (pi at_)),(5,.own 0),(10,.pv (cls l)),(11,.pv (pi l.length)),(12,.pv (pi k))]) (fun k=>mrP (zcI at_ l k)) (fun k=>k≤l.length) (fun k=>l.length - k) 0 (by omega) (tS) ⟨qJ rfl rfl zk,rfl⟩ ?_
 rintro k hk
 by_cases hlt:k < l.length
 ·have he:(l.map Yr)[k]?=some (Yr (l.getD k default)):=zlO hlt
  have cp:=WI k (l.getD k default)
  have hal:=za6 at_ l k
  have hpl:=zfj k (l.getD k default)
  have hnext:zcI at_ l (k + 1)=zcI at_ l k++(zS k (l.getD k default)).filter (zd7 at_):=rfl
  obtain ⟨p,hp⟩:∃ p,p=zS k (l.getD k default):=⟨_,rfl⟩
  rw [←hp] at cp hpl hnext
  repeat' (first|(refine shC ?_;first|refine qC cp ?_)|(refine shX ?_;first|refine qX he ?_)|refine sK ?_|refine sC (fun _=>?_) (fun _=>?_)|fail)
  refine zA (fun j:Nat=>[(1,.pv (pi at_)),(5,.own 0),(10,.pv (cls l)),(11,.pv (pi l.length)),(12,.pv (pi k)),(19,.pv (pts p)),(20,.pv (pi p.length)),(21,.pv (pi j))]) (fun j=>mrP (zcI at_ l k++(p.take j).filter (zd7 at_))) (fun j=>j≤p.length) (fun j=>p.length - j) 0 (by omega) (tS) ⟨qJ rfl (by simp) zk,rfl⟩ ?_
  rintro j hj
  by_cases hlj:j < p.length
  ·have hej:=yI (f:=zU) hlj
   obtain ⟨x,hx⟩:∃ x,x=p[j]:=⟨_,rfl⟩
   have hst:(p.take (j + 1)).filter (zd7 at_)=(p.take j).filter (zd7 at_)++if zd7 at_ x then [x] else []:=by
    rw [List.take_succ_eq_append_getElem hlj,List.filter_append,←hx]
    cases h:zd7 at_ x <;> simp [List.filter,h]
   rw [←hx] at hej
   have ch:=zgZ x at_
   have hfl:=List.length_filter_le (zd7 at_) (p.take j)
   have htl:(p.take j).length≤3:=by simp;omega
   cases hh:zd7 at_ x
   ·rw [hh] at ch hst
    repeat' (first|(refine shC ?_;first|refine qC ch ?_)|(refine shX ?_;first|refine qX hej ?_)|(refine zI ?_;first|refine Qs zh rfl rfl rfl rfl rfl rfl rfl (by show _ * 32≤_;simp;omega) (by simp;omega) rfl rfl ?_)|refine sK ?_|refine sC (fun _=>?_) (fun _=>?_)|fail)
    exact ⟨j + 1,hlj,tD,tS,⟨qJ rfl (by rw [hst];simp) zk,rfl⟩⟩
   ·rw [hh] at ch hst
    repeat' (first|(refine shC ?_;first|refine qC ch ?_)|(refine shX ?_;first|refine qX hej ?_)|(refine zI ?_;first|refine Qs zh rfl rfl rfl rfl rfl rfl rfl (by show _ * 32≤_;simp;omega) (by simp;omega) rfl rfl ?_)|refine sK ?_|refine sC (fun _=>?_) (fun _=>?_)|fail)
    exact ⟨j + 1,hlj,tD,tS,⟨qJ rfl (by rw [hst];simp) zk,rfl⟩⟩
  ·repeat' (first|refine sK ?_|refine sC (fun _=>?_) (fun _=>?_)|fail)
   exact ⟨k + 1,hlt,tD,tS,⟨qJ rfl (by rw [hnext,List.take_of_length_le (by omega)]) zk,rfl⟩⟩
 ·have hk2:k=l.length:=by omega
  subst hk2
  repeat' (first|(refine zQ ?_;first|(refine Zu (mrP (zcN at_ l)) (mrP (YZ (zcN at_ l))) [] [(5,.own 0)] [0] yc rfl rfl rfl ?_ tS rfl rfl rfl hso ?_;· (repeat (first|exact zk|refine zi rfl ?_)))|(refine Zu (mrP (YZ (zcN at_ l))) ([(0,.dead)]) [] [] [0] yc rfl rfl rfl ?_ tS rfl rfl rfl hco ?_;· (repeat (first|exact zk|refine zi rfl ?_))))|refine sK ?_|refine sC (fun _=>?_) (fun _=>?_)|fail)
  exact retq rfl rfl
set_option maxHeartbeats 20000000

/-! guard: what is small -/
abbrev kTg (k:Int):Ty:=⟨k,0,0,false⟩
def zeW (t:Ty):Ty:=if object t then kTg 4 else t
theorem VN (k:Int):ACall Tryz.prog 92 [pi k] (yA (kTg k)):=by
  refine zf zh Tryz.func92 rfl (by kernel_rfl) Tryz.ntmps92 (by simp) _ rfl (fun hw gB hgB=>?_)
  repeat' (first|refine sK ?_|refine sC (fun _=>?_) (fun _=>?_)|fail)
  exact retq rfl rfl
theorem zb8:ACall Tryz.prog 175 [] (yA (kTg 4)):=by
  refine zf zh Tryz.func175 rfl (by kernel_rfl) Tryz.ntmps175 (by simp) _ rfl (fun hw gB hgB=>?_)
  repeat' (first|(refine shC ?_;first|refine qC (VN 4) ?_)|refine sK ?_|refine sC (fun _=>?_) (fun _=>?_)|fail)
  exact retq rfl rfl
theorem zke (t:Ty):ACall Tryz.prog 91 [yA t] (yA (zeW t)):=by
  have c1:=zdz t
  unfold zeW
  generalize object t=b at c1
  refine zf zh Tryz.func91 rfl (by kernel_rfl) Tryz.ntmps91 (by simp) _ rfl (fun hw gB hgB=>?_)
  cases b
  · repeat' (first|(refine shC ?_;first|refine qC c1 ?_|refine qC zb8 ?_)|refine sK ?_|refine sC (fun _=>?_) (fun _=>?_)|fail)
    exact retq rfl rfl
  · repeat' (first|(refine shC ?_;first|refine qC c1 ?_|refine qC zb8 ?_)|refine sK ?_|refine sC (fun _=>?_) (fun _=>?_)|fail)
    exact retq rfl rfl
theorem QF {b:Bool} (h:b=true):ACall Tryz.prog 95 [pb b] (.tup []):=by
  subst h
  refine zf zh Tryz.func95 rfl (by kernel_rfl) Tryz.ntmps95 (by simp) _ rfl (fun hw gB hgB=>?_)
  repeat' (first|refine sK ?_|refine sC (fun _=>?_) (fun _=>?_)|fail)
  exact zcp rfl rfl

/-! the machine's memory -/
/-- a machine: of the image g,with so many frames at most;its frames' row is fr;how it has ended: ek,ew -/
abbrev mcC (g:Img) (lim:Int) (fr:AV) (ek:Int) (ew:PV) (shp:List PV):AV :=
  .agg [.pv (.slc 4 (g.types.map qx) false),.pv (.slc 7 (g.fields.map Zc) false),.pv (.slc 12 (g.methods.map zM) false),.pv (pi g.entry),.box 0 0,.own 11,.pv (pi lim),fr,.pv (.base (.slice none 0 0)),.pv (.base (.slice none 0 0)),
    .pv (pi ek),.pv (pi 0),.pv (pi 0),.pv (pi 0),.pv (pb false),.pv ew,.pv (.slc 3 shp false),.pv (.base (.slice none 0 0)),.own 13]
/-- a frame: its method,its place,its base,its stack -/
abbrev frC (k at_ base:Int) (st:AV):AV :=
  .agg [.pv (pi k),.pv (pi at_),.pv (.base (.int .u64 base)),st,.pv (.base (.int .u64 0)),.pv (pb false),.pv (.base (.slice none 0 0)),.pv (.base (.int .u64 0)),.pv (.base (.int .u64 0)),.pv (.base (.int .u64 0)),.pv (.base (.int .u64 0)),.pv (.base (.int .u64 0)),.pv (.base (.int .u64 0)),.pv (.base (.pointer none))]
/-- all that a machine owns but its frames' stack -/
abbrev mH (g:Img) (lim:Int) (shp o1 o2:List PV) (fa hp fr us:Int) (ws tg:List PV) (X8 X13:Obj→Prop) (k at_ base:Int) (st:AV) (u:Value):HEnv :=
  [(10,.cell (mcC g lim (.own 12) 0 (.base (.slice none 0 0)) shp)),(12,.mrow 112 1 [.base u]),(20,.cell (frC k at_ base st)),(120,.pin (.box 20 0) u),
   (0,.cell (.agg [.own 7,.pv (.slc 1 o1 false),.pv (.slc 1 o2 false),.own 8,.pv (.base (.int .u64 fa)),.pv (.base (.int .u64 hp)),.pv (.base (.int .u64 fr)),.pv (pi us)])),(7,.mrow 102 1 ws),(8,.obj X8),(11,.mrow 44 4 tg),(13,.obj X13)]
abbrev zC:PV:=.base (.slice none 0 0)
section
variable (g:Img) (lim:Int) (shp o1 o2:List PV) (fa hp fr us:Int) (ws tg:List PV) (X8 X13:Obj→Prop) (k at_ base:Int) (u:Value)
abbrev yX:List Nat:=[10,12,20,120,0,7,8,11,13]
theorem Zm (st:PV) (hk:0≤k) (hl:k.toNat < g.methods.length) (vs:Nat→Value) :
    ACallM Tryz.prog 48 [.box 10 0,.box 20 0] (mH g lim shp o1 o2 fa hp fr us ws tg X8 X13 k at_ base (.pv st) u++zD vs yX) (.pv (zM (g.methods.getD k.toNat default))) (mH g lim shp o1 o2 fa hp fr us ws tg X8 X13 k at_ base (.pv st) u++zD vs yX):=by
  have he:(g.methods.map zM)[k.toNat]?=some (zM (g.methods.getD k.toNat default)):=by rw [zV hl];exact yI hl
  refine zJ zh Tryz.func48 rfl (by kernel_rfl) Tryz.ntmps48 (by simp) _ rfl (fun gB hw1=>?_)
  repeat' (first|refine yP 12 11 rfl (by kernel_rfl) (by kernel_rfl) (by kernel_rfl) (by kernel_rfl) (by kernel_rfl) ?_|(refine shX ?_;first|refine zq rfl (zn zh rfl rfl rfl rfl rfl rfl hk he) rfl rfl ?_|refine AD.step _ _ _ _ _ rfl (zn zh rfl rfl rfl rfl rfl rfl hk he) rfl rfl ?_)|refine sK ?_|refine sC (fun _=>?_) (fun _=>?_)|fail)
  exact ⟨.inr rfl,.inl ⟨_,rfl,rfl,⟨by repeat (first|exact zk|refine zi rfl ?_),rfl⟩⟩⟩
abbrev yR (o1 o2:List PV) (fa hp fr us:Int) (ws:List PV) (v8:Value):PV:=.agg [.slc 1 ws false,.slc 1 o1 false,.slc 1 o2 false,.base v8,.base (.int .u64 fa),.base (.int .u64 hp),.base (.int .u64 fr),pi us]
/-- a machine that is read -/
abbrev Ym (fs:List PV) (M:PV) (v13:Value) (ek:Int) (ew:PV):PV :=
  .agg [.slc 4 (g.types.map qx) false,.slc 7 (g.fields.map Zc) false,.slc 12 (g.methods.map zM) false,pi g.entry,.ptr M 0,.slc 4 tg false,pi lim,.slc 1 fs false,.base (.slice none 0 0),.base (.slice none 0 0),
    pi ek,pi 0,pi 0,pi 0,pb false,ew,.slc 3 shp false,.base (.slice none 0 0),.base v13]
theorem zW (M:PV) (v13:Value) (ek:Int) (ew:PV):ACall Tryz.prog 46 [.ptr (Ym g lim shp tg [.base u] M v13 ek ew) 0] (.base u):=by
  refine zf zh Tryz.func46 rfl (by kernel_rfl) Tryz.ntmps46 (by simp) _ rfl (fun hw gB hgB=>?_)
  have h0:(0:Int)≤IntKind.i64.wrap (([PV.base u].length:Nat) - 1:Int):=Int.le_refl 0
  have he:[PV.base u][(IntKind.i64.wrap (([PV.base u].length:Nat) - 1:Int)).toNat]?=some (.base u):=rfl
  repeat' (first|(refine shX ?_;first|refine zq rfl (zn zh rfl rfl rfl rfl rfl rfl h0 he) rfl rfl ?_|refine AD.step _ _ _ _ _ rfl (zn zh rfl rfl rfl rfl rfl rfl h0 he) rfl rfl ?_)|refine sK ?_|refine sC (fun _=>?_) (fun _=>?_)|fail)
  exact retq rfl rfl
end
section
variable (g:Img) (lim:Int) (shp o1 o2:List PV) (fa hp fr us:Int) (ws tg:List PV) (X8 X13:Obj→Prop) (k at_ base:Int) (u:Value)
set_option maxHeartbeats 1000000 in
theorem zkS (t:Ty) (ql:List PV) (fq:Bool) (hk:0≤k) (hl:k.toNat < g.methods.length) (hmax:0 < (g.methods.getD k.toNat default).max) (vs:Nat→Value) :
  ACallM Tryz.prog 178 [.box 10 0,.pv (yA t),.pv (.slc 1 ql fq)] (mH g lim shp o1 o2 fa hp fr us ws tg X8 X13 k at_ base (.pv zC) u++zD vs yX) (.pv (.tup [])) (mH g lim shp o1 o2 fa hp fr us ws tg X8 X13 k at_ base (.pv (.slc 5 [.agg [pi (zeW t).kind,pi (zeW t).index,pi (zeW t).dims,pb (zeW t).ref,.slc 1 ql fq]] false)) u++zD vs yX):=by
 have ch:=zke t
 have hmx:decide (((0:Nat):Int) < (g.methods.getD k.toNat default).max)=true:=decide_eq_true hmax
 have cm:=fun vs=>Zm g lim shp o1 o2 fa hp fr us ws tg X8 X13 k at_ base u zC hk hl vs
 generalize g.methods.getD k.toNat default=m at *
 refine zJ zh Tryz.func178 rfl (by kernel_rfl) Tryz.ntmps178 (by simp) _ rfl (fun gB hw1=>?_)
 repeat' (first|refine zq (r:=.pv (.base u)) rfl (yx (args:=fun ρ=>[.ptr (Ym g lim shp tg [.base u] (yR o1 o2 fa hp fr us ws (ρ 8)) (ρ 13) 0 zC) 0]) rfl (fun _=>rfl) (fun ρ=>zW g lim shp tg u (yR o1 o2 fa hp fr us ws (ρ 8)) (ρ 13) 0 zC)) rfl rfl ?_|refine AD.step _ _ _ (.pv (.base u)) _ rfl (yx (args:=fun ρ=>[.ptr (Ym g lim shp tg [.base u] (yR o1 o2 fa hp fr us ws (ρ 8)) (ρ 13) 0 zC) 0]) rfl (fun _=>rfl) (fun ρ=>zW g lim shp tg u (yR o1 o2 fa hp fr us ws (ρ 8)) (ρ 13) 0 zC)) rfl rfl ?_|refine Yf 6 120 rfl rfl ?_|refine WJ 11 10 7 (mH g lim shp o1 o2 fa hp fr us ws tg X8 X13 k at_ base (.pv zC) u++zD vs yX) (mH g lim shp o1 o2 fa hp fr us ws tg X8 X13 k at_ base (.pv zC) u++zD vs yX) (mH g lim shp o1 o2 fa hp fr us ws tg X8 X13 k at_ base (.pv zC) u++zD vs yX) (.pv (zM m)) none rfl (by kernel_rfl) (by kernel_rfl) (by kernel_rfl) (by kernel_rfl) (by kernel_rfl) rfl (by kernel_rfl) rfl rfl (fun _ _ _ h=>h) (fun _ _ _ h=>h) rfl tH rfl rfl (fun v hv=>by cases hv) ?_|refine ⟨⟨rfl,Wn (mH g lim shp o1 o2 fa hp fr us ws tg X8 X13 k at_ base (.pv zC) u) (mH g lim shp o1 o2 fa hp fr us ws tg X8 X13 k at_ base (.pv zC) u) (zD vs yX) yX yc rfl rfl (fun _ _ h=>h) rfl rfl rfl rfl cm⟩,?_⟩|intro _|refine Xd ?_|refine yP 14 13 rfl (by kernel_rfl) (by kernel_rfl) (by kernel_rfl) (by kernel_rfl) (by kernel_rfl) ?_|refine AD.step _ _ _ _ _ rfl (YA zh rfl rfl (.inr ⟨rfl,rfl⟩) rfl rfl (by show _ * 56≤_;simp) (by simp [maxLen])) rfl rfl ?_|(refine shC ?_;first|refine qC (QF hmx) ?_|refine qC ch ?_)|refine sK ?_|refine sC (fun _=>?_) (fun _=>?_)|fail)
 exact ⟨.inl rfl,.inl ⟨[],rfl,rfl,⟨by repeat (first|exact zk|refine zi rfl ?_),rfl⟩⟩⟩
end
section
variable (g:Img) (lim:Int) (shp o1 o2:List PV) (fa hp fr us:Int) (ws tg:List PV) (X8 X13:Obj→Prop) (k at_ base:Int) (u:Value)
abbrev Za (t:Ty) (ql:List PV) (fq:Bool):PV:=.agg [pi t.kind,pi t.index,pi t.dims,pb t.ref,.slc 1 ql fq]
set_option maxHeartbeats 1000000 in
theorem zl2 (t:Ty) (ql:List PV) (fq:Bool) (vs:Nat→Value) :
  ACallM Tryz.prog 190 [.box 10 0] (mH g lim shp o1 o2 fa hp fr us ws tg X8 X13 k at_ base (.pv (.slc 5 [Za t ql fq] false)) u++zD vs yX) (.pv (Za t ql fq)) (mH g lim shp o1 o2 fa hp fr us ws tg X8 X13 k at_ base (.pv (.slc 5 [] true)) u++zD vs yX):=by
 have h0:(0:Int)≤IntKind.i64.wrap (([Za t ql fq].length:Nat) - 1:Int):=Int.le_refl 0
 have he:[Za t ql fq][(IntKind.i64.wrap (([Za t ql fq].length:Nat) - 1:Int)).toNat]?=some (Za t ql fq):=rfl
 have h1:IntKind.i64.wrap (([Za t ql fq].length:Nat) - 1:Int)≤(([Za t ql fq].length:Nat):Int):=by show (0:Int)≤1;decide
 refine zJ zh Tryz.func190 rfl (by kernel_rfl) Tryz.ntmps190 (by simp) _ rfl (fun gB hw1=>?_)
 repeat' (first|refine zq (r:=.pv (.base u)) rfl (yx (args:=fun ρ=>[.ptr (Ym g lim shp tg [.base u] (yR o1 o2 fa hp fr us ws (ρ 8)) (ρ 13) 0 zC) 0]) rfl (fun _=>rfl) (fun ρ=>zW g lim shp tg u (yR o1 o2 fa hp fr us ws (ρ 8)) (ρ 13) 0 zC)) rfl rfl ?_|refine AD.step _ _ _ (.pv (.base u)) _ rfl (yx (args:=fun ρ=>[.ptr (Ym g lim shp tg [.base u] (yR o1 o2 fa hp fr us ws (ρ 8)) (ρ 13) 0 zC) 0]) rfl (fun _=>rfl) (fun ρ=>zW g lim shp tg u (yR o1 o2 fa hp fr us ws (ρ 8)) (ρ 13) 0 zC)) rfl rfl ?_|refine Yf 3 120 rfl rfl ?_|refine zq rfl (znG zh rfl rfl rfl rfl rfl rfl rfl h0 h1) rfl rfl ?_|(refine shC ?_;first|refine qC (QF rfl) ?_)|(refine shX ?_;first|refine zq rfl (zn zh rfl rfl rfl rfl rfl rfl h0 he) rfl rfl ?_|refine AD.step _ _ _ _ _ rfl (zn zh rfl rfl rfl rfl rfl rfl h0 he) rfl rfl ?_)|refine sK ?_|refine sC (fun _=>?_) (fun _=>?_)|fail)
 exact ⟨.inr rfl,.inl ⟨_,rfl,rfl,⟨by repeat (first|exact zk|refine zi rfl ?_),rfl⟩⟩⟩
end
set_option maxHeartbeats 20000000
section
variable (g:Img) (lim:Int) (shp o1 o2:List PV) (fa hp fr us:Int) (ws tg:List PV) (X8 X13:Obj→Prop) (k at_ base:Int) (u:Value)
theorem zjl (fs:List PV) (M:PV) (v13:Value) (ek:Int) (ew:PV) (t t2:Ty) (ql:List PV) (fq:Bool) (h:object t2=false) :
  ACall Tryz.prog 208 [.ptr (Ym g lim shp tg fs M v13 ek ew) 0,Za t ql fq,yA t2] (pb (tyB t t2)):=by
 have c1:=zdz t2
 rw [h] at c1
 refine zf zh Tryz.func208 rfl (by kernel_rfl) Tryz.ntmps208 (by simp) _ rfl (fun hw gB hgB=>?_)
 repeat' (first|(refine shC ?_;first|refine qC c1 ?_)|refine sK ?_|refine sC (fun _=>?_) (fun _=>?_)|fail)
 exact retq rfl rfl
theorem zkM (t:Ty) (ql:List PV) (fq:Bool) (h:object t=false) (hb:tyB t t=true) (vs:Nat→Value) :
  ACallM Tryz.prog 181 [.box 10 0,.pv (yA t)] ((mH g lim shp o1 o2 fa hp fr us ws tg X8 X13 k at_ base (.pv (.slc 5 [Za t ql fq] false)) u)++zD vs yX) (.pv (Za t ql fq)) ((mH g lim shp o1 o2 fa hp fr us ws tg X8 X13 k at_ base (.pv (.slc 5 [] true)) u)++zD vs yX):=by
 have cp:=zl2 g lim shp o1 o2 fa hp fr us ws tg X8 X13 k at_ base u t ql fq
 refine zJ zh Tryz.func181 rfl (by kernel_rfl) Tryz.ntmps181 (by simp) _ rfl (fun gB hw1=>?_)
 repeat' (first|refine zq (r:=.pv (pb (tyB t t))) rfl (yx (args:=fun ρ=>[.ptr (Ym g lim shp tg [.base u] (yR o1 o2 fa hp fr us ws (ρ 8)) (ρ 13) 0 zC) 0,Za t ql fq,yA t]) rfl (fun _=>rfl) (fun ρ=>zjl g lim shp tg [.base u] (yR o1 o2 fa hp fr us ws (ρ 8)) (ρ 13) 0 zC t t ql fq h)) rfl rfl ?_|refine AD.step _ _ _ (.pv (pb (tyB t t))) _ rfl (yx (args:=fun ρ=>[.ptr (Ym g lim shp tg [.base u] (yR o1 o2 fa hp fr us ws (ρ 8)) (ρ 13) 0 zC) 0,Za t ql fq,yA t]) rfl (fun _=>rfl) (fun ρ=>zjl g lim shp tg [.base u] (yR o1 o2 fa hp fr us ws (ρ 8)) (ρ 13) 0 zC t t ql fq h)) rfl rfl ?_|(refine shC ?_;first|refine qC (QF hb) ?_)|(refine zQ ?_;first|(refine Zu ((mH g lim shp o1 o2 fa hp fr us ws tg X8 X13 k at_ base (.pv (.slc 5 [Za t ql fq] false)) u)) ((mH g lim shp o1 o2 fa hp fr us ws tg X8 X13 k at_ base (.pv (.slc 5 [] true)) u)) ((1,.cell (.pv (.agg [pi 0,pi 0,pi 0,pb false,zC])))::zD vs yX) [(0,.box 10 0),(3,.pv (.ptr (yA t) 0)),(4,.box 1 0)] yX yc rfl rfl rfl ?_ tS rfl rfl rfl cp ?_;· (repeat (first|exact zk|refine zi rfl ?_))))|refine sK ?_|refine sC (fun _=>?_) (fun _=>?_)|fail)
 exact ⟨.inr rfl,.inl ⟨_,rfl,rfl,⟨by repeat (first|exact zk|refine zi rfl ?_),rfl⟩⟩⟩
end
end Go.Cg
