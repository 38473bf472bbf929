/- A part of the walks by abstract values: no statement of its own. -/
import Derived.Test.YtdlokcmodgccnaaGreatU27
import Derived.Test.YtdlokcmodgccnaaGreatU7
import Derived.Test.YtdlokcmodgccnaaGreatU17
import Derived.Test.YtdlokcmodgccnaaGreatU22
import Derived.Test.YtdlokcmodgccnaaGreatU25
import Derived.Test.YtdlokcmodgccnaaGreatU28
set_option linter.unusedVariables false
set_option linter.unusedSimpArgs false
namespace Go.Cg
open Go.RowKit
section
variable {P:Program} {tb:Tab} {g:Base} {K:KK} {w:World} {ρ:Nat→Value} {H:HEnv} {env:Env} {a:Act} {o:Oper}
theorem zdP (htb:qc P tb) {ty:Nat} {x y:Operand} {i off:Nat} {c v r:AV} (hop:o.op=.store ty x y) (hx:env.val x=some (.box i off)) (hi:H.get i=some (.cell c)) (hy:env.val y=some v) (hr:zcZ tb H ty c off v=some r) (hk:tb.known ty=true) (hn:zda H c=true) :
  EStepN P g H ((i,.cell r)::H) H ((i,.cell r)::H) o env (.pv (.tup [])) none:=by
 refine ⟨fun K ρ a w hf hv=>.inr ⟨rfl,?_⟩⟩
 obtain ⟨w',hrun,hf',hlat⟩:=zic (a:=a) htb hop hi hr hk hn hf (hv x (by rw [hop];simp [Op.operands]) _ hx) (hv y (by rw [hop];simp [Op.operands]) _ hy)
 exact ⟨undef,w',K,ρ,.inr ⟨hrun,rfl⟩,hf',hlat,fun _ _=>rfl,Vu⟩
theorem Vd (htb:qc P tb) {ty:Nat} (i:Nat) (hop:o.op=.alloc ty) {z:Value} (hz:tb.zero ty=some z) {za:AV} (hza:zbg z=some za) (hi:H.get i=none):EStepN P g H ((i,.cell za)::H) H ((i,.cell za)::H) o env (.box i 0) none:=by
 refine ⟨fun K ρ a w hf hv=>.inr ⟨rfl,?_⟩⟩
 obtain ⟨v,w',hrun,hev,hf',hr⟩:=zis (a:=a) htb i hop hz hza hi hf
 exact ⟨v,w',K,_,.inl hrun,hf',hev.later hf.lt,fun j hj=>(Zb hi (.cell za) v j hj).2,hr⟩
end
section
variable {P:Program} {n:Nat} {g:Base} {H:HEnv} {env:Env} {o:Oper} {c:Code} {QQ:QC} {r:AV}
theorem zho (h:QStep P g H o env r):EStepN P g H H H H o env r none:=by
 refine ⟨fun K ρ a w hf hv=>?_⟩
 have hq:=h.go K ρ a w hf hv
 generalize hr:(execOp a.eval o).run P w=res at hq
 unfold zdH at hq
 split at hq
 ·obtain ⟨K',h1,h2⟩:=hq
  exact .inr ⟨rfl,_,_,K',ρ,.inl rfl,hf.evo h1,h1.later hf.lt,fun _ _=>rfl,h2⟩
 ·obtain ⟨rfl,hc⟩:=hq
  exact .inl ⟨_,_,rfl,hc.mono fun e w' ⟨v,K',h1,h2,h3⟩=>⟨v,K',ρ,h1,hf.evo h2,h2.later hf.lt,fun _ _=>rfl,h3⟩⟩
 ·exact hq.elim
theorem zr4 {es ds:List PV} (h:PCL es ds) {i:Nat} {d:PV} (hd:ds[i]?=some d):∃ e,es[i]?=some e∧PTL e.cells d.cells:=by
 have:i < es.length:=by rw [h.1];exact (List.getElem?_eq_some_iff.1 hd).1
 exact ⟨_,List.getElem?_eq_getElem this,h.2 i _ d (List.getElem?_eq_getElem this) hd⟩
theorem zlp {K:KK} {w:World} {sz:Nat} {es ds:List PV} {xs:List Value} (h:PCL es ds) (hc:CellsRel K w sz es xs):CellsRel K w sz ds xs:=fun i d hd=>by
 obtain ⟨e,he,hp⟩:=zr4 h hd
 obtain ⟨c1,c2⟩:=hc i e he
 refine ⟨by rw [←hp.1];exact c1,fun k c hk=>?_⟩
 have hk':k < e.cells.length:=by rw [hp.1];exact (List.getElem?_eq_some_iff.1 hk).1
 obtain ⟨v,v1,v2,v3⟩:=c2 k _ (List.getElem?_eq_getElem hk')
 exact ⟨v,v1,v2,hp.2 k _ c (List.getElem?_eq_getElem hk') hk K w v v3⟩
theorem zej (i:Nat) {t sz:Nat} {es ds:List PV} (hi:H.get i=some (.mrow t sz es)) (e:PCL es ds) (k:AW P n g c env ((i,.mrow t sz ds)::H) QQ):AW P n g c env H QQ:=by
 refine ⟨fun a w hinv=>?_⟩
 obtain ⟨g1,g2,K,ρ,hf,he⟩:=hinv
 have hget:∀ m hh,HEnv.get ((i,.mrow t sz ds)::H) m=some hh→(m=i∧hh=.mrow t sz ds)∨H.get m=some hh:=by
  intro m hh hm
  rw [HEnv.get_cons] at hm
  split at hm
  ·rename_i e;subst e;simp only [Option.some.injEq] at hm;exact .inl ⟨rfl,hm.symm⟩
  ·exact .inr hm
 have hold:∀ m hh,HEnv.get ((i,.mrow t sz ds)::H) m=some hh→hh.live=true→∃ h2,H.get m=some h2∧h2.live=true:=fun m hh hm hl=>by
  rcases hget m hh hm with ⟨rfl,rfl⟩|h
  ·exact ⟨_,hi,rfl⟩
  ·exact ⟨_,h,hl⟩
 have hkk:∀ m,(H.get m).isSome=true→(HEnv.get ((i,.mrow t sz ds)::H) m).isSome=true∧ρ m=ρ m:=fun m hm=>⟨by
  rw [HEnv.get_cons];split <;> first|rfl|exact hm,rfl⟩
 refine k.go a w ⟨g1,g2,K,ρ,⟨hf.below,hf.old,hf.new,hf.lt,hf.others,hf.pt,fun m hh bb hm hl hb=>?_,fun m hh hm=>?_,fun m m' hh hh' bb hmm hm hm' l1 l2 b1 b2=>?_⟩,he.keeps (.refl K w) hkk⟩
 ·obtain ⟨h2,q1,q2⟩:=hold m hh hm hl
  exact hf.away m h2 bb q1 q2 hb
 ·rcases hget m hh hm with ⟨rfl,rfl⟩|h
  ·obtain ⟨xs,q1,q2,q3,q4⟩:=hf.heap.ok m _ hi
   exact ⟨xs,by rw [←e.1];exact q1,q2,zlp e q3,q4⟩
  ·exact (hf.heap.ok m hh h).keeps (.refl hf.lt) hf.lt hkk
 ·obtain ⟨h2,q1,q2⟩:=hold m hh hm l1
  obtain ⟨h3,q3,q4⟩:=hold m' hh' hm' l2
  exact hf.heap.apart m m' h2 h3 bb hmm q1 q3 q2 q4 b1 b2
end
theorem zlw {P:Program} {f:FuncId} {args:List AV} {H H':HEnv} {r:AV} {lone:Bool} (ps:List Nat) (hps:(ps.all fun i=>(H.get i).isSome)=true) (h:∀ us,ACallM P f args (H++qx us ps) r H' lone):ACallM P f args H r H' lone:=by
 refine ⟨(h fun _=>undef).stands,fun g K ρ w vs hw1 hf hv=>?_⟩
 have hkk:∀ j,(H.get j).isSome=true→(HEnv.get (H++qx ρ ps) j).isSome=true∧ρ j=ρ j:=fun j hj=>⟨yE j hj,rfl⟩
 have hget:∀ i x,HEnv.get (H++qx ρ ps) i=some x→H.get i=some x∨(i - 1000∈ps∧x=.pin (.own (i - 1000)) (ρ (i - 1000))):=fun i x hx=>by
  rw [get_append] at hx
  cases hh:H.get i with
  | some y=>rw [hh] at hx;exact .inl hx
  | none=>rw [hh] at hx;exact .inr (QD hx).2
 have hl:∀ i x,HEnv.get (H++qx ρ ps) i=some x→x.live=true→H.get i=some x:=fun i x hx hlv=>by
  rcases hget i x hx with h|⟨_,rfl⟩
  ·exact h
  ·simp [HE.live] at hlv
 refine (h ρ).calls g K ρ w vs hw1 ⟨hf.below,hf.old,hf.new,hf.lt,hf.others,hf.pt,fun i x b hi hlv hb=>hf.away i x b (hl i x hi hlv) hlv hb,fun i x hi=>?_,fun i j x y b hij hi hj l1 l2 b1 b2=>hf.heap.apart i j x y b hij (hl i x hi l1) (hl j y hj l2) l1 l2 b1 b2⟩ ⟨hv.1,fun k c v hc hvv=>(hv.2 k c v hc hvv).keeps (.refl K w) hkk⟩
 rcases hget i x hi with h|⟨h1,rfl⟩
 ·exact (hf.heap.ok i x h).keeps (.refl hf.lt) hf.lt hkk
 ·exact .own _ (yE _ (List.all_eq_true.1 hps _ h1))
theorem FS.kill {g:Base} {K:KK} {ρ:Nat→Value} {H:HEnv} {w:World} (i:Nat) (hf:FS g K ρ H w):FS g K ρ ((i,.dead)::H) w:=by
 have hold:∀ j x,HEnv.get ((i,HE.dead)::H) j=some x→x.live=true→H.get j=some x:=fun j x hj hl=>by
  rw [HEnv.get_cons] at hj
  split at hj
  ·simp only [Option.some.injEq] at hj;subst hj;cases hl
  ·exact hj
 have hk:∀ j,(H.get j).isSome=true→(HEnv.get ((i,HE.dead)::H) j).isSome=true∧ρ j=ρ j:=fun j hj=>⟨by
  rw [HEnv.get_cons];split <;> first|rfl|exact hj,rfl⟩
 refine ⟨hf.below,hf.old,hf.new,hf.lt,hf.others,hf.pt,fun j x b hj hl hb=>hf.away j x b (hold j x hj hl) hl hb,fun j x hj=>?_,fun j j' x x' b hjj hj hj' hl hl' hb hb'=>hf.heap.apart j j' x x' b hjj (hold j x hj hl) (hold j' x' hj' hl') hl hl' hb hb'⟩
 rw [HEnv.get_cons] at hj
 split at hj
 ·simp only [Option.some.injEq] at hj;subst hj;trivial
 ·exact (hf.heap.ok j x hj).keeps (.refl hf.lt) hf.lt hk
def mkL (l:List HEnv) (p:Nat):HEnv:=l.getD p []
def ztE (a:HEnv):List HEnv→Prop
 | []=>True
 | x::l=>Qo x a []∧ztE a l
def keysL:List HEnv→Bool
 | []=>true
 | x::l=>qO x x&&l.all (fun y=>qO x y)&&keysL l
theorem zaW {g:Base} {a:HEnv}:∀ {l:List HEnv} {n:Nat},l.length=n + 1→ztE a l→∀ p,p≤n→∀ K ρ w,FS g K ρ (mkL l p) w→FS g K ρ a w
 | [],n,hl,_,p,hp,K,ρ,w,hf=>by simp at hl
 | x::l,n,hl,h,0,hp,K,ρ,w,hf=>hf.narrow h.1
 | x::l,n,hl,h,p + 1,hp,K,ρ,w,hf=>by
  cases n with
  | zero=>omega
  | succ n=>exact zaW (l:=l) (n:=n) (by simpa using hl) h.2 p (by omega) K ρ w hf
def ztB (i:Nat) (a:HEnv):List HEnv→Prop
 | []=>True
 | x::l=>Qo ((i,.dead)::x) a []∧ztB i a l
theorem zeO {g:Base} {i:Nat} {a:HEnv}:∀ {l:List HEnv} {n:Nat},l.length=n + 1→ztB i a l→∀ p,p≤n→∀ K ρ w,FS g K ρ (mkL l p) w→FS g K ρ a w
 | [],n,hl,_,p,hp,K,ρ,w,hf=>by simp at hl
 | x::l,n,hl,h,0,hp,K,ρ,w,hf=>(hf.kill i).narrow h.1
 | x::l,n,hl,h,p + 1,hp,K,ρ,w,hf=>by
  cases n with
  | zero=>omega
  | succ n=>exact zeO (l:=l) (n:=n) (by simpa using hl) h.2 p (by omega) K ρ w hf
theorem Ql:∀ {l:List HEnv} {n:Nat},l.length=n + 1→keysL l=true→∀ q p,q≤p→p≤n→qO (mkL l q) (mkL l p)=true
 | [],n,hl,_,q,p,_,_=>by simp at hl
 | x::l,n,hl,h,0,0,_,_=>by simp only [keysL,Bool.and_eq_true] at h;exact h.1.1
 | x::l,n,hl,h,0,p + 1,_,hp=>by
  simp only [keysL,Bool.and_eq_true,List.all_eq_true] at h
  have hlt:p < l.length:=by simp at hl;omega
  show qO x (l.getD p [])=true
  rw [List.getD_eq_getElem?_getD,List.getElem?_eq_getElem hlt]
  exact h.1.2 _ (List.getElem_mem hlt)
 | x::l,n,hl,h,q + 1,0,hq,_=>by omega
 | x::l,n,hl,h,q + 1,p + 1,hq,hp=>by
  simp only [keysL,Bool.and_eq_true] at h
  cases n with
  | zero=>omega
  | succ n=>exact Ql (l:=l) (n:=n) (by simpa using hl) h.2 q p (by omega) (by omega)
end Go.Cg
namespace Go.Cg
open Go.Proofs
set_option maxHeartbeats 20000000
structure SmP (x:Pt):Prop where
 f:0≤x.f∧x.f≤1000000
 t:0≤x.t∧x.t≤1000000
 c:0≤x.c∧x.c≤1000000
theorem zku (a b:Pt) (ha:SmP a) (hb:SmP b):ACall Tryz.prog 142 [yQ a,yQ b] (pi (zmW a b)):=by
 have ha1:=ha.f
 have ha2:=ha.t
 have ha3:=ha.c
 have hb1:=hb.f
 have hb2:=hb.t
 have hb3:=hb.c
 have e1:IntKind.i64.wrap (a.t - a.f)=a.t - a.f:=wrap_in (by omega) (by omega)
 have e2:IntKind.i64.wrap (b.t - b.f)=b.t - b.f:=wrap_in (by omega) (by omega)
 have e3:IntKind.i64.wrap ((a.t - a.f) - (b.t - b.f))=(a.t - a.f) - (b.t - b.f):=wrap_in (by omega) (by omega)
 have e4:IntKind.i64.wrap (a.c - b.c)=a.c - b.c:=wrap_in (by omega) (by omega)
 by_cases h:(a.t - a.f) - (b.t - b.f)=0
 ·have hc:(!(IntKind.i64.wrap (IntKind.i64.wrap (a.t - a.f) - IntKind.i64.wrap (b.t - b.f))==0))=false:=by rw [e1,e2,e3,h];rfl
  refine zi zf Tryz.func142 rfl (by kernel_rfl) Tryz.ntmps142 (by simp) _ rfl (fun hw gB hgB=>?_)
  repeat' (first|refine sA ?_|refine sC (fun _=>?_) (fun _=>?_)|fail)
  all_goals (refine retq rfl ?_;simp [zy,zmW,h,e4])
 ·have hc:(!(IntKind.i64.wrap (IntKind.i64.wrap (a.t - a.f) - IntKind.i64.wrap (b.t - b.f))==0))=true:=by rw [e1,e2,e3];simpa using h
  refine zi zf Tryz.func142 rfl (by kernel_rfl) Tryz.ntmps142 (by simp) _ rfl (fun hw gB hgB=>?_)
  repeat' (first|refine sA ?_|refine sC (fun _=>?_) (fun _=>?_)|fail)
  all_goals (refine retq rfl ?_;simp [zy,zmW,h,e1,e2,e3])
abbrev zaI (us:Nat→Value) (l:List Pt):HEnv:=[(0,.mrow 139 4 (l.map yQ)),(1000,.pin (.own 0) (us 0))]
def zsm (us:Nat→Value) (A:List PV) (k:Nat) (p q:PV):Nat→HEnv
 | 0=>[(0,.mrow 139 4 A),(1000,.pin (.own 0) (us 0))]
 | 1=>(0,.mrow 139 4 (A.set (k + 1) p))::[(0,.mrow 139 4 A),(1000,.pin (.own 0) (us 0))]
 | _=>(0,.mrow 139 4 ((A.set (k + 1) p).set k q))::(0,.mrow 139 4 (A.set (k + 1) p))::[(0,.mrow 139 4 A),(1000,.pin (.own 0) (us 0))]
abbrev zqh (us:Nat→Value):HEnv:=[(0,.dead),(1000,.pin (.own 0) (us 0))]
theorem zo3 (us:Nat→Value) (A:List PV) (k:Nat) (x y:PV):∀ p,p < 3→qO (zsm us A k x y p) (zqh us)=true∧qO (zqh us) (zsm us A k x y p)=true:=by
 intro p h
 have hp:p=0∨p=1∨p=2:=by omega
 rcases hp with rfl|rfl|rfl <;> exact ⟨rfl,rfl⟩
theorem zoK (us:Nat→Value) (A:List PV) (k:Nat) (x y:PV) {gB:Base}:∀ p,p≤2→∀ K ρ w,FS gB K ρ (zsm us A k x y p) w→FS gB K ρ (zqh us) w:=by
 intro p h K ρ w hf
 have hp:p=0∨p=1∨p=2:=by omega
 rcases hp with rfl|rfl|rfl <;> exact (hf.kill 0).narrow (e:=[]) tH
theorem zqP (a b:Pt) (r t:List Pt):(((r.reverse++a::b::t).map yQ).set (r.length + 1) (yQ a)).set r.length (yQ b)=(r.reverse++b::a::t).map yQ:=by
 apply List.ext_getElem?
 intro i
 simp only [List.getElem?_set,List.length_set,List.length_map,List.length_append,List.length_reverse,List.length_cons,List.map_append,List.map_cons,List.getElem?_append,List.length_map]
 by_cases h1:r.length=i
 ·subst h1;simp
 ·by_cases h2:r.length + 1=i
  ·subst h2;simp
  ·simp only [h1,h2,if_false]
   by_cases h3:i < r.length
   ·simp [h3]
   ·simp only [h3,if_false]
    obtain ⟨m,rfl⟩:∃ m,i=r.length + (m + 2):=⟨i - r.length - 2,by omega⟩
    simp
theorem zjk (l:List Pt) (hl:l.length≤1000) (hs:∀ x∈l,SmP x) (us:Nat→Value) :
  ACallM Tryz.prog 229 [.own 0,.pv (pi 0),.pv (pi l.length),.pv (.fn (.func 142) [] [])] (zaI us l) (.pv (.tup [])) (zaI us (Xq l)):=by
 refine qZ zf Tryz.func229 rfl (by kernel_rfl) Tryz.ntmps229 (by simp) _ rfl (fun gB hw1=>?_)
 repeat' (first|refine sA ?_|refine sC (fun _=>?_) (fun _=>?_)|fail)
 refine zW (fun i:Nat=>[(0,.own 0),(1,.pv (pi 0)),(2,.pv (pi l.length)),(3,.pv (.fn (.func 142) [] [])),(8,.pv (pi i))])
  (fun i=>zaI us (Xq (l.take i)++l.drop i)) (fun i=>1≤i∧i≤l.length + 1) (fun i=>l.length + 1 - i) 1 (by omega) (tS) ⟨Zp rfl (by cases l <;> rfl) (by repeat (first|exact zG|refine zD rfl ?_)),rfl⟩ ?_
 rintro i ⟨hi1,hi2⟩
 by_cases hlt:i < l.length
 ·obtain ⟨x,hx⟩:∃ x,x=l[i]:=⟨_,rfl⟩
  obtain ⟨s,hsd⟩:∃ s,s=Xq (l.take i):=⟨_,rfl⟩
  have hxs:SmP x:=by rw [hx];exact hs _ (List.getElem_mem hlt)
  have hss:∀ y∈s,SmP y:=fun y hy=>by rw [hsd,ziw] at hy;exact hs y (List.mem_of_mem_take hy)
  have hsl:s.length=i:=by rw [hsd,zel];simp;omega
  have hnext:Xq (l.take (i + 1))=zjg s x:=by
   rw [List.take_succ_eq_append_getElem hlt,Xq,List.foldl_append,hsd,hx];rfl
  have hdrop:l.drop i=x::l.drop (i + 1):=by rw [hx];exact List.drop_eq_getElem_cons hlt
  rw [←hsd,hdrop]
  repeat' (first|refine sK ?_|refine sC (fun _=>?_) (fun _=>?_)|fail)
  refine zW (fun st:List Pt × List Pt=>[(0,.own 0),(1,.pv (pi 0)),(2,.pv (pi l.length)),(3,.pv (.fn (.func 142) [] [])),(8,.pv (pi i)),(9,.pv (pi st.1.length))])
   (fun st=>zaI us (st.1.reverse++x::(st.2++l.drop (i + 1)))) (fun st=>zbC x st.1 st.2=zjg s x∧∀ y∈st.1,SmP y) (fun st=>st.1.length) (s.reverse,[]) ⟨rfl,fun y hy=>hss y (by simpa using hy)⟩
   (by repeat (first|exact yZ|refine yS rfl ?_|(refine Zn rfl ?_ ?_;· (show (i:Int)=((s.reverse.length:Nat):Int);simp [hsl])))) ⟨Zp rfl (by simp) (by repeat (first|exact zG|refine zD rfl ?_)),rfl⟩ ?_
  rintro ⟨r,t⟩ ⟨hgo,hr⟩
  cases r with
  | nil =>
   repeat' (first|refine sK ?_|refine sC (fun _=>?_) (fun _=>?_)|fail)
   exact ⟨i + 1,by omega,tD,tS,⟨Zp rfl (by rw [hnext,←hgo];simp [zbC]) (by repeat (first|exact zG|refine zD rfl ?_)),rfl⟩⟩
  | cons y r =>
   obtain ⟨D,hD⟩:∃ D,D=t++l.drop (i + 1):=⟨_,rfl⟩
   have hgo':zbC x (y::r) t=zjg s x:=hgo
   rw [zbC] at hgo'
   have hsy:SmP y:=hr y (by simp)
   have hrl:r.length < 1000:=by
    have h1:=congrArg List.length hgo'
    rw [zkJ,hsl] at h1
    split at h1
    ·rw [zeG] at h1;simp at h1;omega
    ·simp at h1;omega
   have cb:=zku x y hxs hsy
   have e0:(y::r).reverse++x::(t++l.drop (i + 1))=r.reverse++y::x::D:=by rw [hD];simp
   have g0:((r.reverse++y::x::D).map yQ)[r.length]?=some (yQ y):=by simp
   have g1:((r.reverse++y::x::D).map yQ)[r.length + 1]?=some (yQ x):=by
    rw [List.getElem?_map,List.getElem?_append_right (by simp)];simp
   have h0:r.length < ((r.reverse++y::x::D).map yQ).length:=by simp
   have h1:r.length + 1 < ((r.reverse++y::x::D).map yQ).length:=by simp
   have sw:=zqP y x r D
   show AW _ _ _ _ [(0,.own 0),(1,.pv (pi 0)),(2,.pv (pi l.length)),(3,.pv (.fn (.func 142) [] [])),(8,.pv (pi i)),(9,.pv (pi (r.length + 1:Nat)))] (zaI us ((y::r).reverse++x::(t++l.drop (i + 1)))) _
   rw [e0]
   obtain ⟨k,hk⟩:∃ k,k=r.length:=⟨_,rfl⟩
   obtain ⟨A,hA⟩:∃ A,A=(r.reverse++y::x::D).map yQ:=⟨_,rfl⟩
   rw [←hk] at g0 g1 h0 h1 sw hrl ⊢
   show AW _ _ _ _ _ [(0,.mrow 139 4 ((r.reverse++y::x::D).map yQ)),(1000,.pin (.own 0) (us 0))] _
   rw [←hA] at g0 g1 h0 h1 sw ⊢
   have hp:decide ((0:Int) < ((k + 1:Nat):Int))=true:=decide_eq_true (by omega)
   have hix:IntKind.i64.wrap (((k + 1:Nat):Int) - 1)=(k:Nat):=by rw [wrap_in (by omega) (by omega)];omega
   by_cases hb:zmW x y < 0
   ·have hbd:decide (zmW x y < 0)=true:=decide_eq_true hb
    rw [if_pos hb] at hgo'
    have h0':k < (A.set (k + 1) (yQ y)).length:=by rw [List.length_set];exact h0
    have g0':(A.set (k + 1) (yQ y))[k]?=some (yQ y):=by rw [List.getElem?_set_ne (by omega)];exact g0
    repeat' (first|refine Xp 18 18 [15,17] [[37,38,42,43,44,45,46,47,48,49,50,51],[52]] (zsm us A k (yQ y) (yQ x)) (fun _=>zqh us) (zqh us) none rfl (by kernel_rfl) (by kernel_rfl) (by kernel_rfl) (by kernel_rfl) (by kernel_rfl) (by kernel_rfl) (by kernel_rfl) (fun p hp=>zo3 us A k _ _ p (by simp at hp;omega)) rfl (fun p hp=>zoK us A k _ _ p hp) rfl (fun _ _ _ _=>rfl) (fun _ _=>rfl) tH rfl (fun v hv=>by cases hv) ?_|refine zbq 0 2 [13,15] rfl rfl (by kernel_rfl) ?_|refine zaN 3 [10,12] rfl rfl ?_|refine zbq 0 10 [0,2] rfl rfl (by kernel_rfl) ?_|refine QE [1] (.pv (.tup [])) rfl rfl rfl ?_|refine zbq 1 1 [0] rfl rfl (by kernel_rfl) ?_|refine QE [] (.pv (.tup [])) rfl rfl rfl ?_|refine QG ?_|refine ⟨⟨rfl,ZP (k:=k + 1) (j:=0) zf rfl rfl rfl rfl g1 rfl rfl rfl rfl,.inl rfl⟩,?_⟩|refine ⟨⟨rfl,ZP (k:=k) (j:=0) zf rfl rfl rfl rfl g0' rfl rfl rfl rfl,.inl rfl⟩,?_⟩|intro _|refine XO ?_|refine zx rfl (zS (k:=k) (j:=0) zf rfl rfl rfl rfl g0 rfl) rfl rfl ?_|refine AD.step _ _ _ _ _ rfl (zS (k:=k) (j:=0) zf rfl rfl rfl rfl g0 rfl) rfl rfl ?_|refine zx rfl (zS (k:=k + 1) (j:=0) zf rfl rfl rfl rfl g1 rfl) rfl rfl ?_|refine AD.step _ _ _ _ _ rfl (zS (k:=k + 1) (j:=0) zf rfl rfl rfl rfl g1 rfl) rfl rfl ?_|(refine shC ?_;first|refine qV (cb) ?_)|(refine shX ?_;first|refine zx rfl (zK (k:=k) zf rfl rfl rfl rfl rfl rfl rfl hix h0) rfl rfl ?_|refine AD.step _ _ _ _ _ rfl (zK (k:=k) zf rfl rfl rfl rfl rfl rfl rfl hix h0) rfl rfl ?_|refine zx rfl (zK (k:=k + 1) zf rfl rfl rfl rfl rfl rfl rfl rfl h1) rfl rfl ?_|refine AD.step _ _ _ _ _ rfl (zK (k:=k + 1) zf rfl rfl rfl rfl rfl rfl rfl rfl h1) rfl rfl ?_|refine zx rfl (zK (k:=k) zf rfl rfl rfl rfl rfl rfl rfl hix h0') rfl rfl ?_|refine AD.step _ _ _ _ _ rfl (zK (k:=k) zf rfl rfl rfl rfl rfl rfl rfl hix h0') rfl rfl ?_)|refine sK ?_|refine sC (fun _=>?_) (fun _=>?_)|fail)
    exact ⟨(r,y::t),⟨hgo',fun z hz=>hr z (List.mem_cons_of_mem _ hz)⟩,Nat.lt_succ_self r.length,by repeat (first|exact yZ|refine yS rfl ?_|(refine Zn rfl ?_ ?_;· (show IntKind.i64.wrap _=((r.length:Nat):Int);rw [hix,hk]))),⟨Zp rfl (by rw [sw,hD];simp) (by repeat (first|exact zG|refine zD rfl ?_)),rfl⟩⟩
   ·have hbd:decide (zmW x y < 0)=false:=decide_eq_false hb
    rw [if_neg hb] at hgo'
    repeat' (first|refine zx rfl (zS (k:=k) (j:=0) zf rfl rfl rfl rfl g0 rfl) rfl rfl ?_|refine AD.step _ _ _ _ _ rfl (zS (k:=k) (j:=0) zf rfl rfl rfl rfl g0 rfl) rfl rfl ?_|refine zx rfl (zS (k:=k + 1) (j:=0) zf rfl rfl rfl rfl g1 rfl) rfl rfl ?_|refine AD.step _ _ _ _ _ rfl (zS (k:=k + 1) (j:=0) zf rfl rfl rfl rfl g1 rfl) rfl rfl ?_|(refine shC ?_;first|refine qV (cb) ?_)|(refine shX ?_;first|refine zx rfl (zK (k:=k) zf rfl rfl rfl rfl rfl rfl rfl hix h0) rfl rfl ?_|refine AD.step _ _ _ _ _ rfl (zK (k:=k) zf rfl rfl rfl rfl rfl rfl rfl hix h0) rfl rfl ?_|refine zx rfl (zK (k:=k + 1) zf rfl rfl rfl rfl rfl rfl rfl rfl h1) rfl rfl ?_|refine AD.step _ _ _ _ _ rfl (zK (k:=k + 1) zf rfl rfl rfl rfl rfl rfl rfl rfl h1) rfl rfl ?_)|refine sK ?_|refine sC (fun _=>?_) (fun _=>?_)|fail)
    exact ⟨i + 1,by omega,tD,tS,⟨Zp rfl (by rw [hnext,←hgo',hA,hD];simp) (by repeat (first|exact zG|refine zD rfl ?_)),rfl⟩⟩
 ·repeat' (first|refine sK ?_|refine sC (fun _=>?_) (fun _=>?_)|fail)
  exact ⟨.inl rfl,.inl ⟨[],rfl,rfl,⟨Zp rfl (by rw [List.take_of_length_le (by omega),List.drop_eq_nil_of_le (by omega),List.append_nil]) (by repeat (first|exact zG|refine zD rfl ?_)),rfl⟩⟩⟩
set_option maxHeartbeats 20000000
abbrev mrP (l:List Pt):HEnv:=[(0,.mrow 139 4 (l.map yQ))]
theorem zkA (l:List Pt) (hl:l.length < 20) (hs:∀ x∈l,SmP x) (us:Nat→Value) :
  ACallM Tryz.prog 186 [.own 0,.pv (pi l.length),.pv (.fn (.func 142) [] [])] (zaI us l) (.pv (.tup [])) (zaI us (Xq l)):=by
 refine qZ zf Tryz.func186 rfl (by kernel_rfl) Tryz.ntmps186 (by simp) _ rfl (fun gB hw1=>?_)
 have hc:∀ us,ACallM _ _ _ _ _ _ _:=fun us=>zjk l (by omega) hs us
 have hd:decide ((20:Int)≤((l.length:Nat):Int))=false:=decide_eq_false (by omega)
 have hd2:decide ((20:Int) < ((l.length:Nat):Int))=false:=decide_eq_false (by omega)
 repeat' (first|refine sA ?_|refine sC (fun _=>?_) (fun _=>?_)|fail)
 refine zW (fun _:Unit=>[(0,.own 0),(1,.pv (pi l.length)),(2,.pv (.fn (.func 142) [] [])),(6,.pv (pi 20)),(7,.pv (pi 0)),(8,.pv (pi 20))]) (fun _=>zaI us l) (fun _=>True) (fun _=>0) () trivial (tS) tH ?_
 rintro _ _
 repeat' (first|(refine zn ?_;first|(refine yD (mrP l) (mrP (Xq l)) [(1000,.pin (.own 0) (us 0))] [(1,.pv (pi l.length)),(6,.pv (pi 20))] [0] zh rfl rfl rfl ?_ tS rfl rfl rfl hc ?_;· (repeat (first|exact zG|refine zD rfl ?_))))|refine sA ?_|refine sC (fun _=>?_) (fun _=>?_)|fail)
 refine zW (fun _:Unit=>[(1,.pv (pi l.length)),(6,.pv (pi 20))]) (fun _=>zaI us (Xq l)) (fun _=>True) (fun _=>0) () trivial (tS) tH ?_
 rintro _ _
 repeat' (first|refine sA ?_|refine sC (fun _=>?_) (fun _=>?_)|fail)
 exact ⟨.inl rfl,.inl ⟨[],rfl,rfl,tH⟩⟩
theorem zms (l:List Pt) (hl:l.length < 20) (hs:∀ x∈l,SmP x) (us:Nat→Value) :
  ACallM Tryz.prog 141 [.own 0,.pv (.fn (.func 142) [] [])] (zaI us l) (.pv (.tup [])) (zaI us (Xq l)):=by
 refine qZ zf Tryz.func141 rfl (by kernel_rfl) Tryz.ntmps141 (by simp) _ rfl (fun gB hw1=>?_)
 have hc:∀ us,ACallM _ _ _ _ _ _ _:=fun us=>zkA l hl hs us
 rw [←List.length_map (f:=yQ)] at hc
 repeat' (first|(refine yK ?_;first|refine zcE zf rfl rfl rfl rfl rfl rfl rfl ?_)|(refine zn ?_;first|(refine yD (mrP l) (mrP (Xq l)) [(1000,.pin (.own 0) (us 0))] [] [0] zh rfl rfl rfl ?_ tS rfl rfl rfl hc ?_;· (repeat (first|exact zG|refine zD rfl ?_))))|refine sA ?_|refine sC (fun _=>?_) (fun _=>?_)|fail)
 exact ⟨.inl rfl,.inl ⟨[],rfl,rfl,tH⟩⟩
set_option maxHeartbeats 20000000
section
variable {P:Program} {n:Nat} {g:Base} {H:HEnv} {env:Env} {QQ:QC}
theorem zkf (i:Nat) {a:Act} {w:World} (h:Inv n g env H a w):Inv n g env ((i,.dead)::H) a w:=by
 obtain ⟨g1,g2,K,ρ,hf,he⟩:=h
 exact ⟨g1,g2,K,ρ,hf.kill i,he.keeps (.refl K w) fun j hj=>⟨by rw [HEnv.get_cons];split <;> first|rfl|exact hj,rfl⟩⟩
theorem zon {t i e sz:Nat} {es:List PV} {a:Act} {w:World} (ht:env.get t=some (.own i)) (hi:H.get i=some (.row e sz es)) (h:Inv n g env H a w):Inv n g ((t,.pv (.slc sz es false))::env) H a w:=by
 obtain ⟨g1,g2,K,ρ,hf,he⟩:=h
 refine ⟨g1,g2,K,ρ,hf,fun t' av hg=>?_⟩
 rw [Env.get_cons] at hg
 split at hg
 ·rename_i e1;subst e1
  simp only [Option.some.injEq] at hg;subst hg
  obtain ⟨v,h1,h2⟩:=he _ _ ht
  exact ⟨v,h1,.pv _ _ (ze1 hf hi h2)⟩
 ·exact he _ _ hg
theorem zdg {t i e sz:Nat} {es:List PV} (ht:env.get t=some (.own i)) (hi:H.get i=some (.mrow e sz es)) (k:QQ .ret ((t,.pv (.slc sz es false))::env) ((i,.dead)::(i,.row e sz es)::H)):AW P n g .ret env H QQ :=
 ⟨fun a w hinv=>(zgQ k).go a w (zkf i (zon ht (by rw [HEnv.get_cons,if_pos rfl]) (zb4 hi hinv)))⟩
theorem zmp {t i j e sz h:Nat} {u:Value} {es:List PV} (ht:env.get t=some (.pv (.base (cut sz u 0 h)))) (hi:H.get i=some (.mrow e sz es)) (hj:H.get j=some (.pin (.own i) u)) (hij:(i==j)=false) (hh:h≤es.length) (h0:0 < es.length) (k:QQ .ret ((t,.pv (.slc sz (es.take h) false))::env) ((i,.dead)::(i,.row e sz es)::H)):AW P n g .ret env H QQ :=
 ⟨fun a w hinv=>(zgQ k).go a w (zkf i (zn0 (i:=i) (j:=j) ht (by rw [HEnv.get_cons,if_pos rfl]) (by rw [HEnv.get_cons,if_neg (by simpa using hij)];exact hj) hh h0 (zb4 hi hinv)))⟩
end
theorem zkT (p:Pt) (l:List Pt) (y:Pt):Xz p (l++[y])=Xz p l++(if ziy y (l.getLastD p) then [] else [y]):=by
 induction l generalizing p with
 | nil=>simp [Xz]
 | cons z l ih =>
  rw [List.cons_append,Xz,Xz,ih z]
  have:(z::l).getLastD p=l.getLastD z:=by cases l <;> rfl
  rw [this]
  split <;> simp
theorem zg2 {l:List Pt} {m:Nat} (h1:1≤m) (h:m < l.length):ZH (l.take (m + 1))=ZH (l.take m)++(if ziy l[m] (l[m - 1]'(by omega)) then [] else [l[m]]):=by
 rw [List.take_succ_eq_append_getElem h]
 cases l with
 | nil=>simp at h
 | cons x l =>
  obtain ⟨m,rfl⟩:∃ k,m=k + 1:=⟨m - 1,by omega⟩
  simp only [List.take_succ_cons,List.cons_append,ZH,zkT,List.getElem_cons_succ,Nat.add_sub_cancel]
  have:(l.take m).getLastD x=(x::l)[m]:=by
   have hm:m≤l.length:=by simp at h;omega
   cases m with
   | zero=>simp
   | succ m=>simp [List.getLastD_eq_getLast?,List.getLast?_take,show m < l.length by omega]
  rw [this]
theorem zfm (a b:Pt):ACall Tryz.prog 144 [yQ a,yQ b] (pb (ziy a b)):=by
 refine zi zf Tryz.func144 rfl (by kernel_rfl) Tryz.ntmps144 (by simp) _ rfl (fun hw gB hgB=>?_)
 repeat' (first|refine sA ?_|refine sC (fun _=>?_) (fun _=>?_)|fail)
 all_goals exact retq rfl rfl
abbrev zPt:PV:=.agg [pi 0,pi 0,pi 0,pi 0]
theorem zi0 (l:List Pt) (hl:l.length < 20) (us:Nat→Value) :
  ACallM Tryz.prog 143 [.own 0,.pv (.fn (.func 144) [] [])] (zaI us l) (.pv (pts (ZH l))) ([(0,.dead)]++qx us [0]):=by
 refine qZ zf Tryz.func143 rfl (by kernel_rfl) Tryz.ntmps143 (by simp) _ rfl (fun gB hw1=>?_)
 by_cases h2:l.length < 2
 ·have hd:decide ((((l.map yQ).length:Nat):Int) < 2)=true:=decide_eq_true (by simp;omega)
  have hcp:ZH l=l:=by
   cases l with
   | nil=>rfl
   | cons x l=>cases l with
    | nil=>rfl
    | cons y l=>simp at h2;omega
  repeat' (first|refine zdg (t:=4) (i:=0) rfl rfl ?_|(refine yK ?_;first|refine zcE zf rfl rfl rfl rfl rfl rfl rfl ?_)|refine sA ?_|refine sC (fun _=>?_) (fun _=>?_)|fail)
  exact ⟨.inr rfl,.inl ⟨_,rfl,by rw [hcp];rfl,tH⟩⟩
 ·have hd:decide ((((l.map yQ).length:Nat):Int) < 2)=false:=decide_eq_false (by simp;omega)
  repeat' (first|refine zdg (t:=4) (i:=0) rfl rfl ?_|(refine yK ?_;first|refine zcE zf rfl rfl rfl rfl rfl rfl rfl ?_)|refine sA ?_|refine sC (fun _=>?_) (fun _=>?_)|fail)
  refine zW (fun i:Nat=>[(0,.own 0),(1,.pv (.fn (.func 144) [] [])),(5,.pv (pi i))]) (fun _=>zaI us l) (fun i=>1≤i∧i≤l.length∧ZH (l.take i)=l.take i) (fun i=>l.length - i) 1 ⟨by omega,by omega,by cases l <;> rfl⟩ (tS) tH ?_
  rintro i ⟨hi1,hi2,hci⟩
  by_cases hlt:i < l.length
  ·have hd':decide (((i:Nat):Int) < (((l.map yQ).length:Nat):Int))=true:=decide_eq_true (by simp;omega)
   have hln:(l.map yQ).length=l.length:=by simp
   have g0:(l.map yQ)[i]?=some (yQ l[i]):=by simp [hlt]
   have g1:(l.map yQ)[i - 1]?=some (yQ (l[i - 1]'(by omega))):=by simp [show i - 1 < l.length by omega]
   have h0:i < (l.map yQ).length:=by simp [hlt]
   have h1:i - 1 < (l.map yQ).length:=by simp;omega
   have hix:IntKind.i64.wrap (((i:Nat):Int) - 1)=((i - 1:Nat):Int):=by rw [wrap_in (by omega) (by omega)];omega
   have hst:=zg2 hi1 hlt
   have cb:=zfm l[i] (l[i - 1]'(by omega))
   cases hsame:ziy l[i] (l[i - 1]'(by omega))
   ·rw [hsame] at cb hst
    repeat' (first|refine zx rfl (zS (k:=i) (j:=0) zf rfl rfl rfl rfl g0 rfl) rfl rfl ?_|refine AD.step _ _ _ _ _ rfl (zS (k:=i) (j:=0) zf rfl rfl rfl rfl g0 rfl) rfl rfl ?_|refine zx rfl (zS (k:=i - 1) (j:=0) zf rfl rfl rfl rfl g1 rfl) rfl rfl ?_|refine AD.step _ _ _ _ _ rfl (zS (k:=i - 1) (j:=0) zf rfl rfl rfl rfl g1 rfl) rfl rfl ?_|(refine shC ?_;first|refine qV (cb) ?_)|(refine shX ?_;first|refine zx rfl (zK (k:=i - 1) zf rfl rfl rfl rfl rfl rfl rfl hix h1) rfl rfl ?_|refine AD.step _ _ _ _ _ rfl (zK (k:=i - 1) zf rfl rfl rfl rfl rfl rfl rfl hix h1) rfl rfl ?_|refine zx rfl (zK (k:=i) zf rfl rfl rfl rfl rfl rfl rfl rfl h0) rfl rfl ?_|refine AD.step _ _ _ _ _ rfl (zK (k:=i) zf rfl rfl rfl rfl rfl rfl rfl rfl h0) rfl rfl ?_)|(refine yK ?_;first|refine zcE zf rfl rfl rfl rfl rfl rfl rfl ?_)|refine sK ?_|refine sC (fun _=>?_) (fun _=>?_)|fail)
    exact ⟨i + 1,⟨by omega,by omega,by rw [hst,hci,List.take_succ_eq_append_getElem hlt];rfl⟩,tD,tS,tH⟩
   ·rw [hsame] at cb hst
    repeat' (first|refine zx rfl (zS (k:=i) (j:=0) zf rfl rfl rfl rfl g0 rfl) rfl rfl ?_|refine AD.step _ _ _ _ _ rfl (zS (k:=i) (j:=0) zf rfl rfl rfl rfl g0 rfl) rfl rfl ?_|refine zx rfl (zS (k:=i - 1) (j:=0) zf rfl rfl rfl rfl g1 rfl) rfl rfl ?_|refine AD.step _ _ _ _ _ rfl (zS (k:=i - 1) (j:=0) zf rfl rfl rfl rfl g1 rfl) rfl rfl ?_|refine zeq zf 0 20 rfl rfl rfl rfl rfl rfl rfl rfl rfl (by omega) (by simp only [List.length_map];omega) (by omega) (by simp only [List.length_map];omega) rfl rfl rfl (fun uu=>?_)|(refine shC ?_;first|refine qV (cb) ?_)|(refine shX ?_;first|refine zx rfl (zK (k:=i - 1) zf rfl rfl rfl rfl rfl rfl rfl hix h1) rfl rfl ?_|refine AD.step _ _ _ _ _ rfl (zK (k:=i - 1) zf rfl rfl rfl rfl rfl rfl rfl hix h1) rfl rfl ?_|refine zx rfl (zK (k:=i) zf rfl rfl rfl rfl rfl rfl rfl rfl h0) rfl rfl ?_|refine AD.step _ _ _ _ _ rfl (zK (k:=i) zf rfl rfl rfl rfl rfl rfl rfl rfl h0) rfl rfl ?_)|(refine yK ?_;first|refine zcE zf rfl rfl rfl rfl rfl rfl rfl ?_)|refine sK ?_|refine sC (fun _=>?_) (fun _=>?_)|fail)
    refine zW (fun st:Nat × List Pt=>[(0,.own 0),(1,.pv (.fn (.func 144) [] [])),(5,.pv (pi (ZH (l.take (i + st.1))).length)),(6,.pv (.base (cut 4 uu i (l.map yQ).length))),(7,.pv (pi st.1))])
     (fun st=>[(0,.mrow 139 4 ((ZH (l.take (i + st.1))++(st.2++l.drop (i + st.1 - 1))).map yQ)),(20,.pin (.own 0) uu),(1000,.pin (.own 0) (us 0))])
     (fun st=>1≤st.1∧i + st.1≤l.length∧(ZH (l.take (i + st.1))).length + st.2.length=i + st.1 - 1) (fun st=>l.length - st.1) (1,[])
     ⟨Nat.le_refl _,hlt,by show (ZH (l.take (i + 1))).length + 0=i + 1 - 1;rw [hst,hci];simp;omega⟩
     (by repeat (first|exact yZ|refine yS rfl ?_|(refine Zn rfl ?_ ?_;· (show ((i:Nat):Int)=(((ZH (l.take (i + 1))).length:Nat):Int);rw [hst,hci];simp;omega))))
     ⟨Zp rfl (by show _=(ZH (l.take (i + 1))++([]++l.drop (i + 1 - 1))).map yQ;rw [hst,hci];simp) (by repeat (first|exact zG|refine zD rfl ?_)),rfl⟩ ?_
    rintro ⟨k,mid⟩ ⟨hk0,hkn,hkl⟩
    change 1≤k at hk0
    change i + k≤l.length at hkn
    change (ZH (l.take (i + k))).length + mid.length=i + k - 1 at hkl
    obtain ⟨c,hc⟩:∃ c,c=ZH (l.take (i + k)):=⟨_,rfl⟩
    show AW _ _ _ _ [(0,.own 0),(1,.pv (.fn (.func 144) [] [])),(5,.pv (pi (ZH (l.take (i + k))).length)),(6,.pv (.base (cut 4 uu i (l.map yQ).length))),(7,.pv (pi k))] [(0,.mrow 139 4 ((ZH (l.take (i + k))++(mid++l.drop (i + k - 1))).map yQ)),(20,.pin (.own 0) uu),(1000,.pin (.own 0) (us 0))] _
    have hcs:=fun h=>zg2 (l:=l) (m:=i + k) (by omega) h
    rw [←hc] at hkl hcs ⊢
    obtain ⟨B,hB⟩:∃ B,B=(c++(mid++l.drop (i + k - 1))).map yQ:=⟨_,rfl⟩
    rw [←hB]
    have hBl:B.length=l.length:=by rw [hB];simp;omega
    have hB0:0 < B.length:=by omega
    have hh:(l.map yQ).length≤B.length:=by rw [hBl];simp
    by_cases hkt:i + k < l.length
    ·have hd2:decide (((k:Nat):Int) < (((l.map yQ).length - i:Nat):Int))=true:=decide_eq_true (by simp;omega)
     have hdr:l.drop (i + k - 1)=(l[i + k - 1]'(by omega))::l.drop (i + k):=by rw [List.drop_eq_getElem_cons (by omega)];congr 2;omega
     have hdr2:l.drop (i + k)=l[i + k]::l.drop (i + k + 1):=List.drop_eq_getElem_cons hkt
     have cb:=zfm l[i + k] (l[i + k - 1]'(by omega))
     obtain ⟨y,hy⟩:∃ y,y=l[i + k - 1]'(by omega):=⟨_,rfl⟩
     obtain ⟨x,hx⟩:∃ x,x=l[i + k]:=⟨_,rfl⟩
     have hcs':=hcs hkt
     rw [←hx,←hy] at cb hcs'
     rw [←hy] at hdr
     rw [←hx] at hdr2
     have hB':B=(c++mid).map yQ++yQ y::yQ x::(l.drop (i + k + 1)).map yQ:=by rw [hB,hdr,hdr2];simp
     have hcl:((c++mid).map yQ).length=i + (k - 1):=by simp;omega
     have gy:B[i + (k - 1)]?=some (yQ y):=by rw [hB',List.getElem?_append_right (by omega),hcl];simp
     have gx:B[i + k]?=some (yQ x):=by rw [hB',List.getElem?_append_right (by omega),hcl,show i + k - (i + (k - 1))=1 by omega];rfl
     have hk1:i + k < (l.map yQ).length:=by simp;omega
     have hk2:i + (k - 1) < (l.map yQ).length:=by simp;omega
     have hkx:IntKind.i64.wrap (((k:Nat):Int) - 1)=((k - 1:Nat):Int):=by rw [wrap_in (by omega) (by omega)];omega
     cases hs2:ziy x y
     ·rw [hs2] at cb hcs'
      obtain ⟨z,tl,hz⟩:∃ z tl,mid++[y]=z::tl:=by
       cases mid with
       | nil=>exact ⟨y,[],rfl⟩
       | cons z mid=>exact ⟨z,mid++[y],rfl⟩
      have hB2:B=c.map yQ++yQ z::(tl++l.drop (i + k)).map yQ:=by
       have:c++(mid++y::l.drop (i + k))=c++z::(tl++l.drop (i + k)):=by
        rw [show mid++y::l.drop (i + k)=(mid++[y])++l.drop (i + k) by simp,hz];simp
       rw [hB,hdr,this];simp
      have gz:B[c.length]?=some (yQ z):=by rw [hB2,List.getElem?_append_right (by simp)];simp
      have hcB:c.length < B.length:=by omega
      repeat' (first|refine zx rfl (zgp (j:=20) zf rfl rfl rfl rfl rfl hB0) rfl rfl ?_|refine zx rfl (Qg (j:=20) zf (k) rfl rfl rfl rfl rfl rfl rfl rfl rfl hk1 hh) rfl rfl ?_|refine AD.step _ _ _ _ _ rfl (Qg (j:=20) zf (k) rfl rfl rfl rfl rfl rfl rfl rfl rfl hk1 hh) rfl rfl ?_|refine zx rfl (Qg (j:=20) zf (k - 1) rfl rfl rfl rfl rfl rfl rfl rfl hkx hk2 hh) rfl rfl ?_|refine AD.step _ _ _ _ _ rfl (Qg (j:=20) zf (k - 1) rfl rfl rfl rfl rfl rfl rfl rfl hkx hk2 hh) rfl rfl ?_|refine zx rfl (zS (k:=i + k) (j:=0) zf rfl rfl rfl rfl gx rfl) rfl rfl ?_|refine AD.step _ _ _ _ _ rfl (zS (k:=i + k) (j:=0) zf rfl rfl rfl rfl gx rfl) rfl rfl ?_|refine zx rfl (zS (k:=i + (k - 1)) (j:=0) zf rfl rfl rfl rfl gy rfl) rfl rfl ?_|refine AD.step _ _ _ _ _ rfl (zS (k:=i + (k - 1)) (j:=0) zf rfl rfl rfl rfl gy rfl) rfl rfl ?_|(refine shC ?_;first|refine qV (cb) ?_)|(refine shX ?_;first|refine zx rfl (zK (k:=c.length) zf rfl rfl rfl rfl rfl rfl rfl rfl hcB) rfl rfl ?_|refine AD.step _ _ _ _ _ rfl (zK (k:=c.length) zf rfl rfl rfl rfl rfl rfl rfl rfl hcB) rfl rfl ?_)|(refine Yo ?_;first|refine XE (k:=c.length) (j:=0) zf rfl rfl rfl rfl rfl gz rfl rfl rfl rfl rfl ?_)|refine sK ?_|refine sC (fun _=>?_) (fun _=>?_)|fail)
      have ht:tl.length=mid.length:=by have:=congrArg List.length hz;simp at this;omega
      have hcc:ZH (l.take (i + (k + 1)))=c++[x]:=hcs'
      have hnew:B.set c.length (yQ x)=(ZH (l.take (i + (k + 1)))++(tl++l.drop (i + (k + 1) - 1))).map yQ:=by
       rw [hcc,hB2,List.set_append_right _ _ (by simp)];simp
      have e5:IntKind.i64.wrap (((c.length:Nat):Int) + 1)=(((ZH (l.take (i + (k + 1)))).length:Nat):Int):=by rw [wrap_in (by omega) (by omega),hcc];simp
      have e7:IntKind.i64.wrap (((k:Nat):Int) + 1)=((k + 1:Nat):Int):=by rw [wrap_in (by omega) (by omega)];omega
      exact ⟨(k + 1,tl),⟨by show 1≤k + 1;omega,by show i + (k + 1)≤l.length;omega,by show (ZH (l.take (i + (k + 1)))).length + tl.length=i + (k + 1) - 1;rw [hcc,ht];simp;omega⟩,by show l.length - (k + 1) < l.length - k;omega,by repeat (first|exact yZ|refine yS rfl ?_|(refine Zn rfl ?_ ?_;· first|exact e5|exact e7)),⟨Zp rfl hnew (by repeat (first|exact zG|refine zD rfl ?_)),rfl⟩⟩
     ·rw [hs2] at cb hcs'
      repeat' (first|refine zx rfl (zgp (j:=20) zf rfl rfl rfl rfl rfl hB0) rfl rfl ?_|refine zx rfl (Qg (j:=20) zf (k) rfl rfl rfl rfl rfl rfl rfl rfl rfl hk1 hh) rfl rfl ?_|refine AD.step _ _ _ _ _ rfl (Qg (j:=20) zf (k) rfl rfl rfl rfl rfl rfl rfl rfl rfl hk1 hh) rfl rfl ?_|refine zx rfl (Qg (j:=20) zf (k - 1) rfl rfl rfl rfl rfl rfl rfl rfl hkx hk2 hh) rfl rfl ?_|refine AD.step _ _ _ _ _ rfl (Qg (j:=20) zf (k - 1) rfl rfl rfl rfl rfl rfl rfl rfl hkx hk2 hh) rfl rfl ?_|refine zx rfl (zS (k:=i + k) (j:=0) zf rfl rfl rfl rfl gx rfl) rfl rfl ?_|refine AD.step _ _ _ _ _ rfl (zS (k:=i + k) (j:=0) zf rfl rfl rfl rfl gx rfl) rfl rfl ?_|refine zx rfl (zS (k:=i + (k - 1)) (j:=0) zf rfl rfl rfl rfl gy rfl) rfl rfl ?_|refine AD.step _ _ _ _ _ rfl (zS (k:=i + (k - 1)) (j:=0) zf rfl rfl rfl rfl gy rfl) rfl rfl ?_|(refine shC ?_;first|refine qV (cb) ?_)|refine sK ?_|refine sC (fun _=>?_) (fun _=>?_)|fail)
      have hcc:ZH (l.take (i + (k + 1)))=c:=by rw [show i + (k + 1)=i + k + 1 by omega,hcs'];simp
      have hnew:B=(ZH (l.take (i + (k + 1)))++((mid++[y])++l.drop (i + (k + 1) - 1))).map yQ:=by
       rw [hcc,hB,hdr];simp
      have e5:((c.length:Nat):Int)=(((ZH (l.take (i + (k + 1)))).length:Nat):Int):=by rw [hcc]
      have e7:IntKind.i64.wrap (((k:Nat):Int) + 1)=((k + 1:Nat):Int):=by rw [wrap_in (by omega) (by omega)];omega
      exact ⟨(k + 1,mid++[y]),⟨by show 1≤k + 1;omega,by show i + (k + 1)≤l.length;omega,by show (ZH (l.take (i + (k + 1)))).length + (mid++[y]).length=i + (k + 1) - 1;rw [hcc];simp;omega⟩,by show l.length - (k + 1) < l.length - k;omega,by repeat (first|exact yZ|refine yS rfl ?_|(refine Zn rfl ?_ ?_;· first|exact e5|exact e7)),⟨Zp rfl hnew (by repeat (first|exact zG|refine zD rfl ?_)),rfl⟩⟩
    ·have hd2:decide (((k:Nat):Int) < (((l.map yQ).length - i:Nat):Int))=false:=decide_eq_false (by simp;omega)
     have hcB:c.length < B.length:=by omega
     have hcl:c=ZH l:=by rw [hc,List.take_of_length_le (by omega)]
     have hfin:(B.take c.length++List.replicate (B.length - c.length) zPt++B.drop (c.length + (B.length - c.length))).take c.length=(ZH l).map yQ:=by
      rw [List.append_assoc,List.take_append_of_le_length (by simp;omega),List.take_take,Nat.min_self,hB,←hcl];simp
     repeat' (first|refine zx rfl (zgp (j:=20) zf rfl rfl rfl rfl rfl hB0) rfl rfl ?_|refine zeq zf 0 21 rfl rfl rfl rfl rfl rfl rfl rfl rfl (by omega) (by omega) (by omega) (by omega) rfl rfl rfl (fun u2=>?_)|refine zeq zf 0 22 rfl rfl rfl rfl rfl rfl rfl rfl rfl (by omega) (by omega) (by simp only [List.length_append,List.length_take,List.length_replicate,List.length_drop,Int.toNat_natCast];omega) (by simp only [List.length_append,List.length_take,List.length_replicate,List.length_drop,Int.toNat_natCast];omega) rfl rfl rfl (fun u3=>?_)|refine zmp (t:=4) (i:=0) (j:=22) rfl rfl rfl rfl (by simp only [List.length_append,List.length_take,List.length_replicate,List.length_drop,Int.toNat_natCast];omega) (by simp only [List.length_append,List.length_take,List.length_replicate,List.length_drop,Int.toNat_natCast];omega) ?_|(refine yK ?_;first|refine zm1 (j:=21) zf rfl rfl rfl rfl rfl rfl (Nat.le_of_lt hcB) (Nat.le_refl _) hB0 rfl rfl rfl rfl ?_)|refine sK ?_|refine sC (fun _=>?_) (fun _=>?_)|fail)
     exact ⟨.inr rfl,.inl ⟨_,rfl,by rw [pts,←hfin];rfl,tH⟩⟩
  ·have hd':decide (((i:Nat):Int) < (((l.map yQ).length:Nat):Int))=false:=decide_eq_false (by simp;omega)
   have hcp:ZH l=l:=by rw [List.take_of_length_le (by omega)] at hci;exact hci
   repeat' (first|refine zdg (t:=4) (i:=0) rfl rfl ?_|(refine yK ?_;first|refine zcE zf rfl rfl rfl rfl rfl rfl rfl ?_)|refine sA ?_|refine sC (fun _=>?_) (fun _=>?_)|fail)
   exact ⟨.inr rfl,.inl ⟨_,rfl,by rw [hcp];rfl,tH⟩⟩
set_option maxHeartbeats 20000000
theorem zjm (x:Pt) (at_:Int):ACall Tryz.prog 140 [.agg [pi x.f,pi x.t],pi at_] (pb (zcW at_ x)):=by
 refine zi zf Tryz.func140 rfl (by kernel_rfl) Tryz.ntmps140 (by simp) _ rfl (fun hw gB hgB=>?_)
 repeat' (first|refine sA ?_|refine sC (fun _=>?_) (fun _=>?_)|fail)
 all_goals (refine retq rfl ?_;simp_all [zy,zcW];try omega)
theorem VI (l:List Cl) (at_:Int) (hl:l.length≤6) (hs:∀ x∈zcG at_ l,SmP x):ACall Tryz.prog 102 [cls l,pi at_] (pts (qK l at_)):=by
 have hlen:(zcG at_ l).length < 20:=by have:=zcy at_ l l.length;rw [zcG];omega
 have hso:∀ us,ACallM _ _ _ _ _ _ _:=fun us=>zms (zcG at_ l) hlen hs us
 have hco:∀ us,ACallM _ _ _ _ _ _ _:=fun us=>zi0 (Xq (zcG at_ l)) (by rw [zel];exact hlen) us
 refine zi zf Tryz.func102 rfl (by kernel_rfl) Tryz.ntmps102 (by simp) _ rfl (fun hw gB hgB=>?_)
 repeat' (first|refine zfI (t:=5) 0 139 4 (by decide) rfl rfl ?_|refine sA ?_|refine sC (fun _=>?_) (fun _=>?_)|fail)
 refine zW (fun k:Nat=>[(1,.pv (pi at_)),(5,.own 0),(10,.pv (cls l)),(11,.pv (pi l.length)),(12,.pv (pi k))]) (fun k=>mrP (zbB at_ l k)) (fun k=>k≤l.length) (fun k=>l.length - k) 0 (by omega) (tS) ⟨Zp rfl rfl zG,rfl⟩ ?_
 rintro k hk
 by_cases hlt:k < l.length
 ·have he:(l.map ZX)[k]?=some (ZX (l.getD k default)):=zcl hlt
  have cp:=zar k (l.getD k default)
  have hal:=zcy at_ l k
  have hpl:=zgf k (l.getD k default)
  have hnext:zbB at_ l (k + 1)=zbB at_ l k++(yG k (l.getD k default)).filter (zcW at_):=rfl
  obtain ⟨p,hp⟩:∃ p,p=yG k (l.getD k default):=⟨_,rfl⟩
  rw [←hp] at cp hpl hnext
  repeat' (first|(refine shC ?_;first|refine qC cp ?_)|(refine shX ?_;first|refine qX he ?_)|refine sK ?_|refine sC (fun _=>?_) (fun _=>?_)|fail)
  refine zW (fun j:Nat=>[(1,.pv (pi at_)),(5,.own 0),(10,.pv (cls l)),(11,.pv (pi l.length)),(12,.pv (pi k)),(19,.pv (pts p)),(20,.pv (pi p.length)),(21,.pv (pi j))]) (fun j=>mrP (zbB at_ l k++(p.take j).filter (zcW at_))) (fun j=>j≤p.length) (fun j=>p.length - j) 0 (by omega) (tS) ⟨Zp rfl (by simp) zG,rfl⟩ ?_
  rintro j hj
  by_cases hlj:j < p.length
  ·have hej:=yj (f:=yQ) hlj
   obtain ⟨x,hx⟩:∃ x,x=p[j]:=⟨_,rfl⟩
   have hst:(p.take (j + 1)).filter (zcW at_)=(p.take j).filter (zcW at_)++if zcW at_ x then [x] else []:=by
    rw [List.take_succ_eq_append_getElem hlj,List.filter_append,←hx]
    cases h:zcW at_ x <;> simp [List.filter,h]
   rw [←hx] at hej
   have ch:=zjm x at_
   have hfl:=List.length_filter_le (zcW at_) (p.take j)
   have htl:(p.take j).length≤3:=by simp;omega
   cases hh:zcW at_ x
   ·rw [hh] at ch hst
    repeat' (first|(refine shC ?_;first|refine qC ch ?_)|(refine shX ?_;first|refine qX hej ?_)|(refine yK ?_;first|refine VT zf rfl rfl rfl rfl rfl rfl rfl (by show _ * 32≤_;simp;omega) (by simp;omega) rfl rfl ?_)|refine sK ?_|refine sC (fun _=>?_) (fun _=>?_)|fail)
    exact ⟨j + 1,hlj,tD,tS,⟨Zp rfl (by rw [hst];simp) zG,rfl⟩⟩
   ·rw [hh] at ch hst
    repeat' (first|(refine shC ?_;first|refine qC ch ?_)|(refine shX ?_;first|refine qX hej ?_)|(refine yK ?_;first|refine VT zf rfl rfl rfl rfl rfl rfl rfl (by show _ * 32≤_;simp;omega) (by simp;omega) rfl rfl ?_)|refine sK ?_|refine sC (fun _=>?_) (fun _=>?_)|fail)
    exact ⟨j + 1,hlj,tD,tS,⟨Zp rfl (by rw [hst];simp) zG,rfl⟩⟩
  ·repeat' (first|refine sK ?_|refine sC (fun _=>?_) (fun _=>?_)|fail)
   exact ⟨k + 1,hlt,tD,tS,⟨Zp rfl (by rw [hnext,List.take_of_length_le (by omega)]) zG,rfl⟩⟩
 ·have hk2:k=l.length:=by omega
  subst hk2
  repeat' (first|(refine zn ?_;first|(refine yD (mrP (zcG at_ l)) (mrP (Xq (zcG at_ l))) [] [(5,.own 0)] [0] zh rfl rfl rfl ?_ tS rfl rfl rfl hso ?_;· (repeat (first|exact zG|refine zD rfl ?_)))|(refine yD (mrP (Xq (zcG at_ l))) ([(0,.dead)]) [] [] [0] zh rfl rfl rfl ?_ tS rfl rfl rfl hco ?_;· (repeat (first|exact zG|refine zD rfl ?_))))|refine sK ?_|refine sC (fun _=>?_) (fun _=>?_)|fail)
  exact retq rfl rfl
set_option maxHeartbeats 20000000
theorem zlV (p:Int→Int→Bool) (f:FuncId) (first cap:List PV) (a b:Int) (hp:ACall Tryz.prog f (first++[pi a,pi b]++cap) (pb (p a b))):ACall Tryz.prog 273 [pi b,.ptr (.fn (.func f) first cap) 0,.ptr (pi a) 0] (pb (p a b)):=by
 refine zi zf Tryz.func273 rfl (by kernel_rfl) Tryz.ntmps273 (by simp) _ rfl (fun hw gB hgB=>?_)
 repeat' (first|(refine shC ?_;first|refine qV (hp) ?_)|refine sA ?_|refine sC (fun _=>?_) (fun _=>?_)|fail)
 exact retq rfl rfl
theorem zht (l:List Int) (p:Int→Int→Bool) (f:FuncId) (first cap:List PV) (hp:∀ a∈l,∀ b∈l,ACall Tryz.prog f (first++[pi a,pi b]++cap) (pb (p a b))):ACall Tryz.prog 243 [ints l,.fn (.func f) first cap] (pb (zb2 l p)):=by
 refine zi zf Tryz.func243 rfl (by kernel_rfl) Tryz.ntmps243 (by simp) _ rfl (fun hw gB hgB=>?_)
 have hl:=zdC hw.1
 repeat' (first|refine sA ?_|refine sC (fun _=>?_) (fun _=>?_)|fail)
 refine zW (fun k:Nat=>[(0,.pv (ints l)),(3,.pv (.ptr (.fn (.func f) first cap) 0)),(7,.pv (ints l)),(8,.pv (pi l.length)),(9,.pv (pi k))]) (fun _=>[]) (fun k=>k≤l.length∧zb2 l p=((List.range l.length).drop k).any fun i=>(l.take i).any (p (l.getD i 0))) (fun k=>l.length - k) 0 ⟨by omega,rfl⟩ (tS) tH ?_
 rintro k ⟨hk,hr⟩
 by_cases hlt:k < l.length
 ·have he:=YD hlt
  have c1:=QX (l.take k) (p l[k]) 273 [] [.ptr (.fn (.func f) first cap) 0,.ptr (pi l[k]) 0] (fun x hx=>zlV p f first cap l[k] x (hp _ (List.getElem_mem hlt) x (List.mem_of_mem_take hx)))
  rw [zg7 hlt,zQ hlt] at hr
  repeat' (first|refine zaK (t:=6) rfl rfl rfl ?_|refine zx rfl (Zu (xs:=l) (f:=pi) 0 k zf rfl rfl rfl rfl rfl rfl rfl (by omega) (by omega)) rfl rfl ?_|(refine shC ?_;first|refine qC c1 ?_)|(refine shX ?_;first|refine qX he ?_)|refine sK ?_|refine sC (fun _=>?_) (fun _=>?_)|fail)
  all_goals first|(refine retq rfl ?_;first|(simp only [zy,BL,List.length_map] at *;simp only [*,BL,List.length_map];done)|(simp_all [zy];done)|(simp_all [zy];omega)|(simp_all [zy];intros;omega))|(refine ⟨k + 1,⟨by omega,?_⟩,tD,tS,tH⟩;first|(simp only [BL,List.length_map] at *;simp only [*,BL,List.length_map];done)|(simp_all [];done)|(simp_all [];omega)|(simp_all [];intros;omega))|(trace "LEND";trace_state)
 ·rw [drop_end (by simp;omega)] at hr
  repeat' (first|refine sK ?_|refine sC (fun _=>?_) (fun _=>?_)|fail)
  all_goals first|(refine retq rfl ?_;first|(simp only [zy,BL,List.length_map] at *;simp only [*,BL,List.length_map];done)|(simp_all [zy];done)|(simp_all [zy];omega)|(simp_all [zy];intros;omega))|(refine VX rfl ?_;first|(simp only [zy,BL,List.length_map] at *;simp only [*,BL,List.length_map];done)|(simp_all [zy];done)|(simp_all [zy];omega)|(simp_all [zy];intros;omega))|skip
theorem zlf (g:Img) (a b:Int) (ha0:0≤a) (ha:a.toNat < g.fields.length) (hb0:0≤b) (hb:b.toNat < g.fields.length):ACall Tryz.prog 244 [pi a,pi b,.ptr (zT g) 0] (pb (zgO g a b)):=by
 refine zi zf Tryz.func244 rfl (by kernel_rfl) Tryz.ntmps244 (by simp) _ rfl (fun hw gB hgB=>?_)
 have hea:=YE (f:=Yb) ha
 have heb:=YE (f:=Yb) hb
 repeat' (first|(refine shX ?_;first|refine zx rfl (zq zf rfl rfl rfl rfl rfl rfl ha0 hea) rfl rfl ?_|refine AD.step _ _ _ _ _ rfl (zq zf rfl rfl rfl rfl rfl rfl ha0 hea) rfl rfl ?_|refine zx rfl (zq zf rfl rfl rfl rfl rfl rfl hb0 heb) rfl rfl ?_|refine AD.step _ _ _ _ _ rfl (zq zf rfl rfl rfl rfl rfl rfl hb0 heb) rfl rfl ?_)|refine sA ?_|refine sC (fun _=>?_) (fun _=>?_)|fail)
 exact retq rfl (by simp only [zy,zgO,fName,zQ ha,zQ hb])
theorem zdM (a b:List Ty):ACall Tryz.prog 182 [tys a,tys b] (pb (decide (a=b))):=by
 refine zi zf Tryz.func182 rfl (by kernel_rfl) Tryz.ntmps182 (by simp) _ rfl (fun hw gB hgB=>?_)
 have hl:=zbv hw.1
 by_cases hlen:a.length=b.length
 ·repeat' (first|refine sK ?_|refine sC (fun _=>?_) (fun _=>?_)|fail)
  refine zW (fun k:Nat=>[(0,.pv (tys a)),(1,.pv (tys b)),(11,.pv (tys a)),(12,.pv (pi a.length)),(13,.pv (pi k))]) (fun _=>[]) (fun k=>k≤a.length∧a.take k=b.take k) (fun k=>a.length - k) 0 ⟨by simp,by simp⟩ (tS) tH ?_
  rintro k ⟨hk,hno⟩
  by_cases hlt:k < a.length
  ·have he:=zak hlt
   have hltb:k < b.length:=by omega
   have he':=zak hltb
   repeat' (first|(refine shX ?_;first|refine qX he ?_|refine qX he' ?_)|refine sK ?_|refine sC (fun _=>?_) (fun _=>?_)|fail)
   ·rename_i h
    refine retq rfl ?_
    have:a≠b:=by
     rintro rfl
     simp at h
    simp [zy,this]
   ·rename_i h
    have e:a[k]=b[k]:=by
     simp only [Bool.not_eq_false'] at h
     rw [Wp] at h
     simpa using h
    exact ⟨k + 1,⟨by omega,zdF hlt hltb hno e⟩,tD,tS,tH⟩
  ·repeat' (first|refine sK ?_|refine sC (fun _=>?_) (fun _=>?_)|fail)
   refine retq rfl ?_
   rw [List.take_of_length_le (by omega),List.take_of_length_le (by omega)] at hno
   simp [zy,hno]
 ·have hne:a≠b:=by rintro rfl;exact hlen rfl
  have hb:((((a.map yM).length:Nat):Int) != (((b.map yM).length:Nat):Int))=true:=by simp;omega
  repeat' (first|refine sK ?_|refine sC (fun _=>?_) (fun _=>?_)|fail)
  exact retq rfl (by simp [zy,hne])
abbrev zMe:AV:=.pv (.agg [.base (.string ByteArray.empty),pi 0,pi 0,.base (.slice none 0 0),pi 0,pi 0,pi 0,pb false,.base (.slice none 0 0),pi 0,.base (.slice none 0 0),.base (.slice none 0 0)])
theorem zlU (g:Img) (a b:Int) (ha0:0≤a) (ha:a.toNat < g.methods.length) (hb0:0≤b) (hb:b.toNat < g.methods.length):ACall Tryz.prog 245 [pi a,pi b,.ptr (zT g) 0] (pb (WZ (mAt g a) (mAt g b))):=by
 refine zi zf Tryz.func245 rfl (by kernel_rfl) Tryz.ntmps245 (by simp) _ rfl (fun hw gB hgB=>?_)
 have hea:=YE (f:=yB) ha
 have heb:=YE (f:=yB) hb
 rw [mAt,mAt,zQ ha,zQ hb]
 generalize g.methods[a.toNat]=x at hea ⊢
 generalize g.methods[b.toNat]=y at heb ⊢
 have hty:=Wp x.ret y.ret
 have c1:=zdM x.params y.params
 repeat' (first|refine zlr rfl ?_|refine sA ?_|fail)
 refine zeW 10 11 [0,1,2,3,4,5,6,7,8,9,10,11,12,13] [0,1,2,3,4,5,6,7,8,9,10,11,12,13] [0,1,2,3,4,5,6,7,8,9,11,10,12,13] [0,1,2,3,4,5,6,7,8,9,11,10,12,13] rfl (by kernel_rfl) (by kernel_rfl) (zld (by kernel_rfl) ?_) (zld (by kernel_rfl) ?_)
 ·refine zcD 14 14 [10,11,12,13] [] (mkL [[],[(0,.cell zMe)],[(1,.cell zMe),(0,.cell zMe)],[(0,.cell (.pv (yB x))),(1,.cell zMe),(0,.cell zMe)],[(1,.cell (.pv (yB y))),(0,.cell (.pv (yB x))),(1,.cell zMe),(0,.cell zMe)]]) (mkL [[],[(0,.cell zMe)],[(1,.cell zMe),(0,.cell zMe)],[(0,.cell (.pv (yB x))),(1,.cell zMe),(0,.cell zMe)],[(1,.cell (.pv (yB y))),(0,.cell (.pv (yB x))),(1,.cell zMe),(0,.cell zMe)]]) [] none rfl (by kernel_rfl) (by kernel_rfl) (by kernel_rfl) (by kernel_rfl) (by kernel_rfl) (by kernel_rfl) (fun p hp=>by simp at hp) rfl (zaW rfl ⟨tH,tH,tH,tH,tH,trivial⟩) rfl (Ql rfl rfl) (fun q h=>Ql rfl rfl q 4 h (Nat.le_refl 4)) tH rfl (fun v hv=>by cases hv) ?_
  repeat' (first|refine Ym 10 [0,1,2] (.box 0 0) rfl rfl rfl rfl rfl ?_|refine Ym 0 [0,1] (.box 1 0) rfl rfl rfl rfl rfl ?_|refine QE [0] (.pv (.tup [])) rfl rfl rfl ?_|refine QE [] (.pv (.tup [])) rfl rfl rfl ?_|refine ⟨⟨rfl,Vd zf 0 rfl rfl rfl rfl,.inr (by kernel_rfl)⟩,?_⟩|refine ⟨⟨rfl,Vd zf 1 rfl rfl rfl rfl,.inr (by kernel_rfl)⟩,?_⟩|refine ⟨⟨rfl,zdP zf rfl rfl rfl rfl rfl rfl rfl,.inl rfl⟩,?_⟩|refine QG ?_|intro _|refine XO ?_|(refine shC ?_;first|refine qC c1 ?_)|(refine shX ?_;first|refine zx rfl (zq zf rfl rfl rfl rfl rfl rfl ha0 hea) rfl rfl ?_|refine AD.step _ _ _ _ _ rfl (zq zf rfl rfl rfl rfl rfl rfl ha0 hea) rfl rfl ?_|refine zx rfl (zq zf rfl rfl rfl rfl rfl rfl hb0 heb) rfl rfl ?_|refine AD.step _ _ _ _ _ rfl (zq zf rfl rfl rfl rfl rfl rfl hb0 heb) rfl rfl ?_)|refine sK ?_|refine sC (fun _=>?_) (fun _=>?_)|fail)
  all_goals refine retq rfl ?_
  all_goals (simp only [zy,WZ,←hty];clear hty;simp_all)
 ·refine zcD 14 14 [10,11,12,13] [] (mkL [[],[(1,.cell zMe)],[(0,.cell zMe),(1,.cell zMe)],[(0,.cell (.pv (yB x))),(0,.cell zMe),(1,.cell zMe)],[(1,.cell (.pv (yB y))),(0,.cell (.pv (yB x))),(0,.cell zMe),(1,.cell zMe)]]) (mkL [[],[(1,.cell zMe)],[(0,.cell zMe),(1,.cell zMe)],[(0,.cell (.pv (yB x))),(0,.cell zMe),(1,.cell zMe)],[(1,.cell (.pv (yB y))),(0,.cell (.pv (yB x))),(0,.cell zMe),(1,.cell zMe)]]) [] none rfl (by kernel_rfl) (by kernel_rfl) (by kernel_rfl) (by kernel_rfl) (by kernel_rfl) (by kernel_rfl) (fun p hp=>by simp at hp) rfl (zaW rfl ⟨tH,tH,tH,tH,tH,trivial⟩) rfl (Ql rfl rfl) (fun q h=>Ql rfl rfl q 4 h (Nat.le_refl 4)) tH rfl (fun v hv=>by cases hv) ?_
  repeat' (first|refine Ym 10 [0,1,2] (.box 1 0) rfl rfl rfl rfl rfl ?_|refine Ym 0 [0,1] (.box 0 0) rfl rfl rfl rfl rfl ?_|refine QE [0] (.pv (.tup [])) rfl rfl rfl ?_|refine QE [] (.pv (.tup [])) rfl rfl rfl ?_|refine ⟨⟨rfl,Vd zf 1 rfl rfl rfl rfl,.inr (by kernel_rfl)⟩,?_⟩|refine ⟨⟨rfl,Vd zf 0 rfl rfl rfl rfl,.inr (by kernel_rfl)⟩,?_⟩|refine ⟨⟨rfl,zdP zf rfl rfl rfl rfl rfl rfl rfl,.inl rfl⟩,?_⟩|refine QG ?_|intro _|refine XO ?_|(refine shC ?_;first|refine qC c1 ?_)|(refine shX ?_;first|refine zx rfl (zq zf rfl rfl rfl rfl rfl rfl ha0 hea) rfl rfl ?_|refine AD.step _ _ _ _ _ rfl (zq zf rfl rfl rfl rfl rfl rfl ha0 hea) rfl rfl ?_|refine zx rfl (zq zf rfl rfl rfl rfl rfl rfl hb0 heb) rfl rfl ?_|refine AD.step _ _ _ _ _ rfl (zq zf rfl rfl rfl rfl rfl rfl hb0 heb) rfl rfl ?_)|refine sK ?_|refine sC (fun _=>?_) (fun _=>?_)|fail)
  all_goals refine retq rfl ?_
  all_goals (simp only [zy,WZ,←hty];clear hty;simp_all)
theorem zkp (g:Img) (t:Int) (td:TD) (htd:typeAt g t=some td) (hg:g.types.length≤1000) (hgf:g.fields.length≤1000) (hgm:g.methods.length≤1000):ACall Tryz.prog 220 [zT g,pi t] (pb (zeE g t td)):=by
 refine zi zf Tryz.func220 rfl (by kernel_rfl) Tryz.ntmps220 (by simp) _ rfl (fun hw gB hgB=>?_)
 obtain ⟨h0,heT⟩:=YT htd
 have cf:=zht (fieldsOf g t) (zgO g) 244 [] [.ptr (zT g) 0] (fun a ha b hb=>zlf g a b (YN ha).1 (YN ha).2 (YN hb).1 (YN hb).2)
 have cm:=zht (methodsOf g t) (fun a b=>WZ (mAt g a) (mAt g b)) 245 [] [.ptr (zT g) 0] (fun a ha b hb=>zlU g a b (qM ha).1 (qM ha).2 (qM hb).1 (qM hb).2)
 repeat' (first|refine sA ?_|refine sC (fun _=>?_) (fun _=>?_)|fail)
 refine zW (fun k:Nat=>[(1,.pv (pi t)),(2,.pv (.ptr (zT g) 0)),(8,.pv (.slc 4 (g.types.map Zl) false)),(9,.pv (pi g.types.length)),(10,.pv (pi k))]) (fun _=>[]) (fun k=>k≤g.types.length∧zeE g t td=(((List.range g.types.length).drop k).all (zcw g t td)&&!zb2 (fieldsOf g t) (zgO g)&&!zb2 (methodsOf g t) (fun a b=>WZ (mAt g a) (mAt g b)))) (fun k=>g.types.length - k) 0 ⟨by omega,rfl⟩ (tS) tH ?_
 rintro k ⟨hk,hr⟩
 by_cases hlt:k < g.types.length
 ·have he:=yj (f:=Zl) hlt
  rw [Qm hlt,zcw,zQ hlt] at hr
  repeat' (first|(refine shX ?_;first|refine qX he ?_|refine zx rfl (zq zf rfl rfl rfl rfl rfl rfl h0 heT) rfl rfl ?_|refine AD.step _ _ _ _ _ rfl (zq zf rfl rfl rfl rfl rfl rfl h0 heT) rfl rfl ?_)|refine sK ?_|refine sC (fun _=>?_) (fun _=>?_)|fail)
  all_goals first|(refine retq rfl ?_;first|(simp only [zy,BL,List.length_map] at *;simp only [*,BL,List.length_map];done)|(simp_all [zy];done)|(simp_all [zy];omega)|(simp_all [zy];intros;omega))|(refine ⟨k + 1,⟨by omega,?_⟩,tD,tS,tH⟩;first|(simp only [BL,List.length_map] at *;simp only [*,BL,List.length_map];done)|(simp_all [];done)|(simp_all [];omega)|(simp_all [];intros;omega))|(trace "LEND";trace_state)
 ·rw [drop_end (by simp;omega)] at hr
  repeat' (first|(refine shC ?_;first|refine qC (Xw g t hgf) ?_|refine qC (Yu g t hgm) ?_|refine qC cf ?_|refine qC cm ?_)|refine sK ?_|refine sC (fun _=>?_) (fun _=>?_)|fail)
  all_goals first|(refine retq rfl ?_;first|(simp only [zy,BL,List.length_map] at *;simp only [*,BL,List.length_map];done)|(simp_all [zy];done)|(simp_all [zy];omega)|(simp_all [zy];intros;omega))|(refine VX rfl ?_;first|(simp only [zy,BL,List.length_map] at *;simp only [*,BL,List.length_map];done)|(simp_all [zy];done)|(simp_all [zy];omega)|(simp_all [zy];intros;omega))|skip
set_option maxHeartbeats 20000000
theorem zfC (c:List Pt) (at_:Int):qW c at_≤c.length:=by
 unfold qW
 induction c with
 | nil=>simp
 | cons x c ih=>rw [List.takeWhile_cons];split <;> simp;omega
theorem zhY (x:Pt) (c:List Pt) (at_:Int):qW (x::c) at_=if x.p==1&&x.f==at_ then qW c at_ + 1 else 0:=by
 unfold qW
 rw [List.takeWhile_cons];split <;> simp
theorem zd7 (c:List Pt) (at_:Int) (hl:c.length≤1000):ACall Tryz.prog 136 [pts c,pi at_] (pi (qW c at_)):=by
 refine zi zf Tryz.func136 rfl (by kernel_rfl) Tryz.ntmps136 (by simp) _ rfl (fun hw gB hgB=>?_)
 repeat' (first|refine sA ?_|refine sC (fun _=>?_) (fun _=>?_)|fail)
 refine zW (fun k:Nat=>[(0,.pv (pts c)),(1,.pv (pi at_)),(5,.pv (pi k))]) (fun _=>[]) (fun k=>k≤c.length∧qW c at_=k + qW (c.drop k) at_) (fun k=>c.length - k) 0 ⟨by omega,by simp⟩ (tS) tH ?_
 rintro k ⟨hk,hr⟩
 by_cases hlt:k < c.length
 ·have he:=yj (f:=yQ) hlt
  have hd:decide (((k:Nat):Int) < (((c.map yQ).length:Nat):Int))=true:=decide_eq_true (by simp;omega)
  rw [drop_cons hlt,zhY] at hr
  generalize c[k]=x at he hr
  cases h1:(x.p==1)
  ·rw [h1] at hr
   repeat' (first|(refine shX ?_;first|refine qX he ?_)|refine sK ?_|refine sC (fun _=>?_) (fun _=>?_)|fail)
   all_goals (refine retq rfl ?_;simp [zy,hr])
  ·cases h2:(x.f==at_)
   ·rw [h1,h2] at hr
    repeat' (first|(refine shX ?_;first|refine qX he ?_)|refine sK ?_|refine sC (fun _=>?_) (fun _=>?_)|fail)
    all_goals (refine retq rfl ?_;simp [zy,hr])
   ·rw [h1,h2] at hr
    repeat' (first|(refine shX ?_;first|refine qX he ?_)|refine sK ?_|refine sC (fun _=>?_) (fun _=>?_)|fail)
    all_goals exact ⟨k + 1,⟨hlt,by rw [hr];simp;omega⟩,tD,tS,tH⟩
 ·have hd:decide (((k:Nat):Int) < (((c.map yQ).length:Nat):Int))=false:=decide_eq_false (by simp;omega)
  rw [drop_end (by omega)] at hr
  repeat' (first|refine sK ?_|refine sC (fun _=>?_) (fun _=>?_)|fail)
  have hz:qW c at_=k:=hr
  all_goals (refine retq rfl ?_;rw [hz];rfl)
theorem zmy (x y:Pt):ACall Tryz.prog 185 [yQ x,yQ y] (pb (zsQ x y)):=by
 refine zi zf Tryz.func185 rfl (by kernel_rfl) Tryz.ntmps185 (by simp) _ rfl (fun hw gB hgB=>?_)
 repeat' (first|refine sA ?_|refine sC (fun _=>?_) (fun _=>?_)|fail)
 exact retq rfl rfl
theorem ziC:∀ {a b:List Pt},a.length≠b.length→VO a b=false
 | [],[],h=>by simp at h
 | [],_::_,_=>rfl
 | _::_,[],_=>rfl
 | x::a,y::b,h=>by rw [VO,ziC (a:=a) (b:=b) (by simpa using h),Bool.and_false]
theorem zmZ (a b:List Pt) (hl:a.length≤1000):ACall Tryz.prog 184 [pts a,pts b,.fn (.func 185) [] []] (pb (VO a b)):=by
 refine zi zf Tryz.func184 rfl (by kernel_rfl) Tryz.ntmps184 (by simp) _ rfl (fun hw gB hgB=>?_)
 by_cases hlen:a.length=b.length
 ·have hc:((((a.map yQ).length:Nat):Int) != (((b.map yQ).length:Nat):Int))=false:=by simp [hlen]
  repeat' (first|refine sA ?_|refine sC (fun _=>?_) (fun _=>?_)|fail)
  refine zW (fun k:Nat=>[(1,.pv (pts b)),(2,.pv (.fn (.func 185) [] [])),(15,.pv (pts a)),(16,.pv (pi a.length)),(17,.pv (pi k))]) (fun _=>[]) (fun k=>k≤a.length∧VO a b=VO (a.drop k) (b.drop k)) (fun k=>a.length - k) 0 ⟨by omega,rfl⟩ (tS) tH ?_
  rintro k ⟨hk,hr⟩
  by_cases hlt:k < a.length
  ·have he:=yj (f:=yQ) hlt
   have he2:=yj (f:=yQ) (show k < b.length by omega)
   rw [drop_cons hlt,drop_cons (show k < b.length by omega),VO] at hr
   generalize a[k]=x at he hr
   generalize b[k]=y at he2 hr
   have cs:=zmy x y
   cases hs:zsQ x y
   ·rw [hs] at cs hr
    repeat' (first|(refine shC ?_;first|refine qV (cs) ?_)|(refine shX ?_;first|refine qX he ?_|refine qX he2 ?_)|refine sK ?_|refine sC (fun _=>?_) (fun _=>?_)|fail)
    all_goals (refine retq rfl ?_;simp [zy,hr])
   ·rw [hs] at cs hr
    repeat' (first|(refine shC ?_;first|refine qV (cs) ?_)|(refine shX ?_;first|refine qX he ?_|refine qX he2 ?_)|refine sK ?_|refine sC (fun _=>?_) (fun _=>?_)|fail)
    exact ⟨k + 1,⟨hlt,hr⟩,tD,tS,tH⟩
  ·rw [drop_end (by omega),drop_end (by omega)] at hr
   repeat' (first|refine sK ?_|refine sC (fun _=>?_) (fun _=>?_)|fail)
   all_goals (refine retq rfl ?_;rw [hr];rfl)
 ·have hc:((((a.map yQ).length:Nat):Int) != (((b.map yQ).length:Nat):Int))=true:=by simp;omega
  have hr:=ziC hlen
  repeat' (first|refine sA ?_|refine sC (fun _=>?_) (fun _=>?_)|fail)
  all_goals (refine retq rfl ?_;rw [hr];rfl)
theorem zid (a b:List Pt) (hl:a.length≤1000):ACall Tryz.prog 137 [pts a,pts b] (pb (VO a b)):=by
 have c:=zmZ a b hl
 refine zi zf Tryz.func137 rfl (by kernel_rfl) Tryz.ntmps137 (by simp) _ rfl (fun hw gB hgB=>?_)
 repeat' (first|(refine shC ?_;first|refine qC c ?_)|refine sA ?_|refine sC (fun _=>?_) (fun _=>?_)|fail)
 exact retq rfl rfl
theorem zk0 {b a:List Pt} {to:Int} {k:Nat} (hk:k≤qW b to) (h:VO (b.drop k) a=true):zjD b to a=true:=by
 rw [zjD,List.any_eq_true]
 exact ⟨k,List.mem_range.2 (by omega),h⟩
theorem znO {b a:List Pt} {to:Int} (h:∀ j,j < qW b to + 1→VO (b.drop j) a=false):zjD b to a=false:=by
 rw [zjD,List.any_eq_false]
 intro k hk
 rw [h k (List.mem_range.1 hk)];simp
end Go.Cg
