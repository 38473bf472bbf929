/- A part of the walks by abstract values: no statement of its own. -/
import Derived.Test.YtdbgicaoddibdaaGreatT23
import Derived.Test.YtdbgicaoddibdaaGreatT15
import Derived.Test.YtdbgicaoddibdaaGreatT16
import Derived.Test.YtdbgicaoddibdaaGreatT20
import Derived.Test.YtdbgicaoddibdaaGreatT12
set_option linter.unusedVariables false
set_option linter.unusedSimpArgs false
namespace Go.Cg
open Go.Proofs
def zev (at_:Int) (x:Pt):Bool:=decide (x.f≤at_)&&decide (at_ < x.t)
def zcn (at_:Int) (l:List Cl):Nat→List Pt
 | 0=>[]
 | k + 1=>zcn at_ l k++(yE k (l.getD k default)).filter (zev at_)
def zdI (at_:Int) (l:List Cl):List Pt:=zcn at_ l l.length
def zpo (a b:Pt):Int:=if (a.t - a.f) - (b.t - b.f)=0 then a.c - b.c else (a.t - a.f) - (b.t - b.f)
def zcj (x:Pt):List Pt→List Pt→List Pt
 | [],s=>x::s
 | y::r,s=>if zpo x y < 0 then zcj x r (y::s) else (y::r).reverse++x::s
def zlJ (l:List Pt) (x:Pt):List Pt:=zcj x l.reverse []
def XU (l:List Pt):List Pt:=l.foldl zlJ []
def zks (a b:Pt):Bool:=a.f==b.f&&(a.t==b.t&&true)
def XW (p:Pt):List Pt→List Pt
 | []=>[]
 | y::l=>if zks y p then XW y l else y::XW y l
def ZW:List Pt→List Pt
 | []=>[]
 | x::l=>x::XW x l
def qM (l:List Cl) (at_:Int):List Pt:=ZW (XU (zdI at_ l))
theorem zfM (x:Pt):∀ (r s:List Pt),(zcj x r s).length=r.length + s.length + 1
 | [],s=>by simp [zcj]
 | y::r,s=>by
  rw [zcj];split
  ·rw [zfM x r (y::s)];simp;omega
  ·simp;omega
theorem znn (l:List Pt) (x:Pt):(zlJ l x).length=l.length + 1:=by rw [zlJ,zfM];simp
theorem zgy (l:List Pt):(XU l).length=l.length:=by
 have:∀ (l a:List Pt),(l.foldl zlJ a).length=a.length + l.length:=by
  intro l;induction l with
  | nil=>intro a;simp
  | cons x l ih=>intro a;rw [List.foldl_cons,ih,znn];simp;omega
 rw [XU,this];simp
theorem ziY (k:Int) (c:Cl):(yE k c).length≤3:=by unfold yE;split <;> simp
theorem zds (at_:Int) (l:List Cl):∀ k,(zcn at_ l k).length≤3 * k
 | 0=>by simp [zcn]
 | k + 1=>by
  rw [zcn,List.length_append];have h1:=zds at_ l k;have h2:=List.length_filter_le (zev at_) (yE k (l.getD k default));have h3:=ziY k (l.getD k default);omega
theorem zpa (p:Pt) (l:List Pt):(XW p l).length≤l.length:=by
 induction l generalizing p with
 | nil=>simp [XW]
 | cons y l ih =>
  rw [XW];split
  ·have:=ih y;simp;omega
  ·have:=ih y;simp;omega
theorem zrV (l:List Pt):(ZW l).length≤l.length:=by
 cases l with
 | nil=>simp [ZW]
 | cons x l=>have:=zpa x l;simp [ZW];omega
theorem zoT (l:List Cl) (at_:Int):(qM l at_).length≤3 * l.length:=by
 have h1:=zrV (XU (zdI at_ l));rw [zgy] at h1;exact Nat.le_trans h1 (zds at_ l l.length)
theorem zkr (x:Pt):∀ (r s:List Pt) (y:Pt),y∈zcj x r s↔y=x∨y∈r∨y∈s
 | [],s,y=>by simp [zcj]
 | z::r,s,y=>by
  rw [zcj];split
  ·rw [zkr x r (z::s) y];grind
  ·grind
theorem zko (l:List Pt) (y:Pt):y∈XU l↔y∈l:=by
 have:∀ (l a:List Pt),y∈l.foldl zlJ a↔y∈a∨y∈l:=by
  intro l;induction l with
  | nil=>intro a;simp
  | cons x l ih =>
   intro a;rw [List.foldl_cons,ih,zlJ,zkr]
   grind
 rw [XU,this];simp
theorem zpe {p y:Pt} {l:List Pt} (h:y∈XW p l):y∈l:=by
 induction l generalizing p with
 | nil=>simp [XW] at h
 | cons z l ih =>
  rw [XW] at h;split at h
  ·exact List.mem_cons_of_mem _ (ih h)
  ·rcases List.mem_cons.1 h with h|h
   ·simp [h]
   ·exact List.mem_cons_of_mem _ (ih h)
theorem zq2 {y:Pt} {l:List Pt} (h:y∈ZW l):y∈l:=by
 cases l with
 | nil=>simp [ZW] at h
 | cons x l =>
  rcases List.mem_cons.1 h with h|h
  ·simp [h]
  ·exact List.mem_cons_of_mem _ (zpe h)
theorem zgn {at_:Int} {l:List Cl} {y:Pt}:∀ {k:Nat},y∈zcn at_ l k→∃ j,j < k∧y∈yE j (l.getD j default)∧zev at_ y=true
 | 0,h=>by simp [zcn] at h
 | k + 1,h=>by
  rw [zcn,List.mem_append,List.mem_filter] at h;rcases h with h|h
  ·obtain ⟨j,h1,h2⟩:=zgn h;exact ⟨j,by omega,h2⟩
  ·exact ⟨k,by omega,h⟩
theorem zil {l:List Cl} {at_:Int} {y:Pt} (h:y∈qM l at_):∃ j,j < l.length∧y∈yE j (l.getD j default)∧zev at_ y=true :=
 zgn ((zko _ _).1 (zq2 h))
theorem zuJ {k:Int} {c:Cl} {y:Pt} (h:y∈yE k c):y.c=k:=by
 unfold yE at h;split at h <;> simp at h
 ·rcases h with rfl|rfl|rfl <;> rfl
 ·rcases h with rfl|rfl <;> rfl
set_option maxHeartbeats 20000000
structure SmP (x:Pt):Prop where
 f:0≤x.f∧x.f≤1000000
 t:0≤x.t∧x.t≤1000000
 c:0≤x.c∧x.c≤1000000
theorem znT (a b:Pt) (ha:SmP a) (hb:SmP b):ACall Tryz.prog 178 [yP a,yP b] (pi (zpo a b)):=by
 have ha1:=ha.f;have ha2:=ha.t;have ha3:=ha.c;have hb1:=hb.f;have hb2:=hb.t;have hb3:=hb.c;have e1:IntKind.i64.wrap (a.t - a.f)=a.t - a.f:=wrap_in zwy62 zwy62;have e2:IntKind.i64.wrap (b.t - b.f)=b.t - b.f:=wrap_in zwy62 zwy62;have e3:IntKind.i64.wrap ((a.t - a.f) - (b.t - b.f))=(a.t - a.f) - (b.t - b.f):=wrap_in zwy62 zwy62;have e4:IntKind.i64.wrap (a.c - b.c)=a.c - b.c:=wrap_in zwy62 zwy62;by_cases h:(a.t - a.f) - (b.t - b.f)=0
 ·have hc:(!(IntKind.i64.wrap (IntKind.i64.wrap (a.t - a.f) - IntKind.i64.wrap (b.t - b.f))==0))=false:=by rw [e1,e2,e3,h];rfl
  refine zi zf Tryz.func178 rfl zws Tryz.ntmps178 zwy63 _ rfl (fun hw gB hgB=>?_)
  repeat' (first|refine sA ?_|refine sC (fun _=>?_) (fun _=>?_)|fail)
  all_goals (refine ay ?_;simp [zC,zpo,h,e4])
 ·have hc:(!(IntKind.i64.wrap (IntKind.i64.wrap (a.t - a.f) - IntKind.i64.wrap (b.t - b.f))==0))=true:=by rw [e1,e2,e3];simpa using h
  refine zi zf Tryz.func178 rfl zws Tryz.ntmps178 zwy63 _ rfl (fun hw gB hgB=>?_)
  repeat' (first|refine sA ?_|refine sC (fun _=>?_) (fun _=>?_)|fail)
  all_goals (refine ay ?_;simp [zC,zpo,h,e1,e2,e3])
abbrev zbB (us:Nat→Value) (l:List Pt):HEnv:=[(0,.mrow 197 4 (l.map yP)),(1000,.pin (.own 0) (us 0))]
def zv2 (us:Nat→Value) (A:List PV) (k:Nat) (p q:PV):Nat→HEnv
 | 0=>[(0,.mrow 197 4 A),(1000,.pin (.own 0) (us 0))]
 | 1=>(0,.mrow 197 4 (A.set (k + 1) p))::[(0,.mrow 197 4 A),(1000,.pin (.own 0) (us 0))]
 | _=>(0,.mrow 197 4 ((A.set (k + 1) p).set k q))::(0,.mrow 197 4 (A.set (k + 1) p))::[(0,.mrow 197 4 A),(1000,.pin (.own 0) (us 0))]
abbrev zuh (us:Nat→Value):HEnv:=[(0,.dead),(1000,.pin (.own 0) (us 0))]
theorem zso (us:Nat→Value) (A:List PV) (k:Nat) (x y:PV):∀ p,p < 3→qg (zv2 us A k x y p) (zuh us)=true∧qg (zuh us) (zv2 us A k x y p)=true:=by
 intro p h;have hp:p=0∨p=1∨p=2:=by omega
 rcases hp with rfl|rfl|rfl <;> exact ⟨rfl,rfl⟩
theorem zqV (us:Nat→Value) (A:List PV) (k:Nat) (x y:PV) {gB:Base}:∀ p,p≤2→∀ K ρ w,FS gB K ρ (zv2 us A k x y p) w→FS gB K ρ (zuh us) w:=by
 intro p h K ρ w hf;have hp:p=0∨p=1∨p=2:=by omega
 rcases hp with rfl|rfl|rfl <;> exact (hf.kill 0).narrow (e:=[]) tH
theorem zt6 (a b:Pt) (r t:List Pt):(((r.reverse++a::b::t).map yP).set (r.length + 1) (yP a)).set r.length (yP b)=(r.reverse++b::a::t).map yP:=by
 apply List.ext_getElem?;intro i;simp only [List.getElem?_set,List.length_set,List.length_map,List.length_append,List.length_reverse,List.length_cons,List.map_append,List.map_cons,List.getElem?_append,List.length_map];by_cases h1:r.length=i
 ·subst h1;simp
 ·by_cases h2:r.length + 1=i
  ·subst h2;simp
  ·simp only [h1,h2,if_false];by_cases h3:i < r.length
   ·simp [h3]
   ·simp only [h3,if_false];obtain ⟨m,rfl⟩:∃ m,i=r.length + (m + 2):=⟨i - r.length - 2,by omega⟩
    simp
theorem zwk17 {G:Prop} (h:G:=by repeat' (first|(have:=b0;refine Zr 18 18 [15,17] [[37,38,42,43,44,45,46,47,48,49,50,51],[52]] (zv2 us A k (yP y) (yP x)) (fun _=>zuh us) (zuh us) none rfl zws zws zws zws zws zws zws (fun p hp=>zso us A k _ _ p zwy107) rfl (fun p hp=>zqV us A k _ _ p hp) rfl (fun _ _ _ _=>rfl) (fun _ _=>rfl) tH rfl (fun v hv=>by cases hv) ?_)|(have:=b0;refine QF 0 2 [13,15] rfl rfl zws ?_)|(have:=b0;refine Qp 3 [10,12] rfl rfl ?_)|(have:=b0;refine QF 0 10 [0,2] rfl rfl zws ?_)|(have:=b0;refine Zt [1] (.pv (.tup [])) rfl rfl rfl ?_)|(have:=b0;refine QF 1 1 [0] rfl rfl zws ?_)|(have:=b0;refine Zt [] (.pv (.tup [])) rfl rfl rfl ?_)|(have:=b0;refine ZV ?_)|(have:=b0;refine ⟨⟨rfl,qB (k:=k + 1) (j:=0) zf rfl rfl rfl rfl g1 rfl rfl rfl rfl,.inl rfl⟩,?_⟩)|(have:=b0;refine ⟨⟨rfl,qB (k:=k) (j:=0) zf rfl rfl rfl rfl g0' rfl rfl rfl rfl,.inl rfl⟩,?_⟩)|(have:=b0;intro _)|(have:=b0;refine QL ?_)|(have:=b1;refine zy rfl (au (k:=k) (j:=0) g0) rfl rfl ?_)|(have:=b1;refine zq rfl (au (k:=k) (j:=0) g0) rfl rfl ?_)|(have:=b1;refine zy rfl (au (k:=k + 1) (j:=0) g1) rfl rfl ?_)|(have:=b1;refine zq rfl (au (k:=k + 1) (j:=0) g1) rfl rfl ?_)|(refine shC ?_;first|(have:=b1;refine qV (cb) ?_))|(refine shX ?_;first|(have:=b1;refine zy rfl (zK (k:=k) zf rfl rfl rfl rfl rfl rfl rfl hix h0) rfl rfl ?_)|(have:=b1;refine zq rfl (zK (k:=k) zf rfl rfl rfl rfl rfl rfl rfl hix h0) rfl rfl ?_)|(have:=b1;refine zy rfl (ak (k:=k + 1) h1) rfl rfl ?_)|(have:=b1;refine zq rfl (ak (k:=k + 1) h1) rfl rfl ?_)|(have:=b0;refine zy rfl (zK (k:=k) zf rfl rfl rfl rfl rfl rfl rfl hix h0') rfl rfl ?_)|(have:=b0;refine zq rfl (zK (k:=k) zf rfl rfl rfl rfl rfl rfl rfl hix h0') rfl rfl ?_))|refine sK ?_|refine sC (fun _=>?_) (fun _=>?_)|(have:=b2;exact ⟨i + 1,by omega,tD,tS,⟨Zh rfl (by rw [hnext,←hgo];simp [zcj]) zwy68,rfl⟩⟩)|(have:=b0;exact ⟨(r,y::t),⟨hgo',fun z hz=>hr z (List.mem_cons_of_mem _ hz)⟩,Nat.lt_succ_self r.length,by repeat (first|exact qh|refine yU rfl ?_|(refine ZF rfl ?_ ?_;· (show IntKind.i64.wrap _=((r.length:Nat):Int);rw [hix,hk]))),⟨Zh rfl (by rw [sw,hD];simp) zwy68,rfl⟩⟩)|(have:=b3;exact ⟨i + 1,by omega,tD,tS,⟨Zh rfl (by rw [hnext,←hgo',hA,hD];simp) zwy68,rfl⟩⟩)|(have:=b4;exact ⟨.inl rfl,.inl ⟨[],rfl,rfl,⟨Zh rfl (by rw [List.take_of_length_le (by omega),List.drop_eq_nil_of_le (by omega),List.append_nil]) zwy68,rfl⟩⟩⟩)|fail)):G:=h
theorem zl7 (l:List Pt) (hl:l.length≤1000) (hs:∀ x∈l,SmP x) (us:Nat→Value) :
  ACallM Tryz.prog 220 [.own 0,.pv (pi 0),.pv (pi l.length),.pv (.fn (.func 178) [] [])] (zbB us l) (.pv (.tup [])) (zbB us (XU l)):=by
 refine yB zf Tryz.func220 rfl zws Tryz.ntmps220 zwy63 _ rfl (fun gB hw1=>?_)
 repeat' (first|refine sA ?_|refine sC (fun _=>?_) (fun _=>?_)|fail)
 refine zW (fun i:Nat=>[(0,.own 0),(1,.pv (pi 0)),(2,.pv (pi l.length)),(3,.pv (.fn (.func 178) [] [])),(8,.pv (pi i))])
  (fun i=>zbB us (XU (l.take i)++l.drop i)) (fun i=>1≤i∧i≤l.length + 1) (fun i=>l.length + 1 - i) 1 zwy62 (tS) ⟨Zh rfl (by cases l <;> rfl) zwy68,rfl⟩ ?_
 rintro i ⟨hi1,hi2⟩;by_cases hlt:i < l.length
 ·obtain ⟨x,hx⟩:∃ x,x=l[i]:=⟨_,rfl⟩
  obtain ⟨s,hsd⟩:∃ s,s=XU (l.take i):=⟨_,rfl⟩
  have hxs:SmP x:=by rw [hx];exact hs _ (List.getElem_mem hlt)
  have hss:∀ y∈s,SmP y:=fun y hy=>by rw [hsd,zko] at hy;exact hs y (List.mem_of_mem_take hy)
  have hsl:s.length=i:=by rw [hsd,zgy];simp;omega
  have hnext:XU (l.take (i + 1))=zlJ s x:=by
   rw [List.take_succ_eq_append_getElem hlt,XU,List.foldl_append,hsd,hx];rfl
  have hdrop:l.drop i=x::l.drop (i + 1):=by rw [hx];exact List.drop_eq_getElem_cons hlt
  rw [←hsd,hdrop]
  repeat' (first|refine sK ?_|refine sC (fun _=>?_) (fun _=>?_)|fail)
  refine zW (fun st:List Pt × List Pt=>[(0,.own 0),(1,.pv (pi 0)),(2,.pv (pi l.length)),(3,.pv (.fn (.func 178) [] [])),(8,.pv (pi i)),(9,.pv (pi st.1.length))])
   (fun st=>zbB us (st.1.reverse++x::(st.2++l.drop (i + 1)))) (fun st=>zcj x st.1 st.2=zlJ s x∧∀ y∈st.1,SmP y) (fun st=>st.1.length) (s.reverse,[]) ⟨rfl,fun y hy=>hss y (by simpa using hy)⟩
   (by repeat (first|exact qh|refine yU rfl ?_|(refine ZF rfl ?_ ?_;· (show (i:Int)=((s.reverse.length:Nat):Int);simp [hsl])))) ⟨Zh rfl zwy63 zwy68,rfl⟩ ?_
  rintro ⟨r,t⟩ ⟨hgo,hr⟩;cases r with
  | nil =>
   have b2:=();exact zwk17
  | cons y r =>
   obtain ⟨D,hD⟩:∃ D,D=t++l.drop (i + 1):=⟨_,rfl⟩
   have hgo':zcj x (y::r) t=zlJ s x:=hgo;rw [zcj] at hgo';have hsy:SmP y:=hr y zwy63;have hrl:r.length < 1000:=by
    have h1:=congrArg List.length hgo';rw [znn,hsl] at h1;split at h1
    ·rw [zfM] at h1;simp at h1;omega
    ·simp at h1;omega
   have cb:=znT x y hxs hsy;have e0:(y::r).reverse++x::(t++l.drop (i + 1))=r.reverse++y::x::D:=by rw [hD];simp
   have g0:((r.reverse++y::x::D).map yP)[r.length]?=some (yP y):=by simp
   have g1:((r.reverse++y::x::D).map yP)[r.length + 1]?=some (yP x):=by
    rw [List.getElem?_map,List.getElem?_append_right zwy63];simp
   have h0:r.length < ((r.reverse++y::x::D).map yP).length:=by simp
   have h1:r.length + 1 < ((r.reverse++y::x::D).map yP).length:=by simp
   have sw:=zt6 y x r D;show AW _ _ _ _ [(0,.own 0),(1,.pv (pi 0)),(2,.pv (pi l.length)),(3,.pv (.fn (.func 178) [] [])),(8,.pv (pi i)),(9,.pv (pi (r.length + 1:Nat)))] (zbB us ((y::r).reverse++x::(t++l.drop (i + 1)))) _
   rw [e0];obtain ⟨k,hk⟩:∃ k,k=r.length:=⟨_,rfl⟩
   obtain ⟨A,hA⟩:∃ A,A=(r.reverse++y::x::D).map yP:=⟨_,rfl⟩
   rw [←hk] at g0 g1 h0 h1 sw hrl ⊢;show AW _ _ _ _ _ [(0,.mrow 197 4 ((r.reverse++y::x::D).map yP)),(1000,.pin (.own 0) (us 0))] _
   rw [←hA] at g0 g1 h0 h1 sw ⊢;have hp:decide ((0:Int) < ((k + 1:Nat):Int))=true:=decide_eq_true zwy62;have hix:IntKind.i64.wrap (((k + 1:Nat):Int) - 1)=(k:Nat):=by rw [wrap_in zwy62 zwy62];omega
   by_cases hb:zpo x y < 0
   ·have hbd:decide (zpo x y < 0)=true:=decide_eq_true hb;rw [if_pos hb] at hgo';have h0':k < (A.set (k + 1) (yP y)).length:=by rw [List.length_set];exact h0
    have g0':(A.set (k + 1) (yP y))[k]?=some (yP y):=by rw [List.getElem?_set_ne zwy62];exact g0
    have b0:=();have b1:=();exact zwk17
   ·have hbd:decide (zpo x y < 0)=false:=decide_eq_false hb;rw [if_neg hb] at hgo';have b1:=();have b3:=();exact zwk17
 ·have b4:=();exact zwk17
set_option maxHeartbeats 20000000
abbrev mrP (l:List Pt):HEnv:=[(0,.mrow 197 4 (l.map yP))]
theorem zme (l:List Pt) (hl:l.length < 20) (hs:∀ x∈l,SmP x) (us:Nat→Value) :
  ACallM Tryz.prog 197 [.own 0,.pv (pi l.length),.pv (.fn (.func 178) [] [])] (zbB us l) (.pv (.tup [])) (zbB us (XU l)):=by
 refine yB zf Tryz.func197 rfl zws Tryz.ntmps197 zwy63 _ rfl (fun gB hw1=>?_);have hc:∀ us,ACallM _ _ _ _ _ _ _:=fun us=>zl7 l zwy62 hs us
 have hd:decide ((20:Int)≤((l.length:Nat):Int))=false:=decide_eq_false zwy62;have hd2:decide ((20:Int) < ((l.length:Nat):Int))=false:=decide_eq_false zwy62
 repeat' (first|refine sA ?_|refine sC (fun _=>?_) (fun _=>?_)|fail)
 refine zW (fun _:Unit=>[(0,.own 0),(1,.pv (pi l.length)),(2,.pv (.fn (.func 178) [] [])),(6,.pv (pi 20)),(7,.pv (pi 0)),(8,.pv (pi 20))]) (fun _=>zbB us l) (fun _=>True) (fun _=>0) () trivial (tS) tH ?_;rintro _ _
 repeat' (first|(refine zn ?_;first|(refine yD (mrP l) (mrP (XU l)) [(1000,.pin (.own 0) (us 0))] [(1,.pv (pi l.length)),(6,.pv (pi 20))] [0] zh rfl rfl rfl ?_ tS rfl rfl rfl hc ?_;· (repeat (first|exact zA|refine aB ?_))))|refine sA ?_|refine sC (fun _=>?_) (fun _=>?_)|fail)
 refine zW (fun _:Unit=>[(1,.pv (pi l.length)),(6,.pv (pi 20))]) (fun _=>zbB us (XU l)) (fun _=>True) (fun _=>0) () trivial (tS) tH ?_;rintro _ _
 repeat' (first|refine sA ?_|refine sC (fun _=>?_) (fun _=>?_)|fail)
 exact ⟨.inl rfl,.inl ⟨[],rfl,rfl,tH⟩⟩
theorem zpK (l:List Pt) (hl:l.length < 20) (hs:∀ x∈l,SmP x) (us:Nat→Value) :
  ACallM Tryz.prog 177 [.own 0,.pv (.fn (.func 178) [] [])] (zbB us l) (.pv (.tup [])) (zbB us (XU l)):=by
 refine yB zf Tryz.func177 rfl zws Tryz.ntmps177 zwy63 _ rfl (fun gB hw1=>?_);have hc:∀ us,ACallM _ _ _ _ _ _ _:=fun us=>zme l hl hs us
 rw [←List.length_map (f:=yP)] at hc
 repeat' (first|(refine yC ?_;first|refine zc8 zf rfl rfl rfl rfl rfl rfl rfl ?_)|(refine zn ?_;first|(refine yD (mrP l) (mrP (XU l)) [(1000,.pin (.own 0) (us 0))] [] [0] zh rfl rfl rfl ?_ tS rfl rfl rfl hc ?_;· (repeat (first|exact zA|refine aB ?_))))|refine sA ?_|refine sC (fun _=>?_) (fun _=>?_)|fail)
 exact ⟨.inl rfl,.inl ⟨[],rfl,rfl,tH⟩⟩
end Go.Cg

namespace Go.Cg
section
variable {P:Program} {n:Nat} {g:Base} {H:HEnv} {env:Env} {QQ:QC} {k:Code} {K:KK} {ρ:Nat→Value} {w:World}
theorem FS.celltell {c:Nat} {v v':AV} (hf:FS g K ρ H w) (hc:H.get c=some (.cell v)) (h:∀ u,ARel K w ρ H v u→∃ u',ARel K w ρ H v' u'∧u'.cells=u.cells):FS g K ρ ((c,.cell v')::H) w:=by
 have hk:∀ j,(HEnv.get H j).isSome=true→(HEnv.get ((c,HE.cell v')::H) j).isSome=true∧ρ j=ρ j:=fun j hj=>by
  refine ⟨?_,rfl⟩;rw [HEnv.get_cons];split
  ·rfl
  ·exact hj
 have hlive:∀ j h,HEnv.get ((c,HE.cell v')::H) j=some h→∃ h0,H.get j=some h0∧(h.live=true→h0.live=true):=fun j h hj=>by
  rw [HEnv.get_cons] at hj;split at hj
  ·rename_i e1;subst e1;exact ⟨_,hc,fun _=>rfl⟩
  ·exact ⟨h,hj,id⟩
 refine ⟨hf.below,hf.old,hf.new,hf.lt,hf.others,hf.pt,fun j h b hj hl hb=>?_,fun j hh hj=>?_,fun j1 j2 x1 x2 b hne h1 h2 l1 l2 b1 b2=>?_⟩
 ·obtain ⟨h0,q1,q2⟩:=hlive j h hj;exact hf.away j h0 b q1 (q2 hl) hb
 ·rw [HEnv.get_cons] at hj;split at hj
  ·rename_i e1;subst e1;simp only [Option.some.injEq] at hj;subst hj;obtain ⟨b,t,arr,u,r1,r2,r3,r4,r5,r6⟩:=hf.heap.ok _ _ hc;obtain ⟨u',q1,q2⟩:=h u r4;exact ⟨b,t,arr,u',r1,r2,r3,q1.keeps (.refl K w) hk,q2.trans r5,r6⟩
  ·exact (hf.heap.ok j hh hj).keeps (.refl hf.lt) hf.lt hk
 ·obtain ⟨y1,q1,p1⟩:=hlive _ _ h1;obtain ⟨y2,q2,p2⟩:=hlive _ _ h2;exact hf.heap.apart j1 j2 y1 y2 b hne q1 q2 (p1 l1) (p2 l2) b1 b2
theorem zgV (c:Nat) {v v':AV} (hc:H.get c=some (.cell v)) (ht:∀ K ρ w,FS g K ρ H w→∀ u,ARel K w ρ H v u→∃ u',ARel K w ρ H v' u'∧u'.cells=u.cells) (h:AW P n g k env ((c,.cell v')::H) QQ):AW P n g k env H QQ :=
 ⟨fun a w ⟨h1,h2,K,ρ,hf,he⟩=>h.go a w ⟨h1,h2,K,ρ,hf.celltell hc (ht K ρ w hf),fun t av ht=>let ⟨v,v1,v2⟩:=he t av ht;⟨v,v1,v2.keeps (.refl K w) fun j hj=>by
  refine ⟨?_,rfl⟩;rw [HEnv.get_cons];split
  ·rfl
  ·exact hj⟩⟩⟩
theorem zbN (c i:Nat) {e sz:Nat} {es:List PV} (hc:H.get c=some (.cell (.own i))) (hi:H.get i=some (.mrow e sz es)) (h:AW P n g k env ((c,.cell (.agg [.own i]))::H) QQ):AW P n g k env H QQ :=
 zgV c hc (fun K ρ w hf u hu=>by
  have ho:u.cells=#[u]∧u.oneCell'=true:=by
   cases hu with
   | own _ _ =>
    obtain ⟨xs,hown,_⟩:=hf.heap.ok i _ hi;rcases hown.2 with ⟨e,_⟩|⟨b,cap,cur,e,_⟩ <;> rw [e] <;> exact ⟨rfl,rfl⟩
  exact ⟨.agg [u].toArray,.agg _ [u] rfl (fun v hv=>by simp at hv;rw [hv];exact ho.2) (fun m c v hc hv=>by
   cases m with
   | zero=>simp at hc hv;subst hc hv;exact hu
   | succ m=>simp at hc),by rw [ho.1];rfl⟩) h
theorem zgM (c i:Nat) {e sz:Nat} {es:List PV} (hc:H.get c=some (.cell (.agg [.own i]))) (hi:H.get i=some (.row e sz es)) (h:AW P n g k env ((c,.cell (.pv (.slc sz es false)))::H) QQ):AW P n g k env H QQ :=
 zgV c hc (fun K ρ w hf u hu=>by
  cases hu with
  | agg _ vs hl ho hh =>
   obtain ⟨v,rfl⟩:=List.length_eq_one_iff.1 (show vs.length=1 from hl);have h0:=hh 0 _ v rfl rfl;refine ⟨v,.pv _ _ (zdx hf hi h0),?_⟩;cases h0 with
   | own _ _ =>
    obtain ⟨xs,hown,_⟩:=hf.heap.ok i _ hi;rcases hown.2 with ⟨e,_⟩|⟨b,cap,cur,e,_⟩ <;> rw [e] <;> rfl) h
end
end Go.Cg
namespace Go.Cg
open Go.RowKit
section
variable {P:Program} {tb:Tab} {n:Nat} {g:Base} {K:KK} {w:World} {ρ:Nat→Value} {H:HEnv} {env:Env} {a:Act} {ops:List Oper} {o:Oper} {rest:List Oper} {Q:Env→HEnv→Prop} {QQ:QC} {c:Code}
theorem zjM {sz:Nat} (hz:0 < sz) {es ps:List PV} {xs vs:List Value} {off:Nat} (h:CellsRel K w sz es xs) (hp:CellsRel K w sz ps vs) (hx:xs.length=es.length * sz) (hv:vs.length=ps.length * sz) (ho:off + ps.length≤es.length) :
  CellsRel K w sz (es.take off++ps++es.drop (off + ps.length)) (xs.take (off * sz)++vs++xs.drop (off * sz + vs.length)):=by
 have hmul:off * sz + vs.length=(off + ps.length) * sz:=by rw [hv,Nat.add_mul]
 have hle:(off + ps.length) * sz≤xs.length:=by rw [hx];exact Nat.mul_le_mul_right sz ho
 intro i e he;rw [Qi ho] at he;split at he
 ·rename_i h1;obtain ⟨c1,c2⟩:=h i e he;refine ⟨c1,fun k c hc=>?_⟩;have hk:k < sz:=by have:=(List.getElem?_eq_some_iff.1 hc).1;omega
  obtain ⟨v,v1,v2,v3⟩:=c2 k c hc;have hlt:i * sz + k < off * sz:=by
   have:=Nat.mul_le_mul_right sz (show i + 1≤off by omega);rw [Nat.add_mul] at this;omega
  exact ⟨v,by rw [Qi zwy62,if_pos hlt];exact v1,v2,v3⟩
 ·split at he
  ·rename_i h1 h2;obtain ⟨c1,c2⟩:=hp (i - off) e he;refine ⟨c1,fun k c hc=>?_⟩;have hk:k < sz:=by have:=(List.getElem?_eq_some_iff.1 hc).1;omega
   obtain ⟨v,v1,v2,v3⟩:=c2 k c hc;have e1:(i - off) * sz + off * sz=i * sz:=by rw [←Nat.add_mul];congr 1;omega
   have hlt:i * sz + k < off * sz + vs.length:=by
    have:=Nat.mul_le_mul_right sz (show i + 1≤off + ps.length by omega);rw [Nat.add_mul] at this;omega
   exact ⟨v,by rw [Qi zwy62,if_neg zwy62,if_pos hlt,show i * sz + k - off * sz=(i - off) * sz + k by omega];exact v1,v2,v3⟩
  ·rename_i h1 h2;obtain ⟨c1,c2⟩:=h i e he;refine ⟨c1,fun k c hc=>?_⟩;obtain ⟨v,v1,v2,v3⟩:=c2 k c hc;have hge:off * sz + vs.length≤i * sz:=by rw [hmul];exact Nat.mul_le_mul_right sz zwy62
   exact ⟨v,by rw [Qi zwy62,if_neg zwy62,if_neg zwy62];exact v1,v2,v3⟩
theorem FS.spliceZ (hf:FS g K ρ H w) {i e b cap off sz:Nat} {es ps:List PV} {cur:Array Value} {vs:List Value} (hi:H.get i=some (.mrow e sz es)) (hρ:ρ i=.slice (some ⟨b,0,none⟩) es.length cap) (hheap:w.heap[b]?=some (.cells cur e (0,0)))
  (hp:CellsRel K w sz ps vs) (hv:vs.length=ps.length * sz) (ho:off + ps.length≤es.length) {arr:Array Value} (harr:arr=(cur.toList.take (off * sz)++vs++cur.toList.drop (off * sz + vs.length)).toArray) :
  FS g K ρ ((i,.mrow e sz (es.take off++ps++es.drop (off + ps.length)))::H) (w.setRow b arr)∧Later K K w (w.setRow b arr):=by
 obtain ⟨xs,hown,h0,hcr,hnK⟩:=hf.heap.ok i _ hi;rcases hown.2 with ⟨hr,_⟩|⟨b',cap',cur',hr,hB,hheap',hec,hcap,hsize,htake⟩
 ·rw [hρ] at hr;simp at hr
 ·rw [hρ] at hr;simp only [Value.slice.injEq,Option.some.injEq,Addr.mk.injEq,and_true,true_and] at hr;obtain ⟨rfl,rfl⟩:=hr;rw [hheap] at hheap';simp only [Option.some.injEq,Obj.cells.injEq,and_true] at hheap';subst hheap';have hlen:(es.take off++ps++es.drop (off + ps.length)).length=es.length:=by rw [List.length_append,List.length_append,List.length_take,List.length_drop];omega
  have hgrow:w.grownBy (w.setRow b arr) (some b):=⟨rfl,rfl,rfl,by simp,fun k _ hk=>setRow_other w b k _ (fun e=>hk (by simp [e]))⟩
  have hnKb:∀ o,¬ K b o:=hnK b zwy114;have hlat:Later K K w (w.setRow b arr):=⟨fun _ _ h=>h,fun b' o hk=>by
   have:b'≠b:=by rintro rfl;exact hnKb o hk
   exact cell_setRow_other w b _ ⟨b',o,none⟩ this⟩
  have hxl:xs.length=es.length * sz:=hown.1;have hmul:off * sz + vs.length=(off + ps.length) * sz:=by rw [hv,Nat.add_mul]
  have hle:off * sz + vs.length≤es.length * sz:=by rw [hmul];exact Nat.mul_le_mul_right sz ho
  have hec':es.length * sz≤cur.size:=by rw [hsize];exact Nat.mul_le_mul_right sz hec
  have hkeep:∀ j,(H.get j).isSome=true→(HEnv.get ((i,.mrow e sz (es.take off++ps++es.drop (off + ps.length)))::H) j).isSome=true∧ρ j=ρ j:=by
   intro j hj;refine ⟨?_,rfl⟩;rw [HEnv.get_cons];split
   ·rfl
   ·exact hj
  refine ⟨⟨hf.below.grown hgrow hf.below.size (fun k hk=>by simp at hk;omega),hf.old,hf.new,fun b o hk=>by have:=hf.lt b o hk;simpa using this,hf.others.trans (zdU hheap hgrow),hf.pt.grown hf.old hgrow hlat (fun b2 hb2=>by cases hb2;exact hf.away i _ b hi rfl zwy114) (fun _ _ h=>.inl h),hf.away.set hi rfl,?_,?_⟩,hlat⟩
  ·intro j' e' hj;rw [HEnv.get_cons] at hj;split at hj
   ·rename_i e1;subst e1;simp only [Option.some.injEq] at hj;subst hj;refine ⟨xs.take (off * sz)++vs++xs.drop (off * sz + vs.length),⟨?_,.inr ⟨b,cap,arr,by rw [hρ,hlen],hB,setRow_heap w b cur _ e _ hheap,by rw [hlen];exact hec,hcap,?_,?_⟩⟩,h0,?_,fun b' hb'=>hnK b' hb'⟩
    ·rw [hlen,List.length_append,List.length_append,List.length_take,List.length_drop];omega
    ·rw [←hsize,harr,List.size_toArray,List.length_append,List.length_append,List.length_take,List.length_drop,Array.length_toList];omega
    ·rw [hlen,harr,←htake];have h9:cur.toList.length=cur.size:=by simp
     exact zg9 zwy62 zwy62
    ·have:=zjM (off:=off) h0 hcr hp hxl hv ho;intro i1 e1 he1;obtain ⟨c1,c2⟩:=this i1 e1 he1;exact ⟨c1,fun k c hc=>let ⟨v,v1,v2,v3⟩:=c2 k c hc;⟨v,v1,v2,v3.later hlat⟩⟩
   ·rename_i hne;by_cases hlive:e'.live=true
    ·have:=(hf.heap.ok j' e' hj).grown (f:=id) hgrow hlat (fun b o h=>.inl h) (fun av v h=>h.keeps hlat hkeep) hlive (fun b' hb' e'=>by
      simp at e';subst e';exact hf.heap.apart i j' _ _ b hne hi hj rfl hlive zwy114 hb')
     cases e' <;> exact this
    ·cases e' <;> simp [HE.live] at hlive
     ·trivial
     ·exact ARel.keeps hlat hkeep (hf.heap.ok j' _ hj)
  ·intro j' k' e1 e2 bb hjk hj hk' hlj hlk hbj hbk;have f1:∀ (j:Nat) (hh:HE),HEnv.get ((i,.mrow e sz (es.take off++ps++es.drop (off + ps.length)))::H) j=some hh→hh.live=true→∃ h0,H.get j=some h0∧h0.live=true:=by
    intro j hh hj hl;rw [HEnv.get_cons] at hj;split at hj
    ·rename_i e';subst e';exact ⟨_,hi,rfl⟩
    ·exact ⟨hh,hj,hl⟩
   obtain ⟨a1,a2,a3⟩:=f1 j' e1 hj hlj;obtain ⟨b1,b2,b3⟩:=f1 k' e2 hk' hlk;exact hf.heap.apart j' k' a1 b1 bb hjk a2 b2 a3 b3 hbj hbk
theorem zsW (sz:Nat) {b n c l h:Nat}:cut sz (.slice (some ⟨b,0,none⟩) n c) l h=.slice (some ⟨b,l * sz,none⟩) (h - l) (c - l):=rfl
theorem ziP (hf:FS g K ρ H w) {i j e sz:Nat} {u:Value} {es:List PV} (hi:H.get i=some (.mrow e sz es)) (hj:H.get j=some (.pin (.own i) u)) (h0:0 < es.length):u=ρ i∧∃ b cap,ρ i=.slice (some ⟨b,0,none⟩) es.length cap∧es.length≤cap:=by
 have hu:u=ρ i:=by
  have h9:ARel K w ρ H (.own i) u:=hf.heap.ok j _ hj;cases h9;rfl
 refine ⟨hu,?_⟩;obtain ⟨xs,hown,_,_,_⟩:=hf.heap.ok i _ hi;rcases hown.2 with ⟨_,hz⟩|⟨b,cap,cur,hr,_,_,hle,_,_,_⟩
 ·omega
 ·exact ⟨b,cap,hr,hle⟩
theorem QM (htb:yR P tb) {t e:Nat} {x y:Operand} {i j l h sz:Nat} {u:Value} {es:List PV} {kk:IntKind} {m:Int} (k:Nat) (hop:o.op=.indexAddr t x y) (hx:env.val x=some (.pv (.base (cut sz u l h)))) (hj:H.get j=some (.pin (.own i) u)) (hi:H.get i=some (.mrow e sz es))
  (hk:tb.k t=.sl e) (hke:tb.known e=true) (hsz:tb.size e=sz) (hy:env.pv H y=some (.base (.int kk m))) (hm:m=(k:Nat)) (hlt:l + k < h) (hh:h≤es.length):QStep P g H o env (.ad i ((l + k) * sz)):=by
 refine ⟨fun K ρ a w hf hv=>?_⟩;have hxr:=hv x zwy69 _ hx;have hyr:=qc (a:=a) hf (x:=y) (hv y zwy69) hy;generalize hxv:a.eval x=xv at hxr;generalize hyv:a.eval y=yv at hyr;obtain ⟨rfl,b,cap,hr,hcap⟩:=ziP hf hi hj zwy62;subst hm;cases hyr;cases hxr with
 | pv _ _ hpr =>
  rw [hr,zsW] at hpr;cases hpr;have hko:tb.k e≠.oth:=by intro h;simp [Tab.known,h] at hke
  have hs:=run_sizeOf htb hko w;have hrun:(execOp a.eval o).run P w=.ok (.value (.pointer (some ⟨b,(l + k) * sz,none⟩))) w:=by
   have e1:l * sz + k * sz=(l + k) * sz:=by rw [Nat.add_mul]
   have hk2:k < h - l:=by omega
   simp [execOp,hop,hxv,hyv,Instr.indexAt,asIntOf,run_underlying (qY htb hk),hs,hsz,Addr.add_lit,e1,hk2]
  rw [hrun];exact ZP hf (.ad i ((l + k) * sz) b es.length cap (by rw [hi];rfl) hr)
theorem zju (htb:yR P tb) {ty e:Nat} {x:Operand} {i j l h sz:Nat} {u:Value} {es:List PV} (hop:o.op=.call { callee:=.builtin .len,args:=#[x],argTypes:=#[ty] }) (hx:env.val x=some (.pv (.base (cut sz u l h)))) (hj:H.get j=some (.pin (.own i) u)) (hi:H.get i=some (.mrow e sz es)) (hk:tb.k ty=.sl e) (h0:0 < es.length):QStep P g H o env (.pv (.base (.int .i64 ((h - l:Nat):Int)))):=by
 refine ⟨fun K ρ a w hf hv=>?_⟩;have hxr:=hv x zwy70 _ hx;generalize hxv:a.eval x=xv at hxr;obtain ⟨rfl,b,cap,hr,hcap⟩:=ziP hf hi hj h0;cases hxr with
 | pv _ _ hpr =>
  rw [hr,zsW] at hpr;cases hpr;have hrun:(execOp a.eval o).run P w=.ok (.value (.int .i64 ((h - l:Nat):Int))) w:=by
   simp [execOp,hop,hxv,resolve,invoke,builtin,Builtin.len_,run_underlying (qY htb hk),goInt]
  rw [hrun];exact ZP hf (.pv _ _ (.base _ rfl))
theorem ztS {sz:Nat} {es:List PV} {full:Bool} {b o cap h:Nat} (hh:h≤es.length) (hp:PRel K w (.slc sz es full) (.slice (some ⟨b,o,none⟩) es.length cap)):PRel K w (.slc sz (es.take h) false) (.slice (some ⟨b,o,none⟩) h cap):=by
 have hl:(es.take h).length=h:=by rw [List.length_take];omega
 generalize hes:es=es' at hp;generalize hn:es'.length=m at hp;have sub:∀ {i:Nat} {e:PV},(es.take h)[i]?=some e→es[i]?=some e:=fun {i e} hi=>by
  rw [List.getElem?_take] at hi;split at hi
  ·exact hi
  ·cases hi
 cases hp with
 | emp =>
  have:es=[]:=hes;subst this;simp at hl;subst hl;exact .emp sz false _
 | slc _ _ _ _ _ _ vss h0 h1 h2 h3 h4 h5 h6 =>
  subst hes;have:=PRel.slc (K:=K) (w:=w) sz (es.take h) false b o cap vss h0 zwy62 zwy63 zwy62 h4 (fun i e hi=>h5 i e (sub hi)) (fun i e k c v hi=>h6 i e k c v (sub hi))
  rwa [hl] at this
theorem zsf {t i j e sz h:Nat} {u:Value} {es:List PV} {a:Act} {w:World} (ht:env.get t=some (.pv (.base (cut sz u 0 h)))) (hi:H.get i=some (.row e sz es)) (hj:H.get j=some (.pin (.own i) u)) (hh:h≤es.length) (h0:0 < es.length) (hinv:Inv n g env H a w):Inv n g ((t,.pv (.slc sz (es.take h) false))::env) H a w:=by
 obtain ⟨g1,g2,K,ρ,hf,he⟩:=hinv;refine ⟨g1,g2,K,ρ,hf,fun t' av hg=>?_⟩;rw [Env.get_cons] at hg;split at hg
 ·rename_i e1;subst e1;simp only [Option.some.injEq] at hg;subst hg;obtain ⟨v,h1,h2⟩:=he _ _ ht;refine ⟨v,h1,.pv _ _ ?_⟩;have hu:u=ρ i:=by
   have h9:ARel K w ρ H (.own i) u:=hf.heap.ok j _ hj;cases h9;rfl
  have hrow:=zdx hf hi (.own i (by rw [hi];rfl));obtain ⟨xs,hown,_,_,_⟩:=hf.heap.ok i _ hi;cases h2 with
  | pv _ _ hp =>
   rcases hown.2 with ⟨_,hz⟩|⟨b,cap,cur,hr,_,_,hle,_,_,_⟩
   ·omega
   ·rw [hu,hr] at hp;rw [hr] at hrow;cases hp;have:=ztS hh hrow;simpa [cut] using this
 ·exact he t' av hg
theorem zoY (htb:yR P tb) {t e sz:Nat} {x:Operand} {i j l h:Nat} {u:Value} {es:List PV} {z:PV} {zv:Value} (hg:guardE ops env o=some true) (hop:o.op=.call { callee:=.builtin .clear,args:=#[x],argTypes:=#[t] }) (hk:tb.k t=.sl e)
  (hx:env.val x=some (.pv (.base (cut sz u l h)))) (hj:H.get j=some (.pin (.own i) u)) (hi:H.get i=some (.mrow e sz es)) (hlh:l≤h) (hh:h≤es.length) (h0:0 < es.length)
  (hz:tb.zero e=some zv) (hzz:zd4 zv=some z) (hzc:zv.cells.size=sz) (hd:o.dst=none)
  (k:AO P n g ops.toArray rest env ((i,.mrow e sz (es.take l++List.replicate (h - l) z++es.drop (l + (h - l))))::H) Q):AO P n g ops.toArray (o::rest) env H Q:=by
 refine ⟨fun a w hinv=>?_⟩;have hw:=yT hinv hg;obtain ⟨g1,g2,K,ρ,hf,he⟩:=hinv;refine wpList_step fun KK hKK=>?_
 rw [if_pos hw];have hxr:=qA he hx;generalize hxv:a.eval x=xv at hxr;have hu:u=ρ i:=by
  have h9:ARel K w ρ H (.own i) u:=hf.heap.ok j _ hj;generalize hru:ρ i=ri;cases h9 with
  | own _ _=>exact hru
 subst hu;obtain ⟨xs,hown,hs0,hcr,hnK⟩:=hf.heap.ok i _ hi;have hzi:(zeroValue e).run P w=.ok zv w:=by
  have hz':=hz;unfold Tab.zero at hz';split at hz'
  ·rename_i ti hti;obtain ⟨tin,e1,_,_,e4,_⟩:=ZJ htb hti;simp [zeroValue,typeInfo,e1,e4,hz']
  ·cases hz'
 obtain ⟨hzr,hznt⟩:=zjm (K:=K) (w:=w) hzz;have hzcr:=YP hzr;have hzo:=cells_one hzr hznt;have hzl:z.cells.length=sz:=by rw [←hzcr.1,←hzc];simp
 have hlen:(Builtin.zeroCells zv.cells (h - l)).toList.length=(h - l) * sz:=by simp [Builtin.zeroCells,hzc]
 have hget:∀ m,m < (h - l) * sz→(Builtin.zeroCells zv.cells (h - l)).toList[m]?=zv.cells[m % sz]?:=by
  intro m hm;have hm2:m % sz < zv.cells.size:=by rw [hzc];exact Nat.mod_lt _ hs0
  simp only [Builtin.zeroCells,Array.toList_map,List.getElem?_map,hzc];rw [Array.toList_range,List.getElem?_range hm];simp [Array.getElem?_eq_getElem hm2,getElem!_pos zv.cells (m % sz) hm2]
 have hone:∀ v∈(Builtin.zeroCells zv.cells (h - l)).toList,v.oneCell'=true:=by
  intro v hv;obtain ⟨m,hm⟩:=List.getElem?_of_mem hv;have hlt:=(List.getElem?_eq_some_iff.1 hm).1;rw [hlen] at hlt;rw [hget m hlt] at hm;exact hzo v (Array.mem_toList_iff.2 (Array.mem_of_getElem? hm))
 have hrep:CellsRel K w sz (List.replicate (h - l) z) (Builtin.zeroCells zv.cells (h - l)).toList:=by
  intro m p hm;have hml:m < h - l:=by have:=(List.getElem?_eq_some_iff.1 hm).1;simpa using this
  have hpz:p=z:=by rw [List.getElem?_replicate,if_pos hml] at hm;simpa using hm.symm
  subst hpz;refine ⟨hzl,fun q c hc=>?_⟩;have hq:q < sz:=by have:=(List.getElem?_eq_some_iff.1 hc).1;omega
  have hlt:m * sz + q < (h - l) * sz:=by
   have:=Nat.mul_le_mul_right sz (show m + 1≤h - l by omega);rw [Nat.add_mul] at this;omega
  have hq2:q < zv.cells.size:=by omega
  refine ⟨zv.cells[q],?_,hzo _ (Array.mem_toList_iff.2 (Array.getElem_mem hq2)),hzcr.2 q c _ hc (by simp [hq2])⟩;rw [hget _ hlt,Nat.add_comm,Nat.add_mul_mod_self_right,Nat.mod_eq_of_lt hq];simp [hq2]
 cases hxr with
 | pv _ _ hpr =>
  cases hpr;rcases hown.2 with ⟨hr,hz0⟩|⟨b,cap,cur,hr,hB,hheap,hle,hcap,hsize,htake⟩
  ·omega
  ·obtain ⟨arr,harr⟩:∃ arr,arr=(cur.toList.take (l * sz)++(Builtin.zeroCells zv.cells (h - l)).toList++cur.toList.drop (l * sz + (Builtin.zeroCells zv.cells (h - l)).toList.length)).toArray:=⟨_,rfl⟩
   obtain ⟨hfs2,hlat⟩:=FS.spliceZ hf hi hr hheap hrep (by rw [hlen,List.length_replicate]) (by rw [List.length_replicate];omega) harr;rw [List.length_replicate] at hfs2;have hfit:l * sz + (Builtin.zeroCells zv.cells (h - l)).toList.length≤cur.size:=by
    rw [hlen,←Nat.add_mul,hsize];exact Nat.mul_le_mul_right sz zwy62
   have hst:=run_storeCells_at P b (l * sz) e (Builtin.zeroCells zv.cells (h - l)).toList 0 cur w hheap zwy62 hone;simp only [Nat.add_zero] at hst;rw [←harr] at hst;have hrun:(execOp a.eval o).run P w=.ok (.value (.tuple #[])) (w.setRow b arr):=by
    by_cases hz0:h - l=0
    ·have harr2:arr=cur:=by
      have:(Builtin.zeroCells zv.cells (h - l)).toList=[]:=List.eq_nil_of_length_eq_zero (by rw [hlen,hz0,Nat.zero_mul]);rw [harr,this];simp
     have hset:w.setRow b cur=w:=setRow_self w b cur e (0,0) hheap;rw [harr2,hset];simp [execOp,hop,hxv,hr,resolve,invoke,builtin,Builtin.clear_,run_underlying (qY htb hk),cut,hz0]
    ·obtain ⟨m,hm⟩:∃ m,h - l=m + 1:=⟨h - l - 1,by omega⟩
     rw [hm] at hst;simp [execOp,hop,hxv,hr,resolve,invoke,builtin,Builtin.clear_,run_underlying (qY htb hk),cut,hm,hzi,hst]
   unfold Oper.wp;rw [hrun];simp only [Oper.upon];have hd':a.put o.dst (.tuple #[])=a:=by rw [hd];rfl
   rw [hd'];refine hKK _ _ (k.go _ _ ⟨g1,g2,K,ρ,hfs2,he.keeps hlat fun m hm=>⟨by rw [HEnv.get_cons];split <;> first|rfl|exact hm,rfl⟩⟩)
end
end Go.Cg
namespace Go.Cg
open Go.Proofs
set_option maxHeartbeats 20000000
section
variable {P:Program} {n:Nat} {g:Base} {H:HEnv} {env:Env} {QQ:QC}
theorem znf (i:Nat) {a:Act} {w:World} (h:Inv n g env H a w):Inv n g env ((i,.dead)::H) a w:=by
 obtain ⟨g1,g2,K,ρ,hf,he⟩:=h;exact ⟨g1,g2,K,ρ,hf.kill i,he.keeps (.refl K w) fun j hj=>⟨by rw [HEnv.get_cons];split <;> first|rfl|exact hj,rfl⟩⟩
theorem zrE {t i e sz:Nat} {es:List PV} {a:Act} {w:World} (ht:env.get t=some (.own i)) (hi:H.get i=some (.row e sz es)) (h:Inv n g env H a w):Inv n g ((t,.pv (.slc sz es false))::env) H a w:=by
 obtain ⟨g1,g2,K,ρ,hf,he⟩:=h;refine ⟨g1,g2,K,ρ,hf,fun t' av hg=>?_⟩;rw [Env.get_cons] at hg;split at hg
 ·rename_i e1;subst e1;simp only [Option.some.injEq] at hg;subst hg;obtain ⟨v,h1,h2⟩:=he _ _ ht;exact ⟨v,h1,.pv _ _ (zdx hf hi h2)⟩
 ·exact he _ _ hg
theorem zea {t i e sz:Nat} {es:List PV} (ht:env.get t=some (.own i)) (hi:H.get i=some (.mrow e sz es)) (k:QQ .ret ((t,.pv (.slc sz es false))::env) ((i,.dead)::(i,.row e sz es)::H)):AW P n g .ret env H QQ :=
 ⟨fun a w hinv=>(zh5 k).go a w (znf i (zrE ht (by rw [HEnv.get_cons,if_pos rfl]) (zcJ hi hinv)))⟩
theorem zpP {t i j e sz h:Nat} {u:Value} {es:List PV} (ht:env.get t=some (.pv (.base (cut sz u 0 h)))) (hi:H.get i=some (.mrow e sz es)) (hj:H.get j=some (.pin (.own i) u)) (hij:(i==j)=false) (hh:h≤es.length) (h0:0 < es.length) (k:QQ .ret ((t,.pv (.slc sz (es.take h) false))::env) ((i,.dead)::(i,.row e sz es)::H)):AW P n g .ret env H QQ :=
 ⟨fun a w hinv=>(zh5 k).go a w (znf i (zsf (i:=i) (j:=j) ht (by rw [HEnv.get_cons,if_pos rfl]) (by rw [HEnv.get_cons,if_neg (by simpa using hij)];exact hj) hh h0 (zcJ hi hinv)))⟩
end
theorem zmi (p:Pt) (l:List Pt) (y:Pt):XW p (l++[y])=XW p l++(if zks y (l.getLastD p) then [] else [y]):=by
 induction l generalizing p with
 | nil=>simp [XW]
 | cons z l ih =>
  rw [List.cons_append,XW,XW,ih z];have:(z::l).getLastD p=l.getLastD z:=by cases l <;> rfl
  rw [this];split <;> simp
theorem zid {l:List Pt} {m:Nat} (h1:1≤m) (h:m < l.length):ZW (l.take (m + 1))=ZW (l.take m)++(if zks l[m] (l[m - 1]'zwy62) then [] else [l[m]]):=by
 rw [List.take_succ_eq_append_getElem h];cases l with
 | nil=>simp at h
 | cons x l =>
  obtain ⟨m,rfl⟩:∃ k,m=k + 1:=⟨m - 1,by omega⟩
  simp only [List.take_succ_cons,List.cons_append,ZW,zmi,List.getElem_cons_succ,Nat.add_sub_cancel];have:(l.take m).getLastD x=(x::l)[m]:=by
   have hm:m≤l.length:=by simp at h;omega
   cases m with
   | zero=>simp
   | succ m=>simp [List.getLastD_eq_getLast?,List.getLast?_take,show m < l.length by omega]
  rw [this]
theorem zg3 (a b:Pt):ACall Tryz.prog 180 [yP a,yP b] (pb (zks a b)):=by
 refine zi zf Tryz.func180 rfl zws Tryz.ntmps180 zwy63 _ rfl (fun hw gB hgB=>?_)
 repeat' (first|refine sA ?_|refine sC (fun _=>?_) (fun _=>?_)|fail)
 all_goals exact retq rfl rfl
abbrev zPt:PV:=.agg [pi 0,pi 0,pi 0,pi 0]
theorem zwk22 {G:Prop} (h:G:=by repeat' (first|(have:=b0;refine zea (t:=4) (i:=0) rfl rfl ?_)|(have:=b1;refine zy rfl (au (k:=i) (j:=0) g0) rfl rfl ?_)|(have:=b1;refine zq rfl (au (k:=i) (j:=0) g0) rfl rfl ?_)|(have:=b1;refine zy rfl (au (k:=i - 1) (j:=0) g1) rfl rfl ?_)|(have:=b1;refine zq rfl (au (k:=i - 1) (j:=0) g1) rfl rfl ?_)|(refine shC ?_;first|(have:=b1;refine qV (cb) ?_))|(refine shX ?_;first|(have:=b1;refine zy rfl (zK (k:=i - 1) zf rfl rfl rfl rfl rfl rfl rfl hix h1) rfl rfl ?_)|(have:=b1;refine zq rfl (zK (k:=i - 1) zf rfl rfl rfl rfl rfl rfl rfl hix h1) rfl rfl ?_)|(have:=b1;refine zy rfl (ak (k:=i) h0) rfl rfl ?_)|(have:=b1;refine zq rfl (ak (k:=i) h0) rfl rfl ?_))|(have:=b2;refine yC ?_;first|refine zc8 zf rfl rfl rfl rfl rfl rfl rfl ?_)|(have:=b0;refine sA ?_)|(have:=b3;refine zy rfl (zju (j:=20) zf rfl rfl rfl rfl rfl hB0) rfl rfl ?_)|(have:=b3;refine zdp zf 0 21 rfl rfl rfl rfl rfl rfl rfl rfl rfl zwy62 zwy62 zwy62 zwy62 rfl rfl rfl (fun u2=>?_))|(have:=b3;refine zdp zf 0 22 rfl rfl rfl rfl rfl rfl rfl rfl rfl zwy62 zwy62 zwy75 zwy75 rfl rfl rfl (fun u3=>?_))|(have:=b3;refine zpP (t:=4) (i:=0) (j:=22) rfl rfl rfl rfl zwy75 zwy75 ?_)|(have:=b3;refine yC ?_;first|refine zoY (j:=21) zf rfl rfl rfl rfl rfl rfl (Nat.le_of_lt hcB) (Nat.le_refl _) hB0 rfl rfl rfl rfl ?_)|(have:=b4;refine sK ?_)|refine sC (fun _=>?_) (fun _=>?_)|(have:=b0;exact ⟨.inr rfl,.inl ⟨_,rfl,by rw [hcp];rfl,tH⟩⟩)|(have:=b1;exact ⟨i + 1,⟨by omega,by omega,by rw [hst,hci,List.take_succ_eq_append_getElem hlt];rfl⟩,tD,tS,tH⟩)|(have:=b3;exact ⟨.inr rfl,.inl ⟨_,rfl,by rw [pts,←hfin];rfl,tH⟩⟩)|fail)):G:=h
theorem zkU (l:List Pt) (hl:l.length < 20) (us:Nat→Value) :
  ACallM Tryz.prog 179 [.own 0,.pv (.fn (.func 180) [] [])] (zbB us l) (.pv (pts (ZW l))) ([(0,.dead)]++qE us [0]):=by
 refine yB zf Tryz.func179 rfl zws Tryz.ntmps179 zwy63 _ rfl (fun gB hw1=>?_);by_cases h2:l.length < 2
 ·have hd:decide ((((l.map yP).length:Nat):Int) < 2)=true:=decide_eq_true zwy64;have hcp:ZW l=l:=by
   cases l with
   | nil=>rfl
   | cons x l=>cases l with
    | nil=>rfl
    | cons y l=>simp at h2;omega
  have b0:=();have b2:=();exact zwk22
 ·have hd:decide ((((l.map yP).length:Nat):Int) < 2)=false:=decide_eq_false zwy64
  repeat' (first|refine zea (t:=4) (i:=0) rfl rfl ?_|(refine yC ?_;first|refine zc8 zf rfl rfl rfl rfl rfl rfl rfl ?_)|refine sA ?_|refine sC (fun _=>?_) (fun _=>?_)|fail)
  refine zW (fun i:Nat=>[(0,.own 0),(1,.pv (.fn (.func 180) [] [])),(5,.pv (pi i))]) (fun _=>zbB us l) (fun i=>1≤i∧i≤l.length∧ZW (l.take i)=l.take i) (fun i=>l.length - i) 1 ⟨by omega,by omega,by cases l <;> rfl⟩ (tS) tH ?_;rintro i ⟨hi1,hi2,hci⟩;by_cases hlt:i < l.length
  ·have hd':decide (((i:Nat):Int) < (((l.map yP).length:Nat):Int))=true:=decide_eq_true zwy64;have hln:(l.map yP).length=l.length:=by simp
   have g0:(l.map yP)[i]?=some (yP l[i]):=by simp [hlt]
   have g1:(l.map yP)[i - 1]?=some (yP (l[i - 1]'zwy62)):=by simp [show i - 1 < l.length by omega]
   have h0:i < (l.map yP).length:=by simp [hlt]
   have h1:i - 1 < (l.map yP).length:=by simp;omega
   have hix:IntKind.i64.wrap (((i:Nat):Int) - 1)=((i - 1:Nat):Int):=by rw [wrap_in zwy62 zwy62];omega
   have hst:=zid hi1 hlt;have cb:=zg3 l[i] (l[i - 1]'zwy62);cases hsame:zks l[i] (l[i - 1]'zwy62)
   ·rw [hsame] at cb hst;have b1:=();have b2:=();have b4:=();exact zwk22
   ·rw [hsame] at cb hst
    repeat' (first|refine zy rfl (au (k:=i) (j:=0) g0) rfl rfl ?_|refine zq rfl (au (k:=i) (j:=0) g0) rfl rfl ?_|refine zy rfl (au (k:=i - 1) (j:=0) g1) rfl rfl ?_|refine zq rfl (au (k:=i - 1) (j:=0) g1) rfl rfl ?_|refine zdp zf 0 20 rfl rfl rfl rfl rfl rfl rfl rfl rfl zwy62 (by simp only [List.length_map];omega) zwy62 (by simp only [List.length_map];omega) rfl rfl rfl (fun uu=>?_)|(refine shC ?_;first|refine qV (cb) ?_)|(refine shX ?_;first|refine zy rfl (zK (k:=i - 1) zf rfl rfl rfl rfl rfl rfl rfl hix h1) rfl rfl ?_|refine zq rfl (zK (k:=i - 1) zf rfl rfl rfl rfl rfl rfl rfl hix h1) rfl rfl ?_|refine zy rfl (ak (k:=i) h0) rfl rfl ?_|refine zq rfl (ak (k:=i) h0) rfl rfl ?_)|(refine yC ?_;first|refine zc8 zf rfl rfl rfl rfl rfl rfl rfl ?_)|refine sK ?_|refine sC (fun _=>?_) (fun _=>?_)|fail)
    refine zW (fun st:Nat × List Pt=>[(0,.own 0),(1,.pv (.fn (.func 180) [] [])),(5,.pv (pi (ZW (l.take (i + st.1))).length)),(6,.pv (.base (cut 4 uu i (l.map yP).length))),(7,.pv (pi st.1))])
     (fun st=>[(0,.mrow 197 4 ((ZW (l.take (i + st.1))++(st.2++l.drop (i + st.1 - 1))).map yP)),(20,.pin (.own 0) uu),(1000,.pin (.own 0) (us 0))])
     (fun st=>1≤st.1∧i + st.1≤l.length∧(ZW (l.take (i + st.1))).length + st.2.length=i + st.1 - 1) (fun st=>l.length - st.1) (1,[])
     ⟨Nat.le_refl _,hlt,by show (ZW (l.take (i + 1))).length + 0=i + 1 - 1;rw [hst,hci];simp;omega⟩
     (by repeat (first|exact qh|refine yU rfl ?_|(refine ZF rfl ?_ ?_;· (show ((i:Nat):Int)=(((ZW (l.take (i + 1))).length:Nat):Int);rw [hst,hci];simp;omega))))
     ⟨Zh rfl (by show _=(ZW (l.take (i + 1))++([]++l.drop (i + 1 - 1))).map yP;rw [hst,hci];simp) zwy68,rfl⟩ ?_
    rintro ⟨k,mid⟩ ⟨hk0,hkn,hkl⟩;change 1≤k at hk0;change i + k≤l.length at hkn;change (ZW (l.take (i + k))).length + mid.length=i + k - 1 at hkl;obtain ⟨c,hc⟩:∃ c,c=ZW (l.take (i + k)):=⟨_,rfl⟩
    show AW _ _ _ _ [(0,.own 0),(1,.pv (.fn (.func 180) [] [])),(5,.pv (pi (ZW (l.take (i + k))).length)),(6,.pv (.base (cut 4 uu i (l.map yP).length))),(7,.pv (pi k))] [(0,.mrow 197 4 ((ZW (l.take (i + k))++(mid++l.drop (i + k - 1))).map yP)),(20,.pin (.own 0) uu),(1000,.pin (.own 0) (us 0))] _
    have hcs:=fun h=>zid (l:=l) (m:=i + k) zwy62 h
    rw [←hc] at hkl hcs ⊢;obtain ⟨B,hB⟩:∃ B,B=(c++(mid++l.drop (i + k - 1))).map yP:=⟨_,rfl⟩
    rw [←hB];have hBl:B.length=l.length:=by rw [hB];simp;omega
    have hB0:0 < B.length:=by omega
    have hh:(l.map yP).length≤B.length:=by rw [hBl];simp
    by_cases hkt:i + k < l.length
    ·have hd2:decide (((k:Nat):Int) < (((l.map yP).length - i:Nat):Int))=true:=decide_eq_true zwy64;have hdr:l.drop (i + k - 1)=(l[i + k - 1]'zwy62)::l.drop (i + k):=by rw [List.drop_eq_getElem_cons zwy62];congr 2;omega
     have hdr2:l.drop (i + k)=l[i + k]::l.drop (i + k + 1):=List.drop_eq_getElem_cons hkt;have cb:=zg3 l[i + k] (l[i + k - 1]'zwy62);obtain ⟨y,hy⟩:∃ y,y=l[i + k - 1]'zwy62:=⟨_,rfl⟩
     obtain ⟨x,hx⟩:∃ x,x=l[i + k]:=⟨_,rfl⟩
     have hcs':=hcs hkt;rw [←hx,←hy] at cb hcs';rw [←hy] at hdr;rw [←hx] at hdr2;have hB':B=(c++mid).map yP++yP y::yP x::(l.drop (i + k + 1)).map yP:=by rw [hB,hdr,hdr2];simp
     have hcl:((c++mid).map yP).length=i + (k - 1):=by simp;omega
     have gy:B[i + (k - 1)]?=some (yP y):=by rw [hB',List.getElem?_append_right zwy62,hcl];simp
     have gx:B[i + k]?=some (yP x):=by rw [hB',List.getElem?_append_right zwy62,hcl,show i + k - (i + (k - 1))=1 by omega];rfl
     have hk1:i + k < (l.map yP).length:=by simp;omega
     have hk2:i + (k - 1) < (l.map yP).length:=by simp;omega
     have hkx:IntKind.i64.wrap (((k:Nat):Int) - 1)=((k - 1:Nat):Int):=by rw [wrap_in zwy62 zwy62];omega
     cases hs2:zks x y
     ·rw [hs2] at cb hcs';obtain ⟨z,tl,hz⟩:∃ z tl,mid++[y]=z::tl:=by
       cases mid with
       | nil=>exact ⟨y,[],rfl⟩
       | cons z mid=>exact ⟨z,mid++[y],rfl⟩
      have hB2:B=c.map yP++yP z::(tl++l.drop (i + k)).map yP:=by
       have:c++(mid++y::l.drop (i + k))=c++z::(tl++l.drop (i + k)):=by
        rw [show mid++y::l.drop (i + k)=(mid++[y])++l.drop (i + k) by simp,hz];simp
       rw [hB,hdr,this];simp
      have gz:B[c.length]?=some (yP z):=by rw [hB2,List.getElem?_append_right zwy63];simp
      have hcB:c.length < B.length:=by omega
      repeat' (first|refine zy rfl (zju (j:=20) zf rfl rfl rfl rfl rfl hB0) rfl rfl ?_|refine zy rfl (QM (j:=20) zf (k) rfl rfl rfl rfl rfl rfl rfl rfl rfl hk1 hh) rfl rfl ?_|refine zq rfl (QM (j:=20) zf (k) rfl rfl rfl rfl rfl rfl rfl rfl rfl hk1 hh) rfl rfl ?_|refine zy rfl (QM (j:=20) zf (k - 1) rfl rfl rfl rfl rfl rfl rfl rfl hkx hk2 hh) rfl rfl ?_|refine zq rfl (QM (j:=20) zf (k - 1) rfl rfl rfl rfl rfl rfl rfl rfl hkx hk2 hh) rfl rfl ?_|refine zy rfl (au (k:=i + k) (j:=0) gx) rfl rfl ?_|refine zq rfl (au (k:=i + k) (j:=0) gx) rfl rfl ?_|refine zy rfl (au (k:=i + (k - 1)) (j:=0) gy) rfl rfl ?_|refine zq rfl (au (k:=i + (k - 1)) (j:=0) gy) rfl rfl ?_|(refine shC ?_;first|refine qV (cb) ?_)|(refine shX ?_;first|refine zy rfl (ak (k:=c.length) hcB) rfl rfl ?_|refine zq rfl (ak (k:=c.length) hcB) rfl rfl ?_)|(refine Yd ?_;first|refine XP (k:=c.length) (j:=0) zf rfl rfl rfl rfl rfl gz rfl rfl rfl rfl rfl ?_)|refine sK ?_|refine sC (fun _=>?_) (fun _=>?_)|fail)
      have ht:tl.length=mid.length:=by have:=congrArg List.length hz;simp at this;omega
      have hcc:ZW (l.take (i + (k + 1)))=c++[x]:=hcs';have hnew:B.set c.length (yP x)=(ZW (l.take (i + (k + 1)))++(tl++l.drop (i + (k + 1) - 1))).map yP:=by
       rw [hcc,hB2,List.set_append_right _ _ zwy63];simp
      have e5:IntKind.i64.wrap (((c.length:Nat):Int) + 1)=(((ZW (l.take (i + (k + 1)))).length:Nat):Int):=by rw [wrap_in zwy62 zwy62,hcc];simp
      have e7:IntKind.i64.wrap (((k:Nat):Int) + 1)=((k + 1:Nat):Int):=by rw [wrap_in zwy62 zwy62];omega
      exact ⟨(k + 1,tl),⟨by show 1≤k + 1;omega,by show i + (k + 1)≤l.length;omega,by show (ZW (l.take (i + (k + 1)))).length + tl.length=i + (k + 1) - 1;rw [hcc,ht];simp;omega⟩,by show l.length - (k + 1) < l.length - k;omega,by repeat (first|exact qh|refine yU rfl ?_|(refine ZF rfl ?_ ?_;· first|exact e5|exact e7)),⟨Zh rfl hnew zwy68,rfl⟩⟩
     ·rw [hs2] at cb hcs'
      repeat' (first|refine zy rfl (zju (j:=20) zf rfl rfl rfl rfl rfl hB0) rfl rfl ?_|refine zy rfl (QM (j:=20) zf (k) rfl rfl rfl rfl rfl rfl rfl rfl rfl hk1 hh) rfl rfl ?_|refine zq rfl (QM (j:=20) zf (k) rfl rfl rfl rfl rfl rfl rfl rfl rfl hk1 hh) rfl rfl ?_|refine zy rfl (QM (j:=20) zf (k - 1) rfl rfl rfl rfl rfl rfl rfl rfl hkx hk2 hh) rfl rfl ?_|refine zq rfl (QM (j:=20) zf (k - 1) rfl rfl rfl rfl rfl rfl rfl rfl hkx hk2 hh) rfl rfl ?_|refine zy rfl (au (k:=i + k) (j:=0) gx) rfl rfl ?_|refine zq rfl (au (k:=i + k) (j:=0) gx) rfl rfl ?_|refine zy rfl (au (k:=i + (k - 1)) (j:=0) gy) rfl rfl ?_|refine zq rfl (au (k:=i + (k - 1)) (j:=0) gy) rfl rfl ?_|(refine shC ?_;first|refine qV (cb) ?_)|refine sK ?_|refine sC (fun _=>?_) (fun _=>?_)|fail)
      have hcc:ZW (l.take (i + (k + 1)))=c:=by rw [show i + (k + 1)=i + k + 1 by omega,hcs'];simp
      have hnew:B=(ZW (l.take (i + (k + 1)))++((mid++[y])++l.drop (i + (k + 1) - 1))).map yP:=by
       rw [hcc,hB,hdr];simp
      have e5:((c.length:Nat):Int)=(((ZW (l.take (i + (k + 1)))).length:Nat):Int):=by rw [hcc]
      have e7:IntKind.i64.wrap (((k:Nat):Int) + 1)=((k + 1:Nat):Int):=by rw [wrap_in zwy62 zwy62];omega
      exact ⟨(k + 1,mid++[y]),⟨by show 1≤k + 1;omega,by show i + (k + 1)≤l.length;omega,by show (ZW (l.take (i + (k + 1)))).length + (mid++[y]).length=i + (k + 1) - 1;rw [hcc];simp;omega⟩,by show l.length - (k + 1) < l.length - k;omega,by repeat (first|exact qh|refine yU rfl ?_|(refine ZF rfl ?_ ?_;· first|exact e5|exact e7)),⟨Zh rfl hnew zwy68,rfl⟩⟩
    ·have hd2:decide (((k:Nat):Int) < (((l.map yP).length - i:Nat):Int))=false:=decide_eq_false zwy64;have hcB:c.length < B.length:=by omega
     have hcl:c=ZW l:=by rw [hc,List.take_of_length_le zwy62]
     have hfin:(B.take c.length++List.replicate (B.length - c.length) zPt++B.drop (c.length + (B.length - c.length))).take c.length=(ZW l).map yP:=by
      rw [List.append_assoc,List.take_append_of_le_length zwy64,List.take_take,Nat.min_self,hB,←hcl];simp
     have b3:=();have b4:=();exact zwk22
  ·have hd':decide (((i:Nat):Int) < (((l.map yP).length:Nat):Int))=false:=decide_eq_false zwy64;have hcp:ZW l=l:=by rw [List.take_of_length_le zwy62] at hci;exact hci
   have b0:=();have b2:=();exact zwk22
end Go.Cg
