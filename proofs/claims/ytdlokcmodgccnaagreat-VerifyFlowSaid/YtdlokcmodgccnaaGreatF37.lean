/- A part of the walks by abstract values: no statement of its own. -/
import Derived.Test.YtdlokcmodgccnaaGreatF36
import Derived.Test.YtdlokcmodgccnaaGreatF27
import Derived.Test.YtdlokcmodgccnaaGreatF33
import Derived.Test.YtdlokcmodgccnaaGreatF9
set_option linter.unusedVariables false
set_option linter.unusedSimpArgs false
namespace Go.Cg
open Go.Proofs
set_option maxHeartbeats 20000000
theorem zql (c:Cl) (p at_:Int):ACall Tryz.prog 37 [yI c,pi p,pi at_] (pb (decide ((bounds c p).1≤at_)&&decide (at_ < (bounds c p).2))):=by
 have cb:=Yb c p
 rcases Bool.eq_false_or_eq_true (decide ((bounds c p).1≤at_)) with h|h <;> (
  refine zf zh Tryz.func37 rfl (by kernel_rfl) Tryz.ntmps37 (by simp) _ rfl (fun hw gB hgB=>?_)
  repeat' (first|(refine shC ?_;first|refine qC cb ?_)|refine sK ?_|refine sC (fun _=>?_) (fun _=>?_)|fail)
  exact retq rfl (by simp [zi,h]))
theorem zkP (l:List Cl) (r:Pt) (at_:Int) (h0:0≤r.c) (h1:r.c.toNat < l.length):ACall Tryz.prog 113 [cls l,qN r,pi at_] (pb (r.p==1&&(l.getD r.c.toNat default).tf==at_)):=by
 have he:(l.map yI)[r.c.toNat]?=some (yI (l.getD r.c.toNat default)):=by rw [zx h1];exact zA h1
 rcases Bool.eq_false_or_eq_true (r.p==1) with h|h <;> (
  refine zf zh Tryz.func113 rfl (by kernel_rfl) Tryz.ntmps113 (by simp) _ rfl (fun hw gB hgB=>?_)
  repeat' (first|(refine shX ?_;first|refine zu rfl (zk zh rfl rfl rfl rfl rfl rfl h0 he) rfl rfl ?_|refine AD.step _ _ _ _ _ rfl (zk zh rfl rfl rfl rfl rfl rfl h0 he) rfl rfl ?_)|refine sK ?_|refine sC (fun _=>?_) (fun _=>?_)|fail)
  exact retq rfl (by simp [zi,h]))
theorem zdn:∀ (a b:List Pt),Yj a b=Yj b a
 | [],[]=>rfl
 | [],_::_=>rfl
 | _::_,[]=>rfl
 | x::a,y::b=>by rw [Yj,Yj,zdn a b];rw [show zjM x y=zjM y x by unfold zjM;rw [BEq.comm (a:=x.c),BEq.comm (a:=x.p)]]
theorem zna (a b:List Pt) (i k:Nat) (hi:i≤a.length) (hk:k≤b.length) (ha:a.length≤1000) (hb:b.length≤1000):ACall Tryz.prog 112 [rgs a,pi i,rgs b,pi k] (pb (Yj (a.drop i) (b.drop k))):=by
 have w1:IntKind.i64.wrap ((((a.map qN).length:Nat):Int) - (i:Int))=((a.length - i:Nat):Int):=by rw [List.length_map,wrap_in (by omega) (by omega)];omega
 have w2:IntKind.i64.wrap ((((b.map qN).length:Nat):Int) - (k:Int))=((b.length - k:Nat):Int):=by rw [List.length_map,wrap_in (by omega) (by omega)];omega
 by_cases hne:a.length - i=b.length - k
 ·have hd:(IntKind.i64.wrap ((((a.map qN).length:Nat):Int) - (i:Int)) != IntKind.i64.wrap ((((b.map qN).length:Nat):Int) - (k:Int)))=false:=by rw [w1,w2,hne];simp
  refine zf zh Tryz.func112 rfl (by kernel_rfl) Tryz.ntmps112 (by simp) _ rfl (fun hw gB hgB=>?_)
  repeat' (first|refine sK ?_|refine sC (fun _=>?_) (fun _=>?_)|fail)
  refine zo (fun n:Nat=>[(0,.pv (rgs a)),(1,.pv (pi i)),(2,.pv (rgs b)),(3,.pv (pi k)),(9,.pv (pi n))]) (fun _=>[]) (fun n=>i + n≤a.length∧Yj (a.drop i) (b.drop k)=Yj (a.drop (i + n)) (b.drop (k + n))) (fun n=>a.length - n) 0 ⟨by omega,by simp⟩ (tS) tH ?_
  rintro n ⟨hn,hs⟩
  have w3:IntKind.i64.wrap ((i:Int) + (n:Int))=((i + n:Nat):Int):=by rw [wrap_in (by omega) (by omega)];omega
  have w4:IntKind.i64.wrap ((k:Int) + (n:Int))=((k + n:Nat):Int):=by rw [wrap_in (by omega) (by omega)];omega
  by_cases hlt:i + n < a.length
  ·have d1:decide (IntKind.i64.wrap ((i:Int) + (n:Int)) < (((a.map qN).length:Nat):Int))=true:=decide_eq_true (by rw [w3,List.length_map];omega)
   have hlt2:k + n < b.length:=by omega
   have e1:(a.map qN)[(IntKind.i64.wrap ((i:Int) + (n:Int))).toNat]?=some (qN a[i + n]):=by rw [w3];exact zA hlt
   have e2:(b.map qN)[(IntKind.i64.wrap ((k:Int) + (n:Int))).toNat]?=some (qN b[k + n]):=by rw [w4];exact zA hlt2
   have g1:0≤IntKind.i64.wrap ((i:Int) + (n:Int)):=by rw [w3];omega
   have g2:0≤IntKind.i64.wrap ((k:Int) + (n:Int)):=by rw [w4];omega
   rw [List.drop_eq_getElem_cons hlt,List.drop_eq_getElem_cons hlt2,Yj] at hs
   generalize a[i + n]=x at e1 hs
   generalize b[k + n]=y at e2 hs
   cases hr:zjM x y
   ·have hr2:(!(x.c==y.c&&(x.p==y.p&&true)))=true:=by rw [show (x.c==y.c&&(x.p==y.p&&true))=zjM x y from rfl,hr];rfl
    repeat' (first|(refine shX ?_;first|refine zu rfl (zk zh rfl rfl rfl rfl rfl rfl g1 e1) rfl rfl ?_|refine AD.step _ _ _ _ _ rfl (zk zh rfl rfl rfl rfl rfl rfl g1 e1) rfl rfl ?_|refine zu rfl (zk zh rfl rfl rfl rfl rfl rfl g2 e2) rfl rfl ?_|refine AD.step _ _ _ _ _ rfl (zk zh rfl rfl rfl rfl rfl rfl g2 e2) rfl rfl ?_)|refine sK ?_|refine sC (fun _=>?_) (fun _=>?_)|fail)
    exact retq rfl (by rw [hs,hr];rfl)
   ·have hr2:(!(x.c==y.c&&(x.p==y.p&&true)))=false:=by rw [show (x.c==y.c&&(x.p==y.p&&true))=zjM x y from rfl,hr];rfl
    repeat' (first|(refine shX ?_;first|refine zu rfl (zk zh rfl rfl rfl rfl rfl rfl g1 e1) rfl rfl ?_|refine AD.step _ _ _ _ _ rfl (zk zh rfl rfl rfl rfl rfl rfl g1 e1) rfl rfl ?_|refine zu rfl (zk zh rfl rfl rfl rfl rfl rfl g2 e2) rfl rfl ?_|refine AD.step _ _ _ _ _ rfl (zk zh rfl rfl rfl rfl rfl rfl g2 e2) rfl rfl ?_)|refine sK ?_|refine sC (fun _=>?_) (fun _=>?_)|fail)
    exact ⟨n + 1,⟨by omega,by rw [hs,hr];simp [Nat.add_assoc]⟩,by show a.length - (n + 1) < a.length - n;omega,tS,tH⟩
  ·have d1:decide (IntKind.i64.wrap ((i:Int) + (n:Int)) < (((a.map qN).length:Nat):Int))=false:=decide_eq_false (by rw [w3,List.length_map];omega)
   rw [show a.drop (i + n)=[] from List.drop_of_length_le (by omega),show b.drop (k + n)=[] from List.drop_of_length_le (by omega)] at hs
   repeat' (first|refine sK ?_|refine sC (fun _=>?_) (fun _=>?_)|fail)
   exact retq rfl (by rw [hs];rfl)
 ·have hd:(IntKind.i64.wrap ((((a.map qN).length:Nat):Int) - (i:Int)) != IntKind.i64.wrap ((((b.map qN).length:Nat):Int) - (k:Int)))=true:=by rw [w1,w2];simp;omega
  have hs:Yj (a.drop i) (b.drop k)=false:=zeO (by simpa using hne)
  refine zf zh Tryz.func112 rfl (by kernel_rfl) Tryz.ntmps112 (by simp) _ rfl (fun hw gB hgB=>?_)
  repeat' (first|refine sK ?_|refine sC (fun _=>?_) (fun _=>?_)|fail)
  exact retq rfl (by rw [hs];rfl)
def zax (at_ s:Int) (c:Cl) (k p:Int) (b:Option Pt):Option Pt:=if decide ((bounds c p).1≤at_)&&decide (at_ < (bounds c p).2) then qY s b ⟨k,p,(bounds c p).1,(bounds c p).2⟩ else b
def goC (at_ s:Int) (c:Cl) (k:Int):Nat→Option Pt→Option Pt
 | 0,b=>b
 | q + 1,b=>zax at_ s c k ((q + 1:Nat):Int) (goC at_ s c k q b)
theorem zpz (at_ s:Int) (c:Cl) (k:Int) (b:Option Pt):goC at_ s c k 3 b=((zK k c).filter (YZ at_)).foldl (qY s) b:=by
 have f3:∀ b,c.kind≠2→zax at_ s c k 3 b=b:=fun b hk=>by
  rw [zax,show bounds c 3=(0,0) by simp [bounds,hk],if_neg (by simp)]
 have f1:∀ b,zax at_ s c k 1 b=if YZ at_ ⟨k,1,c.tf,c.tt⟩ then qY s b ⟨k,1,c.tf,c.tt⟩ else b:=fun b=>rfl
 have f2:∀ b,zax at_ s c k 2 b=if YZ at_ ⟨k,2,c.hf,c.ht⟩ then qY s b ⟨k,2,c.hf,c.ht⟩ else b:=fun b=>rfl
 have f4:∀ b,c.kind=2→zax at_ s c k 3 b=if YZ at_ ⟨k,3,c.filter,c.hf⟩ then qY s b ⟨k,3,c.filter,c.hf⟩ else b:=fun b hk=>by
  rw [zax,show bounds c 3=(c.filter,c.hf) by simp [bounds,hk]];rfl
 show zax at_ s c k 3 (zax at_ s c k 2 (zax at_ s c k 1 b))=_
 unfold zK
 by_cases hk:c.kind=2
 ·rw [f4 _ hk,f2,f1,show (if (c.kind==2)=true then [(⟨k,3,c.filter,c.hf⟩:Pt)] else [])=[⟨k,3,c.filter,c.hf⟩] by simp [hk]]
  simp only [List.cons_append,List.nil_append,List.filter_cons,List.filter_nil]
  cases h1:YZ at_ ⟨k,1,c.tf,c.tt⟩ <;> cases h2:YZ at_ ⟨k,2,c.hf,c.ht⟩ <;> cases h3:YZ at_ ⟨k,3,c.filter,c.hf⟩ <;> simp
 ·rw [f3 _ hk,f2,f1,show (if (c.kind==2)=true then [(⟨k,3,c.filter,c.hf⟩:Pt)] else [])=[] by simp [hk]]
  simp only [List.append_nil,List.filter_cons,List.filter_nil]
  cases h1:YZ at_ ⟨k,1,c.tf,c.tt⟩ <;> cases h2:YZ at_ ⟨k,2,c.hf,c.ht⟩ <;> simp
def bK (at_ s:Int) (l:List Cl) (k:Nat):Option Pt:=(Xy at_ l k).foldl (qY s) none
theorem zpd (at_ s:Int) (l:List Cl) (k:Nat):bK at_ s l (k + 1)=goC at_ s (l.getD k default) k 3 (bK at_ s l k):=by
 rw [bK,Xy,List.foldl_append,zpz];rfl
theorem zeH (s:Int) (b:Option Pt) (x:Pt):qY s b x=if decide (s < szP x)&&(match b with|none=>true|some y=>decide (szP x < szP y)) then some x else b:=rfl
def zbl:Option Pt→Int
 | none=>0
 | some y=>szP y
def cO:Option Pt→Int
 | none=>0
 | some y=>y.c
def pO:Option Pt→Int
 | none=>0
 | some y=>y.p
def okO (b:Option Pt):Prop:=∀ y,b=some y→0 < szP y
theorem zrS {at_ s:Int} (hs:0≤s) {c:Cl} {k p:Int} {b:Option Pt} (h:okO b):okO (zax at_ s c k p b):=by
 unfold zax
 generalize (⟨k,p,(bounds c p).1,(bounds c p).2⟩:Pt)=x
 split
 ·cases b with
  | none =>
   by_cases hc:s < szP x
   ·rw [show qY s none x=some x by rw [zeH];simp [hc]]
    intro y hy;cases hy;omega
   ·rw [show qY s none x=none by rw [zeH];simp [hc]];exact h
  | some z =>
   by_cases hc:s < szP x∧szP x < szP z
   ·rw [show qY s (some z) x=some x by rw [zeH];simp [hc.1,hc.2]]
    intro y hy;cases hy;omega
   ·rw [show qY s (some z) x=some z by
     rw [zeH,if_neg]
     simp only [Bool.and_eq_true,decide_eq_true_eq];exact hc]
    exact h
 ·exact h
theorem znv {at_ s:Int} (hs:0≤s) {c:Cl} {k:Int} {b:Option Pt} (h:okO b):∀ q,okO (goC at_ s c k q b)
 | 0=>h
 | q + 1=>zrS hs (znv hs h q)
theorem ztO {at_ s:Int} (hs:0≤s) {l:List Cl}:∀ k,okO (bK at_ s l k)
 | 0=>fun y h=>by cases h
 | k + 1=>by rw [zpd];exact znv hs (ztO hs k) 3
theorem zq6 {at_:Int} {l:List Cl} {k:Nat} (hk:k < l.length) {q:Nat} (hq:q < 3) (h:(decide ((bounds (l.getD k default) ((q + 1:Nat):Int)).1≤at_)&&decide (at_ < (bounds (l.getD k default) ((q + 1:Nat):Int)).2))=true) :
  (⟨k,((q + 1:Nat):Int),(bounds (l.getD k default) ((q + 1:Nat):Int)).1,(bounds (l.getD k default) ((q + 1:Nat):Int)).2⟩:Pt)∈Qo at_ l:=by
 have key:∀ n,k < n→∀ x,x∈(zK k (l.getD k default)).filter (YZ at_)→x∈Xy at_ l n:=by
  intro n
  induction n with
  | zero=>intro h;omega
  | succ n ih =>
   intro hkn x hx
   rw [Xy,List.mem_append]
   by_cases e:k=n
   ·subst e;exact .inr hx
   ·exact .inl (ih (by omega) x hx)
 refine key _ hk _ (List.mem_filter.2 ⟨?_,h⟩)
 generalize l.getD k default=c at *
 have hq3:q=0∨q=1∨q=2:=by omega
 rcases hq3 with rfl|rfl|rfl
 ·simp [zK,bounds]
 ·simp [zK,bounds]
 ·by_cases hk2:c.kind=2
  ·simp [zK,bounds,hk2]
  ·rw [show bounds c ((2 + 1:Nat):Int)=(0,0) by simp [bounds,hk2]] at h
   simp at h;omega
set_option maxHeartbeats 8000000 in
theorem zj1 (l:List Cl) (at_:Int) (hl:l.length≤6) (hS:∀ x∈Qo at_ l,SmP x):ACall Tryz.prog 23 [cls l,pi at_] (rgs (YH (Qo at_ l))):=by
 have hlen:(YH (Qo at_ l)).length≤18:=by have h1:=zhf (Qo at_ l);have h2:=Vt at_ l l.length;unfold Qo at *;omega
 have hall:(YH (Qo at_ l)).filter (fun y=>decide (0 < szP y))=YH (Qo at_ l):=List.filter_eq_self.2 fun y hy=>by simpa using zsI y (zhN hy)
 have hbest:∀ s:Int,bK at_ s l l.length=((YH (Qo at_ l)).filter fun y=>decide (s < szP y)).head?:=fun s=>by
  rw [List.head?_filter,←zqw];rfl
 have hsort:=ziC (Qo at_ l)
 have hmem:∀ y∈YH (Qo at_ l),SmP y:=fun y hy=>hS y (zhN hy)
 generalize hF:YH (Qo at_ l)=F at *
 refine zf zh Tryz.func23 rfl (by kernel_rfl) Tryz.ntmps23 (by simp) _ rfl (fun hw gB hgB=>?_)
 repeat' (first|refine sK ?_|refine sC (fun _=>?_) (fun _=>?_)|fail)
 refine yS (t:=5) 5 61 2 (by decide) rfl rfl ?_
 refine zo (fun x:List Pt × List Pt × Int=>[(0,.pv (cls l)),(1,.pv (pi at_)),(5,.own 5),(6,.pv (pi x.2.2))]) (fun x=>[(5,.row 61 2 (x.1.map qN))])
  (fun x=>F=x.1++x.2.1∧x.2.1=F.filter (fun y=>decide (x.2.2 < szP y))∧0≤x.2.2) (fun x=>x.2.1.length) ([],F,0) ⟨rfl,hall.symm,Int.le_refl 0⟩ (tS) tH ?_
 rintro ⟨C,D,s⟩ ⟨h1,h2,h3⟩
 dsimp only at h1 h2 h3 ⊢
 have hCl:C.length + D.length≤18:=by rw [h1] at hlen;simpa using hlen
 repeat' (first|refine sK ?_|refine sC (fun _=>?_) (fun _=>?_)|fail)
 refine zo (fun k:Nat=>[(0,.pv (cls l)),(1,.pv (pi at_)),(5,.own 5),(6,.pv (pi s)),(7,.box 0 0),(8,.pv (pi (zbl (bK at_ s l k)))),(9,.pv (pi k))]) (fun k=>[(0,.cell (.pv (.agg [pi (cO (bK at_ s l k)),pi (pO (bK at_ s l k))]))),(5,.row 61 2 (C.map qN))])
  (fun k=>k≤l.length) (fun k=>l.length - k) 0 (Nat.zero_le _) (tS) tH ?_
 intro k hk
 by_cases hlt:k < l.length
 ·have he:=zA (f:=yI) hlt
  have hgd:l[k]=l.getD k default:=(zx hlt).symm
  rw [hgd] at he
  have hbn:=zpd at_ s l k
  have hok:=ztO (at_:=at_) (l:=l) h3 k
  have hpm:=fun q hq=>zq6 (at_:=at_) hlt (q:=q) hq
  generalize bK at_ s l k=B at hbn hok ⊢
  generalize l.getD k default=c at he hbn hpm
  have d1:decide ((k:Int) < (((l.map yI).length:Nat):Int))=true:=decide_eq_true (by rw [List.length_map];omega)
  repeat' (first|refine sK ?_|refine sC (fun _=>?_) (fun _=>?_)|fail)
  refine zo (fun q:Nat=>[(0,.pv (cls l)),(1,.pv (pi at_)),(5,.own 5),(6,.pv (pi s)),(7,.box 0 0),(8,.pv (pi (zbl (goC at_ s c k q B)))),(9,.pv (pi k)),(10,.pv (pi ((q + 1:Nat):Int)))]) (fun q=>[(0,.cell (.pv (.agg [pi (cO (goC at_ s c k q B)),pi (pO (goC at_ s c k q B))]))),(5,.row 61 2 (C.map qN))])
   (fun q=>q≤3) (fun q=>3 - q) 0 (Nat.zero_le _) (tS) tH ?_
  intro q hq
  by_cases hq3:q < 3
  ·have d2:decide (((q + 1:Nat):Int)≤3)=true:=decide_eq_true (by omega)
   have cb:=Yb c ((q + 1:Nat):Int)
   have ci:=zql c ((q + 1:Nat):Int) at_
   have hpq:=hpm q hq3
   have hgo:goC at_ s c k (q + 1) B=zax at_ s c k ((q + 1:Nat):Int) (goC at_ s c k q B):=rfl
   have hokq:=znv (at_:=at_) (c:=c) (k:=k) h3 hok q
   generalize goC at_ s c k q B=b at hgo hokq ⊢
   rw [zax] at hgo
   generalize bounds c ((q + 1:Nat):Int)=ft at cb ci hpq hgo
   obtain ⟨f,t⟩:=ft
   dsimp only at cb ci hpq hgo
   cases hin:(decide (f≤at_)&&decide (at_ < t))
   ·rw [hin] at ci hgo
    rw [if_neg (by simp)] at hgo
    repeat' (first|(refine shC ?_;first|refine qC cb ?_|refine qC ci ?_)|(refine shX ?_;first|refine qX he ?_)|refine sK ?_|refine sC (fun _=>?_) (fun _=>?_)|fail)
    exact ⟨q + 1,hq3,by show 3 - (q + 1) < 3 - q;omega,by dsimp only;rw [hgo];exact tS,by dsimp only;rw [hgo];exact tH⟩
   ·have hsm:=hS _ (hpq hin)
    have hw:IntKind.i64.wrap (t - f)=t - f:=wrap_in (by have:=hsm.f;have:=hsm.t;simp only at *;omega) (by have:=hsm.f;have:=hsm.t;simp only at *;omega)
    have hl8:zbl (some ⟨(k:Int),((q + 1:Nat):Int),f,t⟩)=IntKind.i64.wrap (t - f):=by rw [hw];rfl
    rw [hin] at ci hgo
    rw [if_pos rfl,zeH] at hgo
    by_cases hsz:s < t - f
    ·have d3:decide (s < IntKind.i64.wrap (t - f))=true:=decide_eq_true (by rw [hw];exact hsz)
     have d3':decide (s < szP ⟨(k:Int),((q + 1:Nat):Int),f,t⟩)=true:=decide_eq_true hsz
     rw [d3',Bool.true_and] at hgo
     cases b with
     | none =>
      rw [if_pos rfl] at hgo
      repeat' (first|(refine shC ?_;first|refine qC cb ?_|refine qC ci ?_)|(refine shX ?_;first|refine qX he ?_)|refine sK ?_|refine sC (fun _=>?_) (fun _=>?_)|fail)
      exact ⟨q + 1,hq3,by show 3 - (q + 1) < 3 - q;omega,by dsimp only;rw [hgo,hl8];exact tS,by dsimp only;rw [hgo];exact tH⟩
     | some y =>
      have hy:=hokq y rfl
      have d4:(zbl (some y)==0)=false:=by simp [zbl];omega
      by_cases hlt2:t - f < szP y
      ·have d5:decide (IntKind.i64.wrap (t - f) < zbl (some y))=true:=decide_eq_true (by rw [hw];exact hlt2)
       simp only [show decide (szP (⟨(k:Int),((q + 1:Nat):Int),f,t⟩:Pt) < szP y)=true from decide_eq_true hlt2,if_true] at hgo
       repeat' (first|(refine shC ?_;first|refine qC cb ?_|refine qC ci ?_)|(refine shX ?_;first|refine qX he ?_)|refine sK ?_|refine sC (fun _=>?_) (fun _=>?_)|fail)
       exact ⟨q + 1,hq3,by show 3 - (q + 1) < 3 - q;omega,by dsimp only;rw [hgo,hl8];exact tS,by dsimp only;rw [hgo];exact tH⟩
      ·have d5:decide (IntKind.i64.wrap (t - f) < zbl (some y))=false:=decide_eq_false (by rw [hw];exact hlt2)
       simp only [show decide (szP (⟨(k:Int),((q + 1:Nat):Int),f,t⟩:Pt) < szP y)=false from decide_eq_false hlt2,Bool.false_eq_true,if_false] at hgo
       repeat' (first|(refine shC ?_;first|refine qC cb ?_|refine qC ci ?_)|(refine shX ?_;first|refine qX he ?_)|refine sK ?_|refine sC (fun _=>?_) (fun _=>?_)|fail)
       exact ⟨q + 1,hq3,by show 3 - (q + 1) < 3 - q;omega,by dsimp only;rw [hgo];exact tS,by dsimp only;rw [hgo];exact tH⟩
    ·have d3:decide (s < IntKind.i64.wrap (t - f))=false:=decide_eq_false (by rw [hw];exact hsz)
     have d3':decide (s < szP ⟨(k:Int),((q + 1:Nat):Int),f,t⟩)=false:=decide_eq_false hsz
     rw [d3',Bool.false_and,if_neg (by simp)] at hgo
     repeat' (first|(refine shC ?_;first|refine qC cb ?_|refine qC ci ?_)|(refine shX ?_;first|refine qX he ?_)|refine sK ?_|refine sC (fun _=>?_) (fun _=>?_)|fail)
     exact ⟨q + 1,hq3,by show 3 - (q + 1) < 3 - q;omega,by dsimp only;rw [hgo];exact tS,by dsimp only;rw [hgo];exact tH⟩
  ·have d2:decide (((q + 1:Nat):Int)≤3)=false:=decide_eq_false (by omega)
   obtain rfl:q=3:=by omega
   repeat' (first|refine sK ?_|refine sC (fun _=>?_) (fun _=>?_)|fail)
   exact ⟨k + 1,hlt,by show l.length - (k + 1) < l.length - k;omega,by dsimp only;rw [hbn];exact tS,by dsimp only;rw [hbn];exact tH⟩
 ·have d1:decide ((k:Int) < (((l.map yI).length:Nat):Int))=false:=decide_eq_false (by rw [List.length_map];omega)
  obtain rfl:k=l.length:=by omega
  have hb:=hbest s
  rw [←h2] at hb
  rw [hb]
  cases D with
  | nil =>
   rw [List.append_nil] at h1
   repeat' (first|refine sK ?_|refine sC (fun _=>?_) (fun _=>?_)|fail)
   exact retq rfl (by rw [h1];rfl)
  | cons x D =>
   have hx:x∈F:=by rw [h1];simp
   have hxs:=hmem x hx
   have hxp:0 < szP x:=by
    have:x∈F.filter (fun y=>decide (s < szP y)):=by rw [←h2];simp
    have:=(List.mem_filter.1 this).2
    simp at this;omega
   have d6:(zbl (List.head? (x::D))==0)=false:=by simp [zbl];omega
   repeat' (first|(refine zI ?_;first|refine yc zh rfl rfl rfl rfl rfl rfl rfl (by show _ * 16≤_;simp;simp at hCl;omega) (by simp;simp at hCl;omega) rfl rfl ?_)|refine sK ?_|refine sC (fun _=>?_) (fun _=>?_)|fail)
   exact ⟨(C++[x],D,szP x),⟨by rw [h1];simp,(zgi hsort h2.symm).symm,by show 0≤szP x;omega⟩,by show D.length < D.length + 1;omega,tS,by dsimp only;rw [List.map_append];exact tH⟩
def zcb (l:List Cl) (to:Int) (r:Pt):Bool:=r.p==1&&(l.getD r.c.toNat default).tf==to
def zbZ (l:List Cl) (out:Bool) (to:Int) (b a:List Pt):Bool:=if out then YW l b to a else zb4 b to a
theorem zi5 {α:Type} {p:α→Bool}:∀ {l:List α} {k:Nat},(∀ j,j < k→∀ x,l[j]?=some x→p x=true)→k≤l.length→(∀ x,l[k]?=some x→p x=false)→(l.takeWhile p).length=k
 | [],k,_,hk,_=>by simp at hk;simp [hk]
 | x::l,0,_,_,hx=>by rw [List.takeWhile_cons,hx x rfl];rfl
 | x::l,k + 1,h,hk,hx=>by
  rw [List.takeWhile_cons,h 0 (by omega) x rfl]
  simp only [if_true,List.length_cons]
  rw [zi5 (k:=k) (fun j hj y hy=>h (j + 1) (by omega) y (by simpa using hy)) (by simpa using hk) (fun y hy=>hx y (by simpa using hy))]
theorem zco {α:Type} {p q:α→Bool}:∀ {l:List α},(∀ x∈l,p x=q x)→l.takeWhile p=l.takeWhile q
 | [],_=>rfl
 | x::l,h=>by rw [List.takeWhile_cons,List.takeWhile_cons,h x (by simp),zco fun y hy=>h y (List.mem_cons_of_mem _ hy)]
structure RgOk (l:List Cl) (to:Int) (b:List Pt):Prop where
 n:b.length≤18
 c:∀ x∈b,0≤x.c∧x.c.toNat < l.length
 op:∀ x∈b,zcb l to x=(x.p==1&&x.f==to)
theorem zhB {l:List Cl} {to:Int} {b:List Pt} (h:RgOk l to b) {k:Nat} (hk:k≤b.length) (h1:∀ j,j < k→∀ x,b[j]?=some x→zcb l to x=true) (h2:∀ x,b[k]?=some x→zcb l to x=false):yD b to=k:=by
 unfold yD
 rw [←zco (p:=zcb l to) fun x hx=>h.op x hx]
 exact zi5 h1 hk h2
theorem zrQ {b a:List Pt} {to:Int} {k:Nat} (hk:k≤yD b to) (h:Yj a (b.drop k)=true):zb4 b to a=true:=by
 unfold zb4
 rw [List.any_eq_true]
 exact ⟨k,by rw [List.mem_range];omega,by rw [zdn];exact h⟩
theorem zo5 {b a:List Pt} {to:Int} (h:∀ j,j≤yD b to→Yj a (b.drop j)=false):zb4 b to a=false:=by
 unfold zb4
 rw [List.any_eq_false]
 intro k hk
 rw [List.mem_range] at hk
 rw [zdn,h k (by omega)];simp
theorem zrO {l:List Cl} {to:Int} {b:List Pt} (h:RgOk l to b) {k:Nat} (hk:k≤b.length) (h1:∀ j,j < k→∀ x,b[j]?=some x→zcb l to x=true):k≤yD b to:=by
 unfold yD
 rw [←zco (p:=zcb l to) fun x hx=>h.op x hx]
 clear h
 induction b generalizing k with
 | nil=>simp at hk;omega
 | cons x b ih =>
  cases k with
  | zero=>omega
  | succ k =>
   rw [List.takeWhile_cons,h1 0 (by omega) x rfl]
   simp only [if_true,List.length_cons]
   have:=ih (k:=k) (by simpa using hk) (fun j hj y hy=>h1 (j + 1) (by omega) y (by simpa using hy))
   omega
def zu9 (env2:Env) (H2:HEnv) (φ:Prop) (QQ:QC):QC
 | .normal,env',H'=>Sub env' env2∧Qa H' H2 env2∧φ
 | e,env',H'=>QQ e env' H'
theorem ztf {P:Program} {n:Nat} {g:Base} {x y:Code} {env:Env} {H:HEnv} {QQ:QC} (env2:Env) (H2:HEnv) (φ:Prop) (h1:AW P n g x env H (zu9 env2 H2 φ QQ)) (h2:φ→AW P n g y env2 H2 QQ):AW P n g (.seq x y) env H QQ :=
 zil (h1.mono fun e env' H' hq=>by
  cases e <;> first
   | exact ⟨fun a w hi=>(h2 hq.2.2).go a w ((hi.sub hq.1).hsub hq.2.1)⟩
   | exact hq)
set_option maxHeartbeats 8000000 in
theorem zfD (l:List Cl) (i0 to:Int) (out:Bool) (a b:List Pt) (ca:ACall Tryz.prog 23 [cls l,pi i0] (rgs a)) (cb:ACall Tryz.prog 23 [cls l,pi to] (rgs b)) (ha:a.length≤18) (hac:∀ x∈a,0≤x.c∧x.c.toNat < l.length)
  (hb:RgOk l to b) (hout:∀ x∈a,zoF l x=(x.p==3||x.p==2&&decide (2 < (l.getD x.c.toNat default).kind))):ACall Tryz.prog 67 [cls l,pi i0,pi to,pb out] (pb (zbZ l out to b a)):=by
 have hbn:=hb.n
 refine zf zh Tryz.func67 rfl (by kernel_rfl) Tryz.ntmps67 (by simp) _ rfl (fun hw gB hgB=>?_)
 repeat' (first|(refine shC ?_;first|refine qC ca ?_|refine qC cb ?_)|refine sK ?_|refine sC (fun _=>?_) (fun _=>?_)|fail)
 refine zo (fun i:Nat=>[(0,.pv (cls l)),(2,.pv (pi to)),(3,.pv (pb out)),(9,.pv (rgs a)),(10,.pv (rgs b)),(11,.pv (pi i))]) (fun _=>[]) (fun i=>i≤a.length∧zbZ l out to b a=zbZ l out to b (a.drop i)) (fun i=>a.length + 1 - i) 0 ⟨Nat.zero_le _,rfl⟩ (tS) tH ?_
 rintro i ⟨hi,hw⟩
 have d1:decide ((i:Int)≤(((a.map qN).length:Nat):Int))=true:=decide_eq_true (by rw [List.length_map];omega)
 repeat' (first|refine ztf (x:=.seq (.region 6 _ _) _) [(0,.pv (cls l)),(2,.pv (pi to)),(3,.pv (pb out)),(9,.pv (rgs a)),(10,.pv (rgs b)),(11,.pv (pi i))] [] (zb4 b to (a.drop i)=false) ?_ ?_|refine sK ?_|refine sC (fun _=>?_) (fun _=>?_)|fail)
 ·refine zo (fun k:Nat=>[(0,.pv (cls l)),(2,.pv (pi to)),(3,.pv (pb out)),(9,.pv (rgs a)),(10,.pv (rgs b)),(11,.pv (pi i)),(12,.pv (pi k))]) (fun _=>[])
   (fun k=>k≤b.length + 1∧(∀ j,j < k→∀ x,b[j]?=some x→zcb l to x=true)∧∀ j,j < k→Yj (a.drop i) (b.drop j)=false) (fun k=>b.length + 2 - k) 0 ⟨by omega,fun j h=>by omega,fun j h=>by omega⟩ (tS) tH ?_
  rintro k ⟨hk,ho,hs⟩
  by_cases hkb:k≤b.length
  ·have d2:decide ((k:Int)≤(((b.map qN).length:Nat):Int))=true:=decide_eq_true (by rw [List.length_map];omega)
   have cs:=zna a b i k hi hkb (by omega) (by omega)
   cases hsm:Yj (a.drop i) (b.drop k)
   ·rw [hsm] at cs
    by_cases hlt:k < b.length
    ·have d3:decide ((k:Int) < (((b.map qN).length:Nat):Int))=true:=decide_eq_true (by rw [List.length_map];omega)
     have he:=zA (f:=qN) hlt
     have hm:=List.getElem_mem hlt
     have hgk:b[k]?=some b[k]:=List.getElem?_eq_getElem hlt
     generalize b[k]=r at he hm hgk
     have co:=zkP l r to (hb.c r hm).1 (hb.c r hm).2
     cases hop:zcb l to r
     ·rw [show (r.p==1&&(l.getD r.c.toNat default).tf==to)=zcb l to r from rfl,hop] at co
      have hen:yD b to=k:=zhB hb hkb ho (fun x hx=>by rw [hgk] at hx;cases hx;exact hop)
      have hno:zb4 b to (a.drop i)=false:=zo5 fun j hj=>by
       rw [hen] at hj
       by_cases e:j=k
       ·subst e;exact hsm
       ·exact hs j (by omega)
      repeat' (first|(refine shC ?_;first|refine qC cs ?_|refine qC co ?_)|(refine shX ?_;first|refine qX he ?_)|refine sK ?_|refine sC (fun _=>?_) (fun _=>?_)|fail)
      exact ⟨tS,tH,hno⟩
     ·rw [show (r.p==1&&(l.getD r.c.toNat default).tf==to)=zcb l to r from rfl,hop] at co
      repeat' (first|(refine shC ?_;first|refine qC cs ?_|refine qC co ?_)|(refine shX ?_;first|refine qX he ?_)|refine sK ?_|refine sC (fun _=>?_) (fun _=>?_)|fail)
      exact ⟨k + 1,⟨by omega,fun j hj x hx=>by
       by_cases e:j=k
       ·subst e;rw [hgk] at hx;cases hx;exact hop
       ·exact ho j (by omega) x hx,fun j hj=>by
       by_cases e:j=k
       ·subst e;exact hsm
       ·exact hs j (by omega)⟩,by show b.length + 2 - (k + 1) < b.length + 2 - k;omega,tS,tH⟩
    ·have d3:decide ((k:Int) < (((b.map qN).length:Nat):Int))=false:=decide_eq_false (by rw [List.length_map];omega)
     repeat' (first|(refine shC ?_;first|refine qC cs ?_)|refine sK ?_|refine sC (fun _=>?_) (fun _=>?_)|fail)
     exact ⟨k + 1,⟨by omega,fun j hj x hx=>by
      by_cases e:j=k
      ·subst e;rw [List.getElem?_eq_none (by omega)] at hx;cases hx
      ·exact ho j (by omega) x hx,fun j hj=>by
      by_cases e:j=k
      ·subst e;exact hsm
      ·exact hs j (by omega)⟩,by show b.length + 2 - (k + 1) < b.length + 2 - k;omega,tS,tH⟩
   ·rw [hsm] at cs
    have hy:zb4 b to (a.drop i)=true:=zrQ (zrO hb hkb ho) hsm
    have hr:zbZ l out to b a=true:=by
     rw [hw,zbZ]
     cases out
     ·exact hy
     ·simp only [if_true]
      cases hd:a.drop i with
      | nil=>rw [hd] at hy;exact hy
      | cons r t=>rw [hd] at hy;rw [YW,if_pos hy]
    repeat' (first|(refine shC ?_;first|refine qC cs ?_)|refine sK ?_|refine sC (fun _=>?_) (fun _=>?_)|fail)
    exact retq rfl (by rw [hr];rfl)
  ·have d2:decide ((k:Int)≤(((b.map qN).length:Nat):Int))=false:=decide_eq_false (by rw [List.length_map];omega)
   have hen:yD b to=b.length:=zhB hb (Nat.le_refl _) (fun j hj=>ho j (by omega)) (fun x hx=>by rw [List.getElem?_eq_none (Nat.le_refl _)] at hx;cases hx)
   have hno:zb4 b to (a.drop i)=false:=zo5 fun j hj=>hs j (by omega)
   repeat' (first|refine sK ?_|refine sC (fun _=>?_) (fun _=>?_)|fail)
   exact ⟨tS,tH,hno⟩
 ·intro hno
  cases out
  ·repeat' (first|refine sK ?_|refine sC (fun _=>?_) (fun _=>?_)|fail)
   exact retq rfl (by rw [hw,zbZ];simp [zi,hno])
  ·by_cases hlt:i < a.length
   ·have d3:((i:Int)==(((a.map qN).length:Nat):Int))=false:=by rw [List.length_map];simp;omega
    have he:=zA (f:=qN) hlt
    have hm:=List.getElem_mem hlt
    have hd:a.drop i=a[i]::a.drop (i + 1):=List.drop_eq_getElem_cons hlt
    generalize a[i]=r at he hm hd
    have hc:=hac r hm
    have hek:(l.map yI)[r.c.toNat]?=some (yI (l.getD r.c.toNat default)):=by rw [zx hc.2];exact zA hc.2
    have hc0:=hc.1
    have ho:=hout r hm
    have hv:zbZ l true to b a=if zoF l r then false else zbZ l true to b (a.drop (i + 1)):=by
     rw [hw,hd,zbZ,if_pos rfl,YW,←hd,hno,if_neg (by simp)];rfl
    rw [ho] at hv
    generalize l.getD r.c.toNat default=c at hek hv
    rcases Bool.eq_false_or_eq_true (r.p==3) with p3|p3
    ·rw [p3] at hv
     repeat' (first|(refine shX ?_;first|refine qX he ?_|refine zu rfl (zk zh rfl rfl rfl rfl rfl rfl hc0 hek) rfl rfl ?_|refine AD.step _ _ _ _ _ rfl (zk zh rfl rfl rfl rfl rfl rfl hc0 hek) rfl rfl ?_)|refine sK ?_|refine sC (fun _=>?_) (fun _=>?_)|fail)
     exact retq rfl (by rw [hv];rfl)
    ·rcases Bool.eq_false_or_eq_true (r.p==2) with p2|p2
     ·rcases Bool.eq_false_or_eq_true (decide (2 < c.kind)) with k2|k2
      ·rw [p3,p2,k2] at hv
       repeat' (first|(refine shX ?_;first|refine qX he ?_|refine zu rfl (zk zh rfl rfl rfl rfl rfl rfl hc0 hek) rfl rfl ?_|refine AD.step _ _ _ _ _ rfl (zk zh rfl rfl rfl rfl rfl rfl hc0 hek) rfl rfl ?_)|refine sK ?_|refine sC (fun _=>?_) (fun _=>?_)|fail)
       exact retq rfl (by rw [hv];rfl)
      ·rw [p3,p2,k2] at hv
       repeat' (first|(refine shX ?_;first|refine qX he ?_|refine zu rfl (zk zh rfl rfl rfl rfl rfl rfl hc0 hek) rfl rfl ?_|refine AD.step _ _ _ _ _ rfl (zk zh rfl rfl rfl rfl rfl rfl hc0 hek) rfl rfl ?_)|refine sK ?_|refine sC (fun _=>?_) (fun _=>?_)|fail)
       exact ⟨i + 1,⟨hlt,by rw [hv];rfl⟩,by show a.length + 1 - (i + 1) < a.length + 1 - i;omega,tS,tH⟩
     ·rw [p3,p2] at hv
      repeat' (first|(refine shX ?_;first|refine qX he ?_|refine zu rfl (zk zh rfl rfl rfl rfl rfl rfl hc0 hek) rfl rfl ?_|refine AD.step _ _ _ _ _ rfl (zk zh rfl rfl rfl rfl rfl rfl hc0 hek) rfl rfl ?_)|refine sK ?_|refine sC (fun _=>?_) (fun _=>?_)|fail)
      exact ⟨i + 1,⟨hlt,by rw [hv];rfl⟩,by show a.length + 1 - (i + 1) < a.length + 1 - i;omega,tS,tH⟩
   ·have d3:((i:Int)==(((a.map qN).length:Nat):Int))=true:=by rw [List.length_map];simp;omega
    have hd:a.drop i=[]:=List.drop_of_length_le (by omega)
    repeat' (first|refine sK ?_|refine sC (fun _=>?_) (fun _=>?_)|fail)
    exact retq rfl (by rw [hw,hd,zbZ,if_pos rfl,YW,←hd,hno];rfl)
end Go.Cg
