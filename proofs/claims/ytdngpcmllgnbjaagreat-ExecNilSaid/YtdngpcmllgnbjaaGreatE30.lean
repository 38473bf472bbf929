/- A part of the walks by abstract values: no statement of its own. -/
import Derived.Test.YtdngpcmllgnbjaaGreatE29
import Derived.Test.YtdngpcmllgnbjaaGreatE23
import Derived.Test.YtdngpcmllgnbjaaGreatE18
import Derived.Test.YtdngpcmllgnbjaaGreatE12
import Derived.Test.YtdngpcmllgnbjaaGreatE15
import Derived.Test.YtdngpcmllgnbjaaGreatE5
import Derived.Test.YtdngpcmllgnbjaaGreatE11
import Derived.Test.YtdngpcmllgnbjaaGreatE14
import Derived.Test.YtdngpcmllgnbjaaGreatE17
import Derived.Test.YtdngpcmllgnbjaaGreatE20
set_option linter.unusedVariables false
set_option linter.unusedSimpArgs false
namespace Go.Cg
open Go.Proofs
def LeS {α:Type} (act:SM α):Prop:=∀ l a l',act l=.ok (a,l')→l'.length≤l.length
theorem QZ {α β:Type} {x:SM α} {f:α→SM β} (hx:LeS x) (hf:∀ a,LeS (f a)):LeS (x >>= f):=fun l b l' h=>by
 rw [Za] at h
 cases hxl:x l with
 | error e=>rw [hxl] at h;cases h
 | ok p =>
  obtain ⟨a,l1⟩:=p
  rw [hxl] at h
  exact Nat.le_trans (hf a l1 b l' h) (hx l a l1 hxl)
theorem zbh {α:Type} (a:α):LeS (pure a:SM α):=fun l b l' h=>by rw [Qb] at h;cases h;exact Nat.le_refl _
theorem XB (b:Bool) (e:Int):LeS (qN b e):=fun l a l' h=>by
 unfold qN at h;split at h
 ·cases h;exact Nat.le_refl _
 ·cases h
theorem empty_le (e:Int):LeS (emptyS e):=fun l a l' h=>by
 unfold emptyS at h;split at h
 ·cases h;exact Nat.le_refl _
 ·cases h
theorem zaj:LeS Qv:=fun l a l' h=>by have:=zly h;omega
theorem zjJ (g:Img) (t:Ty):LeS (QW g t):=QZ zaj fun _=>XB _ _
theorem zmA (g:Img) (ls:List Ty):LeS (zam g ls):=fun l a l' h=>by
 unfold zam at h;split at h
 ·cases h
 ·split at h
  ·cases h;simp
  ·cases h
theorem zvG {l l':List Ty} {a:Ty} (h:Qv l=.ok (a,l')):l'.length≤l.length:=zaj l a l' h
theorem zrG {x:Ins} {ls l l':List Ty} {a:Ty} (h:zpg x ls l=.ok (a,l')):l'.length≤l.length:=QZ (XB _ _) (fun _=>zbh _) l a l' h
theorem zf8 {l l':List Ty} {a:Ty} (h:Zj l=.ok (a,l')):l'.length≤l.length:=QZ zaj (fun _=>QZ zaj fun _=>QZ (XB _ _) fun _=>zbh _) l a l' h
theorem ztC {l l':List Ty} {a:Ty} (h:zoW l=.ok (a,l')):l'.length≤l.length:=QZ zaj (fun _=>QZ (XB _ _) fun _=>zbh _) l a l' h
theorem zop {l l':List Ty} (h:zd2 l=.ok ((),l')):l'.length≤l.length:=QZ zaj (fun _=>QZ zaj fun _=>XB _ _) l () l' h
theorem zsW {g:Img} {t:Ty} {l l':List Ty} (h:QW g t l=.ok ((),l')):l'.length≤l.length:=zjJ g t l () l' h
theorem znH {g:Img} {f:Fd} {it:Bool} {l l':List Ty} (h:zcH g f it l=.ok ((),l')):l'.length≤l.length:=QZ zaj (fun _=>by split <;> exact XB _ _) l () l' h
theorem zpW {x:Ins} {l l':List Ty} {a:Ty} (h:zkz x l=.ok (a,l')):l'.length≤l.length:=QZ (XB _ _) (fun _=>zbh _) l a l' h
theorem XC.tells {α:Type} {f:FuncId} {c:RC} {act:SM α} {val:α→AV} {l:List Ty} {p p':PV} (h:XC f [.pv p] c act val l) (ht:PTells p' p):XC f [.pv p'] c act val l:=fun u=>by
 have key:∀ {K:KK} {w:World} {ρ:Nat→Value} {H:HEnv} {vs:List Value},ZQ K w ρ H [.box 0 0,.pv p'] vs→ZQ K w ρ H [.box 0 0,.pv p] vs:=fun hv=>⟨hv.1,fun k c v hc hvv=>by
  match k with
  | 0=>exact hv.2 0 c v hc hvv
  | 1 =>
   simp at hc;subst hc
   have:=hv.2 1 (.pv p') v rfl hvv
   cases this with|pv _ _ hp=>exact .pv _ _ (ht _ _ _ hp)
  | k + 2=>simp at hc⟩
 have hu:=h u
 cases ho:ztG u c val (act l) with
 | ret r H' =>
  rw [ho] at hu
  exact ⟨hu.stands,fun g K ρ w vs hw1 hf hv=>hu.calls g K ρ w vs hw1 hf (key hv)⟩
 | pan v =>
  rw [ho] at hu
  exact ⟨hu.stands,fun g K ρ w vs hw1 hf hv=>hu.calls g K ρ w vs hw1 hf (key hv)⟩
abbrev zuU (c:RC):HE:=.cell (.agg ((QD c.g++(zgm c.m++(tys c.ar::(zbu c.x++[.base (.slice none 0 0)])))).map .pv))
abbrev rHN (u:Value) (c:RC):HEnv:=(0,zuU c)::zsj u
def zuf (u:Value) (c:RC):Except Int (Unit × List Ty)→Out
 | .error e=>.pan (flt e)
 | .ok _=>.ret (.pv (.tup [])) (rHN u c)
theorem zpr {tb:Tab} {rs:List ResultVar} {u:Value} {c:RC} {act:SM Unit} {l:List Ty} {p:Unit × List Ty} {ex:Exit} {env:Env} {H:HEnv} (h:act l=.ok p) (hr:ziz tb rs (.pv (.tup [])) (rHN u c) ex env H):zlH tb rs (zuf u c (act l)) ex env H:=by
 rw [h];exact hr
theorem zgN {tb:Tab} {rs:List ResultVar} {u:Value} {c:RC} {act:SM Unit} {l:List Ty} {e:Int} {env:Env} {H:HEnv} (h:act l=.error e):zlH tb rs (zuf u c (act l)) (.panic [{ v:=flt e,recovered:=false }]) env H:=by
 rw [h];rfl
theorem ztc {tb:Tab} {u:Value} {c:RC} {ex:Exit} {env:Env} {H:HEnv} (he:ex=.normal∨ex=.ret) (h:Ye H (rHN u c) []):ziz tb [] (.pv (.tup [])) (rHN u c) ex env H:=⟨he,.inl ⟨[],rfl,rfl,h⟩⟩
theorem zsI (c:RC):Tells (.agg ((QD c.g++(zgm c.m++(tys c.ar::(zbu c.x++[.base (.slice none 0 0)])))).map .pv)) (.agg ((QD c.g++(zgm c.m++(tys c.ar::(zbu c.x++[tys []])))).map .pv)):=fun K w ρ H v h=>by
 cases h with
 | agg _ vs h1 h2 h3 =>
  refine .agg _ vs (by simpa using h1) h2 fun k a v ha hv=>?_
  have hk:k < 24:=by have:=(List.getElem?_eq_some_iff.1 ha).1;simpa using this
  by_cases h23:k=23
  ·subst h23
   have:=h3 23 (.pv (.base (.slice none 0 0))) v rfl hv
   have e:a=.pv (tys []):=by simpa using ha.symm
   subst e
   exact qH 4 false _ _ _ _ _ this
  ·have e1:∀ x:PV,QD c.g++(zgm c.m++(tys c.ar::(zbu c.x++[x])))=(QD c.g++(zgm c.m++(tys c.ar::zbu c.x)))++[x]:=fun x=>by simp
   rw [e1,List.map_append,List.getElem?_append_left (by simp;omega)] at ha
   refine h3 k a v ?_ hv
   rw [e1,List.map_append,List.getElem?_append_left (by simp;omega)];exact ha
theorem ztS {f:FuncId} {c:RC} {act:SM Unit} {l:List Ty} (hn:∀ p,act l=.ok p→p.2=[]) (h:∀ u,QU Tryz.prog f [.box 0 0] (Vj u c l) (zuf u c (act l))):XC f [] c act uV l:=fun u=>by
 have hu:=h u
 cases ho:act l with
 | error e=>rw [ho] at hu;exact hu
 | ok p =>
  rw [ho] at hu
  have hp:=hn p ho
  obtain ⟨⟨⟩,l'⟩:=p
  simp only at hp;subst hp
  exact ⟨hu.stands,fun g K ρ w vs hw1 hf hv=>(hu.calls g K ρ w vs hw1 hf hv).mono fun e w' ⟨v,K',ρ',e1,hf',hr⟩=>⟨v,K',ρ',e1,zgz hf' (zsI c),by
   cases hr with|pv _ _ hp=>exact .pv _ _ hp⟩⟩
def BdS {α:Type} (max:Int) (act:SM α):Prop:=∀ l a l',act l=.ok (a,l')→((l'.length:Int)≤max∨l'.length≤l.length)∧l'.length≤l.length + 1
theorem zer {α:Type} {max:Int} {act:SM α} (h:LeS act):BdS max act:=fun l a l' hx=>⟨.inr (h l a l' hx),by have:=h l a l' hx;omega⟩
theorem YU {α β:Type} {max:Int} {x:SM α} {f:α→SM β} (hx:LeS x) (hf:∀ a,BdS max (f a)):BdS max (x >>= f):=fun l b l' h=>by
 rw [Za] at h
 cases hxl:x l with
 | error e=>rw [hxl] at h;cases h
 | ok p =>
  obtain ⟨a,l1⟩:=p
  rw [hxl] at h
  have h1:=hf a l1 b l' h
  have h2:=hx l a l1 hxl
  exact ⟨h1.1.imp (fun h=>h) (fun h=>by omega),by omega⟩
theorem zhq (max:Int) (t:Ty):BdS max (qG max [t]):=fun l a l' h=>by
 unfold qG at h
 split at h
 ·rename_i hm
  cases h
  simp at hm ⊢;omega
 ·cases h
theorem zu5 (max:Int):BdS max (do let t ←Qv;qG max [t,t]):=fun l a l' h=>by
 rcases Va l with e|⟨t,l1,e,e2⟩
 ·rw [zol e] at h;cases h
 ·rw [zvr e] at h
  unfold qG at h
  split at h
  ·rename_i hm
   cases h
   subst e2
   simp at hm ⊢;omega
  ·cases h
theorem zsC:LeS zft:=fun l a l' h=>by cases h;simp
theorem znD:LeS Zj:=fun l a l' h=>zf8 h
theorem one_le:LeS zoW:=fun l a l' h=>ztC h
theorem zi3:LeS zd2:=fun l a l' h=>zop h
theorem ztU (x:Ins) (ls:List Ty):LeS (zpg x ls):=fun l a l' h=>zrG h
theorem zjm (g:Img) (f:Fd) (it:Bool):LeS (zcH g f it):=fun l a l' h=>znH h
theorem zrO (x:Ins):LeS (zkz x):=fun l a l' h=>zpW h
theorem zoc (max:Int) (t:Ty):BdS max (zhd max t):=YU (XB _ _) fun _=>zhq _ _
theorem zpR (max:Int) (c:Me):BdS max (zeg max c):=by
 unfold zeg
 split
 ·exact zhq _ _
 ·exact zer (zbh _)
theorem zu0 {α:Type} {max:Int} {p:Prop} [Decidable p] {x y:SM α} (hx:BdS max x) (hy:BdS max y):BdS max (if p then x else y):=by split <;> assumption
theorem zuE (g:Img) (ar:List Ty) (m:Me) (x:Ins):BdS m.max (doS g ar m x):=by
 unfold doS ztn zaN zow zox zkl zjW zk0 zhI ze3 QH Xe
 try dsimp only
 repeat' (first|with_reducible exact zhq _ _|with_reducible exact zu5 _|with_reducible exact zer (zbh _)|with_reducible exact zer (XB _ _)|with_reducible exact zer (zjJ _ _)|with_reducible exact zer (zmA _ _)|with_reducible exact zer (zjm _ _ _)|with_reducible exact zer zi3|with_reducible exact zer zsC|with_reducible exact zoc _ _|with_reducible exact zpR _ _|with_reducible exact zer zaj|with_reducible refine YU (zbh _) fun _=>?_|with_reducible refine YU (XB _ _) fun _=>?_|with_reducible refine YU (zaj) fun _=>?_|with_reducible refine YU (zjJ _ _) fun _=>?_|with_reducible refine YU (zmA _ _) fun _=>?_|with_reducible refine YU (znD) fun _=>?_|with_reducible refine YU (one_le) fun _=>?_|with_reducible refine YU (zi3) fun _=>?_|with_reducible refine YU (ztU _ _) fun _=>?_|with_reducible refine YU (zjm _ _ _) fun _=>?_|with_reducible refine YU (zrO _) fun _=>?_|with_reducible refine YU (empty_le _) fun _=>?_|with_reducible refine zu0 ?_ ?_|split|dsimp only)
def qh (c:List Pt) (at_:Int):Nat:=(c.takeWhile fun x=>x.p==1&&x.f==at_).length
def zuR (x y:Pt):Bool:=x.c==y.c&&(x.p==y.p&&true)
def Vk:List Pt→List Pt→Bool
 | [],[]=>true
 | x::a,y::b=>zuR x y&&Vk a b
 | _,_=>false
def zkK (b:List Pt) (to:Int) (a:List Pt):Bool:=(List.range (qh b to + 1)).any fun k=>Vk (b.drop k) a
def zga (l:List Cl) (i to:Int):Bool:=zkK (yU l to) to (yU l i)
def zuJ (l:List Cl) (r:Pt):Bool:=r.p==3||r.p==2&&(l.getD r.c.toNat default).kind != 1&&(l.getD r.c.toNat default).kind != 2
def XD (l:List Cl) (b:List Pt) (to:Int):List Pt→Bool
 | []=>zkK b to []
 | r::a=>if zkK b to (r::a) then true else if zuJ l r then false else XD l b to a
def zh0 (l:List Cl) (i to:Int):Bool:=XD l (yU l to) to (yU l i)
def Vx (m:Me) (i:Int):Int:=if decide (1≤(yO m i).op)&&decide ((yO m i).op≤75) then (ofI (yO m i).op).2.2 else 0
def opV (m:Me) (i:Int):Int:=if decide (i < 0)||decide ((m.code.length:Int)≤i) then 0 else (yO m i).op
def zbP (w:Int):Bool:=w==0||w==2
def zc9 (w:Int):Bool:=w==1||(w==2||w==4)
def onV (m:Me) (i:Int):Int :=
 if zbP (Vx m i)&&!decide (i + 1 < (m.code.length:Int)) then 11
 else if zbP (Vx m i)&&!zga m.clauses i (i + 1) then 12
 else if !zc9 (Vx m i) then 0
 else if Vx m i==4 then (if zh0 m.clauses i (yO m i).arg then 0 else 12)
 else if zga m.clauses i (yO m i).arg then 0 else 12
def clV (m:Me) (r:Pt):Cl:=m.clauses.getD r.c.toNat default
def Ql (m:Me) (r:Pt) (a b:Int):Bool:=r.p==2&&((clV m r).kind==a||(clV m r).kind==b)
def Zn (m:Me) (i:Int):Int :=
 if opV m i==46 then (if (yU m.clauses i).isEmpty then 0 else 12)
 else if opV m i==70 then (match (yU m.clauses i).find? (fun r=>r.p != 1) with|none=>12|some r=>if Ql m r 1 2 then 0 else 12)
 else if opV m i==72 then (match yU m.clauses i with|[]=>12|r::_=>if Ql m r 3 4 then 0 else 12)
 else if opV m i==73 then (match yU m.clauses i with|[]=>12|r::_=>if r.p==3&&(clV m r).hf==i + 1 then 0 else 12)
 else 0
def XH (g:Img) (m:Me) (i:Int):Me:=mAt g (yO m (i + 1)).arg
def tailV (g:Img) (m:Me) (i:Int):Int :=
 if opV m i != 47 then 0
 else if !((opV m (i + 1)==43||opV m (i + 1)==44)&&opV m (i + 2)==46&&(yU m.clauses i).isEmpty) then 11
 else if !tyB (XH g m i).ret m.ret then 10
 else if (zax g (XH g m i)).any (fun t=>t.ref) then 13 else 0
def VP (m:Me) (i:Int):Int:=if opV m i==68&&opV m (i - 1) != 67 then 11 else 0
def XT (g:Img) (m:Me) (i:Int):Int :=
 if onV m i != 0 then onV m i else if Zn m i != 0 then Zn m i else if tailV g m i != 0 then tailV g m i else VP m i
def zeb (m:Me):Bool:=!(yU m.clauses 0).any fun r=>r.p != 1||(clV m r).tf != 0
def zcL (g:Img) (m:Me):Int × Int :=
 match (List.range m.code.length).find? (fun i:Nat=>XT g m i != 0) with
 | some i=>(((i:Nat):Int),XT g m i)
 | none=>if zeb m then (0,0) else (0,12)
structure VS where
 st:List (List Ty)
 kn:List Bool
 wk:Int
def qI (i:Int) (l:List Ty) (s:VS):VS:=⟨s.st.set i.toNat l,s.kn.set i.toNat true,s.wk⟩
def zjn (s:VS) (c:Cl):VS :=
 if c.kind==1 then qI c.hf [c.t] s
 else if c.kind==2 then qI c.filter [⟨4,0,0,false⟩] (qI c.hf [⟨4,0,0,false⟩] s)
 else qI c.hf [] s
def za6 (m:Me):VS:=m.clauses.foldl zjn (qI 0 [] ⟨List.replicate m.code.length [],List.replicate m.code.length false,0⟩)
def zcF (m:Me) (i to:Int):Bool:=m.clauses.any fun c=>c.tf==to&&(decide (i < c.tf)||decide (c.tt≤i))
def zds (s:VS) (i:Int):List Ty:=s.st.getD i.toNat []
def toV (g:Img) (m:Me) (i to:Int) (l:List Ty) (s:VS):Except Int VS :=
 if !(l.isEmpty||!zcF m i to) then .error 9
 else if decide (to≤i) then (if zte g l (zds s to) then .ok { s with wk:=s.wk + (1 + l.length) } else .error 14)
 else if !s.kn.getD to.toNat false then .ok (qI to l { s with wk:=s.wk + (1 + l.length) })
 else if (zcy g (zds s to) l).2==0 then .ok { s with st:=s.st.set to.toNat (zcy g (zds s to) l).1,wk:=s.wk + (1 + l.length) }
 else .error (zcy g (zds s to) l).2
def zgb (g:Img) (m:Me) (i:Int) (l:List Ty) (s:VS):Except Int VS :=
 match (if zbP (Vx m i) then toV g m i (i + 1) l s else .ok s) with
 | .error e=>.error e
 | .ok s'=>if zc9 (Vx m i) then toV g m i (yO m i).arg l s' else .ok s'
def zej (g:Img) (k:Int) (i:Int) (s:VS):Except Int VS :=
 match stepS g k i (zds s i) with
 | .error e=>.error e
 | .ok p=>zgb g (mAt g k) i p.2 { s with kn:=s.kn.set i.toNat true,wk:=s.wk + 1 }
def goV (g:Img) (k:Int):Nat→Nat→VS→Except (Int × Int) VS
 | 0,_,s=>.ok s
 | f + 1,i,s=>match zej g k i s with|.error e=>.error (((i:Nat):Int),e)|.ok s'=>goV g k f (i + 1) s'
def zbl (g:Img) (k:Int):Except (Int × Int) VS :=
 if (zcL g (mAt g k)).2 != 0 then .error (zcL g (mAt g k)) else goV g k (mAt g k).code.length 0 (za6 (mAt g k))
structure OkV (n:Nat) (s:VS):Prop where
 len:s.st.length=n
 st:∀ l∈s.st,l.length≤12
theorem zgD {s:VS} {n:Nat} (h:OkV n s) (i:Int):(zds s i).length≤12:=by
 unfold zds
 rw [List.getD_eq_getElem?_getD]
 cases hs:s.st[i.toNat]? with
 | none=>simp
 | some l=>exact h.st l (List.mem_of_getElem? hs)
theorem zc5 {n:Nat} {s:VS} (h:OkV n s) {l:List Ty} (hl:l.length≤12) (i:Nat) (kn:List Bool) (wk:Int):OkV n ⟨s.st.set i l,kn,wk⟩ :=
 ⟨by simp [h.len],fun x hx=>by
  rcases List.mem_or_eq_of_mem_set hx with hx|hx
  ·exact h.st x hx
  ·rw [hx];exact hl⟩
theorem ztK {n:Nat} {s:VS} (h:OkV n s) (c:Cl):OkV n (zjn s c):=by
 unfold zjn
 split
 ·exact zc5 h (by simp) _ _ _
 ·split
  ·exact zc5 (s:=qI c.hf [⟨4,0,0,false⟩] s) (zc5 h (by simp) _ _ _) (by simp) _ _ _
  ·exact zc5 h (by simp) _ _ _
theorem zmO {n:Nat}:∀ (l:List Cl) {s:VS},OkV n s→OkV n (l.foldl zjn s)
 | [],_,h=>h
 | c::l,_,h=>zmO l (ztK h c)
theorem znn:∀ (l:List Cl) (s:VS),(l.foldl zjn s).wk=s.wk
 | [],_=>rfl
 | c::l,s=>by
  rw [List.foldl_cons,znn l]
  unfold zjn
  split
  ·rfl
  ·split <;> rfl
theorem zsu (m:Me):OkV m.code.length (za6 m)∧(za6 m).wk=0 :=
 ⟨zmO _ (zc5 ⟨by simp,fun l hl=>by rw [List.eq_of_mem_replicate hl];simp⟩ (by simp) _ _ _),by rw [za6,znn];rfl⟩
theorem zmE (g:Img):∀ (a b out:List Ty),a.length=b.length→(zqW g a b out).2=0→(zqW g a b out).1.length=out.length + a.length
 | [],[],out,_,_=>by simp [zqW]
 | x::a,y::b,out,h,h2=>by
  rw [zqW] at h2 ⊢
  split at h2
  ·rename_i h3;simp at h3;exact absurd h2 h3
  ·rename_i h3
   rw [if_neg h3,zmE g a b _ (by simpa using h) h2]
   simp;omega
 | [],_::_,_,h,_=>by simp at h
 | _::_,[],_,h,_=>by simp at h
theorem zmB {g:Img} {a b:List Ty} (h:(zcy g a b).2=0):(zcy g a b).1.length=a.length:=by
 unfold zcy at h ⊢
 split
 ·rename_i h1;rw [if_pos h1] at h;simp at h
 ·rename_i h1
  rw [if_neg h1] at h
  rw [zmE g a b [] (by simpa using h1) h];simp
theorem zuA {g:Img} {m:Me} {i to:Int} {l:List Ty} {n:Nat} {s s':VS} (h:OkV n s) (hl:l.length≤12) (ht:toV g m i to l s=.ok s'):OkV n s'∧s'.wk=s.wk + (1 + l.length):=by
 unfold toV at ht
 split at ht
 ·cases ht
 ·split at ht
  ·split at ht
   ·cases ht;exact ⟨⟨h.len,h.st⟩,rfl⟩
   ·cases ht
  ·split at ht
   ·cases ht;exact ⟨zc5 h hl _ _ _,rfl⟩
   ·split at ht
    ·rename_i he
     cases ht
     exact ⟨zc5 h (by rw [zmB (by simpa using he)];exact zgD h to) _ _ _,rfl⟩
    ·cases ht
theorem zty {g:Img} {m:Me} {i:Int} {l:List Ty} {n:Nat} {s s':VS} (h:OkV n s) (hl:l.length≤12) (ht:zgb g m i l s=.ok s'):OkV n s'∧s.wk≤s'.wk∧s'.wk≤s.wk + 26:=by
 unfold zgb at ht
 split at ht
 ·cases ht
 ·rename_i s1 h1
  have k1:OkV n s1∧s.wk≤s1.wk∧s1.wk≤s.wk + 13:=by
   split at h1
   ·obtain ⟨a,b⟩:=zuA h hl h1
    exact ⟨a,by omega,by omega⟩
   ·cases h1;exact ⟨h,by omega,by omega⟩
  split at ht
  ·obtain ⟨a,b⟩:=zuA k1.1 hl ht
   exact ⟨a,by omega,by omega⟩
  ·cases ht;exact ⟨k1.1,by omega,by omega⟩
theorem zuT {g:Img} {k i:Int} {n:Nat} {s s':VS} (hm:(mAt g k).max≤12) (h:OkV n s) (ht:zej g k i s=.ok s'):OkV n s'∧s.wk + 1≤s'.wk∧s'.wk≤s.wk + 27:=by
 unfold zej at ht
 split at ht
 ·cases ht
 ·rename_i p hp
  obtain ⟨⟨⟩,l2⟩:=p
  have hb:=(zuE g (zax g (mAt g k)) (mAt g k) (yO (mAt g k) i) _ _ _ hp).1
  have hg:=zgD h i
  obtain ⟨a,b,c⟩:=zty (s:={ s with kn:=s.kn.set i.toNat true,wk:=s.wk + 1 }) ⟨h.len,h.st⟩ (show l2.length≤12 by rcases hb with hb|hb <;> omega) ht
  exact ⟨a,by simpa using b,by simp only at c;omega⟩
set_option maxHeartbeats 20000000 in
theorem ztZ (g:Img) (hF:Fm g) (m:Me) (ar:List Ty) (arg:Int) (t0:Ty) (l:List Ty) (hl:l.length≤100) (op:Int) (ho:op=13∨op=14∨op=15∨op=16∨op=17∨op=18∨op=19∨op=20∨op=25∨op=26∨op=27):XC 153 [] (⟨g,m,ar,⟨op,arg,t0⟩⟩:RC) (zaN g m op) uV l:=by
 let c:RC:=⟨g,m,ar,⟨op,arg,t0⟩⟩
 rcases ho with rfl|rfl|rfl|rfl|rfl|rfl|rfl|rfl|rfl|rfl|rfl
 all_goals
  intro u;refine yY zh Tryz.func153 rfl (by kernel_rfl) Tryz.ntmps153 (by simp) _ rfl (fun gB hw1=>?_)
  cases hS1:(Zj) l with
  | error e =>
   have hw:(zaN g m c.x.op) l=.error e:=by simp [zaN,c,Za,Qb,hS1]
   repeat' (first|refine zD 12 2 rfl rfl rfl ?_|refine yJ ((Vj u c l)) zq rfl rfl rfl tH ((zaW c _ (by omega)).bad hS1 u) ?_|refine sK ?_|refine sC (fun _=>?_) (fun _=>?_)|fail)
   exact ZY hw
  | ok p =>
   obtain ⟨t,l1⟩:=p
   have hl1:l1.length≤100:=by have:=zf8 hS1;omega
   cases hS2:(qG m.max [t]) l1 with
   | error e =>
    have hw:(zaN g m c.x.op) l=.error e:=by simp [zaN,c,Za,Qb,hS1,hS2]
    repeat' (first|refine zD 12 4 rfl rfl rfl ?_|refine yJ ((Vj u c l1)) zq rfl rfl rfl tH ((zct c [t] _ (by omega) (by simp)).bad hS2 u) ?_|(refine zy ?_;first|(refine qF 0 zq rfl rfl ((zaW c _ (by omega)).ok hS1) rfl rfl rfl rfl rfl ?_))|refine sK ?_|refine sC (fun _=>?_) (fun _=>?_)|fail)
    exact ZY hw
   | ok p =>
    obtain ⟨⟨⟩,l2⟩:=p
    have hw:(zaN g m c.x.op) l=.ok ((),l2):=by simp [zaN,c,Za,Qb,hS1,hS2]
    repeat' (first|(refine zy ?_;first|(refine qF 0 zq rfl rfl ((zaW c _ (by omega)).ok hS1) rfl rfl rfl rfl rfl ?_)|(refine qF 0 zq rfl rfl ((zct c [t] _ (by omega) (by simp)).ok hS2) rfl rfl rfl rfl rfl ?_))|refine sK ?_|refine sC (fun _=>?_) (fun _=>?_)|fail)
    exact WE hw (zcW (.inl rfl) tH)
set_option maxHeartbeats 20000000
theorem zes {tb:Tab} {rs:List ResultVar} {i t:Nat} {H' H:HEnv} {env:Env} (hr:rs=[.tmp t]) (hg:env.get t=some (.own i)) (hf:Ye H H' [(t,.own i)]):ziz tb rs (.own i) H' .ret env H:=⟨.inr rfl,.inr ⟨t,hr,hg,hf⟩⟩
theorem zdS (l:List TD) (hl:l.length≤1000):ACallM Tryz.prog 134 [.pv (.slc 4 (l.map qU) false)] [] (.own 10) [(10,.mrow 61 4 (l.map qU))]:=by
 refine zC zh Tryz.func134 rfl (by kernel_rfl) Tryz.ntmps134 (by simp) _ rfl (fun gB hw1=>?_)
 repeat' (first|refine zfZ (t:=2) 10 61 4 (by decide) rfl rfl ?_|refine Qk zh rfl rfl rfl rfl rfl rfl rfl (fun bb hbb=>?_)|refine zi8 zh 10 rfl rfl rfl rfl rfl rfl rfl rfl rfl ?_|refine zmP 10 rfl ?_|(refine zL ?_;first|refine Xv zh rfl rfl rfl rfl rfl rfl rfl (by show _ * 56≤_;simp;omega) (by simp;omega) rfl rfl ?_)|refine sA ?_|refine sC (fun _=>?_) (fun _=>?_)|fail)
 ·rename_i h
  rw [hbb h]
  exact zes rfl rfl tH
 ·exact zes rfl rfl tH
theorem zen (l:List Me) (hl:l.length≤1000):ACallM Tryz.prog 136 [.pv (.slc 12 (l.map zG) false)] [] (.own 12) [(12,.mrow 68 12 (l.map zG))]:=by
 refine zC zh Tryz.func136 rfl (by kernel_rfl) Tryz.ntmps136 (by simp) _ rfl (fun gB hw1=>?_)
 repeat' (first|refine zfZ (t:=2) 12 68 12 (by decide) rfl rfl ?_|refine Qk zh rfl rfl rfl rfl rfl rfl rfl (fun bb hbb=>?_)|refine zi8 zh 12 rfl rfl rfl rfl rfl rfl rfl rfl rfl ?_|refine zmP 12 rfl ?_|(refine zL ?_;first|refine Xv zh rfl rfl rfl rfl rfl rfl rfl (by show _ * 168≤_;simp;omega) (by simp;omega) rfl rfl ?_)|refine sA ?_|refine sC (fun _=>?_) (fun _=>?_)|fail)
 ·rename_i h
  rw [hbb h]
  exact zes rfl rfl tH
 ·exact zes rfl rfl tH
theorem zeC (l:List Fd) (hl:l.length≤1000):ACall Tryz.prog 135 [.slc 7 (l.map ZI) false] (.slc 7 (l.map ZI) false):=by
 refine zf zh Tryz.func135 rfl (by kernel_rfl) Tryz.ntmps135 (by simp) _ rfl (fun hw gB hgB=>?_)
 repeat' (first|refine Qk zh rfl rfl rfl rfl rfl rfl rfl (fun bb hbb=>?_)|refine zo rfl (Qh zh rfl rfl rfl rfl rfl) rfl rfl ?_|(refine zL ?_;first|refine zo rfl (ZR zh rfl rfl (.inl rfl) rfl rfl (by show _ * 64≤_;simp;omega) (by simp;omega)) rfl rfl ?_)|refine sA ?_|refine sC (fun _=>?_) (fun _=>?_)|fail)
 ·rename_i h
  have:l=[]:=by have:=hbb h;simpa using this
  subst this
  exact Yl (t:=2) (ps:=[.slc 7 [] false]) rfl (qH 7 false) rfl rfl
 ·exact retq rfl rfl
theorem zez (l:List Int) (hl:l.length≤1000):ACall Tryz.prog 137 [.slc 1 (l.map pi) false] (.slc 1 (l.map pi) false):=by
 refine zf zh Tryz.func137 rfl (by kernel_rfl) Tryz.ntmps137 (by simp) _ rfl (fun hw gB hgB=>?_)
 repeat' (first|refine Qk zh rfl rfl rfl rfl rfl rfl rfl (fun bb hbb=>?_)|refine zo rfl (Qh zh rfl rfl rfl rfl rfl) rfl rfl ?_|(refine zL ?_;first|refine zo rfl (ZR zh rfl rfl (.inl rfl) rfl rfl (by show _ * 8≤_;simp;omega) (by simp;omega)) rfl rfl ?_)|refine sA ?_|refine sC (fun _=>?_) (fun _=>?_)|fail)
 ·rename_i h
  have:l=[]:=by have:=hbb h;simpa using this
  subst this
  exact Yl (t:=2) (ps:=[.slc 1 [] false]) rfl (qH 1 false) rfl rfl
 ·exact retq rfl rfl
theorem zcN (l:List Ins) (hl:l.length≤1000):ACall Tryz.prog 139 [.slc 6 (l.map yR) false] (.slc 6 (l.map yR) false):=by
 refine zf zh Tryz.func139 rfl (by kernel_rfl) Tryz.ntmps139 (by simp) _ rfl (fun hw gB hgB=>?_)
 repeat' (first|refine Qk zh rfl rfl rfl rfl rfl rfl rfl (fun bb hbb=>?_)|refine zo rfl (Qh zh rfl rfl rfl rfl rfl) rfl rfl ?_|(refine zL ?_;first|refine zo rfl (ZR zh rfl rfl (.inl rfl) rfl rfl (by show _ * 48≤_;simp;omega) (by simp;omega)) rfl rfl ?_)|refine sA ?_|refine sC (fun _=>?_) (fun _=>?_)|fail)
 ·rename_i h
  have:l=[]:=by have:=hbb h;simpa using this
  subst this
  exact Yl (t:=2) (ps:=[.slc 6 [] false]) rfl (qH 6 false) rfl rfl
 ·exact retq rfl rfl
theorem zd7 (l:List Cl) (hl:l.length≤1000):ACall Tryz.prog 140 [.slc 10 (l.map ZJ) false] (.slc 10 (l.map ZJ) false):=by
 refine zf zh Tryz.func140 rfl (by kernel_rfl) Tryz.ntmps140 (by simp) _ rfl (fun hw gB hgB=>?_)
 repeat' (first|refine Qk zh rfl rfl rfl rfl rfl rfl rfl (fun bb hbb=>?_)|refine zo rfl (Qh zh rfl rfl rfl rfl rfl) rfl rfl ?_|(refine zL ?_;first|refine zo rfl (ZR zh rfl rfl (.inl rfl) rfl rfl (by show _ * 80≤_;simp;omega) (by simp;omega)) rfl rfl ?_)|refine sA ?_|refine sC (fun _=>?_) (fun _=>?_)|fail)
 ·rename_i h
  have:l=[]:=by have:=hbb h;simpa using this
  subst this
  exact Yl (t:=2) (ps:=[.slc 10 [] false]) rfl (qH 10 false) rfl rfl
 ·exact retq rfl rfl
set_option maxHeartbeats 20000000
theorem zti (g:Img) (hF:Fm g) (m:Me) (ar:List Ty) (arg:Int) (t0:Ty) (l:List Ty) (hl:l.length≤100):XC 162 [] (⟨g,m,ar,⟨8,arg,t0⟩⟩:RC) (Xe g m ⟨8,arg,t0⟩) uV l:=by
 intro u;refine yY zh Tryz.func162 rfl (by kernel_rfl) Tryz.ntmps162 (by simp) _ rfl (fun gB hw1=>?_)
 cases hS1:(qG m.max [kTy 2]) l with
 | error e =>
  have hw:(Xe g m ⟨8,arg,t0⟩) l=.error e:=by simp [Xe,Za,Qb,hS1]
  repeat' (first|refine zD 2 3 rfl rfl rfl ?_|refine yJ ((Vj u ⟨g,m,ar,⟨8,arg,t0⟩⟩ l)) zq rfl rfl rfl tH ((zct ⟨g,m,ar,⟨8,arg,t0⟩⟩ [kTy 2] _ (by omega) (by simp)).bad hS1 u) ?_|(refine shC ?_;first|refine qC (zbm 2) ?_)|refine sK ?_|refine sC (fun _=>?_) (fun _=>?_)|fail)
  exact ZY hw
 | ok p =>
  obtain ⟨⟨⟩,l1⟩:=p
  have hw:(Xe g m ⟨8,arg,t0⟩) l=.ok ((),l1):=by simp [Xe,Za,Qb,hS1]
  repeat' (first|(refine shC ?_;first|refine qC (zbm 2) ?_)|(refine zy ?_;first|(refine qF 0 zq rfl rfl ((zct ⟨g,m,ar,⟨8,arg,t0⟩⟩ [kTy 2] _ (by omega) (by simp)).ok hS1) rfl rfl rfl rfl rfl ?_))|refine sK ?_|refine sC (fun _=>?_) (fun _=>?_)|fail)
  exact WE hw (zcW (.inl rfl) tH)
theorem ztx (g:Img) (hF:Fm g) (m:Me) (ar:List Ty) (arg:Int) (t0:Ty) (l:List Ty) (hl:l.length≤100) (u:Value):QU Tryz.prog 161 [.box 0 0] (Vj u (⟨g,m,ar,⟨46,arg,t0⟩⟩:RC) l) (zuf u (⟨g,m,ar,⟨46,arg,t0⟩⟩:RC) ((QH g m 46) l)):=by
 revert u
 intro u;refine yY zh Tryz.func161 rfl (by kernel_rfl) Tryz.ntmps161 (by simp) _ rfl (fun gB hw1=>?_)
 cases hC1:(m.ret.kind != 1)
 ·skip
  cases hN2:(l.length==0)
  ·have hw:(QH g m 46) l=.error 9:=by simp [QH,Za,Qb,hC1,qN,emptyS,hN2]
   repeat' (first|refine zD 4 6 rfl rfl rfl ?_|refine yJ ([]) zq rfl rfl rfl tH (VE (by simpa using hN2) 9) ?_|refine zo rfl (zS (ps:=(zio m.ret)) zh rfl rfl rfl rfl rfl) rfl rfl ?_|refine AD.step _ _ _ _ _ rfl (zS (ps:=(zio m.ret)) zh rfl rfl rfl rfl rfl) rfl rfl ?_|refine sK ?_|refine sC (fun _=>?_) (fun _=>?_)|fail)
   exact zgN hw
  ·skip
   have hw:(QH g m 46) l=.ok ((),[]):=by simp [QH,Za,Qb,hC1,qN,emptyS,hN2,zft]
   repeat' (first|refine zo rfl (zS (ps:=(zio m.ret)) zh rfl rfl rfl rfl rfl) rfl rfl ?_|refine AD.step _ _ _ _ _ rfl (zS (ps:=(zio m.ret)) zh rfl rfl rfl rfl rfl) rfl rfl ?_|(refine shC ?_;first|refine zo rfl (qJ rfl rfl (VR (by simpa using hN2) 9)) rfl rfl ?_|refine AD.step _ _ _ _ _ rfl (qJ rfl rfl (VR (by simpa using hN2) 9)) rfl rfl ?_)|refine sK ?_|refine sC (fun _=>?_) (fun _=>?_)|fail)
   exact zpr hw (ztc (.inl rfl) tH)
 ·skip
  cases hS2:(QW g (m.ret)) l with
  | error e =>
   have hw:(QH g m 46) l=.error e:=by simp [QH,Za,Qb,hC1,hS2]
   repeat' (first|refine zD 3 6 rfl rfl rfl ?_|refine yJ ((Vj u ⟨g,m,ar,⟨46,arg,t0⟩⟩ l)) zq rfl rfl rfl tH ((zeS ⟨g,m,ar,⟨46,arg,t0⟩⟩ hF (m.ret) _ (by omega)).bad hS2 u) ?_|refine zo rfl (zS (ps:=(zio m.ret)) zh rfl rfl rfl rfl rfl) rfl rfl ?_|refine AD.step _ _ _ _ _ rfl (zS (ps:=(zio m.ret)) zh rfl rfl rfl rfl rfl) rfl rfl ?_|refine sK ?_|refine sC (fun _=>?_) (fun _=>?_)|fail)
   exact zgN hw
  | ok p =>
   obtain ⟨⟨⟩,l2⟩:=p
   have hl2:l2.length≤100:=by have:=zsW hS2;omega
   cases hN3:(l2.length==0)
   ·have hw:(QH g m 46) l=.error 9:=by simp [QH,Za,Qb,hC1,hS2,qN,emptyS,hN3]
    repeat' (first|refine zD 4 6 rfl rfl rfl ?_|refine yJ ([]) zq rfl rfl rfl tH (VE (by simpa using hN3) 9) ?_|refine zo rfl (zS (ps:=(zio m.ret)) zh rfl rfl rfl rfl rfl) rfl rfl ?_|refine AD.step _ _ _ _ _ rfl (zS (ps:=(zio m.ret)) zh rfl rfl rfl rfl rfl) rfl rfl ?_|(refine zy ?_;first|(refine qF 0 zq rfl rfl ((zeS ⟨g,m,ar,⟨46,arg,t0⟩⟩ hF (m.ret) _ (by omega)).ok hS2) rfl rfl rfl rfl rfl ?_))|refine sK ?_|refine sC (fun _=>?_) (fun _=>?_)|fail)
    exact zgN hw
   ·skip
    have hw:(QH g m 46) l=.ok ((),[]):=by simp [QH,Za,Qb,hC1,hS2,qN,emptyS,hN3,zft]
    repeat' (first|refine zo rfl (zS (ps:=(zio m.ret)) zh rfl rfl rfl rfl rfl) rfl rfl ?_|refine AD.step _ _ _ _ _ rfl (zS (ps:=(zio m.ret)) zh rfl rfl rfl rfl rfl) rfl rfl ?_|(refine shC ?_;first|refine zo rfl (qJ rfl rfl (VR (by simpa using hN3) 9)) rfl rfl ?_|refine AD.step _ _ _ _ _ rfl (qJ rfl rfl (VR (by simpa using hN3) 9)) rfl rfl ?_)|(refine zy ?_;first|(refine qF 0 zq rfl rfl ((zeS ⟨g,m,ar,⟨46,arg,t0⟩⟩ hF (m.ret) _ (by omega)).ok hS2) rfl rfl rfl rfl rfl ?_))|refine sK ?_|refine sC (fun _=>?_) (fun _=>?_)|fail)
    exact zpr hw (ztc (.inl rfl) tH)
abbrev zt6:PV:=.agg [.base (.slice none 0 0),.base (.slice none 0 0),.base (.slice none 0 0),pi 0]
abbrev oB (g:Img):HEnv:=[(1,.cell (.pv zt6)),(0,.cell (.pv (zx g)))]
abbrev mrT (g:Img):HE:=.mrow 61 4 (g.types.map qU)
abbrev mrM (g:Img):HE:=.mrow 68 12 (g.methods.map zG)
abbrev oHs (g:Img):Nat→HEnv:=fun p=>match p with
 | 0=>oB g
 | 1=>(10,mrT g)::oB g
 | 2=>(10,mrT g)::oB g
 | _=>(12,mrM g)::(10,mrT g)::oB g
theorem zee (g:Img):∀ q p,q≤p→p≤3→yQ (oHs g q) (oHs g p)=true:=by
 intro q p h1 h2
 have hp:p=0∨p=1∨p=2∨p=3:=by omega
 have hq:q=0∨q=1∨q=2∨q=3:=by omega
 rcases hp with rfl|rfl|rfl|rfl <;> rcases hq with rfl|rfl|rfl|rfl <;> first|rfl|omega
theorem zm5 (g:Img) {gB:Base}:∀ p,p≤3→∀ K ρ w,FS gB K ρ (oHs g p) w→FS gB K ρ (oB g) w:=by
 intro p hp K ρ w h
 have hp:p=0∨p=1∨p=2∨p=3:=by omega
 rcases hp with rfl|rfl|rfl|rfl
 ·exact h
 ·exact h.narrow (e:=[]) tH
 ·exact h.narrow (e:=[]) tH
 ·exact h.narrow (e:=[]) tH
abbrev oL (g:Img):HEnv:=[(0,.cell (.agg [.own 10,.pv (.slc 7 (g.fields.map ZI) false),.own 12,.pv (pi g.entry)])),(1,.cell (.pv zt6)),(10,mrT g),(12,mrM g)]
abbrev oT (g:Img):HEnv:=[(0,.cell (.agg [.own 10,.pv (.slc 7 (g.fields.map ZI) false),.own 12,.pv (pi g.entry)])),(1,.cell (.pv zt6)),(10,mrT g),(12,.dead)]
abbrev oR (g:Img) (A:List PV):HEnv:=[(12,.mrow 68 12 A),(0,.cell (.agg [.own 10,.pv (.slc 7 (g.fields.map ZI) false),.own 12,.pv (pi g.entry)])),(1,.cell (.pv zt6)),(10,mrT g)]
structure OwnOk (g:Img):Prop where
 t:g.types.length≤1000
 f:g.fields.length≤1000
 m:g.methods.length≤1000
 tf:∀ td∈g.types,td.faces.length≤1000
 mm:∀ m∈g.methods,m.params.length≤1000∧m.locals.length≤1000∧m.code.length≤1000∧m.clauses.length≤1000
theorem Zr {α:Type} {l:List α} {k:Nat} {x:α} (h:l[k]?=some x):l.set k x=l:=by
 obtain ⟨h1,h2⟩:=List.getElem?_eq_some_iff.1 h
 rw [←h2];exact List.set_getElem_self h1
set_option maxHeartbeats 8000000 in
theorem zqO (g:Img) (hg:OwnOk g):ACall Tryz.prog 67 [zx g] (zx g):=by
 obtain ⟨ht,hf,hm,htf,hmm⟩:=hg
 refine zf zh Tryz.func67 rfl (by kernel_rfl) Tryz.ntmps67 (by simp) _ rfl (fun hw gB hgB=>?_)
 repeat' (first|refine zaT 15 10 [2,5,8] (oHs g) (oHs g) (oB g) none rfl (by kernel_rfl) (by kernel_rfl) (by kernel_rfl) (by kernel_rfl) (by kernel_rfl) (by kernel_rfl) rfl (zm5 g) rfl (zee g) (fun q h=>zee g q 3 h (Nat.le_refl 3)) tH rfl (fun v hv=>by cases hv) ?_|refine qR 2 [2,5] (.own 10) rfl rfl rfl rfl rfl ?_|refine qR 2 [2] (.pv (.slc 7 (g.fields.map ZI) false)) rfl rfl rfl rfl rfl ?_|refine qR 2 [] (.own 12) rfl rfl rfl rfl rfl ?_|refine ZG ?_|refine ⟨⟨rfl,YW [] [(10,mrT g)] (oB g) [] zq rfl rfl (fun _ _ h=>h) rfl rfl rfl rfl (fun us=>zdS _ ht),.inr (by kernel_rfl)⟩,?_⟩|refine ⟨⟨rfl,zf6 rfl rfl (fun _ _ _ h=>h.narrow (e:=[]) tH) (zeC _ hf),.inl rfl⟩,?_⟩|refine ⟨⟨rfl,YW [] [(12,mrM g)] ((10,mrT g)::oB g) [] zq rfl rfl (fun _ _ h=>h) rfl rfl rfl rfl (fun us=>zen _ hm),.inr (by kernel_rfl)⟩,?_⟩|intro _|refine YE ?_|refine sM ?_|(refine Zb ?_;first|refine Yt 0 rfl rfl rfl rfl rfl rfl ?_)|refine sK ?_|refine sC (fun _=>?_) (fun _=>?_)|fail)
 refine zB (fun k:Nat=>[(1,.box 0 0),(2,.box 1 0),(20,.pv (pi g.types.length)),(21,.pv (pi k))]) (fun _=>oL g) (fun k=>k≤g.types.length) (fun k=>g.types.length - k) 0 (by omega) (by repeat (first|exact yu|refine zY rfl ?_|(refine qK rfl ?_ ?_;· simp))) tH ?_
 intro k hk
 by_cases hlt:k < g.types.length
 ·have hp:(g.types.map qU)[k]?=some (qU g.types[k]):=by simp [hlt]
  have hkl:k < (g.types.map qU).length:=by simpa using hlt
  have hfc:=htf _ (List.getElem_mem hlt)
  repeat' (first|refine yG 13 10 rfl (by kernel_rfl) (by kernel_rfl) (by kernel_rfl) (by kernel_rfl) (by kernel_rfl) ?_|refine sM ?_|refine zo rfl (zN (k:=k) (j:=3) zh rfl rfl rfl rfl hp rfl) rfl rfl ?_|refine AD.step _ _ _ _ _ rfl (zN (k:=k) (j:=3) zh rfl rfl rfl rfl hp rfl) rfl rfl ?_|(refine shC ?_;first|refine qC (zez _ hfc) ?_)|(refine shX ?_;first|refine zo rfl (zK (k:=k) zh rfl rfl rfl rfl rfl rfl rfl rfl hkl) rfl rfl ?_|refine AD.step _ _ _ _ _ rfl (zK (k:=k) zh rfl rfl rfl rfl rfl rfl rfl rfl hkl) rfl rfl ?_)|(refine qA ?_;first|refine ZL (k:=k) (j:=3) zh rfl rfl rfl rfl rfl hp rfl rfl rfl rfl rfl ?_)|refine sK ?_|refine sC (fun _=>?_) (fun _=>?_)|fail)
  exact ⟨k + 1,hlt,tD,tS,⟨zi rfl (zi rfl (qE rfl (Zr hp) (zi rfl zk))),rfl⟩⟩
 ·repeat' (first|refine sM ?_|refine sK ?_|refine sC (fun _=>?_) (fun _=>?_)|fail)
  refine zB (fun k:Nat=>[(1,.box 0 0),(2,.box 1 0),(39,.pv (pi g.methods.length)),(40,.pv (pi k))]) (fun _=>oL g) (fun k=>k≤g.methods.length) (fun k=>g.methods.length - k) 0 (by omega) (by repeat (first|exact yu|refine zY rfl ?_|(refine qK rfl ?_ ?_;· simp))) tH ?_
  clear hlt hk
  clear k
  intro k hk
  by_cases hlt:k < g.methods.length
  ·have hpA:(g.methods.map zG)[k]?=some (zG g.methods[k]):=by simp [hlt]
   have hkl:k < (g.methods.map zG).length:=by simpa using hlt
   have hpB:((g.methods.map zG).set k (zG g.methods[k]))[k]?=some (zG g.methods[k]):=by rw [Zr hpA];exact hpA
   have hpC:(((g.methods.map zG).set k (zG g.methods[k])).set k (zG g.methods[k]))[k]?=some (zG g.methods[k]):=by rw [Zr hpA];exact hpB
   have hpD:((((g.methods.map zG).set k (zG g.methods[k])).set k (zG g.methods[k])).set k (zG g.methods[k]))[k]?=some (zG g.methods[k]):=by rw [Zr hpA];exact hpC
   have hpE:(((((g.methods.map zG).set k (zG g.methods[k])).set k (zG g.methods[k])).set k (zG g.methods[k])).set k (zG g.methods[k]))=g.methods.map zG:=by rw [Zr hpA,Zr hpA,Zr hpA,Zr hpA]
   obtain ⟨q1,q2,q3,q4⟩:=hmm _ (List.getElem_mem hlt)
   repeat' (first|refine ZV (id:=11) 18 18 [14,17] [[52,57]] (mkL [oL g,(12,(.mrow 68 12 ((g.methods.map zG).set k (zG g.methods[k]))))::oL g,(12,(.mrow 68 12 (((g.methods.map zG).set k (zG g.methods[k])).set k (zG g.methods[k]))))::(12,(.mrow 68 12 ((g.methods.map zG).set k (zG g.methods[k]))))::oL g]) (fun _=>oT g) (oT g) none rfl (by kernel_rfl) (by kernel_rfl) (by kernel_rfl) (by kernel_rfl) (by kernel_rfl) (by kernel_rfl) (by kernel_rfl) (fun p hp=>by obtain rfl:p=0:=(by simp at hp;omega);exact ⟨rfl,rfl⟩) rfl (WR (i:=12) rfl ⟨tH,tH,tH,trivial⟩) rfl (fun _ _ _ _=>rfl) (fun q h=>by have:q=0∨q=1∨q=2:=(by simp at h;omega);rcases this with rfl|rfl|rfl <;> rfl) tH rfl (fun v hv=>by cases hv) ?_|refine ZV (id:=12) 18 18 [14,17] [[68,73]] (mkL [oR g (((g.methods.map zG).set k (zG g.methods[k])).set k (zG g.methods[k])),(12,(.mrow 68 12 ((((g.methods.map zG).set k (zG g.methods[k])).set k (zG g.methods[k])).set k (zG g.methods[k]))))::oR g (((g.methods.map zG).set k (zG g.methods[k])).set k (zG g.methods[k])),(12,(.mrow 68 12 (((((g.methods.map zG).set k (zG g.methods[k])).set k (zG g.methods[k])).set k (zG g.methods[k])).set k (zG g.methods[k]))))::(12,(.mrow 68 12 ((((g.methods.map zG).set k (zG g.methods[k])).set k (zG g.methods[k])).set k (zG g.methods[k]))))::oR g (((g.methods.map zG).set k (zG g.methods[k])).set k (zG g.methods[k]))]) (fun _=>oT g) (oT g) none rfl (by kernel_rfl) (by kernel_rfl) (by kernel_rfl) (by kernel_rfl) (by kernel_rfl) (by kernel_rfl) (by kernel_rfl) (fun p hp=>by obtain rfl:p=0:=(by simp at hp;omega);exact ⟨rfl,rfl⟩) rfl (WR (i:=12) rfl ⟨tH,tH,tH,trivial⟩) rfl (fun _ _ _ _=>rfl) (fun q h=>by have:q=0∨q=1∨q=2:=(by simp at h;omega);rcases this with rfl|rfl|rfl <;> rfl) tH rfl (fun v hv=>by cases hv) ?_|refine WM 0 1 [8,11] rfl rfl (by kernel_rfl) ?_|refine WM 0 1 [3,6] rfl rfl (by kernel_rfl) ?_|refine YL 5 [9,12] rfl rfl ?_|refine YL 4 [4,7] rfl rfl ?_|refine YL 3 [0,3] rfl rfl ?_|refine YL 2 [0] rfl rfl ?_|refine Yk [2] (.pv (.tup [])) rfl rfl rfl ?_|refine Yk [] (.pv (.tup [])) rfl rfl rfl ?_|refine ZG ?_|intro _|refine YE ?_|refine ⟨⟨rfl,ql (k:=k) (j:=3) zh rfl rfl rfl rfl hpA rfl rfl rfl rfl,.inl rfl⟩,?_⟩|refine ⟨⟨rfl,ql (k:=k) (j:=8) zh rfl rfl rfl rfl hpB rfl rfl rfl rfl,.inl rfl⟩,?_⟩|refine ⟨⟨rfl,ql (k:=k) (j:=10) zh rfl rfl rfl rfl hpC rfl rfl rfl rfl,.inl rfl⟩,?_⟩|refine ⟨⟨rfl,ql (k:=k) (j:=11) zh rfl rfl rfl rfl hpD rfl rfl rfl rfl,.inl rfl⟩,?_⟩|refine sM ?_|refine zo rfl (zN (k:=k) (j:=3) zh rfl rfl rfl rfl hpA rfl) rfl rfl ?_|refine AD.step _ _ _ _ _ rfl (zN (k:=k) (j:=3) zh rfl rfl rfl rfl hpA rfl) rfl rfl ?_|refine zo rfl (zN (k:=k) (j:=8) zh rfl rfl rfl rfl hpA rfl) rfl rfl ?_|refine AD.step _ _ _ _ _ rfl (zN (k:=k) (j:=8) zh rfl rfl rfl rfl hpA rfl) rfl rfl ?_|refine zo rfl (zN (k:=k) (j:=10) zh rfl rfl rfl rfl hpC rfl) rfl rfl ?_|refine AD.step _ _ _ _ _ rfl (zN (k:=k) (j:=10) zh rfl rfl rfl rfl hpC rfl) rfl rfl ?_|refine zo rfl (zN (k:=k) (j:=11) zh rfl rfl rfl rfl hpC rfl) rfl rfl ?_|refine AD.step _ _ _ _ _ rfl (zN (k:=k) (j:=11) zh rfl rfl rfl rfl hpC rfl) rfl rfl ?_|(refine shC ?_;first|refine qC (Xl _ q1) ?_|refine qC (Xl _ q2) ?_|refine qC (zcN _ q3) ?_|refine qC (zd7 _ q4) ?_)|(refine shX ?_;first|refine zo rfl (zK (k:=k) zh rfl rfl rfl rfl rfl rfl rfl rfl hkl) rfl rfl ?_|refine AD.step _ _ _ _ _ rfl (zK (k:=k) zh rfl rfl rfl rfl rfl rfl rfl rfl hkl) rfl rfl ?_)|refine sK ?_|refine sC (fun _=>?_) (fun _=>?_)|fail)
   exact ⟨k + 1,hlt,tD,tS,⟨zi rfl (zi rfl (zi rfl (qE rfl hpE zk))),rfl⟩⟩
  ·repeat' (first|refine Qx 10 rfl ?_|refine Qx 12 rfl ?_|refine sK ?_|refine sC (fun _=>?_) (fun _=>?_)|fail)
   exact retq rfl rfl
set_option maxHeartbeats 20000000
structure XOk (g:Img) (x:Ins):Prop where
 lo:1≤x.op
 hi:x.op≤75
 v:2≤x.op→x.op≤7→0≤x.arg
 m:(x.op=43∨x.op=44∨x.op=45∨x.op=67)→0≤x.arg∧x.arg.toNat < g.methods.length∧(mAt g x.arg).params.length≤100∧0≤(mAt g x.arg).owner∧(mAt g x.arg).owner.toNat < g.types.length
 f:48≤x.op→x.op≤53→0≤x.arg∧x.arg.toNat < g.fields.length
 a:57≤x.op→x.op≤61→0≤x.t.dims∧x.t.dims≤100
 p:∀ i:Int,0≤i→i.toNat < g.methods.length→(mAt g i).params.length≤100
 d:x.op=68→x.t.kind=5→x.t.dims=0→YH g x.t.index=3→methodsOf g x.t.index≠[]
def zpM {α:Type} (act:SM α):Prop:=∀ l p,act l=.ok p→p.2=[]
theorem WS {α β:Type} {x:SM α} {f:α→SM β} (h:∀ a,zpM (f a)):zpM (x >>= f):=fun l p hp=>by
 rw [Za] at hp
 split at hp
 ·cases hp
 ·exact h _ _ _ hp
theorem zba:zpM zft:=fun l p h=>by cases h;rfl
theorem zoR (g:Img) (m:Me) (op:Int):zpM (QH g m op):=by
 unfold QH
 split
 ·exact WS fun _=>WS fun _=>zba
 ·split
  ·exact WS fun _=>WS fun _=>zba
  ·split
   ·exact WS fun _=>WS fun _=>zba
   ·exact zba
theorem zqZ {g:Img} {m:Me} {op:Int} {l:List Ty} {p:Unit × List Ty} (h:QH g m op l=.ok p):p.2=[]:=zoR g m op l p h
def zgo (x:Ins):Prop:=x.op=8∨x.op=13∨x.op=46
theorem zp0 (c:RC) (hF:Fm c.g) (l:List Ty) (hl:l.length≤100) (h:c.x.op=13):XC 153 [] c (zaN c.g c.m c.x.op) uV l:=by
 obtain ⟨g,m,ar,op,arg,t0⟩:=c
 exact ztZ g hF m ar arg t0 l hl op (.inl h)
theorem zmC (c:RC) (hF:Fm c.g) (l:List Ty) (hl:l.length≤100) (h:c.x.op=8):XC 162 [] c (Xe c.g c.m c.x) uV l:=by
 obtain ⟨g,m,ar,op,arg,t0⟩:=c
 simp only at h;subst h
 exact zti g hF m ar arg t0 l hl
theorem zqG (c:RC) (hF:Fm c.g) (l:List Ty) (hl:l.length≤100) (h:c.x.op=46):XC 161 [] c (QH c.g c.m c.x.op) uV l:=by
 obtain ⟨g,m,ar,op,arg,t0⟩:=c
 simp only at h;subst h
 exact ztS (fun _ h=>zqZ h) (ztx g hF m ar arg t0 l hl)
theorem zt9 (c:RC) (hF:Fm c.g) (l:List Ty) (hl:l.length≤100) (h:c.x.op=13):XC 79 [] c (doS c.g c.ar c.m c.x) uV l:=by
 intro u;refine yY zh Tryz.func79 rfl (by kernel_rfl) Tryz.ntmps79 (by simp) _ rfl (fun gB hw1=>?_)
 have cv:=zp0 c hF l hl h
 have hs:doS c.g c.ar c.m c.x l=(zaN c.g c.m c.x.op) l:=by
  unfold doS
  first
   | (rw [if_neg (by simp;omega)];rw [if_pos (by simp;omega)])
 cases hS:(zaN c.g c.m c.x.op) l with
 | error e =>
  repeat' (first|refine zD 5 1 rfl rfl rfl ?_|refine yJ ((Vj u c l)) zq rfl rfl rfl tH (cv.bad hS u) ?_|refine sK ?_|refine sC (fun _=>?_) (fun _=>?_)|fail)
  exact ZY (hs.trans hS)
 | ok p =>
  obtain ⟨⟨⟩,l1⟩:=p
  repeat' (first|(refine zy ?_;first|(refine qF 0 zq rfl rfl (cv.ok hS) rfl rfl rfl rfl rfl ?_))|refine sK ?_|refine sC (fun _=>?_) (fun _=>?_)|fail)
  exact WE (hs.trans hS) (zcW (.inl rfl) tH)
theorem zug (c:RC) (hF:Fm c.g) (l:List Ty) (hl:l.length≤100) (h:c.x.op=46):XC 79 [] c (doS c.g c.ar c.m c.x) uV l:=by
 intro u;refine yY zh Tryz.func79 rfl (by kernel_rfl) Tryz.ntmps79 (by simp) _ rfl (fun gB hw1=>?_)
 have cv:=zqG c hF l hl h
 all_goals
  skip
  have hs:doS c.g c.ar c.m c.x l=(QH c.g c.m c.x.op) l:=by
   unfold doS
   first
    | (rw [if_neg (by simp;omega)];rw [if_neg (by simp;omega)];rw [if_neg (by simp;omega)];rw [if_neg (by simp;omega)];rw [if_neg (by simp;omega)];rw [if_neg (by simp;omega)];rw [if_neg (by simp;omega)];rw [if_neg (by simp;omega)];rw [if_neg (by simp;omega)];rw [if_pos (by simp;omega)])
  cases hS:(QH c.g c.m c.x.op) l with
  | error e =>
   repeat' (first|refine zD 21 1 rfl rfl rfl ?_|refine yJ ((Vj u c l)) zq rfl rfl rfl tH (cv.bad hS u) ?_|refine sK ?_|refine sC (fun _=>?_) (fun _=>?_)|fail)
   exact ZY (hs.trans hS)
  | ok p =>
   obtain ⟨⟨⟩,l1⟩:=p
   repeat' (first|(refine zy ?_;first|(refine qF 0 zq rfl rfl (cv.ok hS) rfl rfl rfl rfl rfl ?_))|refine sK ?_|refine sC (fun _=>?_) (fun _=>?_)|fail)
   exact WE (hs.trans hS) (zcW (.inl rfl) tH)
theorem zqj (c:RC) (hF:Fm c.g) (l:List Ty) (hl:l.length≤100) (h:c.x.op=8):XC 79 [] c (doS c.g c.ar c.m c.x) uV l:=by
 intro u;refine yY zh Tryz.func79 rfl (by kernel_rfl) Tryz.ntmps79 (by simp) _ rfl (fun gB hw1=>?_)
 have cv:=zmC c hF l hl h
 have hs:doS c.g c.ar c.m c.x l=Xe c.g c.m c.x l:=by
  unfold doS
  all_goals (rw [if_neg (by simp [h])];rw [if_neg (by simp [h])];rw [if_neg (by simp [h])];rw [if_neg (by simp [h])];rw [if_neg (by simp [h])];rw [if_neg (by simp [h])];rw [if_neg (by simp [h])];rw [if_neg (by simp [h])];rw [if_neg (by simp [h])];rw [if_neg (by simp [h])])
 cases hS:(Xe c.g c.m c.x) l with
 | error e =>
  all_goals
   repeat' (first|refine zD 1 1 rfl rfl rfl ?_|refine yJ ((Vj u c l)) zq rfl rfl rfl tH (cv.bad hS u) ?_|refine sK ?_|refine sC (fun _=>?_) (fun _=>?_)|fail)
   exact ZY (hs.trans hS)
 | ok p =>
  obtain ⟨⟨⟩,l1⟩:=p
  all_goals
   repeat' (first|(refine zy ?_;first|(refine qF 0 zq rfl rfl (cv.ok hS) rfl rfl rfl rfl rfl ?_))|refine sK ?_|refine sC (fun _=>?_) (fun _=>?_)|fail)
   exact WE (hs.trans hS) (zcW (.inl rfl) tH)
theorem zui (c:RC) (hF:Fm c.g) (hL:zgo c.x) (l:List Ty) (hl:l.length≤100):XC 79 [] c (doS c.g c.ar c.m c.x) uV l:=by
 rcases hL with h|h|h
 ·exact zqj c hF l hl h
 ·exact zt9 c hF l hl h
 ·exact zug c hF l hl h
set_option maxHeartbeats 20000000
theorem Ve {P:Program} {t xt:TypeId} {k0:IntKind} {v:Value} {w:World} (hu:P.underlying t=some (.int k0)):(Instr.typeAssert (.iface t v) xt t true).run P w=.ok (.tuple #[v,.bool true]) w:=by
 simp [Instr.typeAssert,run_underlying hu]
theorem XZ {P:Program} {t xt:TypeId} {k0:IntKind} {z:Value} {w:World} (hu:P.underlying t=some (.int k0)) (hz:(zeroValue t).run P w=.ok z w):(Instr.typeAssert .nilIface xt t true).run P w=.ok (.tuple #[z,.bool false]) w:=by
 simp [Instr.typeAssert,run_underlying hu,hz]
abbrev rbH (o e:PV) (p1 p2:Value):HEnv:=[(1,.cell (.pv o)),(2,.cell (.pv e)),(2001,.pin (.box 1 0) p1),(2002,.pin (.box 2 0) p2)]
theorem zql (p1 p2:Value) (e:Int):DCall Tryz.prog 77 (rbH (.base (.slice none 0 0)) (pi 0) p1 p2) [.box 1 0,.box 2 0] (.panicking [{ v:=flt e,recovered:=false }]) (.panicking [{ v:=flt e,recovered:=true }]) (rbH (.base (.slice none 0 0)) (pi e) p1 p2):=by
 refine QE Tryz.func77 rfl (by kernel_rfl) rfl (fun g K ρ w vs hds hf hv c₀ cs hu=>?_)
 obtain ⟨v1,v2,rfl⟩:=zl7 hv.1
 have r1:=hv.2 0 _ v1 rfl rfl
 have r2:=hv.2 1 _ v2 rfl rfl
 refine wpS_seq ?_
 refine wpS_region ?_
 have h1:=Ve (P:=Tryz.prog) (xt:=20) (v:=.int .i64 e) (w:=w) Tryz.underlying189
 simp [wpOpsS,go_sem,recoverD,hu,Tryz.ntmps77,Exit.thenS,flt,h1]
 refine zeV (n:=11) (g:=g) (env:=[(0,.box 1 0),(1,.box 2 0),(2,.pv (pi e)),(3,.pv (pb true))]) (H:=rbH (.base (.slice none 0 0)) (pi 0) p1 p2) (QQ:=zqR (rbH (.base (.slice none 0 0)) (pi e) p1 p2)) ?_
  ⟨by simp,by rw [hds],K,ρ,hf,ZB (v:=v1) (by simp) r1 (ZB (v:=v2) (by simp) r2 (ZB (v:=.int .i64 e) (by simp) (.pv _ _ (.base _ rfl)) (ZB (v:=.bool true) (by simp) (.pv _ _ (.base _ rfl)) zaC)))⟩
  (fun ex a' w' env' H' hi hq=>⟨hq.1,hi.defers.trans hds,rfl,zfd hi hq.2⟩)
 repeat' (first|refine sK ?_|refine sC (fun _=>?_) (fun _=>?_)|fail)
 exact ⟨.inl rfl,tH⟩
theorem znP (o e:PV) (p1 p2:Value):DCall Tryz.prog 77 (rbH o e p1 p2) [.box 1 0,.box 2 0] .returning .returning (rbH o e p1 p2):=by
 refine QE Tryz.func77 rfl (by kernel_rfl) rfl (fun g K ρ w vs hds hf hv c₀ cs hu=>?_)
 obtain ⟨v1,v2,rfl⟩:=zl7 hv.1
 refine wpS_seq ?_
 refine wpS_region ?_
 have hz:=zhc (P:=Tryz.prog) (w:=w) (z:=.int .i64 0) zh (ty:=189) rfl
 have h1:=XZ (P:=Tryz.prog) (xt:=20) (w:=w) Tryz.underlying189 hz
 simp [wpOpsS,go_sem,recoverD,hu,Tryz.ntmps77,Exit.thenS,h1]
 refine zeV (n:=11) (g:=g) (env:=[(3,.pv (pb false))]) (H:=rbH o e p1 p2) (QQ:=zqR (rbH o e p1 p2)) ?_
  ⟨by simp,by rw [hds],K,ρ,hf,ZB (v:=.bool false) (by simp) (.pv _ _ (.base _ rfl)) zaC⟩
  (fun ex a' w' env' H' hi hq=>⟨hq.1,hi.defers.trans hds,by cases c₀;simp_all,zfd hi hq.2⟩)
 repeat' (first|refine sK ?_|refine sC (fun _=>?_) (fun _=>?_)|fail)
 exact ⟨.inl rfl,tH⟩
set_option maxHeartbeats 8000000 in
theorem zqm (g:Img) (hg:OwnOk g):ACall Tryz.prog 109 [zx g] (zx g):=by
 obtain ⟨ht,hf,hm,htf,hmm⟩:=hg
 refine zf zh Tryz.func109 rfl (by kernel_rfl) Tryz.ntmps109 (by simp) _ rfl (fun hw gB hgB=>?_)
 repeat' (first|refine zaT 15 10 [2,5,8] (oHs g) (oHs g) (oB g) none rfl (by kernel_rfl) (by kernel_rfl) (by kernel_rfl) (by kernel_rfl) (by kernel_rfl) (by kernel_rfl) rfl (zm5 g) rfl (zee g) (fun q h=>zee g q 3 h (Nat.le_refl 3)) tH rfl (fun v hv=>by cases hv) ?_|refine qR 2 [2,5] (.own 10) rfl rfl rfl rfl rfl ?_|refine qR 2 [2] (.pv (.slc 7 (g.fields.map ZI) false)) rfl rfl rfl rfl rfl ?_|refine qR 2 [] (.own 12) rfl rfl rfl rfl rfl ?_|refine ZG ?_|refine ⟨⟨rfl,YW [] [(10,mrT g)] (oB g) [] zq rfl rfl (fun _ _ h=>h) rfl rfl rfl rfl (fun us=>zdS _ ht),.inr (by kernel_rfl)⟩,?_⟩|refine ⟨⟨rfl,zf6 rfl rfl (fun _ _ _ h=>h.narrow (e:=[]) tH) (zeC _ hf),.inl rfl⟩,?_⟩|refine ⟨⟨rfl,YW [] [(12,mrM g)] ((10,mrT g)::oB g) [] zq rfl rfl (fun _ _ h=>h) rfl rfl rfl rfl (fun us=>zen _ hm),.inr (by kernel_rfl)⟩,?_⟩|intro _|refine YE ?_|refine sM ?_|(refine Zb ?_;first|refine Yt 0 rfl rfl rfl rfl rfl rfl ?_)|refine sK ?_|refine sC (fun _=>?_) (fun _=>?_)|fail)
 refine zB (fun k:Nat=>[(1,.box 0 0),(2,.box 1 0),(20,.pv (pi g.types.length)),(21,.pv (pi k))]) (fun _=>oL g) (fun k=>k≤g.types.length) (fun k=>g.types.length - k) 0 (by omega) (by repeat (first|exact yu|refine zY rfl ?_|(refine qK rfl ?_ ?_;· simp))) tH ?_
 intro k hk
 by_cases hlt:k < g.types.length
 ·have hp:(g.types.map qU)[k]?=some (qU g.types[k]):=by simp [hlt]
  have hkl:k < (g.types.map qU).length:=by simpa using hlt
  have hfc:=htf _ (List.getElem_mem hlt)
  repeat' (first|refine yG 13 10 rfl (by kernel_rfl) (by kernel_rfl) (by kernel_rfl) (by kernel_rfl) (by kernel_rfl) ?_|refine sM ?_|refine zo rfl (zN (k:=k) (j:=3) zh rfl rfl rfl rfl hp rfl) rfl rfl ?_|refine AD.step _ _ _ _ _ rfl (zN (k:=k) (j:=3) zh rfl rfl rfl rfl hp rfl) rfl rfl ?_|(refine shC ?_;first|refine qC (zez _ hfc) ?_)|(refine shX ?_;first|refine zo rfl (zK (k:=k) zh rfl rfl rfl rfl rfl rfl rfl rfl hkl) rfl rfl ?_|refine AD.step _ _ _ _ _ rfl (zK (k:=k) zh rfl rfl rfl rfl rfl rfl rfl rfl hkl) rfl rfl ?_)|(refine qA ?_;first|refine ZL (k:=k) (j:=3) zh rfl rfl rfl rfl rfl hp rfl rfl rfl rfl rfl ?_)|refine sK ?_|refine sC (fun _=>?_) (fun _=>?_)|fail)
  exact ⟨k + 1,hlt,tD,tS,⟨zi rfl (zi rfl (qE rfl (Zr hp) (zi rfl zk))),rfl⟩⟩
 ·repeat' (first|refine sM ?_|refine sK ?_|refine sC (fun _=>?_) (fun _=>?_)|fail)
  refine zB (fun k:Nat=>[(1,.box 0 0),(2,.box 1 0),(39,.pv (pi g.methods.length)),(40,.pv (pi k))]) (fun _=>oL g) (fun k=>k≤g.methods.length) (fun k=>g.methods.length - k) 0 (by omega) (by repeat (first|exact yu|refine zY rfl ?_|(refine qK rfl ?_ ?_;· simp))) tH ?_
  clear hlt hk
  clear k
  intro k hk
  by_cases hlt:k < g.methods.length
  ·have hpA:(g.methods.map zG)[k]?=some (zG g.methods[k]):=by simp [hlt]
   have hkl:k < (g.methods.map zG).length:=by simpa using hlt
   have hpB:((g.methods.map zG).set k (zG g.methods[k]))[k]?=some (zG g.methods[k]):=by rw [Zr hpA];exact hpA
   have hpC:(((g.methods.map zG).set k (zG g.methods[k])).set k (zG g.methods[k]))[k]?=some (zG g.methods[k]):=by rw [Zr hpA];exact hpB
   have hpD:((((g.methods.map zG).set k (zG g.methods[k])).set k (zG g.methods[k])).set k (zG g.methods[k]))[k]?=some (zG g.methods[k]):=by rw [Zr hpA];exact hpC
   have hpE:(((((g.methods.map zG).set k (zG g.methods[k])).set k (zG g.methods[k])).set k (zG g.methods[k])).set k (zG g.methods[k]))=g.methods.map zG:=by rw [Zr hpA,Zr hpA,Zr hpA,Zr hpA]
   obtain ⟨q1,q2,q3,q4⟩:=hmm _ (List.getElem_mem hlt)
   repeat' (first|refine ZV (id:=11) 18 18 [14,17] [[52,57]] (mkL [oL g,(12,(.mrow 68 12 ((g.methods.map zG).set k (zG g.methods[k]))))::oL g,(12,(.mrow 68 12 (((g.methods.map zG).set k (zG g.methods[k])).set k (zG g.methods[k]))))::(12,(.mrow 68 12 ((g.methods.map zG).set k (zG g.methods[k]))))::oL g]) (fun _=>oT g) (oT g) none rfl (by kernel_rfl) (by kernel_rfl) (by kernel_rfl) (by kernel_rfl) (by kernel_rfl) (by kernel_rfl) (by kernel_rfl) (fun p hp=>by obtain rfl:p=0:=(by simp at hp;omega);exact ⟨rfl,rfl⟩) rfl (WR (i:=12) rfl ⟨tH,tH,tH,trivial⟩) rfl (fun _ _ _ _=>rfl) (fun q h=>by have:q=0∨q=1∨q=2:=(by simp at h;omega);rcases this with rfl|rfl|rfl <;> rfl) tH rfl (fun v hv=>by cases hv) ?_|refine ZV (id:=12) 18 18 [14,17] [[68,73]] (mkL [oR g (((g.methods.map zG).set k (zG g.methods[k])).set k (zG g.methods[k])),(12,(.mrow 68 12 ((((g.methods.map zG).set k (zG g.methods[k])).set k (zG g.methods[k])).set k (zG g.methods[k]))))::oR g (((g.methods.map zG).set k (zG g.methods[k])).set k (zG g.methods[k])),(12,(.mrow 68 12 (((((g.methods.map zG).set k (zG g.methods[k])).set k (zG g.methods[k])).set k (zG g.methods[k])).set k (zG g.methods[k]))))::(12,(.mrow 68 12 ((((g.methods.map zG).set k (zG g.methods[k])).set k (zG g.methods[k])).set k (zG g.methods[k]))))::oR g (((g.methods.map zG).set k (zG g.methods[k])).set k (zG g.methods[k]))]) (fun _=>oT g) (oT g) none rfl (by kernel_rfl) (by kernel_rfl) (by kernel_rfl) (by kernel_rfl) (by kernel_rfl) (by kernel_rfl) (by kernel_rfl) (fun p hp=>by obtain rfl:p=0:=(by simp at hp;omega);exact ⟨rfl,rfl⟩) rfl (WR (i:=12) rfl ⟨tH,tH,tH,trivial⟩) rfl (fun _ _ _ _=>rfl) (fun q h=>by have:q=0∨q=1∨q=2:=(by simp at h;omega);rcases this with rfl|rfl|rfl <;> rfl) tH rfl (fun v hv=>by cases hv) ?_|refine WM 0 1 [8,11] rfl rfl (by kernel_rfl) ?_|refine WM 0 1 [3,6] rfl rfl (by kernel_rfl) ?_|refine YL 5 [9,12] rfl rfl ?_|refine YL 4 [4,7] rfl rfl ?_|refine YL 3 [0,3] rfl rfl ?_|refine YL 2 [0] rfl rfl ?_|refine Yk [2] (.pv (.tup [])) rfl rfl rfl ?_|refine Yk [] (.pv (.tup [])) rfl rfl rfl ?_|refine ZG ?_|intro _|refine YE ?_|refine ⟨⟨rfl,ql (k:=k) (j:=3) zh rfl rfl rfl rfl hpA rfl rfl rfl rfl,.inl rfl⟩,?_⟩|refine ⟨⟨rfl,ql (k:=k) (j:=8) zh rfl rfl rfl rfl hpB rfl rfl rfl rfl,.inl rfl⟩,?_⟩|refine ⟨⟨rfl,ql (k:=k) (j:=10) zh rfl rfl rfl rfl hpC rfl rfl rfl rfl,.inl rfl⟩,?_⟩|refine ⟨⟨rfl,ql (k:=k) (j:=11) zh rfl rfl rfl rfl hpD rfl rfl rfl rfl,.inl rfl⟩,?_⟩|refine sM ?_|refine zo rfl (zN (k:=k) (j:=3) zh rfl rfl rfl rfl hpA rfl) rfl rfl ?_|refine AD.step _ _ _ _ _ rfl (zN (k:=k) (j:=3) zh rfl rfl rfl rfl hpA rfl) rfl rfl ?_|refine zo rfl (zN (k:=k) (j:=8) zh rfl rfl rfl rfl hpA rfl) rfl rfl ?_|refine AD.step _ _ _ _ _ rfl (zN (k:=k) (j:=8) zh rfl rfl rfl rfl hpA rfl) rfl rfl ?_|refine zo rfl (zN (k:=k) (j:=10) zh rfl rfl rfl rfl hpC rfl) rfl rfl ?_|refine AD.step _ _ _ _ _ rfl (zN (k:=k) (j:=10) zh rfl rfl rfl rfl hpC rfl) rfl rfl ?_|refine zo rfl (zN (k:=k) (j:=11) zh rfl rfl rfl rfl hpC rfl) rfl rfl ?_|refine AD.step _ _ _ _ _ rfl (zN (k:=k) (j:=11) zh rfl rfl rfl rfl hpC rfl) rfl rfl ?_|(refine shC ?_;first|refine qC (Xl _ q1) ?_|refine qC (Xl _ q2) ?_|refine qC (zcN _ q3) ?_|refine qC (zd7 _ q4) ?_)|(refine shX ?_;first|refine zo rfl (zK (k:=k) zh rfl rfl rfl rfl rfl rfl rfl rfl hkl) rfl rfl ?_|refine AD.step _ _ _ _ _ rfl (zK (k:=k) zh rfl rfl rfl rfl rfl rfl rfl rfl hkl) rfl rfl ?_)|refine sK ?_|refine sC (fun _=>?_) (fun _=>?_)|fail)
   exact ⟨k + 1,hlt,tD,tS,⟨zi rfl (zi rfl (zi rfl (qE rfl hpE zk))),rfl⟩⟩
  ·repeat' (first|refine Qx 10 rfl ?_|refine Qx 12 rfl ?_|refine sK ?_|refine sC (fun _=>?_) (fun _=>?_)|fail)
   exact retq rfl rfl
end Go.Cg
