/- A part of the walks by abstract values: no statement of its own. -/
import Derived.Test.YtoeplllgofpddaaGreatU7
import Derived.Test.YtoeplllgofpddaaGreatU6
import Derived.Test.YtoeplllgofpddaaGreatU4
import Derived.Shelf.RegionOpenPlain
import Derived.WalkKit
import Derived.Lib.Walk
import Derived.Lib.SliceRun
import Derived.Lib.AppendZerosOnto
import Derived.Laws.CopyOwn
import Derived.OwnWalk
import Derived.Deep.RegionLaw
set_option linter.unusedVariables false
set_option linter.unusedSimpArgs false
namespace Go.Cg
open Go.Proofs
set_option maxHeartbeats 20000000
structure Fm (g:Img):Prop where
 n:g.types.length≤32
 faces:∀ td∈g.types,td.faces.length≤4∧∀ f∈td.faces,0≤f∧f < g.types.length
theorem zcq {g:Img} (h:yg g=true):Fm g :=
 ⟨(zW h).1,fun td hm=>let ⟨_,_,_,_,h5,h6⟩:=Ye ((zW h).2.2.2 td hm);⟨h5,h6⟩⟩
theorem zaf {g:Img} {t:Int} {td:TD} (h:typeAt g t=some td):td∈g.types:=by
 unfold typeAt at h
 split at h
 ·exact List.mem_of_getElem? h
 ·cases h
theorem Fm.at {g:Img} (h:Fm g) (t:Int):(yQ g t).length≤4∧∀ f∈yQ g t,0≤f∧f < g.types.length:=by
 unfold yQ
 cases ht:typeAt g t with
 | none=>simp
 | some td=>exact h.faces td (zaf ht)
theorem WW {g:Img} {t:Int} (h:0≤t∧t < g.types.length):there g t=true:=by
 obtain ⟨td,htd⟩:=ZX h;exact (ZM g t).2 ⟨td,htd⟩
def YC (g:Img) (t:Int):List Int:=sortL (Xj g.types.length (yQ g) ((up g t).flatMap (yQ g)))
theorem zfL (g:Img) (t:Int) (hF:Fm g):ACall Tryz.prog 122 [zH g,pi t] (ints (YC g t)):=by
 refine zh zf Tryz.func122 rfl (by kernel_rfl) Tryz.ntmps122 (by simp) _ rfl (fun hw gB hgB=>?_)
 have hn:=hF.n
 have hui:=XY g t
 have hul:=Zu _ _ hui.1 hui.2
 repeat' (first|(refine shC ?_;first|refine zB rfl (zG rfl rfl (Qa g t (by omega))) rfl rfl ?_|refine AD.step _ _ _ _ _ rfl (zG rfl rfl (Qa g t (by omega))) rfl rfl ?_)|refine sA ?_|refine sC (fun _=>?_) (fun _=>?_)|fail)
 refine qY (t:=5) 0 3 1 (by decide) rfl rfl ?_
 refine zJ (fun x:Nat × List Int=>[(2,.pv (.ptr (zH g) 0)),(5,.own 0),(10,.pv (ints (up g t))),(11,.pv (pi (up g t).length)),(12,.pv (pi x.1))]) (fun x=>[(0,.row 3 1 (x.2.map pi))])
  (fun x=>x.1≤(up g t).length∧x.2.length≤4 * x.1∧(∀ y∈x.2,0≤y∧y < g.types.length)∧x.2++((up g t).drop x.1).flatMap (yQ g)=(up g t).flatMap (yQ g)) (fun x=>(up g t).length - x.1) (0,[]) ⟨by simp,by simp,by simp,rfl⟩ (tS) ⟨zT rfl zK,rfl⟩ ?_
 rintro ⟨k,out⟩ ⟨hk,hol,hrg,hr⟩
 simp only at hk hol hrg hr
 by_cases hlt:k < (up g t).length
 ·have he:=qB hlt
  obtain ⟨hf1,hf2⟩:=hF.at (up g t)[k]
  rw [drop_cons hlt,List.flatMap_cons] at hr
  repeat' (first|(refine shC ?_;first|refine zB rfl (zG rfl rfl (WL g _ (by omega) (fun f hf=>WW (hf2 f hf)))) rfl rfl ?_|refine AD.step _ _ _ _ _ rfl (zG rfl rfl (WL g _ (by omega) (fun f hf=>WW (hf2 f hf)))) rfl rfl ?_)|(refine shX ?_;first|refine qX he ?_)|(refine yH ?_;first|refine yU zf rfl rfl rfl rfl rfl rfl rfl (by show _ * 8≤_;simp;omega) (by simp;omega) rfl rfl ?_)|refine sK ?_|refine sC (fun _=>?_) (fun _=>?_)|fail)
  refine ⟨(k + 1,out++yQ g (up g t)[k]),⟨hlt,by simp;omega,?_,by simpa using hr⟩,tD,tS,⟨qG rfl (by simp) zK,rfl⟩⟩
  intro y hy
  simp only [List.mem_append] at hy
  rcases hy with hy|hy
  ·exact hrg y hy
  ·exact hf2 y hy
 ·rw [drop_end (by omega)] at hr
  simp only [List.flatMap_nil,List.append_nil] at hr
  subst hr
  have c1:=zdr g.types.length (by omega) ((up g t).flatMap (yQ g)) (yQ g) 167 [] [.ptr (zH g) 0] hrg (by omega)
   (fun x h0 h1=>zkY g x (by have:=(hF.at x).1;omega) (fun f hf=>WW ((hF.at x).2 f hf))) (fun x h0 h1=>⟨by have:=(hF.at x).1;omega,(hF.at x).2⟩)
  repeat' (first|(refine shC ?_;first|refine qC c1 ?_)|refine sK ?_|refine sC (fun _=>?_) (fun _=>?_)|fail)
  exact retq rfl rfl
def Xk (g:Img) (a b:Int):Bool:=decide (b∈up g a)||decide (b∈YC g a)
theorem zkl (g:Img) (a b:Int) (hF:Fm g):ACall Tryz.prog 174 [zH g,pi a,pi b] (pb (Xk g a b)):=by
 refine zh zf Tryz.func174 rfl (by kernel_rfl) Tryz.ntmps174 (by simp) _ rfl (fun hw gB hgB=>?_)
 have hn:=hF.n
 repeat' (first|(refine shC ?_;first|refine zB rfl (zG rfl rfl (Qa g a (by omega))) rfl rfl ?_|refine AD.step _ _ _ _ _ rfl (zG rfl rfl (Qa g a (by omega))) rfl rfl ?_|refine qC (Qi _ _) ?_|refine qC (zfL g a hF) ?_)|refine sA ?_|refine sC (fun _=>?_) (fun _=>?_)|fail)
 all_goals first|(refine retq rfl ?_;first|(simp only [zk,Xk,BL,List.length_map] at *;simp only [*,BL,List.length_map];done)|(simp_all [zk,Xk];done)|(simp_all [zk,Xk];omega)|(simp_all [zk,Xk];intros;omega))|(refine ZN rfl ?_;first|(simp only [zk,Xk,BL,List.length_map] at *;simp only [*,BL,List.length_map];done)|(simp_all [zk,Xk];done)|(simp_all [zk,Xk];omega)|(simp_all [zk,Xk];intros;omega))|skip
def Zx (g:Img) (a b:Ty):Bool :=
 if tyB a b then true
 else if !object a||!object b then false
 else if plain a 8||plain b 4 then true
 else if plain a 5&&plain b 5 then Xk g a.index b.index
 else plain a 7&&tyB b ⟨7,0,0,false⟩
theorem zaa (g:Img) (a b:Ty) (hF:Fm g):ACall Tryz.prog 144 [zH g,yJ a,yJ b] (pb (Zx g a b)):=by
 refine zh zf Tryz.func144 rfl (by kernel_rfl) Tryz.ntmps144 (by simp) _ rfl (fun hw gB hgB=>?_)
 repeat' (first|(refine shC ?_;first|refine qC (Za a) ?_|refine qC (Za b) ?_|refine qC (zam a 8) ?_|refine qC (zam b 4) ?_|refine qC (zam a 5) ?_|refine qC (zam b 5) ?_|refine qC (zkl g _ _ hF) ?_|refine qC (zam a 7) ?_|refine qC zmr ?_)|refine sA ?_|refine sC (fun _=>?_) (fun _=>?_)|fail)
 all_goals refine retq rfl ?_
 all_goals first|(simp only [zk,Zx,tyB, *];done)|(simp only [zk,Zx,tyB, *];rfl)
end Go.Cg
namespace Go.Cg
open Go.RowKit
def PTells (a b:PV):Prop:=∀ (K:KK) (w:World) (v:Value),PRel K w a v→PRel K w b v
theorem PTells.refl (a:PV):PTells a a:=fun _ _ _ h=>h
def PTL (cs ds:List PV):Prop:=cs.length=ds.length∧∀ (k:Nat) (c d:PV),cs[k]?=some c→ds[k]?=some d→PTells c d
theorem zbP:PTL [] []:=⟨rfl,by simp⟩
theorem yY {c d:PV} {cs ds:List PV} (h:PTells c d) (hs:PTL cs ds):PTL (c::cs) (d::ds):=by
 refine ⟨by simp [hs.1],fun k c' d' hc hd=>?_⟩
 cases k with
 | zero=>simp at hc hd;subst hc hd;exact h
 | succ k=>exact hs.2 k c' d' (by simpa using hc) (by simpa using hd)
theorem zht (sz:Nat) (f:Bool):PTells (.base (.slice none 0 0)) (.slc sz [] f):=fun K w v h=>by cases h;exact .nil sz f
theorem ztC {cs ds:List PV} (h:PTL cs ds):PTells (.agg cs) (.agg ds):=fun K w v hp=>by
 cases hp with
 | agg _ vs hl ho hr =>
  refine .agg ds vs (by rw [hl,h.1]) ho fun k d v hd hv=>?_
  have hk:k < cs.length:=by
   rcases Nat.lt_or_ge k cs.length with h'|h'
   ·exact h'
   ·rw [List.getElem?_eq_none (by omega)] at hv;cases hv
  exact h.2 k _ d (List.getElem?_eq_getElem hk) hd K w v (hr k _ v (List.getElem?_eq_getElem hk) hv)
def PCL (es ds:List PV):Prop:=es.length=ds.length∧∀ (k:Nat) (c d:PV),es[k]?=some c→ds[k]?=some d→PTL c.cells d.cells
theorem zc5:PCL [] []:=⟨rfl,by simp⟩
theorem zac {c d:PV} {cs ds:List PV} (h:PTL c.cells d.cells) (hs:PCL cs ds):PCL (c::cs) (d::ds):=by
 refine ⟨by simp [hs.1],fun k c' d' hc hd=>?_⟩
 cases k with
 | zero=>simp at hc hd;subst hc hd;exact h
 | succ k=>exact hs.2 k c' d' (by simpa using hc) (by simpa using hd)
theorem ze1 {sz:Nat} {es ds:List PV} {f:Bool} (h:PCL es ds):PTells (.slc sz es f) (.slc sz ds false):=fun K w v hp=>by
 obtain ⟨hl,hc⟩:=h
 cases hp with
 | nil=>have:ds=[]:=List.eq_nil_of_length_eq_zero (by simpa using hl.symm);subst this;exact .nil sz false
 | emp _ _ a=>have:ds=[]:=List.eq_nil_of_length_eq_zero (by simpa using hl.symm);subst this;exact .emp sz false a
 | slc _ _ _ b o cap vss h0 h1 h2 h3 h4 h5 h6 =>
  rw [hl]
  have hget:∀ (i:Nat) (d:PV),ds[i]?=some d→∃ e,es[i]?=some e:=fun i d hd=>by
   have:i < es.length:=by
    rcases Nat.lt_or_ge i es.length with h'|h'
    ·exact h'
    ·rw [List.getElem?_eq_none (by omega)] at hd;cases hd
   exact ⟨_,List.getElem?_eq_getElem this⟩
  refine .slc sz ds false b o cap vss h0 (by omega) (by simp) (by omega) h4 (fun i d hd=>?_) (fun i d k c v hd hk hv=>?_)
  ·obtain ⟨e,he⟩:=hget i d hd
   obtain ⟨a1,a2,a3⟩:=h5 i e he
   exact ⟨by rw [←(hc i e d he hd).1];exact a1,a2,a3⟩
  ·obtain ⟨e,he⟩:=hget i d hd
   have hh:=hc i e d he hd
   have hk':k < e.cells.length:=by
    rcases Nat.lt_or_ge k e.cells.length with h'|h'
    ·exact h'
    ·rw [List.getElem?_eq_none (by rw [←hh.1];exact h')] at hk;cases hk
   exact hh.2 k _ c (List.getElem?_eq_getElem hk') hk K w v (h6 i e k _ v he (List.getElem?_eq_getElem hk') hv)
theorem PTells.tells {a b:PV} (h:PTells a b):Tells (.pv a) (.pv b):=fun K w ρ H v hr=>by
 cases hr with|pv _ _ hp=>exact .pv _ _ (h K w v hp)
section
variable {P:Program} {n:Nat} {g:Base} {H:HEnv} {env:Env} {a:Act} {w:World} {ops:List Oper} {Q:Env→HEnv→Prop} {c:Code} {QQ:QC}
theorem zpq {t:Nat} {x y:AV} (ht:env.get t=some x) (h:Tells x y) (hinv:Inv n g env H a w):Inv n g ((t,y)::env) H a w:=by
 obtain ⟨h1,h2,K,ρ,hf,he⟩:=hinv
 refine ⟨h1,h2,K,ρ,hf,fun t' av hg=>?_⟩
 rw [Env.get_cons] at hg
 split at hg
 ·rename_i e;subst e
  simp only [Option.some.injEq] at hg;subst hg
  obtain ⟨v,hv,hr⟩:=he _ _ ht
  exact ⟨v,hv,h K w ρ H v hr⟩
 ·exact he _ _ hg
theorem za8 {l:List Oper} {x y:PV} (t:Nat) (h:PTells x y) (ht:env.get t=some (.pv x)) (k:AO P n g ops.toArray l ((t,.pv y)::env) H Q):AO P n g ops.toArray l env H Q :=
 ⟨fun a w hi=>k.go a w (zpq ht h.tells hi)⟩
theorem znR {t i off:Nat} {p:PV} (hp:p.notTup=true) (ht:env.get t=some (.box i off)) (hi:H.get i=some (.cell (.pv p))) (hinv:Inv n g env H a w):Inv n g ((t,.pv (.ptr p off))::env) ((i,.dead)::H) a w:=by
 obtain ⟨h1,h2,K,ρ,hf,he⟩:=hinv
 obtain ⟨b,ty,arr,u,hr,hB,hheap,hu,harr,hn⟩:=hf.heap.ok i _ hi
 obtain ⟨K',hK'⟩:∃ K':KK,∀ b' o,K' b' o↔(K b' o∨(b'=b∧o < arr.size)):=⟨fun b' o=>K b' o∨(b'=b∧o < arr.size),fun _ _=>Iff.rfl⟩
 have hlat:Later K K' w w:=⟨fun b o h=>(hK' b o).2 (.inl h),fun _ _ _=>rfl⟩
 have hk:∀ j,(H.get j).isSome=true→(HEnv.get ((i,.dead)::H) j).isSome=true∧ρ j=ρ j:=fun j hj=>by
  refine ⟨?_,rfl⟩
  rw [HEnv.get_cons]
  split
  ·rfl
  ·exact hj
 have hblt:b < w.heap.size:=(Array.getElem?_eq_some_iff.1 hheap).1
 have hne:∀ {j:Nat} {h:HE} {b':Nat},i≠j→H.get j=some h→h.live=true→zY (ρ j)=some b'→b'≠b:=fun {j h b'} hij hg hl hb e=>by
  subst e
  exact hf.heap.apart i j _ h b' hij hi hg rfl hl (by rw [hr];rfl) hb
 refine ⟨h1,h2,K',ρ,⟨hf.below,fun b o h=>(hK' b o).2 (.inl (hf.old b o h)),fun b' o h=>?_,fun b' o h=>?_,hf.others,hf.pt.grown hf.old (row:=some b) ⟨rfl,rfl,rfl,Nat.le_refl _,fun _ _ _=>rfl⟩ hlat (fun b2 hb2=>by cases hb2;exact hf.away i _ b hi rfl (by rw [hr];rfl)) (fun b2 o h=>(hK' b2 o).1 h |>.elim .inl (fun h=>.inr (.inl (by rw [h.1])))),hf.away.set hi rfl,?_,?_⟩,fun t' av hg=>?_⟩
 ·rcases (hK' b' o).1 h with h|⟨rfl,_⟩
  ·exact hf.new b' o h
  ·exact .inr hB
 ·rcases (hK' b' o).1 h with h|⟨rfl,_⟩
  ·exact hf.lt b' o h
  ·exact hblt
 ·intro j h hg
  rw [HEnv.get_cons] at hg
  split at hg
  ·simp only [Option.some.injEq] at hg;subst hg;trivial
  ·rename_i hij
   have ho:=hf.heap.ok j h hg
   cases h with
   | cell v =>
    obtain ⟨b',t',arr',u',hr',hB',hh',hu',ha',hn'⟩:=ho
    refine ⟨b',t',arr',u',hr',hB',hh',hu'.keeps hlat hk,ha',fun o ho=>?_⟩
    rcases (hK' b' o).1 ho with h|⟨h,_⟩
    ·exact hn' o h
    ·exact hne hij hg rfl (by rw [hr'];rfl) h
   | row t' sz es =>
    obtain ⟨xs,hown,h0,hc,hkk⟩:=ho
    refine ⟨xs,hown,h0,fun k e he=>?_,fun b' hb o=>?_⟩
    ·obtain ⟨c1,c2⟩:=hc k e he
     exact ⟨c1,fun k c hc=>let ⟨v,h4,h5,h6⟩:=c2 k c hc;⟨v,h4,h5,h6.later hlat⟩⟩
    ·rw [←hkk b' hb o,hK']
     have hb2:zY (ρ j)=some b':=by
      rcases hown.2 with ⟨e,_⟩|⟨b2,cap,cur,e,_⟩
      ·rw [e] at hb;simp [Value.ownBlock] at hb
      ·rw [e] at hb ⊢;simpa [Value.ownBlock,zY] using hb
     exact ⟨fun h=>h.resolve_right fun h=>hne hij hg rfl hb2 h.1,.inl⟩
   | mrow t' sz es =>
    obtain ⟨xs,hown,h0,hc,hkk⟩:=ho
    refine ⟨xs,hown,h0,fun k e he=>?_,fun b' hb o ho=>?_⟩
    ·obtain ⟨c1,c2⟩:=hc k e he
     exact ⟨c1,fun k c hc=>let ⟨v,h4,h5,h6⟩:=c2 k c hc;⟨v,h4,h5,h6.later hlat⟩⟩
    ·have hb2:zY (ρ j)=some b':=by
      rcases hown.2 with ⟨e,_⟩|⟨b2,cap,cur,e,_⟩
      ·rw [e] at hb;simp [Value.ownBlock] at hb
      ·rw [e] at hb ⊢;simpa [Value.ownBlock,zY] using hb
     rcases (hK' b' o).1 ho with h|⟨h,_⟩
     ·exact hkk b' hb o h
     ·exact hne hij hg rfl hb2 h
   | dead=>trivial
   | pin v u'=>exact ARel.keeps hlat hk ho
   | obj X =>
    obtain ⟨b',ob,hr',hB',hh',hx,hn'⟩:=ho
    refine ⟨b',ob,hr',hB',hh',hx,fun o ho=>?_⟩
    rcases (hK' b' o).1 ho with h|⟨h,_⟩
    ·exact hn' o h
    ·exact hne hij hg rfl (by rw [hr'];rfl) h
 ·intro j k h h' b' hjk hg hg' hl hl'
  rw [HEnv.get_cons] at hg hg'
  split at hg
  ·simp only [Option.some.injEq] at hg;subst hg;simp [HE.live] at hl
  ·split at hg'
   ·simp only [Option.some.injEq] at hg';subst hg';simp [HE.live] at hl'
   ·exact hf.heap.apart j k h h' b' hjk hg hg' hl hl'
 ·rw [Env.get_cons] at hg
  split at hg
  ·rename_i e;subst e
   simp only [Option.some.injEq] at hg;subst hg
   obtain ⟨v,hv,hrv⟩:=he _ _ ht
   refine ⟨v,hv,?_⟩
   cases hrv with
   | box _ _ b2 _ hr2 =>
    rw [hr] at hr2
    simp only [Value.pointer.injEq,Option.some.injEq,Addr.mk.injEq,and_true] at hr2
    subst hr2
    cases hu with
    | pv _ _ hpr =>
     have hcr:=QF hpr
     rw [harr] at hcr
     have:=PRel.ptr (K:=K') (w:=w) p off b 0 arr.toList (hcr.1) (fun k x hx=>?_) (fun k c x hc hx=>(hcr.2 k c x hc hx).later hlat)
     ·exact .pv _ _ (by simpa using this)
     ·have hk:k < arr.size:=by
       rcases Nat.lt_or_ge k arr.size with h'|h'
       ·exact h'
       ·rw [List.getElem?_eq_none (by simpa using h')] at hx;cases hx
      refine ⟨(hK' b (0 + k)).2 (.inr ⟨rfl,by omega⟩),?_,?_⟩
      ·simp only [World.cell?,hheap,Nat.zero_add]
       simpa using hx
      ·exact cells_one hpr hp x (by rw [harr];exact List.mem_of_getElem? hx)
  ·obtain ⟨v,hv,hrv⟩:=he _ _ hg
   exact ⟨v,hv,hrv.keeps hlat hk⟩
theorem XW {t i off:Nat} {p:PV} (hp:p.notTup=true) (ht:env.get t=some (.box i off)) (hi:H.get i=some (.cell (.pv p))) (k:AW P n g c ((t,.pv (.ptr p off))::env) ((i,.dead)::H) QQ):AW P n g c env H QQ :=
 ⟨fun a w hinv=>k.go a w (znR hp ht hi hinv)⟩
end
end Go.Cg
namespace Go.Cg
open Go.Proofs
set_option maxHeartbeats 20000000
theorem zdN (s:ByteArray):ACall Tryz.prog 223 [ps s] (pb (Vm s)):=by
 refine zh zf Tryz.func223 rfl (by kernel_rfl) Tryz.ntmps223 (by simp) _ rfl (fun hw gB hgB=>?_)
 have hl:=zn0 hw.1
 have he:(s.toList==(⟨#[]⟩:ByteArray).toList)=decide (s.size=0):=by
  rw [ByteArray.toList_eq,ByteArray.toList_eq]
  have hs:s.size=s.data.toList.length:=by simp
  rw [hs]
  cases s.data.toList <;> simp
 have hfin:s.size≠0→s.size≤24→Vm s=s.data.toList.all zjw:=fun a b=>by
  unfold Vm;rw [decide_eq_true (by omega),decide_eq_true (by omega)];simp
 repeat' (first|refine sK ?_|refine sC (fun _=>?_) (fun _=>?_)|fail)
 all_goals first
  | (refine retq rfl ?_;simp_all [zk,Vm];done)
  | (refine retq rfl ?_;simp_all [zk,Vm];omega)
  | skip
 refine zJ (fun k:Nat=>[(0,.pv (ps s)),(12,.pv (pi s.size)),(13,.pv (pi k))]) (fun _=>[]) (fun k=>k≤s.size∧Vm s=(s.data.toList.drop k).all zjw) (fun k=>s.size - k) 0 ⟨by simp,by rw [hfin (by simp_all) (by simp_all <;> omega)];simp⟩ (tS) tH ?_
 rintro k ⟨hk,hr⟩
 by_cases hlt:k < s.size
 ·have hb:=zem hlt
  rw [Yl (by simpa using hlt)] at hr
  repeat' (first|(refine shI ?_;first|refine zB rfl (WI zf rfl rfl rfl rfl (by omega) hb) rfl rfl ?_|refine AD.step _ _ _ _ _ rfl (WI zf rfl rfl rfl rfl (by omega) hb) rfl rfl ?_)|refine sK ?_|refine sC (fun _=>?_) (fun _=>?_)|fail)
  all_goals first
   | exact ⟨k + 1,⟨by omega,by simp_all [zjw]⟩,tD,tS,tH⟩
   | (refine retq rfl ?_;simp_all [zk,zjw];done)
 ·rw [drop_end (by simp;omega)] at hr
  repeat' (first|refine sK ?_|refine sC (fun _=>?_) (fun _=>?_)|fail)
  all_goals (refine retq rfl ?_;simp_all [zk];done)
theorem zhF (n x:Int):ACall Tryz.prog 222 [pi x,.ptr (pi n) 0] (pb (!QV n x)):=by
 refine zh zf Tryz.func222 rfl (by kernel_rfl) Tryz.ntmps222 (by simp) _ rfl (fun hw gB hgB=>?_)
 repeat' (first|refine sA ?_|refine sC (fun _=>?_) (fun _=>?_)|fail)
 all_goals (refine retq rfl ?_;simp only [zk,List.cons.injEq,PV.base.injEq,Value.bool.injEq];rw [Bool.eq_iff_iff];simp_all [QV] <;> omega)
theorem Xi (l:List Int) (p:Int→Bool) (f:FuncId) (first cap:List PV) (hp:∀ x∈l,ACall Tryz.prog f (first++[pi x]++cap) (pb (p x))):ACall Tryz.prog 120 [ints l,.fn (.func f) first cap] (pb (l.any p)):=by
 refine zh zf Tryz.func120 rfl (by kernel_rfl) Tryz.ntmps120 (by simp) _ rfl (fun hw gB hgB=>?_)
 have c1:=zab l p f first cap hp
 repeat' (first|(refine shC ?_;first|refine qC c1 ?_)|refine sA ?_|refine sC (fun _=>?_) (fun _=>?_)|fail)
 refine retq rfl ?_
 have:decide (0≤zdd l p)=l.any p:=by
  unfold zdd
  cases h:l.any p <;> simp
 simp [zk,this]
def zqb (l:List TD) (p:TD→Bool):Int:=if l.any p then ((l.findIdx p:Nat):Int) else -1
theorem zf5 (l:List TD) (p:TD→Bool) (f:FuncId) (first cap:List PV) (hp:∀ x∈l,ACall Tryz.prog f (first++[ZA x]++cap) (pb (p x))):ACall Tryz.prog 244 [.slc 4 (l.map ZA) false,.fn (.func f) first cap] (pi (zqb l p)):=by
 refine zh zf Tryz.func244 rfl (by kernel_rfl) Tryz.ntmps244 (by simp) _ rfl (fun hw gB hgB=>?_)
 have hl:l.length≤9223372036854775807:=by have:=hw.1;simp [PV.lenOk,lensOk,maxLen] at this;exact this.1
 repeat' (first|refine sA ?_|refine sC (fun _=>?_) (fun _=>?_)|fail)
 refine zJ (fun k:Nat=>[(0,.pv (.slc 4 (l.map ZA) false)),(1,.pv (.fn (.func f) first cap)),(7,.pv (pi l.length)),(8,.pv (pi k))]) (fun _=>[]) (fun k=>k≤l.length∧∀ j (h:j < k) (h2:j < l.length),p l[j]=false) (fun k=>l.length - k) 0 ⟨by omega,fun j h=>by omega⟩ (tS) tH ?_
 rintro k ⟨hk,hno⟩
 by_cases hlt:k < l.length
 ·have he:=yu (f:=ZA) hlt
  have c1:=hp _ (List.getElem_mem hlt)
  cases hpx:p l[k]
  ·rw [hpx] at c1
   repeat' (first|(refine shC ?_;first|refine qV (c1) ?_)|(refine shX ?_;first|refine qX he ?_)|refine sK ?_|refine sC (fun _=>?_) (fun _=>?_)|fail)
   exact ⟨k + 1,⟨hlt,fun j hj h2=>by
    by_cases e:j=k
    ·subst e;exact hpx
    ·exact hno j (by omega) h2⟩,tD,tS,tH⟩
  ·rw [hpx] at c1
   have hi:l.findIdx p=k:=by
    rw [List.findIdx_eq hlt]
    exact ⟨hpx,fun j hj=>hno j hj (by omega)⟩
   have ha:l.any p=true:=List.any_eq_true.2 ⟨_,List.getElem_mem hlt,hpx⟩
   repeat' (first|(refine shC ?_;first|refine qV (c1) ?_)|(refine shX ?_;first|refine qX he ?_)|refine sK ?_|refine sC (fun _=>?_) (fun _=>?_)|fail)
   exact retq rfl (by simp [zk,zqb,ha,hi])
 ·have ha:l.any p=false:=by
   rw [List.any_eq_false]
   intro x hx
   obtain ⟨j,hj,rfl⟩:=List.getElem_of_mem hx
   simp [hno j (by omega) hj]
  repeat' (first|refine sK ?_|refine sC (fun _=>?_) (fun _=>?_)|fail)
  exact retq rfl (by simp [zk,zqb,ha])
theorem zdM (l:List TD) (p:TD→Bool) (f:FuncId) (first cap:List PV) (hp:∀ x∈l,ACall Tryz.prog f (first++[ZA x]++cap) (pb (p x))):ACall Tryz.prog 220 [.slc 4 (l.map ZA) false,.fn (.func f) first cap] (pb (l.any p)):=by
 refine zh zf Tryz.func220 rfl (by kernel_rfl) Tryz.ntmps220 (by simp) _ rfl (fun hw gB hgB=>?_)
 have c1:=zf5 l p f first cap hp
 repeat' (first|(refine shC ?_;first|refine qC c1 ?_)|refine sA ?_|refine sC (fun _=>?_) (fun _=>?_)|fail)
 refine retq rfl ?_
 have:decide (0≤zqb l p)=l.any p:=by
  unfold zqb
  cases h:l.any p <;> simp
 simp [zk,this]
theorem zmd (t:TD) (n:Int):ACall Tryz.prog 221 [ZA t,.ptr (pi n) 0] (pb (!qR t n)):=by
 refine zh zf Tryz.func221 rfl (by kernel_rfl) Tryz.ntmps221 (by simp) _ rfl (fun hw gB hgB=>?_)
 have c1:=Xi t.faces (fun x=>!QV n x) 222 [] [.ptr (pi n) 0] (fun x _=>zhF n x)
 have ha:t.faces.any (fun x=>!QV n x)=!t.faces.all (QV n):=by rw [List.not_all_eq_any_not]
 rw [ha] at c1
 repeat' (first|(refine shC ?_;first|refine qC c1 ?_|refine qC (zdN _) ?_)|refine sA ?_|refine sC (fun _=>?_) (fun _=>?_)|fail)
 all_goals first|(refine retq rfl ?_;first|(simp only [zk,qR,BL,List.length_map] at *;simp only [*,BL,List.length_map];done)|(simp_all [zk,qR];done)|(simp_all [zk,qR];omega)|(simp_all [zk,qR];intros;omega))|(refine ZN rfl ?_;first|(simp only [zk,qR,BL,List.length_map] at *;simp only [*,BL,List.length_map];done)|(simp_all [zk,qR];done)|(simp_all [zk,qR];omega)|(simp_all [zk,qR];intros;omega))|skip
def Vd (g:Img):Bool:=decide ((g.types.length:Int)≤32)&&g.types.all (fun t=>qR t g.types.length)
theorem zmF (g:Img):ACall Tryz.prog 202 [zH g] (pb (Vd g)):=by
 refine zh zf Tryz.func202 rfl (by kernel_rfl) Tryz.ntmps202 (by simp) _ rfl (fun hw gB hgB=>?_)
 have c1:=zdM g.types (fun t=>!qR t ((g.types.map ZA).length:Nat)) 221 [] [.ptr (pi ((g.types.map ZA).length:Nat)) 0] (fun x _=>zmd x _)
 rw [←List.not_all_eq_any_not] at c1
 repeat' (first|refine XW (t:=3) rfl rfl rfl ?_|(refine shC ?_;first|refine qC c1 ?_)|refine sA ?_|refine sC (fun _=>?_) (fun _=>?_)|fail)
 all_goals first|(refine retq rfl ?_;first|(simp only [zk,Vd,BL,List.length_map] at *;simp only [*,BL,List.length_map];done)|(simp_all [zk,Vd];done)|(simp_all [zk,Vd];omega)|(simp_all [zk,Vd];intros;omega))|(refine ZN rfl ?_;first|(simp only [zk,Vd,BL,List.length_map] at *;simp only [*,BL,List.length_map];done)|(simp_all [zk,Vd];done)|(simp_all [zk,Vd];omega)|(simp_all [zk,Vd];intros;omega))|skip
set_option maxHeartbeats 20000000
def zeT (t:Ty):Bool :=
 if t.kind==1 then t.index==0&&(t.dims==0&&(t.ref==false&&true))
 else if t.kind==2||t.kind==3||t.kind==4 then decide (0≤t.index)&&decide (t.index≤0)&&decide (0≤t.dims)&&decide (t.dims≤3)
 else if t.kind==5||t.kind==6 then decide (0≤t.index)&&decide (t.index≤31)&&decide (0≤t.dims)&&decide (t.dims≤3)
 else if t.kind==7 then decide (0≤t.index)&&decide (t.index≤7)&&decide (0≤t.dims)&&decide (t.dims≤3)
 else false
theorem zi2 (t:Ty):zeT t=Zw t:=by
 rw [Bool.eq_iff_iff,zeT,Zw]
 by_cases h1:t.kind=1
 ·cases hr:t.ref <;> simp [h1] <;> omega
 ·by_cases h2:t.kind=2
  ·simp [h2];omega
  ·by_cases h3:t.kind=3
   ·simp [h3];omega
   ·by_cases h4:t.kind=4
    ·simp [h4];omega
    ·by_cases h5:t.kind=5
     ·simp [h5];omega
     ·by_cases h6:t.kind=6
      ·simp [h6];omega
      ·by_cases h7:t.kind=7
       ·simp [h7];omega
       ·simp [h1,h2,h3,h4,h5,h6,h7]
theorem zfP (t:Ty):ACall Tryz.prog 182 [yJ t] (pb (zeT t)):=by
 refine zh zf Tryz.func182 rfl (by kernel_rfl) Tryz.ntmps182 (by simp) _ rfl (fun hw gB hgB=>?_)
 repeat' (first|refine sA ?_|refine sC (fun _=>?_) (fun _=>?_)|fail)
 all_goals first|(refine retq rfl ?_;first|(simp only [zk,zeT, *];done)|(simp only [zk,zeT, *];rfl)|(simp_all [zk,zeT];done))|(trace "LEFT";trace_state)
theorem zaC (t:Ty):ACall Tryz.prog 146 [yJ t] (pb (Zw t)):=by
 refine zh zf Tryz.func146 rfl (by kernel_rfl) Tryz.ntmps146 (by simp) _ rfl (fun hw gB hgB=>?_)
 have c1:=zfP t
 rw [zi2] at c1
 repeat' (first|(refine shC ?_;first|refine qC c1 ?_)|refine sA ?_|refine sC (fun _=>?_) (fun _=>?_)|fail)
 exact retq rfl rfl
theorem zlE (t:Ty):ACall Tryz.prog 281 [yJ t] (pb (Zy t 2)):=by
 refine zh zf Tryz.func281 rfl (by kernel_rfl) Tryz.ntmps281 (by simp) _ rfl (fun hw gB hgB=>?_)
 have c1:=zfP t
 rw [zi2] at c1
 repeat' (first|(refine shC ?_;first|refine qC c1 ?_)|refine sA ?_|refine sC (fun _=>?_) (fun _=>?_)|fail)
 all_goals (refine retq rfl ?_;simp_all [zk,Zy];done)
theorem zfC (t:Ty):ACall Tryz.prog 270 [yJ t] (pb (Zy t 1)):=by
 refine zh zf Tryz.func270 rfl (by kernel_rfl) Tryz.ntmps270 (by simp) _ rfl (fun hw gB hgB=>?_)
 have c1:=zlE t
 have e:(Zy t 2&&!t.ref)=Zy t 1:=by
  simp only [Zy];cases Zw t <;> simp
 repeat' (first|(refine shC ?_;first|refine qC c1 ?_)|refine sA ?_|refine sC (fun _=>?_) (fun _=>?_)|fail)
 all_goals (refine retq rfl ?_;rw [←e];simp_all [zk];done)
theorem zbb (t:Ty) (n:Int):ACall Tryz.prog 246 [yJ t,pi n] (pb (zeZ t n)):=by
 refine zh zf Tryz.func246 rfl (by kernel_rfl) Tryz.ntmps246 (by simp) _ rfl (fun hw gB hgB=>?_)
 repeat' (first|refine sA ?_|refine sC (fun _=>?_) (fun _=>?_)|fail)
 all_goals (first|refine retq rfl ?_|refine ZN rfl ?_)
 all_goals (first|(simp_all [zk,zeZ];done)|(simp_all [zk,zeZ];omega))
theorem zkD (t:Ty) (n:Int):ACall Tryz.prog 248 [yJ t,pi n] (pb (QG t 2 n)):=by
 refine zh zf Tryz.func248 rfl (by kernel_rfl) Tryz.ntmps248 (by simp) _ rfl (fun hw gB hgB=>?_)
 repeat' (first|(refine shC ?_;first|refine qC (zaC t) ?_|refine qC (zbb t n) ?_)|refine sA ?_|refine sC (fun _=>?_) (fun _=>?_)|fail)
 all_goals (refine retq rfl ?_;simp_all [zk,QG,Zy];done)
theorem zjG (t:Ty) (n:Int):ACall Tryz.prog 249 [yJ t,pi n] (pb (QG t 3 n)):=by
 refine zh zf Tryz.func249 rfl (by kernel_rfl) Tryz.ntmps249 (by simp) _ rfl (fun hw gB hgB=>?_)
 repeat' (first|(refine shC ?_;first|refine qC (zaC t) ?_|refine qC (zbb t n) ?_)|refine sA ?_|refine sC (fun _=>?_) (fun _=>?_)|fail)
 all_goals (refine retq rfl ?_;simp_all [zk,QG,Zy];done)
set_option maxHeartbeats 20000000
def zcR (op:Int):ByteArray × Int × Int :=
 if op==62 then (⟨#[98,111,120]⟩,8,0)
 else if op==63 then (⟨#[117,110,98,111,120]⟩,8,0)
 else if op==64 then (⟨#[117,110,98,111,120,97,110,121]⟩,8,0)
 else if op==65 then (⟨#[99,97,115,116,99,108,97,115,115]⟩,8,0)
 else if op==66 then (⟨#[105,115,105,110,115,116]⟩,8,0)
 else if op==67 then (⟨#[108,100,102,116,110]⟩,6,0)
 else if op==68 then (⟨#[110,101,119,100,101,108]⟩,8,0)
 else if op==69 then (⟨#[116,104,114,111,119]⟩,0,3)
 else if op==70 then (⟨#[114,101,116,104,114,111,119]⟩,0,3)
 else if op==71 then (⟨#[108,101,97,118,101]⟩,5,4)
 else if op==72 then (⟨#[101,110,100,102,105,110,97,108,108,121]⟩,0,5)
 else if op==73 then (⟨#[101,110,100,102,105,108,116,101,114]⟩,0,5)
 else if op==74 then (⟨#[105,110]⟩,0,0)
 else if op==75 then (⟨#[111,117,116]⟩,0,0)
 else (⟨#[]⟩,0,0)
theorem zjn (op:Int):ACall Tryz.prog 263 [pi op] (zbA (zcR op).1 (zcR op).2.1 (zcR op).2.2):=by
 refine zh zf Tryz.func263 rfl (by kernel_rfl) Tryz.ntmps263 (by simp) _ rfl (fun hw gB hgB=>?_)
 repeat' (first|refine sA ?_|refine sC (fun _=>?_) (fun _=>?_)|fail)
 all_goals (refine retq rfl ?_;simp only [zk,zcR, *];rfl)
def zc9 (op:Int):ByteArray × Int × Int :=
 if op==48 then (⟨#[108,100,102,108,100]⟩,7,0)
 else if op==49 then (⟨#[115,116,102,108,100]⟩,7,0)
 else if op==50 then (⟨#[108,100,102,108,100,97]⟩,7,0)
 else if op==51 then (⟨#[108,100,115,102,108,100]⟩,7,0)
 else if op==52 then (⟨#[115,116,115,102,108,100]⟩,7,0)
 else if op==53 then (⟨#[108,100,115,102,108,100,97]⟩,7,0)
 else if op==54 then (⟨#[108,100,111,98,106]⟩,8,0)
 else if op==55 then (⟨#[115,116,111,98,106]⟩,8,0)
 else if op==56 then (⟨#[105,110,105,116,111,98,106]⟩,8,0)
 else if op==57 then (⟨#[110,101,119,97,114,114]⟩,8,0)
 else if op==58 then (⟨#[108,100,108,101,110]⟩,0,0)
 else if op==59 then (⟨#[108,100,101,108,101,109]⟩,8,0)
 else if op==60 then (⟨#[115,116,101,108,101,109]⟩,8,0)
 else if op==61 then (⟨#[108,100,101,108,101,109,97]⟩,8,0)
 else zcR op
theorem zjQ (op:Int):ACall Tryz.prog 232 [pi op] (zbA (zc9 op).1 (zc9 op).2.1 (zc9 op).2.2):=by
 refine zh zf Tryz.func232 rfl (by kernel_rfl) Tryz.ntmps232 (by simp) _ rfl (fun hw gB hgB=>?_)
 repeat' (first|(refine shC ?_;first|refine qC (zjn op) ?_)|refine sA ?_|refine sC (fun _=>?_) (fun _=>?_)|fail)
 all_goals (refine retq rfl ?_;simp only [zk,zc9, *];rfl)
def zeE (op:Int):ByteArray × Int × Int :=
 if op==34 then (⟨#[98,114]⟩,5,1)
 else if op==35 then (⟨#[98,114,116,114,117,101]⟩,5,2)
 else if op==36 then (⟨#[98,114,102,97,108,115,101]⟩,5,2)
 else if op==37 then (⟨#[98,101,113]⟩,5,2)
 else if op==38 then (⟨#[98,103,101]⟩,5,2)
 else if op==39 then (⟨#[98,103,116]⟩,5,2)
 else if op==40 then (⟨#[98,108,101]⟩,5,2)
 else if op==41 then (⟨#[98,108,116]⟩,5,2)
 else if op==42 then (⟨#[98,110,101]⟩,5,2)
 else if op==43 then (⟨#[99,97,108,108]⟩,6,0)
 else if op==44 then (⟨#[99,97,108,108,118,105,114,116]⟩,6,0)
 else if op==45 then (⟨#[110,101,119,111,98,106]⟩,6,0)
 else if op==46 then (⟨#[114,101,116]⟩,0,3)
 else if op==47 then (⟨#[116,97,105,108]⟩,0,0)
 else zc9 op
theorem zkL (op:Int):ACall Tryz.prog 216 [pi op] (zbA (zeE op).1 (zeE op).2.1 (zeE op).2.2):=by
 refine zh zf Tryz.func216 rfl (by kernel_rfl) Tryz.ntmps216 (by simp) _ rfl (fun hw gB hgB=>?_)
 repeat' (first|(refine shC ?_;first|refine qC (zjQ op) ?_)|refine sA ?_|refine sC (fun _=>?_) (fun _=>?_)|fail)
 all_goals (refine retq rfl ?_;simp only [zk,zeE, *];rfl)
def ziZ (op:Int):ByteArray × Int × Int :=
 if op==13 then (⟨#[97,100,100]⟩,0,0)
 else if op==14 then (⟨#[115,117,98]⟩,0,0)
 else if op==15 then (⟨#[109,117,108]⟩,0,0)
 else if op==16 then (⟨#[100,105,118]⟩,0,0)
 else if op==17 then (⟨#[114,101,109]⟩,0,0)
 else if op==18 then (⟨#[97,110,100]⟩,0,0)
 else if op==19 then (⟨#[111,114]⟩,0,0)
 else if op==20 then (⟨#[120,111,114]⟩,0,0)
 else if op==21 then (⟨#[115,104,108]⟩,0,0)
 else if op==22 then (⟨#[115,104,114]⟩,0,0)
 else if op==23 then (⟨#[110,101,103]⟩,0,0)
 else if op==24 then (⟨#[110,111,116]⟩,0,0)
 else if op==25 then (⟨#[97,100,100,111,118,102]⟩,0,0)
 else if op==26 then (⟨#[115,117,98,111,118,102]⟩,0,0)
 else if op==27 then (⟨#[109,117,108,111,118,102]⟩,0,0)
 else if op==28 then (⟨#[99,111,110,118,52]⟩,0,0)
 else if op==29 then (⟨#[99,111,110,118,56]⟩,0,0)
 else if op==30 then (⟨#[99,111,110,118,111,118,102,52]⟩,0,0)
 else if op==31 then (⟨#[99,101,113]⟩,0,0)
 else if op==32 then (⟨#[99,103,116]⟩,0,0)
 else if op==33 then (⟨#[99,108,116]⟩,0,0)
 else zeE op
theorem znH (op:Int):ACall Tryz.prog 191 [pi op] (zbA (ziZ op).1 (ziZ op).2.1 (ziZ op).2.2):=by
 refine zh zf Tryz.func191 rfl (by kernel_rfl) Tryz.ntmps191 (by simp) _ rfl (fun hw gB hgB=>?_)
 repeat' (first|(refine shC ?_;first|refine qC (zkL op) ?_)|refine sA ?_|refine sC (fun _=>?_) (fun _=>?_)|fail)
 all_goals (refine retq rfl ?_;simp only [zk,ziZ, *];rfl)
def ofI (op:Int):ByteArray × Int × Int :=
 if op==1 then (⟨#[110,111,112]⟩,0,0)
 else if op==2 then (⟨#[108,100,97,114,103]⟩,4,0)
 else if op==3 then (⟨#[115,116,97,114,103]⟩,4,0)
 else if op==4 then (⟨#[108,100,97,114,103,97]⟩,4,0)
 else if op==5 then (⟨#[108,100,108,111,99]⟩,3,0)
 else if op==6 then (⟨#[115,116,108,111,99]⟩,3,0)
 else if op==7 then (⟨#[108,100,108,111,99,97]⟩,3,0)
 else if op==8 then (⟨#[108,100,99,52]⟩,1,0)
 else if op==9 then (⟨#[108,100,99,56]⟩,2,0)
 else if op==10 then (⟨#[108,100,110,117,108,108]⟩,0,0)
 else if op==11 then (⟨#[100,117,112]⟩,0,0)
 else if op==12 then (⟨#[112,111,112]⟩,0,0)
 else ziZ op
theorem zle (op:Int):ACall Tryz.prog 161 [pi op] (zbA (ofI op).1 (ofI op).2.1 (ofI op).2.2):=by
 refine zh zf Tryz.func161 rfl (by kernel_rfl) Tryz.ntmps161 (by simp) _ rfl (fun hw gB hgB=>?_)
 repeat' (first|(refine shC ?_;first|refine qC (znH op) ?_)|refine sA ?_|refine sC (fun _=>?_) (fun _=>?_)|fail)
 all_goals (refine retq rfl ?_;simp only [zk,ofI, *];rfl)
set_option maxHeartbeats 20000000
theorem zju (op:Int) (h1:1≤op) (h2:op≤75):(ofI op).1.size≠0∧(ofI op).2.1=yF op:=by
 have h:∀ n:Fin 76,1≤n.val→(ofI (n.val:Int)).1.size≠0∧(ofI (n.val:Int)).2.1=yF (n.val:Int):=by decide +kernel
 have:=h ⟨op.toNat,by omega⟩ (by simp;omega)
 simpa [Int.toNat_of_nonneg (show 0≤op by omega)] using this
theorem zsb (op:Int) (h:op < 1∨75 < op):ofI op=(⟨#[]⟩,0,0):=by
 have e:∀ k:Int,1≤k→k≤75→(op==k)=false:=fun k h1 h2=>by rw [beq_eq_false_iff_ne];omega
 simp [ofI,ziZ,zeE,zc9,zcR,e]
theorem zpj (s:ByteArray):(s.toList==(⟨#[]⟩:ByteArray).toList)=decide (s.size=0):=by
 rw [ByteArray.toList_eq,ByteArray.toList_eq]
 have hs:s.size=s.data.toList.length:=by simp
 rw [hs]
 cases s.data.toList <;> simp
theorem zgV (op:Int) (h1:1≤op) (h2:op≤75):ACall Tryz.prog 115 [pi op] (.tup [zbA (ofI op).1 (ofI op).2.1 (ofI op).2.2,pi 0]):=by
 refine zh zf Tryz.func115 rfl (by kernel_rfl) Tryz.ntmps115 (by simp) _ rfl (fun hw gB hgB=>?_)
 have c1:=zle op
 have hn:=(zju op h1 h2).1
 generalize ofI op=x at c1 hn
 have he:(x.1.toList==(⟨#[]⟩:ByteArray).toList)=false:=by rw [zpj];simp [hn]
 repeat' (first|(refine shC ?_;first|refine qC c1 ?_)|refine sK ?_|refine sC (fun _=>?_) (fun _=>?_)|fail)
 all_goals exact retq rfl rfl
theorem zkE (op:Int) (h:op < 1∨75 < op):ACall Tryz.prog 115 [pi op] (.tup [zbA ⟨#[]⟩ 0 0,pi 3]):=by
 refine zh zf Tryz.func115 rfl (by kernel_rfl) Tryz.ntmps115 (by simp) _ rfl (fun hw gB hgB=>?_)
 have c1:=zle op
 rw [zsb op h] at c1
 have he:((⟨#[]⟩:ByteArray).toList==(⟨#[]⟩:ByteArray).toList)=true:=by simp
 repeat' (first|(refine shC ?_;first|refine qC c1 ?_)|refine sK ?_|refine sC (fun _=>?_) (fun _=>?_)|fail)
 all_goals exact retq rfl rfl
theorem zlH (x b:Int):ACall Tryz.prog 301 [.base (.int .i64 x),.base (.int .i64 b)] (pb (decide (0≤x)&&decide (x < b))):=by
 refine zh zf Tryz.func301 rfl (by kernel_rfl) Tryz.ntmps301 (by simp) _ rfl (fun hw gB hgB=>?_)
 repeat' (first|refine sA ?_|refine sC (fun _=>?_) (fun _=>?_)|fail)
 all_goals (refine retq rfl ?_;first|(simp_all [zk];done)|(simp_all [zk];omega))
def zhz (x:Ins) (k:Int):Bool :=
 if k==0 then zaA x.t&&x.arg==0
 else if k==1 then zaA x.t&&decide (-2147483648≤x.arg)&&decide (x.arg < 2147483648)
 else if k==2 then zaA x.t
 else if k==3 then zaA x.t&&(decide (0≤x.arg)&&decide (x.arg < 12))
 else if k==4 then zaA x.t&&(decide (0≤x.arg)&&decide (x.arg < 7))
 else if k==5 then zaA x.t&&(decide (0≤x.arg)&&decide (x.arg < 160))
 else if k==6 then zaA x.t&&(decide (0≤x.arg)&&decide (x.arg < 64))
 else if k==7 then zaA x.t&&(decide (0≤x.arg)&&decide (x.arg < 64))
 else x.arg==0&&Zw x.t&&x.t.kind != 1&&!x.t.ref
theorem znG (x:Ins) (k:Int):ACall Tryz.prog 285 [ZP x,pi k] (pb (zhz x k)):=by
 refine zh zf Tryz.func285 rfl (by kernel_rfl) Tryz.ntmps285 (by simp) _ rfl (fun hw gB hgB=>?_)
 repeat' (first|(refine shC ?_;first|refine qC (zlH _ _) ?_|refine qC (zaC _) ?_)|refine sA ?_|refine sC (fun _=>?_) (fun _=>?_)|fail)
 all_goals first|(refine retq rfl ?_;first|(simp only [zk,zhz,zaA, *];done)|(simp only [zk,zhz,zaA, *];rfl)|(simp_all [zk,zhz,zaA];done))|(trace "LEFT";trace_state)
set_option maxHeartbeats 20000000
def zgZ (x:Ins):Int:=if x.op < 1∨75 < x.op then 3 else if zhz x (yF x.op) then 0 else 17
theorem znE (x:Ins):ACall Tryz.prog 273 [ZP x] (pi (zgZ x)):=by
 refine zh zf Tryz.func273 rfl (by kernel_rfl) Tryz.ntmps273 (by simp) _ rfl (fun hw gB hgB=>?_)
 by_cases hop:x.op < 1∨75 < x.op
 ·have c1:=zkE x.op hop
  repeat' (first|(refine shC ?_;first|refine qC c1 ?_)|refine sK ?_|refine sC (fun _=>?_) (fun _=>?_)|fail)
  all_goals exact retq rfl (by simp [zk,zgZ,hop])
 ·have c1:=zgV x.op (by omega) (by omega)
  rw [(zju x.op (by omega) (by omega)).2] at c1
  repeat' (first|(refine shC ?_;first|refine qC c1 ?_|refine qC (znG _ _) ?_)|refine sA ?_|refine sC (fun _=>?_) (fun _=>?_)|fail)
  all_goals (refine retq rfl ?_;simp_all [zk,zgZ];done)
theorem zf3 (op:Int) (h1:1≤op) (h2:op≤75):0≤yF op∧yF op≤8:=by
 have h:∀ n:Fin 76,1≤n.val→0≤yF (n.val:Int)∧yF (n.val:Int)≤8:=by decide +kernel
 have:=h ⟨op.toNat,by omega⟩ (by simp;omega)
 simpa [Int.toNat_of_nonneg (show 0≤op by omega)] using this
def zeA (x:Ins):Prop := -9223372036854775808≤x.arg∧x.arg≤9223372036854775807
theorem zl1 (t:Ty):zaA t=decide (t=ty0):=QA t ty0
theorem zp3 (x:Ins) (hx:zeA x):zgZ x=QU x:=by
 unfold zgZ QU
 obtain ⟨hx1,hx2⟩:=hx
 by_cases hop:x.op < 1∨75 < x.op
 ·rw [if_pos hop,if_pos hop]
 ·rw [if_neg hop,if_neg hop]
  obtain ⟨r1,r2⟩:=zf3 x.op (by omega) (by omega)
  generalize yF x.op=k at r1 r2
  have hk:k=0∨k=1∨k=2∨k=3∨k=4∨k=5∨k=6∨k=7∨k=8:=by omega
  by_cases ht:x.t=ty0
  ·rcases hk with rfl|rfl|rfl|rfl|rfl|rfl|rfl|rfl|rfl <;> simp only [zhz,zaU,zl1,ht] <;> simp [ty0,Zw,Zy] <;> (first|omega|(split <;> split <;> first|rfl|omega))
  ·rcases hk with rfl|rfl|rfl|rfl|rfl|rfl|rfl|rfl|rfl <;> simp only [zhz,zaU,zl1,ht] <;> simp [ht,Zy] <;> (first|omega|(by_cases ha:x.arg=0 <;> cases hp:Zw x.t <;> by_cases hk1:x.t.kind=1 <;> cases hr:x.t.ref <;> simp_all <;> omega))
theorem znP (x:Ins) (g:Img) (m:Me) (hx:zeA x):ACall Tryz.prog 252 [ZP x,zH g,pi m.code.length] (pb (codeOk g m x)):=by
 refine zh zf Tryz.func252 rfl (by kernel_rfl) Tryz.ntmps252 (by simp) _ rfl (fun hw gB hgB=>?_)
 have c0:=znE x
 rw [zp3 x hx] at c0
 by_cases hf:QU x=0
 ·have hop:¬ (x.op < 1∨75 < x.op):=by
   intro h;rw [QU,if_pos h] at hf;simp at hf
  have c1:=zgV x.op (by omega) (by omega)
  rw [(zju x.op (by omega) (by omega)).2] at c1
  rw [hf] at c0
  have hown:yF x.op≠8→x.t=ty0:=by
   intro h8
   rw [QU,if_neg hop] at hf
   split at hf
   ·simp at hf
   ·split at hf
    ·simp at hf
    ·rename_i h;exact Classical.byContradiction fun h9=>h ⟨h8,h9⟩
  repeat' (first|(refine shC ?_;first|refine qC c0 ?_|refine qC c1 ?_|refine qC (zbb _ _) ?_)|refine sA ?_|refine sC (fun _=>?_) (fun _=>?_)|fail)
  all_goals (refine retq rfl ?_)
  all_goals simp only [zk,List.length_map,codeOk,hf, *]
  ·rfl
  ·rfl
  ·rfl
  ·by_cases h8:yF x.op=8
   ·simp [h8]
   ·simp [h8,hown h8,zeZ,ty0]
 ·have hfb:(QU x != 0)=true:=by simp [hf]
  repeat' (first|(refine shC ?_;first|refine qC c0 ?_)|refine sK ?_|refine sC (fun _=>?_) (fun _=>?_)|fail)
  all_goals exact retq rfl (by simp [zk,codeOk,hf])
end Go.Cg
namespace Go.Cg
open Go.RowKit
section
variable {P:Program} {g:Base} {H:HEnv} {env:Env} {tb:Tab} {o:Oper}
theorem ztU {t t':Nat} {x y:Operand} {k ky:IntKind} {m c:Int} (hop:o.op=.binOp .shl t x y t') (hx:env.pv H x=some (.base (.int k m))) (hy:env.pv H y=some (.base (.int ky c))) (h0:0≤c):QStep P g H o env (.pv (.base (.int k (k.wrap (m * 2 ^ (min c.toNat k.bits)))))):=by
 refine ⟨fun K ρ a w hf hv=>?_⟩
 have hxr:=qo hf (hv x (by rw [hop];simp [Op.operands])) hx
 have hyr:=qo hf (hv y (by rw [hop];simp [Op.operands])) hy
 generalize hxv:a.eval x=xv at hxr
 generalize hyv:a.eval y=yv at hyr
 cases hxr;cases hyr
 have hn:¬ c < 0:=by omega
 have hrun:(execOp a.eval o).run P w=.ok (.value (.int k (k.wrap (m * 2 ^ (min c.toNat k.bits))))) w:=by
  simp [execOp,hop,hxv,hyv,eqGuard,binOp,Op.shift,hn]
 rw [hrun]
 exact Yh hf (.pv _ _ (.base _ rfl))
theorem zsX {t t':Nat} {x y:Operand} {k ky:IntKind} {m c:Int} (hop:o.op=.binOp .shr t x y t') (hx:env.pv H x=some (.base (.int k m))) (hy:env.pv H y=some (.base (.int ky c))) (h0:0≤c):QStep P g H o env (.pv (.base (.int k (m.fdiv (2 ^ (min c.toNat k.bits)))))):=by
 refine ⟨fun K ρ a w hf hv=>?_⟩
 have hxr:=qo hf (hv x (by rw [hop];simp [Op.operands])) hx
 have hyr:=qo hf (hv y (by rw [hop];simp [Op.operands])) hy
 generalize hxv:a.eval x=xv at hxr
 generalize hyv:a.eval y=yv at hyr
 cases hxr;cases hyr
 have hn:¬ c < 0:=by omega
 have hrun:(execOp a.eval o).run P w=.ok (.value (.int k (m.fdiv (2 ^ (min c.toNat k.bits))))) w:=by
  simp [execOp,hop,hxv,hyv,eqGuard,binOp,Op.shift,hn]
 rw [hrun]
 exact Yh hf (.pv _ _ (.base _ rfl))
end
section
variable {P:Program} {tb:Tab} {n:Nat} {g:Base} {H:HEnv} {env:Env} {ops:List Oper} {o:Oper} {rest:List Oper} {Q:Env→HEnv→Prop}
theorem zci {a:Act} {K:KK} {w:World} {ρ:Nat→Value} {ty e:TypeId} {x y:Operand} {sz:Nat} {es xs:List PV} {full:Bool} (i:Nat) (htb:qp P tb) (hop:o.op=.call { callee:=.builtin .append,args:=#[x,y],argTypes:=#[ty,ty] }) (hk:tb.k ty=.sl e)
  (hx:env.pv H x=some (.slc sz es true)∨(es=[]∧env.pv H x=some (.base (.slice none 0 0)))) (hy:env.pv H y=some (.slc sz xs full)) (hx0:0 < xs.length)
  (hzz:(match tb.get e with|some ti=>(match ti.zero with|some z=>ti.size==sz&&z.cells.size==sz&&Nat.blt 0 sz|none=>false)|none=>false)=true)
  (hbound:(es.length + xs.length) * (match tb.get e with|some ti=>ti.bytes|none=>0)≤140737488355328) (hb2:es.length + xs.length≤140737488355328) (hi:H.get i=none)
  (hf:FS g K ρ H w) (hv:∀ z∈o.op.operands,∀ av,env.val z=some av→ARel K w ρ H av (a.eval z)) :
  ∃ v' w' K',(execOp a.eval o).run P w=.ok (.value v') w'∧Later K K' w w'∧FS g K' (fun j=>if j=i then v' else ρ j) ((i,.row e sz (es++xs))::H) w':=by
 have hvx:∀ av,env.val x=some av→ARel K w ρ H av (a.eval x):=hv x (by rw [hop];simp [Op.operands,Call.operands])
 have hvy:∀ av,env.val y=some av→ARel K w ρ H av (a.eval y):=hv y (by rw [hop];simp [Op.operands,Call.operands])
 cases hti:tb.get e with
 | none=>simp [hti] at hzz
 | some ti =>
  cases hz:ti.zero with
  | none=>simp [hti,hz] at hzz
  | some z =>
   simp only [hti,hz,Bool.and_eq_true,beq_iff_eq] at hzz hbound
   obtain ⟨⟨z1,z2⟩,z3⟩:=hzz
   have hsz:0 < sz:=Nat.le_of_ble_eq_true z3
   obtain ⟨tin,q1,q2,q3,q4,_⟩:=ZH htb hti
   have hyr:=qo (a:=a) hf (x:=y) hvy hy
   obtain ⟨news,n1,n2,n3,n4,n5⟩:=Xx hyr
   have hxr:PRel K w (.slc sz es true) (a.eval x):=by
    rcases hx with hx|⟨rfl,hx⟩
    ·exact qo (a:=a) hf (x:=x) hvx hx
    ·have:=qo (a:=a) hf (x:=x) hvx hx
     generalize a.eval x=xv at this ⊢
     cases this
     exact .nil sz true
   obtain ⟨us,m1,m2,m3,m4,m5⟩:=Xx hxr
   have hall:(us++news).length=(es.length + xs.length) * sz:=by rw [List.length_append,m1,n1,Nat.add_mul]
   have hone:∀ v∈us++news,v.oneCell'=true:=fun v hv'=>(List.mem_append.1 hv').elim (m3 v) (n3 v)
   have hcr:=m4.append m1 n4
   have hsmall:es.length + xs.length≤9223372036854775807:=by omega
   have hrun0:∀ {v':Value} {w':World},(Builtin.append_ #[ty,ty] o.type #[a.eval x,a.eval y]).run P w=.ok v' w'→(execOp a.eval o).run P w=.ok (.value v') w':=by
    intro v' w' h
    simp [execOp,hop,resolve,invoke,builtin,h]
   have hns:tin.size=sz:=by omega
   obtain ⟨cap,arr,hc1,hc2,hsize,htake,hrun⟩:∃ (cap:Nat) (arr:Array Value),es.length + xs.length≤cap∧cap≤maxLen∧arr.size=cap * sz∧arr.toList.take ((es.length + xs.length) * sz)=us++news ∧
     (execOp a.eval o).run P w=.ok (.value (.slice (some ⟨w.heap.size,0,none⟩) (es.length + xs.length) cap)) (w.drew.alloc (.cells arr e)):=by
    rcases n2 with ⟨hy0,hxl⟩|⟨ad',c',hy1,hy2,_,hxc⟩
    ·omega
    ·rcases m2 with ⟨e1,hel⟩|⟨ad1,c1,e1,e2,hfull,hle⟩
     ·have hes:es=[]:=List.eq_nil_of_length_eq_zero hel
      subst hes
      have hus:us=[]:=List.eq_nil_of_length_eq_zero (by simpa using m1)
      subst hus
      have hr:=run_append_nil (P:=P) w ty o.type e tin z (Zl htb hk) q1 (by rw [q4];exact hz) ad' xs.length c' news (by rw [hns];exact n1) hy2 (by omega) (by simp at hsmall;omega) (by rw [q3];simp at hbound;omega)
      refine ⟨grownCap w xs.length 0 e,news.toArray++Builtin.zeroCells z.cells (grownCap w xs.length 0 e - xs.length),by simpa using grownCap_ge w xs.length 0 e,grownCap_le_maxLen w _ _ e (by unfold maxLen;simp at hsmall;omega),?_,?_,?_⟩
      ·have:=grownCap_ge w xs.length 0 e
       simp only [Array.size_append,List.size_toArray,size_zeroCells,n1,z2]
       rw [←Nat.add_mul];first|done|(congr 1;omega)
      ·rw [Array.toList_append]
       simp only [List.length_nil,Nat.zero_add,List.nil_append]
       rw [←n1,List.take_left' rfl]
      ·rw [hrun0 (by rw [e1,hy1];exact hr)];simp
     ·have hc1:c1=es.length:=hfull rfl
      subst hc1
      have hr:=run_append_grow (P:=P) w ty o.type e tin z (Zl htb hk) q1 (by rw [q4];exact hz) ad1 es.length es.length us (by rw [hns];exact m1) e2 ad' xs.length c' news (by rw [hns];exact n1) hy2 (by omega) (by omega) (growslice_fits (by omega) (by rw [q3];exact hbound))
      refine ⟨grownCap w (es.length + xs.length) es.length e,us.toArray++news.toArray++Builtin.zeroCells z.cells (grownCap w (es.length + xs.length) es.length e - (es.length + xs.length)),grownCap_ge w _ _ e,grownCap_le_maxLen w _ _ e (by unfold maxLen;omega),?_,?_,?_⟩
      ·have:=grownCap_ge w (es.length + xs.length) es.length e
       simp only [Array.size_append,List.size_toArray,size_zeroCells,n1,m1,z2]
       rw [←Nat.add_mul,←Nat.add_mul];first|done|(congr 1;omega)
      ·rw [Array.toList_append,Array.toList_append]
       rw [←hall,List.take_left' (by simp)]
      ·rw [hrun0 (by rw [e1,hy1];exact hr)]
   have hevd:Evo K K w w.drew:=(Evo.refl hf.lt).drew
   have h3:=zbh (w:=w.drew) hevd.lt arr e ((es.length + xs.length) * sz)
   have hev:=hevd.trans h3
   have hlat:=hev.later hf.lt
   have hds:w.drew.heap.size=w.heap.size:=rfl
   refine ⟨_,_,_,hrun,hlat,hf.fresh hev hi ⟨us++news,⟨?_,.inr ⟨w.heap.size,cap,arr,?_,hf.below.size,?_,?_,hc2,hsize,?_⟩⟩,hsz,?_,?_⟩ ?_⟩
   ·rw [hall,List.length_append]
   ·simp
   ·have:=heap_alloc_new w.drew (.cells arr e);rw [hds] at this;exact this
   ·rw [List.length_append];exact hc1
   ·rw [List.length_append];exact htake
   ·intro k e' he'
    obtain ⟨r1,r2⟩:=hcr k e' he'
    exact ⟨r1,fun k c hc=>let ⟨v,e1,e2,e3⟩:=r2 k c hc;⟨v,e1,e2,e3.later hlat⟩⟩
   ·intro b hb o'
    simp [Value.ownBlock] at hb
    subst hb
    rw [List.length_append]
    constructor
    ·rintro (h|⟨_,h⟩)
     ·have:=hf.lt _ _ h;omega
     ·exact h
    ·intro h;exact .inr ⟨hds.symm,h⟩
   ·intro b hb;simp [zY] at hb;omega
theorem QW {ty e:TypeId} {x y:Operand} {sz d:Nat} {es xs:List PV} {full:Bool} (i:Nat) (htb:qp P tb) (hg:guardE ops env o=some true) (hop:o.op=.call { callee:=.builtin .append,args:=#[x,y],argTypes:=#[ty,ty] }) (hk:tb.k ty=.sl e)
  (hx:env.pv H x=some (.slc sz es true)∨(es=[]∧env.pv H x=some (.base (.slice none 0 0)))) (hy:env.pv H y=some (.slc sz xs full)) (hx0:0 < xs.length)
  (hzz:(match tb.get e with|some ti=>(match ti.zero with|some z=>ti.size==sz&&z.cells.size==sz&&Nat.blt 0 sz|none=>false)|none=>false)=true)
  (hbound:(es.length + xs.length) * (match tb.get e with|some ti=>ti.bytes|none=>0)≤140737488355328) (hb2:es.length + xs.length≤140737488355328) (hi:H.get i=none) (hd:o.dst=some d) (ht:Nat.blt d n=true)
  (h:AO P n g ops.toArray rest ((d,.own i)::env) ((i,.row e sz (es++xs))::H) Q):AO P n g ops.toArray (o::rest) env H Q:=by
 refine ⟨fun a w hinv=>?_⟩
 have hw:=qE hinv hg
 obtain ⟨h1,h2,K,ρ,hf,he⟩:=hinv
 refine wpList_step fun KK hKK=>?_
 rw [if_pos hw]
 obtain ⟨v',w',K',hrun,hlat,hf'⟩:=zci (a:=a) i htb hop hk hx hy hx0 hzz hbound hb2 hi hf (fun z _ av hz=>qQ he hz)
 unfold Oper.wp
 rw [hrun]
 simp only [Oper.upon]
 refine hKK _ _ (h.go _ _ ⟨Zg h1,put_defers h2,_,_,hf',?_⟩)
 rw [hd]
 refine Yp h1 ht (he.keeps hlat (qO hi _ _)) ?_
 have:=ARel.own (K:=K') (w:=w') (ρ:=fun j=>if j=i then v' else ρ j) (H:=(i,HE.row e sz (es++xs))::H) i (by simp [HEnv.get_nil,HEnv.get_cons])
 simpa using this
end
section
variable {P:Program} {tb:Tab} {g:Base} {H:HEnv} {env:Env} {o:Oper}
theorem zls {t e len:Nat} {x i:Operand} {cs:List PV} {k:IntKind} {m:Int} {p:PV} (j:Nat) (htb:qp P tb) (hop:o.op=.index t x i) (hk:tb.k t=.arr len e) (hke:tb.known e=true)
  (hx:env.pv H x=some (.agg cs)) (hi:env.pv H i=some (.base (.int k m))) (hm:m=(j:Int)) (hj:Nat.blt j len=true) (hp:zb6 tb e cs (j * tb.size e)=some p):QStep P g H o env (.pv p):=by
 subst hm
 refine ⟨fun K ρ a w hf hv=>?_⟩
 have hxr:=qo hf (hv x (by rw [hop];simp [Op.operands])) hx
 have hir:=qo hf (hv i (by rw [hop];simp [Op.operands])) hi
 generalize hxv:a.eval x=xv at hxr
 generalize hiv:a.eval i=iv at hir
 cases hir
 have hlt:j < len:=Nat.le_of_ble_eq_true hj
 have hko:tb.k e≠.oth:=by intro h;simp [Tab.known,h] at hke
 cases hxr with
 | agg _ vs h1 ho h2 =>
  obtain ⟨v,h3,h4⟩:=zco htb (P:=P) ⟨h1,h2⟩ ho hp w
  have hs:=run_sizeOf htb hko w
  have:(execOp a.eval o).run P w=.ok (.value v) w:=by
   simp [execOp,hop,hxv,hiv,Instr.index,asIntOf,run_underlying (zjV htb hk),hs,h3,hlt]
  rw [this]
  exact Yh hf (.pv _ _ h4)
theorem yc {t e len off:Nat} {x i:Operand} {p:PV} {k:IntKind} {m:Int} (j:Nat) (htb:qp P tb) (hop:o.op=.indexAddr t x i) (hk:tb.k t=.arr len e) (hke:tb.known e=true)
  (hx:env.val x=some (.pv (.ptr p off))) (hi:env.pv H i=some (.base (.int k m))) (hm:m=(j:Int)) (hj:Nat.blt j len=true):QStep P g H o env (.pv (.ptr p (off + j * tb.size e))):=by
 subst hm
 refine ⟨fun K ρ a w hf hv=>?_⟩
 have hxr:=hv x (by rw [hop];simp [Op.operands]) _ hx
 have hir:=qo hf (hv i (by rw [hop];simp [Op.operands])) hi
 generalize hxv:a.eval x=xv at hxr
 generalize hiv:a.eval i=iv at hir
 cases hir
 have hlt:j < len:=Nat.le_of_ble_eq_true hj
 have hko:tb.k e≠.oth:=by intro h;simp [Tab.known,h] at hke
 have hs:=run_sizeOf htb hko w
 cases hxr with
 | pv _ _ hp =>
  cases hp with
  | ptr _ _ b o' vs h1 h2 h3 =>
   have:(execOp a.eval o).run P w=.ok (.value (.pointer (some ⟨b,o' + (off + j * tb.size e),none⟩))) w:=by
    simp [execOp,hop,hxv,hiv,Instr.indexAt,asIntOf,run_underlying (zjV htb hk),hs,hlt,Instr.sureAddr,Addr.add_lit,Nat.add_assoc]
   rw [this]
   exact Yh hf (.pv _ _ (.ptr p _ b o' vs h1 h2 h3))
end
theorem zfx {P:Program} {tb:Tab} {g:Base} {H:HEnv} {env:Env} {o:Oper} {t e len:Nat} {parts:Array (Nat × Operand)} {z:Value} {cells:Array Value} (vs:List (Nat × Value)) (htb:qp P tb) (hop:o.op=.build t parts) (hk:tb.k t=.arr len e) (hke:tb.known e=true) (hz:tb.zero t=some z)
  (hp:parts.toList=vs.map fun x=>(x.1,.const x.2)) (hf:Instr.fill (fun i=>some (i * tb.size e,tb.size e)) z.cells vs=some cells) (hok:cells.toList.all Xh=true):QStep P g H o env (.pv (.agg (cells.toList.map .base))):=by
 refine ⟨fun K ρ a w hfs hv=>?_⟩
 have hko:tb.k e≠.oth:=by intro h;simp [Tab.known,h] at hke
 have hs:=run_sizeOf htb hko w
 have hzi:∃ i,P.info? t=some i∧i.zero=some z:=by
  unfold Tab.zero at hz
  split at hz
  ·rename_i ti hti
   obtain ⟨i,e1,_,_,e4,_⟩:=ZH htb hti
   exact ⟨i,e1,by rw [e4];exact hz⟩
  ·cases hz
 obtain ⟨i,hi,hiz⟩:=hzi
 have hp2:(parts.map fun x=>(x.1,a.eval x.2)).toList=vs:=by
  rw [Array.toList_map,hp,List.map_map]
  conv=>rhs;rw [←List.map_id vs]
  apply List.map_congr_left
  intro x _
  rfl
 have hrun:(execOp a.eval o).run P w=.ok (.value (.agg cells)) w:=by
  simp only [execOp,hop,Instr.build,Sem.run_bind,zeroValue,typeInfo,run_program,hi,hiz,Result.andThen_ok,Sem.run_pure,run_underlying (zjV htb hk),hs,hp2,hf]
 rw [hrun]
 have hone:=List.all_eq_true.1 hok
 refine Yh hfs (.pv _ _ ?_)
 have:=PRel.agg (K:=K) (w:=w) (cells.toList.map .base) cells.toList (by simp) (fun v hv=>zgD (hone v hv)) (fun k c v hc hv=>by
  rw [List.getElem?_map] at hc
  rw [hv] at hc
  simp at hc;subst hc
  exact .base v (hone v (List.mem_of_getElem? hv)))
 simpa using this
end Go.Cg
namespace Go.Cg
open Go.Proofs
set_option maxHeartbeats 20000000
def u8s (l:List Int):PV:=.slc 1 (l.map fun n=>.base (.int .u8 n)) false
theorem zpU (n:Int) (h0:0≤n) (h1:n≤128):ACall Tryz.prog 299 [pi n] (pi (if n < 128 then 1 else 2)):=by
 refine zh zf Tryz.func299 rfl (by kernel_rfl) Tryz.ntmps299 (by simp) _ rfl (fun hw gB hgB=>?_)
 by_cases h:n < 128
 ·repeat' (first|refine sK ?_|refine sC (fun _=>?_) (fun _=>?_)|fail)
  exact retq rfl (by simp [zk,h])
 ·repeat' (first|refine sK ?_|refine sC (fun _=>?_) (fun _=>?_)|fail)
  exact retq rfl (by simp [zk,h])
theorem zpl (r:Int) (h0:1≤r) (h1:r≤32):ACall Tryz.prog 283 [pi 0,pi r] (.tup [pi (4 * r),pi 0]):=by
 refine zh zf Tryz.func283 rfl (by kernel_rfl) Tryz.ntmps283 (by simp) _ rfl (fun hw gB hgB=>?_)
 have hfin:∀ n:Fin 33,IntKind.i64.wrap ((BitVec.ofInt IntKind.i64.bits (IntKind.i64.wrap ((n.val:Int) * 2 ^ (min (Int.toNat 2) IntKind.i64.bits))) ||| BitVec.ofInt IntKind.i64.bits 0).toNat:Int)=4 * (n.val:Int):=by decide +kernel
 have hr:=hfin ⟨r.toNat,by omega⟩
 simp only [Int.toNat_of_nonneg (show 0≤r by omega)] at hr
 repeat' (first|refine zB rfl (ztU rfl rfl rfl (by decide)) rfl rfl ?_|refine sK ?_|refine sC (fun _=>?_) (fun _=>?_)|fail)
 exact retq rfl (by simp only [zk,hr])
theorem zfN (l:List Int) (hne:l≠[]) (hb:l.length≤100000):ACallR Tryz.prog 300 [u8s l] 5 1 (l.map fun n=>.base (.int .u8 n)):=by
 refine zey (t:=2) Tryz.func300 rfl (by kernel_rfl) Tryz.ntmps300 (by simp) rfl (fun hw gB hgB=>?_)
 repeat' (first|refine XH zf rfl rfl rfl rfl rfl rfl rfl (fun bb hbb=>?_)|refine zB rfl (YK zf rfl rfl rfl rfl rfl) rfl rfl ?_|(refine yH ?_;first|refine QW 0 zf rfl rfl rfl (.inl rfl) rfl (by have:=List.length_pos_iff.2 hne;simpa using this) rfl (by show _ * 1≤_;simp;omega) (by simp;omega) rfl rfl rfl ?_)|refine sA ?_|refine sC (fun _=>?_) (fun _=>?_)|fail)
 ·rename_i hx
  exact (hne (by simpa using hbb hx)).elim
 ·exact ⟨.inr rfl,0,rfl,rfl⟩
def byteOf (X i:Int):Int:=IntKind.u8.wrap (X.fdiv (2 ^ (min (IntKind.i64.wrap (8 * i)).toNat IntKind.u32.bits)))
def bytesOf (X:Int) (k:Nat):List Int:=(List.range k).map fun m=>byteOf X ((k:Int) - 1 - (m:Nat))
abbrev u8c (n:Int):PV:=.base (.int .u8 n)
theorem zev {X:Int} {k m:Nat} (h:m < k):(bytesOf X k).take (m + 1)=(bytesOf X k).take m++[byteOf X ((k:Int) - 1 - (m:Nat))]:=by
 have hl:m < (bytesOf X k).length:=by simpa [bytesOf] using h
 rw [List.take_succ_eq_append_getElem hl]
 simp [bytesOf]
theorem zfz {X:Int} {k:Nat}:(bytesOf X k).take k=bytesOf X k:=List.take_of_length_le (by simp [bytesOf])
theorem ziY (l:List Int) (hne:l≠[]) (hb:l.length≤1000) (n:Int) (h0:0≤n) (h1:n≤128):∃ bs:List Int,ACall Tryz.prog 284 [u8s l,pi n] (.tup [u8s (l++bs),pi 0]):=by
 have c1:=zpU n h0 (by omega)
 by_cases hn:n < 128
 ·rw [if_pos hn] at c1
  obtain ⟨X,hX⟩:∃ X,IntKind.u32.wrap ((BitVec.ofInt IntKind.u32.bits (IntKind.u32.wrap n) ||| BitVec.ofInt IntKind.u32.bits 0).toNat:Int)=X:=⟨_,rfl⟩
  refine ⟨bytesOf X 1,?_⟩
  refine zh zf Tryz.func284 rfl (by kernel_rfl) Tryz.ntmps284 (by simp) _ rfl (fun hw gB hgB=>?_)
  repeat' (first|refine zB rfl (zfx [(2,.int .u32 32768),(4,.int .u32 3221225472)] zf rfl rfl rfl rfl rfl rfl rfl) rfl rfl ?_|refine zB rfl (zls 1 zf rfl rfl rfl rfl rfl rfl rfl rfl) rfl rfl ?_|refine zcd 0 rfl rfl rfl (zfN l hne (by omega)) (by decide) rfl rfl rfl ?_|(refine shC ?_;first|refine qC c1 ?_)|refine sK ?_|refine sC (fun _=>?_) (fun _=>?_)|fail)
  refine zJ (fun m:Nat=>[(7,.pv (.base (.int .u32 X))),(8,.own 0),(9,.pv (pi (((1:Nat):Int) - 1 - (m:Nat))))]) (fun m=>[(0,.row 5 1 ((l++(bytesOf X 1).take m).map u8c))]) (fun m=>m≤1) (fun m=>1 - m) 0 (by omega) (by repeat (first|exact yS|refine yG rfl ?_|(refine Zc rfl ?_ ?_;· first|exact hX|rfl))) ⟨qG rfl (by simp) zK,rfl⟩ ?_
  rintro m hm
  by_cases hlt:m < 1
  ·have hs0:0≤IntKind.i64.wrap (8 * (((1:Nat):Int) - 1 - (m:Nat))):=by rw [wrap_in (by omega) (by omega)];omega
   repeat' (first|refine zB rfl (zsX rfl rfl rfl hs0) rfl rfl ?_|(refine yH ?_;first|refine yU zf rfl rfl rfl rfl rfl rfl rfl (by show _ * 1≤_;simp [bytesOf];omega) (by simp [bytesOf];omega) rfl rfl ?_)|refine sK ?_|refine sC (fun _=>?_) (fun _=>?_)|fail)
   exact ⟨m + 1,hlt,tD,by repeat (first|exact yS|refine yG rfl ?_|(refine Zc rfl ?_ ?_;· (rw [wrap_in (by omega) (by omega)];omega))),⟨qG rfl (by rw [zev hlt];simp [byteOf]) zK,rfl⟩⟩
  ·have:m=1:=by omega
   subst this
   repeat' (first|refine sK ?_|refine sC (fun _=>?_) (fun _=>?_)|fail)
   exact retq rfl (by rw [zfz];rfl)
 ·rw [if_neg hn] at c1
  obtain rfl:n=128:=by omega
  obtain ⟨X,hX⟩:∃ X,IntKind.u32.wrap ((BitVec.ofInt IntKind.u32.bits (IntKind.u32.wrap 128) ||| BitVec.ofInt IntKind.u32.bits 32768).toNat:Int)=X:=⟨_,rfl⟩
  refine ⟨bytesOf X 2,?_⟩
  refine zh zf Tryz.func284 rfl (by kernel_rfl) Tryz.ntmps284 (by simp) _ rfl (fun hw gB hgB=>?_)
  repeat' (first|refine zB rfl (zfx [(2,.int .u32 32768),(4,.int .u32 3221225472)] zf rfl rfl rfl rfl rfl rfl rfl) rfl rfl ?_|refine zB rfl (zls 2 zf rfl rfl rfl rfl rfl rfl rfl rfl) rfl rfl ?_|refine zcd 0 rfl rfl rfl (zfN l hne (by omega)) (by decide) rfl rfl rfl ?_|(refine shC ?_;first|refine qC c1 ?_)|refine sK ?_|refine sC (fun _=>?_) (fun _=>?_)|fail)
  refine zJ (fun m:Nat=>[(7,.pv (.base (.int .u32 X))),(8,.own 0),(9,.pv (pi (((2:Nat):Int) - 1 - (m:Nat))))]) (fun m=>[(0,.row 5 1 ((l++(bytesOf X 2).take m).map u8c))]) (fun m=>m≤2) (fun m=>2 - m) 0 (by omega) (by repeat (first|exact yS|refine yG rfl ?_|(refine Zc rfl ?_ ?_;· first|exact hX|rfl))) ⟨qG rfl (by simp) zK,rfl⟩ ?_
  rintro m hm
  by_cases hlt:m < 2
  ·have hs0:0≤IntKind.i64.wrap (8 * (((2:Nat):Int) - 1 - (m:Nat))):=by rw [wrap_in (by omega) (by omega)];omega
   have hge:decide (0≤((2:Nat):Int) - 1 - (m:Nat))=true:=by simp;omega
   repeat' (first|refine zB rfl (zsX rfl rfl rfl hs0) rfl rfl ?_|(refine yH ?_;first|refine yU zf rfl rfl rfl rfl rfl rfl rfl (by show _ * 1≤_;simp [bytesOf];omega) (by simp [bytesOf];omega) rfl rfl ?_)|refine sK ?_|refine sC (fun _=>?_) (fun _=>?_)|fail)
   exact ⟨m + 1,hlt,tD,by repeat (first|exact yS|refine yG rfl ?_|(refine Zc rfl ?_ ?_;· (rw [wrap_in (by omega) (by omega)];omega))),⟨qG rfl (by rw [zev hlt];simp [byteOf]) zK,rfl⟩⟩
  ·have:m=2:=by omega
   subst this
   repeat' (first|refine sK ?_|refine sC (fun _=>?_) (fun _=>?_)|fail)
   exact retq rfl (by rw [zfz];rfl)
end Go.Cg
set_option linter.unusedVariables false
set_option linter.unusedSimpArgs false
namespace Go.Cg
open Go.Proofs Go.Shelf Go.RowKit Go.Lib
set_option maxHeartbeats 20000000
theorem zo8 (d:Int) (hd:d=0∨d=1∨d=2∨d=3) (w:World):Calls Tryz.prog 309 #[.int .u64 1,.int .u64 d] w fun e w'=>e=.returned (.tuple #[.int .u64 0,.int .u64 d])∧w'=w:=by
 rcases hd with rfl|rfl|rfl|rfl
 all_goals
  go_enter Tryz.func309,Tryz.ntmps309
  go_wp2
  go_ret2
  exact ⟨by kernel_rfl,rfl⟩
theorem zgh (d:Int) (hd:d=0∨d=1∨d=2∨d=3) (w:World):Calls Tryz.prog 298 #[.int .u64 1,.int .u64 d] w fun e w'=>e=.returned (.tuple #[.int .u64 0,.int .u64 d])∧w'=w:=by
 have h1:=zo8 d hd
 go_enter Tryz.func298,Tryz.ntmps298
 go_wp2_with (refine (h1 _).mono ?_;rintro e w' ⟨rfl,rfl⟩)
 go_ret2
 exact ⟨rfl,rfl⟩
theorem info5:∃ i,Tryz.prog.info? 5=some i∧i.zero=some (.int .u8 0)∧i.size=1∧i.bytes=1:=by
 obtain ⟨i,h1,h2,h3,h4,_⟩:=ZH (t:=5) zf rfl
 exact ⟨i,h1,h4,h2,h3⟩
theorem Addr.add_zero' (a:Addr):a.add 0=a:=by cases a;rfl
theorem zax {w:World} {a:Addr} {v:Value} (o:Obj) (h:w.cell? a=some v):(w.alloc o).cell? a=some v:=by
 have hlt:a.block < w.heap.size:=by
  unfold World.cell? at h
  split at h
  ·rename_i hb;exact (Array.getElem?_eq_some_iff.1 hb).1
  ·cases h
 have hb:Below w.heap.size w (w.alloc o):=(Below.refl _ _).alloc (Nat.le_refl _) _
 unfold World.cell? at h ⊢
 rw [hb.block _ hlt];exact h
set_option maxRecDepth 100000 in
theorem zmk (v:Int) (ad:Addr) (c:Nat) (w:World) (hv:w.cell? ad=some (.int .u8 v)):Calls Tryz.prog 282 #[.slice (some ad) 1 c,.int .i64 1] w fun e w' =>
  e=.returned (.slice (some ⟨w.heap.size,0,none⟩) 1 1)∧w'.heap[w.heap.size]?=some (.cells #[.int .u8 v] 5 (0,0))∧Below w.heap.size w w':=by
 obtain ⟨i0,hi0,hz0,hs0,hb0⟩:=info5
 have h1:=zgh 1 (by decide)
 have hmk:∀ w:World,(Instr.makeSlice 226 (.int .i64 1) (.int .i64 1)).run Tryz.prog w=.ok (.slice (some ⟨w.heap.size,0,none⟩) 1 1) (w.alloc (.cells #[.int .u8 0] 5)):=fun w=>by
  have:=run_makeSlice (P:=Tryz.prog) w 226 5 i0 (.int .u8 0) Tryz.underlying226 hi0 hz0 .i64 .i64 1 1 (by omega) (by omega) (by simp [hs0]) (by simp [hb0]) (by omega)
  rw [hs0] at this
  have e:madeCells (Value.int .u8 0).cells (Int.toNat 1 * 1)=#[.int .u8 0]:=by simp [madeCells,Value.cells,Array.range];rfl
  rw [e] at this
  exact this
 have hsz:(Tryz.prog.info? 5).map (·.size)=some 1:=by rw [hi0];simp [hs0]
 go_enter Tryz.func282,Tryz.ntmps282
 go_wp2_with (first|(refine (h1 _).mono ?_;rintro e w2 ⟨rfl,hw2⟩;rw [hw2];clear hw2 w2)|(refine wpList_copy_splice rfl _ _ _ _ rfl 5 Tryz.underlying226 hsz _ _ _ _ _ _ rfl rfl w.heap.size 0 [.int .u8 0] 5 ?_ [.int .u8 v] (by rfl) ?_ (by simp) (by simp [Value.oneCell']) w.heap.size w ?_ (Nat.le_refl _) ?_))
 ·exact heap_alloc_new w _
 ·intro j u hj
  cases j with
  | zero =>
   simp at hj;subst hj
   rw [Addr.add_zero',zax _ hv]
  | succ j=>simp at hj
 ·exact (Below.refl _ _).alloc (Nat.le_refl _) _
 ·intro w2 hh hb
  go_wp2
  refine wp_loop_once ?_
  go_wp2
  go_ret
  exact ⟨rfl,by simpa [splice] using (show _=_ from hh),hb⟩
end Go.Cg
set_option linter.unusedVariables false
set_option linter.unusedSimpArgs false
namespace Go.Cg
open Go.Proofs Go.Shelf Go.RowKit Go.Lib
set_option maxHeartbeats 4000000 in
set_option maxRecDepth 100000 in
theorem zlZ (v:Int) (ad:Addr) (c:Nat) (w:World) (hv:w.cell? ad=some (.int .u8 v)):Calls Tryz.prog 282 #[.slice (some ad) 1 c,.int .i64 2] w fun e w' =>
  e=.returned (.slice (some ⟨w.heap.size,0,none⟩) 2 2)∧w'.heap[w.heap.size]?=some (.cells #[.int .u8 v,.int .u8 v] 5 (0,0))∧Below w.heap.size w w':=by
 obtain ⟨i0,hi0,hz0,hs0,hb0⟩:=info5
 have h1:=zgh 2 (by decide)
 have hmk:∀ w:World,(Instr.makeSlice 226 (.int .i64 2) (.int .i64 2)).run Tryz.prog w=.ok (.slice (some ⟨w.heap.size,0,none⟩) 2 2) (w.alloc (.cells #[.int .u8 0,.int .u8 0] 5)):=fun w=>by
  have:=run_makeSlice (P:=Tryz.prog) w 226 5 i0 (.int .u8 0) Tryz.underlying226 hi0 hz0 .i64 .i64 2 2 (by omega) (by omega) (by simp [hs0]) (by simp [hb0]) (by omega)
  rw [hs0] at this
  have e:madeCells (Value.int .u8 0).cells (Int.toNat 2 * 1)=#[.int .u8 0,.int .u8 0]:=by simp [madeCells,Value.cells,Array.range];rfl
  rw [e] at this
  exact this
 have hsz:(Tryz.prog.info? 5).map (·.size)=some 1:=by rw [hi0];simp [hs0]
 go_enter Tryz.func282,Tryz.ntmps282
 go_wp2_with (first|(refine (h1 _).mono ?_;rintro e w2 ⟨rfl,hw2⟩;rw [hw2];clear hw2 w2)|(refine wpList_copy_splice rfl _ _ _ _ rfl 5 Tryz.underlying226 hsz _ _ _ _ _ _ rfl rfl w.heap.size 0 [.int .u8 0,.int .u8 0] 5 ?_ [.int .u8 v] (by rfl) ?_ (by simp) (by simp [Value.oneCell']) w.heap.size w ?_ (Nat.le_refl _) ?_))
 ·exact heap_alloc_new w _
 ·intro j u hj
  cases j with
  | zero =>
   simp at hj;subst hj
   rw [Addr.add_zero',zax _ hv]
  | succ j=>simp at hj
 ·exact (Below.refl _ _).alloc (Nat.le_refl _) _
 ·intro w2 hh hb
  have hh':w2.heap[w.heap.size]?=some (.cells #[.int .u8 v,.int .u8 0] 5 (0,0)):=by simpa [splice] using (show _=_ from hh)
  go_wp2
  refine wp_loop_rounds 2 ?_
  unfold Code.rounds
  go_wp2
  have hsrc:∀ j u,([.int .u8 v]:List Value)[j]?=some u→w2.cell? ((⟨w.heap.size,0,none⟩:Addr).add j)=some u:=by
   intro j u hj
   cases j with
   | zero=>simp at hj;subst hj;rw [Addr.add_zero'];simp [World.cell?,hh']
   | succ j=>simp at hj
  go_region_law (refine step_copy_splice rfl (.tmp 41) (.tmp 44) 226 226 rfl 5 Tryz.underlying226 hsz (some ⟨w.heap.size,1,none⟩) (some ⟨w.heap.size,0,none⟩) 1 1 1 2 (by simp [Act.eval,Act.put]) (by simp [Act.eval,Act.put]) w.heap.size 1 [.int .u8 v,.int .u8 0] 5 hh' [.int .u8 v] (by rfl) (fun _=>⟨rfl,_,rfl,hsrc⟩) (by simp) (by simp [Value.oneCell']) w.heap.size w hb.drew (Nat.le_refl _) ?_;intro w3 hh3 hb3)
  go_wp2
  rw [rounds_succ]
  go_wp2
  go_ret
  exact ⟨rfl,by simpa [splice] using (show _=_ from hh3),hb3⟩
end Go.Cg
set_option linter.unusedVariables false
set_option linter.unusedSimpArgs false
namespace Go.Cg
open Go.Proofs Go.Shelf Go.RowKit Go.Lib
set_option maxHeartbeats 4000000 in
set_option maxRecDepth 100000 in
theorem zmb (v:Int) (ad:Addr) (c:Nat) (w:World) (hv:w.cell? ad=some (.int .u8 v)):Calls Tryz.prog 282 #[.slice (some ad) 1 c,.int .i64 3] w fun e w' =>
  e=.returned (.slice (some ⟨w.heap.size,0,none⟩) 3 3)∧w'.heap[w.heap.size]?=some (.cells #[.int .u8 v,.int .u8 v,.int .u8 v] 5 (0,0))∧Below w.heap.size w w':=by
 obtain ⟨i0,hi0,hz0,hs0,hb0⟩:=info5
 have h1:=zgh 3 (by decide)
 have hmk:∀ w:World,(Instr.makeSlice 226 (.int .i64 3) (.int .i64 3)).run Tryz.prog w=.ok (.slice (some ⟨w.heap.size,0,none⟩) 3 3) (w.alloc (.cells #[.int .u8 0,.int .u8 0,.int .u8 0] 5)):=fun w=>by
  have:=run_makeSlice (P:=Tryz.prog) w 226 5 i0 (.int .u8 0) Tryz.underlying226 hi0 hz0 .i64 .i64 3 3 (by omega) (by omega) (by simp [hs0]) (by simp [hb0]) (by omega)
  rw [hs0] at this
  have e:madeCells (Value.int .u8 0).cells (Int.toNat 3 * 1)=#[.int .u8 0,.int .u8 0,.int .u8 0]:=by simp [madeCells,Value.cells,Array.range];rfl
  rw [e] at this
  exact this
 have hsz:(Tryz.prog.info? 5).map (·.size)=some 1:=by rw [hi0];simp [hs0]
 go_enter Tryz.func282,Tryz.ntmps282
 go_wp2_with (first|(refine (h1 _).mono ?_;rintro e w2 ⟨rfl,hw2⟩;rw [hw2];clear hw2 w2)|(refine wpList_copy_splice rfl _ _ _ _ rfl 5 Tryz.underlying226 hsz _ _ _ _ _ _ rfl rfl w.heap.size 0 [.int .u8 0,.int .u8 0,.int .u8 0] 5 ?_ [.int .u8 v] (by rfl) ?_ (by simp) (by simp [Value.oneCell']) w.heap.size w ?_ (Nat.le_refl _) ?_))
 ·exact heap_alloc_new w _
 ·intro j u hj
  cases j with
  | zero =>
   simp at hj;subst hj
   rw [Addr.add_zero',zax _ hv]
  | succ j=>simp at hj
 ·exact (Below.refl _ _).alloc (Nat.le_refl _) _
 ·intro w2 hh hb
  have hh':w2.heap[w.heap.size]?=some (.cells #[.int .u8 v,.int .u8 0,.int .u8 0] 5 (0,0)):=by simpa [splice] using (show _=_ from hh)
  go_wp2
  refine wp_loop_rounds 3 ?_
  unfold Code.rounds
  go_wp2
  have hsrc:∀ j u,([.int .u8 v]:List Value)[j]?=some u→w2.cell? ((⟨w.heap.size,0,none⟩:Addr).add j)=some u:=by
   intro j u hj
   cases j with
   | zero=>simp at hj;subst hj;rw [Addr.add_zero'];simp [World.cell?,hh']
   | succ j=>simp at hj
  go_region_law (refine step_copy_splice rfl (.tmp 41) (.tmp 44) 226 226 rfl 5 Tryz.underlying226 hsz (some ⟨w.heap.size,1,none⟩) (some ⟨w.heap.size,0,none⟩) 2 2 1 3 (by simp [Act.eval,Act.put]) (by simp [Act.eval,Act.put]) w.heap.size 1 [.int .u8 v,.int .u8 0,.int .u8 0] 5 hh' [.int .u8 v] (by rfl) (fun _=>⟨rfl,_,rfl,hsrc⟩) (by simp) (by simp [Value.oneCell']) w.heap.size w hb.drew (Nat.le_refl _) ?_;intro w3 hh3 hb3)
  have hh3':w3.heap[w.heap.size]?=some (.cells #[.int .u8 v,.int .u8 v,.int .u8 0] 5 (0,0)):=by simpa [splice] using (show _=_ from hh3)
  go_wp2
  rw [rounds_succ]
  go_wp2
  have hsrc3:∀ j u,([.int .u8 v]:List Value)[j]?=some u→w3.cell? ((⟨w.heap.size,0,none⟩:Addr).add j)=some u:=by
   intro j u hj
   cases j with
   | zero=>simp at hj;subst hj;rw [Addr.add_zero'];simp [World.cell?,hh3']
   | succ j=>simp at hj
  go_region_law (refine step_copy_splice rfl (.tmp 41) (.tmp 44) 226 226 rfl 5 Tryz.underlying226 hsz (some ⟨w.heap.size,2,none⟩) (some ⟨w.heap.size,0,none⟩) 1 1 2 3 (by simp [Act.eval,Act.put]) (by simp [Act.eval,Act.put]) w.heap.size 2 [.int .u8 v,.int .u8 v,.int .u8 0] 5 hh3' [.int .u8 v] (by rfl) (fun _=>⟨rfl,_,rfl,hsrc3⟩) (by simp) (by simp [Value.oneCell']) w.heap.size w hb3.drew (Nat.le_refl _) ?_;intro w4 hh4 hb4)
  go_wp2
  rw [rounds_succ]
  go_wp2
  go_ret
  exact ⟨rfl,by simpa [splice] using (show _=_ from hh4),hb4⟩
end Go.Cg
set_option linter.unusedVariables false
set_option linter.unusedSimpArgs false
namespace Go.Cg
open Go.Proofs Go.Shelf Go.RowKit Go.Lib
set_option maxHeartbeats 4000000 in
set_option maxRecDepth 100000 in
theorem zlh (v:Int) (ad:Addr) (c:Nat) (w:World) (hv:w.cell? ad=some (.int .u8 v)):Calls Tryz.prog 282 #[.slice (some ad) 1 c,.int .i64 0] w fun e w' =>
  e=.returned (.slice (some ⟨w.heap.size,0,none⟩) 0 0)∧w'.heap[w.heap.size]?=some (.cells #[] 5 (0,0))∧Below w.heap.size w w':=by
 obtain ⟨i0,hi0,hz0,hs0,hb0⟩:=info5
 have h1:=zgh 0 (by decide)
 have hmk:∀ w:World,(Instr.makeSlice 226 (.int .i64 0) (.int .i64 0)).run Tryz.prog w=.ok (.slice (some ⟨w.heap.size,0,none⟩) 0 0) (w.alloc (.cells #[] 5)):=fun w=>by
  have:=run_makeSlice (P:=Tryz.prog) w 226 5 i0 (.int .u8 0) Tryz.underlying226 hi0 hz0 .i64 .i64 0 0 (by omega) (by omega) (by simp [hs0]) (by simp [hb0]) (by omega)
  rw [hs0] at this
  have e:madeCells (Value.int .u8 0).cells (Int.toNat 0 * 1)=#[]:=by simp [madeCells]
  rw [e] at this
  exact this
 have hsz:(Tryz.prog.info? 5).map (·.size)=some 1:=by rw [hi0];simp [hs0]
 go_enter Tryz.func282,Tryz.ntmps282
 go_wp2_with (first|(refine (h1 _).mono ?_;rintro e w2 ⟨rfl,hw2⟩;rw [hw2];clear hw2 w2)|(refine wpList_copy_splice rfl _ _ _ _ rfl 5 Tryz.underlying226 hsz _ _ _ _ _ _ rfl rfl w.heap.size 0 [] 5 ?_ [] (by rfl) (fun h=>by simp at h) (by simp) (by simp) w.heap.size w ?_ (Nat.le_refl _) ?_))
 ·exact heap_alloc_new w _
 ·exact (Below.refl _ _).alloc (Nat.le_refl _) _
 ·intro w2 hh hb
  go_wp2
  refine wp_loop_once ?_
  go_wp2
  go_ret
  exact ⟨rfl,by simpa [splice] using (show _=_ from hh),hb⟩
theorem zcU {K:Cg.KK} {w w':World} (hl:∀ b o,K b o→b < w.heap.size) {t:TypeId} (l:List Int) (hb:Below w.heap.size w w') (hh:w'.heap[w.heap.size]?=some (.cells (l.map fun n=>Value.int .u8 n).toArray t (0,0))) (hlen:l.length≤maxLen) :
  ∃ K',Evo K K' w w'∧PRel K' w' (.slc 1 (l.map fun n=>.base (.int .u8 n)) false) (.slice (some ⟨w.heap.size,0,none⟩) l.length l.length):=by
 have hlt:w.heap.size < w'.heap.size:=(Array.getElem?_eq_some_iff.1 hh).1
 refine ⟨zbD K w l.length,⟨hb,fun b o h=>.inl h,fun b o h=>h.imp id (fun ⟨h1,_⟩=>by omega),fun b o h=>?_⟩,?_⟩
 ·rcases h with h|⟨h,_⟩
  ·have:=hl b o h;omega
  ·omega
 ·have hcell:∀ (k:Nat) (v:Value),(l.map fun n=>Value.int .u8 n)[k]?=some v→w'.cell? ⟨w.heap.size,k,none⟩=some v:=by
   intro k v hv
   simp only [World.cell?,hh]
   simpa using hv
  have:=PRel.slc (K:=zbD K w l.length) (w:=w') 1 (l.map fun n=>.base (.int .u8 n)) false w.heap.size 0 l.length (fun i=>[Value.int .u8 (l.getD i 0)]) (by omega) (by simp) (by simp) (by simpa using hlen) hlen
   (fun i e he=>by
    rw [List.getElem?_map] at he
    cases hi:l[i]? with
    | none=>simp [hi] at he
    | some n =>
     simp [hi] at he;subst he
     refine ⟨rfl,rfl,fun k v hv=>?_⟩
     cases k with
     | zero =>
      simp [List.getD_eq_getElem?_getD,hi] at hv;subst hv
      refine ⟨.inr ⟨rfl,by have:=(List.getElem?_eq_some_iff.1 hi).1;omega⟩,?_,rfl⟩
      have:=hcell i (.int .u8 n) (by simp [hi])
      simpa using this
     | succ k=>simp at hv)
   (fun i e k c v he hc hv=>by
    rw [List.getElem?_map] at he
    cases hi:l[i]? with
    | none=>simp [hi] at he
    | some n =>
     simp [hi] at he;subst he
     cases k with
     | zero =>
      simp [PV.cells] at hc;subst hc
      simp [List.getD_eq_getElem?_getD,hi] at hv;subst hv
      exact .base _ rfl
     | succ k=>simp [PV.cells] at hc)
  simpa using this
theorem zcc (v d:Int) (h0:0≤d) (h1:d≤3):ACall Tryz.prog 282 [.slc 1 [.base (.int .u8 v)] true,pi d] (.slc 1 ((List.replicate d.toNat v).map fun n=>.base (.int .u8 n)) false):=by
 refine ⟨⟨_,Tryz.func282,rfl,by kernel_rfl⟩,fun K w vs hl hv=>?_⟩
 obtain ⟨v0,vs0,rfl,r0,hv0⟩:=hv.cons_inv
 obtain ⟨v1,vs1,rfl,r1,hv1⟩:=hv0.cons_inv
 obtain rfl:=hv1.nil_inv
 cases r1
 cases r0 with
 | slc _ _ _ b o cap vss q0 q1 q2 q3 q4 q5 q6 =>
  obtain ⟨_,e2,e3⟩:=q5 0 _ rfl
  have hvs:vss 0=[Value.int .u8 v]:=by
   cases hx:vss 0 with
   | nil=>rw [hx] at e2;simp at e2
   | cons x xs =>
    rw [hx] at e2
    have:xs=[]:=List.eq_nil_of_length_eq_zero (by simpa using e2)
    subst this
    have:=q6 0 _ 0 _ x rfl rfl (by rw [hx];rfl)
    cases this;rfl
  have hc:w.cell? ⟨b,o,none⟩=some (.int .u8 v):=by
   have:=(e3 0 (.int .u8 v) (by rw [hvs];rfl)).2.1
   simpa using this
  have hd:d=0∨d=1∨d=2∨d=3:=by omega
  rcases hd with rfl|rfl|rfl|rfl
  ·refine (zlh v _ cap w hc).mono ?_
   rintro e w' ⟨rfl,hh,hb⟩
   obtain ⟨K',g1,g2⟩:=zcU hl [] hb hh (by simp)
   exact ⟨_,K',rfl,g1,g2⟩
  ·refine (zmk v _ cap w hc).mono ?_
   rintro e w' ⟨rfl,hh,hb⟩
   obtain ⟨K',g1,g2⟩:=zcU hl [v] hb hh (by simp [maxLen])
   exact ⟨_,K',rfl,g1,g2⟩
  ·refine (zlZ v _ cap w hc).mono ?_
   rintro e w' ⟨rfl,hh,hb⟩
   obtain ⟨K',g1,g2⟩:=zcU hl [v,v] hb hh (by simp [maxLen])
   exact ⟨_,K',rfl,g1,g2⟩
  ·refine (zmb v _ cap w hc).mono ?_
   rintro e w' ⟨rfl,hh,hb⟩
   obtain ⟨K',g1,g2⟩:=zcU hl [v,v,v] hb hh (by simp [maxLen])
   exact ⟨_,K',rfl,g1,g2⟩
end Go.Cg
namespace Go.Cg
open Go.RowKit
theorem zbj {P:Program} {tb:Tab} {g:Base} {H:HEnv} {env:Env} {o:Oper} {ty e:TypeId} {x y:Operand} {sz:Nat} {es:List PV} {full full':Bool} (htb:qp P tb) (hop:o.op=.call { callee:=.builtin .append,args:=#[x,y],argTypes:=#[ty,ty] }) (hk:tb.k ty=.sl e)
  (hx:env.pv H x=some (.slc sz es full)) (hy:env.pv H y=some (.slc sz [] full')) (hke:tb.known e=true):QStep P g H o env (.pv (.slc sz es full)):=by
 refine ⟨fun K ρ a w hf hv=>?_⟩
 have hyr:=qo hf (hv y (by rw [hop];simp [Op.operands,Call.operands])) hy
 have hxr:=qo hf (hv x (by rw [hop];simp [Op.operands,Call.operands])) hx
 obtain ⟨news,n1,n2,n3,n4,n5⟩:=Xx hyr
 obtain ⟨us,m1,m2,m3,m4,m5⟩:=Xx hxr
 have hnews:news=[]:=List.eq_nil_of_length_eq_zero (by simpa using n1)
 have hko:tb.k e≠.oth:=by intro h;simp [Tab.known,h] at hke
 have hs:=run_sizeOf (P:=P) htb hko
 have hrun:(Builtin.append_ #[ty,ty] o.type #[a.eval x,a.eval y]).run P w=.ok (a.eval x) w:=by
  rcases n2 with ⟨hy0,_⟩|⟨ad',c',hy1,hy2,_,hxc⟩
  ·rcases m2 with ⟨e1,_⟩|⟨ad1,c1,e1,_,_,hle⟩
   ·rw [e1,hy0];simp [Builtin.append_,run_underlying (Zl htb hk),hs,Builtin.lenOf,Builtin.firstCells]
   ·rw [e1,hy0];simp [Builtin.append_,run_underlying (Zl htb hk),hs,Builtin.lenOf,Builtin.firstCells,hle,storeCells]
  ·rcases m2 with ⟨e1,_⟩|⟨ad1,c1,e1,_,_,hle⟩
   ·rw [e1,hy1];simp [Builtin.append_,run_underlying (Zl htb hk),hs,Builtin.lenOf,Builtin.firstCells,loadCells,loadCellsFrom]
   ·rw [e1,hy1];simp [Builtin.append_,run_underlying (Zl htb hk),hs,Builtin.lenOf,Builtin.firstCells,hle,storeCells,loadCells,loadCellsFrom]
 have:(execOp a.eval o).run P w=.ok (.value (a.eval x)) w:=by
  simp [execOp,hop,resolve,invoke,builtin,hrun]
 rw [this]
 exact Yh hf (.pv _ _ hxr)
end Go.Cg
