/- A part of the walks by abstract values: no statement of its own. -/
import Derived.Test.YtdlokcmodgccnaaGreatU6
import Derived.Maps.Own
import Derived.Maps.Views
set_option linter.unusedVariables false
set_option linter.unusedSimpArgs false
namespace Go.Cg
theorem BL:(∀ b:Bool,(b&&true)=b)∧(∀ b:Bool,(true&&b)=b)∧(∀ b:Bool,(b&&false)=false)∧(∀ b:Bool,(false&&b)=false)∧(∀ b:Bool,(b||true)=true)∧(∀ b:Bool,(true||b)=true)∧(∀ b:Bool,(b||false)=b)
  ∧ (∀ b:Bool,(false||b)=b)∧((!true)=false)∧((!false)=true):=by simp
theorem drop_cons {α:Type} {l:List α} {k:Nat} (h:k < l.length):l.drop k=l[k]::l.drop (k + 1):=List.drop_eq_getElem_cons h
theorem zhK {α:Type} {l:List α} {p:α→Bool} {k:Nat} (h:k < l.length):(l.drop k).all p=(p l[k]&&(l.drop (k + 1)).all p):=by rw [drop_cons h];rfl
theorem zb3 {α:Type} {l:List α} {p:α→Bool} {k:Nat} (h:k < l.length):(l.drop k).any p=(p l[k]||(l.drop (k + 1)).any p):=by rw [drop_cons h];rfl
theorem drop_end {α:Type} {l:List α} {k:Nat} (h:l.length≤k):l.drop k=[]:=List.drop_eq_nil_of_le h
theorem Ya:∀ (n:Nat) (l:List Int),l.Nodup→(∀ x∈l,0≤x∧x < n)→l.length≤n
 | 0,l,_,h=>by
  cases l with
  | nil=>simp
  | cons x l=>have:=h x (by simp);omega
 | n + 1,l,hd,h=>by
  by_cases hm:(n:Int)∈l
  ·have h1:=Ya n (l.erase n) (hd.erase _) (fun x hx=>by
    rw [hd.mem_erase_iff] at hx
    have:=h x hx.2
    omega)
   rw [List.length_erase_of_mem hm] at h1
   omega
  ·have:=Ya n l hd (fun x hx=>by
    have:=h x hx
    have hne:x≠n:=by rintro rfl;exact hm hx
    omega)
   omega
end Go.Cg
namespace Go.Cg
open Go.RowKit Go.Maps Go.WideElems
def qH (us:Nat→Value):Nat→Env→HEnv
 | _,[]=>[]
 | b,(t,av)::e=>(b,.pin av (us t))::qH us (b + 1) e
def zll:Env→Bool
 | []=>true
 | (t,_)::e=>(Env.get e t).isNone&&zll e
def zdu (b:Nat):HEnv→Bool
 | []=>true
 | (i,_)::e=>Nat.blt i b&&zdu b e
theorem get_append {H G:HEnv} {i:Nat}:HEnv.get (H++G) i=match HEnv.get H i with|some h=>some h|none=>HEnv.get G i:=by
 induction H with
 | nil=>rfl
 | cons x H ih =>
  obtain ⟨j,h⟩:=x
  rw [List.cons_append,HEnv.get_cons,HEnv.get_cons]
  split
  ·rfl
  ·exact ih
theorem XM {b:Nat}:∀ {H:HEnv},zdu b H=true→∀ i h,H.get i=some h→i < b
 | [],_,i,h,hg=>by simp [HEnv.get_nil] at hg
 | (j,x)::e,hi,i,h,hg=>by
  simp only [zdu,Bool.and_eq_true] at hi
  rw [HEnv.get_cons] at hg
  split at hg
  ·rename_i e';subst e';exact Nat.le_of_ble_eq_true hi.1
  ·exact XM hi.2 i h hg
theorem VW {us:Nat→Value}:∀ {e:Env} {b i:Nat} {h:HE},HEnv.get (qH us b e) i=some h→b≤i∧∃ t av,(t,av)∈e∧h=.pin av (us t)
 | [],b,i,h,hg=>by simp [qH,HEnv.get_nil] at hg
 | (t,av)::e,b,i,h,hg=>by
  rw [qH,HEnv.get_cons] at hg
  split at hg
  ·rename_i e';subst e'
   simp only [Option.some.injEq] at hg;subst hg
   exact ⟨Nat.le_refl _,t,av,by simp,rfl⟩
  ·obtain ⟨h1,t',av',h2,h3⟩:=VW hg
   exact ⟨by omega,t',av',by simp [h2],h3⟩
theorem zgq {us:Nat→Value}:∀ {e:Env} {b:Nat} {t:Nat} {av:AV},(t,av)∈e→∃ i,b≤i∧HEnv.get (qH us b e) i=some (.pin av (us t))
 | [],b,t,av,h=>by simp at h
 | (t',av')::e,b,t,av,h=>by
  simp only [List.mem_cons,Prod.mk.injEq] at h
  rcases h with ⟨rfl,rfl⟩|h
  ·exact ⟨b,Nat.le_refl _,by rw [qH,HEnv.get_cons,if_pos rfl]⟩
  ·obtain ⟨i,h1,h2⟩:=zgq (b:=b + 1) h
   exact ⟨i,by omega,by rw [qH,HEnv.get_cons,if_neg (by omega)];exact h2⟩
theorem zf0:∀ {e:Env} {t:Nat} {av:AV},e.get t=some av→(t,av)∈e
 | [],t,av,h=>by simp [Env.get_nil] at h
 | (t',av')::e,t,av,h=>by
  rw [Env.get_cons] at h
  split at h
  ·rename_i e';subst e';simp only [Option.some.injEq] at h;subst h;simp
  ·simp [zf0 h]
theorem zcY:∀ {e:Env},zll e=true→∀ {t:Nat} {av:AV},(t,av)∈e→e.get t=some av
 | [],_,t,av,h=>by simp at h
 | (t',av')::e,hn,t,av,h=>by
  simp only [zll,Bool.and_eq_true,Option.isNone_iff_eq_none] at hn
  rw [Env.get_cons]
  simp only [List.mem_cons,Prod.mk.injEq] at h
  rcases h with ⟨rfl,rfl⟩|h
  ·simp
  ·have:=zcY hn.2 h
   split
   ·rename_i e';subst e';rw [hn.1] at this;cases this
   ·exact this
def Yx (K:KK) (w:World) (ρ:Nat→Value) (H:HEnv) (ars:List AV) (vs:List Value):Prop :=
 vs.length=ars.length∧∀ (k:Nat) (c:AV) (v:Value),ars[k]?=some c→vs[k]?=some v→ARel K w ρ H c v
structure ACallH (P:Program) (f:FuncId) (args:List AV) (H H':HEnv):Prop where
 stands:zax P f
 calls:∀ (g:Base) (K:KK) (ρ:Nat→Value) (w:World) (vs:List Value),Plain g→FS g K ρ H w→Yx K w ρ H args vs →
  Calls P f vs.toArray w fun e w'=>∃ K' ρ',e=.returned (.tuple #[])∧FS g K' ρ' H' w'
def WQ:Nat→List AV→Env
 | _,[]=>[]
 | k,p::ps=>(k,p)::WQ (k + 1) ps
def zt2 (H':HEnv):QC:=fun ex _ H=>(ex=.normal∨ex=.ret)∧Qo H H' []
section
variable {P:Program} {tb:Tab} {n:Nat} {g:Base} {K:KK} {w:World} {ρ:Nat→Value} {H H':HEnv} {env:Env} {a:Act} {ops:List Oper} {o:Oper} {rest:List Oper} {Q:Env→HEnv→Prop} {f:FuncId} {args:List AV}
theorem Vx:∀ (ps:List AV) (k t:Nat) (av:AV),(WQ k ps).get t=some av→k≤t∧ps[t - k]?=some av
 | [],k,t,av,h=>by simp [WQ,Env.get_nil] at h
 | p::ps,k,t,av,h=>by
  simp only [WQ,Env.get_cons] at h
  split at h
  ·rename_i e;subst e;simp only [Option.some.injEq] at h;exact ⟨Nat.le_refl _,by simp [h]⟩
  ·obtain ⟨h1,h2⟩:=Vx ps (k + 1) t av h
   refine ⟨by omega,?_⟩
   rw [show t - k=(t - (k + 1)) + 1 by omega]
   simpa using h2
theorem ziW {fn:Func} {c:Code} (hf:P.funcs[f]?=some fn) (hb:fn.body=some c) (hn:(fn.name == "runtime.NumGoroutine")=false) (hnt:fn.ntmps=n) (hargs:args.length≤n) (hrs:fn.results=#[])
  (h:∀ g:Base,Plain g→AW P n g c (WQ 0 args) H (zt2 H')):ACallH P f args H H':=by
 refine ⟨⟨fn,hf,by simp [hb],hn⟩,fun g0 K ρ w vs hw1 hfs0 hv=>?_⟩
 obtain ⟨g,hg0⟩:∃ g:Base,g=⟨g0.w0,g0.K0,g0.w1,[],g0.wp,g0.pr⟩:=⟨_,rfl⟩
 have hfs:FS g K ρ H w:=by subst hg0;exact ⟨hfs0.below,hfs0.old,hfs0.new,hfs0.lt,hfs0.others,⟨hfs0.pt.same,hfs0.pt.kept⟩,hfs0.away,hfs0.heap⟩
 refine calls_of_wp hf hb ?_
 have hlen:vs.length=args.length:=hv.1
 refine wp_mono (wpIn_wide.1 ((h g (by subst hg0;exact hw1)).go _ w ⟨by simp [hnt];omega,by subst hg0;rfl,K,ρ,hfs,?_⟩ none 0)) ?_
 ·intro t av hg
  obtain ⟨_,hp⟩:=Vx args 0 t av hg
  have hlt:t < vs.length:=by rw [hlen];exact (List.getElem?_eq_some_iff.1 hp).1
  refine ⟨vs[t],?_,hv.2 t av _ hp (List.getElem?_eq_getElem hlt)⟩
  rw [Array.getElem?_append_left (by simpa using hlt)]
  simp [hlt]
 ·rintro e a' w' ⟨env1,H1,hi,he,hfit⟩
  have hi2:Inv n g [] H' a' w':=(hi.sub yZ).hsub hfit
  obtain ⟨_,h2,K',ρ',hf1,_⟩:=hi2
  subst hg0
  have hf':FS g0 K' ρ' H' w':=⟨hf1.below,hf1.old,hf1.new,hf1.lt,hf1.others,⟨hf1.pt.same,hf1.pt.kept⟩,hf1.away,hf1.heap⟩
  have hres:(results fn a'.tmps).run P w'=.ok (.tuple #[]) w':=by
   unfold results
   rw [hrs,Array.mapM_eq_mapM_toList]
   rfl
  rcases he with rfl|rfl
  ·exact ⟨h2,_,hres,K',ρ',rfl,hf'⟩
  ·exact ⟨h2,_,hres,K',ρ',rfl,hf'⟩
def avs (env:Env):List Operand→Option (List AV)
 | []=>some []
 | x::xs=>match env.val x,avs env xs with|some v,some vs=>some (v::vs)|_,_=>none
theorem zat (he:EnvR K w ρ H env a.tmps):∀ {xs:List Operand} {ars:List AV},avs env xs=some ars→Yx K w ρ H ars (xs.map a.eval)
 | [],ars,h=>by simp [avs] at h;subst h;exact ⟨rfl,fun k c v h=>by simp at h⟩
 | x::xs,ars,h=>by
  simp only [avs] at h
  split at h
  ·rename_i v vs h1 h2
   simp only [Option.some.injEq] at h;subst h
   obtain ⟨l1,l2⟩:=zat he h2
   refine ⟨by simpa using l1,fun k c u hc hu=>?_⟩
   cases k with
   | zero=>simp at hc hu;subst hc hu;exact qB he h1
   | succ k=>simp at hc hu;exact l2 k c u hc (by simpa using hu)
  ·cases h
theorem yE {G:HEnv} (j:Nat) (h:(H.get j).isSome=true):(HEnv.get (H++G) j).isSome=true:=by
 rw [get_append]
 cases hh:H.get j with
 | none=>simp [hh] at h
 | some x=>rfl
theorem zj1 {t d:Tmp} {xs:Array Operand} {ts:Array TypeId} {first cap ars:List AV} (env2:Env) (H':HEnv) (b:Nat) (hw1:Plain g) (hg:guardE ops env o=some true) (hop:o.op=.call { callee:=.value (.tmp t),args:=xs,argTypes:=ts })
  (ht:env.get t=some (.fn (.func f) first cap)) (hargs:avs env xs.toList=some ars) (hs:Sub env env2) (hnd:zll env2=true) (hb:zdu b H=true) (hb':zdu b H'=true)
  (hfit:(XB H' env2&&hIn H' H')=true) (hd:o.dst=some d) (hdt:Nat.blt d n=true)
  (hc:∀ us,ACallH P f (first++ars++cap) (H++qH us b env2) (H'++qH us b env2))
  (h:AO P n g ops.toArray rest ((d,.pv (.tup []))::env2) H' Q):AO P n g ops.toArray (o::rest) env H Q:=by
 refine ⟨fun a w hinv=>?_⟩
 have hw:=qh hinv hg
 have hinv2:=hinv.sub hs
 obtain ⟨h1,h2,K,ρ,hf,he⟩:=hinv
 have he2:EnvR K w ρ H env2 a.tmps:=fun t av ht=>he t av (hs t av ht)
 refine wpList_step fun KK hKK=>?_
 rw [if_pos hw]
 let us:Nat→Value:=fun t=>a.tmps.getD t undef
 have hus:∀ t av,(t,av)∈env2→ARel K w ρ H av (us t):=by
  intro t av hm
  obtain ⟨v,v1,v2⟩:=he2 t av (zcY hnd hm)
  have:us t=v:=by simp [us,Array.getD_eq_getD_getElem?,v1]
  rw [this];exact v2
 have hlat:Later K K w w:=.refl K w
 have hk:∀ j,(H.get j).isSome=true→(HEnv.get (H++qH us b env2) j).isSome=true∧ρ j=ρ j:=fun j hj=>⟨yE j hj,rfl⟩
 have hfs:FS g K ρ (H++qH us b env2) w:=by
  have e1:∀ i x,HEnv.get (H++qH us b env2) i=some x→x.live=true→H.get i=some x:=by
   intro i x hi hl
   rw [get_append] at hi
   cases hh:H.get i with
   | some z=>rw [hh] at hi;exact hi
   | none =>
    rw [hh] at hi
    obtain ⟨_,t,av,hm,rfl⟩:=VW hi
    simp [HE.live] at hl
  refine ⟨hf.below,hf.old,hf.new,hf.lt,hf.others,hf.pt,fun i h bb hi hl=>hf.away i h bb (e1 i h hi hl) hl,?_,?_⟩
  ·intro i e hi
   rw [get_append] at hi
   cases hh:H.get i with
   | some x=>rw [hh] at hi;simp only [Option.some.injEq] at hi;subst hi;exact (hf.heap.ok i _ hh).keeps (.refl hf.lt) hf.lt hk
   | none =>
    rw [hh] at hi
    obtain ⟨_,t,av,hm,rfl⟩:=VW hi
    exact (hus t av hm).keeps hlat hk
  ·intro i j x y bb hij hi hj lx ly bx bby
   have e1:∀ i x,HEnv.get (H++qH us b env2) i=some x→x.live=true→H.get i=some x:=by
    intro i x hi hl
    rw [get_append] at hi
    cases hh:H.get i with
    | some z=>rw [hh] at hi;exact hi
    | none =>
     rw [hh] at hi
     obtain ⟨_,t,av,hm,rfl⟩:=VW hi
     simp [HE.live] at hl
   exact hf.heap.apart i j x y bb hij (e1 i x hi lx) (e1 j y hj ly) lx ly bx bby
 have hfn:=qB he (x:=.tmp t) ht
 generalize hfv:a.eval (.tmp t)=fv at hfn
 cases hfn with
 | fn _ _ _ vf vc f1 f2 f3 f4 =>
  have hpa:=zat (a:=a) he hargs
  have hall:Yx K w ρ (H++qH us b env2) (first++ars++cap) (vf++xs.toList.map a.eval++vc):=by
   refine ⟨by have:=hpa.1;simp at this;simp [f1,f2,this],fun k c v hc hv=>?_⟩
   have:ARel K w ρ H c v:=by
    rw [List.append_assoc,List.getElem?_append] at hc hv
    split at hc
    ·rename_i hl
     rw [if_pos (by omega)] at hv
     exact f3 k c v hc hv
    ·rename_i hl
     rw [if_neg (by omega)] at hv
     rw [f1] at hv
     rw [List.getElem?_append] at hc hv
     have e:(xs.toList.map a.eval).length=ars.length:=hpa.1
     split at hc
     ·rename_i hl2
      rw [if_pos (by omega)] at hv
      exact hpa.2 _ c v hc hv
     ·rename_i hl2
      rw [if_neg (by omega),e] at hv
      exact f4 _ c v hc hv
   exact this.keeps hlat hk
  have hrun:(execOp a.eval o).run P w=.ok (.enter f (vf++xs.toList.map a.eval++vc).toArray) w:=by
   have e:(vf++xs.toList.map a.eval++vc).toArray=vf.toArray++xs.map a.eval++vc.toArray:=by
    rw [show xs.map a.eval=(xs.toList.map a.eval).toArray by rw [←Array.toList_map,Array.toArray_toList]]
    simp
   rw [e]
   simp [execOp,hop,resolve,hfv,Deferred.ofValue,invoke,Zi (hc us).stands]
  unfold Oper.wp
  rw [hrun]
  simp only [Oper.upon]
  refine ((hc us).calls g K ρ w _ hw1 hfs hall).mono fun e w'' ⟨K',ρ',e1,hfs'⟩=>?_
  subst e1
  have hinv':Inv n g env2 (H'++qH us b env2) a w'':=by
   refine ⟨h1,h2,K',ρ',hfs',fun t av ht=>?_⟩
   obtain ⟨i,hi1,hi2⟩:=zgq (us:=us) (b:=b) (zf0 ht)
   have hno:H'.get i=none:=by
    cases hh:H'.get i with
    | none=>rfl
    | some x=>have:=XM hb' i x hh;omega
   have hget:HEnv.get (H'++qH us b env2) i=some (.pin av (us t)):=by rw [get_append,hno];exact hi2
   have hrel:=hfs'.heap.ok i _ hget
   obtain ⟨v,v1,_⟩:=he2 t av ht
   have:us t=v:=by simp [us,Array.getD_eq_getD_getElem?,v1]
   exact ⟨v,v1,by rw [←this];exact hrel⟩
  have hinv3:Inv n g env2 H' a w'':=hinv'.hsub ⟨fun i x hi=>by rw [get_append,hi],hfit⟩
  obtain ⟨q1,q2,K3,ρ3,q3,q4⟩:=hinv3
  refine hKK _ _ (h.go _ _ ⟨qU q1,put_defers q2,K3,ρ3,q3,?_⟩)
  rw [hd]
  exact ZB q1 hdt q4 (.pv _ _ (.tup [] [] rfl (by simp)))
end
end Go.Cg
namespace Go.Cg
open Go.RowKit Go.Maps Go.WideElems Go.ChangeMaps Go.MapKept
def MapSet (P:Program) (kt et:TypeId) (met:List Int) (o:Obj):Prop :=
 ∃ es clock,o=.map es clock∧Fit (H:=Unit) P kt (plainElem P et) es clock∧es.size≤met.length ∧
  ∀ x,(Lit.int .i64 x).wf=true→(DataW.map ((es.toList.map (rg P kt (plainElem (H:=Unit) P et))).foldr DataW.insert [])).atKey (.int .i64 x) (.lit (.int .i64 0))=.lit (.int .i64 (if x∈met then 1 else 0))
section
variable {P:Program} {tb:Tab} {n:Nat} {g:Base} {K:KK} {w:World} {ρ:Nat→Value} {H:HEnv} {env:Env} {a:Act} {ops:List Oper} {o:Oper} {rest:List Oper} {Q:Env→HEnv→Prop}
theorem zl3 (kt et:TypeId):MapSet P kt et [] (.map #[] 0) :=
 ⟨#[],0,rfl,⟨by simp,stamped_empty 0,by simp⟩,Nat.le_refl _,fun x _=>by simp;rfl⟩
theorem zl9 {t kt et d:Nat} (i:Nat) (hg:guardE ops env o=some true) (hop:o.op=.makeMap t none) (hi:H.get i=none) (hd:o.dst=some d) (ht:Nat.blt d n=true)
  (h:AO P n g ops.toArray rest ((d,.own i)::env) ((i,.obj (MapSet P kt et []))::H) Q):AO P n g ops.toArray (o::rest) env H Q:=by
 refine ⟨fun a w hinv=>?_⟩
 have hw:=qh hinv hg
 obtain ⟨h1,h2,K,ρ,hf,he⟩:=hinv
 refine wpList_step fun KK hKK=>?_
 rw [if_pos hw]
 have hrun:(execOp a.eval o).run P w=.ok (.value (.map (some w.heap.size))) (w.alloc (.map #[] 0)):=by
  simp [execOp,hop,run_makeMap]
 unfold Oper.wp
 rw [hrun]
 simp only [Oper.upon]
 have hev:Evo K K w (w.alloc (.map #[] 0)):=⟨(Below.refl _ _).alloc (Nat.le_refl _) _,fun _ _ h=>h,fun _ _ h=>.inl h,fun b o h=>by have:=hf.lt b o h;simp;omega⟩
 refine hKK _ _ (h.go _ _ ⟨qU h1,put_defers h2,K,fun j=>if j=i then .map (some w.heap.size) else ρ j,hf.fresh hev hi ⟨w.heap.size,.map #[] 0,rfl,hf.below.size,heap_alloc_new w _,zl3 kt et,fun o ho=>by have:=hf.lt _ o ho;omega⟩ (by simp [zX]),?_⟩)
 rw [hd]
 have:=ARel.own (K:=K) (w:=w.alloc (.map #[] 0)) (ρ:=fun j=>if j=i then .map (some w.heap.size) else ρ j) (H:=(i,HE.obj (MapSet P kt et []))::H) i (by simp [HEnv.get_cons])
 exact ZB h1 ht (he.keeps (hev.later hf.lt) (Zb hi _ _)) (by simpa using this)
theorem znJ {kt et:TypeId} {met:List Int} {b:Nat} {ob:Obj} (hb:w.heap[b]?=some ob) (h:MapSet P kt et met ob) :
  ∃ D:DataW Unit,w.ownsMap P kt (plainElem P et) b met.length D∧∀ x,(Lit.int .i64 x).wf=true→D.atKey (.int .i64 x) (.lit (.int .i64 0))=.lit (.int .i64 (if x∈met then 1 else 0)):=by
 obtain ⟨es,clock,rfl,F,hs,hat⟩:=h
 exact ⟨_,⟨es,clock,hb,F,hs,rfl⟩,hat⟩
theorem znt {t kt et:Nat} (htb:qc P tb) (h:tb.k t=.map kt et):P.underlying t=some (.map kt et):=by
 obtain ⟨d,i,h1,_,_,h2⟩:=Vo htb h (by simp)
 cases d <;> simp [zgn] at h2
 obtain ⟨rfl,rfl⟩:=h2;exact h1
theorem zp9 {t kt et:Nat} {m x:Operand} {i:Nat} {met:List Int} {k:Int} (htb:qc P tb) (hop:o.op=.lookup t m x false) (hk:tb.k t=.map kt et) (hkt:tb.k kt=.int .i64) (het:tb.k et=.int .i64) (hz:tb.zero et=some (.int .i64 0))
  (hm:env.val m=some (.own i)) (hi:H.get i=some (.obj (MapSet P kt et met))) (hx:env.pv H x=some (.base (.int .i64 k))) (hwf:(Lit.int .i64 k).wf=true) :
  QStep P g H o env (.pv (.base (.int .i64 (if k∈met then 1 else 0)))):=by
 refine ⟨fun K ρ a w hf hv=>?_⟩
 have hmr:=hv m (by rw [hop];simp [Op.operands]) _ hm
 have hxr:=qw hf (hv x (by rw [hop];simp [Op.operands])) hx
 generalize hmv:a.eval m=mv at hmr
 generalize hxv:a.eval x=xv at hxr
 cases hxr
 obtain ⟨b,ob,hr,hB,hheap,hX,hn⟩:=hf.heap.ok i _ hi
 cases hmr with
 | own _ _ =>
  obtain ⟨D,hown,hat⟩:=znJ hheap hX
  have hzi:(zeroValue et).run P w=.ok (.int .i64 0) w:=by
   unfold Tab.zero at hz
   split at hz
   ·rename_i ti hti
    obtain ⟨i,e1,_,_,e4,_⟩:=Zv htb hti
    simp [zeroValue,typeInfo,e1,e4,hz]
   ·cases hz
  obtain ⟨c,hrun,hc,hwc⟩:=hown.lookup_int (t:=t) (int_keyed (Ve htb hkt)) (znt htb hk) (Ve htb het) hzi (keyOf_int_mk (Ve htb hkt) hwf)
  rw [hat k hwf] at hc
  simp only [DataW.lit.injEq,Lit.int.injEq,true_and] at hc
  subst hc
  have:(execOp a.eval o).run P w=.ok (.value (.int .i64 (if k∈met then 1 else 0))) w:=by
   rw [←hr] at hrun
   simp [execOp,hop,hmv,hxv,hrun,Result.andThen]
  rw [this]
  exact ZT hf (.pv _ _ (.base _ rfl))
theorem zin {t kt et:Nat} {m x:Operand} {i:Nat} {met:List Int} {k c:Int} (hc:(if k∈met then (1:Int) else 0)=c) (htb:qc P tb) (hop:o.op=.lookup t m x false) (hk:tb.k t=.map kt et) (hkt:tb.k kt=.int .i64) (het:tb.k et=.int .i64) (hz:tb.zero et=some (.int .i64 0))
  (hm:env.val m=some (.own i)) (hi:H.get i=some (.obj (MapSet P kt et met))) (hx:env.pv H x=some (.base (.int .i64 k))) (hwf:(Lit.int .i64 k).wf=true) :
  QStep P g H o env (.pv (.base (.int .i64 c))):=by
 subst hc;exact zp9 htb hop hk hkt het hz hm hi hx hwf
theorem zr6 {l:List Oper} (env2:Env) (H2:HEnv) (hs:Sub env env2) (hf:Qo H H2 env2) (h:AO P n g ops.toArray l env2 H2 Q):AO P n g ops.toArray l env H Q:=⟨fun a w hi=>h.go a w ((hi.sub hs).hsub hf)⟩
theorem zjj {t kt et:Nat} {m x v:Operand} {i:Nat} {met:List Int} {k:Int} (hw1:g.w1.heap.size=0) (htb:qc P tb) (hg:guardE ops env o=some true) (hop:o.op=.mapUpdate t m x v) (hk:tb.k t=.map kt et) (hkt:tb.k kt=.int .i64) (het:tb.k et=.int .i64)
  (hm:env.val m=some (.own i)) (hi:H.get i=some (.obj (MapSet P kt et met))) (hx:env.pv H x=some (.base (.int .i64 k))) (hv:env.pv H v=some (.base (.int .i64 1))) (hwf:(Lit.int .i64 k).wf=true) (hlen:met.length < maxLen) (hd:o.dst=none)
  (h:AO P n g ops.toArray rest env ((i,.obj (MapSet P kt et (met++[k])))::H) Q):AO P n g ops.toArray (o::rest) env H Q:=by
 refine ⟨fun a w hinv=>?_⟩
 have hw:=qh hinv hg
 obtain ⟨h1,h2,K,ρ,hf,he⟩:=hinv
 refine wpList_step fun KK hKK=>?_
 rw [if_pos hw]
 have hmr:=qB he hm
 have hxr:=qw (a:=a) hf (x:=x) (fun av hh=>qB he hh) hx
 have hvr:=qw (a:=a) hf (x:=v) (fun av hh=>qB he hh) hv
 generalize hmv:a.eval m=mv at hmr
 generalize hxv:a.eval x=xv at hxr
 generalize hvv:a.eval v=vv at hvr
 cases hxr;cases hvr
 obtain ⟨b,ob,hr,hB,hheap,hX,hnK⟩:=hf.heap.ok i _ hi
 cases hmr with
 | own _ _ =>
  obtain ⟨D,hown,hat⟩:=znJ hheap hX
  have h1wf:(Lit.int .i64 1).wf=true:=by decide
  obtain ⟨w',hrun,hown',hgrow⟩:=hown.update (t:=t) (int_keyed (Ve htb hkt)) (znt htb hk) hlen (val:=.int .i64 1) (keyOf_int_mk (Ve htb hkt) hwf) (plainElem_int (Ve htb het) h1wf)
  have hrun':(execOp a.eval o).run P w=.ok .skip w':=by
   rw [←hr] at hrun
   simp [execOp,hop,hmv,hxv,hvv,hrun,Result.andThen]
  have hX':∃ ob',w'.heap[b]?=some ob'∧MapSet P kt et (met++[k]) ob':=by
   obtain ⟨es,clock,hb,F,hs,hD⟩:=hown'
   refine ⟨_,hb,es,clock,rfl,F,by simpa using hs,fun y hy=>?_⟩
   rw [←hD]
   by_cases e:y=k
   ·subst e
    rw [atKey_put_same hown.isMap (by simp [WideAt.IsKeyLit])]
    simp
   ·rw [atKey_put_other (by simpa using e),hat y hy]
    simp [e]
  obtain ⟨ob',hb',hX2⟩:=hX'
  unfold Oper.wp
  rw [hrun']
  simp only [Oper.upon]
  have hlat:Later K K w w':=⟨fun _ _ h=>h,fun b' o hk=>by
   have hne:b'≠b:=by rintro rfl;exact hnK o hk
   exact World.cell?_of_block (hgrow.block b' (hf.lt b' o hk) (by simp [hne]))⟩
  have hkeep:∀ j,(H.get j).isSome=true→(HEnv.get ((i,.obj (MapSet P kt et (met++[k])))::H) j).isSome=true∧ρ j=ρ j:=by
   intro j hj
   refine ⟨?_,rfl⟩
   simp only [HEnv.get_nil,HEnv.get_cons]
   split
   ·rfl
   ·exact hj
  have hd':a.put o.dst undef=a:=by rw [hd];rfl
  rw [hd']
  refine hKK _ _ (h.go _ _ ⟨h1,h2,K,ρ,⟨hf.below.grown hgrow hf.below.size (fun k hk=>by simp at hk;omega),hf.old,hf.new,fun b o hk=>Nat.lt_of_lt_of_le (hf.lt b o hk) hgrow.size,⟨by rw [hw1];omega,fun k o hk=>by have:=(Array.getElem?_eq_some_iff.1 hk).1;omega⟩,hf.pt.grown hf.old hgrow hlat (fun b2 hb2=>by cases hb2;exact hf.away i _ b hi rfl (by rw [hr];rfl)) (fun _ _ h=>.inl h),hf.away.set hi rfl,?_,?_⟩,he.keeps hlat hkeep⟩)
  ·intro j e hj
   simp only [HEnv.get_nil,HEnv.get_cons] at hj
   split at hj
   ·rename_i e';subst e'
    simp only [Option.some.injEq] at hj;subst hj
    exact ⟨b,ob',hr,hB,hb',hX2,hnK⟩
   ·rename_i hne
    by_cases hlive:e.live=true
    ·have:=(hf.heap.ok j e hj).grown (f:=id) hgrow hlat (fun b o h=>.inl h) (fun av v h=>h.keeps hlat hkeep) hlive (fun b' hb' e'=>by
      simp at e';subst e'
      exact hf.heap.apart i j _ e b hne hi hj rfl hlive (by rw [hr];rfl) hb')
     cases e <;> exact this
    ·cases e <;> simp [HE.live] at hlive
     ·trivial
     ·exact ARel.keeps hlat hkeep (hf.heap.ok j _ hj)
  ·intro j k2 e e' bb hjk hj hk' hlj hlk hbj hbk
   have e1:∀ (j:Nat) (hh:HE),HEnv.get ((i,.obj (MapSet P kt et (met++[k])))::H) j=some hh→hh.live=true→∃ h0,H.get j=some h0∧h0.live=true:=by
    intro j hh hj hl
    rw [HEnv.get_cons] at hj
    split at hj
    ·rename_i e';subst e';exact ⟨_,hi,rfl⟩
    ·exact ⟨hh,hj,hl⟩
   obtain ⟨a1,a2,a3⟩:=e1 j e hj hlj
   obtain ⟨b1,b2,b3⟩:=e1 k2 e' hk' hlk
   exact hf.heap.apart j k2 a1 b1 bb hjk a2 b2 a3 b3 hbj hbk
end
end Go.Cg
namespace Go.Cg
open Go.RowKit
def PTells (a b:PV):Prop:=∀ (K:KK) (w:World) (v:Value),PRel K w a v→PRel K w b v
theorem PTells.refl (a:PV):PTells a a:=fun _ _ _ h=>h
def PTL (cs ds:List PV):Prop:=cs.length=ds.length∧∀ (k:Nat) (c d:PV),cs[k]?=some c→ds[k]?=some d→PTells c d
theorem zbb:PTL [] []:=⟨rfl,by simp⟩
theorem qy {c d:PV} {cs ds:List PV} (h:PTells c d) (hs:PTL cs ds):PTL (c::cs) (d::ds):=by
 refine ⟨by simp [hs.1],fun k c' d' hc hd=>?_⟩
 cases k with
 | zero=>simp at hc hd;subst hc hd;exact h
 | succ k=>exact hs.2 k c' d' (by simpa using hc) (by simpa using hd)
theorem zaC (sz:Nat) (f:Bool):PTells (.base (.slice none 0 0)) (.slc sz [] f):=fun K w v h=>by cases h;exact .nil sz f
theorem zs4 {cs ds:List PV} (h:PTL cs ds):PTells (.agg cs) (.agg ds):=fun K w v hp=>by
 cases hp with
 | agg _ vs hl ho hr =>
  refine .agg ds vs (by rw [hl,h.1]) ho fun k d v hd hv=>?_
  have hk:k < cs.length:=by
   rcases Nat.lt_or_ge k cs.length with h'|h'
   ·exact h'
   ·rw [List.getElem?_eq_none (by omega)] at hv;cases hv
  exact h.2 k _ d (List.getElem?_eq_getElem hk) hd K w v (hr k _ v (List.getElem?_eq_getElem hk) hv)
def PCL (es ds:List PV):Prop:=es.length=ds.length∧∀ (k:Nat) (c d:PV),es[k]?=some c→ds[k]?=some d→PTL c.cells d.cells
theorem zdz:PCL [] []:=⟨rfl,by simp⟩
theorem zaS {c d:PV} {cs ds:List PV} (h:PTL c.cells d.cells) (hs:PCL cs ds):PCL (c::cs) (d::ds):=by
 refine ⟨by simp [hs.1],fun k c' d' hc hd=>?_⟩
 cases k with
 | zero=>simp at hc hd;subst hc hd;exact h
 | succ k=>exact hs.2 k c' d' (by simpa using hc) (by simpa using hd)
theorem zgG {sz:Nat} {es ds:List PV} {f:Bool} (h:PCL es ds):PTells (.slc sz es f) (.slc sz ds false):=fun K w v hp=>by
 obtain ⟨hl,hc⟩:=h
 cases hp with
 | nil=>have:ds=[]:=List.eq_nil_of_length_eq_zero (by simpa using hl.symm);subst this;exact .nil sz false
 | emp _ _ a=>have:ds=[]:=List.eq_nil_of_length_eq_zero (by simpa using hl.symm);subst this;exact .emp sz false a
 | slc _ _ _ b o cap vss h0 h1 h2 h3 h4 h5 h6 =>
  rw [hl]
  have hget:∀ (i:Nat) (d:PV),ds[i]?=some d→∃ e,es[i]?=some e:=fun i d hd=>by
   have:i < es.length:=by
    rcases Nat.lt_or_ge i es.length with h'|h'
    ·exact h'
    ·rw [List.getElem?_eq_none (by omega)] at hd;cases hd
   exact ⟨_,List.getElem?_eq_getElem this⟩
  refine .slc sz ds false b o cap vss h0 (by omega) (by simp) (by omega) h4 (fun i d hd=>?_) (fun i d k c v hd hk hv=>?_)
  ·obtain ⟨e,he⟩:=hget i d hd
   obtain ⟨a1,a2,a3⟩:=h5 i e he
   exact ⟨by rw [←(hc i e d he hd).1];exact a1,a2,a3⟩
  ·obtain ⟨e,he⟩:=hget i d hd
   have hh:=hc i e d he hd
   have hk':k < e.cells.length:=by
    rcases Nat.lt_or_ge k e.cells.length with h'|h'
    ·exact h'
    ·rw [List.getElem?_eq_none (by rw [←hh.1];exact h')] at hk;cases hk
   exact hh.2 k _ c (List.getElem?_eq_getElem hk') hk K w v (h6 i e k _ v he (List.getElem?_eq_getElem hk') hv)
theorem PTells.tells {a b:PV} (h:PTells a b):Tells (.pv a) (.pv b):=fun K w ρ H v hr=>by
 cases hr with|pv _ _ hp=>exact .pv _ _ (h K w v hp)
section
variable {P:Program} {n:Nat} {g:Base} {H:HEnv} {env:Env} {a:Act} {w:World} {ops:List Oper} {Q:Env→HEnv→Prop} {c:Code} {QQ:QC}
theorem zoi {t:Nat} {x y:AV} (ht:env.get t=some x) (h:Tells x y) (hinv:Inv n g env H a w):Inv n g ((t,y)::env) H a w:=by
 obtain ⟨h1,h2,K,ρ,hf,he⟩:=hinv
 refine ⟨h1,h2,K,ρ,hf,fun t' av hg=>?_⟩
 rw [Env.get_cons] at hg
 split at hg
 ·rename_i e;subst e
  simp only [Option.some.injEq] at hg;subst hg
  obtain ⟨v,hv,hr⟩:=he _ _ ht
  exact ⟨v,hv,h K w ρ H v hr⟩
 ·exact he _ _ hg
theorem zd6 {l:List Oper} {x y:PV} (t:Nat) (h:PTells x y) (ht:env.get t=some (.pv x)) (k:AO P n g ops.toArray l ((t,.pv y)::env) H Q):AO P n g ops.toArray l env H Q :=
 ⟨fun a w hi=>k.go a w (zoi ht h.tells hi)⟩
theorem zmH {t i off:Nat} {p:PV} (hp:p.notTup=true) (ht:env.get t=some (.box i off)) (hi:H.get i=some (.cell (.pv p))) (hinv:Inv n g env H a w):Inv n g ((t,.pv (.ptr p off))::env) ((i,.dead)::H) a w:=by
 obtain ⟨h1,h2,K,ρ,hf,he⟩:=hinv
 obtain ⟨b,ty,arr,u,hr,hB,hheap,hu,harr,hn⟩:=hf.heap.ok i _ hi
 obtain ⟨K',hK'⟩:∃ K':KK,∀ b' o,K' b' o↔(K b' o∨(b'=b∧o < arr.size)):=⟨fun b' o=>K b' o∨(b'=b∧o < arr.size),fun _ _=>Iff.rfl⟩
 have hlat:Later K K' w w:=⟨fun b o h=>(hK' b o).2 (.inl h),fun _ _ _=>rfl⟩
 have hk:∀ j,(H.get j).isSome=true→(HEnv.get ((i,.dead)::H) j).isSome=true∧ρ j=ρ j:=fun j hj=>by
  refine ⟨?_,rfl⟩
  rw [HEnv.get_cons]
  split
  ·rfl
  ·exact hj
 have hblt:b < w.heap.size:=(Array.getElem?_eq_some_iff.1 hheap).1
 have hne:∀ {j:Nat} {h:HE} {b':Nat},i≠j→H.get j=some h→h.live=true→zX (ρ j)=some b'→b'≠b:=fun {j h b'} hij hg hl hb e=>by
  subst e
  exact hf.heap.apart i j _ h b' hij hi hg rfl hl (by rw [hr];rfl) hb
 refine ⟨h1,h2,K',ρ,⟨hf.below,fun b o h=>(hK' b o).2 (.inl (hf.old b o h)),fun b' o h=>?_,fun b' o h=>?_,hf.others,hf.pt.grown hf.old (row:=some b) ⟨rfl,rfl,rfl,Nat.le_refl _,fun _ _ _=>rfl⟩ hlat (fun b2 hb2=>by cases hb2;exact hf.away i _ b hi rfl (by rw [hr];rfl)) (fun b2 o h=>(hK' b2 o).1 h |>.elim .inl (fun h=>.inr (.inl (by rw [h.1])))),hf.away.set hi rfl,?_,?_⟩,fun t' av hg=>?_⟩
 ·rcases (hK' b' o).1 h with h|⟨rfl,_⟩
  ·exact hf.new b' o h
  ·exact .inr hB
 ·rcases (hK' b' o).1 h with h|⟨rfl,_⟩
  ·exact hf.lt b' o h
  ·exact hblt
 ·intro j h hg
  rw [HEnv.get_cons] at hg
  split at hg
  ·simp only [Option.some.injEq] at hg;subst hg;trivial
  ·rename_i hij
   have ho:=hf.heap.ok j h hg
   cases h with
   | cell v =>
    obtain ⟨b',t',arr',u',hr',hB',hh',hu',ha',hn'⟩:=ho
    refine ⟨b',t',arr',u',hr',hB',hh',hu'.keeps hlat hk,ha',fun o ho=>?_⟩
    rcases (hK' b' o).1 ho with h|⟨h,_⟩
    ·exact hn' o h
    ·exact hne hij hg rfl (by rw [hr'];rfl) h
   | row t' sz es =>
    obtain ⟨xs,hown,h0,hc,hkk⟩:=ho
    refine ⟨xs,hown,h0,fun k e he=>?_,fun b' hb o=>?_⟩
    ·obtain ⟨c1,c2⟩:=hc k e he
     exact ⟨c1,fun k c hc=>let ⟨v,h4,h5,h6⟩:=c2 k c hc;⟨v,h4,h5,h6.later hlat⟩⟩
    ·rw [←hkk b' hb o,hK']
     have hb2:zX (ρ j)=some b':=by
      rcases hown.2 with ⟨e,_⟩|⟨b2,cap,cur,e,_⟩
      ·rw [e] at hb;simp [Value.ownBlock] at hb
      ·rw [e] at hb ⊢;simpa [Value.ownBlock,zX] using hb
     exact ⟨fun h=>h.resolve_right fun h=>hne hij hg rfl hb2 h.1,.inl⟩
   | mrow t' sz es =>
    obtain ⟨xs,hown,h0,hc,hkk⟩:=ho
    refine ⟨xs,hown,h0,fun k e he=>?_,fun b' hb o ho=>?_⟩
    ·obtain ⟨c1,c2⟩:=hc k e he
     exact ⟨c1,fun k c hc=>let ⟨v,h4,h5,h6⟩:=c2 k c hc;⟨v,h4,h5,h6.later hlat⟩⟩
    ·have hb2:zX (ρ j)=some b':=by
      rcases hown.2 with ⟨e,_⟩|⟨b2,cap,cur,e,_⟩
      ·rw [e] at hb;simp [Value.ownBlock] at hb
      ·rw [e] at hb ⊢;simpa [Value.ownBlock,zX] using hb
     rcases (hK' b' o).1 ho with h|⟨h,_⟩
     ·exact hkk b' hb o h
     ·exact hne hij hg rfl hb2 h
   | dead=>trivial
   | pin v u'=>exact ARel.keeps hlat hk ho
   | obj X =>
    obtain ⟨b',ob,hr',hB',hh',hx,hn'⟩:=ho
    refine ⟨b',ob,hr',hB',hh',hx,fun o ho=>?_⟩
    rcases (hK' b' o).1 ho with h|⟨h,_⟩
    ·exact hn' o h
    ·exact hne hij hg rfl (by rw [hr'];rfl) h
 ·intro j k h h' b' hjk hg hg' hl hl'
  rw [HEnv.get_cons] at hg hg'
  split at hg
  ·simp only [Option.some.injEq] at hg;subst hg;simp [HE.live] at hl
  ·split at hg'
   ·simp only [Option.some.injEq] at hg';subst hg';simp [HE.live] at hl'
   ·exact hf.heap.apart j k h h' b' hjk hg hg' hl hl'
 ·rw [Env.get_cons] at hg
  split at hg
  ·rename_i e;subst e
   simp only [Option.some.injEq] at hg;subst hg
   obtain ⟨v,hv,hrv⟩:=he _ _ ht
   refine ⟨v,hv,?_⟩
   cases hrv with
   | box _ _ b2 _ hr2 =>
    rw [hr] at hr2
    simp only [Value.pointer.injEq,Option.some.injEq,Addr.mk.injEq,and_true] at hr2
    subst hr2
    cases hu with
    | pv _ _ hpr =>
     have hcr:=YG hpr
     rw [harr] at hcr
     have:=PRel.ptr (K:=K') (w:=w) p off b 0 arr.toList (hcr.1) (fun k x hx=>?_) (fun k c x hc hx=>(hcr.2 k c x hc hx).later hlat)
     ·exact .pv _ _ (by simpa using this)
     ·have hk:k < arr.size:=by
       rcases Nat.lt_or_ge k arr.size with h'|h'
       ·exact h'
       ·rw [List.getElem?_eq_none (by simpa using h')] at hx;cases hx
      refine ⟨(hK' b (0 + k)).2 (.inr ⟨rfl,by omega⟩),?_,?_⟩
      ·simp only [World.cell?,hheap,Nat.zero_add]
       simpa using hx
      ·exact cells_one hpr hp x (by rw [harr];exact List.mem_of_getElem? hx)
  ·obtain ⟨v,hv,hrv⟩:=he _ _ hg
   exact ⟨v,hv,hrv.keeps hlat hk⟩
theorem zaK {t i off:Nat} {p:PV} (hp:p.notTup=true) (ht:env.get t=some (.box i off)) (hi:H.get i=some (.cell (.pv p))) (k:AW P n g c ((t,.pv (.ptr p off))::env) ((i,.dead)::H) QQ):AW P n g c env H QQ :=
 ⟨fun a w hinv=>k.go a w (zmH hp ht hi hinv)⟩
end
section
variable {P:Program} {g:Base} {H:HEnv} {env:Env} {tb:Tab} {o:Oper}
theorem ztA {t t':Nat} {x y:Operand} {k ky:IntKind} {m c:Int} (hop:o.op=.binOp .shl t x y t') (hx:env.pv H x=some (.base (.int k m))) (hy:env.pv H y=some (.base (.int ky c))) (h0:0≤c):QStep P g H o env (.pv (.base (.int k (k.wrap (m * 2 ^ (min c.toNat k.bits)))))):=by
 refine ⟨fun K ρ a w hf hv=>?_⟩
 have hxr:=qw hf (hv x (by rw [hop];simp [Op.operands])) hx
 have hyr:=qw hf (hv y (by rw [hop];simp [Op.operands])) hy
 generalize hxv:a.eval x=xv at hxr
 generalize hyv:a.eval y=yv at hyr
 cases hxr;cases hyr
 have hn:¬ c < 0:=by omega
 have hrun:(execOp a.eval o).run P w=.ok (.value (.int k (k.wrap (m * 2 ^ (min c.toNat k.bits))))) w:=by
  simp [execOp,hop,hxv,hyv,eqGuard,binOp,Op.shift,hn]
 rw [hrun]
 exact ZT hf (.pv _ _ (.base _ rfl))
theorem zsC {t t':Nat} {x y:Operand} {k ky:IntKind} {m c:Int} (hop:o.op=.binOp .shr t x y t') (hx:env.pv H x=some (.base (.int k m))) (hy:env.pv H y=some (.base (.int ky c))) (h0:0≤c):QStep P g H o env (.pv (.base (.int k (m.fdiv (2 ^ (min c.toNat k.bits)))))):=by
 refine ⟨fun K ρ a w hf hv=>?_⟩
 have hxr:=qw hf (hv x (by rw [hop];simp [Op.operands])) hx
 have hyr:=qw hf (hv y (by rw [hop];simp [Op.operands])) hy
 generalize hxv:a.eval x=xv at hxr
 generalize hyv:a.eval y=yv at hyr
 cases hxr;cases hyr
 have hn:¬ c < 0:=by omega
 have hrun:(execOp a.eval o).run P w=.ok (.value (.int k (m.fdiv (2 ^ (min c.toNat k.bits))))) w:=by
  simp [execOp,hop,hxv,hyv,eqGuard,binOp,Op.shift,hn]
 rw [hrun]
 exact ZT hf (.pv _ _ (.base _ rfl))
end
structure ACallM (P:Program) (f:FuncId) (args:List AV) (H:HEnv) (r:AV) (H':HEnv) (lone:Bool:=false):Prop where
 stands:zax P f
 calls:∀ (g:Base) (K:KK) (ρ:Nat→Value) (w:World) (vs:List Value),(lone=true→g.w1.heap.size=0)→FS g K ρ H w→Yx K w ρ H args vs →
  Calls P f vs.toArray w fun e w'=>∃ v K' ρ',e=.returned v∧FS g K' ρ' H' w'∧ARel K' w' ρ' H' r v
def zgD (tb:Tab) (rs:List ResultVar) (r:AV) (H':HEnv):QC:=fun ex env H=>(ex=.normal∨ex=.ret) ∧
 ((∃ ps,WS tb H env rs=some ps∧r=.pv (zy ps)∧Qo H H' [])∨(∃ t,rs=[.tmp t]∧env.get t=some r∧Qo H H' [(t,r)]))
section
variable {P:Program} {tb:Tab} {n:Nat} {g:Base} {K K':KK} {w w':World} {ρ ρ':Nat→Value} {H H':HEnv} {env:Env} {a:Act} {ops:List Oper} {o:Oper} {rest:List Oper} {Q:Env→HEnv→Prop} {f:FuncId} {args:List AV} {r:AV}
theorem FS.narrow {e:Env} (hf:FS g K ρ H w) (hs:Qo H H' e):FS g K ρ H' w:=by
 obtain ⟨hs,hin⟩:=hs
 simp only [Bool.and_eq_true] at hin
 refine ⟨hf.below,hf.old,hf.new,hf.lt,hf.others,hf.pt,fun i h b hi=>hf.away i h b (hs i h hi),?_,?_⟩
 ·intro i h hi
  have:=hf.heap.ok i h (hs i h hi)
  cases h with
  | cell v=>obtain ⟨b,t,arr,u,h1,h2,h3,h4,h5,h6⟩:=this;exact ⟨b,t,arr,u,h1,h2,h3,h4.refs (Yz hin.2 i v hi),h5,h6⟩
  | pin v u=>exact ARel.refs this (ZG hin.2 i v u hi)
  | row t sz es=>exact this
  | mrow t sz es=>exact this
  | dead=>exact this
  | obj X=>exact this
 ·intro i j h h' b hij hi hj
  exact hf.heap.apart i j h h' b hij (hs i h hi) (hs j h' hj)
theorem qZ (htb:qc P tb) {fn:Func} {c:Code} (hf:P.funcs[f]?=some fn) (hb:fn.body=some c) (hn:(fn.name == "runtime.NumGoroutine")=false) (hnt:fn.ntmps=n) (hargs:args.length≤n) (rs:List ResultVar) (hrs:fn.results.toList=rs)
  {lone:Bool} (h:∀ g:Base,(lone=true→g.w1.heap.size=0)→AW P n g c (WQ 0 args) H (zgD tb rs r H')):ACallM P f args H r H' lone:=by
 refine ⟨⟨fn,hf,by simp [hb],hn⟩,fun g0 K ρ w vs hw1 hfs0 hv=>?_⟩
 obtain ⟨g,hg0⟩:∃ g:Base,g=⟨g0.w0,g0.K0,g0.w1,[],g0.wp,g0.pr⟩:=⟨_,rfl⟩
 have hfs:FS g K ρ H w:=by subst hg0;exact ⟨hfs0.below,hfs0.old,hfs0.new,hfs0.lt,hfs0.others,⟨hfs0.pt.same,hfs0.pt.kept⟩,hfs0.away,hfs0.heap⟩
 refine calls_of_wp hf hb ?_
 have hlen:vs.length=args.length:=hv.1
 refine wp_mono (wpIn_wide.1 ((h g (by subst hg0;exact hw1)).go _ w ⟨by simp [hnt];omega,by subst hg0;rfl,K,ρ,hfs,?_⟩ none 0)) ?_
 ·intro t av hg
  obtain ⟨_,hp⟩:=Vx args 0 t av hg
  have hlt:t < vs.length:=by rw [hlen];exact (List.getElem?_eq_some_iff.1 hp).1
  refine ⟨vs[t],?_,hv.2 t av _ hp (List.getElem?_eq_getElem hlt)⟩
  rw [Array.getElem?_append_left (by simpa using hlt)]
  simp [hlt]
 ·rintro e a' w' ⟨env1,H1,hi,he,hq⟩
  have key:∃ v K' ρ',(results fn a'.tmps).run P w'=.ok v w'∧a'.defers=[]∧FS g0 K' ρ' H' w'∧ARel K' w' ρ' H' r v:=by
   have back:∀ {K':KK} {ρ':Nat→Value},FS g K' ρ' H' w'→FS g0 K' ρ' H' w':=fun hf1=>by
    subst hg0;exact ⟨hf1.below,hf1.old,hf1.new,hf1.lt,hf1.others,⟨hf1.pt.same,hf1.pt.kept⟩,hf1.away,hf1.heap⟩
   rcases hq with ⟨ps,hps,rfl,hfit⟩|⟨t,ht,hget,hfit⟩
   ·obtain ⟨_,h2,K',ρ',hf',he0⟩:=hi
    obtain ⟨us,hrun,hru⟩:=Vt htb hf' he0 hps
    have hi2:Inv n g [] H' a' w':=((⟨‹_›,h2,K',ρ',hf',he0⟩:Inv n g env1 H1 a' w').sub yZ).hsub hfit
    have hres:(results fn a'.tmps).run P w'=.ok (if hh:us.toArray.size=1 then us.toArray[0] else .tuple us.toArray) w':=by
     unfold results
     rw [Array.mapM_eq_mapM_toList,hrs]
     simp only [Sem.run_bind,Sem.run_map]
     erw [hrun]
     rfl
    have hval:PRel K' w' (zy ps) (if hh:us.toArray.size=1 then us.toArray[0] else .tuple us.toArray):=by
     split
     ·rename_i hh
      have hl1:=hru.1
      have hu:us.length=1:=by simpa using hh
      obtain ⟨u,rfl⟩:=List.length_eq_one_iff.1 hu
      obtain ⟨p,rfl⟩:=List.length_eq_one_iff.1 (show ps.length=1 by omega)
      exact hru.2 0 p u (by simp) (by simp)
     ·rename_i hh
      simp at hh
      have:zy ps=.tup ps:=by
       unfold zy
       split
       ·rename_i p;exact absurd (by have:=hru.1;simpa using this) hh
       ·rfl
      rw [this]
      exact .tup ps us hru.1 hru.2
    have hf2:=FS.narrow hf' hfit
    exact ⟨_,K',ρ',hres,by rw [h2];subst hg0;rfl,back hf2,.pv _ _ hval⟩
   ·obtain ⟨h1,h2,K',ρ',hf',he0⟩:=hi
    obtain ⟨v,hv1,hv2⟩:=he0 t r hget
    have hf2:=FS.narrow hf' hfit
    have hin:=hfit.2
    simp only [XB,Bool.and_eq_true] at hin
    have hres:(results fn a'.tmps).run P w'=.ok v w':=by
     unfold results
     rw [Array.mapM_eq_mapM_toList,hrs,ht]
     simp [Result.andThen,hv1]
    exact ⟨v,K',ρ',hres,by rw [h2];subst hg0;rfl,back hf2,hv2.refs hin.1.1⟩
  obtain ⟨v,K',ρ',hres,hd,hf',hr⟩:=key
  rcases he with rfl|rfl
  ·exact ⟨hd,_,hres,v,K',ρ',rfl,hf',hr⟩
  ·exact ⟨hd,_,hres,v,K',ρ',rfl,hf',hr⟩
def qx (us:Nat→Value) (ps:List Nat):HEnv:=ps.map fun i=>(1000 + i,.pin (.own i) (us i))
def Wx (ps:List Nat):HEnv:=ps.map fun i=>(i,.dead)
def zia (A:HEnv) (B:HEnv):Bool:=A.all fun x=>(B.get x.1).isNone
def QL (Hc Hc' R:HEnv) (ps:List Nat) (ars:List AV) (env2:Env) (r:AV):Bool :=
 zia Hc R&&zia Hc' R&&zdu 1000 Hc&&zdu 1000 Hc'&&Qd Hc ars&&hIn Hc Hc&&hIn Hc' Hc'&&ZC Hc' r&&hIn (R++Wx ps) R&&XB (R++Wx ps) env2&&ps.all fun i=>(Hc.get i).isSome&&(Hc'.get i).isSome
theorem QD {us:Nat→Value}:∀ {ps:List Nat} {i:Nat} {h:HE},HEnv.get (qx us ps) i=some h→1000≤i∧i - 1000∈ps∧h=.pin (.own (i - 1000)) (us (i - 1000))
 | [],i,h,hg=>by simp [qx,HEnv.get_nil] at hg
 | p::ps,i,h,hg=>by
  rw [qx,List.map_cons,HEnv.get_cons] at hg
  split at hg
  ·rename_i e;subst e
   simp only [Option.some.injEq] at hg;subst hg
   rw [Nat.add_sub_cancel_left];exact ⟨by omega,by simp,rfl⟩
  ·obtain ⟨h1,h2,h3⟩:=QD (ps:=ps) hg
   exact ⟨h1,by simp [h2],h3⟩
theorem zbM {us:Nat→Value}:∀ {ps:List Nat} {i:Nat},i∈ps→HEnv.get (qx us ps) (1000 + i)=some (.pin (.own i) (us i))
 | [],i,h=>by cases h
 | p::ps,i,h=>by
  rw [qx,List.map_cons,HEnv.get_cons]
  split
  ·rename_i e
   have:p=i:=by omega
   subst this;rfl
  ·rename_i e
   rcases List.mem_cons.1 h with rfl|h
   ·exact absurd rfl e
   ·exact zbM h
theorem Yg {A B:HEnv} (h:zia A B=true):∀ i x,A.get i=some x→B.get i=none:=by
 induction A with
 | nil=>intro i x hx;simp [HEnv.get_nil] at hx
 | cons y A ih =>
  intro i x hx
  obtain ⟨j,z⟩:=y
  simp only [zia,List.all_cons,Bool.and_eq_true] at h
  rw [HEnv.get_cons] at hx
  split at hx
  ·rename_i e;subst e;simpa using h.1
  ·exact ih h.2 i x hx
theorem zcr {ps:List Nat} {i:Nat} (h:(HEnv.get (Wx ps) i).isSome=true):i∈ps:=by
 induction ps with
 | nil=>simp [Wx,HEnv.get_nil] at h
 | cons p ps ih =>
  rw [Wx,List.map_cons,HEnv.get_cons] at h
  split at h
  ·rename_i e;simp [e]
  ·simp [ih h]
theorem ZN {w w':World} {B e sz n:Nat} {v:Value} {xs:List Value} (h:w.ownsRow B e sz v n xs) (hb:∀ b,zX v=some b→w'.heap[b]?=w.heap[b]?):w'.ownsRow B e sz v n xs:=by
 obtain ⟨h1,h2⟩:=h
 refine ⟨h1,h2.imp id ?_⟩
 rintro ⟨g,cap,cur,a,b,c,d⟩
 exact ⟨g,cap,cur,a,b,by rw [hb g (by rw [a];rfl)];exact c,d⟩
theorem YK {w:World} {B e sz n:Nat} {v:Value} {xs:List Value} (h:w.ownsRow B e sz v n xs) (b:Nat):zX v=some b↔v.ownBlock=some b:=by
 rcases h.2 with ⟨rfl,_⟩|⟨_,_,_,rfl,_⟩ <;> simp [zX,Value.ownBlock]
theorem yD {xs:Array Operand} {ts:Array TypeId} {d:Tmp} {ars:List AV} (Hc Hc' R:HEnv) (env2:Env) {lone:Bool} (ps:List Nat) (hw1:lone=true→g.w1.heap.size=0) (hg:guardE ops env o=some true)
  (hop:o.op=.call { callee:=.value (.func f),args:=xs,argTypes:=ts }) (hargs:avs env xs.toList=some ars) (hsub:HSub H (Hc++R)) (hs:Sub env env2) (hd:o.dst=some d) (hdt:Nat.blt d n=true)
  (hchk:QL Hc Hc' R ps ars env2 r=true) (hc:∀ us,ACallM P f ars (Hc++qx us ps) r (Hc'++qx us ps) lone)
  (h:AO P n g ops.toArray rest ((d,r)::env2) (Hc'++R) Q):AO P n g ops.toArray (o::rest) env H Q:=by
 simp only [QL,Bool.and_eq_true] at hchk
 obtain ⟨⟨⟨⟨⟨⟨⟨⟨⟨⟨d1,d2⟩,d3⟩,d4⟩,i1⟩,i2⟩,i3⟩,i4⟩,i5⟩,i6⟩,i7⟩:=hchk
 have i7':∀ i∈ps,(Hc.get i).isSome=true∧(Hc'.get i).isSome=true:=fun i hi=>by simpa using List.all_eq_true.1 i7 i hi
 refine ⟨fun a w hinv=>?_⟩
 have hw:=qh hinv hg
 obtain ⟨h1,h2,K,ρ,hf,he⟩:=hinv
 refine wpList_step fun KK hKK=>?_
 rw [if_pos hw]
 have hlatR:Later K K w w:=.refl K w
 have gC:∀ i x,Hc.get i=some x→H.get i=some x:=fun i x hx=>hsub i x (by rw [get_append,hx])
 have gR:∀ i x,R.get i=some x→H.get i=some x:=fun i x hx=>hsub i x (by
  rw [get_append]
  cases hh:Hc.get i with
  | none=>exact hx
  | some y=>rw [Yg d1 i y hh] at hx;cases hx)
 have nC:∀ i x,R.get i=some x→Hc.get i=none:=fun i x hx=>by
  cases hh:Hc.get i with
  | none=>rfl
  | some y=>rw [Yg d1 i y hh] at hx;cases hx
 have nC':∀ i x,R.get i=some x→Hc'.get i=none:=fun i x hx=>by
  cases hh:Hc'.get i with
  | none=>rfl
  | some y=>rw [Yg d2 i y hh] at hx;cases hx
 have hpinC:∀ {A:HEnv} {us:Nat→Value} {i:Nat} {x:HE},HEnv.get (A++qx us ps) i=some x→x.live=true→A.get i=some x:=by
  intro A us i x hx hl
  rw [get_append] at hx
  cases hh:A.get i with
  | some z=>rw [hh] at hx;exact hx
  | none =>
   rw [hh] at hx
   obtain ⟨_,_,rfl⟩:=QD hx
   simp [HE.live] at hl
 obtain ⟨g',hg'⟩:∃ g':Base,g'=⟨g.w0,K,g.w1,g.ds,w,fun b=>g.pr b∨∃ i x,R.get i=some x∧x.live=true∧zX (ρ i)=some b⟩:=⟨_,rfl⟩
 have hfs:FS g' K ρ (Hc++qx ρ ps) w:=by
  subst hg'
  refine ⟨hf.below,fun _ _ h=>h,fun _ _ h=>.inl h,hf.lt,hf.others,⟨?_,fun _ _ _=>rfl⟩,?_,?_,?_⟩
  ·rintro b (hb|⟨i,x,hi,hl,hb⟩)
   ·exact ⟨(hf.pt.same b hb).1,rfl,fun _=>Iff.rfl⟩
   ·exact ⟨((hf.heap.ok i x (gR i x hi)).block_lt hl hb).2,rfl,fun _=>Iff.rfl⟩
  ·intro i x b hi hl hb
   have hC:=hpinC hi hl
   rintro (hp|⟨j,y,hj,hly,hbj⟩)
   ·exact hf.away i x b (gC i x hC) hl hb hp
   ·have hne:i≠j:=by rintro rfl;rw [nC i y hj] at hC;cases hC
    exact hf.heap.apart i j x y b hne (gC i x hC) (gR j y hj) hl hly hb hbj
  ·intro i x hi
   rw [get_append] at hi
   cases hh:Hc.get i with
   | some y =>
    rw [hh] at hi;simp only [Option.some.injEq] at hi;subst hi
    have hok:=hf.heap.ok i y (gC i y hh)
    have hk:∀ j,(HEnv.get Hc j).isSome=true→(HEnv.get (Hc++qx ρ ps) j).isSome=true∧ρ j=ρ j:=fun j hj=>⟨yE j hj,rfl⟩
    cases y with
    | cell v=>obtain ⟨b,t,arr,u,q1,q2,q3,q4,q5,q6⟩:=hok;exact ⟨b,t,arr,u,q1,q2,q3,(q4.refs (Yz i2 i v hh)).keeps hlatR hk,q5,q6⟩
    | pin v u=>exact (ARel.refs hok (ZG i2 i v u hh)).keeps hlatR hk
    | row t sz es=>exact hok
    | mrow t sz es=>exact hok
    | dead=>exact hok
    | obj X=>exact hok
   | none =>
    rw [hh] at hi
    obtain ⟨q1,q2,rfl⟩:=QD hi
    exact .own _ (yE _ (i7' _ q2).1)
  ·intro i j x y b hij hi hj lx ly bx bj
   exact hf.heap.apart i j x y b hij (gC i x (hpinC hi lx)) (gC j y (hpinC hj ly)) lx ly bx bj
 have hpa:=zat (a:=a) he hargs
 have hall:Yx K w ρ (Hc++qx ρ ps) ars (xs.toList.map a.eval) :=
  ⟨hpa.1,fun k c v hc hv=>((hpa.2 k c v hc hv).refs (Zq i1 k c hc)).keeps hlatR fun j hj=>⟨yE j hj,rfl⟩⟩
 have hrun:(execOp a.eval o).run P w=.ok (.enter f (xs.toList.map a.eval).toArray) w:=by
  have e:(xs.toList.map a.eval).toArray=xs.map a.eval:=by rw [←Array.toList_map,Array.toArray_toList]
  rw [e]
  simp [execOp,hop,resolve,Act.eval,Deferred.ofValue,invoke,Zi (hc ρ).stands]
 unfold Oper.wp
 rw [hrun]
 simp only [Oper.upon]
 refine ((hc ρ).calls g' K ρ w _ (by subst hg';exact hw1) hfs hall).mono fun e w' ⟨v,K',ρ',e1,hf',hv⟩=>?_
 subst e1
 have hlat:Later K K' w w':=by subst hg';exact ⟨hf'.old,hf'.pt.kept⟩
 have hprot:∀ b,(g.pr b∨∃ i x,R.get i=some x∧x.live=true∧zX (ρ i)=some b)→b < w'.heap.size∧w'.heap[b]?=w.heap[b]?∧∀ o,K' b o↔K b o:=by subst hg';exact hf'.pt.same
 have haway:∀ i x b,Hc'.get i=some x→x.live=true→zX (ρ' i)=some b→¬ (g.pr b∨∃ i x,R.get i=some x∧x.live=true∧zX (ρ i)=some b):=by
  subst hg';exact fun i x b hi=>hf'.away i x b (by rw [get_append,hi])
 obtain ⟨ρ2,hρ2⟩:∃ ρ2:Nat→Value,∀ j,ρ2 j=if (Hc'.get j).isSome then ρ' j else ρ j:=⟨_,fun _=>rfl⟩
 have r1:∀ j,(Hc'.get j).isSome=true→ρ2 j=ρ' j:=fun j hj=>by rw [hρ2,if_pos hj]
 have r2:∀ j,Hc'.get j=none→ρ2 j=ρ j:=fun j hj=>by rw [hρ2,hj];rfl
 have hkC:∀ j,(HEnv.get Hc' j).isSome=true→(HEnv.get (Hc'++R) j).isSome=true∧ρ2 j=ρ' j:=fun j hj=>⟨yE j hj,r1 j hj⟩
 have hps:∀ i∈ps,ρ' i=ρ i:=fun i hi=>by
  have hnone:Hc'.get (1000 + i)=none:=by
   cases hh:Hc'.get (1000 + i) with
   | none=>rfl
   | some x=>have:=XM d4 _ x hh;omega
  have:=hf'.heap.ok (1000 + i) _ (by rw [get_append,hnone];exact zbM hi)
  have this:ARel K' w' ρ' (Hc'++qx ρ ps) (.own i) (ρ i):=this
  generalize hu:ρ i=u at this
  cases this with
  | own _ _=>rfl
 have hkR:∀ j,(HEnv.get (R++Wx ps) j).isSome=true→(HEnv.get (Hc'++R) j).isSome=true∧ρ2 j=ρ j:=fun j hj=>by
  rw [get_append] at hj
  cases hh:R.get j with
  | some x =>
   have hn:=nC' j x hh
   exact ⟨by rw [get_append,hn,hh];rfl,r2 j hn⟩
  | none =>
   rw [hh] at hj
   have hm:=zcr hj
   have hs':=(i7' j hm).2
   exact ⟨yE j hs',by rw [r1 j hs',hps j hm]⟩
 have hfs2:FS g K' ρ2 (Hc'++R) w':=by
  have b1:Below g.w0.heap.size g.w0 w':=by subst hg';exact hf'.below
  have b3:∀ b o,K' b o→K b o∨g.w0.heap.size≤b:=by subst hg';exact hf'.new
  have b5:KeepsOthers g.w1 w':=by subst hg';exact hf'.others
  have bB:HRel K' w' g.w0.heap.size ρ' (Hc'++qx ρ ps):=by subst hg';exact hf'.heap
  refine ⟨b1,fun b o h=>hlat.sub b o (hf.old b o h),fun b o hk=>(b3 b o hk).elim (hf.new b o) .inr,hf'.lt,b5,⟨fun b hb=>?_,fun b o h0=>(hlat.cell b o (hf.old b o h0)).trans (hf.pt.kept b o h0)⟩,fun i x b hi hl hb=>?_,fun i x hi=>?_,fun i j x y b hij hi hj lx ly bx bj=>?_⟩
  ·obtain ⟨p1,p2,p3⟩:=hprot b (.inl hb)
   obtain ⟨q1,q2,q3⟩:=hf.pt.same b hb
   exact ⟨p1,p2.trans q2,fun o=>(p3 o).trans (q3 o)⟩
  ·rw [get_append] at hi
   cases hh:Hc'.get i with
   | some y =>
    rw [hh] at hi;simp only [Option.some.injEq] at hi;subst hi
    rw [r1 i (by rw [hh];rfl)] at hb
    exact fun hp=>haway i y b hh hl hb (.inl hp)
   | none =>
    rw [hh] at hi
    rw [r2 i hh] at hb
    exact hf.away i x b (gR i x hi) hl hb
  ·rw [get_append] at hi
   cases hh:Hc'.get i with
   | some y =>
    rw [hh] at hi;simp only [Option.some.injEq] at hi;subst hi
    rw [r1 i (by rw [hh];rfl)]
    have hok:=bB.ok i y (by rw [get_append,hh])
    have hl':=Later.refl K' w'
    cases y with
    | cell v=>obtain ⟨b,t,arr,u,q1,q2,q3,q4,q5,q6⟩:=hok;exact ⟨b,t,arr,u,q1,q2,q3,(q4.refs (Yz i3 i v hh)).keeps hl' hkC,q5,q6⟩
    | pin v u=>exact (ARel.refs hok (ZG i3 i v u hh)).keeps hl' hkC
    | row t sz es=>exact hok
    | mrow t sz es=>exact hok
    | dead=>exact hok
    | obj X=>exact hok
   | none =>
    rw [hh] at hi
    rw [r2 i hh]
    have hok:=hf.heap.ok i x (gR i x hi)
    have hsame:x.live=true→∀ b,zX (ρ i)=some b→w'.heap[b]?=w.heap[b]?∧∀ o,K' b o↔K b o:=fun hl b hb=>(hprot b (.inr ⟨i,x,hi,hl,hb⟩)).2
    cases x with
    | cell v =>
     obtain ⟨b,t,arr,u,q1,q2,q3,q4,q5,q6⟩:=hok
     obtain ⟨s1,s2⟩:=hsame rfl b (by rw [q1];rfl)
     exact ⟨b,t,arr,u,q1,q2,by rw [s1];exact q3,(q4.refs (Yz i5 i v hi)).keeps hlat hkR,q5,fun o hk=>q6 o ((s2 o).1 hk)⟩
    | pin v u=>exact (ARel.refs hok (ZG i5 i v u hi)).keeps hlat hkR
    | row t sz es =>
     obtain ⟨xs,q1,q2,q3,q4⟩:=hok
     refine ⟨xs,ZN q1 fun b hb=>(hsame rfl b hb).1,q2,fun k e he=>?_,fun b hb o=>?_⟩
     ·obtain ⟨c1,c2⟩:=q3 k e he
      exact ⟨c1,fun k c hc=>let ⟨v,h4,h5,h6⟩:=c2 k c hc;⟨v,h4,h5,h6.later hlat⟩⟩
     ·rw [(hsame rfl b ((YK q1 b).2 hb)).2 o];exact q4 b hb o
    | mrow t sz es =>
     obtain ⟨xs,q1,q2,q3,q4⟩:=hok
     refine ⟨xs,ZN q1 fun b hb=>(hsame rfl b hb).1,q2,fun k e he=>?_,fun b hb o hk=>?_⟩
     ·obtain ⟨c1,c2⟩:=q3 k e he
      exact ⟨c1,fun k c hc=>let ⟨v,h4,h5,h6⟩:=c2 k c hc;⟨v,h4,h5,h6.later hlat⟩⟩
     ·exact q4 b hb o (((hsame rfl b ((YK q1 b).2 hb)).2 o).1 hk)
    | dead=>trivial
    | obj X =>
     obtain ⟨b,ob,q1,q2,q3,q4,q5⟩:=hok
     obtain ⟨s1,s2⟩:=hsame rfl b (by rw [q1];rfl)
     exact ⟨b,ob,q1,q2,by rw [s1];exact q3,q4,fun o hk=>q5 o ((s2 o).1 hk)⟩
  ·rw [get_append] at hi hj
   cases hhi:Hc'.get i with
   | some x' =>
    rw [hhi] at hi;simp only [Option.some.injEq] at hi;subst hi
    rw [r1 i (by rw [hhi];rfl)] at bx
    cases hhj:Hc'.get j with
    | some y' =>
     rw [hhj] at hj;simp only [Option.some.injEq] at hj;subst hj
     rw [r1 j (by rw [hhj];rfl)] at bj
     exact bB.apart i j x' y' b hij (by rw [get_append,hhi]) (by rw [get_append,hhj]) lx ly bx bj
    | none =>
     rw [hhj] at hj;rw [r2 j hhj] at bj
     exact haway i x' b hhi lx bx (.inr ⟨j,y,hj,ly,bj⟩)
   | none =>
    rw [hhi] at hi;rw [r2 i hhi] at bx
    cases hhj:Hc'.get j with
    | some y' =>
     rw [hhj] at hj;simp only [Option.some.injEq] at hj;subst hj
     rw [r1 j (by rw [hhj];rfl)] at bj
     exact haway j y' b hhj ly bj (.inr ⟨i,x,hi,lx,bx⟩)
    | none =>
     rw [hhj] at hj;rw [r2 j hhj] at bj
     exact hf.heap.apart i j x y b hij (gR i x hi) (gR j y hj) lx ly bx bj
 have he2:EnvR K' w' ρ2 (Hc'++R) env2 a.tmps:=fun t av ht=>by
  obtain ⟨u,u1,u2⟩:=he t av (hs t av ht)
  exact ⟨u,u1,(u2.refs (zaO i6 t av ht)).keeps hlat hkR⟩
 refine hKK _ _ (h.go _ _ ⟨qU h1,put_defers h2,K',ρ2,hfs2,?_⟩)
 rw [hd]
 exact ZB h1 hdt he2 ((hv.refs i4).keeps (Later.refl K' w') hkC)
end
structure ACallPan (P:Program) (f:FuncId) (args:List AV) (H:HEnv) (v:Value) (lone:Bool:=false):Prop where
 stands:zax P f
 calls:∀ (g:Base) (K:KK) (ρ:Nat→Value) (w:World) (vs:List Value),(lone=true→g.w1.heap.size=0)→FS g K ρ H w→Yx K w ρ H args vs →
  Calls P f vs.toArray w fun e w'=>e=.panicked [{ v:=v,recovered:=false }]∧∃ K' ρ',FS g K' ρ' [] w'
theorem zh {P:Prop}:false=true→P:=fun h=>nomatch h
inductive Out where
 | ret (r:AV) (H':HEnv)
 | pan (v:Value)
def YQ (P:Program) (f:FuncId) (args:List AV) (H:HEnv) (o:Out) (lone:Bool:=false):Prop :=
 match o with
 | .ret r H'=>ACallM P f args H r H' lone
 | .pan v=>ACallPan P f args H v lone
def zjw (tb:Tab) (rs:List ResultVar):Out→QC
 | .ret r H'=>zgD tb rs r H'
 | .pan v=>fun ex _ _=>ex=.panic [{ v:=v,recovered:=false }]
structure AOX (P:Program) (n:Nat) (g:Base) (ops:Array Oper) (l:List Oper) (env:Env) (H:HEnv) (Q:QC):Prop where
 go:∀ a w,Inv n g env H a w→wpList P ops (fun e a' w'=>∃ env' H',Inv n g env' H' a' w'∧(e=.normal∨∃ ch,e=.panic ch)∧Q e env' H') l a w
section
variable {P:Program} {tb:Tab} {n:Nat} {g:Base} {K K':KK} {w w':World} {ρ ρ':Nat→Value} {H H':HEnv} {env:Env} {a:Act} {ops:List Oper} {o:Oper} {rest:List Oper} {Q:Env→HEnv→Prop} {f:FuncId} {args:List AV} {r:AV} {QQ:QC}
theorem XH {R:Exit→Act→World→Prop} {arr:Array Oper} {l2:List Oper}:∀ {l1:List Oper} {a:Act} {w:World},wpList P arr (fun e a' w'=>e=.normal∧wpList P arr R l2 a' w') l1 a w→wpList P arr R (l1++l2) a w
 | [],a,w,h=>h.2
 | o::l1,a,w,h=>by
  rw [List.cons_append]
  unfold wpList at h ⊢
  split
  ·rename_i hw
   rw [if_pos hw] at h
   rcases h with h|⟨h1,a',w',h2,_⟩
   ·refine .inl ?_
    unfold Oper.wp at h ⊢
    generalize (execOp a.eval o).run P w=r at *
    cases r with
    | ok nx w' =>
     cases nx <;> simp only [Oper.upon] at h ⊢ <;>
      first
       | exact XH h
       | exact Calls.mono h (fun e w'' he=>by
         cases e with
         | returned v=>exact XH he
         | panicked ch=>cases he.1
         | outgrown=>obtain ⟨_,_,he,_⟩:=he;cases he)
       | exact Rows.mono h (fun _ _ he=>XH he)
    | halt x w'=>cases x <;> simp only [Oper.upon] at h ⊢ <;> first|exact h.elim|(obtain ⟨he,_⟩:=h;cases he)
   ·cases h2
  ·rename_i hw
   rw [if_neg hw] at h
   exact XH h
theorem zss {l1 l2:List Oper} (h:AO P n g ops.toArray l1 env H (fun env' H'=>AOX P n g ops.toArray l2 env' H' QQ)):AOX P n g ops.toArray (l1++l2) env H QQ :=
 ⟨fun a w hi=>XH (ZM (fun e a' w' ⟨env',H',h1,h2,h3⟩=>⟨h2,h3.go a' w' h1⟩) (h.go a w hi))⟩
theorem zsc (k:Nat) {l l1 l2:List Oper} (h1:l.take k=l1) (h2:l.drop k=l2) (h:AO P n g ops.toArray l1 env H (fun env' H'=>AOX P n g ops.toArray l2 env' H' QQ)):AOX P n g ops.toArray l env H QQ:=by
 have:=zss h
 rwa [←h1,←h2,List.take_append_drop] at this
theorem XO {l:List Oper} (h:AO P n g ops.toArray l env H (fun env' H'=>QQ .normal env' H')):AOX P n g ops.toArray l env H QQ :=
 ⟨fun a w hi=>ZM (fun _ _ _ ⟨env',H',h1,h2,h3⟩=>⟨env',H',h1,.inl h2,by rw [h2];exact h3⟩) (h.go a w hi)⟩
theorem zhz:¬ LetsOut (fun e a w=>∃ env' H',Inv n g env' H' a w∧(e=.normal∨∃ ch,e=.panic ch)∧QQ e env' H'):=fun ⟨_,_,_,_,_,hx,_⟩=>by rcases hx with hx|⟨_,hx⟩ <;> cases hx
theorem zma {id:Nat} (h:AOX P n g ops.toArray ops env H QQ) (hnd:Zd ops=true:=by kernel_rfl):AW P n g (.region id ops.toArray false) env H QQ :=
 ⟨fun a w hi r d=>wpIn_mono (wpIn_region_lit (za4 (r:=r) (n:=d) zhz hnd (h.go a w hi))) (fun e a' w' ⟨env',H',h1,_,h3⟩=>⟨env',H',h1,h3⟩)⟩
theorem zA {xs:Array Operand} {ts:Array TypeId} {ars:List AV} {v:Value} (Hc:HEnv) {lone:Bool} (hw1:lone=true→g.w1.heap.size=0) (hg:guardE ops env o=some true)
  (hop:o.op=.call { callee:=.value (.func f),args:=xs,argTypes:=ts }) (hargs:avs env xs.toList=some ars) (hfit:Qo H Hc (WQ 0 ars)) (hc:ACallPan P f ars Hc v lone)
  (h:QQ (.panic [{ v:=v,recovered:=false }]) [] []):AOX P n g ops.toArray (o::rest) env H QQ:=by
 refine ⟨fun a w hinv=>?_⟩
 have hw:=qh hinv hg
 obtain ⟨h1,h2,K,ρ,hf,he⟩:=hinv
 refine wpList_step fun KK hKK=>?_
 rw [if_pos hw]
 have hpa:=zat (a:=a) he hargs
 have hall:Yx K w ρ Hc ars (xs.toList.map a.eval) :=
  ⟨hpa.1,fun k c v hc hv=>(hpa.2 k c v hc hv).refs (by
   have hin:=hfit.2
   simp only [Bool.and_eq_true] at hin
   have key:∀ (l:List AV) (b k:Nat) (c:AV),l[k]?=some c→XB Hc (WQ b l)=true→ZC Hc c=true:=by
    intro l
    induction l with
    | nil=>intro b k c hc;simp at hc
    | cons x l ih =>
     intro b k c hc hb
     simp only [WQ,XB,Bool.and_eq_true] at hb
     cases k with
     | zero=>simp at hc;subst hc;exact hb.1
     | succ k=>simp at hc;exact ih _ k c hc hb.2
   exact key ars 0 k c hc hin.1)⟩
 have hrun:(execOp a.eval o).run P w=.ok (.enter f (xs.toList.map a.eval).toArray) w:=by
  have e:(xs.toList.map a.eval).toArray=xs.map a.eval:=by rw [←Array.toList_map,Array.toArray_toList]
  rw [e]
  simp [execOp,hop,resolve,Act.eval,Deferred.ofValue,invoke,Zi hc.stands]
 unfold Oper.wp
 rw [hrun]
 simp only [Oper.upon]
 refine (hc.calls g K ρ w _ hw1 (hf.narrow hfit) hall).mono fun e w' ⟨e1,K',ρ',hf'⟩=>?_
 subst e1
 exact ⟨[],[],⟨h1,h2,K',ρ',hf',fun t av ht=>by simp [Env.get_nil] at ht⟩,.inr ⟨_,rfl⟩,h⟩
theorem ziH {x:Operand} {v:Value} {t:TypeId} (hg:guardE ops env o=some true) (hop:o.op=.panic x) (hx:env.pv H x=some (.base (.iface t v))) (h:QQ (.panic [{ v:=.iface t v,recovered:=false }]) env H):AOX P n g ops.toArray (o::rest) env H QQ:=by
 refine ⟨fun a w hinv=>?_⟩
 have hw:=qh hinv hg
 have hinv':=hinv
 obtain ⟨h1,h2,K,ρ,hf,he⟩:=hinv
 refine wpList_step fun KK hKK=>?_
 rw [if_pos hw]
 have hxr:=qw (a:=a) hf (x:=x) (fun av hh=>qB he hh) hx
 unfold Oper.wp
 generalize hxv:a.eval x=xv at hxr
 cases hxr
 have hrun:(execOp a.eval o).run P w=.halt (.panic (.iface t v)) w:=by
  simp [execOp,hop,hxv,Instr.panic]
 rw [hrun]
 exact ⟨env,H,hinv',.inr ⟨_,rfl⟩,h⟩
end
section
variable {P:Program} {tb:Tab} {n:Nat} {H H':HEnv} {f:FuncId} {args:List AV}
theorem VA {fn:Func} {c:Code} {v:Value} (hf:P.funcs[f]?=some fn) (hb:fn.body=some c) (hn:(fn.name == "runtime.NumGoroutine")=false) (hnt:fn.ntmps=n) (hargs:args.length≤n)
  {lone:Bool} (h:∀ g:Base,(lone=true→g.w1.heap.size=0)→AW P n g c (WQ 0 args) H (fun ex _ _=>ex=.panic [{ v:=v,recovered:=false }])):ACallPan P f args H v lone:=by
 refine ⟨⟨fn,hf,by simp [hb],hn⟩,fun g0 K ρ w vs hw1 hfs0 hv=>?_⟩
 obtain ⟨g,hg0⟩:∃ g:Base,g=⟨g0.w0,g0.K0,g0.w1,[],g0.wp,g0.pr⟩:=⟨_,rfl⟩
 have hfs:FS g K ρ H w:=by subst hg0;exact ⟨hfs0.below,hfs0.old,hfs0.new,hfs0.lt,hfs0.others,⟨hfs0.pt.same,hfs0.pt.kept⟩,hfs0.away,hfs0.heap⟩
 refine calls_of_wp hf hb ?_
 have hlen:vs.length=args.length:=hv.1
 refine wp_mono (wpIn_wide.1 ((h g (by subst hg0;exact hw1)).go _ w ⟨by simp [hnt];omega,by subst hg0;rfl,K,ρ,hfs,?_⟩ none 0)) ?_
 ·intro t av hg
  obtain ⟨_,hp⟩:=Vx args 0 t av hg
  have hlt:t < vs.length:=by rw [hlen];exact (List.getElem?_eq_some_iff.1 hp).1
  refine ⟨vs[t],?_,hv.2 t av _ hp (List.getElem?_eq_getElem hlt)⟩
  rw [Array.getElem?_append_left (by simpa using hlt)]
  simp [hlt]
 ·rintro e a' w' ⟨env1,H1,hi,rfl⟩
  obtain ⟨_,h2,K',ρ',hf',_⟩:=hi
  have hf2:FS g K' ρ' [] w':=hf'.narrow (e:=[]) ⟨zG,rfl⟩
  refine ⟨by rw [h2];subst hg0;rfl,rfl,K',ρ',?_⟩
  subst hg0;exact ⟨hf2.below,hf2.old,hf2.new,hf2.lt,hf2.others,⟨hf2.pt.same,hf2.pt.kept⟩,hf2.away,hf2.heap⟩
theorem zH (htb:qc P tb) {fn:Func} {c:Code} {o:Out} (hf:P.funcs[f]?=some fn) (hb:fn.body=some c) (hn:(fn.name == "runtime.NumGoroutine")=false) (hnt:fn.ntmps=n) (hargs:args.length≤n) (rs:List ResultVar) (hrs:fn.results.toList=rs)
  {lone:Bool} (h:∀ g:Base,(lone=true→g.w1.heap.size=0)→AW P n g c (WQ 0 args) H (zjw tb rs o)):YQ P f args H o lone:=by
 cases o with
 | ret r H'=>exact qZ htb hf hb hn hnt hargs rs hrs h
 | pan v=>exact VA hf hb hn hnt hargs h
end
section
variable {P:Program} {g:Base} {H:HEnv} {env:Env} {tb:Tab} {o:Oper}
theorem ztH {x y:Operand} {ts:Array TypeId} {k:IntKind} {m c:Int} (hop:o.op=.call { callee:=.builtin .max,args:=#[x,y],argTypes:=ts }) (hx:env.pv H x=some (.base (.int k m))) (hy:env.pv H y=some (.base (.int k c))):QStep P g H o env (.pv (.base (.int k (max m c)))):=by
 refine ⟨fun K ρ a w hf hv=>?_⟩
 have hxr:=qw hf (hv x (by rw [hop];simp [Op.operands,Call.operands])) hx
 have hyr:=qw hf (hv y (by rw [hop];simp [Op.operands,Call.operands])) hy
 generalize hxv:a.eval x=xv at hxr
 generalize hyv:a.eval y=yv at hyr
 cases hxr;cases hyr
 have hrun:(execOp a.eval o).run P w=.ok (.value (.int k (max m c))) w:=by
  simp [execOp,hop,resolve,invoke,builtin,Builtin.max_,Builtin.max2,hxv,hyv]
  first|done|omega|(split <;> simp <;> omega)
 rw [hrun]
 exact ZT hf (.pv _ _ (.base _ rfl))
theorem ztw {x y:Operand} {ts:Array TypeId} {k:IntKind} {m c:Int} (hop:o.op=.call { callee:=.builtin .min,args:=#[x,y],argTypes:=ts }) (hx:env.pv H x=some (.base (.int k m))) (hy:env.pv H y=some (.base (.int k c))):QStep P g H o env (.pv (.base (.int k (min m c)))):=by
 refine ⟨fun K ρ a w hf hv=>?_⟩
 have hxr:=qw hf (hv x (by rw [hop];simp [Op.operands,Call.operands])) hx
 have hyr:=qw hf (hv y (by rw [hop];simp [Op.operands,Call.operands])) hy
 generalize hxv:a.eval x=xv at hxr
 generalize hyv:a.eval y=yv at hyr
 cases hxr;cases hyr
 have hrun:(execOp a.eval o).run P w=.ok (.value (.int k (min m c))) w:=by
  simp [execOp,hop,resolve,invoke,builtin,Builtin.min_,Builtin.min2,hxv,hyv]
  first|done|omega|(split <;> simp <;> omega)
 rw [hrun]
 exact ZT hf (.pv _ _ (.base _ rfl))
end
end Go.Cg
