/- A part of the walks by abstract values: no statement of its own. -/
import Derived.Test.YtdlokcmodgccnaaGreatU13
import Derived.Test.YtdlokcmodgccnaaGreatU11
import Derived.Test.YtdlokcmodgccnaaGreatU6
import Derived.Test.YtdlokcmodgccnaaGreatU7
set_option linter.unusedVariables false
set_option linter.unusedSimpArgs false
namespace Go.Cg
open Go.Proofs
def fieldsOf (g:Img) (t:Int):List Int:=(nums g.fields.length).filter fun i=>there g t&&(g.fields.getD i.toNat default).owner==t
def methodsOf (g:Img) (t:Int):List Int:=(nums g.methods.length).filter fun i=>there g t&&(g.methods.getD i.toNat default).owner==t
theorem zkS {n k:Nat} (h:k < (nums n).length):(nums n)[k]=(k:Int):=by simp [nums]
def zci (a b:Me):Bool:=decide (a.ret=b.ret)&&(a.flags.tmod 2==b.flags.tmod 2)&&decide (a.params=b.params)
def zeD (g:Img) (i:Int):Bool :=
 let f:=g.fields.getD i.toNat default
 !f.static&&f.ty.kind==6&&f.ty.dims==0&&yt g f.ty.index==1
def partsOf (g:Img) (t:Int):List Int:=((fieldsOf g t).filter (zeD g)).map fun i=>(g.fields.getD i.toNat default).ty.index
theorem YN {g:Img} {t i:Int} (h:i∈fieldsOf g t):0≤i∧i.toNat < g.fields.length:=by
 simp only [fieldsOf,nums,List.mem_filter,List.mem_map,List.mem_range] at h
 obtain ⟨⟨k,hk,rfl⟩,_⟩:=h
 exact ⟨by omega,by simpa using hk⟩
theorem qM {g:Img} {t i:Int} (h:i∈methodsOf g t):0≤i∧i.toNat < g.methods.length:=by
 simp only [methodsOf,nums,List.mem_filter,List.mem_map,List.mem_range] at h
 obtain ⟨⟨k,hk,rfl⟩,_⟩:=h
 exact ⟨by omega,by simpa using hk⟩
theorem zbF {n:Nat} {p:Int→Bool}:((nums n).filter p).length≤n:=Nat.le_trans (List.length_filter_le _ _) (by simp [nums])
theorem WY (g:Img) (t:Int):(fieldsOf g t).length≤g.fields.length:=zbF
theorem Qz (g:Img) (t:Int):(methodsOf g t).length≤g.methods.length:=zbF
theorem YE {α:Type} {f:α→PV} {l:List α} {i:Int} (h:i.toNat < l.length):(l.map f)[i.toNat]?=some (f l[i.toNat]):=by simp [h]
def Yn (td:TD):Bool :=
 if WU td.flags==2 then td.ext == -1&&qF td.flags 4&&!qF td.flags 1&&!qF td.flags 8&&!qF td.flags 16
 else if WU td.flags==1 then td.ext == -1&&qF td.flags 8&&!qF td.flags 4&&!qF td.flags 16
 else if WU td.flags==3 then td.ext == -1&&qF td.flags 8&&!qF td.flags 4&&((td.faces.length:Int)==0)
 else true
theorem zfy {g:Img}:∀ (n:Nat) (t:Int) (out:List Int),∃ r,zaU g n t out=out++r
 | 0,t,out=>⟨[],by simp [zaU]⟩
 | n + 1,t,out=>by
  rw [zaU]
  cases ht:typeAt g t with
  | none=>exact ⟨[],by simp⟩
  | some td =>
   by_cases hm:t∈out
   ·exact ⟨[],by simp [hm]⟩
   ·obtain ⟨r,hr⟩:=zfy n td.ext (out++[t])
    exact ⟨t::r,by simp only [hm,if_false];rw [hr];simp⟩
theorem zf8 {g:Img} {t:Int} {td:TD} (h:typeAt g t=some td):∃ r,up g t=t::r:=by
 obtain ⟨r,hr⟩:=zfy (g:=g) g.types.length td.ext [t]
 exact ⟨r,by rw [up,zaU,h];simpa using hr⟩
def zaE (g:Img) (t:Int):Int:=match typeAt g ((up g t).getLastD 0) with|some td=>td.ext|none => -1
def zbf (g:Img) (t:Int):Int:=match typeAt g t with|some td=>td.flags|none=>0
def zlv (g:Img) (t:Int) (td:TD):Bool:=!decide (0≤td.ext)||(yt g td.ext==0&&!qF (zbf g td.ext) 8&&decide (zaE g t < 0))
def zd1 (g:Img) (l:List Int) (i:Nat):Bool:=yt g (l.getD i 0)==2&&!decide (l.getD i 0∈l.take i)
def VJ (g:Img) (t:Int) (td:TD):Bool :=
 zlv g t td&&(List.range td.faces.length).all (zd1 g td.faces)&&(yt g t != 2||!decide (t∈za6 g t))
def zcw (g:Img) (t:Int) (td:TD) (i:Nat):Bool:=!((i:Int) != t&&(g.types.getD i default).name.toList==td.name.toList)
def fName (g:Img) (i:Int):ByteArray:=(g.fields.getD i.toNat default).name
def zpq (g:Img) (l:List Int) (i k:Nat):Bool:=!((fName g (l.getD i 0)).toList==(fName g (l.getD k 0)).toList)
def zhC (g:Img) (l:List Int) (i k:Nat):Bool :=
 !((g.methods.getD (l.getD i 0).toNat default).name.toList==(g.methods.getD (l.getD k 0).toNat default).name.toList&&zci (g.methods.getD (l.getD i 0).toNat default) (g.methods.getD (l.getD k 0).toNat default))
def zjq (g:Img) (t:Int) (td:TD):Bool :=
 (List.range g.types.length).all (zcw g t td)
 && (List.range (fieldsOf g t).length).all (fun i=>(List.range i).all (zpq g (fieldsOf g t) i))
 && (List.range (methodsOf g t).length).all (fun i=>(List.range i).all (zhC g (methodsOf g t) i))
def zjB (g:Img) (k:Int) (i:Int):Bool:=!(k==3||(k==2&&!(g.fields.getD i.toNat default).static))
def Yv (met:List Int) (x:Int):List Int:=if x∈met then met else met++[x]
def zka (g:Img) (met:List Int) (u:Int):List Int:=(partsOf g u).foldl Yv met
def zdi (g:Img):Nat→Nat→List Int→List Int
 | 0,_,met=>met
 | n + 1,i,met=>match met[i]? with|some u=>zdi g n (i + 1) (zka g met u)|none=>met
def zqs (g:Img) (t:Int):List Int:=zdi g (g.fields.length + g.types.length + 1) 0 (partsOf g t)
def zcV (g:Img) (t:Int):Bool:=(fieldsOf g t).all (zjB g (yt g t))&&(yt g t != 1||!decide (t∈zqs g t))
def PInv (g:Img) (t:Int) (met:List Int):Prop:=∃ a,met=partsOf g t++a∧a.Nodup∧∀ y∈a,0≤y∧y < g.types.length
theorem zfl (g:Img) (t:Int):(partsOf g t).length≤g.fields.length:=by
 rw [partsOf,List.length_map]
 exact Nat.le_trans (List.length_filter_le _ _) (WY g t)
theorem PInv.len {g:Img} {t:Int} {met:List Int} (h:PInv g t met):met.length≤g.fields.length + g.types.length:=by
 obtain ⟨a,rfl,h1,h2⟩:=h
 have:=Ya _ _ h1 h2
 have:=zfl g t
 simp;omega
theorem QA {g:Img} {t x:Int} (h:x∈partsOf g t):0≤x∧x < g.types.length:=by
 simp only [partsOf,List.mem_map,List.mem_filter,zeD,Bool.and_eq_true,beq_iff_eq] at h
 obtain ⟨i,⟨_,_,hk⟩,rfl⟩:=h
 rw [yt] at hk
 cases ht:typeAt g (g.fields.getD i.toNat default).ty.index with
 | none=>rw [ht] at hk;simp at hk
 | some td=>exact XI ht
theorem PInv.add {g:Img} {t:Int} {met:List Int} {x:Int} (h:PInv g t met) (hx:0≤x∧x < g.types.length):PInv g t (Yv met x):=by
 unfold Yv
 split
 ·exact h
 ·rename_i hn
  obtain ⟨a,rfl,h1,h2⟩:=h
  refine ⟨a++[x],by simp,?_,?_⟩
  ·rw [List.nodup_append];simp [h1];intro b hb e;subst e;exact hn (by simp [hb])
  ·intro y hy
   simp only [List.mem_append,List.mem_singleton] at hy
   rcases hy with hy|rfl
   ·exact h2 y hy
   ·exact hx
def Zr (g:Img) (t:Nat):Int :=
 let td:=g.types.getD t default
 if !Yn td||!VJ g t td then 7 else if !zjq g t td then 18 else if !zcV g t then 20 else 0
def WH (g:Img):Int × Int :=
 if !yJ g then (0,17) else match (List.range g.types.length).find? (fun t=>Zr g t != 0) with
  | some t=>(((t:Nat):Int),Zr g t)
  | none=>(0,0)
def YZ (g:Img):Bool:=(WH g).2==0
theorem yH {g:Img} (h:yJ g=true):g.types.length≤32∧g.fields.length≤64∧g.methods.length≤64∧∀ td∈g.types,YV td g.types.length=true:=by
 simp only [yJ,Bool.and_eq_true,decide_eq_true_eq,List.all_eq_true] at h
 obtain ⟨⟨⟨⟨⟨⟨⟨h1,h2⟩,h3⟩,_⟩,_⟩,h4⟩,_⟩,_⟩:=h
 exact ⟨by omega,by omega,by omega,h4⟩
theorem QJ {td:TD} {n:Int} (h:YV td n=true):0≤td.flags∧td.flags≤31 ∧ -1≤td.ext∧td.ext < n∧td.faces.length≤4∧∀ f∈td.faces,0≤f∧f < n:=by
 simp only [YV,Bool.and_eq_true,decide_eq_true_eq,List.all_eq_true,zc3] at h
 obtain ⟨⟨⟨⟨⟨⟨_,h1⟩,h2⟩,h3⟩,h4⟩,h5⟩,h6⟩:=h
 exact ⟨h1,h2,h3,h4,by omega,h6⟩
theorem zlz {g:Img} {k:Nat} (hf:yJ g=true) (hk:k < g.types.length) (hno:∀ j,j < k→Zr g j=0) (h:Zr g k≠0):WH g=(((k:Nat):Int),Zr g k):=by
 have:(List.range g.types.length).find? (fun t=>Zr g t != 0)=some k:=by
  rw [List.find?_range_eq_some]
  exact ⟨by simpa using h,by simpa using hk,fun j hj=>by simp [hno j hj]⟩
 simp [WH,hf,this]
theorem zpW {g:Img} (hf:yJ g=true) (hno:∀ j,j < g.types.length→Zr g j=0):WH g=(0,0):=by
 have:(List.range g.types.length).find? (fun t=>Zr g t != 0)=none:=by
  rw [List.find?_eq_none]
  intro j hj
  simp [hno j (List.mem_range.1 hj)]
 simp [WH,hf,this]
theorem zc5 {g:Img} {k:Nat} (hlt:k < g.types.length):Zr g k=if !Yn g.types[k]||!VJ g k g.types[k] then 7 else if !zjq g k g.types[k] then 18 else if !zcV g k then 20 else 0:=by
 rw [Zr,zQ hlt]
theorem zde {g:Img} {k:Nat} (hlt:k < g.types.length):typeAt g (k:Int)=some g.types[k]:=by
 rw [typeAt,if_pos (by omega)];simp [List.getElem?_eq_getElem hlt]
end Go.Cg
namespace Go.Cg
open Go.RowKit
section
variable {P:Program} {tb:Tab} {n:Nat} {g:Base} {K K':KK} {w w':World} {ρ ρ':Nat→Value} {H H':HEnv} {env:Env} {a:Act} {ops:List Oper} {o:Oper} {rest:List Oper} {Q:Env→HEnv→Prop} {f:FuncId} {args:List AV} {r:AV}
theorem zop {d:Tmp} {ars:List AV} (Hc Hc' R:HEnv) (env2:Env) {lone:Bool} (ps:List Nat) (hw1:lone=true→g.w1.heap.size=0) (hg:guardE ops env o=some true)
  (henter:∀ (K:KK) (ρ:Nat→Value) (a:Act) (w:World),FS g K ρ H w→EnvR K w ρ H env a.tmps→zax P f→∃ vs:List Value,(execOp a.eval o).run P w=.ok (.enter f vs.toArray) w∧Yx K w ρ H ars vs) (hsub:HSub H (Hc++R)) (hs:Sub env env2) (hd:o.dst=some d) (hdt:Nat.blt d n=true)
  (hchk:QL Hc Hc' R ps ars env2 r=true) (hc:∀ us,ACallM P f ars (Hc++qx us ps) r (Hc'++qx us ps) lone)
  (h:AO P n g ops.toArray rest ((d,r)::env2) (Hc'++R) Q):AO P n g ops.toArray (o::rest) env H Q:=by
 simp only [QL,Bool.and_eq_true] at hchk
 obtain ⟨⟨⟨⟨⟨⟨⟨⟨⟨⟨d1,d2⟩,d3⟩,d4⟩,i1⟩,i2⟩,i3⟩,i4⟩,i5⟩,i6⟩,i7⟩:=hchk
 have i7':∀ i∈ps,(Hc.get i).isSome=true∧(Hc'.get i).isSome=true:=fun i hi=>by simpa using List.all_eq_true.1 i7 i hi
 refine ⟨fun a w hinv=>?_⟩
 have hw:=qh hinv hg
 obtain ⟨h1,h2,K,ρ,hf,he⟩:=hinv
 refine wpList_step fun KK hKK=>?_
 rw [if_pos hw]
 have hlatR:Later K K w w:=.refl K w
 have gC:∀ i x,Hc.get i=some x→H.get i=some x:=fun i x hx=>hsub i x (by rw [get_append,hx])
 have gR:∀ i x,R.get i=some x→H.get i=some x:=fun i x hx=>hsub i x (by
  rw [get_append]
  cases hh:Hc.get i with
  | none=>exact hx
  | some y=>rw [Yg d1 i y hh] at hx;cases hx)
 have nC:∀ i x,R.get i=some x→Hc.get i=none:=fun i x hx=>by
  cases hh:Hc.get i with
  | none=>rfl
  | some y=>rw [Yg d1 i y hh] at hx;cases hx
 have nC':∀ i x,R.get i=some x→Hc'.get i=none:=fun i x hx=>by
  cases hh:Hc'.get i with
  | none=>rfl
  | some y=>rw [Yg d2 i y hh] at hx;cases hx
 have hpinC:∀ {A:HEnv} {us:Nat→Value} {i:Nat} {x:HE},HEnv.get (A++qx us ps) i=some x→x.live=true→A.get i=some x:=by
  intro A us i x hx hl
  rw [get_append] at hx
  cases hh:A.get i with
  | some z=>rw [hh] at hx;exact hx
  | none =>
   rw [hh] at hx
   obtain ⟨_,_,rfl⟩:=QD hx
   simp [HE.live] at hl
 obtain ⟨g',hg'⟩:∃ g':Base,g'=⟨g.w0,K,g.w1,g.ds,w,fun b=>g.pr b∨∃ i x,R.get i=some x∧x.live=true∧zX (ρ i)=some b⟩:=⟨_,rfl⟩
 have hfs:FS g' K ρ (Hc++qx ρ ps) w:=by
  subst hg'
  refine ⟨hf.below,fun _ _ h=>h,fun _ _ h=>.inl h,hf.lt,hf.others,⟨?_,fun _ _ _=>rfl⟩,?_,?_,?_⟩
  ·rintro b (hb|⟨i,x,hi,hl,hb⟩)
   ·exact ⟨(hf.pt.same b hb).1,rfl,fun _=>Iff.rfl⟩
   ·exact ⟨((hf.heap.ok i x (gR i x hi)).block_lt hl hb).2,rfl,fun _=>Iff.rfl⟩
  ·intro i x b hi hl hb
   have hC:=hpinC hi hl
   rintro (hp|⟨j,y,hj,hly,hbj⟩)
   ·exact hf.away i x b (gC i x hC) hl hb hp
   ·have hne:i≠j:=by rintro rfl;rw [nC i y hj] at hC;cases hC
    exact hf.heap.apart i j x y b hne (gC i x hC) (gR j y hj) hl hly hb hbj
  ·intro i x hi
   rw [get_append] at hi
   cases hh:Hc.get i with
   | some y =>
    rw [hh] at hi;simp only [Option.some.injEq] at hi;subst hi
    have hok:=hf.heap.ok i y (gC i y hh)
    have hk:∀ j,(HEnv.get Hc j).isSome=true→(HEnv.get (Hc++qx ρ ps) j).isSome=true∧ρ j=ρ j:=fun j hj=>⟨yE j hj,rfl⟩
    cases y with
    | cell v=>obtain ⟨b,t,arr,u,q1,q2,q3,q4,q5,q6⟩:=hok;exact ⟨b,t,arr,u,q1,q2,q3,(q4.refs (Yz i2 i v hh)).keeps hlatR hk,q5,q6⟩
    | pin v u=>exact (ARel.refs hok (ZG i2 i v u hh)).keeps hlatR hk
    | row t sz es=>exact hok
    | mrow t sz es=>exact hok
    | dead=>exact hok
    | obj X=>exact hok
   | none =>
    rw [hh] at hi
    obtain ⟨q1,q2,rfl⟩:=QD hi
    exact .own _ (yE _ (i7' _ q2).1)
  ·intro i j x y b hij hi hj lx ly bx bj
   exact hf.heap.apart i j x y b hij (gC i x (hpinC hi lx)) (gC j y (hpinC hj ly)) lx ly bx bj
 obtain ⟨vals,hrun,hpa⟩:=henter K ρ a w hf he (hc ρ).stands
 have hall:Yx K w ρ (Hc++qx ρ ps) ars vals :=
  ⟨hpa.1,fun k c v hc hv=>((hpa.2 k c v hc hv).refs (Zq i1 k c hc)).keeps hlatR fun j hj=>⟨yE j hj,rfl⟩⟩
 unfold Oper.wp
 rw [hrun]
 simp only [Oper.upon]
 refine ((hc ρ).calls g' K ρ w _ (by subst hg';exact hw1) hfs hall).mono fun e w' ⟨v,K',ρ',e1,hf',hv⟩=>?_
 subst e1
 have hlat:Later K K' w w':=by subst hg';exact ⟨hf'.old,hf'.pt.kept⟩
 have hprot:∀ b,(g.pr b∨∃ i x,R.get i=some x∧x.live=true∧zX (ρ i)=some b)→b < w'.heap.size∧w'.heap[b]?=w.heap[b]?∧∀ o,K' b o↔K b o:=by subst hg';exact hf'.pt.same
 have haway:∀ i x b,Hc'.get i=some x→x.live=true→zX (ρ' i)=some b→¬ (g.pr b∨∃ i x,R.get i=some x∧x.live=true∧zX (ρ i)=some b):=by
  subst hg';exact fun i x b hi=>hf'.away i x b (by rw [get_append,hi])
 obtain ⟨ρ2,hρ2⟩:∃ ρ2:Nat→Value,∀ j,ρ2 j=if (Hc'.get j).isSome then ρ' j else ρ j:=⟨_,fun _=>rfl⟩
 have r1:∀ j,(Hc'.get j).isSome=true→ρ2 j=ρ' j:=fun j hj=>by rw [hρ2,if_pos hj]
 have r2:∀ j,Hc'.get j=none→ρ2 j=ρ j:=fun j hj=>by rw [hρ2,hj];rfl
 have hkC:∀ j,(HEnv.get Hc' j).isSome=true→(HEnv.get (Hc'++R) j).isSome=true∧ρ2 j=ρ' j:=fun j hj=>⟨yE j hj,r1 j hj⟩
 have hps:∀ i∈ps,ρ' i=ρ i:=fun i hi=>by
  have hnone:Hc'.get (1000 + i)=none:=by
   cases hh:Hc'.get (1000 + i) with
   | none=>rfl
   | some x=>have:=XM d4 _ x hh;omega
  have:=hf'.heap.ok (1000 + i) _ (by rw [get_append,hnone];exact zbM hi)
  have this:ARel K' w' ρ' (Hc'++qx ρ ps) (.own i) (ρ i):=this
  generalize hu:ρ i=u at this
  cases this with
  | own _ _=>rfl
 have hkR:∀ j,(HEnv.get (R++Wx ps) j).isSome=true→(HEnv.get (Hc'++R) j).isSome=true∧ρ2 j=ρ j:=fun j hj=>by
  rw [get_append] at hj
  cases hh:R.get j with
  | some x =>
   have hn:=nC' j x hh
   exact ⟨by rw [get_append,hn,hh];rfl,r2 j hn⟩
  | none =>
   rw [hh] at hj
   have hm:=zcr hj
   have hs':=(i7' j hm).2
   exact ⟨yE j hs',by rw [r1 j hs',hps j hm]⟩
 have hfs2:FS g K' ρ2 (Hc'++R) w':=by
  have b1:Below g.w0.heap.size g.w0 w':=by subst hg';exact hf'.below
  have b3:∀ b o,K' b o→K b o∨g.w0.heap.size≤b:=by subst hg';exact hf'.new
  have b5:KeepsOthers g.w1 w':=by subst hg';exact hf'.others
  have bB:HRel K' w' g.w0.heap.size ρ' (Hc'++qx ρ ps):=by subst hg';exact hf'.heap
  refine ⟨b1,fun b o h=>hlat.sub b o (hf.old b o h),fun b o hk=>(b3 b o hk).elim (hf.new b o) .inr,hf'.lt,b5,⟨fun b hb=>?_,fun b o h0=>(hlat.cell b o (hf.old b o h0)).trans (hf.pt.kept b o h0)⟩,fun i x b hi hl hb=>?_,fun i x hi=>?_,fun i j x y b hij hi hj lx ly bx bj=>?_⟩
  ·obtain ⟨p1,p2,p3⟩:=hprot b (.inl hb)
   obtain ⟨q1,q2,q3⟩:=hf.pt.same b hb
   exact ⟨p1,p2.trans q2,fun o=>(p3 o).trans (q3 o)⟩
  ·rw [get_append] at hi
   cases hh:Hc'.get i with
   | some y =>
    rw [hh] at hi;simp only [Option.some.injEq] at hi;subst hi
    rw [r1 i (by rw [hh];rfl)] at hb
    exact fun hp=>haway i y b hh hl hb (.inl hp)
   | none =>
    rw [hh] at hi
    rw [r2 i hh] at hb
    exact hf.away i x b (gR i x hi) hl hb
  ·rw [get_append] at hi
   cases hh:Hc'.get i with
   | some y =>
    rw [hh] at hi;simp only [Option.some.injEq] at hi;subst hi
    rw [r1 i (by rw [hh];rfl)]
    have hok:=bB.ok i y (by rw [get_append,hh])
    have hl':=Later.refl K' w'
    cases y with
    | cell v=>obtain ⟨b,t,arr,u,q1,q2,q3,q4,q5,q6⟩:=hok;exact ⟨b,t,arr,u,q1,q2,q3,(q4.refs (Yz i3 i v hh)).keeps hl' hkC,q5,q6⟩
    | pin v u=>exact (ARel.refs hok (ZG i3 i v u hh)).keeps hl' hkC
    | row t sz es=>exact hok
    | mrow t sz es=>exact hok
    | dead=>exact hok
    | obj X=>exact hok
   | none =>
    rw [hh] at hi
    rw [r2 i hh]
    have hok:=hf.heap.ok i x (gR i x hi)
    have hsame:x.live=true→∀ b,zX (ρ i)=some b→w'.heap[b]?=w.heap[b]?∧∀ o,K' b o↔K b o:=fun hl b hb=>(hprot b (.inr ⟨i,x,hi,hl,hb⟩)).2
    cases x with
    | cell v =>
     obtain ⟨b,t,arr,u,q1,q2,q3,q4,q5,q6⟩:=hok
     obtain ⟨s1,s2⟩:=hsame rfl b (by rw [q1];rfl)
     exact ⟨b,t,arr,u,q1,q2,by rw [s1];exact q3,(q4.refs (Yz i5 i v hi)).keeps hlat hkR,q5,fun o hk=>q6 o ((s2 o).1 hk)⟩
    | pin v u=>exact (ARel.refs hok (ZG i5 i v u hi)).keeps hlat hkR
    | row t sz es =>
     obtain ⟨xs,q1,q2,q3,q4⟩:=hok
     refine ⟨xs,ZN q1 fun b hb=>(hsame rfl b hb).1,q2,fun k e he=>?_,fun b hb o=>?_⟩
     ·obtain ⟨c1,c2⟩:=q3 k e he
      exact ⟨c1,fun k c hc=>let ⟨v,h4,h5,h6⟩:=c2 k c hc;⟨v,h4,h5,h6.later hlat⟩⟩
     ·rw [(hsame rfl b ((YK q1 b).2 hb)).2 o];exact q4 b hb o
    | mrow t sz es =>
     obtain ⟨xs,q1,q2,q3,q4⟩:=hok
     refine ⟨xs,ZN q1 fun b hb=>(hsame rfl b hb).1,q2,fun k e he=>?_,fun b hb o hk=>?_⟩
     ·obtain ⟨c1,c2⟩:=q3 k e he
      exact ⟨c1,fun k c hc=>let ⟨v,h4,h5,h6⟩:=c2 k c hc;⟨v,h4,h5,h6.later hlat⟩⟩
     ·exact q4 b hb o (((hsame rfl b ((YK q1 b).2 hb)).2 o).1 hk)
    | dead=>trivial
    | obj X =>
     obtain ⟨b,ob,q1,q2,q3,q4,q5⟩:=hok
     obtain ⟨s1,s2⟩:=hsame rfl b (by rw [q1];rfl)
     exact ⟨b,ob,q1,q2,by rw [s1];exact q3,q4,fun o hk=>q5 o ((s2 o).1 hk)⟩
  ·rw [get_append] at hi hj
   cases hhi:Hc'.get i with
   | some x' =>
    rw [hhi] at hi;simp only [Option.some.injEq] at hi;subst hi
    rw [r1 i (by rw [hhi];rfl)] at bx
    cases hhj:Hc'.get j with
    | some y' =>
     rw [hhj] at hj;simp only [Option.some.injEq] at hj;subst hj
     rw [r1 j (by rw [hhj];rfl)] at bj
     exact bB.apart i j x' y' b hij (by rw [get_append,hhi]) (by rw [get_append,hhj]) lx ly bx bj
    | none =>
     rw [hhj] at hj;rw [r2 j hhj] at bj
     exact haway i x' b hhi lx bx (.inr ⟨j,y,hj,ly,bj⟩)
   | none =>
    rw [hhi] at hi;rw [r2 i hhi] at bx
    cases hhj:Hc'.get j with
    | some y' =>
     rw [hhj] at hj;simp only [Option.some.injEq] at hj;subst hj
     rw [r1 j (by rw [hhj];rfl)] at bj
     exact haway j y' b hhj ly bj (.inr ⟨i,x,hi,lx,bx⟩)
    | none =>
     rw [hhj] at hj;rw [r2 j hhj] at bj
     exact hf.heap.apart i j x y b hij (gR i x hi) (gR j y hj) lx ly bx bj
 have he2:EnvR K' w' ρ2 (Hc'++R) env2 a.tmps:=fun t av ht=>by
  obtain ⟨u,u1,u2⟩:=he t av (hs t av ht)
  exact ⟨u,u1,(u2.refs (zaO i6 t av ht)).keeps hlat hkR⟩
 refine hKK _ _ (h.go _ _ ⟨qU h1,put_defers h2,K',ρ2,hfs2,?_⟩)
 rw [hd]
 exact ZB h1 hdt he2 ((hv.refs i4).keeps (Later.refl K' w') hkC)
theorem zbJ {t:Tmp} {xs:Array Operand} {ts:Array TypeId} {d:Tmp} {first cap ars:List AV} (Hc Hc' R:HEnv) (env2:Env) {lone:Bool} (ps:List Nat) (hw1:lone=true→g.w1.heap.size=0) (hg:guardE ops env o=some true)
  (hop:o.op=.call { callee:=.value (.tmp t),args:=xs,argTypes:=ts }) (ht:env.get t=some (.fn (.func f) first cap)) (hargs:avs env xs.toList=some ars) (hsub:HSub H (Hc++R)) (hs:Sub env env2) (hd:o.dst=some d) (hdt:Nat.blt d n=true)
  (hchk:QL Hc Hc' R ps (first++ars++cap) env2 r=true) (hc:∀ us,ACallM P f (first++ars++cap) (Hc++qx us ps) r (Hc'++qx us ps) lone)
  (h:AO P n g ops.toArray rest ((d,r)::env2) (Hc'++R) Q):AO P n g ops.toArray (o::rest) env H Q :=
 zop Hc Hc' R env2 ps hw1 hg (fun K ρ a w hf he hst=>by
  have hfn:=qB he (x:=.tmp t) ht
  generalize hfv:a.eval (.tmp t)=fv at hfn
  have hpa:=zat (a:=a) he hargs
  cases hfn with
  | fn _ _ _ vf vc f1 f2 f3 f4 =>
   refine ⟨vf++xs.toList.map a.eval++vc,?_,by have:=hpa.1;simp at this;simp [f1,f2,this],fun k c v hc hv=>?_⟩
   ·have e:(vf++xs.toList.map a.eval++vc).toArray=vf.toArray++xs.map a.eval++vc.toArray:=by
     rw [show xs.map a.eval=(xs.toList.map a.eval).toArray by rw [←Array.toList_map,Array.toArray_toList]]
     simp
    rw [e]
    simp [execOp,hop,resolve,hfv,Deferred.ofValue,invoke,Zi hst]
   ·rw [List.append_assoc,List.getElem?_append] at hc hv
    split at hc
    ·rename_i hl
     rw [if_pos (by omega)] at hv
     exact f3 k c v hc hv
    ·rename_i hl
     rw [if_neg (by omega),f1] at hv
     rw [List.getElem?_append] at hc hv
     have e:(xs.toList.map a.eval).length=ars.length:=hpa.1
     split at hc
     ·rename_i hl2
      rw [if_pos (by omega)] at hv
      exact hpa.2 _ c v hc hv
     ·rename_i hl2
      rw [if_neg (by omega),e] at hv
      exact f4 _ c v hc hv) hsub hs hd hdt hchk hc h
variable {listed:List Bool} {QQ:QC}
end
end Go.Cg
