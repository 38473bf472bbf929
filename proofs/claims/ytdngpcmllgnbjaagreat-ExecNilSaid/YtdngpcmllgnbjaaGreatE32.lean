/- A part of the walks by abstract values: no statement of its own. -/
import Derived.Test.YtdngpcmllgnbjaaGreatE29
set_option linter.unusedVariables false
set_option linter.unusedSimpArgs false
namespace Go.Cg
open Go.Proofs
def whole (t:Ty):Bool:=t.kind != 6||t.ref||decide (0 < t.dims)
def qc (g:Img) (t:Int):List Fd:=g.fields.filter fun f=>f.owner==t&&!f.static
def intTy:Ty:=⟨2,0,0,false⟩
def Wi (g:Img):Nat→Ty→List Ty
 | 0,_=>[]
 | n + 1,t=>if t.kind==1 then [] else if whole t then [t] else
   if ((qc g t.index).flatMap fun f=>Wi g n f.ty).length=0 then [intTy] else (qc g t.index).flatMap fun f=>Wi g n f.ty
def Dp (g:Img):Nat→Ty→Prop
 | 0,t=>whole t=true
 | n + 1,t=>whole t=true∨∀ f∈qc g t.index,Dp g n f.ty
theorem Dp.whole {g:Img} {t:Ty} (h:Cg.whole t=true):∀ n,Dp g n t
 | 0=>h
 | _ + 1=>.inl h
theorem zcf {α β:Type} {l:List α} {f h:α→List β} (hh:∀ x∈l,f x=h x):l.flatMap f=l.flatMap h:=by
 induction l with
 | nil=>rfl
 | cons x l ih=>rw [List.flatMap_cons,List.flatMap_cons,hh x (by simp),ih (fun y hy=>hh y (by simp [hy]))]
theorem zfX {g:Img}:∀ (n:Nat) (t:Ty),Dp g n t→∀ m,n < m→Wi g m t=Wi g (n + 1) t
 | 0,t,h,m,hm=>by
  obtain ⟨k,rfl⟩:∃ k,m=k + 1:=⟨m - 1,by omega⟩
  have hwt:whole t=true:=h
  rw [Wi,Wi,hwt];rfl
 | n + 1,t,h,m,hm=>by
  obtain ⟨k,rfl⟩:∃ k,m=k + 1:=⟨m - 1,by omega⟩
  rw [Wi,Wi]
  rcases h with h|h
  ·rw [h];rfl
  ·rw [zcf (fun f hf=>zfX n f.ty (h f hf) k (by omega))]
def yV (g:Img) (t:Ty):List Ty:=Wi g (g.types.length + 2) t
def fcs (g:Img) (l:List Fd):List Ty:=l.flatMap fun f=>yV g f.ty
theorem zgT (g:Img) (f:Fd) (l:List Fd):fcs g (f::l)=yV g f.ty++fcs g l:=rfl
theorem zdz (g:Img) (l m:List Fd):fcs g (l++m)=fcs g l++fcs g m:=by simp [fcs]
def Zd (g:Img) (t:Ty):Bool :=
 Zv t&&(if t.kind==5 then zF g t.index==0||zF g t.index==2||zF g t.index==3 else t.kind != 6||zF g t.index==1)
def ZH (g:Img):Bool:=(List.range g.fields.length).all fun i=>Zd g (g.fields.getD i default).ty
theorem zhO {g:Img} {t:Ty} (h:Zd g t=true) (hw:whole t=false):t.kind=6∧t.ref=false∧t.dims=0∧zF g t.index=1:=by
 simp only [whole,Bool.or_eq_false_iff,bne_eq_false_iff_eq,decide_eq_false_iff_not] at hw
 obtain ⟨⟨h1,h2⟩,h3⟩:=hw
 rw [Zd,Bool.and_eq_true] at h
 obtain ⟨hp,hk⟩:=h
 have hd:0≤t.dims:=by
  unfold Zv at hp
  split at hp
  ·cases hp
  ·rename_i hc;simp only [Bool.or_eq_true,decide_eq_true_eq,not_or] at hc;omega
 have hk':zF g t.index=1:=by simpa [h1] using hk
 exact ⟨h1,h2,by omega,hk'⟩
theorem zgJ {g:Img} (h:ZH g=true) {f:Fd} (hf:f∈g.fields):Zd g f.ty=true:=by
 obtain ⟨k,hk,rfl⟩:=List.getElem_of_mem hf
 have:=List.all_eq_true.1 h k (by simpa using hk)
 rwa [zM hk] at this
theorem zeJ {g:Img} (hf:zV g=true) {f:Fd} (h:f∈g.fields):0≤f.owner∧f.owner < g.types.length∧XY f.ty 1 g.types.length=true:=by
 obtain ⟨k,hk,rfl⟩:=List.getElem_of_mem h
 simp only [zV,Bool.and_eq_true,List.all_eq_true] at hf
 have:=hf.1.2 k (by simpa using hk)
 rw [zsf hk] at this
 simp only [Bool.and_eq_true,decide_eq_true_eq] at this
 exact ⟨this.1.1.1.2,this.1.1.2,this.2⟩
theorem zup {g:Img} (hf:zV g=true) {u:Int} {f:Fd} (h:f∈qc g u) (hu:Zd g f.ty=true) (hw:whole f.ty=false):f.ty.index∈partsOf g u:=by
 obtain ⟨h1,_,h3,h4⟩:=zhO hu hw
 obtain ⟨hm,hc⟩:=List.mem_filter.1 h
 simp only [Bool.and_eq_true,beq_iff_eq,Bool.not_eq_true'] at hc
 obtain ⟨ho,hs⟩:=hc
 obtain ⟨o0,o1,_⟩:=zeJ hf hm
 obtain ⟨k,hk,rfl⟩:=List.getElem_of_mem hm
 have hgk:g.fields.getD ((k:Int)).toNat default=g.fields[k]:=by rw [Int.toNat_natCast,zM hk]
 rw [partsOf,List.mem_map]
 refine ⟨(k:Int),List.mem_filter.2 ⟨List.mem_filter.2 ⟨zg6.2 ⟨by omega,by omega⟩,?_⟩,?_⟩,by rw [hgk]⟩
 ·rw [hgk,XK (by omega),ho];simp
 ·rw [zfx,hgk];simp [h1,hs,h3,h4]
theorem zsQ {g:Img} {p u:Int} (h:Rch (partsOf g) (partsOf g p) u):zF g u=1:=by
 have key:∀ q,u∈partsOf g q→zF g u=1:=by
  intro q hq
  simp only [partsOf,List.mem_map,List.mem_filter,zfx,Bool.and_eq_true,beq_iff_eq] at hq
  obtain ⟨i,⟨_,_,hk⟩,rfl⟩:=hq
  exact hk
 cases h with
 | base _ hx=>exact key _ hx
 | step x _ _ hy=>exact key _ hy
theorem zo8 {g:Img} (hf:zV g=true) (hu:ZH g=true) (hz:∀ u:Int,zF g u=1→u∉zth g u):∀ (n:Nat) (path:List Int) (t:Ty),path.Nodup→(∀ p∈path,0≤p∧p < g.types.length)→g.types.length + 1≤path.length + n →
  (∀ p∈path,Rch (partsOf g) (partsOf g p) t.index)→Dp g n t
 | 0,path,t,h1,h2,h3,h4=>by have:=ZF _ _ h1 h2;omega
 | n + 1,path,t,h1,h2,h3,h4=>by
  cases hw:whole t
  ·refine .inr fun f hfo=>?_
   cases hwf:whole f.ty
   ·have hm:=(List.mem_filter.1 hfo).1
    have hc:=(List.mem_filter.1 hfo).2
    simp only [Bool.and_eq_true,beq_iff_eq] at hc
    obtain ⟨o0,o1,_⟩:=zeJ hf hm
    have hp:=zup hf hfo (zgJ hu hm) hwf
    have hni:t.index∉path:=fun hin=>by
     have hr:=h4 _ hin
     exact hz _ (zsQ hr) (zl3.2 hr)
    refine zo8 hf hu hz n (t.index::path) f.ty (List.nodup_cons.2 ⟨hni,h1⟩) ?_ (by simp;omega) ?_
    ·intro p hp'
     rcases List.mem_cons.1 hp' with rfl|hp'
     ·omega
     ·exact h2 p hp'
    ·intro p hp'
     rcases List.mem_cons.1 hp' with rfl|hp'
     ·exact .base _ hp
     ·exact .step _ _ (h4 p hp') hp
   ·exact Dp.whole hwf n
  ·exact .inl hw
theorem zor {g:Img} (h:Yo g=true) {u:Int} (hk:zF g u=1):u∉zth g u:=by
 have hf:=ZP h
 obtain ⟨td,htd,_⟩:=zdC hk (by omega)
 have hlt:=QF htd
 have hck:=ztz h (k:=u.toNat) (by omega)
 rw [zdq (by omega)] at hck
 have e:((u.toNat:Nat):Int)=u:=Int.toNat_of_nonneg hlt.1
 rw [e] at hck
 have hs:zdj g u=true:=by
  cases hs:zdj g u
  ·rw [hs] at hck
   split at hck
   ·cases hck
   ·split at hck
    ·cases hck
    ·simp at hck
  ·rfl
 rw [zdj,hk,Bool.and_eq_true] at hs
 simpa using hs.2
theorem zjN {g:Img} (h:Yo g=true) (hu:ZH g=true) (t:Ty):Dp g (g.types.length + 1) t :=
 zo8 (ZP h) hu (fun _ hk=>zor h hk) _ [] t (by simp) (by simp) (by simp) (by simp)
theorem zas {g:Img} (h:Yo g=true) (hu:ZH g=true) (t:Ty):yV g t=if t.kind==1 then [] else if whole t then [t] else if (fcs g (qc g t.index)).length=0 then [intTy] else fcs g (qc g t.index):=by
 have hd:=zjN h hu t
 rcases hd with hd|hd
 ·rw [yV,Wi,hd];rfl
 ·have e:((qc g t.index).flatMap fun f=>Wi g (g.types.length + 1) f.ty)=fcs g (qc g t.index):=zcf (fun f hf=>(zfX _ _ (hd f hf) _ (by omega)).symm)
  rw [yV,Wi,e]
def Cnt (b r s:Nat):Prop:=min r (b + 1)=min s (b + 1)
theorem Cnt.zero (b:Nat):Cnt b 0 0:=rfl
theorem Cnt.add {b r s l:Nat} (h:Cnt b r s) (hr:r≤b):Cnt b (r + min l (b + 1)) (s + l):=by unfold Cnt at h ⊢;omega
theorem Cnt.stay {b r s l:Nat} (h:Cnt b r s) (hr:b < r):Cnt b r (s + l):=by unfold Cnt at h ⊢;omega
theorem Cnt.more {b r s:Nat} (h:Cnt b r s):b < r↔b < s:=by unfold Cnt at h;omega
def zaI (g:Img) (b:Nat) (t:Ty):Nat:=min (yV g t).length (b + 1)
theorem za3 (g:Img) (f:Fd) (l:List Fd):(fcs g (f::l)).length=(yV g f.ty).length + (fcs g l).length:=by rw [zgT,List.length_append]
theorem zic (g:Img) (l m:List Fd):(fcs g (l++m)).length=(fcs g l).length + (fcs g m).length:=by rw [zdz,List.length_append]
def objT (g:Img) (t:Int):List Ty:=(up g t).reverse.flatMap fun u=>fcs g (qc g u)
theorem zlT (g:Img):∀ l:List Int,(l.flatMap fun u=>fcs g (qc g u)).length=(l.map fun u=>(fcs g (qc g u)).length).sum
 | []=>rfl
 | x::l=>by rw [List.flatMap_cons,List.length_append,zlT g l];rfl
theorem ztq (l:List Nat):l.reverse.sum=l.sum:=by
 induction l with
 | nil=>rfl
 | cons x l ih=>rw [List.reverse_cons,List.sum_append,ih];simp;omega
theorem zrD (g:Img) (t:Int):(objT g t).length=((up g t).map fun u=>(fcs g (qc g u)).length).sum:=by
 rw [objT,zlT,List.map_reverse,ztq]
def YF (g:Img) (t:Nat):Bool:=(zF g t==1&&decide (8 < (yV g ⟨6,t,0,false⟩).length))||(zF g t==0&&decide (32 < (objT g t).length))
def Qa (g:Img):Int × Int :=
 if !Yo g then (0,17) else match (List.range g.fields.length).find? (fun i=>!Zd g (g.fields.getD i default).ty) with
  | some i=>(((i:Nat):Int),10)
  | none=>match (List.range g.types.length).find? (YF g) with
   | some t=>(((t:Nat):Int),20)
   | none=>(0,0)
def Qi (g:Img):Bool:=(Qa g).2==0
theorem zjV {g:Img} {k:Nat} (hw:Yo g=true) (hk:k < g.fields.length) (hno:∀ j,j < k→Zd g (g.fields.getD j default).ty=true) (h:Zd g (g.fields.getD k default).ty=false):Qa g=(((k:Nat):Int),10):=by
 have:(List.range g.fields.length).find? (fun i=>!Zd g (g.fields.getD i default).ty)=some k:=by
  rw [List.find?_range_eq_some]
  exact ⟨by simpa using h,by simpa using hk,fun j hj=>by simp only [hno j hj,Bool.not_true,Bool.not_false]⟩
 rw [Qa,hw];simp only [Bool.not_true,Bool.false_eq_true,if_false];rw [this]
theorem zkb {n:Nat} {p:Nat→Bool} (h:∀ j,j < n→p j=false):(List.range n).find? p=none:=by
 rw [List.find?_eq_none]
 intro j hj
 simp [h j (List.mem_range.1 hj)]
theorem zkr {g:Img} {k:Nat} (hw:Yo g=true) (hu:ZH g=true) (hk:k < g.types.length) (hno:∀ j,j < k→YF g j=false) (h:YF g k=true):Qa g=(((k:Nat):Int),20):=by
 have h1:(List.range g.fields.length).find? (fun i=>!Zd g (g.fields.getD i default).ty)=none:=zkb fun j hj=>by
  have:=List.all_eq_true.1 hu j (by simpa using hj);simp only [this];rfl
 have h2:(List.range g.types.length).find? (YF g)=some k:=by
  rw [List.find?_range_eq_some]
  exact ⟨h,by simpa using hk,fun j hj=>by simp only [hno j hj,Bool.not_false]⟩
 rw [Qa,hw];simp only [Bool.not_true,Bool.false_eq_true,if_false];rw [h1];simp only;rw [h2]
theorem zc4 {g:Img} (hw:Yo g=true) (hu:ZH g=true) (hno:∀ j,j < g.types.length→YF g j=false):Qa g=(0,0):=by
 have h1:(List.range g.fields.length).find? (fun i=>!Zd g (g.fields.getD i default).ty)=none:=zkb fun j hj=>by
  have:=List.all_eq_true.1 hu j (by simpa using hj);simp only [this];rfl
 rw [Qa,hw];simp only [Bool.not_true,Bool.false_eq_true,if_false];rw [h1];simp only;rw [zkb hno]
structure Fine (g:Img):Prop where
 well:Yo g=true
 used:ZH g=true
 size:∀ j,j < g.types.length→YF g j=false
theorem YT {g:Img} (h:Qi g=true):Fine g:=by
 rw [Qi,Qa] at h
 cases hw:Yo g
 ·simp [hw] at h
 ·rw [hw] at h
  simp only [Bool.not_true,Bool.false_eq_true,if_false] at h
  cases h1:(List.range g.fields.length).find? (fun i=>!Zd g (g.fields.getD i default).ty) with
  | some i=>rw [h1] at h;simp at h
  | none =>
   rw [h1] at h
   cases h2:(List.range g.types.length).find? (YF g) with
   | some t=>rw [h2] at h;simp at h
   | none =>
    refine ⟨hw,?_,fun j hj=>?_⟩
    ·rw [ZH,List.all_eq_true]
     intro i hi
     have:=List.find?_eq_none.1 h1 i hi
     simpa using this
    ·have:=List.find?_eq_none.1 h2 j (by simpa using hj)
     simpa using this
theorem Fine.formed {g:Img} (h:Fine g):zV g=true:=ZP h.well
theorem Fine.cells_le {g:Img} (h:Fine g) {t:Ty} (hk:t.kind=6→whole t=false→zF g t.index=1):(yV g t).length≤8:=by
 rw [zas h.well h.used]
 split
 ·simp
 ·split
  ·simp
  ·rename_i h1 h2
   have hw:whole t=false:=by simpa using h2
   have h6:t.kind=6:=by
    simp only [whole,Bool.or_eq_false_iff,bne_eq_false_iff_eq] at hw;exact hw.1.1
   have hk1:=hk h6 hw
   obtain ⟨td,htd,_⟩:=zdC hk1 (by omega)
   have hlt:=QF htd
   have hs:=h.size t.index.toNat (by omega)
   have e:((t.index.toNat:Nat):Int)=t.index:=Int.toNat_of_nonneg hlt.1
   rw [YF,e,hk1] at hs
   have hs2:¬ 8 < (yV g ⟨6,t.index,0,false⟩).length:=fun h8=>by simp [h8] at hs
   have hw6:whole ⟨6,t.index,0,false⟩=false:=by simp [whole]
   rw [zas h.well h.used,hw6] at hs2
   have h61:((6:Int)==1)=false:=rfl
   rw [h61] at hs2
   simp only [Bool.false_eq_true,if_false] at hs2
   omega
theorem Fine.used_le {g:Img} (h:Fine g) {t:Ty} (hu:Zd g t=true):(yV g t).length≤8:=h.cells_le fun _ hw=>(zhO hu hw).2.2.2
theorem Fine.field_le {g:Img} (h:Fine g) {f:Fd} (hf:f∈g.fields):(yV g f.ty).length≤8:=h.used_le (zgJ h.used hf)
theorem zk7 {g:Img} (h:Fine g):∀ (l:List Fd),(∀ f∈l,f∈g.fields)→(fcs g l).length≤8 * l.length
 | [],_=>by simp [fcs]
 | f::l,hl=>by
  rw [za3]
  have h1:=h.field_le (hl f (by simp))
  have h2:=zk7 h l (fun x hx=>hl x (by simp [hx]))
  simp;omega
end Go.Cg
