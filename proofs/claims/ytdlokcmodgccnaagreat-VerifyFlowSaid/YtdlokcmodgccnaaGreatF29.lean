/- A part of the walks by abstract values: no statement of its own. -/
import Derived.Test.YtdlokcmodgccnaaGreatF26
set_option linter.unusedVariables false
set_option linter.unusedSimpArgs false
namespace Go.Cg
open Go.Proofs
def whole (t:Ty):Bool:=t.kind != 6||t.ref||decide (0 < t.dims)
def Zz (g:Img) (t:Int):List Fd:=g.fields.filter fun f=>f.owner==t&&!f.static
def intTy:Ty:=⟨2,0,0,false⟩
def WR (g:Img):Nat→Ty→List Ty
 | 0,_=>[]
 | n + 1,t=>if t.kind==1 then [] else if whole t then [t] else
   if ((Zz g t.index).flatMap fun f=>WR g n f.ty).length=0 then [intTy] else (Zz g t.index).flatMap fun f=>WR g n f.ty
def Dp (g:Img):Nat→Ty→Prop
 | 0,t=>whole t=true
 | n + 1,t=>whole t=true∨∀ f∈Zz g t.index,Dp g n f.ty
theorem Dp.whole {g:Img} {t:Ty} (h:Cg.whole t=true):∀ n,Dp g n t
 | 0=>h
 | _ + 1=>.inl h
theorem zch {α β:Type} {l:List α} {f h:α→List β} (hh:∀ x∈l,f x=h x):l.flatMap f=l.flatMap h:=by
 induction l with
 | nil=>rfl
 | cons x l ih=>rw [List.flatMap_cons,List.flatMap_cons,hh x (by simp),ih (fun y hy=>hh y (by simp [hy]))]
theorem zfF {g:Img}:∀ (n:Nat) (t:Ty),Dp g n t→∀ m,n < m→WR g m t=WR g (n + 1) t
 | 0,t,h,m,hm=>by
  obtain ⟨k,rfl⟩:∃ k,m=k + 1:=⟨m - 1,by omega⟩
  have hwt:whole t=true:=h
  rw [WR,WR,hwt];rfl
 | n + 1,t,h,m,hm=>by
  obtain ⟨k,rfl⟩:∃ k,m=k + 1:=⟨m - 1,by omega⟩
  rw [WR,WR]
  rcases h with h|h
  ·rw [h];rfl
  ·rw [zch (fun f hf=>zfF n f.ty (h f hf) k (by omega))]
def Za (g:Img) (t:Ty):List Ty:=WR g (g.types.length + 2) t
def fcs (g:Img) (l:List Fd):List Ty:=l.flatMap fun f=>Za g f.ty
theorem zlB (g:Img) (f:Fd) (l:List Fd):fcs g (f::l)=Za g f.ty++fcs g l:=rfl
theorem zhS (g:Img) (l m:List Fd):fcs g (l++m)=fcs g l++fcs g m:=by simp [fcs]
def yN (g:Img) (t:Ty):Bool :=
 Zj t&&(if t.kind==5 then zB g t.index==0||zB g t.index==2||zB g t.index==3 else t.kind != 6||zB g t.index==1)
def ZC (g:Img):Bool:=(List.range g.fields.length).all fun i=>yN g (g.fields.getD i default).ty
theorem zoD {g:Img} {t:Ty} (h:yN g t=true) (hw:whole t=false):t.kind=6∧t.ref=false∧t.dims=0∧zB g t.index=1:=by
 simp only [whole,Bool.or_eq_false_iff,bne_eq_false_iff_eq,decide_eq_false_iff_not] at hw
 obtain ⟨⟨h1,h2⟩,h3⟩:=hw
 rw [yN,Bool.and_eq_true] at h
 obtain ⟨hp,hk⟩:=h
 have hd:0≤t.dims:=by
  unfold Zj at hp
  split at hp
  ·cases hp
  ·rename_i hc;simp only [Bool.or_eq_true,decide_eq_true_eq,not_or] at hc;omega
 have hk':zB g t.index=1:=by simpa [h1] using hk
 exact ⟨h1,h2,by omega,hk'⟩
theorem zoB {g:Img} (h:ZC g=true) {f:Fd} (hf:f∈g.fields):yN g f.ty=true:=by
 obtain ⟨k,hk,rfl⟩:=List.getElem_of_mem hf
 have:=List.all_eq_true.1 h k (by simpa using hk)
 rwa [zx hk] at this
theorem zeU {g:Img} (hf:zJ g=true) {f:Fd} (h:f∈g.fields):0≤f.owner∧f.owner < g.types.length∧Qm f.ty 1 g.types.length=true:=by
 obtain ⟨k,hk,rfl⟩:=List.getElem_of_mem h
 simp only [zJ,Bool.and_eq_true,List.all_eq_true] at hf
 have:=hf.1.2 k (by simpa using hk)
 rw [zmz hk] at this
 simp only [Bool.and_eq_true,decide_eq_true_eq] at this
 exact ⟨this.1.1.1.2,this.1.1.2,this.2⟩
theorem zs5 {g:Img} (hf:zJ g=true) {u:Int} {f:Fd} (h:f∈Zz g u) (hu:yN g f.ty=true) (hw:whole f.ty=false):f.ty.index∈partsOf g u:=by
 obtain ⟨h1,_,h3,h4⟩:=zoD hu hw
 obtain ⟨hm,hc⟩:=List.mem_filter.1 h
 simp only [Bool.and_eq_true,beq_iff_eq,Bool.not_eq_true'] at hc
 obtain ⟨ho,hs⟩:=hc
 obtain ⟨o0,o1,_⟩:=zeU hf hm
 obtain ⟨k,hk,rfl⟩:=List.getElem_of_mem hm
 have hgk:g.fields.getD ((k:Int)).toNat default=g.fields[k]:=by rw [Int.toNat_natCast,zx hk]
 rw [partsOf,List.mem_map]
 refine ⟨(k:Int),List.mem_filter.2 ⟨List.mem_filter.2 ⟨zis.2 ⟨by omega,by omega⟩,?_⟩,?_⟩,by rw [hgk]⟩
 ·rw [hgk,WO (by omega),ho];simp
 ·rw [zcu,hgk];simp [h1,hs,h3,h4]
theorem zsw {g:Img} {p u:Int} (h:Rch (partsOf g) (partsOf g p) u):zB g u=1:=by
 have key:∀ q,u∈partsOf g q→zB g u=1:=by
  intro q hq
  simp only [partsOf,List.mem_map,List.mem_filter,zcu,Bool.and_eq_true,beq_iff_eq] at hq
  obtain ⟨i,⟨_,_,hk⟩,rfl⟩:=hq
  exact hk
 cases h with
 | base _ hx=>exact key _ hx
 | step x _ _ hy=>exact key _ hy
theorem zoS {g:Img} (hf:zJ g=true) (hu:ZC g=true) (hz:∀ u:Int,zB g u=1→u∉zlA g u):∀ (n:Nat) (path:List Int) (t:Ty),path.Nodup→(∀ p∈path,0≤p∧p < g.types.length)→g.types.length + 1≤path.length + n →
  (∀ p∈path,Rch (partsOf g) (partsOf g p) t.index)→Dp g n t
 | 0,path,t,h1,h2,h3,h4=>by have:=qR _ _ h1 h2;omega
 | n + 1,path,t,h1,h2,h3,h4=>by
  cases hw:whole t
  ·refine .inr fun f hfo=>?_
   cases hwf:whole f.ty
   ·have hm:=(List.mem_filter.1 hfo).1
    have hc:=(List.mem_filter.1 hfo).2
    simp only [Bool.and_eq_true,beq_iff_eq] at hc
    obtain ⟨o0,o1,_⟩:=zeU hf hm
    have hp:=zs5 hf hfo (zoB hu hm) hwf
    have hni:t.index∉path:=fun hin=>by
     have hr:=h4 _ hin
     exact hz _ (zsw hr) (zlM.2 hr)
    refine zoS hf hu hz n (t.index::path) f.ty (List.nodup_cons.2 ⟨hni,h1⟩) ?_ (by simp;omega) ?_
    ·intro p hp'
     rcases List.mem_cons.1 hp' with rfl|hp'
     ·omega
     ·exact h2 p hp'
    ·intro p hp'
     rcases List.mem_cons.1 hp' with rfl|hp'
     ·exact .base _ hp
     ·exact .step _ _ (h4 p hp') hp
   ·exact Dp.whole hwf n
  ·exact .inl hw
theorem znz {g:Img} (h:ZU g=true) {u:Int} (hk:zB g u=1):u∉zlA g u:=by
 have hf:=ZI h
 obtain ⟨td,htd,_⟩:=zhM hk (by omega)
 have hlt:=XJ htd
 have hck:=ztL h (k:=u.toNat) (by omega)
 rw [zbq (by omega)] at hck
 have e:((u.toNat:Nat):Int)=u:=Int.toNat_of_nonneg hlt.1
 rw [e] at hck
 have hs:zbQ g u=true:=by
  cases hs:zbQ g u
  ·rw [hs] at hck
   split at hck
   ·cases hck
   ·split at hck
    ·cases hck
    ·simp at hck
  ·rfl
 rw [zbQ,hk,Bool.and_eq_true] at hs
 simpa using hs.2
theorem zg2 {g:Img} (h:ZU g=true) (hu:ZC g=true) (t:Ty):Dp g (g.types.length + 1) t :=
 zoS (ZI h) hu (fun _ hk=>znz h hk) _ [] t (by simp) (by simp) (by simp) (by simp)
theorem zfk {g:Img} (h:ZU g=true) (hu:ZC g=true) (t:Ty):Za g t=if t.kind==1 then [] else if whole t then [t] else if (fcs g (Zz g t.index)).length=0 then [intTy] else fcs g (Zz g t.index):=by
 have hd:=zg2 h hu t
 rcases hd with hd|hd
 ·rw [Za,WR,hd];rfl
 ·have e:((Zz g t.index).flatMap fun f=>WR g (g.types.length + 1) f.ty)=fcs g (Zz g t.index):=zch (fun f hf=>(zfF _ _ (hd f hf) _ (by omega)).symm)
  rw [Za,WR,e]
def Cnt (b r s:Nat):Prop:=min r (b + 1)=min s (b + 1)
theorem Cnt.zero (b:Nat):Cnt b 0 0:=rfl
theorem Cnt.add {b r s l:Nat} (h:Cnt b r s) (hr:r≤b):Cnt b (r + min l (b + 1)) (s + l):=by unfold Cnt at h ⊢;omega
theorem Cnt.stay {b r s l:Nat} (h:Cnt b r s) (hr:b < r):Cnt b r (s + l):=by unfold Cnt at h ⊢;omega
theorem Cnt.more {b r s:Nat} (h:Cnt b r s):b < r↔b < s:=by unfold Cnt at h;omega
def Yv (g:Img) (b:Nat) (t:Ty):Nat:=min (Za g t).length (b + 1)
theorem Vk (g:Img) (f:Fd) (l:List Fd):(fcs g (f::l)).length=(Za g f.ty).length + (fcs g l).length:=by rw [zlB,List.length_append]
theorem zci (g:Img) (l m:List Fd):(fcs g (l++m)).length=(fcs g l).length + (fcs g m).length:=by rw [zhS,List.length_append]
def objT (g:Img) (t:Int):List Ty:=(up g t).reverse.flatMap fun u=>fcs g (Zz g u)
theorem zk7 (g:Img):∀ l:List Int,(l.flatMap fun u=>fcs g (Zz g u)).length=(l.map fun u=>(fcs g (Zz g u)).length).sum
 | []=>rfl
 | x::l=>by rw [List.flatMap_cons,List.length_append,zk7 g l];rfl
theorem ztu (l:List Nat):l.reverse.sum=l.sum:=by
 induction l with
 | nil=>rfl
 | cons x l ih=>rw [List.reverse_cons,List.sum_append,ih];simp;omega
theorem zlk (g:Img) (t:Int):(objT g t).length=((up g t).map fun u=>(fcs g (Zz g u)).length).sum:=by
 rw [objT,zk7,List.map_reverse,ztu]
def zuD (g:Img) (t:Int):List Fd:=g.fields.filter fun f=>decide (f.owner∈up g t)&&!f.static
theorem ziq (g:Img):∀ (fs:List Fd) (us:List Int),us.Nodup→(us.map fun u=>(fcs g (fs.filter fun f=>f.owner==u&&!f.static)).length).sum=(fcs g (fs.filter fun f=>decide (f.owner∈us)&&!f.static)).length
 | [],us,_=>by
  simp only [List.filter_nil]
  induction us with
  | nil=>rfl
  | cons u us ih=>simp_all [fcs]
 | f::fs,us,hn=>by
  have ih:=ziq g fs us hn
  have key:∀ us:List Int,us.Nodup→(us.map fun u=>(fcs g ((f::fs).filter fun f=>f.owner==u&&!f.static)).length).sum
    = (us.map fun u=>(fcs g (fs.filter fun f=>f.owner==u&&!f.static)).length).sum + (if decide (f.owner∈us)&&!f.static then (Za g f.ty).length else 0):=by
   intro us hn
   induction us with
   | nil=>simp
   | cons u us ih2 =>
    have hn':=List.nodup_cons.1 hn
    rw [List.map_cons,List.sum_cons,ih2 hn'.2,List.map_cons,List.sum_cons,List.filter_cons]
    cases hs:f.static
    ·by_cases hu:f.owner=u
     ·subst hu
      have:decide (f.owner∈us)=false:=by simp [hn'.1]
      simp only [beq_self_eq_true,Bool.not_false,Bool.and_true,if_true,this,List.mem_cons_self,decide_true,Bool.false_eq_true,if_false]
      rw [Vk];omega
     ·have h1:(f.owner==u)=false:=by simp [hu]
      have h2:decide (f.owner∈u::us)=decide (f.owner∈us):=by simp [hu]
      simp only [h1,h2,Bool.false_and,Bool.false_eq_true,if_false]
      omega
    ·simp
  rw [key us hn,ih,List.filter_cons]
  cases hc:(decide (f.owner∈us)&&!f.static)
  ·simp
  ·simp only [if_true];rw [Vk];omega
theorem zre (g:Img) (t:Int):(fcs g (zuD g t)).length=(objT g t).length:=by
 rw [zlk,zuD,←ziq g g.fields (up g t) (XR g t).1];rfl
def Yk (g:Img) (t:Nat):Bool:=(zB g t==1&&decide (8 < (Za g ⟨6,t,0,false⟩).length))||(zB g t==0&&decide (32 < (objT g t).length))
def YX (g:Img):Int × Int :=
 if !ZU g then (0,17) else match (List.range g.fields.length).find? (fun i=>!yN g (g.fields.getD i default).ty) with
  | some i=>(((i:Nat):Int),10)
  | none=>match (List.range g.types.length).find? (Yk g) with
   | some t=>(((t:Nat):Int),20)
   | none=>(0,0)
def zcm (g:Img):Bool:=(YX g).2==0
theorem zea {g:Img} {k:Nat} (hw:ZU g=true) (hk:k < g.fields.length) (hno:∀ j,j < k→yN g (g.fields.getD j default).ty=true) (h:yN g (g.fields.getD k default).ty=false):YX g=(((k:Nat):Int),10):=by
 have:(List.range g.fields.length).find? (fun i=>!yN g (g.fields.getD i default).ty)=some k:=by
  rw [List.find?_range_eq_some]
  exact ⟨by simpa using h,by simpa using hk,fun j hj=>by simp only [hno j hj,Bool.not_true,Bool.not_false]⟩
 rw [YX,hw];simp only [Bool.not_true,Bool.false_eq_true,if_false];rw [this]
theorem zkn {n:Nat} {p:Nat→Bool} (h:∀ j,j < n→p j=false):(List.range n).find? p=none:=by
 rw [List.find?_eq_none]
 intro j hj
 simp [h j (List.mem_range.1 hj)]
theorem zew {g:Img} {k:Nat} (hw:ZU g=true) (hu:ZC g=true) (hk:k < g.types.length) (hno:∀ j,j < k→Yk g j=false) (h:Yk g k=true):YX g=(((k:Nat):Int),20):=by
 have h1:(List.range g.fields.length).find? (fun i=>!yN g (g.fields.getD i default).ty)=none:=zkn fun j hj=>by
  have:=List.all_eq_true.1 hu j (by simpa using hj);simp only [this];rfl
 have h2:(List.range g.types.length).find? (Yk g)=some k:=by
  rw [List.find?_range_eq_some]
  exact ⟨h,by simpa using hk,fun j hj=>by simp only [hno j hj,Bool.not_false]⟩
 rw [YX,hw];simp only [Bool.not_true,Bool.false_eq_true,if_false];rw [h1];simp only;rw [h2]
theorem zdk {g:Img} (hw:ZU g=true) (hu:ZC g=true) (hno:∀ j,j < g.types.length→Yk g j=false):YX g=(0,0):=by
 have h1:(List.range g.fields.length).find? (fun i=>!yN g (g.fields.getD i default).ty)=none:=zkn fun j hj=>by
  have:=List.all_eq_true.1 hu j (by simpa using hj);simp only [this];rfl
 rw [YX,hw];simp only [Bool.not_true,Bool.false_eq_true,if_false];rw [h1];simp only;rw [zkn hno]
structure Fine (g:Img):Prop where
 well:ZU g=true
 used:ZC g=true
 size:∀ j,j < g.types.length→Yk g j=false
theorem Xk {g:Img} (h:zcm g=true):Fine g:=by
 rw [zcm,YX] at h
 cases hw:ZU g
 ·simp [hw] at h
 ·rw [hw] at h
  simp only [Bool.not_true,Bool.false_eq_true,if_false] at h
  cases h1:(List.range g.fields.length).find? (fun i=>!yN g (g.fields.getD i default).ty) with
  | some i=>rw [h1] at h;simp at h
  | none =>
   rw [h1] at h
   cases h2:(List.range g.types.length).find? (Yk g) with
   | some t=>rw [h2] at h;simp at h
   | none =>
    refine ⟨hw,?_,fun j hj=>?_⟩
    ·rw [ZC,List.all_eq_true]
     intro i hi
     have:=List.find?_eq_none.1 h1 i hi
     simpa using this
    ·have:=List.find?_eq_none.1 h2 j (by simpa using hj)
     simpa using this
theorem Fine.formed {g:Img} (h:Fine g):zJ g=true:=ZI h.well
end Go.Cg
