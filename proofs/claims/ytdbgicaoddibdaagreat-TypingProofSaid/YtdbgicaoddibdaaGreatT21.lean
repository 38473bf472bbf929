/- A part of the walks by abstract values: no statement of its own. -/
import Derived.Test.YtdbgicaoddibdaaGreatT14
import Derived.Test.YtdbgicaoddibdaaGreatT20
import Derived.Test.YtdbgicaoddibdaaGreatT16
import Derived.Test.YtdbgicaoddibdaaGreatT17
set_option linter.unusedVariables false
set_option linter.unusedSimpArgs false
namespace Go.Cg
open Go.Proofs
theorem zmZ {g:Img}:∀ (n:Nat) (t:Int) (out:List Int),out.Nodup→(∀ y∈out,0≤y∧y < g.types.length)→(zbw g n t out).Nodup∧∀ y∈zbw g n t out,0≤y∧y < g.types.length
 | 0,t,out,h1,h2=>⟨h1,h2⟩
 | n + 1,t,out,h1,h2=>by
  rw [zbw];cases ht:typeAt g t with
  | none=>exact ⟨h1,h2⟩
  | some td =>
   by_cases hm:t∈out
   ·simp only [hm,if_true];exact ⟨h1,h2⟩
   ·simp only [hm,if_false];refine zmZ n td.ext (out++[t]) ?_ ?_
    ·rw [List.nodup_append];simp [h1];intro a ha e;subst e;exact hm ha
    ·intro y hy;simp only [List.mem_append,List.mem_singleton] at hy;rcases hy with hy|rfl
     ·exact h2 y hy
     ·exact Wy ht
theorem zcr (g:Img) (t:Int):(up g t).Nodup∧∀ y∈up g t,0≤y∧y < g.types.length:=zmZ _ t [] zwy63 zwy63
theorem VY {g:Img} {t:Int} (h:0≤t∧t < g.types.length):∃ td,typeAt g t=some td :=
 ⟨_,by rw [typeAt,if_pos h.1];exact List.getElem?_eq_getElem zwy62⟩
def yS (g:Img) (u:Int):List Int:=match typeAt g u with|some td=>td.faces|none=>[]
def zox (g:Img) (met:List Int) (f:Int):List Int:=if there g f=true∧f∉met then met++[f] else met
def MInv (g:Img) (met:List Int):Prop:=met.Nodup∧∀ y∈met,0≤y∧y < g.types.length
theorem MInv.len {g:Img} {met:List Int} (h:MInv g met):met.length≤g.types.length:=Yl _ _ h.1 h.2
theorem ztF {g:Img} {t:Int} (h:there g t=true):0≤t∧t < g.types.length:=by
 obtain ⟨td,h⟩:=(XO g t).1 h;exact Wy h
theorem MInv.add {g:Img} {met:List Int} (h:MInv g met) (f:Int):MInv g (zox g met f):=by
 unfold zox;split
 ·rename_i hc;refine ⟨?_,?_⟩
  ·rw [List.nodup_append];simp [h.1];intro a ha e;subst e;exact hc.2 ha
  ·intro y hy;simp only [List.mem_append,List.mem_singleton] at hy;rcases hy with hy|rfl
   ·exact h.2 y hy
   ·exact ztF hc.1
 ·exact h
theorem MInv.fold {g:Img}:∀ (l:List Int) {met:List Int},MInv g met→MInv g (l.foldl (zox g) met)
 | [],_,h=>h
 | f::l,_,h=>MInv.fold l (h.add f)
def zeC (g:Img) (met:List Int) (u:Int):List Int:=(yS g u).foldl (zox g) met
theorem MInv.step {g:Img} {met:List Int} (h:MInv g met) (u:Int):MInv g (zeC g met u):=MInv.fold _ h
def zxo (g:Img) (t:Int):List Int:=(up g t).foldl (zeC g) []
def zqw (g:Img):Nat→Nat→List Int→List Int
 | 0,_,met=>met
 | n + 1,i,met=>match met[i]? with|some u=>zqw g n (i + 1) (zeC g met u)|none=>met
def zwM (g:Img) (t:Int):List Int:=zqw g (g.types.length + 1) 0 (zxo g t)
def nums (n:Nat):List Int:=(List.range n).map fun i:Nat=>(i:Int)
def zbU (g:Img) (t:Int):List Int:=(nums g.types.length).filter fun f=>decide (f∈zwM g t)
theorem zen {α β:Type} {f:β→α→β} {l:List α} {k:Nat} {b:β} (h:k < l.length):(l.drop k).foldl f b=(l.drop (k + 1)).foldl f (f b l[k]):=by rw [drop_cons h];rfl
def fieldsOf (g:Img) (t:Int):List Int:=(nums g.fields.length).filter fun i=>there g t&&(g.fields.getD i.toNat default).owner==t
def methodsOf (g:Img) (t:Int):List Int:=(nums g.methods.length).filter fun i=>there g t&&(g.methods.getD i.toNat default).owner==t
theorem zm0 {n k:Nat} (h:k < (nums n).length):(nums n)[k]=(k:Int):=by simp [nums]
def zdq (a b:Me):Bool:=decide (a.ret=b.ret)&&(a.flags.tmod 2==b.flags.tmod 2)&&decide (a.params=b.params)
def zgg (g:Img) (i:Int):Bool :=
 let f:=g.fields.getD i.toNat default
 !f.static&&f.ty.kind==6&&f.ty.dims==0&&yt g f.ty.index==1
def partsOf (g:Img) (t:Int):List Int:=((fieldsOf g t).filter (zgg g)).map fun i=>(g.fields.getD i.toNat default).ty.index
theorem Ql {g:Img} {t i:Int} (h:i∈fieldsOf g t):0≤i∧i.toNat < g.fields.length:=by
 simp only [fieldsOf,nums,List.mem_filter,List.mem_map,List.mem_range] at h;obtain ⟨⟨k,hk,rfl⟩,_⟩:=h;exact ⟨by omega,by simpa using hk⟩
theorem qO {g:Img} {t i:Int} (h:i∈methodsOf g t):0≤i∧i.toNat < g.methods.length:=by
 simp only [methodsOf,nums,List.mem_filter,List.mem_map,List.mem_range] at h;obtain ⟨⟨k,hk,rfl⟩,_⟩:=h;exact ⟨by omega,by simpa using hk⟩
theorem zco {n:Nat} {p:Int→Bool}:((nums n).filter p).length≤n:=Nat.le_trans (List.length_filter_le _ _) (by simp [nums])
theorem VO (g:Img) (t:Int):(fieldsOf g t).length≤g.fields.length:=zco
theorem Xl (g:Img) (t:Int):(methodsOf g t).length≤g.methods.length:=zco
theorem Yy {α:Type} {f:α→PV} {l:List α} {i:Int} (h:i.toNat < l.length):(l.map f)[i.toNat]?=some (f l[i.toNat]):=by simp [h]
def YC (td:TD):Bool :=
 if VG td.flags==2 then td.ext == -1&&qJ td.flags 4&&!qJ td.flags 1&&!qJ td.flags 8&&!qJ td.flags 16
 else if VG td.flags==1 then td.ext == -1&&qJ td.flags 8&&!qJ td.flags 4&&!qJ td.flags 16
 else if VG td.flags==3 then td.ext == -1&&qJ td.flags 8&&!qJ td.flags 4&&((td.faces.length:Int)==0)
 else true
theorem zgJ {g:Img}:∀ (n:Nat) (t:Int) (out:List Int),∃ r,zbw g n t out=out++r
 | 0,t,out=>⟨[],by simp [zbw]⟩
 | n + 1,t,out=>by
  rw [zbw];cases ht:typeAt g t with
  | none=>exact ⟨[],by simp⟩
  | some td =>
   by_cases hm:t∈out
   ·exact ⟨[],by simp [hm]⟩
   ·obtain ⟨r,hr⟩:=zgJ n td.ext (out++[t]);exact ⟨t::r,by simp only [hm,if_false];rw [hr];simp⟩
theorem zhK {g:Img} {t:Int} {td:TD} (h:typeAt g t=some td):∃ r,up g t=t::r:=by
 obtain ⟨r,hr⟩:=zgJ (g:=g) g.types.length td.ext [t];exact ⟨r,by rw [up,zbw,h];simpa using hr⟩
def zbm (g:Img) (t:Int):Int:=match typeAt g ((up g t).getLastD 0) with|some td=>td.ext|none => -1
def zb3 (g:Img) (t:Int):Int:=match typeAt g t with|some td=>td.flags|none=>0
def zmr (g:Img) (t:Int) (td:TD):Bool:=!decide (0≤td.ext)||(yt g td.ext==0&&!qJ (zb3 g td.ext) 8&&decide (zbm g t < 0))
def ze1 (g:Img) (l:List Int) (i:Nat):Bool:=yt g (l.getD i 0)==2&&!decide (l.getD i 0∈l.take i)
def zar (g:Img) (t:Int) (td:TD):Bool :=
 zmr g t td&&(List.range td.faces.length).all (ze1 g td.faces)&&(yt g t != 2||!decide (t∈zbU g t))
def zdc (g:Img) (t:Int) (td:TD) (i:Nat):Bool:=!((i:Int) != t&&(g.types.getD i default).name.toList==td.name.toList)
def fName (g:Img) (i:Int):ByteArray:=(g.fields.getD i.toNat default).name
def zr1 (g:Img) (l:List Int) (i k:Nat):Bool:=!((fName g (l.getD i 0)).toList==(fName g (l.getD k 0)).toList)
def ziH (g:Img) (l:List Int) (i k:Nat):Bool :=
 !((g.methods.getD (l.getD i 0).toNat default).name.toList==(g.methods.getD (l.getD k 0).toNat default).name.toList&&zdq (g.methods.getD (l.getD i 0).toNat default) (g.methods.getD (l.getD k 0).toNat default))
def zlP (g:Img) (t:Int) (td:TD):Bool :=
 (List.range g.types.length).all (zdc g t td)
 && (List.range (fieldsOf g t).length).all (fun i=>(List.range i).all (zr1 g (fieldsOf g t) i))
 && (List.range (methodsOf g t).length).all (fun i=>(List.range i).all (ziH g (methodsOf g t) i))
def zlC (g:Img) (k:Int) (i:Int):Bool:=!(k==3||(k==2&&!(g.fields.getD i.toNat default).static))
def YI (met:List Int) (x:Int):List Int:=if x∈met then met else met++[x]
def znK (g:Img) (met:List Int) (u:Int):List Int:=(partsOf g u).foldl YI met
def zd2 (g:Img):Nat→Nat→List Int→List Int
 | 0,_,met=>met
 | n + 1,i,met=>match met[i]? with|some u=>zd2 g n (i + 1) (znK g met u)|none=>met
def ztb (g:Img) (t:Int):List Int:=zd2 g (g.fields.length + g.types.length + 1) 0 (partsOf g t)
def zd1 (g:Img) (t:Int):Bool:=(fieldsOf g t).all (zlC g (yt g t))&&(yt g t != 1||!decide (t∈ztb g t))
def PInv (g:Img) (t:Int) (met:List Int):Prop:=∃ a,met=partsOf g t++a∧a.Nodup∧∀ y∈a,0≤y∧y < g.types.length
theorem zgL (g:Img) (t:Int):(partsOf g t).length≤g.fields.length:=by
 rw [partsOf,List.length_map];exact Nat.le_trans (List.length_filter_le _ _) (VO g t)
theorem PInv.len {g:Img} {t:Int} {met:List Int} (h:PInv g t met):met.length≤g.fields.length + g.types.length:=by
 obtain ⟨a,rfl,h1,h2⟩:=h;have:=Yl _ _ h1 h2;have:=zgL g t;simp;omega
theorem Xu {g:Img} {t x:Int} (h:x∈partsOf g t):0≤x∧x < g.types.length:=by
 simp only [partsOf,List.mem_map,List.mem_filter,zgg,Bool.and_eq_true,beq_iff_eq] at h;obtain ⟨i,⟨_,_,hk⟩,rfl⟩:=h;rw [yt] at hk;cases ht:typeAt g (g.fields.getD i.toNat default).ty.index with
 | none=>rw [ht] at hk;simp at hk
 | some td=>exact Wy ht
theorem PInv.add {g:Img} {t:Int} {met:List Int} {x:Int} (h:PInv g t met) (hx:0≤x∧x < g.types.length):PInv g t (YI met x):=by
 unfold YI;split
 ·exact h
 ·rename_i hn;obtain ⟨a,rfl,h1,h2⟩:=h;refine ⟨a++[x],by simp,?_,?_⟩
  ·rw [List.nodup_append];simp [h1];intro b hb e;subst e;exact hn (by simp [hb])
  ·intro y hy;simp only [List.mem_append,List.mem_singleton] at hy;rcases hy with hy|rfl
   ·exact h2 y hy
   ·exact hx
def ZG (g:Img) (t:Nat):Int :=
 let td:=g.types.getD t default
 if !YC td||!zar g t td then 7 else if !zlP g t td then 18 else if !zd1 g t then 20 else 0
def VD (g:Img):Int × Int :=
 if !yI g then (0,17) else match (List.range g.types.length).find? (fun t=>ZG g t != 0) with
  | some t=>(((t:Nat):Int),ZG g t)
  | none=>(0,0)
def Qu (g:Img):Bool:=(VD g).2==0
theorem yG {g:Img} (h:yI g=true):g.types.length≤32∧g.fields.length≤64∧g.methods.length≤64∧∀ td∈g.types,Qj td g.types.length=true:=by
 simp only [yI,Bool.and_eq_true,decide_eq_true_eq,List.all_eq_true] at h;obtain ⟨⟨⟨⟨⟨⟨⟨h1,h2⟩,h3⟩,_⟩,_⟩,h4⟩,_⟩,_⟩:=h;exact ⟨by omega,by omega,by omega,h4⟩
theorem Xt {td:TD} {n:Int} (h:Qj td n=true):0≤td.flags∧td.flags≤31 ∧ -1≤td.ext∧td.ext < n∧td.faces.length≤4∧∀ f∈td.faces,0≤f∧f < n:=by
 simp only [Qj,Bool.and_eq_true,decide_eq_true_eq,List.all_eq_true,zd6] at h;obtain ⟨⟨⟨⟨⟨⟨_,h1⟩,h2⟩,h3⟩,h4⟩,h5⟩,h6⟩:=h;exact ⟨h1,h2,h3,h4,by omega,h6⟩
theorem zoj {g:Img} {k:Nat} (hf:yI g=true) (hk:k < g.types.length) (hno:∀ j,j < k→ZG g j=0) (h:ZG g k≠0):VD g=(((k:Nat):Int),ZG g k):=by
 have:(List.range g.types.length).find? (fun t=>ZG g t != 0)=some k:=by
  rw [List.find?_range_eq_some];exact ⟨by simpa using h,by simpa using hk,fun j hj=>by simp [hno j hj]⟩
 simp [VD,hf,this]
theorem zuB {g:Img} (hf:yI g=true) (hno:∀ j,j < g.types.length→ZG g j=0):VD g=(0,0):=by
 have:(List.range g.types.length).find? (fun t=>ZG g t != 0)=none:=by
  rw [List.find?_eq_none];intro j hj;simp [hno j (List.mem_range.1 hj)]
 simp [VD,hf,this]
theorem zdV {g:Img} {k:Nat} (hlt:k < g.types.length):ZG g k=if !YC g.types[k]||!zar g k g.types[k] then 7 else if !zlP g k g.types[k] then 18 else if !zd1 g k then 20 else 0:=by
 rw [ZG,zT hlt]
theorem zeg {g:Img} {k:Nat} (hlt:k < g.types.length):typeAt g (k:Int)=some g.types[k]:=by
 rw [typeAt,if_pos zwy62];simp [List.getElem?_eq_getElem hlt]
set_option maxHeartbeats 20000000
def VK (k:Int) (st:Bool) (o:Int):Ty × Bool:=if k < 0||st then (ty0,false) else if k==1 then (⟨6,o,0,true⟩,true) else (⟨5,o,0,false⟩,true)
theorem zj6 (g:Img) (m:Me):ACall Tryz.prog 75 [zO g,yh m] (.tup [yJ (VK (Yh g m.owner) (qL m.flags 1) m.owner).1,pb (VK (Yh g m.owner) (qL m.flags 1) m.owner).2]):=by
 refine zi zf Tryz.func75 rfl zws Tryz.ntmps75 zwy63 _ rfl (fun hw gB hgB=>?_)
 repeat' (first|(refine shC ?_;first|refine qC (Qb _ _) ?_)|refine sA ?_|refine sC (fun _=>?_) (fun _=>?_)|fail)
 ·rename_i h1;have hs:VK (Yh g m.owner) (qL m.flags 1) m.owner=(ty0,false):=by simp_all [VK]
  rw [hs];exact retq rfl rfl
 ·rename_i h1 h2;have h3:(qL m.flags 1)=true:=h2;have hs:VK (Yh g m.owner) (qL m.flags 1) m.owner=(ty0,false):=by simp [VK,h3]
  rw [hs];exact retq rfl rfl
 ·rename_i h1 h2 h4;have h3:(qL m.flags 1)=false:=h2;have hs:VK (Yh g m.owner) (qL m.flags 1) m.owner=(⟨6,m.owner,0,true⟩,true):=by rw [VK,h3];simp_all
  rw [hs];exact retq rfl rfl
 ·rename_i h1 h2 h4;have h3:(qL m.flags 1)=false:=h2;have hs:VK (Yh g m.owner) (qL m.flags 1) m.owner=(⟨5,m.owner,0,false⟩,true):=by rw [VK,h3];simp_all
  rw [hs];exact retq rfl rfl
def zwk (x:Ty × Bool) (l:List Ty):List Ty:=(if x.2 then [x.1] else [])++l
theorem zwk1 {G:Prop} (h:G:=by repeat' (first|refine YF (t:=5) 0 40 4 zwy67 rfl rfl ?_|(refine shC ?_;first|refine qC c1 ?_)|(have:=b0;refine yC ?_;first|refine qI zf rfl rfl rfl rfl rfl rfl rfl zwy105 zwy64 rfl rfl ?_)|(have:=b1;refine yC ?_;first|refine qI zf rfl rfl rfl rfl rfl rfl rfl (by show _ * 32≤_;simp;try omega) (by simp;try omega) rfl rfl ?_)|refine sA ?_|refine sC (fun _=>?_) (fun _=>?_)|exact retq rfl rfl|fail)):G:=h
theorem zbv (g:Img) (m:Me) (hp:m.params.length≤1000):ACall Tryz.prog 42 [zO g,yh m] (tys (zwk (VK (Yh g m.owner) (qL m.flags 1) m.owner) m.params)):=by
 refine zi zf Tryz.func42 rfl zws Tryz.ntmps42 zwy63 _ rfl (fun hw gB hgB=>?_);have c1:=zj6 g m;generalize VK (Yh g m.owner) (qL m.flags 1) m.owner=x at c1 ⊢;obtain ⟨t,b⟩:=x;cases b
 ·have b0:=();exact zwk1
 ·have b1:=();exact zwk1
theorem zqW:∀ n:Fin 32,zgP (n.val:Int)=VG (n.val:Int):=by decide +kernel
theorem zhU {f:Int} (h0:0≤f) (h1:f≤31):zgP f=VG f:=by
 have:=zqW ⟨f.toNat,by omega⟩;simpa [Int.toNat_of_nonneg h0] using this
theorem YV {g:Img} (h:Qu g=true):yI g=true:=by
 cases hf:yI g with
 | true=>rfl
 | false=>simp [Qu,VD,hf] at h
theorem ziD {g:Img} (h:yI g=true) (t:Int):Yh g t=yt g t:=by
 unfold Yh yt;cases ht:typeAt g t with
 | none=>rfl
 | some td =>
  have hm:td∈g.types:=by
   unfold typeAt at ht;split at ht
   ·exact List.mem_of_getElem? ht
   ·cases ht
  obtain ⟨h1,h2,_⟩:=Xt ((yG h).2.2.2 td hm);exact zhU h1 h2
set_option maxHeartbeats 20000000
theorem Yw (g:Img) (t:Int) (hg:g.types.length≤1000):ACall Tryz.prog 113 [zO g,pi t] (ints (up g t)):=by
 refine zi zf Tryz.func113 rfl zws Tryz.ntmps113 zwy63 _ rfl (fun hw gB hgB=>?_)
 repeat' (first|refine sA ?_|refine sC (fun _=>?_) (fun _=>?_)|fail)
 refine YF (t:=5) 0 3 1 zwy67 rfl rfl ?_;refine zW (fun x:Int × List Int=>[(1,.pv (pi x.1)),(2,.pv (.ptr (zO g) 0)),(5,.own 0)]) (fun x=>[(0,.row 3 1 (x.2.map pi))]) (UpInv g t) (fun x=>g.types.length + 1 - x.2.length) (t,[]) ⟨rfl,by simp,by simp⟩ (tS) ⟨aB zA,rfl⟩ ?_;rintro ⟨t',out⟩ hi;have hlen:=hi.len;simp only at hlen;cases ht:typeAt g t' with
 | none =>
  have hth:there g t'=false:=by
   cases hh:there g t' with
   | false=>rfl
   | true=>obtain ⟨td,h⟩:=(XO g t').1 hh;rw [ht] at h;cases h
  have c1:ACall Tryz.prog 90 [zO g,pi t'] (pb false):=by rw [←hth];exact Qd g t'
  repeat' (first|(refine shC ?_;first|refine qC c1 ?_)|refine sK ?_|refine sC (fun _=>?_) (fun _=>?_)|fail)
  exact retq rfl (by rw [←hi.stop (.inl ht)];rfl)
 | some td =>
  have hth:there g t'=true:=(XO g t').2 ⟨td,ht⟩;have c1:ACall Tryz.prog 90 [zO g,pi t'] (pb true):=by rw [←hth];exact Qd g t'
  obtain ⟨h0,he⟩:=Qc ht;by_cases hm:t'∈out
  ·have c2:ACall Tryz.prog 112 [ints out,pi t'] (pb true):=by have:=YE out t';rwa [decide_eq_true hm] at this
   repeat' (first|(refine shC ?_;first|refine qC c1 ?_|refine qC c2 ?_)|refine sK ?_|refine sC (fun _=>?_) (fun _=>?_)|fail)
   exact retq rfl (by rw [←hi.stop (.inr hm)];rfl)
  ·have c2:ACall Tryz.prog 112 [ints out,pi t'] (pb false):=by have:=YE out t';rwa [decide_eq_false hm] at this
   have hnx:=hi.next ht hm
   repeat' (first|(refine shC ?_;first|refine qC c1 ?_|refine qC c2 ?_)|(refine shX ?_;first|refine zy rfl (ah h0 he) rfl rfl ?_|refine zq rfl (ah h0 he) rfl rfl ?_)|(refine yC ?_;first|refine qI zf rfl rfl rfl rfl rfl rfl rfl zwy81 zwy64 rfl rfl ?_)|refine sK ?_|refine sC (fun _=>?_) (fun _=>?_)|fail)
   refine ⟨(td.ext,out++[t']),hnx,by simp;omega,tS,⟨Yk rfl zwy63 zA,rfl⟩⟩
theorem zgz (l:List Int) (hb:l.length≤100000):ACall Tryz.prog 61 [ints l] (ints l):=by
 refine zi zf Tryz.func61 rfl zws Tryz.ntmps61 zwy63 _ rfl (fun hw gB hgB=>?_)
 repeat' (first|refine XY zf rfl rfl rfl rfl rfl rfl rfl (fun bb hbb=>?_)|refine zy rfl (QH zf rfl rfl rfl rfl rfl) rfl rfl ?_|(refine yC ?_;first|refine zy rfl (Wu zf rfl rfl (.inl rfl) rfl rfl zwy81 zwy64) rfl rfl ?_)|refine sA ?_|refine sC (fun _=>?_) (fun _=>?_)|fail)
 ·rename_i h;have:l=[]:=by have:=hbb h;simpa using this
  subst this;exact zbl (t:=2) (ps:=[ints []]) rfl (Qy 1 false) rfl rfl
 ·exact retq rfl rfl
def zdF (l:List Int) (p:Int→Bool):Int:=if l.any p then ((l.findIdx p:Nat):Int) else -1
theorem zaI (l:List Int) (p:Int→Bool) (f:FuncId) (first cap:List PV) (hp:∀ x∈l,ACall Tryz.prog f (first++[pi x]++cap) (pb (p x))):ACall Tryz.prog 139 [ints l,.fn (.func f) first cap] (pi (zdF l p)):=by
 refine zi zf Tryz.func139 rfl zws Tryz.ntmps139 zwy63 _ rfl (fun hw gB hgB=>?_);have hl:=ziG hw.1
 repeat' (first|refine sA ?_|refine sC (fun _=>?_) (fun _=>?_)|fail)
 refine zW (fun k:Nat=>[(0,.pv (ints l)),(1,.pv (.fn (.func f) first cap)),(7,.pv (pi l.length)),(8,.pv (pi k))]) (fun _=>[]) (fun k=>k≤l.length∧∀ j (h:j < k) (h2:j < l.length),p l[j]=false) (fun k=>l.length - k) 0 ⟨by omega,fun j h=>by omega⟩ (tS) tH ?_;rintro k ⟨hk,hno⟩;by_cases hlt:k < l.length
 ·have he:=Qv hlt;have c1:=hp _ (List.getElem_mem hlt);cases hpx:p l[k]
  ·rw [hpx] at c1
   repeat' (first|(refine shC ?_;first|refine qV (c1) ?_)|(refine shX ?_;first|refine qX he ?_)|refine sK ?_|refine sC (fun _=>?_) (fun _=>?_)|fail)
   exact ⟨k + 1,⟨hlt,fun j hj h2=>by
    by_cases e:j=k
    ·subst e;exact hpx
    ·exact hno j zwy62 h2⟩,tD,tS,tH⟩
  ·rw [hpx] at c1;have hi:l.findIdx p=k:=by
    rw [List.findIdx_eq hlt];exact ⟨hpx,fun j hj=>hno j hj zwy62⟩
   have ha:l.any p=true:=List.any_eq_true.2 ⟨_,List.getElem_mem hlt,hpx⟩
   repeat' (first|(refine shC ?_;first|refine qV (c1) ?_)|(refine shX ?_;first|refine qX he ?_)|refine sK ?_|refine sC (fun _=>?_) (fun _=>?_)|fail)
   exact retq rfl (by simp [zC,zdF,ha,hi])
 ·have ha:l.any p=false:=by
   rw [List.any_eq_false];intro x hx;obtain ⟨j,hj,rfl⟩:=List.getElem_of_mem hx;simp [hno j zwy62 hj]
  repeat' (first|refine sK ?_|refine sC (fun _=>?_) (fun _=>?_)|fail)
  exact retq rfl (by simp [zC,zdF,ha])
theorem zeF (l:List Int) (f:FuncId) (first cap:List PV) (hp:∀ x∈l,ACall Tryz.prog f (first++[pi x]++cap) (pb false)):ACall Tryz.prog 167 [ints l,.fn (.func f) first cap] (ints l):=by
 refine zi zf Tryz.func167 rfl zws Tryz.ntmps167 zwy63 _ rfl (fun hw gB hgB=>?_);have c1:=zaI l (fun _=>false) f first cap hp
 rw [show zdF l (fun _=>false) = -1 by simp [zdF]] at c1
 repeat' (first|(refine shC ?_;first|refine qC c1 ?_)|refine sA ?_|refine sC (fun _=>?_) (fun _=>?_)|fail)
 exact retq rfl rfl
theorem znP (g:Img) (x:Int):ACall Tryz.prog 168 [pi x,.ptr (zO g) 0] (pb (!there g x)):=by
 refine zi zf Tryz.func168 rfl zws Tryz.ntmps168 zwy63 _ rfl (fun hw gB hgB=>?_)
 repeat' (first|(refine shC ?_;first|refine qC (Qd g x) ?_)|refine sA ?_|refine sC (fun _=>?_) (fun _=>?_)|fail)
 all_goals first|(refine ay ?_;first|(simp only [zC,BL,List.length_map] at *;simp only [*,BL,List.length_map];done)|(simp_all [zC];done)|(simp_all [zC];omega)|(simp_all [zC];intros;omega))|(refine zbf rfl ?_;first|(simp only [zC,BL,List.length_map] at *;simp only [*,BL,List.length_map];done)|(simp_all [zC];done)|(simp_all [zC];omega)|(simp_all [zC];intros;omega))|skip
theorem Vw (g:Img) (t:Int) (hfc:(yS g t).length≤1000) (hin:∀ f∈yS g t,there g f=true):ACall Tryz.prog 142 [zO g,pi t] (ints (yS g t)):=by
 refine zi zf Tryz.func142 rfl zws Tryz.ntmps142 zwy63 _ rfl (fun hw gB hgB=>?_);cases ht:typeAt g t with
 | none =>
  have hth:there g t=false:=by
   cases hh:there g t with
   | false=>rfl
   | true=>obtain ⟨td,h⟩:=(XO g t).1 hh;rw [ht] at h;cases h
  have c1:ACall Tryz.prog 90 [zO g,pi t] (pb false):=by rw [←hth];exact Qd g t
  repeat' (first|(refine shC ?_;first|refine qC c1 ?_)|refine sK ?_|refine sC (fun _=>?_) (fun _=>?_)|fail)
  rw [yS,ht];exact zbl (t:=4) (ps:=[ints []]) rfl (Qy 1 false) rfl rfl
 | some td =>
  have hth:there g t=true:=(XO g t).2 ⟨td,ht⟩;have c1:ACall Tryz.prog 90 [zO g,pi t] (pb true):=by rw [←hth];exact Qd g t
  obtain ⟨h0,he⟩:=Qc ht;have hfa:yS g t=td.faces:=by rw [yS,ht]
  rw [hfa] at hin hfc ⊢;have c2:=zeF td.faces 168 [] [.ptr (zO g) 0] (fun x hx=>by have:=znP g x;rw [hin x hx] at this;exact this)
  repeat' (first|(refine shC ?_;first|refine qC c1 ?_|refine zy rfl (zJ rfl rfl (zgz _ zwy62)) rfl rfl ?_|refine zq rfl (zJ rfl rfl (zgz _ zwy62)) rfl rfl ?_|refine qC c2 ?_)|(refine shX ?_;first|refine zy rfl (ah h0 he) rfl rfl ?_|refine zq rfl (ah h0 he) rfl rfl ?_)|refine sK ?_|refine sC (fun _=>?_) (fun _=>?_)|fail)
  exact retq rfl rfl
theorem zmQ (g:Img) (t:Int) (hfc:(yS g t).length≤1000) (hin:∀ f∈yS g t,there g f=true):ACall Tryz.prog 144 [pi t,.ptr (zO g) 0] (ints (yS g t)):=by
 refine zi zf Tryz.func144 rfl zws Tryz.ntmps144 zwy63 _ rfl (fun hw gB hgB=>?_)
 repeat' (first|(refine shC ?_;first|refine qC (Vw g t hfc hin) ?_)|refine sA ?_|refine sC (fun _=>?_) (fun _=>?_)|fail)
 exact retq rfl rfl
set_option maxHeartbeats 20000000
abbrev hR (met:List Int):HEnv:=[(0,.cell (.own 2)),(1,.cell (.own 3)),(2,.obj (MapSet Tryz.prog 3 3 met)),(3,.row 3 1 (met.map pi))]
structure GOk (G:HEnv):Prop where
 kill:zbx 3 G=G
 ids:∀ i h,HEnv.get G i=some h→4≤i
 inn:∀ met,hIn (hR met++G) G=true
theorem ztG {met:List Int} {G:HEnv} {i:Nat} (h:4≤i):HEnv.get (hR met++G) i=HEnv.get G i:=by
 rw [get_append];have:HEnv.get (hR met) i=none:=by
  simp only [hR,HEnv.get_cons,HEnv.get_nil];rw [if_neg zwy62,if_neg zwy62,if_neg zwy62,if_neg zwy62]
 rw [this]
theorem GOk.killHE {G:HEnv} (hG:GOk G) {i:Nat} {h:HE} (hg:HEnv.get G i=some h):Cg.killHE 3 h=h:=by
 have:=zbq 3 G i;rw [hG.kill,hg] at this;simpa using this.symm
theorem zp8 {H:HEnv} {met:List Int} {G:HEnv} {env':Env} (hG:GOk G) (h0:H.get 0=some (.cell (.own 2))) (h1:H.get 1=some (.cell (.own 3))) (h2:H.get 2=some (.obj (MapSet Tryz.prog 3 3 met))) (h3:H.get 3=some (.row 3 1 (met.map pi)))
  (hr:∀ i h,4≤i→HEnv.get G i=some h→H.get i=some h) (he:QD (hR met++G) env'=true):Yj H (hR met++G) env':=by
 refine ⟨fun i h hi=>?_,?_⟩
 ·by_cases h4:4≤i
  ·rw [ztG h4] at hi;exact hr i h h4 hi
  ·have:i=0∨i=1∨i=2∨i=3:=by omega
   rw [get_append] at hi;rcases this with rfl|rfl|rfl|rfl
   ·rw [h0];exact hi
   ·rw [h1];exact hi
   ·rw [h2];exact hi
   ·rw [h3];exact hi
 ·rw [he,Bool.true_and];show (true&&(true&&hIn (hR met++G) G))=true
  rw [hG.inn];rfl
theorem zkL {i:Nat} (h:HE) (met:List Int) (G:HEnv) (h4:4≤i) (hg:HEnv.get G i=some h):HEnv.get (hR met++G) i=some h:=by rw [ztG h4];exact hg
theorem zuk {x:Int} (h:0≤x∧x < 100000):(Lit.int .i64 x).wf=true:=by
 simp [Lit.wf,IntKind.has,IntKind.min,IntKind.max,IntKind.bits,IntKind.signed];omega
theorem zn4 (l met:List Int) (G:HEnv) (hG:GOk G) (hx:∀ x∈l,0≤x∧x < 100000) (hlen:met.length + l.length≤100000) :
  ACallH Tryz.prog 169 [.pv (ints l),.box 0 0,.box 1 0] (hR met++G) (hR (l.foldl YI met)++G):=by
 refine zl0 Tryz.func169 rfl zws Tryz.ntmps169 zwy63 rfl (fun gB hgB=>?_)
 repeat' (first|refine sA ?_|refine sC (fun _=>?_) (fun _=>?_)|fail)
 refine zW (fun x:Nat × List Int=>[(1,.box 0 0),(2,.box 1 0),(6,.pv (ints l)),(7,.pv (pi l.length)),(8,.pv (pi x.1))]) (fun x=>hR x.2++G)
  (fun x=>x.1≤l.length∧x.2.length≤met.length + x.1∧(l.drop x.1).foldl YI x.2=l.foldl YI met) (fun x=>l.length - x.1) (0,met) ⟨by simp,by simp,rfl⟩ (tS) (zp8 hG rfl rfl rfl rfl (fun i h h4 hg=>zkL h met G h4 hg) rfl) ?_
 rintro ⟨k,m⟩ ⟨hk,hml,hr⟩;simp only at hk hml hr;by_cases hlt:k < l.length
 ·have he:=Qv hlt;rw [zen hlt] at hr;have hwf:=zuk (hx _ (List.getElem_mem hlt));by_cases hm:l[k]∈m
  ·rw [show YI m l[k]=m by simp [YI,hm]] at hr
   repeat' (first|refine zy rfl (zkB (c:=1) (if_pos hm) zf rfl rfl rfl rfl rfl rfl rfl rfl hwf) rfl rfl ?_|(refine shX ?_;first|refine qX he ?_)|refine sK ?_|refine sC (fun _=>?_) (fun _=>?_)|fail)
   refine ⟨(k + 1,m),⟨hlt,by simp;omega,hr⟩,tD,tS,zp8 hG rfl rfl rfl rfl (fun i h h4 hg=>zkL h m G h4 hg) rfl⟩
  ·rw [show YI m l[k]=m++[l[k]] by simp [YI,hm]] at hr
   repeat' (first|refine zy rfl (zkB (c:=0) (if_neg hm) zf rfl rfl rfl rfl rfl rfl rfl rfl hwf) rfl rfl ?_|refine zlL hgB.1 zf rfl rfl rfl rfl rfl rfl rfl rfl rfl hwf zwy90 rfl ?_|(refine shX ?_;first|refine qX he ?_)|(refine yC ?_;first|refine qI zf rfl rfl rfl rfl rfl rfl rfl zwy81 zwy64 rfl rfl ?_)|refine sK ?_|refine sC (fun _=>?_) (fun _=>?_)|fail)
   refine ⟨(k + 1,m++[l[k]]),⟨hlt,by simp;omega,hr⟩,tD,tS,zp8 hG rfl rfl rfl (by show some (HE.row 3 1 _)=_;simp) (fun i h h4 hg=>?_) rfl⟩;rw [HEnv.get_cons,if_neg zwy62,HEnv.get_cons,if_neg zwy62,zbq,HEnv.get_cons,if_neg zwy62,ztG h4,hg];simp [hG.killHE hg]
 ·rw [drop_end zwy62] at hr;simp only [List.foldl_nil] at hr;subst hr
  repeat' (first|refine sK ?_|refine sC (fun _=>?_) (fun _=>?_)|fail)
  exact ⟨.inl rfl,zp8 hG rfl rfl rfl rfl (fun i h h4 hg=>zkL h _ G h4 hg) rfl⟩
def XB (step:Int→List Int):Nat→Nat→List Int→List Int
 | 0,_,met=>met
 | n + 1,i,met=>match met[i]? with|some u=>XB step n (i + 1) ((step u).foldl YI met)|none=>met
def XJ (N:Nat) (step:Int→List Int) (l:List Int):List Int:=XB step (N + 1) 0 (l.foldl YI [])
def NInv (N:Nat) (met:List Int):Prop:=met.Nodup∧∀ y∈met,0≤y∧y < N
theorem NInv.len {N:Nat} {met:List Int} (h:NInv N met):met.length≤N:=Yl _ _ h.1 h.2
theorem NInv.add {N:Nat} {met:List Int} (h:NInv N met) {x:Int} (hx:0≤x∧x < N):NInv N (YI met x):=by
 unfold YI;split
 ·exact h
 ·rename_i hn;refine ⟨?_,?_⟩
  ·rw [List.nodup_append];simp [h.1];intro b hb e;subst e;exact hn hb
  ·intro y hy;simp only [List.mem_append,List.mem_singleton] at hy;rcases hy with hy|rfl
   ·exact h.2 y hy
   ·exact hx
theorem NInv.fold {N:Nat}:∀ (l:List Int) {met:List Int},NInv N met→(∀ x∈l,0≤x∧x < N)→NInv N (l.foldl YI met)
 | [],_,h,_=>h
 | f::l,_,h,hl=>NInv.fold l (h.add (hl f zwy63)) fun x hx=>hl x (by simp [hx])
theorem zdL:∀ (l met:List Int),met.length≤(l.foldl YI met).length
 | [],met=>Nat.le_refl _
 | x::l,met=>by
  refine Nat.le_trans ?_ (zdL l (YI met x));unfold YI;split <;> simp
theorem zmI {us:Nat→Value} {env2:Env} (h1:zbx 3 (yQ us 100 env2)=yQ us 100 env2) (h2:∀ met,hIn (hR met++yQ us 100 env2) (yQ us 100 env2)=true):GOk (yQ us 100 env2) :=
 ⟨h1,fun i h hg=>by have:=(QJ hg).1;omega,h2⟩
theorem zei (N:Nat) (hN:N≤1000) (l:List Int) (step:Int→List Int) (f:FuncId) (first cap:List PV) (hl:∀ x∈l,0≤x∧x < N) (hll:l.length≤10000)
  (hs:∀ x:Int,0≤x→x < (N:Int)→ACall Tryz.prog f (first++[pi x]++cap) (ints (step x))) (hst:∀ x:Int,0≤x→x < (N:Int)→(step x).length≤10000∧∀ y∈step x,0≤y∧y < N) :
  ACall Tryz.prog 143 [ints l,.fn (.func f) first cap] (ints (sortL (XJ N step l))):=by
 refine zi zf Tryz.func143 rfl zws Tryz.ntmps143 zwy63 _ rfl (fun hw gB hgB=>?_);have hm0:NInv N (l.foldl YI []):=NInv.fold l ⟨by simp,by simp⟩ hl
 repeat' (first|refine zo4 (kt:=3) (et:=3) 2 rfl rfl rfl rfl rfl ?_|refine zhr 1 3 3 1 zwy67 rfl rfl ?_|refine sA ?_|refine sC (fun _=>?_) (fun _=>?_)|fail)
 refine zwa [(0,.pv (ints l)),(1,.pv (.fn (.func f) first cap)),(5,.box 0 0),(6,.box 1 0),(7,.fn (.func 169) [] [.box 0 0,.box 1 0]),(11,.fn (.func 169) [] [.box 0 0,.box 1 0]),(12,.pv (ints l))] (hR []) (tS)
  ⟨by repeat (first|exact zA|refine aB ?_),rfl⟩ ?_
 refine zmc [(1,.pv (.fn (.func f) first cap)),(5,.box 0 0),(6,.box 1 0),(7,.fn (.func 169) [] [.box 0 0,.box 1 0])] (hR (l.foldl YI [])) 100 hgB rfl rfl rfl rfl (tS) rfl rfl rfl rfl rfl rfl
  (fun us=>zn4 l [] _ (zmI rfl (fun _=>rfl)) (fun x hx=>by have:=hl x hx;omega) zwy64) ?_
 repeat' (first|refine sA ?_|refine sC (fun _=>?_) (fun _=>?_)|fail)
 refine zW (fun x:Nat × List Int=>[(1,.pv (.fn (.func f) first cap)),(5,.box 0 0),(6,.box 1 0),(7,.fn (.func 169) [] [.box 0 0,.box 1 0]),(8,.pv (pi x.1))]) (fun x=>hR x.2)
  (fun x=>x.1≤x.2.length∧NInv N x.2∧XB step (N + 1 - x.1) x.1 x.2=XJ N step l) (fun x=>N + 1 - x.1) (0,l.foldl YI []) ⟨by simp,hm0,rfl⟩ (tS) ⟨by repeat (first|exact zA|refine aB ?_),rfl⟩ ?_
 rintro ⟨i,met⟩ ⟨hi,hmi,hr⟩;simp only at hi hmi hr;have hml:=hmi.len;rw [show N + 1 - i=(N - i) + 1 by omega,XB] at hr;by_cases hlt:i < met.length
 ·have heU:=Qv hlt;rw [List.getElem?_eq_getElem hlt] at hr;simp only at hr;obtain ⟨hu0,hu1⟩:=hmi.2 _ (List.getElem_mem hlt);obtain ⟨hs1,hs2⟩:=hst _ hu0 hu1;have c1:=hs _ hu0 hu1
  repeat' (first|(refine shC ?_;first|refine qV (c1) ?_)|(refine shX ?_;first|refine qX heU ?_)|refine sK ?_|refine sC (fun _=>?_) (fun _=>?_)|fail)
  refine zmc [(1,.pv (.fn (.func f) first cap)),(5,.box 0 0),(6,.box 1 0),(7,.fn (.func 169) [] [.box 0 0,.box 1 0]),(8,.pv (pi i))] (hR ((step met[i]).foldl YI met)) 100 hgB rfl rfl rfl rfl (tS) rfl rfl rfl rfl rfl rfl
   (fun us=>zn4 _ met _ (zmI rfl (fun _=>rfl)) (fun x hx=>by have:=hs2 x hx;omega) zwy62) ?_
  repeat' (first|refine sK ?_|refine sC (fun _=>?_) (fun _=>?_)|fail)
  have hmi2:=NInv.fold _ hmi hs2;refine ⟨(i + 1,(step met[i]).foldl YI met),⟨?_,hmi2,?_⟩,by simp only;omega,tS,⟨by repeat (first|exact zA|refine aB ?_),rfl⟩⟩
  ·have:=zdL (step met[i]) met;simp only;omega
  ·simp only;rw [show N + 1 - (i + 1)=N - i by omega];exact hr
 ·rw [List.getElem?_eq_none zwy62] at hr;simp only at hr;subst hr
  repeat' (first|refine zvC [(6,.box 1 0)] hgB rfl rfl ⟨Tryz.f170,Tryz.func170,rfl,by kernel_rfl⟩ rfl rfl (by simp only;omega) (tS) rfl rfl rfl rfl ?_|refine sK ?_|refine sC (fun _=>?_) (fun _=>?_)|fail)
  exact retq rfl rfl
def tyB (a b:Ty):Bool:=a.kind==b.kind&&(a.index==b.index&&(a.dims==b.dims&&(a.ref==b.ref&&true)))
set_option maxHeartbeats 20000000
structure Fm (g:Img):Prop where
 n:g.types.length≤32
 faces:∀ td∈g.types,td.faces.length≤4∧∀ f∈td.faces,0≤f∧f < g.types.length
theorem VH {g:Img} (h:yI g=true):Fm g :=
 ⟨(yG h).1,fun td hm=>let ⟨_,_,_,_,h5,h6⟩:=Xt ((yG h).2.2.2 td hm);⟨h5,h6⟩⟩
theorem zaJ {g:Img} {t:Int} {td:TD} (h:typeAt g t=some td):td∈g.types:=by
 unfold typeAt at h;split at h
 ·exact List.mem_of_getElem? h
 ·cases h
theorem Fm.at {g:Img} (h:Fm g) (t:Int):(yS g t).length≤4∧∀ f∈yS g t,0≤f∧f < g.types.length:=by
 unfold yS;cases ht:typeAt g t with
 | none=>simp
 | some td=>exact h.faces td (zaJ ht)
theorem Vl {g:Img} {t:Int} (h:0≤t∧t < g.types.length):there g t=true:=by
 obtain ⟨td,htd⟩:=VY h;exact (XO g t).2 ⟨td,htd⟩
def YJ (g:Img) (t:Int):List Int:=sortL (XJ g.types.length (yS g) ((up g t).flatMap (yS g)))
theorem zgX (g:Img) (t:Int) (hF:Fm g):ACall Tryz.prog 100 [zO g,pi t] (ints (YJ g t)):=by
 refine zi zf Tryz.func100 rfl zws Tryz.ntmps100 zwy63 _ rfl (fun hw gB hgB=>?_);have hn:=hF.n;have hui:=zcr g t;have hul:=Yl _ _ hui.1 hui.2
 repeat' (first|(refine shC ?_;first|refine zy rfl (zJ rfl rfl (Yw g t zwy62)) rfl rfl ?_|refine zq rfl (zJ rfl rfl (Yw g t zwy62)) rfl rfl ?_)|refine sA ?_|refine sC (fun _=>?_) (fun _=>?_)|fail)
 refine YF (t:=5) 0 3 1 zwy67 rfl rfl ?_;refine zW (fun x:Nat × List Int=>[(2,.pv (.ptr (zO g) 0)),(5,.own 0),(10,.pv (ints (up g t))),(11,.pv (pi (up g t).length)),(12,.pv (pi x.1))]) (fun x=>[(0,.row 3 1 (x.2.map pi))])
  (fun x=>x.1≤(up g t).length∧x.2.length≤4 * x.1∧(∀ y∈x.2,0≤y∧y < g.types.length)∧x.2++((up g t).drop x.1).flatMap (yS g)=(up g t).flatMap (yS g)) (fun x=>(up g t).length - x.1) (0,[]) ⟨by simp,by simp,by simp,rfl⟩ (tS) ⟨aB zA,rfl⟩ ?_
 rintro ⟨k,out⟩ ⟨hk,hol,hrg,hr⟩;simp only at hk hol hrg hr;by_cases hlt:k < (up g t).length
 ·have he:=Qv hlt;obtain ⟨hf1,hf2⟩:=hF.at (up g t)[k];rw [drop_cons hlt,List.flatMap_cons] at hr
  repeat' (first|(refine shC ?_;first|refine zy rfl (zJ rfl rfl (Vw g _ zwy62 (fun f hf=>Vl (hf2 f hf)))) rfl rfl ?_|refine zq rfl (zJ rfl rfl (Vw g _ zwy62 (fun f hf=>Vl (hf2 f hf)))) rfl rfl ?_)|(refine shX ?_;first|refine qX he ?_)|(refine yC ?_;first|refine qI zf rfl rfl rfl rfl rfl rfl rfl zwy81 zwy64 rfl rfl ?_)|refine sK ?_|refine sC (fun _=>?_) (fun _=>?_)|fail)
  refine ⟨(k + 1,out++yS g (up g t)[k]),⟨hlt,by simp;omega,?_,by simpa using hr⟩,tD,tS,⟨Yk rfl zwy63 zA,rfl⟩⟩;intro y hy;simp only [List.mem_append] at hy;rcases hy with hy|hy
  ·exact hrg y hy
  ·exact hf2 y hy
 ·rw [drop_end zwy62] at hr;simp only [List.flatMap_nil,List.append_nil] at hr;subst hr;have c1:=zei g.types.length zwy62 ((up g t).flatMap (yS g)) (yS g) 144 [] [.ptr (zO g) 0] hrg zwy62
   (fun x h0 h1=>zmQ g x (by have:=(hF.at x).1;omega) (fun f hf=>Vl ((hF.at x).2 f hf))) (fun x h0 h1=>⟨by have:=(hF.at x).1;omega,(hF.at x).2⟩)
  repeat' (first|(refine shC ?_;first|refine qC c1 ?_)|refine sK ?_|refine sC (fun _=>?_) (fun _=>?_)|fail)
  exact retq rfl rfl
def XG (g:Img) (a b:Int):Bool:=decide (b∈up g a)||decide (b∈YJ g a)
theorem zmH (g:Img) (a b:Int) (hF:Fm g):ACall Tryz.prog 73 [zO g,pi a,pi b] (pb (XG g a b)):=by
 refine zi zf Tryz.func73 rfl zws Tryz.ntmps73 zwy63 _ rfl (fun hw gB hgB=>?_);have hn:=hF.n
 repeat' (first|(refine shC ?_;first|refine zy rfl (zJ rfl rfl (Yw g a zwy62)) rfl rfl ?_|refine zq rfl (zJ rfl rfl (Yw g a zwy62)) rfl rfl ?_|refine qC (YE _ _) ?_|refine qC (zgX g a hF) ?_)|refine sA ?_|refine sC (fun _=>?_) (fun _=>?_)|fail)
 all_goals first|(refine ay ?_;first|(simp only [zC,XG,BL,List.length_map] at *;simp only [*,BL,List.length_map];done)|(simp_all [zC,XG];done)|(simp_all [zC,XG];omega)|(simp_all [zC,XG];intros;omega))|(refine zbf rfl ?_;first|(simp only [zC,XG,BL,List.length_map] at *;simp only [*,BL,List.length_map];done)|(simp_all [zC,XG];done)|(simp_all [zC,XG];omega)|(simp_all [zC,XG];intros;omega))|skip
def ZO (g:Img) (a b:Ty):Bool :=
 if tyB a b then true
 else if !object a||!object b then false
 else if plain a 8||plain b 4 then true
 else if plain a 5&&plain b 5 then XG g a.index b.index
 else plain a 7&&tyB b ⟨7,0,0,false⟩
theorem XF (g:Img) (a b:Ty) (hF:Fm g):ACall Tryz.prog 39 [zO g,yJ a,yJ b] (pb (ZO g a b)):=by
 refine zi zf Tryz.func39 rfl zws Tryz.ntmps39 zwy63 _ rfl (fun hw gB hgB=>?_)
 repeat' (first|(refine shC ?_;first|refine qC (qQ a) ?_|refine qC (qQ b) ?_|refine qC (QT a 8) ?_|refine qC (QT b 4) ?_|refine qC (QT a 5) ?_|refine qC (QT b 5) ?_|refine qC (zmH g _ _ hF) ?_|refine qC (QT a 7) ?_|refine qC zjy ?_)|refine sA ?_|refine sC (fun _=>?_) (fun _=>?_)|fail)
 all_goals refine ay ?_
 all_goals first|(simp only [zC,ZO,tyB, *];done)|(simp only [zC,ZO,tyB, *];rfl)
def zfc (g:Img) (a b:Ty):Ty :=
 match (up g a.index).find? (fun t=>decide (t∈up g b.index)) with|some t=>⟨5,t,0,false⟩|none=>⟨4,0,0,false⟩
def ZE (g:Img) (a b:Ty):Ty × Int :=
 if ZO g b a then (a,0) else if ZO g a b then (b,0)
 else if !object a||!object b then (ty0,14)
 else if plain a 7&&plain b 7 then (⟨7,0,0,false⟩,0)
 else if zbT g a&&zbT g b then (zfc g a b,0)
 else (⟨4,0,0,false⟩,0)
theorem zie {g:Img} {a b:Ty} {x:Ty × Int} (h:ZE g a b=x):PV.tup [yJ x.1,pi x.2]=.tup [yJ (ZE g a b).1,pi (ZE g a b).2]:=by rw [h]
theorem zwk2 {G:Prop} (h:G:=by repeat' (first|(refine shC ?_;first|(have:=b0;refine qC c3 ?_)|(have:=b1;refine qC zgH ?_))|(refine shX ?_;first|(have:=b0;refine qX he ?_))|refine sK ?_|refine sC (fun _=>?_) (fun _=>?_)|(have:=b2;exact retq rfl (Eq.trans (b:=PV.tup [yJ ⟨5,(up g a.index)[k],0,false⟩,pi 0]) rfl (zie (x:=(⟨5,(up g a.index)[k],0,false⟩,0)) (by rw [hmt,hr]))))|(have:=b1;exact retq rfl (Eq.trans (b:=PV.tup [yJ ⟨4,0,0,false⟩,pi 0]) rfl (zie (x:=(⟨4,0,0,false⟩,0)) (by rw [hmt,hr];rfl))))|exact ⟨k + 1,⟨hlt,hr⟩,tD,tS,⟨aB zA,rfl⟩⟩|fail)):G:=h
theorem zni (g:Img) (a b:Ty) (hF:Fm g):ACall Tryz.prog 155 [zO g,yJ a,yJ b] (.tup [yJ (ZE g a b).1,pi (ZE g a b).2]):=by
 refine zi zf Tryz.func155 rfl zws Tryz.ntmps155 zwy63 _ rfl (fun hw gB hgB=>?_);have hn:=hF.n;have hui:=zcr g a.index;have hul:=Yl _ _ hui.1 hui.2
 repeat' (first|(refine shC ?_;first|refine qC (XF g b a hF) ?_|refine qC (XF g a b hF) ?_|refine qC (qQ a) ?_|refine qC (qQ b) ?_|refine qC (QT a 7) ?_|refine qC (QT b 7) ?_|refine qC zjy ?_|refine qC (ziC g a) ?_|refine qC (ziC g b) ?_|refine zy rfl (zJ rfl rfl (Yw g _ zwy62)) rfl rfl ?_|refine zq rfl (zJ rfl rfl (Yw g _ zwy62)) rfl rfl ?_|refine qC zgH ?_)|refine sK ?_|refine sC (fun _=>?_) (fun _=>?_)|fail)
 all_goals first
  | (refine retq rfl (Eq.trans (b:=PV.tup [yJ a,pi 0]) rfl (zie (x:=(a,0)) ?_));simp only [ZE, *];rfl)
  | (refine retq rfl (Eq.trans (b:=PV.tup [yJ b,pi 0]) rfl (zie (x:=(b,0)) ?_));simp only [ZE, *];rfl)
  | (refine retq rfl (Eq.trans (b:=PV.tup [yJ ty0,pi 14]) rfl (zie (x:=(ty0,14)) ?_));simp only [ZE, *];rfl)
  | (refine retq rfl (Eq.trans (b:=PV.tup [yJ ⟨7,0,0,false⟩,pi 0]) rfl (zie (x:=(⟨7,0,0,false⟩,0)) ?_));simp only [ZE, *];rfl)
  | (refine retq rfl (Eq.trans (b:=PV.tup [yJ ⟨4,0,0,false⟩,pi 0]) rfl (zie (x:=(⟨4,0,0,false⟩,0)) ?_));simp only [ZE, *];rfl)
  | skip
 all_goals
  have hmt:ZE g a b=(zfc g a b,0):=by simp only [ZE, *];rfl
  refine zW (fun k:Nat=>[(6,.box 0 0),(8,.pv (ints (up g b.index))),(56,.pv (ints (up g a.index))),(57,.pv (pi (up g a.index).length)),(58,.pv (pi k))]) (fun _=>[(0,.cell (.pv (yJ ty0)))])
   (fun k=>k≤(up g a.index).length∧zfc g a b=(match ((up g a.index).drop k).find? (fun t=>decide (t∈up g b.index)) with|some t=>⟨5,t,0,false⟩|none=>⟨4,0,0,false⟩)) (fun k=>(up g a.index).length - k) 0 ⟨by simp,rfl⟩ (tS) ⟨aB zA,rfl⟩ ?_
  rintro k ⟨hk,hr⟩;by_cases hlt:k < (up g a.index).length
  ·have he:=Qv hlt;rw [drop_cons hlt,List.find?_cons] at hr;have c3:=YE (up g b.index) (up g a.index)[k];cases hm:decide ((up g a.index)[k]∈up g b.index)
   ·rw [hm] at c3 hr;have b0:=();exact zwk2
   ·rw [hm] at c3 hr;have b0:=();have b2:=();exact zwk2
  ·rw [drop_end zwy62] at hr;have b1:=();exact zwk2
set_option maxHeartbeats 20000000
theorem zdX (s:ByteArray):ACall Tryz.prog 225 [ps s] (pb (zbM s)):=by
 refine zi zf Tryz.func225 rfl zws Tryz.ntmps225 zwy63 _ rfl (fun hw gB hgB=>?_);have hl:=zvx hw.1;have he:(s.toList==(⟨#[]⟩:ByteArray).toList)=decide (s.size=0):=by
  rw [ByteArray.toList_eq,ByteArray.toList_eq];have hs:s.size=s.data.toList.length:=by simp
  rw [hs];cases s.data.toList <;> simp
 have hfin:s.size≠0→s.size≤24→zbM s=s.data.toList.all ztC:=fun a b=>by
  unfold zbM;rw [decide_eq_true zwy62,decide_eq_true zwy62];simp
 repeat' (first|refine sK ?_|refine sC (fun _=>?_) (fun _=>?_)|fail)
 all_goals first
  | (refine ay ?_;simp_all [zC,zbM];done)
  | (refine ay ?_;simp_all [zC,zbM];omega)
  | skip
 refine zW (fun k:Nat=>[(0,.pv (ps s)),(12,.pv (pi s.size)),(13,.pv (pi k))]) (fun _=>[]) (fun k=>k≤s.size∧zbM s=(s.data.toList.drop k).all ztC) (fun k=>s.size - k) 0 ⟨by simp,by rw [hfin (by simp_all) (by simp_all <;> omega)];simp⟩ (tS) tH ?_;rintro k ⟨hk,hr⟩;by_cases hlt:k < s.size
 ·have hb:=zuX hlt;rw [zi7 zwy83] at hr
  repeat' (first|(refine shI ?_;first|refine zy rfl (zqj zf rfl rfl rfl rfl zwy62 hb) rfl rfl ?_|refine zq rfl (zqj zf rfl rfl rfl rfl zwy62 hb) rfl rfl ?_)|refine sK ?_|refine sC (fun _=>?_) (fun _=>?_)|fail)
  all_goals first
   | exact ⟨k + 1,⟨by omega,by simp_all [ztC]⟩,tD,tS,tH⟩
   | (refine ay ?_;simp_all [zC,ztC];done)
 ·rw [drop_end zwy64] at hr
  repeat' (first|refine sK ?_|refine sC (fun _=>?_) (fun _=>?_)|fail)
  all_goals (refine ay ?_;simp_all [zC];done)
theorem zjB (n x:Int):ACall Tryz.prog 224 [pi x,.ptr (pi n) 0] (pb (!zd6 n x)):=by
 refine zi zf Tryz.func224 rfl zws Tryz.ntmps224 zwy63 _ rfl (fun hw gB hgB=>?_)
 repeat' (first|refine sA ?_|refine sC (fun _=>?_) (fun _=>?_)|fail)
 all_goals (refine ay ?_;simp only [zC,List.cons.injEq,PV.base.injEq,Value.bool.injEq];rw [Bool.eq_iff_iff];simp_all [zd6] <;> omega)
theorem XH (l:List Int) (p:Int→Bool) (f:FuncId) (first cap:List PV) (hp:∀ x∈l,ACall Tryz.prog f (first++[pi x]++cap) (pb (p x))):ACall Tryz.prog 98 [ints l,.fn (.func f) first cap] (pb (l.any p)):=by
 refine zi zf Tryz.func98 rfl zws Tryz.ntmps98 zwy63 _ rfl (fun hw gB hgB=>?_);have c1:=zaI l p f first cap hp
 repeat' (first|(refine shC ?_;first|refine qC c1 ?_)|refine sA ?_|refine sC (fun _=>?_) (fun _=>?_)|fail)
 refine ay ?_;have:decide (0≤zdF l p)=l.any p:=by
  unfold zdF;cases h:l.any p <;> simp
 simp [zC,this]
def ztR (l:List TD) (p:TD→Bool):Int:=if l.any p then ((l.findIdx p:Nat):Int) else -1
theorem zhw (l:List TD) (p:TD→Bool) (f:FuncId) (first cap:List PV) (hp:∀ x∈l,ACall Tryz.prog f (first++[ZB x]++cap) (pb (p x))):ACall Tryz.prog 236 [.slc 4 (l.map ZB) false,.fn (.func f) first cap] (pi (ztR l p)):=by
 refine zi zf Tryz.func236 rfl zws Tryz.ntmps236 zwy63 _ rfl (fun hw gB hgB=>?_);have hl:l.length≤9223372036854775807:=by have:=hw.1;simp [PV.lenOk,lensOk,maxLen] at this;exact this.1
 repeat' (first|refine sA ?_|refine sC (fun _=>?_) (fun _=>?_)|fail)
 refine zW (fun k:Nat=>[(0,.pv (.slc 4 (l.map ZB) false)),(1,.pv (.fn (.func f) first cap)),(7,.pv (pi l.length)),(8,.pv (pi k))]) (fun _=>[]) (fun k=>k≤l.length∧∀ j (h:j < k) (h2:j < l.length),p l[j]=false) (fun k=>l.length - k) 0 ⟨by omega,fun j h=>by omega⟩ (tS) tH ?_;rintro k ⟨hk,hno⟩;by_cases hlt:k < l.length
 ·have he:=zY (f:=ZB) hlt;have c1:=hp _ (List.getElem_mem hlt);cases hpx:p l[k]
  ·rw [hpx] at c1
   repeat' (first|(refine shC ?_;first|refine qV (c1) ?_)|(refine shX ?_;first|refine qX he ?_)|refine sK ?_|refine sC (fun _=>?_) (fun _=>?_)|fail)
   exact ⟨k + 1,⟨hlt,fun j hj h2=>by
    by_cases e:j=k
    ·subst e;exact hpx
    ·exact hno j zwy62 h2⟩,tD,tS,tH⟩
  ·rw [hpx] at c1;have hi:l.findIdx p=k:=by
    rw [List.findIdx_eq hlt];exact ⟨hpx,fun j hj=>hno j hj zwy62⟩
   have ha:l.any p=true:=List.any_eq_true.2 ⟨_,List.getElem_mem hlt,hpx⟩
   repeat' (first|(refine shC ?_;first|refine qV (c1) ?_)|(refine shX ?_;first|refine qX he ?_)|refine sK ?_|refine sC (fun _=>?_) (fun _=>?_)|fail)
   exact retq rfl (by simp [zC,ztR,ha,hi])
 ·have ha:l.any p=false:=by
   rw [List.any_eq_false];intro x hx;obtain ⟨j,hj,rfl⟩:=List.getElem_of_mem hx;simp [hno j zwy62 hj]
  repeat' (first|refine sK ?_|refine sC (fun _=>?_) (fun _=>?_)|fail)
  exact retq rfl (by simp [zC,ztR,ha])
theorem zd8 (l:List TD) (p:TD→Bool) (f:FuncId) (first cap:List PV) (hp:∀ x∈l,ACall Tryz.prog f (first++[ZB x]++cap) (pb (p x))):ACall Tryz.prog 222 [.slc 4 (l.map ZB) false,.fn (.func f) first cap] (pb (l.any p)):=by
 refine zi zf Tryz.func222 rfl zws Tryz.ntmps222 zwy63 _ rfl (fun hw gB hgB=>?_);have c1:=zhw l p f first cap hp
 repeat' (first|(refine shC ?_;first|refine qC c1 ?_)|refine sA ?_|refine sC (fun _=>?_) (fun _=>?_)|fail)
 refine ay ?_;have:decide (0≤ztR l p)=l.any p:=by
  unfold ztR;cases h:l.any p <;> simp
 simp [zC,this]
theorem zm5 (t:TD) (n:Int):ACall Tryz.prog 223 [ZB t,.ptr (pi n) 0] (pb (!Qj t n)):=by
 refine zi zf Tryz.func223 rfl zws Tryz.ntmps223 zwy63 _ rfl (fun hw gB hgB=>?_);have c1:=XH t.faces (fun x=>!zd6 n x) 224 [] [.ptr (pi n) 0] (fun x _=>zjB n x);have ha:t.faces.any (fun x=>!zd6 n x)=!t.faces.all (zd6 n):=by rw [List.not_all_eq_any_not]
 rw [ha] at c1
 repeat' (first|(refine shC ?_;first|refine qC c1 ?_|refine qC (zdX _) ?_)|refine sA ?_|refine sC (fun _=>?_) (fun _=>?_)|fail)
 all_goals first|(refine ay ?_;first|(simp only [zC,Qj,BL,List.length_map] at *;simp only [*,BL,List.length_map];done)|(simp_all [zC,Qj];done)|(simp_all [zC,Qj];omega)|(simp_all [zC,Qj];intros;omega))|(refine zbf rfl ?_;first|(simp only [zC,Qj,BL,List.length_map] at *;simp only [*,BL,List.length_map];done)|(simp_all [zC,Qj];done)|(simp_all [zC,Qj];omega)|(simp_all [zC,Qj];intros;omega))|skip
def Vz (g:Img):Bool:=decide ((g.types.length:Int)≤32)&&g.types.all (fun t=>Qj t g.types.length)
theorem zpU (g:Img):ACall Tryz.prog 199 [zO g] (pb (Vz g)):=by
 refine zi zf Tryz.func199 rfl zws Tryz.ntmps199 zwy63 _ rfl (fun hw gB hgB=>?_);have c1:=zd8 g.types (fun t=>!Qj t ((g.types.map ZB).length:Nat)) 223 [] [.ptr (pi ((g.types.map ZB).length:Nat)) 0] (fun x _=>zm5 x _);rw [←List.not_all_eq_any_not] at c1
 repeat' (first|refine QW (t:=3) rfl rfl rfl ?_|(refine shC ?_;first|refine qC c1 ?_)|refine sA ?_|refine sC (fun _=>?_) (fun _=>?_)|fail)
 all_goals first|(refine ay ?_;first|(simp only [zC,Vz,BL,List.length_map] at *;simp only [*,BL,List.length_map];done)|(simp_all [zC,Vz];done)|(simp_all [zC,Vz];omega)|(simp_all [zC,Vz];intros;omega))|(refine zbf rfl ?_;first|(simp only [zC,Vz,BL,List.length_map] at *;simp only [*,BL,List.length_map];done)|(simp_all [zC,Vz];done)|(simp_all [zC,Vz];omega)|(simp_all [zC,Vz];intros;omega))|skip
set_option maxHeartbeats 20000000
def zdD (op:Int):ByteArray × Int × Int :=
 if op==62 then (⟨#[98,111,120]⟩,8,0)
 else if op==63 then (⟨#[117,110,98,111,120]⟩,8,0)
 else if op==64 then (⟨#[117,110,98,111,120,97,110,121]⟩,8,0)
 else if op==65 then (⟨#[99,97,115,116,99,108,97,115,115]⟩,8,0)
 else if op==66 then (⟨#[105,115,105,110,115,116]⟩,8,0)
 else if op==67 then (⟨#[108,100,102,116,110]⟩,6,0)
 else if op==68 then (⟨#[110,101,119,100,101,108]⟩,8,0)
 else if op==69 then (⟨#[116,104,114,111,119]⟩,0,3)
 else if op==70 then (⟨#[114,101,116,104,114,111,119]⟩,0,3)
 else if op==71 then (⟨#[108,101,97,118,101]⟩,5,4)
 else if op==72 then (⟨#[101,110,100,102,105,110,97,108,108,121]⟩,0,5)
 else if op==73 then (⟨#[101,110,100,102,105,108,116,101,114]⟩,0,5)
 else if op==74 then (⟨#[105,110]⟩,0,0)
 else if op==75 then (⟨#[111,117,116]⟩,0,0)
 else (⟨#[]⟩,0,0)
theorem zlt (op:Int):ACall Tryz.prog 198 [pi op] (zbc (zdD op).1 (zdD op).2.1 (zdD op).2.2):=by
 refine zi zf Tryz.func198 rfl zws Tryz.ntmps198 zwy63 _ rfl (fun hw gB hgB=>?_)
 repeat' (first|refine sA ?_|refine sC (fun _=>?_) (fun _=>?_)|fail)
 all_goals (refine ay ?_;simp only [zC,zdD, *];rfl)
def zdj (op:Int):ByteArray × Int × Int :=
 if op==48 then (⟨#[108,100,102,108,100]⟩,7,0)
 else if op==49 then (⟨#[115,116,102,108,100]⟩,7,0)
 else if op==50 then (⟨#[108,100,102,108,100,97]⟩,7,0)
 else if op==51 then (⟨#[108,100,115,102,108,100]⟩,7,0)
 else if op==52 then (⟨#[115,116,115,102,108,100]⟩,7,0)
 else if op==53 then (⟨#[108,100,115,102,108,100,97]⟩,7,0)
 else if op==54 then (⟨#[108,100,111,98,106]⟩,8,0)
 else if op==55 then (⟨#[115,116,111,98,106]⟩,8,0)
 else if op==56 then (⟨#[105,110,105,116,111,98,106]⟩,8,0)
 else if op==57 then (⟨#[110,101,119,97,114,114]⟩,8,0)
 else if op==58 then (⟨#[108,100,108,101,110]⟩,0,0)
 else if op==59 then (⟨#[108,100,101,108,101,109]⟩,8,0)
 else if op==60 then (⟨#[115,116,101,108,101,109]⟩,8,0)
 else if op==61 then (⟨#[108,100,101,108,101,109,97]⟩,8,0)
 else zdD op
theorem zkQ (op:Int):ACall Tryz.prog 183 [pi op] (zbc (zdj op).1 (zdj op).2.1 (zdj op).2.2):=by
 refine zi zf Tryz.func183 rfl zws Tryz.ntmps183 zwy63 _ rfl (fun hw gB hgB=>?_)
 repeat' (first|(refine shC ?_;first|refine qC (zlt op) ?_)|refine sA ?_|refine sC (fun _=>?_) (fun _=>?_)|fail)
 all_goals (refine ay ?_;simp only [zC,zdj, *];rfl)
def zga (op:Int):ByteArray × Int × Int :=
 if op==34 then (⟨#[98,114]⟩,5,1)
 else if op==35 then (⟨#[98,114,116,114,117,101]⟩,5,2)
 else if op==36 then (⟨#[98,114,102,97,108,115,101]⟩,5,2)
 else if op==37 then (⟨#[98,101,113]⟩,5,2)
 else if op==38 then (⟨#[98,103,101]⟩,5,2)
 else if op==39 then (⟨#[98,103,116]⟩,5,2)
 else if op==40 then (⟨#[98,108,101]⟩,5,2)
 else if op==41 then (⟨#[98,108,116]⟩,5,2)
 else if op==42 then (⟨#[98,110,101]⟩,5,2)
 else if op==43 then (⟨#[99,97,108,108]⟩,6,0)
 else if op==44 then (⟨#[99,97,108,108,118,105,114,116]⟩,6,0)
 else if op==45 then (⟨#[110,101,119,111,98,106]⟩,6,0)
 else if op==46 then (⟨#[114,101,116]⟩,0,3)
 else if op==47 then (⟨#[116,97,105,108]⟩,0,0)
 else zdj op
theorem zmM (op:Int):ACall Tryz.prog 159 [pi op] (zbc (zga op).1 (zga op).2.1 (zga op).2.2):=by
 refine zi zf Tryz.func159 rfl zws Tryz.ntmps159 zwy63 _ rfl (fun hw gB hgB=>?_)
 repeat' (first|(refine shC ?_;first|refine qC (zkQ op) ?_)|refine sA ?_|refine sC (fun _=>?_) (fun _=>?_)|fail)
 all_goals (refine ay ?_;simp only [zC,zga, *];rfl)
def zj4 (op:Int):ByteArray × Int × Int :=
 if op==13 then (⟨#[97,100,100]⟩,0,0)
 else if op==14 then (⟨#[115,117,98]⟩,0,0)
 else if op==15 then (⟨#[109,117,108]⟩,0,0)
 else if op==16 then (⟨#[100,105,118]⟩,0,0)
 else if op==17 then (⟨#[114,101,109]⟩,0,0)
 else if op==18 then (⟨#[97,110,100]⟩,0,0)
 else if op==19 then (⟨#[111,114]⟩,0,0)
 else if op==20 then (⟨#[120,111,114]⟩,0,0)
 else if op==21 then (⟨#[115,104,108]⟩,0,0)
 else if op==22 then (⟨#[115,104,114]⟩,0,0)
 else if op==23 then (⟨#[110,101,103]⟩,0,0)
 else if op==24 then (⟨#[110,111,116]⟩,0,0)
 else if op==25 then (⟨#[97,100,100,111,118,102]⟩,0,0)
 else if op==26 then (⟨#[115,117,98,111,118,102]⟩,0,0)
 else if op==27 then (⟨#[109,117,108,111,118,102]⟩,0,0)
 else if op==28 then (⟨#[99,111,110,118,52]⟩,0,0)
 else if op==29 then (⟨#[99,111,110,118,56]⟩,0,0)
 else if op==30 then (⟨#[99,111,110,118,111,118,102,52]⟩,0,0)
 else if op==31 then (⟨#[99,101,113]⟩,0,0)
 else if op==32 then (⟨#[99,103,116]⟩,0,0)
 else if op==33 then (⟨#[99,108,116]⟩,0,0)
 else zga op
theorem zpZ (op:Int):ACall Tryz.prog 133 [pi op] (zbc (zj4 op).1 (zj4 op).2.1 (zj4 op).2.2):=by
 refine zi zf Tryz.func133 rfl zws Tryz.ntmps133 zwy63 _ rfl (fun hw gB hgB=>?_)
 repeat' (first|(refine shC ?_;first|refine qC (zmM op) ?_)|refine sA ?_|refine sC (fun _=>?_) (fun _=>?_)|fail)
 all_goals (refine ay ?_;simp only [zC,zj4, *];rfl)
def ofI (op:Int):ByteArray × Int × Int :=
 if op==1 then (⟨#[110,111,112]⟩,0,0)
 else if op==2 then (⟨#[108,100,97,114,103]⟩,4,0)
 else if op==3 then (⟨#[115,116,97,114,103]⟩,4,0)
 else if op==4 then (⟨#[108,100,97,114,103,97]⟩,4,0)
 else if op==5 then (⟨#[108,100,108,111,99]⟩,3,0)
 else if op==6 then (⟨#[115,116,108,111,99]⟩,3,0)
 else if op==7 then (⟨#[108,100,108,111,99,97]⟩,3,0)
 else if op==8 then (⟨#[108,100,99,52]⟩,1,0)
 else if op==9 then (⟨#[108,100,99,56]⟩,2,0)
 else if op==10 then (⟨#[108,100,110,117,108,108]⟩,0,0)
 else if op==11 then (⟨#[100,117,112]⟩,0,0)
 else if op==12 then (⟨#[112,111,112]⟩,0,0)
 else zj4 op
theorem zmF (op:Int):ACall Tryz.prog 87 [pi op] (zbc (ofI op).1 (ofI op).2.1 (ofI op).2.2):=by
 refine zi zf Tryz.func87 rfl zws Tryz.ntmps87 zwy63 _ rfl (fun hw gB hgB=>?_)
 repeat' (first|(refine shC ?_;first|refine qC (zpZ op) ?_)|refine sA ?_|refine sC (fun _=>?_) (fun _=>?_)|fail)
 all_goals (refine ay ?_;simp only [zC,ofI, *];rfl)
set_option maxHeartbeats 20000000
def zf7 (t:Ty):Bool :=
 if t.kind==1 then t.index==0&&(t.dims==0&&(t.ref==false&&true))
 else if t.kind==2||t.kind==3||t.kind==4 then decide (0≤t.index)&&decide (t.index≤0)&&decide (0≤t.dims)&&decide (t.dims≤3)
 else if t.kind==5||t.kind==6 then decide (0≤t.index)&&decide (t.index≤31)&&decide (0≤t.dims)&&decide (t.dims≤3)
 else if t.kind==7 then decide (0≤t.index)&&decide (t.index≤7)&&decide (0≤t.dims)&&decide (t.dims≤3)
 else false
theorem zkp (t:Ty):zf7 t=ZY t:=by
 rw [Bool.eq_iff_iff,zf7,ZY];by_cases h1:t.kind=1
 ·cases hr:t.ref <;> simp [h1] <;> omega
 ·by_cases h2:t.kind=2
  ·simp [h2];omega
  ·by_cases h3:t.kind=3
   ·simp [h3];omega
   ·by_cases h4:t.kind=4
    ·simp [h4];omega
    ·by_cases h5:t.kind=5
     ·simp [h5];omega
     ·by_cases h6:t.kind=6
      ·simp [h6];omega
      ·by_cases h7:t.kind=7
       ·simp [h7];omega
       ·simp [h1,h2,h3,h4,h5,h6,h7]
theorem zgF (t:Ty):ACall Tryz.prog 190 [yJ t] (pb (zf7 t)):=by
 refine zi zf Tryz.func190 rfl zws Tryz.ntmps190 zwy63 _ rfl (fun hw gB hgB=>?_)
 repeat' (first|refine sA ?_|refine sC (fun _=>?_) (fun _=>?_)|fail)
 all_goals first|(refine ay ?_;first|(simp only [zC,zf7, *];done)|(simp only [zC,zf7, *];rfl)|(simp_all [zC,zf7];done))|(trace "LEFT";trace_state)
theorem za6 (t:Ty):ACall Tryz.prog 161 [yJ t] (pb (ZY t)):=by
 refine zi zf Tryz.func161 rfl zws Tryz.ntmps161 zwy63 _ rfl (fun hw gB hgB=>?_);have c1:=zgF t;rw [zkp] at c1
 repeat' (first|(refine shC ?_;first|refine qC c1 ?_)|refine sA ?_|refine sC (fun _=>?_) (fun _=>?_)|fail)
 exact retq rfl rfl
theorem zml (t:Ty):ACall Tryz.prog 256 [yJ t] (pb (Yc t 2)):=by
 refine zi zf Tryz.func256 rfl zws Tryz.ntmps256 zwy63 _ rfl (fun hw gB hgB=>?_);have c1:=zgF t;rw [zkp] at c1
 repeat' (first|(refine shC ?_;first|refine qC c1 ?_)|refine sA ?_|refine sC (fun _=>?_) (fun _=>?_)|fail)
 all_goals (refine ay ?_;simp_all [zC,Yc];done)
theorem zg6 (t:Ty):ACall Tryz.prog 250 [yJ t] (pb (Yc t 1)):=by
 refine zi zf Tryz.func250 rfl zws Tryz.ntmps250 zwy63 _ rfl (fun hw gB hgB=>?_);have c1:=zml t;have e:(Yc t 2&&!t.ref)=Yc t 1:=by
  simp only [Yc];cases ZY t <;> simp
 repeat' (first|(refine shC ?_;first|refine qC c1 ?_)|refine sA ?_|refine sC (fun _=>?_) (fun _=>?_)|fail)
 all_goals (refine ay ?_;rw [←e];simp_all [zC];done)
theorem zbs (t:Ty) (n:Int):ACall Tryz.prog 238 [yJ t,pi n] (pb (zjT t n)):=by
 refine zi zf Tryz.func238 rfl zws Tryz.ntmps238 zwy63 _ rfl (fun hw gB hgB=>?_)
 repeat' (first|refine sA ?_|refine sC (fun _=>?_) (fun _=>?_)|fail)
 all_goals (first|refine ay ?_|refine zbf rfl ?_)
 all_goals (first|(simp_all [zC,zjT];done)|(simp_all [zC,zjT];omega))
theorem zmY (t:Ty) (n:Int):ACall Tryz.prog 240 [yJ t,pi n] (pb (Vg t 2 n)):=by
 refine zi zf Tryz.func240 rfl zws Tryz.ntmps240 zwy63 _ rfl (fun hw gB hgB=>?_)
 repeat' (first|(refine shC ?_;first|refine qC (za6 t) ?_|refine qC (zbs t n) ?_)|refine sA ?_|refine sC (fun _=>?_) (fun _=>?_)|fail)
 all_goals (refine ay ?_;simp_all [zC,Vg,Yc];done)
theorem zls (t:Ty) (n:Int):ACall Tryz.prog 241 [yJ t,pi n] (pb (Vg t 3 n)):=by
 refine zi zf Tryz.func241 rfl zws Tryz.ntmps241 zwy63 _ rfl (fun hw gB hgB=>?_)
 repeat' (first|(refine shC ?_;first|refine qC (za6 t) ?_|refine qC (zbs t n) ?_)|refine sA ?_|refine sC (fun _=>?_) (fun _=>?_)|fail)
 all_goals (refine ay ?_;simp_all [zC,Vg,Yc];done)
set_option maxHeartbeats 20000000
theorem zlI (op:Int) (h1:1≤op) (h2:op≤75):(ofI op).1.size≠0∧(ofI op).2.1=yL op:=by
 have h:∀ n:Fin 76,1≤n.val→(ofI (n.val:Int)).1.size≠0∧(ofI (n.val:Int)).2.1=yL (n.val:Int):=by decide +kernel
 have:=h ⟨op.toNat,by omega⟩ zwy64;simpa [Int.toNat_of_nonneg (show 0≤op by omega)] using this
theorem zvN (op:Int) (h:op < 1∨75 < op):ofI op=(⟨#[]⟩,0,0):=by
 have e:∀ k:Int,1≤k→k≤75→(op==k)=false:=fun k h1 h2=>by rw [beq_eq_false_iff_ne];omega
 simp [ofI,zj4,zga,zdj,zdD,e]
theorem zr8 (s:ByteArray):(s.toList==(⟨#[]⟩:ByteArray).toList)=decide (s.size=0):=by
 rw [ByteArray.toList_eq,ByteArray.toList_eq];have hs:s.size=s.data.toList.length:=by simp
 rw [hs];cases s.data.toList <;> simp
theorem zc3 (op:Int) (h1:1≤op) (h2:op≤75):ACall Tryz.prog 45 [pi op] (.tup [zbc (ofI op).1 (ofI op).2.1 (ofI op).2.2,pi 0]):=by
 refine zi zf Tryz.func45 rfl zws Tryz.ntmps45 zwy63 _ rfl (fun hw gB hgB=>?_);have c1:=zmF op;have hn:=(zlI op h1 h2).1;generalize ofI op=x at c1 hn;have he:(x.1.toList==(⟨#[]⟩:ByteArray).toList)=false:=by rw [zr8];simp [hn]
 repeat' (first|(refine shC ?_;first|refine qC c1 ?_)|refine sK ?_|refine sC (fun _=>?_) (fun _=>?_)|fail)
 all_goals exact retq rfl rfl
theorem zcI (op:Int) (h:op < 1∨75 < op):ACall Tryz.prog 45 [pi op] (.tup [zbc ⟨#[]⟩ 0 0,pi 3]):=by
 refine zi zf Tryz.func45 rfl zws Tryz.ntmps45 zwy63 _ rfl (fun hw gB hgB=>?_);have c1:=zmF op;rw [zvN op h] at c1;have he:((⟨#[]⟩:ByteArray).toList==(⟨#[]⟩:ByteArray).toList)=true:=by simp
 repeat' (first|(refine shC ?_;first|refine qC c1 ?_)|refine sK ?_|refine sC (fun _=>?_) (fun _=>?_)|fail)
 all_goals exact retq rfl rfl
theorem znB (x b:Int):ACall Tryz.prog 273 [.base (.int .i64 x),.base (.int .i64 b)] (pb (decide (0≤x)&&decide (x < b))):=by
 refine zi zf Tryz.func273 rfl zws Tryz.ntmps273 zwy63 _ rfl (fun hw gB hgB=>?_)
 repeat' (first|refine sA ?_|refine sC (fun _=>?_) (fun _=>?_)|fail)
 all_goals (refine ay ?_;first|(simp_all [zC];done)|(simp_all [zC];omega))
def zhS (x:Ins) (k:Int):Bool :=
 if k==0 then zeZ x.t&&x.arg==0
 else if k==1 then zeZ x.t&&decide (-2147483648≤x.arg)&&decide (x.arg < 2147483648)
 else if k==2 then zeZ x.t
 else if k==3 then zeZ x.t&&(decide (0≤x.arg)&&decide (x.arg < 12))
 else if k==4 then zeZ x.t&&(decide (0≤x.arg)&&decide (x.arg < 7))
 else if k==5 then zeZ x.t&&(decide (0≤x.arg)&&decide (x.arg < 160))
 else if k==6 then zeZ x.t&&(decide (0≤x.arg)&&decide (x.arg < 64))
 else if k==7 then zeZ x.t&&(decide (0≤x.arg)&&decide (x.arg < 64))
 else x.arg==0&&ZY x.t&&x.t.kind != 1&&!x.t.ref
theorem zpc (x:Ins) (k:Int):ACall Tryz.prog 260 [qx x,pi k] (pb (zhS x k)):=by
 refine zi zf Tryz.func260 rfl zws Tryz.ntmps260 zwy63 _ rfl (fun hw gB hgB=>?_)
 repeat' (first|(refine shC ?_;first|refine qC (znB _ _) ?_|refine qC (za6 _) ?_)|refine sA ?_|refine sC (fun _=>?_) (fun _=>?_)|fail)
 all_goals first|(refine ay ?_;first|(simp only [zC,zhS,zeZ, *];done)|(simp only [zC,zhS,zeZ, *];rfl)|(simp_all [zC,zhS,zeZ];done))|(trace "LEFT";trace_state)
set_option maxHeartbeats 20000000
def zh2 (x:Ins):Int:=if x.op < 1∨75 < x.op then 3 else if zhS x (yL x.op) then 0 else 17
theorem zo3 (x:Ins):ACall Tryz.prog 253 [qx x] (pi (zh2 x)):=by
 refine zi zf Tryz.func253 rfl zws Tryz.ntmps253 zwy63 _ rfl (fun hw gB hgB=>?_);by_cases hop:x.op < 1∨75 < x.op
 ·have c1:=zcI x.op hop
  repeat' (first|(refine shC ?_;first|refine qC c1 ?_)|refine sK ?_|refine sC (fun _=>?_) (fun _=>?_)|fail)
  all_goals exact retq rfl (by simp [zC,zh2,hop])
 ·have c1:=zc3 x.op zwy62 zwy62;rw [(zlI x.op zwy62 zwy62).2] at c1
  repeat' (first|(refine shC ?_;first|refine qC c1 ?_|refine qC (zpc _ _) ?_)|refine sA ?_|refine sC (fun _=>?_) (fun _=>?_)|fail)
  all_goals (refine ay ?_;simp_all [zC,zh2];done)
theorem zhk (op:Int) (h1:1≤op) (h2:op≤75):0≤yL op∧yL op≤8:=by
 have h:∀ n:Fin 76,1≤n.val→0≤yL (n.val:Int)∧yL (n.val:Int)≤8:=by decide +kernel
 have:=h ⟨op.toNat,by omega⟩ zwy64;simpa [Int.toNat_of_nonneg (show 0≤op by omega)] using this
def zfD (x:Ins):Prop := -9223372036854775808≤x.arg∧x.arg≤9223372036854775807
theorem zn2 (t:Ty):zeZ t=decide (t=ty0):=Vo t ty0
theorem zrU (x:Ins) (hx:zfD x):zh2 x=WQ x:=by
 unfold zh2 WQ;obtain ⟨hx1,hx2⟩:=hx;by_cases hop:x.op < 1∨75 < x.op
 ·rw [if_pos hop,if_pos hop]
 ·rw [if_neg hop,if_neg hop];obtain ⟨r1,r2⟩:=zhk x.op zwy62 zwy62;generalize yL x.op=k at r1 r2;have hk:k=0∨k=1∨k=2∨k=3∨k=4∨k=5∨k=6∨k=7∨k=8:=by omega
  by_cases ht:x.t=ty0
  ·rcases hk with rfl|rfl|rfl|rfl|rfl|rfl|rfl|rfl|rfl <;> simp only [zhS,zc0,zn2,ht] <;> simp [ty0,ZY,Yc] <;> (first|omega|(split <;> split <;> first|rfl|omega))
  ·rcases hk with rfl|rfl|rfl|rfl|rfl|rfl|rfl|rfl|rfl <;> simp only [zhS,zc0,zn2,ht] <;> simp [ht,Yc] <;> (first|omega|(by_cases ha:x.arg=0 <;> cases hp:ZY x.t <;> by_cases hk1:x.t.kind=1 <;> cases hr:x.t.ref <;> simp_all <;> omega))
theorem zoQ (x:Ins) (g:Img) (m:Me) (hx:zfD x):ACall Tryz.prog 244 [qx x,zO g,pi m.code.length] (pb (codeOk g m x)):=by
 refine zi zf Tryz.func244 rfl zws Tryz.ntmps244 zwy63 _ rfl (fun hw gB hgB=>?_);have c0:=zo3 x;rw [zrU x hx] at c0;by_cases hf:WQ x=0
 ·have hop:¬ (x.op < 1∨75 < x.op):=by
   intro h;rw [WQ,if_pos h] at hf;simp at hf
  have c1:=zc3 x.op zwy62 zwy62;rw [(zlI x.op zwy62 zwy62).2] at c1;rw [hf] at c0;have hown:yL x.op≠8→x.t=ty0:=by
   intro h8;rw [WQ,if_neg hop] at hf;split at hf
   ·simp at hf
   ·split at hf
    ·simp at hf
    ·rename_i h;exact Classical.byContradiction fun h9=>h ⟨h8,h9⟩
  repeat' (first|(refine shC ?_;first|refine qC c0 ?_|refine qC c1 ?_|refine qC (zbs _ _) ?_)|refine sA ?_|refine sC (fun _=>?_) (fun _=>?_)|fail)
  all_goals (refine ay ?_)
  all_goals simp only [zC,List.length_map,codeOk,hf, *]
  ·rfl
  ·rfl
  ·rfl
  ·by_cases h8:yL x.op=8
   ·simp [h8]
   ·simp [h8,hown h8,zjT,ty0]
 ·have hfb:(WQ x != 0)=true:=by simp [hf]
  repeat' (first|(refine shC ?_;first|refine qC c0 ?_)|refine sK ?_|refine sC (fun _=>?_) (fun _=>?_)|fail)
  all_goals exact retq rfl (by simp [zC,codeOk,hf])
end Go.Cg
