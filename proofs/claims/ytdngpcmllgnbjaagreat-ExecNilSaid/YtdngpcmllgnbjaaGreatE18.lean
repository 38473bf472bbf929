/- A part of the walks by abstract values: no statement of its own. -/
import Derived.Test.YtdngpcmllgnbjaaGreatE16
import Derived.Test.YtdngpcmllgnbjaaGreatE17
import Derived.Test.YtdngpcmllgnbjaaGreatE6
import Derived.Test.YtdngpcmllgnbjaaGreatE9
import Derived.Test.YtdngpcmllgnbjaaGreatE8
set_option linter.unusedVariables false
set_option linter.unusedSimpArgs false
namespace Go.Cg
open Go.Proofs
def fieldsOf (g:Img) (t:Int):List Int:=(nums g.fields.length).filter fun i=>there g t&&(g.fields.getD i.toNat default).owner==t
def methodsOf (g:Img) (t:Int):List Int:=(nums g.methods.length).filter fun i=>there g t&&(g.methods.getD i.toNat default).owner==t
theorem zl9 {n k:Nat} (h:k < (nums n).length):(nums n)[k]=(k:Int):=by simp [nums]
def zcn (a b:Me):Bool:=decide (a.ret=b.ret)&&(a.flags.tmod 2==b.flags.tmod 2)&&decide (a.params=b.params)
def zfx (g:Img) (i:Int):Bool :=
 let f:=g.fields.getD i.toNat default
 !f.static&&f.ty.kind==6&&f.ty.dims==0&&zF g f.ty.index==1
def partsOf (g:Img) (t:Int):List Int:=((fieldsOf g t).filter (zfx g)).map fun i=>(g.fields.getD i.toNat default).ty.index
theorem Yy {g:Img} {t i:Int} (h:i∈fieldsOf g t):0≤i∧i.toNat < g.fields.length:=by
 simp only [fieldsOf,nums,List.mem_filter,List.mem_map,List.mem_range] at h
 obtain ⟨⟨k,hk,rfl⟩,_⟩:=h
 exact ⟨by omega,by simpa using hk⟩
theorem qm {g:Img} {t i:Int} (h:i∈methodsOf g t):0≤i∧i.toNat < g.methods.length:=by
 simp only [methodsOf,nums,List.mem_filter,List.mem_map,List.mem_range] at h
 obtain ⟨⟨k,hk,rfl⟩,_⟩:=h
 exact ⟨by omega,by simpa using hk⟩
theorem zbz {n:Nat} {p:Int→Bool}:((nums n).filter p).length≤n:=Nat.le_trans (List.length_filter_le _ _) (by simp [nums])
theorem WO (g:Img) (t:Int):(fieldsOf g t).length≤g.fields.length:=zbz
theorem Qo (g:Img) (t:Int):(methodsOf g t).length≤g.methods.length:=zbz
theorem Yj {α:Type} {f:α→PV} {l:List α} {i:Int} (h:i.toNat < l.length):(l.map f)[i.toNat]?=some (f l[i.toNat]):=by simp [h]
def ZN (td:TD):Bool :=
 if Wu td.flags==2 then td.ext == -1&&yP td.flags 4&&!yP td.flags 1&&!yP td.flags 8&&!yP td.flags 16
 else if Wu td.flags==1 then td.ext == -1&&yP td.flags 8&&!yP td.flags 4&&!yP td.flags 16
 else if Wu td.flags==3 then td.ext == -1&&yP td.flags 8&&!yP td.flags 4&&((td.faces.length:Int)==0)
 else true
theorem zfK {g:Img}:∀ (n:Nat) (t:Int) (out:List Int),∃ r,zaL g n t out=out++r
 | 0,t,out=>⟨[],by simp [zaL]⟩
 | n + 1,t,out=>by
  rw [zaL]
  cases ht:typeAt g t with
  | none=>exact ⟨[],by simp⟩
  | some td =>
   by_cases hm:t∈out
   ·exact ⟨[],by simp [hm]⟩
   ·obtain ⟨r,hr⟩:=zfK n td.ext (out++[t])
    exact ⟨t::r,by simp only [hm,if_false];rw [hr];simp⟩
theorem zgE {g:Img} {t:Int} {td:TD} (h:typeAt g t=some td):∃ r,up g t=t::r:=by
 obtain ⟨r,hr⟩:=zfK (g:=g) g.types.length td.ext [t]
 exact ⟨r,by rw [up,zaL,h];simpa using hr⟩
def zai (g:Img) (t:Int):Int:=match typeAt g ((up g t).getLastD 0) with|some td=>td.ext|none => -1
def zbd (g:Img) (t:Int):Int:=match typeAt g t with|some td=>td.flags|none=>0
def zmR (g:Img) (t:Int) (td:TD):Bool:=!decide (0≤td.ext)||(zF g td.ext==0&&!yP (zbd g td.ext) 8&&decide (zai g t < 0))
def zdO (g:Img) (l:List Int) (i:Nat):Bool:=zF g (l.getD i 0)==2&&!decide (l.getD i 0∈l.take i)
def Vt (g:Img) (t:Int) (td:TD):Bool :=
 zmR g t td&&(List.range td.faces.length).all (zdO g td.faces)&&(zF g t != 2||!decide (t∈zbf g t))
def zcs (g:Img) (t:Int) (td:TD) (i:Nat):Bool:=!((i:Int) != t&&(g.types.getD i default).name.toList==td.name.toList)
def fName (g:Img) (i:Int):ByteArray:=(g.fields.getD i.toNat default).name
def zpQ (g:Img) (l:List Int) (i k:Nat):Bool:=!((fName g (l.getD i 0)).toList==(fName g (l.getD k 0)).toList)
def zgO (g:Img) (l:List Int) (i k:Nat):Bool :=
 !((g.methods.getD (l.getD i 0).toNat default).name.toList==(g.methods.getD (l.getD k 0).toNat default).name.toList&&zcn (g.methods.getD (l.getD i 0).toNat default) (g.methods.getD (l.getD k 0).toNat default))
def zjU (g:Img) (t:Int) (td:TD):Bool :=
 (List.range g.types.length).all (zcs g t td)
 && (List.range (fieldsOf g t).length).all (fun i=>(List.range i).all (zpQ g (fieldsOf g t) i))
 && (List.range (methodsOf g t).length).all (fun i=>(List.range i).all (zgO g (methodsOf g t) i))
def zjH (g:Img) (k:Int) (i:Int):Bool:=!(k==3||(k==2&&!(g.fields.getD i.toNat default).static))
def Yd (met:List Int) (x:Int):List Int:=if x∈met then met else met++[x]
def zlF (g:Img) (met:List Int) (u:Int):List Int:=(partsOf g u).foldl Yd met
def zdh (g:Img):Nat→Nat→List Int→List Int
 | 0,_,met=>met
 | n + 1,i,met=>match met[i]? with|some u=>zdh g n (i + 1) (zlF g met u)|none=>met
def zth (g:Img) (t:Int):List Int:=zdh g (g.fields.length + g.types.length + 1) 0 (partsOf g t)
def zdj (g:Img) (t:Int):Bool:=(fieldsOf g t).all (zjH g (zF g t))&&(zF g t != 1||!decide (t∈zth g t))
def PInv (g:Img) (t:Int) (met:List Int):Prop:=∃ a,met=partsOf g t++a∧a.Nodup∧∀ y∈a,0≤y∧y < g.types.length
theorem zfW (g:Img) (t:Int):(partsOf g t).length≤g.fields.length:=by
 rw [partsOf,List.length_map]
 exact Nat.le_trans (List.length_filter_le _ _) (WO g t)
theorem PInv.len {g:Img} {t:Int} {met:List Int} (h:PInv g t met):met.length≤g.fields.length + g.types.length:=by
 obtain ⟨a,rfl,h1,h2⟩:=h
 have:=ZF _ _ h1 h2
 have:=zfW g t
 simp;omega
theorem Qe {g:Img} {t x:Int} (h:x∈partsOf g t):0≤x∧x < g.types.length:=by
 simp only [partsOf,List.mem_map,List.mem_filter,zfx,Bool.and_eq_true,beq_iff_eq] at h
 obtain ⟨i,⟨_,_,hk⟩,rfl⟩:=h
 rw [zF] at hk
 cases ht:typeAt g (g.fields.getD i.toNat default).ty.index with
 | none=>rw [ht] at hk;simp at hk
 | some td=>exact QF ht
theorem PInv.add {g:Img} {t:Int} {met:List Int} {x:Int} (h:PInv g t met) (hx:0≤x∧x < g.types.length):PInv g t (Yd met x):=by
 unfold Yd
 split
 ·exact h
 ·rename_i hn
  obtain ⟨a,rfl,h1,h2⟩:=h
  refine ⟨a++[x],by simp,?_,?_⟩
  ·rw [List.nodup_append];simp [h1];intro b hb e;subst e;exact hn (by simp [hb])
  ·intro y hy
   simp only [List.mem_append,List.mem_singleton] at hy
   rcases hy with hy|rfl
   ·exact h2 y hy
   ·exact hx
def Ze (g:Img) (t:Nat):Int :=
 let td:=g.types.getD t default
 if !ZN td||!Vt g t td then 7 else if !zjU g t td then 18 else if !zdj g t then 20 else 0
def Wq (g:Img):Int × Int :=
 if !zV g then (0,17) else match (List.range g.types.length).find? (fun t=>Ze g t != 0) with
  | some t=>(((t:Nat):Int),Ze g t)
  | none=>(0,0)
def Yo (g:Img):Bool:=(Wq g).2==0
theorem zI {g:Img} (h:zV g=true):g.types.length≤32∧g.fields.length≤64∧g.methods.length≤64∧∀ td∈g.types,Yw td g.types.length=true:=by
 simp only [zV,Bool.and_eq_true,decide_eq_true_eq,List.all_eq_true] at h
 obtain ⟨⟨⟨⟨⟨⟨⟨h1,h2⟩,h3⟩,_⟩,_⟩,h4⟩,_⟩,_⟩:=h
 exact ⟨by omega,by omega,by omega,h4⟩
theorem Qj {td:TD} {n:Int} (h:Yw td n=true):0≤td.flags∧td.flags≤31 ∧ -1≤td.ext∧td.ext < n∧td.faces.length≤4∧∀ f∈td.faces,0≤f∧f < n:=by
 simp only [Yw,Bool.and_eq_true,decide_eq_true_eq,List.all_eq_true,zc6] at h
 obtain ⟨⟨⟨⟨⟨⟨_,h1⟩,h2⟩,h3⟩,h4⟩,h5⟩,h6⟩:=h
 exact ⟨h1,h2,h3,h4,by omega,h6⟩
theorem zma {g:Img} {k:Nat} (hf:zV g=true) (hk:k < g.types.length) (hno:∀ j,j < k→Ze g j=0) (h:Ze g k≠0):Wq g=(((k:Nat):Int),Ze g k):=by
 have:(List.range g.types.length).find? (fun t=>Ze g t != 0)=some k:=by
  rw [List.find?_range_eq_some]
  exact ⟨by simpa using h,by simpa using hk,fun j hj=>by simp [hno j hj]⟩
 simp [Wq,hf,this]
theorem zsk {g:Img} (hf:zV g=true) (hno:∀ j,j < g.types.length→Ze g j=0):Wq g=(0,0):=by
 have:(List.range g.types.length).find? (fun t=>Ze g t != 0)=none:=by
  rw [List.find?_eq_none]
  intro j hj
  simp [hno j (List.mem_range.1 hj)]
 simp [Wq,hf,this]
theorem zdq {g:Img} {k:Nat} (hlt:k < g.types.length):Ze g k=if !ZN g.types[k]||!Vt g k g.types[k] then 7 else if !zjU g k g.types[k] then 18 else if !zdj g k then 20 else 0:=by
 rw [Ze,zM hlt]
theorem zdl {g:Img} {k:Nat} (hlt:k < g.types.length):typeAt g (k:Int)=some g.types[k]:=by
 rw [typeAt,if_pos (by omega)];simp [List.getElem?_eq_getElem hlt]
set_option maxHeartbeats 20000000
def Vo (k:Int) (st:Bool) (o:Int):Ty × Bool:=if k < 0||st then (ty0,false) else if k==1 then (⟨6,o,0,true⟩,true) else (⟨5,o,0,false⟩,true)
theorem zpX (g:Img) (m:Me):ACall Tryz.prog 151 [zx g,zG m] (.tup [yK (Vo (YH g m.owner) (qy m.flags 1) m.owner).1,pb (Vo (YH g m.owner) (qy m.flags 1) m.owner).2]):=by
 refine zf zh Tryz.func151 rfl (by kernel_rfl) Tryz.ntmps151 (by simp) _ rfl (fun hw gB hgB=>?_)
 repeat' (first|(refine shC ?_;first|refine qC (za2 _ _) ?_)|refine sA ?_|refine sC (fun _=>?_) (fun _=>?_)|fail)
 ·rename_i h1
  have hs:Vo (YH g m.owner) (qy m.flags 1) m.owner=(ty0,false):=by simp_all [Vo]
  rw [hs];exact retq rfl rfl
 ·rename_i h1 h2
  have h3:(qy m.flags 1)=true:=h2
  have hs:Vo (YH g m.owner) (qy m.flags 1) m.owner=(ty0,false):=by simp [Vo,h3]
  rw [hs];exact retq rfl rfl
 ·rename_i h1 h2 h4
  have h3:(qy m.flags 1)=false:=h2
  have hs:Vo (YH g m.owner) (qy m.flags 1) m.owner=(⟨6,m.owner,0,true⟩,true):=by rw [Vo,h3];simp_all
  rw [hs];exact retq rfl rfl
 ·rename_i h1 h2 h4
  have h3:(qy m.flags 1)=false:=h2
  have hs:Vo (YH g m.owner) (qy m.flags 1) m.owner=(⟨5,m.owner,0,false⟩,true):=by rw [Vo,h3];simp_all
  rw [hs];exact retq rfl rfl
def zpc (x:Ty × Bool) (l:List Ty):List Ty:=(if x.2 then [x.1] else [])++l
theorem zco (g:Img) (m:Me) (hp:m.params.length≤1000):ACall Tryz.prog 78 [zx g,zG m] (tys (zpc (Vo (YH g m.owner) (qy m.flags 1) m.owner) m.params)):=by
 refine zf zh Tryz.func78 rfl (by kernel_rfl) Tryz.ntmps78 (by simp) _ rfl (fun hw gB hgB=>?_)
 have c1:=zpX g m
 generalize Vo (YH g m.owner) (qy m.flags 1) m.owner=x at c1 ⊢
 obtain ⟨t,b⟩:=x
 cases b
 ·repeat' (first|refine ZC (t:=5) 0 44 4 (by decide) rfl rfl ?_|(refine shC ?_;first|refine qC c1 ?_)|(refine zL ?_;first|refine zX zh rfl rfl rfl rfl rfl rfl rfl (by show _ * 32≤_;simp;omega) (by simp;omega) rfl rfl ?_)|refine sA ?_|refine sC (fun _=>?_) (fun _=>?_)|fail)
  exact retq rfl rfl
 ·repeat' (first|refine ZC (t:=5) 0 44 4 (by decide) rfl rfl ?_|(refine shC ?_;first|refine qC c1 ?_)|(refine zL ?_;first|refine zX zh rfl rfl rfl rfl rfl rfl rfl (by show _ * 32≤_;simp;try omega) (by simp;try omega) rfl rfl ?_)|refine sA ?_|refine sC (fun _=>?_) (fun _=>?_)|fail)
  exact retq rfl rfl
theorem zrm {n:Int}:qy n 1=(n.tmod 2 != 0):=by
 have h1:(BitVec.ofInt 64 n &&& BitVec.ofInt 64 1).toNat=(n % 2).toNat:=by
  rw [BitVec.toNat_and]
  have:(BitVec.ofInt 64 1).toNat=1:=by decide
  rw [this,Nat.and_one_is_mod,BitVec.toNat_ofInt]
  omega
 have h2:n.tmod 2=0↔n % 2=0:=by
  constructor
  ·intro h;have:=Int.dvd_of_tmod_eq_zero h;omega
  ·intro h;exact Int.tmod_eq_zero_of_dvd (by omega)
 have h3:qy n 1=(IntKind.i64.wrap (((n % 2).toNat:Nat):Int) != 0):=by
  unfold qy
  have:(BitVec.ofInt IntKind.i64.bits n &&& BitVec.ofInt IntKind.i64.bits 1).toNat=(n % 2).toNat:=h1
  rw [this]
 rw [h3,wrap_in (by omega) (by omega)]
 by_cases h:n % 2=0
 ·simp [h,h2.2 h]
 ·have:¬ n.tmod 2=0:=fun e=>h (h2.1 e)
  have h5:((n % 2).toNat:Int)≠0:=by omega
  rw [show ((((n % 2).toNat:Nat):Int) != 0)=true from bne_iff_ne.2 h5,show (n.tmod 2 != 0)=true from bne_iff_ne.2 this]
theorem zp7:∀ n:Fin 32,zgh (n.val:Int)=Wu (n.val:Int):=by decide +kernel
theorem zhs {f:Int} (h0:0≤f) (h1:f≤31):zgh f=Wu f:=by
 have:=zp7 ⟨f.toNat,by omega⟩
 simpa [Int.toNat_of_nonneg h0] using this
theorem ZP {g:Img} (h:Yo g=true):zV g=true:=by
 cases hf:zV g with
 | true=>rfl
 | false=>simp [Yo,Wq,hf] at h
theorem zcb {g:Img} (h:zV g=true) (t:Int):YH g t=zF g t:=by
 unfold YH zF
 cases ht:typeAt g t with
 | none=>rfl
 | some td =>
  have hm:td∈g.types:=by
   unfold typeAt at ht
   split at ht
   ·exact List.mem_of_getElem? ht
   ·cases ht
  obtain ⟨h1,h2,_⟩:=Qj ((zI h).2.2.2 td hm)
  exact zhs h1 h2
set_option maxHeartbeats 20000000
theorem ZT (g:Img) (t:Int) (hg:g.types.length≤1000):ACall Tryz.prog 269 [zx g,pi t] (ints (up g t)):=by
 refine zf zh Tryz.func269 rfl (by kernel_rfl) Tryz.ntmps269 (by simp) _ rfl (fun hw gB hgB=>?_)
 repeat' (first|refine sA ?_|refine sC (fun _=>?_) (fun _=>?_)|fail)
 refine ZC (t:=5) 0 3 1 (by decide) rfl rfl ?_
 refine zB (fun x:Int × List Int=>[(1,.pv (pi x.1)),(2,.pv (.ptr (zx g) 0)),(5,.own 0)]) (fun x=>[(0,.row 3 1 (x.2.map pi))]) (UpInv g t) (fun x=>g.types.length + 1 - x.2.length) (t,[]) ⟨rfl,by simp,by simp⟩ (tS) ⟨zi rfl zk,rfl⟩ ?_
 rintro ⟨t',out⟩ hi
 have hlen:=hi.len
 simp only at hlen
 cases ht:typeAt g t' with
 | none =>
  have hth:there g t'=false:=by
   cases hh:there g t' with
   | false=>rfl
   | true=>obtain ⟨td,h⟩:=(QB g t').1 hh;rw [ht] at h;cases h
  have c1:ACall Tryz.prog 247 [zx g,pi t'] (pb false):=by rw [←hth];exact Yq g t'
  repeat' (first|(refine shC ?_;first|refine qC c1 ?_)|refine sK ?_|refine sC (fun _=>?_) (fun _=>?_)|fail)
  exact retq rfl (by rw [←hi.stop (.inl ht)];rfl)
 | some td =>
  have hth:there g t'=true:=(QB g t').2 ⟨td,ht⟩
  have c1:ACall Tryz.prog 247 [zx g,pi t'] (pb true):=by rw [←hth];exact Yq g t'
  obtain ⟨h0,he⟩:=Yu ht
  by_cases hm:t'∈out
  ·have c2:ACall Tryz.prog 268 [ints out,pi t'] (pb true):=by have:=YC out t';rwa [decide_eq_true hm] at this
   repeat' (first|(refine shC ?_;first|refine qC c1 ?_|refine qC c2 ?_)|refine sK ?_|refine sC (fun _=>?_) (fun _=>?_)|fail)
   exact retq rfl (by rw [←hi.stop (.inr hm)];rfl)
  ·have c2:ACall Tryz.prog 268 [ints out,pi t'] (pb false):=by have:=YC out t';rwa [decide_eq_false hm] at this
   have hnx:=hi.next ht hm
   repeat' (first|(refine shC ?_;first|refine qC c1 ?_|refine qC c2 ?_)|(refine shX ?_;first|refine zo rfl (zl zh rfl rfl rfl rfl rfl rfl h0 he) rfl rfl ?_|refine AD.step _ _ _ _ _ rfl (zl zh rfl rfl rfl rfl rfl rfl h0 he) rfl rfl ?_)|(refine zL ?_;first|refine zX zh rfl rfl rfl rfl rfl rfl rfl (by show _ * 8≤_;simp;omega) (by simp;omega) rfl rfl ?_)|refine sK ?_|refine sC (fun _=>?_) (fun _=>?_)|fail)
   refine ⟨(td.ext,out++[t']),hnx,by simp;omega,tS,⟨qw rfl (by simp) zk,rfl⟩⟩
theorem zf7 (l:List Int) (hb:l.length≤100000):ACall Tryz.prog 137 [ints l] (ints l):=by
 refine zf zh Tryz.func137 rfl (by kernel_rfl) Tryz.ntmps137 (by simp) _ rfl (fun hw gB hgB=>?_)
 repeat' (first|refine Qk zh rfl rfl rfl rfl rfl rfl rfl (fun bb hbb=>?_)|refine zo rfl (Qh zh rfl rfl rfl rfl rfl) rfl rfl ?_|(refine zL ?_;first|refine zo rfl (ZR zh rfl rfl (.inl rfl) rfl rfl (by show _ * 8≤_;simp;omega) (by simp;omega)) rfl rfl ?_)|refine sA ?_|refine sC (fun _=>?_) (fun _=>?_)|fail)
 ·rename_i h
  have:l=[]:=by have:=hbb h;simpa using this
  subst this
  exact Yl (t:=2) (ps:=[ints []]) rfl (qH 1 false) rfl rfl
 ·exact retq rfl rfl
def zcI (l:List Int) (p:Int→Bool):Int:=if l.any p then ((l.findIdx p:Nat):Int) else -1
theorem VD (l:List Int) (p:Int→Bool) (f:FuncId) (first cap:List PV) (hp:∀ x∈l,ACall Tryz.prog f (first++[pi x]++cap) (pb (p x))):ACall Tryz.prog 343 [ints l,.fn (.func f) first cap] (pi (zcI l p)):=by
 refine zf zh Tryz.func343 rfl (by kernel_rfl) Tryz.ntmps343 (by simp) _ rfl (fun hw gB hgB=>?_)
 have hl:=zhv hw.1
 repeat' (first|refine sA ?_|refine sC (fun _=>?_) (fun _=>?_)|fail)
 refine zB (fun k:Nat=>[(0,.pv (ints l)),(1,.pv (.fn (.func f) first cap)),(7,.pv (pi l.length)),(8,.pv (pi k))]) (fun _=>[]) (fun k=>k≤l.length∧∀ j (h:j < k) (h2:j < l.length),p l[j]=false) (fun k=>l.length - k) 0 ⟨by omega,fun j h=>by omega⟩ (tS) tH ?_
 rintro k ⟨hk,hno⟩
 by_cases hlt:k < l.length
 ·have he:=YN hlt
  have c1:=hp _ (List.getElem_mem hlt)
  cases hpx:p l[k]
  ·rw [hpx] at c1
   repeat' (first|(refine shC ?_;first|refine qV (c1) ?_)|(refine shX ?_;first|refine qX he ?_)|refine sK ?_|refine sC (fun _=>?_) (fun _=>?_)|fail)
   exact ⟨k + 1,⟨hlt,fun j hj h2=>by
    by_cases e:j=k
    ·subst e;exact hpx
    ·exact hno j (by omega) h2⟩,tD,tS,tH⟩
  ·rw [hpx] at c1
   have hi:l.findIdx p=k:=by
    rw [List.findIdx_eq hlt]
    exact ⟨hpx,fun j hj=>hno j hj (by omega)⟩
   have ha:l.any p=true:=List.any_eq_true.2 ⟨_,List.getElem_mem hlt,hpx⟩
   repeat' (first|(refine shC ?_;first|refine qV (c1) ?_)|(refine shX ?_;first|refine qX he ?_)|refine sK ?_|refine sC (fun _=>?_) (fun _=>?_)|fail)
   exact retq rfl (by simp [zn,zcI,ha,hi])
 ·have ha:l.any p=false:=by
   rw [List.any_eq_false]
   intro x hx
   obtain ⟨j,hj,rfl⟩:=List.getElem_of_mem hx
   simp [hno j (by omega) hj]
  repeat' (first|refine sK ?_|refine sC (fun _=>?_) (fun _=>?_)|fail)
  exact retq rfl (by simp [zn,zcI,ha])
theorem zdP (l:List Int) (f:FuncId) (first cap:List PV) (hp:∀ x∈l,ACall Tryz.prog f (first++[pi x]++cap) (pb false)):ACall Tryz.prog 391 [ints l,.fn (.func f) first cap] (ints l):=by
 refine zf zh Tryz.func391 rfl (by kernel_rfl) Tryz.ntmps391 (by simp) _ rfl (fun hw gB hgB=>?_)
 have c1:=VD l (fun _=>false) f first cap hp
 rw [show zcI l (fun _=>false) = -1 by simp [zcI]] at c1
 repeat' (first|(refine shC ?_;first|refine qC c1 ?_)|refine sA ?_|refine sC (fun _=>?_) (fun _=>?_)|fail)
 exact retq rfl rfl
theorem znh (g:Img) (x:Int):ACall Tryz.prog 392 [pi x,.ptr (zx g) 0] (pb (!there g x)):=by
 refine zf zh Tryz.func392 rfl (by kernel_rfl) Tryz.ntmps392 (by simp) _ rfl (fun hw gB hgB=>?_)
 repeat' (first|(refine shC ?_;first|refine qC (Yq g x) ?_)|refine sA ?_|refine sC (fun _=>?_) (fun _=>?_)|fail)
 all_goals first|(refine retq rfl ?_;first|(simp only [zn,BL,List.length_map] at *;simp only [*,BL,List.length_map];done)|(simp_all [zn];done)|(simp_all [zn];omega)|(simp_all [zn];intros;omega))|(refine zb0 rfl ?_;first|(simp only [zn,BL,List.length_map] at *;simp only [*,BL,List.length_map];done)|(simp_all [zn];done)|(simp_all [zn];omega)|(simp_all [zn];intros;omega))|skip
theorem XM (g:Img) (t:Int) (hfc:(yw g t).length≤1000) (hin:∀ f∈yw g t,there g f=true):ACall Tryz.prog 345 [zx g,pi t] (ints (yw g t)):=by
 refine zf zh Tryz.func345 rfl (by kernel_rfl) Tryz.ntmps345 (by simp) _ rfl (fun hw gB hgB=>?_)
 cases ht:typeAt g t with
 | none =>
  have hth:there g t=false:=by
   cases hh:there g t with
   | false=>rfl
   | true=>obtain ⟨td,h⟩:=(QB g t).1 hh;rw [ht] at h;cases h
  have c1:ACall Tryz.prog 247 [zx g,pi t] (pb false):=by rw [←hth];exact Yq g t
  repeat' (first|(refine shC ?_;first|refine qC c1 ?_)|refine sK ?_|refine sC (fun _=>?_) (fun _=>?_)|fail)
  rw [yw,ht]
  exact Yl (t:=4) (ps:=[ints []]) rfl (qH 1 false) rfl rfl
 | some td =>
  have hth:there g t=true:=(QB g t).2 ⟨td,ht⟩
  have c1:ACall Tryz.prog 247 [zx g,pi t] (pb true):=by rw [←hth];exact Yq g t
  obtain ⟨h0,he⟩:=Yu ht
  have hfa:yw g t=td.faces:=by rw [yw,ht]
  rw [hfa] at hin hfc ⊢
  have c2:=zdP td.faces 392 [] [.ptr (zx g) 0] (fun x hx=>by have:=znh g x;rw [hin x hx] at this;exact this)
  repeat' (first|(refine shC ?_;first|refine qC c1 ?_|refine zo rfl (qJ rfl rfl (zf7 _ (by omega))) rfl rfl ?_|refine AD.step _ _ _ _ _ rfl (qJ rfl rfl (zf7 _ (by omega))) rfl rfl ?_|refine qC c2 ?_)|(refine shX ?_;first|refine zo rfl (zl zh rfl rfl rfl rfl rfl rfl h0 he) rfl rfl ?_|refine AD.step _ _ _ _ _ rfl (zl zh rfl rfl rfl rfl rfl rfl h0 he) rfl rfl ?_)|refine sK ?_|refine sC (fun _=>?_) (fun _=>?_)|fail)
  exact retq rfl rfl
theorem zmu (g:Img) (t:Int) (hfc:(yw g t).length≤1000) (hin:∀ f∈yw g t,there g f=true):ACall Tryz.prog 347 [pi t,.ptr (zx g) 0] (ints (yw g t)):=by
 refine zf zh Tryz.func347 rfl (by kernel_rfl) Tryz.ntmps347 (by simp) _ rfl (fun hw gB hgB=>?_)
 repeat' (first|(refine shC ?_;first|refine qC (XM g t hfc hin) ?_)|refine sA ?_|refine sC (fun _=>?_) (fun _=>?_)|fail)
 exact retq rfl rfl
def tyB (a b:Ty):Bool:=a.kind==b.kind&&(a.index==b.index&&(a.dims==b.dims&&(a.ref==b.ref&&true)))
set_option maxHeartbeats 20000000
abbrev hR (met:List Int):HEnv:=[(0,.cell (.own 2)),(1,.cell (.own 3)),(2,.obj (MapSet Tryz.prog 3 3 met)),(3,.row 3 1 (met.map pi))]
structure GOk (G:HEnv):Prop where
 kill:Yp 3 G=G
 ids:∀ i h,HEnv.get G i=some h→4≤i
 inn:∀ met,hIn (hR met++G) G=true
theorem zs4 {met:List Int} {G:HEnv} {i:Nat} (h:4≤i):HEnv.get (hR met++G) i=HEnv.get G i:=by
 rw [get_append]
 have:HEnv.get (hR met) i=none:=by
  simp only [hR,HEnv.get_cons,HEnv.get_nil]
  rw [if_neg (by omega),if_neg (by omega),if_neg (by omega),if_neg (by omega)]
 rw [this]
theorem GOk.killHE {G:HEnv} (hG:GOk G) {i:Nat} {h:HE} (hg:HEnv.get G i=some h):Cg.killHE 3 h=h:=by
 have:=ZA 3 G i
 rw [hG.kill,hg] at this
 simpa using this.symm
theorem zpb {H:HEnv} {met:List Int} {G:HEnv} {env':Env} (hG:GOk G) (h0:H.get 0=some (.cell (.own 2))) (h1:H.get 1=some (.cell (.own 3))) (h2:H.get 2=some (.obj (MapSet Tryz.prog 3 3 met))) (h3:H.get 3=some (.row 3 1 (met.map pi)))
  (hr:∀ i h,4≤i→HEnv.get G i=some h→H.get i=some h) (he:YI (hR met++G) env'=true):Ye H (hR met++G) env':=by
 refine ⟨fun i h hi=>?_,?_⟩
 ·by_cases h4:4≤i
  ·rw [zs4 h4] at hi;exact hr i h h4 hi
  ·have:i=0∨i=1∨i=2∨i=3:=by omega
   rw [get_append] at hi
   rcases this with rfl|rfl|rfl|rfl
   ·rw [h0];exact hi
   ·rw [h1];exact hi
   ·rw [h2];exact hi
   ·rw [h3];exact hi
 ·rw [he,Bool.true_and]
  show (true&&(true&&hIn (hR met++G) G))=true
  rw [hG.inn];rfl
theorem zkp {i:Nat} (h:HE) (met:List Int) (G:HEnv) (h4:4≤i) (hg:HEnv.get G i=some h):HEnv.get (hR met++G) i=some h:=by rw [zs4 h4];exact hg
theorem zrS {x:Int} (h:0≤x∧x < 100000):(Lit.int .i64 x).wf=true:=by
 simp [Lit.wf,IntKind.has,IntKind.min,IntKind.max,IntKind.bits,IntKind.signed];omega
theorem zlg (l met:List Int) (G:HEnv) (hG:GOk G) (hx:∀ x∈l,0≤x∧x < 100000) (hlen:met.length + l.length≤100000) :
  ACallH Tryz.prog 393 [.pv (ints l),.box 0 0,.box 1 0] (hR met++G) (hR (l.foldl Yd met)++G):=by
 refine zku Tryz.func393 rfl (by kernel_rfl) Tryz.ntmps393 (by simp) rfl (fun gB hgB=>?_)
 repeat' (first|refine sA ?_|refine sC (fun _=>?_) (fun _=>?_)|fail)
 refine zB (fun x:Nat × List Int=>[(1,.box 0 0),(2,.box 1 0),(6,.pv (ints l)),(7,.pv (pi l.length)),(8,.pv (pi x.1))]) (fun x=>hR x.2++G)
  (fun x=>x.1≤l.length∧x.2.length≤met.length + x.1∧(l.drop x.1).foldl Yd x.2=l.foldl Yd met) (fun x=>l.length - x.1) (0,met) ⟨by simp,by simp,rfl⟩ (tS) (zpb hG rfl rfl rfl rfl (fun i h h4 hg=>zkp h met G h4 hg) rfl) ?_
 rintro ⟨k,m⟩ ⟨hk,hml,hr⟩
 simp only at hk hml hr
 by_cases hlt:k < l.length
 ·have he:=YN hlt
  rw [zc3 hlt] at hr
  have hwf:=zrS (hx _ (List.getElem_mem hlt))
  by_cases hm:l[k]∈m
  ·rw [show Yd m l[k]=m by simp [Yd,hm]] at hr
   repeat' (first|refine zo rfl (zi4 (c:=1) (if_pos hm) zh rfl rfl rfl rfl rfl rfl rfl rfl hwf) rfl rfl ?_|(refine shX ?_;first|refine qX he ?_)|refine sK ?_|refine sC (fun _=>?_) (fun _=>?_)|fail)
   refine ⟨(k + 1,m),⟨hlt,by simp;omega,hr⟩,tD,tS,zpb hG rfl rfl rfl rfl (fun i h h4 hg=>zkp h m G h4 hg) rfl⟩
  ·rw [show Yd m l[k]=m++[l[k]] by simp [Yd,hm]] at hr
   repeat' (first|refine zo rfl (zi4 (c:=0) (if_neg hm) zh rfl rfl rfl rfl rfl rfl rfl rfl hwf) rfl rfl ?_|refine zj4 hgB.1 zh rfl rfl rfl rfl rfl rfl rfl rfl rfl hwf (by simp [maxLen];omega) rfl ?_|(refine shX ?_;first|refine qX he ?_)|(refine zL ?_;first|refine zX zh rfl rfl rfl rfl rfl rfl rfl (by show _ * 8≤_;simp;omega) (by simp;omega) rfl rfl ?_)|refine sK ?_|refine sC (fun _=>?_) (fun _=>?_)|fail)
   refine ⟨(k + 1,m++[l[k]]),⟨hlt,by simp;omega,hr⟩,tD,tS,zpb hG rfl rfl rfl (by show some (HE.row 3 1 _)=_;simp) (fun i h h4 hg=>?_) rfl⟩
   rw [HEnv.get_cons,if_neg (by omega),HEnv.get_cons,if_neg (by omega),ZA,HEnv.get_cons,if_neg (by omega),zs4 h4,hg]
   simp [hG.killHE hg]
 ·rw [drop_end (by omega)] at hr
  simp only [List.foldl_nil] at hr
  subst hr
  repeat' (first|refine sK ?_|refine sC (fun _=>?_) (fun _=>?_)|fail)
  exact ⟨.inl rfl,zpb hG rfl rfl rfl rfl (fun i h h4 hg=>zkp h _ G h4 hg) rfl⟩
def Qs (step:Int→List Int):Nat→Nat→List Int→List Int
 | 0,_,met=>met
 | n + 1,i,met=>match met[i]? with|some u=>Qs step n (i + 1) ((step u).foldl Yd met)|none=>met
def QA (N:Nat) (step:Int→List Int) (l:List Int):List Int:=Qs step (N + 1) 0 (l.foldl Yd [])
def NInv (N:Nat) (met:List Int):Prop:=met.Nodup∧∀ y∈met,0≤y∧y < N
theorem NInv.len {N:Nat} {met:List Int} (h:NInv N met):met.length≤N:=ZF _ _ h.1 h.2
theorem NInv.add {N:Nat} {met:List Int} (h:NInv N met) {x:Int} (hx:0≤x∧x < N):NInv N (Yd met x):=by
 unfold Yd
 split
 ·exact h
 ·rename_i hn
  refine ⟨?_,?_⟩
  ·rw [List.nodup_append];simp [h.1];intro b hb e;subst e;exact hn hb
  ·intro y hy
   simp only [List.mem_append,List.mem_singleton] at hy
   rcases hy with hy|rfl
   ·exact h.2 y hy
   ·exact hx
theorem NInv.fold {N:Nat}:∀ (l:List Int) {met:List Int},NInv N met→(∀ x∈l,0≤x∧x < N)→NInv N (l.foldl Yd met)
 | [],_,h,_=>h
 | f::l,_,h,hl=>NInv.fold l (h.add (hl f (by simp))) fun x hx=>hl x (by simp [hx])
theorem zcQ:∀ (l met:List Int),met.length≤(l.foldl Yd met).length
 | [],met=>Nat.le_refl _
 | x::l,met=>by
  refine Nat.le_trans ?_ (zcQ l (Yd met x))
  unfold Yd;split <;> simp
theorem zmz {us:Nat→Value} {env2:Env} (h1:Yp 3 (zT us 100 env2)=zT us 100 env2) (h2:∀ met,hIn (hR met++zT us 100 env2) (zT us 100 env2)=true):GOk (zT us 100 env2) :=
 ⟨h1,fun i h hg=>by have:=(Xd hg).1;omega,h2⟩
theorem zdx (N:Nat) (hN:N≤1000) (l:List Int) (step:Int→List Int) (f:FuncId) (first cap:List PV) (hl:∀ x∈l,0≤x∧x < N) (hll:l.length≤10000)
  (hs:∀ x:Int,0≤x→x < (N:Int)→ACall Tryz.prog f (first++[pi x]++cap) (ints (step x))) (hst:∀ x:Int,0≤x→x < (N:Int)→(step x).length≤10000∧∀ y∈step x,0≤y∧y < N) :
  ACall Tryz.prog 346 [ints l,.fn (.func f) first cap] (ints (sortL (QA N step l))):=by
 refine zf zh Tryz.func346 rfl (by kernel_rfl) Tryz.ntmps346 (by simp) _ rfl (fun hw gB hgB=>?_)
 have hm0:NInv N (l.foldl Yd []):=NInv.fold l ⟨by simp,by simp⟩ hl
 repeat' (first|refine zoI (kt:=3) (et:=3) 2 rfl rfl rfl rfl rfl ?_|refine zbq 1 3 3 1 (by decide) rfl rfl ?_|refine sA ?_|refine sC (fun _=>?_) (fun _=>?_)|fail)
 refine zt3 [(0,.pv (ints l)),(1,.pv (.fn (.func f) first cap)),(5,.box 0 0),(6,.box 1 0),(7,.fn (.func 393) [] [.box 0 0,.box 1 0]),(11,.fn (.func 393) [] [.box 0 0,.box 1 0]),(12,.pv (ints l))] (hR []) (tS)
  ⟨by repeat (first|exact zk|refine zi rfl ?_),rfl⟩ ?_
 refine zlb [(1,.pv (.fn (.func f) first cap)),(5,.box 0 0),(6,.box 1 0),(7,.fn (.func 393) [] [.box 0 0,.box 1 0])] (hR (l.foldl Yd [])) 100 hgB rfl rfl rfl rfl (tS) rfl rfl rfl rfl rfl rfl
  (fun us=>zlg l [] _ (zmz rfl (fun _=>rfl)) (fun x hx=>by have:=hl x hx;omega) (by simp;omega)) ?_
 repeat' (first|refine sA ?_|refine sC (fun _=>?_) (fun _=>?_)|fail)
 refine zB (fun x:Nat × List Int=>[(1,.pv (.fn (.func f) first cap)),(5,.box 0 0),(6,.box 1 0),(7,.fn (.func 393) [] [.box 0 0,.box 1 0]),(8,.pv (pi x.1))]) (fun x=>hR x.2)
  (fun x=>x.1≤x.2.length∧NInv N x.2∧Qs step (N + 1 - x.1) x.1 x.2=QA N step l) (fun x=>N + 1 - x.1) (0,l.foldl Yd []) ⟨by simp,hm0,rfl⟩ (tS) ⟨by repeat (first|exact zk|refine zi rfl ?_),rfl⟩ ?_
 rintro ⟨i,met⟩ ⟨hi,hmi,hr⟩
 simp only at hi hmi hr
 have hml:=hmi.len
 rw [show N + 1 - i=(N - i) + 1 by omega,Qs] at hr
 by_cases hlt:i < met.length
 ·have heU:=YN hlt
  rw [List.getElem?_eq_getElem hlt] at hr
  simp only at hr
  obtain ⟨hu0,hu1⟩:=hmi.2 _ (List.getElem_mem hlt)
  obtain ⟨hs1,hs2⟩:=hst _ hu0 hu1
  have c1:=hs _ hu0 hu1
  repeat' (first|(refine shC ?_;first|refine qV (c1) ?_)|(refine shX ?_;first|refine qX heU ?_)|refine sK ?_|refine sC (fun _=>?_) (fun _=>?_)|fail)
  refine zlb [(1,.pv (.fn (.func f) first cap)),(5,.box 0 0),(6,.box 1 0),(7,.fn (.func 393) [] [.box 0 0,.box 1 0]),(8,.pv (pi i))] (hR ((step met[i]).foldl Yd met)) 100 hgB rfl rfl rfl rfl (tS) rfl rfl rfl rfl rfl rfl
   (fun us=>zlg _ met _ (zmz rfl (fun _=>rfl)) (fun x hx=>by have:=hs2 x hx;omega) (by omega)) ?_
  repeat' (first|refine sK ?_|refine sC (fun _=>?_) (fun _=>?_)|fail)
  have hmi2:=NInv.fold _ hmi hs2
  refine ⟨(i + 1,(step met[i]).foldl Yd met),⟨?_,hmi2,?_⟩,by simp only;omega,tS,⟨by repeat (first|exact zk|refine zi rfl ?_),rfl⟩⟩
  ·have:=zcQ (step met[i]) met
   simp only;omega
  ·simp only
   rw [show N + 1 - (i + 1)=N - i by omega];exact hr
 ·rw [List.getElem?_eq_none (by omega)] at hr
  simp only at hr
  subst hr
  repeat' (first|refine zul [(6,.box 1 0)] hgB rfl rfl ⟨Tryz.f394,Tryz.func394,rfl,by kernel_rfl⟩ rfl rfl (by simp only;omega) (tS) rfl rfl rfl rfl ?_|refine sK ?_|refine sC (fun _=>?_) (fun _=>?_)|fail)
  exact retq rfl rfl
set_option maxHeartbeats 20000000
structure Fm (g:Img):Prop where
 n:g.types.length≤32
 faces:∀ td∈g.types,td.faces.length≤4∧∀ f∈td.faces,0≤f∧f < g.types.length
theorem zeG {g:Img} (h:zV g=true):Fm g :=
 ⟨(zI h).1,fun td hm=>let ⟨_,_,_,_,h5,h6⟩:=Qj ((zI h).2.2.2 td hm);⟨h5,h6⟩⟩
theorem WZ {g:Img} {t:Int} {td:TD} (h:typeAt g t=some td):td∈g.types:=by
 unfold typeAt at h
 split at h
 ·exact List.mem_of_getElem? h
 ·cases h
theorem Fm.at {g:Img} (h:Fm g) (t:Int):(yw g t).length≤4∧∀ f∈yw g t,0≤f∧f < g.types.length:=by
 unfold yw
 cases ht:typeAt g t with
 | none=>simp
 | some td=>exact h.faces td (WZ ht)
theorem XK {g:Img} {t:Int} (h:0≤t∧t < g.types.length):there g t=true:=by
 obtain ⟨td,htd⟩:=WI h;exact (QB g t).2 ⟨td,htd⟩
def Ya (g:Img) (t:Int):List Int:=sortL (QA g.types.length (yw g) ((up g t).flatMap (yw g)))
theorem zgc (g:Img) (t:Int) (hF:Fm g):ACall Tryz.prog 256 [zx g,pi t] (ints (Ya g t)):=by
 refine zf zh Tryz.func256 rfl (by kernel_rfl) Tryz.ntmps256 (by simp) _ rfl (fun hw gB hgB=>?_)
 have hn:=hF.n
 have hui:=zcg g t
 have hul:=ZF _ _ hui.1 hui.2
 repeat' (first|(refine shC ?_;first|refine zo rfl (qJ rfl rfl (ZT g t (by omega))) rfl rfl ?_|refine AD.step _ _ _ _ _ rfl (qJ rfl rfl (ZT g t (by omega))) rfl rfl ?_)|refine sA ?_|refine sC (fun _=>?_) (fun _=>?_)|fail)
 refine ZC (t:=5) 0 3 1 (by decide) rfl rfl ?_
 refine zB (fun x:Nat × List Int=>[(2,.pv (.ptr (zx g) 0)),(5,.own 0),(10,.pv (ints (up g t))),(11,.pv (pi (up g t).length)),(12,.pv (pi x.1))]) (fun x=>[(0,.row 3 1 (x.2.map pi))])
  (fun x=>x.1≤(up g t).length∧x.2.length≤4 * x.1∧(∀ y∈x.2,0≤y∧y < g.types.length)∧x.2++((up g t).drop x.1).flatMap (yw g)=(up g t).flatMap (yw g)) (fun x=>(up g t).length - x.1) (0,[]) ⟨by simp,by simp,by simp,rfl⟩ (tS) ⟨zi rfl zk,rfl⟩ ?_
 rintro ⟨k,out⟩ ⟨hk,hol,hrg,hr⟩
 simp only at hk hol hrg hr
 by_cases hlt:k < (up g t).length
 ·have he:=YN hlt
  obtain ⟨hf1,hf2⟩:=hF.at (up g t)[k]
  rw [drop_cons hlt,List.flatMap_cons] at hr
  repeat' (first|(refine shC ?_;first|refine zo rfl (qJ rfl rfl (XM g _ (by omega) (fun f hf=>XK (hf2 f hf)))) rfl rfl ?_|refine AD.step _ _ _ _ _ rfl (qJ rfl rfl (XM g _ (by omega) (fun f hf=>XK (hf2 f hf)))) rfl rfl ?_)|(refine shX ?_;first|refine qX he ?_)|(refine zL ?_;first|refine zX zh rfl rfl rfl rfl rfl rfl rfl (by show _ * 8≤_;simp;omega) (by simp;omega) rfl rfl ?_)|refine sK ?_|refine sC (fun _=>?_) (fun _=>?_)|fail)
  refine ⟨(k + 1,out++yw g (up g t)[k]),⟨hlt,by simp;omega,?_,by simpa using hr⟩,tD,tS,⟨qw rfl (by simp) zk,rfl⟩⟩
  intro y hy
  simp only [List.mem_append] at hy
  rcases hy with hy|hy
  ·exact hrg y hy
  ·exact hf2 y hy
 ·rw [drop_end (by omega)] at hr
  simp only [List.flatMap_nil,List.append_nil] at hr
  subst hr
  have c1:=zdx g.types.length (by omega) ((up g t).flatMap (yw g)) (yw g) 347 [] [.ptr (zx g) 0] hrg (by omega)
   (fun x h0 h1=>zmu g x (by have:=(hF.at x).1;omega) (fun f hf=>XK ((hF.at x).2 f hf))) (fun x h0 h1=>⟨by have:=(hF.at x).1;omega,(hF.at x).2⟩)
  repeat' (first|(refine shC ?_;first|refine qC c1 ?_)|refine sK ?_|refine sC (fun _=>?_) (fun _=>?_)|fail)
  exact retq rfl rfl
def zao (g:Img) (a b:Int):Bool:=decide (b∈up g a)||decide (b∈Ya g a)
theorem zmI (g:Img) (a b:Int) (hF:Fm g):ACall Tryz.prog 149 [zx g,pi a,pi b] (pb (zao g a b)):=by
 refine zf zh Tryz.func149 rfl (by kernel_rfl) Tryz.ntmps149 (by simp) _ rfl (fun hw gB hgB=>?_)
 have hn:=hF.n
 repeat' (first|(refine shC ?_;first|refine zo rfl (qJ rfl rfl (ZT g a (by omega))) rfl rfl ?_|refine AD.step _ _ _ _ _ rfl (qJ rfl rfl (ZT g a (by omega))) rfl rfl ?_|refine qC (YC _ _) ?_|refine qC (zgc g a hF) ?_)|refine sA ?_|refine sC (fun _=>?_) (fun _=>?_)|fail)
 all_goals first|(refine retq rfl ?_;first|(simp only [zn,zao,BL,List.length_map] at *;simp only [*,BL,List.length_map];done)|(simp_all [zn,zao];done)|(simp_all [zn,zao];omega)|(simp_all [zn,zao];intros;omega))|(refine zb0 rfl ?_;first|(simp only [zn,zao,BL,List.length_map] at *;simp only [*,BL,List.length_map];done)|(simp_all [zn,zao];done)|(simp_all [zn,zao];omega)|(simp_all [zn,zao];intros;omega))|skip
def zcM (g:Img) (a b:Ty):Bool :=
 if tyB a b then true
 else if !object a||!object b then false
 else if plain a 8||plain b 4 then true
 else if plain a 5&&plain b 5 then zao g a.index b.index
 else plain a 7&&tyB b ⟨7,0,0,false⟩
theorem zhM (g:Img) (a b:Ty) (hF:Fm g):ACall Tryz.prog 75 [zx g,yK a,yK b] (pb (zcM g a b)):=by
 refine zf zh Tryz.func75 rfl (by kernel_rfl) Tryz.ntmps75 (by simp) _ rfl (fun hw gB hgB=>?_)
 repeat' (first|(refine shC ?_;first|refine qC (zfM a) ?_|refine qC (zfM b) ?_|refine qC (Vq a 8) ?_|refine qC (Vq b 4) ?_|refine qC (Vq a 5) ?_|refine qC (Vq b 5) ?_|refine qC (zmI g _ _ hF) ?_|refine qC (Vq a 7) ?_|refine qC znL ?_)|refine sA ?_|refine sC (fun _=>?_) (fun _=>?_)|fail)
 all_goals refine retq rfl ?_
 all_goals first|(simp only [zn,zcM,tyB, *];done)|(simp only [zn,zcM,tyB, *];rfl)
def zsx (g:Img) (a b:Ty):Ty :=
 match (up g a.index).find? (fun t=>decide (t∈up g b.index)) with|some t=>⟨5,t,0,false⟩|none=>⟨4,0,0,false⟩
def znJ (g:Img) (a b:Ty):Ty × Int :=
 if zcM g b a then (a,0) else if zcM g a b then (b,0)
 else if !object a||!object b then (ty0,14)
 else if plain a 7&&plain b 7 then (⟨7,0,0,false⟩,0)
 else if zrA g a&&zrA g b then (zsx g a b,0)
 else (⟨4,0,0,false⟩,0)
set_option maxHeartbeats 20000000
theorem zda (s:ByteArray):ACall Tryz.prog 438 [ps s] (pb (zaR s)):=by
 refine zf zh Tryz.func438 rfl (by kernel_rfl) Tryz.ntmps438 (by simp) _ rfl (fun hw gB hgB=>?_)
 have hl:=ztP hw.1
 have he:(s.toList==(⟨#[]⟩:ByteArray).toList)=decide (s.size=0):=by
  rw [ByteArray.toList_eq,ByteArray.toList_eq]
  have hs:s.size=s.data.toList.length:=by simp
  rw [hs]
  cases s.data.toList <;> simp
 have hfin:s.size≠0→s.size≤24→zaR s=s.data.toList.all ztk:=fun a b=>by
  unfold zaR;rw [decide_eq_true (by omega),decide_eq_true (by omega)];simp
 repeat' (first|refine sK ?_|refine sC (fun _=>?_) (fun _=>?_)|fail)
 all_goals first
  | (refine retq rfl ?_;simp_all [zn,zaR];done)
  | (refine retq rfl ?_;simp_all [zn,zaR];omega)
  | skip
 refine zB (fun k:Nat=>[(0,.pv (ps s)),(12,.pv (pi s.size)),(13,.pv (pi k))]) (fun _=>[]) (fun k=>k≤s.size∧zaR s=(s.data.toList.drop k).all ztk) (fun k=>s.size - k) 0 ⟨by simp,by rw [hfin (by simp_all) (by simp_all <;> omega)];simp⟩ (tS) tH ?_
 rintro k ⟨hk,hr⟩
 by_cases hlt:k < s.size
 ·have hb:=zt0 hlt
  rw [zhU (by simpa using hlt)] at hr
  repeat' (first|(refine shI ?_;first|refine zo rfl (zpx zh rfl rfl rfl rfl (by omega) hb) rfl rfl ?_|refine AD.step _ _ _ _ _ rfl (zpx zh rfl rfl rfl rfl (by omega) hb) rfl rfl ?_)|refine sK ?_|refine sC (fun _=>?_) (fun _=>?_)|fail)
  all_goals first
   | exact ⟨k + 1,⟨by omega,by simp_all [ztk]⟩,tD,tS,tH⟩
   | (refine retq rfl ?_;simp_all [zn,ztk];done)
 ·rw [drop_end (by simp;omega)] at hr
  repeat' (first|refine sK ?_|refine sC (fun _=>?_) (fun _=>?_)|fail)
  all_goals (refine retq rfl ?_;simp_all [zn];done)
theorem zho (n x:Int):ACall Tryz.prog 437 [pi x,.ptr (pi n) 0] (pb (!zc6 n x)):=by
 refine zf zh Tryz.func437 rfl (by kernel_rfl) Tryz.ntmps437 (by simp) _ rfl (fun hw gB hgB=>?_)
 repeat' (first|refine sA ?_|refine sC (fun _=>?_) (fun _=>?_)|fail)
 all_goals (refine retq rfl ?_;simp only [zn,List.cons.injEq,PV.base.injEq,Value.bool.injEq];rw [Bool.eq_iff_iff];simp_all [zc6] <;> omega)
theorem Qz (l:List Int) (p:Int→Bool) (f:FuncId) (first cap:List PV) (hp:∀ x∈l,ACall Tryz.prog f (first++[pi x]++cap) (pb (p x))):ACall Tryz.prog 254 [ints l,.fn (.func f) first cap] (pb (l.any p)):=by
 refine zf zh Tryz.func254 rfl (by kernel_rfl) Tryz.ntmps254 (by simp) _ rfl (fun hw gB hgB=>?_)
 have c1:=VD l p f first cap hp
 repeat' (first|(refine shC ?_;first|refine qC c1 ?_)|refine sA ?_|refine sC (fun _=>?_) (fun _=>?_)|fail)
 refine retq rfl ?_
 have:decide (0≤zcI l p)=l.any p:=by
  unfold zcI
  cases h:l.any p <;> simp
 simp [zn,this]
def zrH (l:List TD) (p:TD→Bool):Int:=if l.any p then ((l.findIdx p:Nat):Int) else -1
theorem zgq (l:List TD) (p:TD→Bool) (f:FuncId) (first cap:List PV) (hp:∀ x∈l,ACall Tryz.prog f (first++[qU x]++cap) (pb (p x))):ACall Tryz.prog 449 [.slc 4 (l.map qU) false,.fn (.func f) first cap] (pi (zrH l p)):=by
 refine zf zh Tryz.func449 rfl (by kernel_rfl) Tryz.ntmps449 (by simp) _ rfl (fun hw gB hgB=>?_)
 have hl:l.length≤9223372036854775807:=by have:=hw.1;simp [PV.lenOk,lensOk,maxLen] at this;exact this.1
 repeat' (first|refine sA ?_|refine sC (fun _=>?_) (fun _=>?_)|fail)
 refine zB (fun k:Nat=>[(0,.pv (.slc 4 (l.map qU) false)),(1,.pv (.fn (.func f) first cap)),(7,.pv (pi l.length)),(8,.pv (pi k))]) (fun _=>[]) (fun k=>k≤l.length∧∀ j (h:j < k) (h2:j < l.length),p l[j]=false) (fun k=>l.length - k) 0 ⟨by omega,fun j h=>by omega⟩ (tS) tH ?_
 rintro k ⟨hk,hno⟩
 by_cases hlt:k < l.length
 ·have he:=yc (f:=qU) hlt
  have c1:=hp _ (List.getElem_mem hlt)
  cases hpx:p l[k]
  ·rw [hpx] at c1
   repeat' (first|(refine shC ?_;first|refine qV (c1) ?_)|(refine shX ?_;first|refine qX he ?_)|refine sK ?_|refine sC (fun _=>?_) (fun _=>?_)|fail)
   exact ⟨k + 1,⟨hlt,fun j hj h2=>by
    by_cases e:j=k
    ·subst e;exact hpx
    ·exact hno j (by omega) h2⟩,tD,tS,tH⟩
  ·rw [hpx] at c1
   have hi:l.findIdx p=k:=by
    rw [List.findIdx_eq hlt]
    exact ⟨hpx,fun j hj=>hno j hj (by omega)⟩
   have ha:l.any p=true:=List.any_eq_true.2 ⟨_,List.getElem_mem hlt,hpx⟩
   repeat' (first|(refine shC ?_;first|refine qV (c1) ?_)|(refine shX ?_;first|refine qX he ?_)|refine sK ?_|refine sC (fun _=>?_) (fun _=>?_)|fail)
   exact retq rfl (by simp [zn,zrH,ha,hi])
 ·have ha:l.any p=false:=by
   rw [List.any_eq_false]
   intro x hx
   obtain ⟨j,hj,rfl⟩:=List.getElem_of_mem hx
   simp [hno j (by omega) hj]
  repeat' (first|refine sK ?_|refine sC (fun _=>?_) (fun _=>?_)|fail)
  exact retq rfl (by simp [zn,zrH,ha])
theorem zdA (l:List TD) (p:TD→Bool) (f:FuncId) (first cap:List PV) (hp:∀ x∈l,ACall Tryz.prog f (first++[qU x]++cap) (pb (p x))):ACall Tryz.prog 435 [.slc 4 (l.map qU) false,.fn (.func f) first cap] (pb (l.any p)):=by
 refine zf zh Tryz.func435 rfl (by kernel_rfl) Tryz.ntmps435 (by simp) _ rfl (fun hw gB hgB=>?_)
 have c1:=zgq l p f first cap hp
 repeat' (first|(refine shC ?_;first|refine qC c1 ?_)|refine sA ?_|refine sC (fun _=>?_) (fun _=>?_)|fail)
 refine retq rfl ?_
 have:decide (0≤zrH l p)=l.any p:=by
  unfold zrH
  cases h:l.any p <;> simp
 simp [zn,this]
theorem zmT (t:TD) (n:Int):ACall Tryz.prog 436 [qU t,.ptr (pi n) 0] (pb (!Yw t n)):=by
 refine zf zh Tryz.func436 rfl (by kernel_rfl) Tryz.ntmps436 (by simp) _ rfl (fun hw gB hgB=>?_)
 have c1:=Qz t.faces (fun x=>!zc6 n x) 437 [] [.ptr (pi n) 0] (fun x _=>zho n x)
 have ha:t.faces.any (fun x=>!zc6 n x)=!t.faces.all (zc6 n):=by rw [List.not_all_eq_any_not]
 rw [ha] at c1
 repeat' (first|(refine shC ?_;first|refine qC c1 ?_|refine qC (zda _) ?_)|refine sA ?_|refine sC (fun _=>?_) (fun _=>?_)|fail)
 all_goals first|(refine retq rfl ?_;first|(simp only [zn,Yw,BL,List.length_map] at *;simp only [*,BL,List.length_map];done)|(simp_all [zn,Yw];done)|(simp_all [zn,Yw];omega)|(simp_all [zn,Yw];intros;omega))|(refine zb0 rfl ?_;first|(simp only [zn,Yw,BL,List.length_map] at *;simp only [*,BL,List.length_map];done)|(simp_all [zn,Yw];done)|(simp_all [zn,Yw];omega)|(simp_all [zn,Yw];intros;omega))|skip
def Wj (g:Img):Bool:=decide ((g.types.length:Int)≤32)&&g.types.all (fun t=>Yw t g.types.length)
theorem zoq (g:Img):ACall Tryz.prog 412 [zx g] (pb (Wj g)):=by
 refine zf zh Tryz.func412 rfl (by kernel_rfl) Tryz.ntmps412 (by simp) _ rfl (fun hw gB hgB=>?_)
 have c1:=zdA g.types (fun t=>!Yw t ((g.types.map qU).length:Nat)) 436 [] [.ptr (pi ((g.types.map qU).length:Nat)) 0] (fun x _=>zmT x _)
 rw [←List.not_all_eq_any_not] at c1
 repeat' (first|refine zau (t:=3) rfl rfl rfl ?_|(refine shC ?_;first|refine qC c1 ?_)|refine sA ?_|refine sC (fun _=>?_) (fun _=>?_)|fail)
 all_goals first|(refine retq rfl ?_;first|(simp only [zn,Wj,BL,List.length_map] at *;simp only [*,BL,List.length_map];done)|(simp_all [zn,Wj];done)|(simp_all [zn,Wj];omega)|(simp_all [zn,Wj];intros;omega))|(refine zb0 rfl ?_;first|(simp only [zn,Wj,BL,List.length_map] at *;simp only [*,BL,List.length_map];done)|(simp_all [zn,Wj];done)|(simp_all [zn,Wj];omega)|(simp_all [zn,Wj];intros;omega))|skip
set_option maxHeartbeats 20000000
def zcC (op:Int):ByteArray × Int × Int :=
 if op==62 then (⟨#[98,111,120]⟩,8,0)
 else if op==63 then (⟨#[117,110,98,111,120]⟩,8,0)
 else if op==64 then (⟨#[117,110,98,111,120,97,110,121]⟩,8,0)
 else if op==65 then (⟨#[99,97,115,116,99,108,97,115,115]⟩,8,0)
 else if op==66 then (⟨#[105,115,105,110,115,116]⟩,8,0)
 else if op==67 then (⟨#[108,100,102,116,110]⟩,6,0)
 else if op==68 then (⟨#[110,101,119,100,101,108]⟩,8,0)
 else if op==69 then (⟨#[116,104,114,111,119]⟩,0,3)
 else if op==70 then (⟨#[114,101,116,104,114,111,119]⟩,0,3)
 else if op==71 then (⟨#[108,101,97,118,101]⟩,5,4)
 else if op==72 then (⟨#[101,110,100,102,105,110,97,108,108,121]⟩,0,5)
 else if op==73 then (⟨#[101,110,100,102,105,108,116,101,114]⟩,0,5)
 else if op==74 then (⟨#[105,110]⟩,0,0)
 else if op==75 then (⟨#[111,117,116]⟩,0,0)
 else (⟨#[]⟩,0,0)
theorem zk1 (op:Int):ACall Tryz.prog 411 [pi op] (zc7 (zcC op).1 (zcC op).2.1 (zcC op).2.2):=by
 refine zf zh Tryz.func411 rfl (by kernel_rfl) Tryz.ntmps411 (by simp) _ rfl (fun hw gB hgB=>?_)
 repeat' (first|refine sA ?_|refine sC (fun _=>?_) (fun _=>?_)|fail)
 all_goals (refine retq rfl ?_;simp only [zn,zcC, *];rfl)
def zcq (op:Int):ByteArray × Int × Int :=
 if op==48 then (⟨#[108,100,102,108,100]⟩,7,0)
 else if op==49 then (⟨#[115,116,102,108,100]⟩,7,0)
 else if op==50 then (⟨#[108,100,102,108,100,97]⟩,7,0)
 else if op==51 then (⟨#[108,100,115,102,108,100]⟩,7,0)
 else if op==52 then (⟨#[115,116,115,102,108,100]⟩,7,0)
 else if op==53 then (⟨#[108,100,115,102,108,100,97]⟩,7,0)
 else if op==54 then (⟨#[108,100,111,98,106]⟩,8,0)
 else if op==55 then (⟨#[115,116,111,98,106]⟩,8,0)
 else if op==56 then (⟨#[105,110,105,116,111,98,106]⟩,8,0)
 else if op==57 then (⟨#[110,101,119,97,114,114]⟩,8,0)
 else if op==58 then (⟨#[108,100,108,101,110]⟩,0,0)
 else if op==59 then (⟨#[108,100,101,108,101,109]⟩,8,0)
 else if op==60 then (⟨#[115,116,101,108,101,109]⟩,8,0)
 else if op==61 then (⟨#[108,100,101,108,101,109,97]⟩,8,0)
 else zcC op
theorem zkx (op:Int):ACall Tryz.prog 397 [pi op] (zc7 (zcq op).1 (zcq op).2.1 (zcq op).2.2):=by
 refine zf zh Tryz.func397 rfl (by kernel_rfl) Tryz.ntmps397 (by simp) _ rfl (fun hw gB hgB=>?_)
 repeat' (first|(refine shC ?_;first|refine qC (zk1 op) ?_)|refine sA ?_|refine sC (fun _=>?_) (fun _=>?_)|fail)
 all_goals (refine retq rfl ?_;simp only [zn,zcq, *];rfl)
def ze0 (op:Int):ByteArray × Int × Int :=
 if op==34 then (⟨#[98,114]⟩,5,1)
 else if op==35 then (⟨#[98,114,116,114,117,101]⟩,5,2)
 else if op==36 then (⟨#[98,114,102,97,108,115,101]⟩,5,2)
 else if op==37 then (⟨#[98,101,113]⟩,5,2)
 else if op==38 then (⟨#[98,103,101]⟩,5,2)
 else if op==39 then (⟨#[98,103,116]⟩,5,2)
 else if op==40 then (⟨#[98,108,101]⟩,5,2)
 else if op==41 then (⟨#[98,108,116]⟩,5,2)
 else if op==42 then (⟨#[98,110,101]⟩,5,2)
 else if op==43 then (⟨#[99,97,108,108]⟩,6,0)
 else if op==44 then (⟨#[99,97,108,108,118,105,114,116]⟩,6,0)
 else if op==45 then (⟨#[110,101,119,111,98,106]⟩,6,0)
 else if op==46 then (⟨#[114,101,116]⟩,0,3)
 else if op==47 then (⟨#[116,97,105,108]⟩,0,0)
 else zcq op
theorem znb (op:Int):ACall Tryz.prog 358 [pi op] (zc7 (ze0 op).1 (ze0 op).2.1 (ze0 op).2.2):=by
 refine zf zh Tryz.func358 rfl (by kernel_rfl) Tryz.ntmps358 (by simp) _ rfl (fun hw gB hgB=>?_)
 repeat' (first|(refine shC ?_;first|refine qC (zkx op) ?_)|refine sA ?_|refine sC (fun _=>?_) (fun _=>?_)|fail)
 all_goals (refine retq rfl ?_;simp only [zn,ze0, *];rfl)
def zjx (op:Int):ByteArray × Int × Int :=
 if op==13 then (⟨#[97,100,100]⟩,0,0)
 else if op==14 then (⟨#[115,117,98]⟩,0,0)
 else if op==15 then (⟨#[109,117,108]⟩,0,0)
 else if op==16 then (⟨#[100,105,118]⟩,0,0)
 else if op==17 then (⟨#[114,101,109]⟩,0,0)
 else if op==18 then (⟨#[97,110,100]⟩,0,0)
 else if op==19 then (⟨#[111,114]⟩,0,0)
 else if op==20 then (⟨#[120,111,114]⟩,0,0)
 else if op==21 then (⟨#[115,104,108]⟩,0,0)
 else if op==22 then (⟨#[115,104,114]⟩,0,0)
 else if op==23 then (⟨#[110,101,103]⟩,0,0)
 else if op==24 then (⟨#[110,111,116]⟩,0,0)
 else if op==25 then (⟨#[97,100,100,111,118,102]⟩,0,0)
 else if op==26 then (⟨#[115,117,98,111,118,102]⟩,0,0)
 else if op==27 then (⟨#[109,117,108,111,118,102]⟩,0,0)
 else if op==28 then (⟨#[99,111,110,118,52]⟩,0,0)
 else if op==29 then (⟨#[99,111,110,118,56]⟩,0,0)
 else if op==30 then (⟨#[99,111,110,118,111,118,102,52]⟩,0,0)
 else if op==31 then (⟨#[99,101,113]⟩,0,0)
 else if op==32 then (⟨#[99,103,116]⟩,0,0)
 else if op==33 then (⟨#[99,108,116]⟩,0,0)
 else ze0 op
theorem zoy (op:Int):ACall Tryz.prog 289 [pi op] (zc7 (zjx op).1 (zjx op).2.1 (zjx op).2.2):=by
 refine zf zh Tryz.func289 rfl (by kernel_rfl) Tryz.ntmps289 (by simp) _ rfl (fun hw gB hgB=>?_)
 repeat' (first|(refine shC ?_;first|refine qC (znb op) ?_)|refine sA ?_|refine sC (fun _=>?_) (fun _=>?_)|fail)
 all_goals (refine retq rfl ?_;simp only [zn,zjx, *];rfl)
def ofI (op:Int):ByteArray × Int × Int :=
 if op==1 then (⟨#[110,111,112]⟩,0,0)
 else if op==2 then (⟨#[108,100,97,114,103]⟩,4,0)
 else if op==3 then (⟨#[115,116,97,114,103]⟩,4,0)
 else if op==4 then (⟨#[108,100,97,114,103,97]⟩,4,0)
 else if op==5 then (⟨#[108,100,108,111,99]⟩,3,0)
 else if op==6 then (⟨#[115,116,108,111,99]⟩,3,0)
 else if op==7 then (⟨#[108,100,108,111,99,97]⟩,3,0)
 else if op==8 then (⟨#[108,100,99,52]⟩,1,0)
 else if op==9 then (⟨#[108,100,99,56]⟩,2,0)
 else if op==10 then (⟨#[108,100,110,117,108,108]⟩,0,0)
 else if op==11 then (⟨#[100,117,112]⟩,0,0)
 else if op==12 then (⟨#[112,111,112]⟩,0,0)
 else zjx op
theorem zmF (op:Int):ACall Tryz.prog 163 [pi op] (zc7 (ofI op).1 (ofI op).2.1 (ofI op).2.2):=by
 refine zf zh Tryz.func163 rfl (by kernel_rfl) Tryz.ntmps163 (by simp) _ rfl (fun hw gB hgB=>?_)
 repeat' (first|(refine shC ?_;first|refine qC (zoy op) ?_)|refine sA ?_|refine sC (fun _=>?_) (fun _=>?_)|fail)
 all_goals (refine retq rfl ?_;simp only [zn,ofI, *];rfl)
set_option maxHeartbeats 20000000
def zfe (t:Ty):Bool :=
 if t.kind==1 then t.index==0&&(t.dims==0&&(t.ref==false&&true))
 else if t.kind==2||t.kind==3||t.kind==4 then decide (0≤t.index)&&decide (t.index≤0)&&decide (0≤t.dims)&&decide (t.dims≤3)
 else if t.kind==5||t.kind==6 then decide (0≤t.index)&&decide (t.index≤31)&&decide (0≤t.dims)&&decide (t.dims≤3)
 else if t.kind==7 then decide (0≤t.index)&&decide (t.index≤7)&&decide (0≤t.dims)&&decide (t.dims≤3)
 else false
theorem zjj (t:Ty):zfe t=Zv t:=by
 rw [Bool.eq_iff_iff,zfe,Zv]
 by_cases h1:t.kind=1
 ·cases hr:t.ref <;> simp [h1] <;> omega
 ·by_cases h2:t.kind=2
  ·simp [h2];omega
  ·by_cases h3:t.kind=3
   ·simp [h3];omega
   ·by_cases h4:t.kind=4
    ·simp [h4];omega
    ·by_cases h5:t.kind=5
     ·simp [h5];omega
     ·by_cases h6:t.kind=6
      ·simp [h6];omega
      ·by_cases h7:t.kind=7
       ·simp [h7];omega
       ·simp [h1,h2,h3,h4,h5,h6,h7]
theorem zge (t:Ty):ACall Tryz.prog 404 [yK t] (pb (zfe t)):=by
 refine zf zh Tryz.func404 rfl (by kernel_rfl) Tryz.ntmps404 (by simp) _ rfl (fun hw gB hgB=>?_)
 repeat' (first|refine sA ?_|refine sC (fun _=>?_) (fun _=>?_)|fail)
 all_goals first|(refine retq rfl ?_;first|(simp only [zn,zfe, *];done)|(simp only [zn,zfe, *];rfl)|(simp_all [zn,zfe];done))|(trace "LEFT";trace_state)
theorem VT (t:Ty):ACall Tryz.prog 360 [yK t] (pb (Zv t)):=by
 refine zf zh Tryz.func360 rfl (by kernel_rfl) Tryz.ntmps360 (by simp) _ rfl (fun hw gB hgB=>?_)
 have c1:=zge t
 rw [zjj] at c1
 repeat' (first|(refine shC ?_;first|refine qC c1 ?_)|refine sA ?_|refine sC (fun _=>?_) (fun _=>?_)|fail)
 exact retq rfl rfl
theorem zmb (t:Ty):ACall Tryz.prog 469 [yK t] (pb (Zx t 2)):=by
 refine zf zh Tryz.func469 rfl (by kernel_rfl) Tryz.ntmps469 (by simp) _ rfl (fun hw gB hgB=>?_)
 have c1:=zge t
 rw [zjj] at c1
 repeat' (first|(refine shC ?_;first|refine qC c1 ?_)|refine sA ?_|refine sC (fun _=>?_) (fun _=>?_)|fail)
 all_goals (refine retq rfl ?_;simp_all [zn,Zx];done)
theorem zfP (t:Ty):ACall Tryz.prog 463 [yK t] (pb (Zx t 1)):=by
 refine zf zh Tryz.func463 rfl (by kernel_rfl) Tryz.ntmps463 (by simp) _ rfl (fun hw gB hgB=>?_)
 have c1:=zmb t
 have e:(Zx t 2&&!t.ref)=Zx t 1:=by
  simp only [Zx];cases Zv t <;> simp
 repeat' (first|(refine shC ?_;first|refine qC c1 ?_)|refine sA ?_|refine sC (fun _=>?_) (fun _=>?_)|fail)
 all_goals (refine retq rfl ?_;rw [←e];simp_all [zn];done)
theorem zaq (t:Ty) (n:Int):ACall Tryz.prog 451 [yK t,pi n] (pb (zil t n)):=by
 refine zf zh Tryz.func451 rfl (by kernel_rfl) Tryz.ntmps451 (by simp) _ rfl (fun hw gB hgB=>?_)
 repeat' (first|refine sA ?_|refine sC (fun _=>?_) (fun _=>?_)|fail)
 all_goals (first|refine retq rfl ?_|refine zb0 rfl ?_)
 all_goals (first|(simp_all [zn,zil];done)|(simp_all [zn,zil];omega))
theorem zlm (t:Ty) (n:Int):ACall Tryz.prog 453 [yK t,pi n] (pb (XY t 2 n)):=by
 refine zf zh Tryz.func453 rfl (by kernel_rfl) Tryz.ntmps453 (by simp) _ rfl (fun hw gB hgB=>?_)
 repeat' (first|(refine shC ?_;first|refine qC (VT t) ?_|refine qC (zaq t n) ?_)|refine sA ?_|refine sC (fun _=>?_) (fun _=>?_)|fail)
 all_goals (refine retq rfl ?_;simp_all [zn,XY,Zx];done)
theorem zkw (t:Ty) (n:Int):ACall Tryz.prog 454 [yK t,pi n] (pb (XY t 3 n)):=by
 refine zf zh Tryz.func454 rfl (by kernel_rfl) Tryz.ntmps454 (by simp) _ rfl (fun hw gB hgB=>?_)
 repeat' (first|(refine shC ?_;first|refine qC (VT t) ?_|refine qC (zaq t n) ?_)|refine sA ?_|refine sC (fun _=>?_) (fun _=>?_)|fail)
 all_goals (refine retq rfl ?_;simp_all [zn,XY,Zx];done)
set_option maxHeartbeats 20000000
theorem zkg (op:Int) (h1:1≤op) (h2:op≤75):(ofI op).1.size≠0∧(ofI op).2.1=yj op:=by
 have h:∀ n:Fin 76,1≤n.val→(ofI (n.val:Int)).1.size≠0∧(ofI (n.val:Int)).2.1=yj (n.val:Int):=by decide +kernel
 have:=h ⟨op.toNat,by omega⟩ (by simp;omega)
 simpa [Int.toNat_of_nonneg (show 0≤op by omega)] using this
theorem zt8 (op:Int) (h:op < 1∨75 < op):ofI op=(⟨#[]⟩,0,0):=by
 have e:∀ k:Int,1≤k→k≤75→(op==k)=false:=fun k h1 h2=>by rw [beq_eq_false_iff_ne];omega
 simp [ofI,zjx,ze0,zcq,zcC,e]
theorem zqd (s:ByteArray):(s.toList==(⟨#[]⟩:ByteArray).toList)=decide (s.size=0):=by
 rw [ByteArray.toList_eq,ByteArray.toList_eq]
 have hs:s.size=s.data.toList.length:=by simp
 rw [hs]
 cases s.data.toList <;> simp
theorem zem (op:Int) (h1:1≤op) (h2:op≤75):ACall Tryz.prog 81 [pi op] (.tup [zc7 (ofI op).1 (ofI op).2.1 (ofI op).2.2,pi 0]):=by
 refine zf zh Tryz.func81 rfl (by kernel_rfl) Tryz.ntmps81 (by simp) _ rfl (fun hw gB hgB=>?_)
 have c1:=zmF op
 have hn:=(zkg op h1 h2).1
 generalize ofI op=x at c1 hn
 have he:(x.1.toList==(⟨#[]⟩:ByteArray).toList)=false:=by rw [zqd];simp [hn]
 repeat' (first|(refine shC ?_;first|refine qC c1 ?_)|refine sK ?_|refine sC (fun _=>?_) (fun _=>?_)|fail)
 all_goals exact retq rfl rfl
theorem zfU (op:Int) (h:op < 1∨75 < op):ACall Tryz.prog 81 [pi op] (.tup [zc7 ⟨#[]⟩ 0 0,pi 3]):=by
 refine zf zh Tryz.func81 rfl (by kernel_rfl) Tryz.ntmps81 (by simp) _ rfl (fun hw gB hgB=>?_)
 have c1:=zmF op
 rw [zt8 op h] at c1
 have he:((⟨#[]⟩:ByteArray).toList==(⟨#[]⟩:ByteArray).toList)=true:=by simp
 repeat' (first|(refine shC ?_;first|refine qC c1 ?_)|refine sK ?_|refine sC (fun _=>?_) (fun _=>?_)|fail)
 all_goals exact retq rfl rfl
theorem znp (x b:Int):ACall Tryz.prog 485 [.base (.int .i64 x),.base (.int .i64 b)] (pb (decide (0≤x)&&decide (x < b))):=by
 refine zf zh Tryz.func485 rfl (by kernel_rfl) Tryz.ntmps485 (by simp) _ rfl (fun hw gB hgB=>?_)
 repeat' (first|refine sA ?_|refine sC (fun _=>?_) (fun _=>?_)|fail)
 all_goals (refine retq rfl ?_;first|(simp_all [zn];done)|(simp_all [zn];omega))
def zhZ (x:Ins) (k:Int):Bool :=
 if k==0 then zec x.t&&x.arg==0
 else if k==1 then zec x.t&&decide (-2147483648≤x.arg)&&decide (x.arg < 2147483648)
 else if k==2 then zec x.t
 else if k==3 then zec x.t&&(decide (0≤x.arg)&&decide (x.arg < 12))
 else if k==4 then zec x.t&&(decide (0≤x.arg)&&decide (x.arg < 7))
 else if k==5 then zec x.t&&(decide (0≤x.arg)&&decide (x.arg < 160))
 else if k==6 then zec x.t&&(decide (0≤x.arg)&&decide (x.arg < 64))
 else if k==7 then zec x.t&&(decide (0≤x.arg)&&decide (x.arg < 64))
 else x.arg==0&&Zv x.t&&x.t.kind != 1&&!x.t.ref
theorem zod (x:Ins) (k:Int):ACall Tryz.prog 473 [yR x,pi k] (pb (zhZ x k)):=by
 refine zf zh Tryz.func473 rfl (by kernel_rfl) Tryz.ntmps473 (by simp) _ rfl (fun hw gB hgB=>?_)
 repeat' (first|(refine shC ?_;first|refine qC (znp _ _) ?_|refine qC (VT _) ?_)|refine sA ?_|refine sC (fun _=>?_) (fun _=>?_)|fail)
 all_goals first|(refine retq rfl ?_;first|(simp only [zn,zhZ,zec, *];done)|(simp only [zn,zhZ,zec, *];rfl)|(simp_all [zn,zhZ,zec];done))|(trace "LEFT";trace_state)
set_option maxHeartbeats 20000000
def zhy (x:Ins):Int:=if x.op < 1∨75 < x.op then 3 else if zhZ x (yj x.op) then 0 else 17
theorem znW (x:Ins):ACall Tryz.prog 466 [yR x] (pi (zhy x)):=by
 refine zf zh Tryz.func466 rfl (by kernel_rfl) Tryz.ntmps466 (by simp) _ rfl (fun hw gB hgB=>?_)
 by_cases hop:x.op < 1∨75 < x.op
 ·have c1:=zfU x.op hop
  repeat' (first|(refine shC ?_;first|refine qC c1 ?_)|refine sK ?_|refine sC (fun _=>?_) (fun _=>?_)|fail)
  all_goals exact retq rfl (by simp [zn,zhy,hop])
 ·have c1:=zem x.op (by omega) (by omega)
  rw [(zkg x.op (by omega) (by omega)).2] at c1
  repeat' (first|(refine shC ?_;first|refine qC c1 ?_|refine qC (zod _ _) ?_)|refine sA ?_|refine sC (fun _=>?_) (fun _=>?_)|fail)
  all_goals (refine retq rfl ?_;simp_all [zn,zhy];done)
theorem zgn (op:Int) (h1:1≤op) (h2:op≤75):0≤yj op∧yj op≤8:=by
 have h:∀ n:Fin 76,1≤n.val→0≤yj (n.val:Int)∧yj (n.val:Int)≤8:=by decide +kernel
 have:=h ⟨op.toNat,by omega⟩ (by simp;omega)
 simpa [Int.toNat_of_nonneg (show 0≤op by omega)] using this
def zd0 (x:Ins):Prop := -9223372036854775808≤x.arg∧x.arg≤9223372036854775807
theorem zlG (t:Ty):zec t=decide (t=ty0):=Vl t ty0
theorem zqP (x:Ins) (hx:zd0 x):zhy x=Wp x:=by
 unfold zhy Wp
 obtain ⟨hx1,hx2⟩:=hx
 by_cases hop:x.op < 1∨75 < x.op
 ·rw [if_pos hop,if_pos hop]
 ·rw [if_neg hop,if_neg hop]
  obtain ⟨r1,r2⟩:=zgn x.op (by omega) (by omega)
  generalize yj x.op=k at r1 r2
  have hk:k=0∨k=1∨k=2∨k=3∨k=4∨k=5∨k=6∨k=7∨k=8:=by omega
  by_cases ht:x.t=ty0
  ·rcases hk with rfl|rfl|rfl|rfl|rfl|rfl|rfl|rfl|rfl <;> simp only [zhZ,zde,zlG,ht] <;> simp [ty0,Zv,Zx] <;> (first|omega|(split <;> split <;> first|rfl|omega))
  ·rcases hk with rfl|rfl|rfl|rfl|rfl|rfl|rfl|rfl|rfl <;> simp only [zhZ,zde,zlG,ht] <;> simp [ht,Zx] <;> (first|omega|(by_cases ha:x.arg=0 <;> cases hp:Zv x.t <;> by_cases hk1:x.t.kind=1 <;> cases hr:x.t.ref <;> simp_all <;> omega))
theorem zof (x:Ins) (g:Img) (m:Me) (hx:zd0 x):ACall Tryz.prog 457 [yR x,zx g,pi m.code.length] (pb (codeOk g m x)):=by
 refine zf zh Tryz.func457 rfl (by kernel_rfl) Tryz.ntmps457 (by simp) _ rfl (fun hw gB hgB=>?_)
 have c0:=znW x
 rw [zqP x hx] at c0
 by_cases hf:Wp x=0
 ·have hop:¬ (x.op < 1∨75 < x.op):=by
   intro h;rw [Wp,if_pos h] at hf;simp at hf
  have c1:=zem x.op (by omega) (by omega)
  rw [(zkg x.op (by omega) (by omega)).2] at c1
  rw [hf] at c0
  have hown:yj x.op≠8→x.t=ty0:=by
   intro h8
   rw [Wp,if_neg hop] at hf
   split at hf
   ·simp at hf
   ·split at hf
    ·simp at hf
    ·rename_i h;exact Classical.byContradiction fun h9=>h ⟨h8,h9⟩
  repeat' (first|(refine shC ?_;first|refine qC c0 ?_|refine qC c1 ?_|refine qC (zaq _ _) ?_)|refine sA ?_|refine sC (fun _=>?_) (fun _=>?_)|fail)
  all_goals (refine retq rfl ?_)
  all_goals simp only [zn,List.length_map,codeOk,hf, *]
  ·rfl
  ·rfl
  ·rfl
  ·by_cases h8:yj x.op=8
   ·simp [h8]
   ·simp [h8,hown h8,zil,ty0]
 ·have hfb:(Wp x != 0)=true:=by simp [hf]
  repeat' (first|(refine shC ?_;first|refine qC c0 ?_)|refine sK ?_|refine sC (fun _=>?_) (fun _=>?_)|fail)
  all_goals exact retq rfl (by simp [zn,codeOk,hf])
def eqF (p:Ty→Ty→Bool) (a b:List Ty):Bool:=decide (a.length=b.length)&&(List.range a.length).all fun i=>p (a.getD i default) (b.getD i default)
def zte (g:Img) (a b:List Ty):Bool:=eqF (zcM g) a b
def zqW (g:Img):List Ty→List Ty→List Ty→List Ty × Int
 | x::a,y::b,out=>if (znJ g x y).2 != 0 then ([],(znJ g x y).2) else zqW g a b (out++[(znJ g x y).1])
 | [],_,out=>(out,0)
 | _,[],out=>(out,0)
def zcy (g:Img) (a b:List Ty):List Ty × Int:=if a.length≠b.length then ([],9) else zqW g a b []
end Go.Cg
