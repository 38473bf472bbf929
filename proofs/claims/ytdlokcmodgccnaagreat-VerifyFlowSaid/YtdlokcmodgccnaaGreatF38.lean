/- A part of the walks by abstract values: no statement of its own. -/
import Derived.Test.YtdlokcmodgccnaaGreatF34
set_option linter.unusedVariables false
set_option linter.unusedSimpArgs false
namespace Go.Cg
open Go.Proofs
def ztd (t:Ty):Bool:=decide (t=⟨1,0,0,false⟩)||decide (t=⟨2,0,0,false⟩)||decide (t=⟨3,0,0,false⟩)
def zr3 (m:Me):Bool:=zW m.flags 1&&!zW m.flags 4&&m.params.length==0&&ztd m.ret
theorem ztp {t:Ty} (hp:Zj t=true) (hr:t.ref=false):ztd t=(t.dims==0&&decide (1≤t.kind)&&decide (t.kind≤3)):=by
 obtain ⟨k,i,d,r⟩:=t
 simp only at hr
 subst hr
 rw [Bool.eq_iff_iff]
 simp only [ztd,Ty.mk.injEq,Bool.or_eq_true,decide_eq_true_eq,Bool.and_eq_true,beq_iff_eq,and_true]
 constructor
 ·omega
 ·rintro ⟨⟨h1,h2⟩,h3⟩
  have hk:k=1∨k=2∨k=3:=by omega
  rcases hk with rfl|rfl|rfl <;> simp_all [Zj]
set_option maxHeartbeats 1000000 in
theorem zkm (g:Img) (m:Me) (h:MeOk g m):ACall Tryz.prog 49 [zG m] (pb (zr3 m)):=by
 obtain ⟨h1,_,h4,_,_⟩:=zt4 h
 have e1:=QD m.ret ⟨1,0,0,false⟩
 have e2:=QD m.ret ⟨2,0,0,false⟩
 have e3:=QD m.ret ⟨3,0,0,false⟩
 have hl:((((m.params.map yK).length:Nat):Int)==0)=(m.params.length==0):=by
  rw [List.length_map,Bool.eq_iff_iff];simp only [beq_iff_eq];omega
 refine zf zh Tryz.func49 rfl (by kernel_rfl) Tryz.ntmps49 (by simp) _ rfl (fun hw gB hgB=>?_)
 rw [zr3,ztd,←e1,←e2,←e3]
 generalize zW m.flags 1=b1 at h1 ⊢
 generalize zW m.flags 4=b4 at h4 ⊢
 clear e1 e2 e3
 repeat' (first|(refine shC ?_;first|refine qC h1 ?_|refine qC h4 ?_)|refine sA ?_|refine sC (fun _=>?_) (fun _=>?_)|fail)
 all_goals (refine retq rfl ?_;first|(simp_all [zi];done)|(simp_all [zi];intro hh;rcases hh with ⟨a1,a2,a3,a4⟩|⟨a1,a2,a3,a4⟩ <;> simp_all))
abbrev zfB:=(Int × Int) × Int
def zeJ (r:zfB):PV:=.tup [.agg [pi r.1.1,pi r.1.2],pi r.2]
def stE (g:Img):zfB:=if decide (0≤g.entry)&&!zr3 (mAt g g.entry) then ((1,g.entry),11) else ((0,0),0)
def zqp (g:Img) (t:Int):Bool:=zB g t==3&&(methodsOf g t).length==0
def zup (g:Img) (W:Int→Bool) (t:Int):Bool:=zB g t==0&&!zW (g.types.getD t.toNat default).flags 4&&!W t
def stD (g:Img):List Nat→zfB
 | []=>stE g
 | t::ts=>if zqp g (t:Int) then ((0,(t:Int)),8) else stD g ts
def stC (g:Img) (W:Int→Bool):List Nat→zfB
 | []=>stD g (List.range g.types.length)
 | t::ts=>if zup g W (t:Int) then ((0,(t:Int)),18) else stC g W ts
def stM (g:Img):List Nat→zfB
 | []=>stC g (fun t=>XT g t (QB g t) (Zi g t)) (List.range g.types.length)
 | i::is=>if zgf g (mAt g (i:Int)) then (if XP g (mAt g (i:Int)) then stM g is else ((1,(i:Int)),10)) else ((1,(i:Int)),8)
def yC (g:Img):zfB:=if zcm g then stM g (List.range g.methods.length) else ((0,0),17)
theorem XI {n k:Nat} (h:k < n):(List.range n).drop k=k::(List.range n).drop (k + 1):=by
 rw [List.drop_eq_getElem_cons (by simpa using h)];simp
theorem VF (n:Nat):(List.range n).drop n=[]:=List.drop_eq_nil_of_le (by simp)
theorem zdd {l l':List Int} {p q:Int→Bool} (h:∀ x,x∈l↔x∈l') (hp:∀ x∈l,p x=q x):l.any p=l'.any q:=by
 rw [Bool.eq_iff_iff,List.any_eq_true,List.any_eq_true]
 constructor
 ·rintro ⟨x,hx,hpx⟩;exact ⟨x,(h x).1 hx,by rw [←hp x hx];exact hpx⟩
 ·rintro ⟨x,hx,hpx⟩;exact ⟨x,(h x).2 hx,by rw [hp x ((h x).2 hx)];exact hpx⟩
theorem zpU {k:Int} {b1 b2 b4 b8 b16 rv f16 em nc m1 ab:Bool} (h:YG k b1 b2 b4 b8 b16 rv f16 em nc m1 ab=true) (hk:k=2):b2=true:=by
 subst hk
 cases b2
 ·cases b4
  ·simp [YG] at h
  ·simp [YG] at h
 ·rfl
theorem zrX {g:Img} (hF:Fine g) (hm:∀ i,i < g.methods.length→zgf g (mAt g (i:Int))=true) (t:Int):XT g t (XG g t) (Yi g t)=XT g t (QB g t) (Zi g t):=by
 have hFm:=zdc hF.formed
 have hW:=zao hF.well
 rw [XT,XT]
 congr 2
 refine zdd (fun f=>by rw [zhb hFm,zdK hFm]) fun f hf=>?_
 refine zdd (fun m=>Iff.rfl) fun m hmm=>?_
 have hk:zB g (Qw g m)=2:=by rw [Wj hmm];exact hW.rf_kind ((zhb hFm).1 hf)
 have hmo:=yx hmm
 have h1:=hm m.toNat hmo.2
 rw [Int.toNat_of_nonneg hmo.1] at h1
 have hv:Vd g m=true:=zpU h1 hk
 rw [QB,hk,hv];rfl
theorem zkx {g:Img} {k:Nat} (h:k < g.methods.length):mOk g (k:Int):=⟨by omega,by simpa using h⟩
theorem zsH {g:Img} {k:Nat} (h:k < g.methods.length):(g.methods.map zG)[((k:Int)).toNat]?=some (zG (mAt g (k:Int))):=ZR (zkx h)
theorem zst {g:Img} {k:Nat} (h:k < g.types.length):(g.types.map Zb)[((k:Int)).toNat]?=some (Zb (g.types.getD ((k:Int)).toNat default)):=by
 have h':((k:Int)).toNat < g.types.length:=by simpa using h
 rw [zx h'];exact qE h'
theorem zkV {g:Img} (hf:zJ g=true) (h:0≤g.entry):mOk g g.entry:=by
 simp only [zJ,Bool.and_eq_true,decide_eq_true_eq] at hf
 exact ⟨h,by omega⟩
theorem zpJ {f:Int} (h0:0≤f) (h1:f≤31):(IntKind.i64.wrap ((BitVec.ofInt IntKind.i64.bits f &&& BitVec.ofInt IntKind.i64.bits 4).toNat:Int)==0)=!zW f 4:=by
 rw [←(za2 h0 h1).2.2.1,qB,bne,Bool.not_not]
theorem zsj:∀ a:Fin 32,((IntKind.i64.wrap ((a.val:Int).tdiv 4)).tmod 2==0)=!zW (a.val:Int) 4:=by decide +kernel
theorem zqG {f:Int} (h0:0≤f) (h1:f≤31):((IntKind.i64.wrap (f.tdiv 4)).tmod 2==0)=!zW f 4:=by
 have:=zsj ⟨f.toNat,by omega⟩
 simpa only [Int.toNat_of_nonneg h0] using this
theorem zjo {g:Img} (hf:zJ g=true) {k:Nat} (h:k < g.types.length):0≤(g.types.getD ((k:Int)).toNat default).flags∧(g.types.getD ((k:Int)).toNat default).flags≤31:=zlv hf (by omega) (by simpa using h)
theorem zk9 {l:List Int}:((((l.map pi).length:Nat):Int)==0)=(l.length==0):=by
 rw [List.length_map,Bool.eq_iff_iff];simp only [beq_iff_eq];omega
set_option maxHeartbeats 4000000 in
theorem zcz (g:Img) (hx:OkA g):ACall Tryz.prog 26 [zq g] (zeJ (yC g)):=by
 have c0:=znC g hx
 refine zf zh Tryz.func26 rfl (by kernel_rfl) Tryz.ntmps26 (by simp) _ rfl (fun hw gB hgB=>?_)
 cases hfi:zcm g
 ·rw [hfi] at c0
  repeat' (first|(refine shC ?_;first|refine qC c0 ?_)|refine sK ?_|refine sC (fun _=>?_) (fun _=>?_)|fail)
  exact retq rfl (by rw [yC,hfi];rfl)
 ·rw [hfi] at c0
  have hF:=Xk hfi
  obtain ⟨hgt,_,hgm,_⟩:=zF hF.formed
  have hr0:yC g=stM g (List.range g.methods.length):=by rw [yC,hfi];rfl
  repeat' (first|(refine shC ?_;first|refine qC c0 ?_)|refine sK ?_|refine sC (fun _=>?_) (fun _=>?_)|fail)
  refine zo (fun k:Nat=>[(1,.pv (.ptr (zq g) 0)),(2,.box 0 0),(14,.pv (.slc 12 (g.methods.map zG) false)),(15,.pv (pi g.methods.length)),(16,.pv (pi k))]) (fun _=>[(0,.cell (.pv (.agg [pi 0,pi 0])))])
   (fun k=>k≤g.methods.length∧yC g=stM g ((List.range g.methods.length).drop k)∧∀ i,i < k→zgf g (mAt g (i:Int))=true) (fun k=>g.methods.length - k) 0 ⟨by omega,hr0,fun i h=>by omega⟩ (by repeat (first|exact zT|refine zM rfl ?_|(refine qg rfl ?_ ?_;· simp))) tH ?_
  rintro k ⟨hk,hr,hall⟩
  by_cases hlt:k < g.methods.length
  ·have he:=zsH hlt
   have hM:=YV hF.formed (zkx hlt)
   have cf:=ziP g hF.formed _ hM
   have co:=zm2 g hF.formed _ hM
   have ct:=zmg g hF.formed _ hM
   have hfe:=zsM hM
   rw [XI hlt,stM] at hr
   cases hf:zoN g (mAt g (k:Int))
   ·rw [hf] at cf hfe
    rw [←hfe] at hr
    repeat' (first|(refine shC ?_;first|refine qC cf ?_)|(refine shX ?_;first|refine qX he ?_)|refine sK ?_|refine sC (fun _=>?_) (fun _=>?_)|fail)
    exact retq rfl (by rw [hr];rfl)
   ·rw [hf] at cf hfe
    cases ho:zka g (mAt g (k:Int))
    ·rw [ho] at co hfe
     rw [←hfe] at hr
     repeat' (first|(refine shC ?_;first|refine qC cf ?_|refine qC co ?_)|(refine shX ?_;first|refine qX he ?_)|refine sK ?_|refine sC (fun _=>?_) (fun _=>?_)|fail)
     exact retq rfl (by rw [hr];rfl)
    ·rw [ho] at co hfe
     have hfR:zgf g (mAt g (k:Int))=true:=hfe.symm
     rw [hfR,if_pos rfl] at hr
     cases ht:XP g (mAt g (k:Int))
     ·rw [ht] at ct hr
      repeat' (first|(refine shC ?_;first|refine qC cf ?_|refine qC co ?_|refine qC ct ?_)|(refine shX ?_;first|refine qX he ?_)|refine sK ?_|refine sC (fun _=>?_) (fun _=>?_)|fail)
      exact retq rfl (by rw [hr];rfl)
     ·rw [ht] at ct hr
      repeat' (first|(refine shC ?_;first|refine qC cf ?_|refine qC co ?_|refine qC ct ?_)|(refine shX ?_;first|refine qX he ?_)|refine sK ?_|refine sC (fun _=>?_) (fun _=>?_)|fail)
      exact ⟨k + 1,⟨hlt,hr,fun i hi=>by
       by_cases e:i=k
       ·subst e;exact hfR
       ·exact hall i (by omega)⟩,tD,tS,tH⟩
  ·have hk2:k=g.methods.length:=by omega
   subst hk2
   rw [VF,stM] at hr
   have hwe:=fun t=>zrX hF hall t
   clear hall
   repeat' (first|refine sK ?_|refine sC (fun _=>?_) (fun _=>?_)|fail)
   refine zo (fun k:Nat=>[(1,.pv (.ptr (zq g) 0)),(2,.box 0 0),(43,.pv (.slc 4 (g.types.map Zb) false)),(44,.pv (pi g.types.length)),(45,.pv (pi k))]) (fun _=>[(0,.cell (.pv (.agg [pi 0,pi 0])))])
    (fun k=>k≤g.types.length∧yC g=stC g (fun t=>XT g t (QB g t) (Zi g t)) ((List.range g.types.length).drop k)) (fun k=>g.types.length - k) 0 ⟨by omega,hr⟩ (by repeat (first|exact zT|refine zM rfl ?_|(refine qg rfl ?_ ?_;· simp))) tH ?_
   clear hr hk hlt
   rintro k ⟨hk,hr⟩
   by_cases hlt:k < g.types.length
   ·have he:=zst hlt
    have hfl:=zjo hF.formed hlt
    have hz:=zpJ hfl.1 hfl.2
    have ck:=Zr g hF.formed (k:Int)
    rw [XI hlt,stC,zup] at hr
    by_cases hk0:zB g (k:Int)=0
    ·have cw:=zlU g hF (k:Int) hk0
     rw [hwe] at cw
     rw [hk0] at ck hr
     cases hb:zW (g.types.getD ((k:Int)).toNat default).flags 4
     ·rw [hb] at hz hr
      cases hw2:XT g (k:Int) (QB g (k:Int)) (Zi g (k:Int))
      ·rw [hw2] at cw hr
       repeat' (first|(refine shC ?_;first|refine qC ck ?_|refine qC cw ?_)|(refine shX ?_;first|refine qX he ?_)|refine sK ?_|refine sC (fun _=>?_) (fun _=>?_)|fail)
       exact retq rfl (by rw [hr];rfl)
      ·rw [hw2] at cw hr
       repeat' (first|(refine shC ?_;first|refine qC ck ?_|refine qC cw ?_)|(refine shX ?_;first|refine qX he ?_)|refine sK ?_|refine sC (fun _=>?_) (fun _=>?_)|fail)
       exact ⟨k + 1,⟨hlt,hr⟩,tD,tS,tH⟩
     ·rw [hb] at hz hr
      repeat' (first|(refine shC ?_;first|refine qC ck ?_)|(refine shX ?_;first|refine qX he ?_)|refine sK ?_|refine sC (fun _=>?_) (fun _=>?_)|fail)
      exact ⟨k + 1,⟨hlt,hr⟩,tD,tS,tH⟩
    ·have hkb:(zB g (k:Int)==0)=false:=by simp [hk0]
     rw [hkb] at hr
     repeat' (first|(refine shC ?_;first|refine qC ck ?_)|(refine shX ?_;first|refine qX he ?_)|refine sK ?_|refine sC (fun _=>?_) (fun _=>?_)|fail)
     exact ⟨k + 1,⟨hlt,hr⟩,tD,tS,tH⟩
   ·have hk2:k=g.types.length:=by omega
    subst hk2
    rw [VF,stC] at hr
    repeat' (first|refine sK ?_|refine sC (fun _=>?_) (fun _=>?_)|fail)
    refine zo (fun k:Nat=>[(1,.pv (.ptr (zq g) 0)),(2,.box 0 0),(71,.pv (pi g.types.length)),(72,.pv (pi k))]) (fun _=>[(0,.cell (.pv (.agg [pi 0,pi 0])))])
     (fun k=>k≤g.types.length∧yC g=stD g ((List.range g.types.length).drop k)) (fun k=>g.types.length - k) 0 ⟨by omega,hr⟩ (by repeat (first|exact zT|refine zM rfl ?_|(refine qg rfl ?_ ?_;· simp))) tH ?_
    clear hr hk hlt
    rintro k ⟨hk,hr⟩
    by_cases hlt:k < g.types.length
    ·have ck:=Zr g hF.formed (k:Int)
     have cm:=YR g (k:Int) (by omega)
     have hlz:=zk9 (l:=methodsOf g (k:Int))
     rw [XI hlt,stD,zqp] at hr
     by_cases hk3:zB g (k:Int)=3
     ·rw [hk3] at ck hr
      cases hb:(methodsOf g (k:Int)).length==0
      ·rw [hb] at hlz hr
       repeat' (first|(refine shC ?_;first|refine qC ck ?_|refine qC cm ?_)|refine sK ?_|refine sC (fun _=>?_) (fun _=>?_)|fail)
       exact ⟨k + 1,⟨hlt,hr⟩,tD,tS,tH⟩
      ·rw [hb] at hlz hr
       repeat' (first|(refine shC ?_;first|refine qC ck ?_|refine qC cm ?_)|refine sK ?_|refine sC (fun _=>?_) (fun _=>?_)|fail)
       exact retq rfl (by rw [hr];rfl)
     ·have hkb:(zB g (k:Int)==3)=false:=by simp [hk3]
      rw [hkb] at hr
      repeat' (first|(refine shC ?_;first|refine qC ck ?_)|refine sK ?_|refine sC (fun _=>?_) (fun _=>?_)|fail)
      exact ⟨k + 1,⟨hlt,hr⟩,tD,tS,tH⟩
    ·have hk2:k=g.types.length:=by omega
     subst hk2
     rw [VF,stD,stE] at hr
     by_cases h0:0≤g.entry
     ·have hen:=zkV hF.formed h0
      have hem:=ZR hen
      have cb:=zkm g _ (YV hF.formed hen)
      rw [decide_eq_true h0] at hr
      cases hb:zr3 (mAt g g.entry)
      ·rw [hb] at cb hr
       repeat' (first|(refine shC ?_;first|refine qC cb ?_)|(refine shX ?_;first|refine zu rfl (zk zh rfl rfl rfl rfl rfl rfl h0 hem) rfl rfl ?_|refine AD.step _ _ _ _ _ rfl (zk zh rfl rfl rfl rfl rfl rfl h0 hem) rfl rfl ?_)|refine sK ?_|refine sC (fun _=>?_) (fun _=>?_)|fail)
       exact retq rfl (by rw [hr];rfl)
      ·rw [hb] at cb hr
       repeat' (first|(refine shC ?_;first|refine qC cb ?_)|(refine shX ?_;first|refine zu rfl (zk zh rfl rfl rfl rfl rfl rfl h0 hem) rfl rfl ?_|refine AD.step _ _ _ _ _ rfl (zk zh rfl rfl rfl rfl rfl rfl h0 hem) rfl rfl ?_)|refine sK ?_|refine sC (fun _=>?_) (fun _=>?_)|fail)
       exact retq rfl (by rw [hr];rfl)
     ·rw [decide_eq_false h0] at hr
      repeat' (first|refine sK ?_|refine sC (fun _=>?_) (fun _=>?_)|fail)
      exact retq rfl (by rw [hr];rfl)
set_option maxHeartbeats 4000000 in
theorem ziv (g:Img):ACall Tryz.prog 29 [zq g] (zeJ (yC g)):=by
 have c0:=znk g
 refine zf zh Tryz.func29 rfl (by kernel_rfl) Tryz.ntmps29 (by simp) _ rfl (fun hw gB hgB=>?_)
 cases hfi:zcm g
 ·rw [hfi] at c0
  repeat' (first|(refine shC ?_;first|refine qC c0 ?_)|refine sK ?_|refine sC (fun _=>?_) (fun _=>?_)|fail)
  exact retq rfl (by rw [yC,hfi];rfl)
 ·rw [hfi] at c0
  have hF:=Xk hfi
  obtain ⟨hgt,_,hgm,_⟩:=zF hF.formed
  have hr0:yC g=stM g (List.range g.methods.length):=by rw [yC,hfi];rfl
  repeat' (first|(refine shC ?_;first|refine qC c0 ?_)|refine sK ?_|refine sC (fun _=>?_) (fun _=>?_)|fail)
  refine zo (fun k:Nat=>[(1,.pv (.ptr (zq g) 0)),(2,.box 0 0),(4,.pv (pi k))]) (fun _=>[(0,.cell (.pv (.agg [pi 0,pi 0])))])
   (fun k=>k≤g.methods.length∧yC g=stM g ((List.range g.methods.length).drop k)) (fun k=>g.methods.length - k) 0 ⟨by omega,hr0⟩ (tS) tH ?_
  rintro k ⟨hk,hr⟩
  by_cases hlt:k < g.methods.length
  ·have he:=zsH hlt
   have hM:=YV hF.formed (zkx hlt)
   have cf:=zgA g hF.formed _ hM
   have ct:=ziD g _ hM
   rw [XI hlt,stM] at hr
   cases hf:zgf g (mAt g (k:Int))
   ·rw [hf] at cf hr
    repeat' (first|(refine shC ?_;first|refine qC cf ?_)|(refine shX ?_;first|refine qX he ?_)|refine sK ?_|refine sC (fun _=>?_) (fun _=>?_)|fail)
    exact retq rfl (by rw [hr];rfl)
   ·rw [hf] at cf hr
    cases ht:XP g (mAt g (k:Int))
    ·rw [ht] at ct hr
     repeat' (first|(refine shC ?_;first|refine qC cf ?_|refine qC ct ?_)|(refine shX ?_;first|refine qX he ?_)|refine sK ?_|refine sC (fun _=>?_) (fun _=>?_)|fail)
     exact retq rfl (by rw [hr];rfl)
    ·rw [ht] at ct hr
     repeat' (first|(refine shC ?_;first|refine qC cf ?_|refine qC ct ?_)|(refine shX ?_;first|refine qX he ?_)|refine sK ?_|refine sC (fun _=>?_) (fun _=>?_)|fail)
     exact ⟨k + 1,⟨hlt,hr⟩,tD,tS,tH⟩
  ·have hk2:k=g.methods.length:=by omega
   subst hk2
   rw [VF,stM] at hr
   repeat' (first|refine sK ?_|refine sC (fun _=>?_) (fun _=>?_)|fail)
   refine zo (fun k:Nat=>[(1,.pv (.ptr (zq g) 0)),(2,.box 0 0),(5,.pv (pi k))]) (fun _=>[(0,.cell (.pv (.agg [pi 0,pi 0])))])
    (fun k=>k≤g.types.length∧yC g=stC g (fun t=>XT g t (QB g t) (Zi g t)) ((List.range g.types.length).drop k)) (fun k=>g.types.length - k) 0 ⟨by omega,hr⟩ (tS) tH ?_
   clear hr hk hlt
   rintro k ⟨hk,hr⟩
   by_cases hlt:k < g.types.length
   ·have he:=zst hlt
    have hfl:=zjo hF.formed hlt
    have hz:=zqG hfl.1 hfl.2
    have ck:=qh g (k:Int)
    rw [XI hlt,stC,zup] at hr
    by_cases hk0:zB g (k:Int)=0
    ·have cw:=ziz g hF (k:Int) hk0
     rw [hk0] at ck hr
     cases hb:zW (g.types.getD ((k:Int)).toNat default).flags 4
     ·rw [hb] at hz hr
      cases hw2:XT g (k:Int) (QB g (k:Int)) (Zi g (k:Int))
      ·rw [hw2] at cw hr
       repeat' (first|(refine shC ?_;first|refine qC ck ?_|refine qC cw ?_)|(refine shX ?_;first|refine qX he ?_)|refine sK ?_|refine sC (fun _=>?_) (fun _=>?_)|fail)
       exact retq rfl (by rw [hr];rfl)
      ·rw [hw2] at cw hr
       repeat' (first|(refine shC ?_;first|refine qC ck ?_|refine qC cw ?_)|(refine shX ?_;first|refine qX he ?_)|refine sK ?_|refine sC (fun _=>?_) (fun _=>?_)|fail)
       exact ⟨k + 1,⟨hlt,hr⟩,tD,tS,tH⟩
     ·rw [hb] at hz hr
      repeat' (first|(refine shC ?_;first|refine qC ck ?_)|(refine shX ?_;first|refine qX he ?_)|refine sK ?_|refine sC (fun _=>?_) (fun _=>?_)|fail)
      exact ⟨k + 1,⟨hlt,hr⟩,tD,tS,tH⟩
    ·have hkb:(zB g (k:Int)==0)=false:=by simp [hk0]
     rw [hkb] at hr
     repeat' (first|(refine shC ?_;first|refine qC ck ?_)|(refine shX ?_;first|refine qX he ?_)|refine sK ?_|refine sC (fun _=>?_) (fun _=>?_)|fail)
     exact ⟨k + 1,⟨hlt,hr⟩,tD,tS,tH⟩
   ·have hk2:k=g.types.length:=by omega
    subst hk2
    rw [VF,stC] at hr
    repeat' (first|refine sK ?_|refine sC (fun _=>?_) (fun _=>?_)|fail)
    refine zo (fun k:Nat=>[(1,.pv (.ptr (zq g) 0)),(2,.box 0 0),(6,.pv (pi k))]) (fun _=>[(0,.cell (.pv (.agg [pi 0,pi 0])))])
     (fun k=>k≤g.types.length∧yC g=stD g ((List.range g.types.length).drop k)) (fun k=>g.types.length - k) 0 ⟨by omega,hr⟩ (tS) tH ?_
    clear hr hk hlt
    rintro k ⟨hk,hr⟩
    by_cases hlt:k < g.types.length
    ·have ck:=qh g (k:Int)
     have cm:=YS g (k:Int) (by omega)
     have hlz:=zk9 (l:=methodsOf g (k:Int))
     rw [XI hlt,stD,zqp] at hr
     by_cases hk3:zB g (k:Int)=3
     ·rw [hk3] at ck hr
      cases hb:(methodsOf g (k:Int)).length==0
      ·rw [hb] at hlz hr
       repeat' (first|(refine shC ?_;first|refine qC ck ?_|refine qC cm ?_)|refine sK ?_|refine sC (fun _=>?_) (fun _=>?_)|fail)
       exact ⟨k + 1,⟨hlt,hr⟩,tD,tS,tH⟩
      ·rw [hb] at hlz hr
       repeat' (first|(refine shC ?_;first|refine qC ck ?_|refine qC cm ?_)|refine sK ?_|refine sC (fun _=>?_) (fun _=>?_)|fail)
       exact retq rfl (by rw [hr];rfl)
     ·have hkb:(zB g (k:Int)==3)=false:=by simp [hk3]
      rw [hkb] at hr
      repeat' (first|(refine shC ?_;first|refine qC ck ?_)|refine sK ?_|refine sC (fun _=>?_) (fun _=>?_)|fail)
      exact ⟨k + 1,⟨hlt,hr⟩,tD,tS,tH⟩
    ·have hk2:k=g.types.length:=by omega
     subst hk2
     rw [VF,stD,stE] at hr
     by_cases h0:0≤g.entry
     ·have hen:=zkV hF.formed h0
      have hem:=ZR hen
      have hM:=YV hF.formed hen
      have b1:=zju (mAt g g.entry)
      have b4:=zfw (mAt g g.entry)
      have hmay:Qm (mAt g g.entry).ret 3 g.types.length=true:=by
       have:=hM.formed
       simp only [yV,Bool.and_eq_true] at this
       exact this.1.1.1.2
      have hnr:(mAt g g.entry).ret.ref=false:=by
       have hpl:=(VG hmay).1
       rw [Qm,Bool.and_eq_true,Ze,hpl] at hmay
       simpa using hmay.1
      have hl0:decide (0 < ((((mAt g g.entry).params.map yK).length:Nat):Int))=!((mAt g g.entry).params.length==0):=by
       rw [List.length_map,Bool.eq_iff_iff]
       simp only [decide_eq_true_eq,Bool.not_eq_true',beq_eq_false_iff_ne]
       omega
      rw [decide_eq_true h0,zr3,ztp (VG hmay).1 hnr] at hr
      generalize zW (mAt g g.entry).flags 1=c1 at b1 hr
      generalize zW (mAt g g.entry).flags 4=c4 at b4 hr
      repeat' (first|(refine shX ?_;first|refine zu rfl (zk zh rfl rfl rfl rfl rfl rfl h0 hem) rfl rfl ?_|refine AD.step _ _ _ _ _ rfl (zk zh rfl rfl rfl rfl rfl rfl h0 hem) rfl rfl ?_)|refine sK ?_|refine sC (fun _=>?_) (fun _=>?_)|fail)
      all_goals repeat' (first|(refine shC ?_;first|refine qC b1 ?_|refine qC b4 ?_)|refine sA ?_|refine sC (fun _=>?_) (fun _=>?_)|fail)
      all_goals (refine retq rfl ?_;rw [hr];clear hr hr0;first|(rw [if_neg (by simp_all)];rfl)|(rw [if_pos (by simp_all)];rfl))
     ·rw [decide_eq_false h0] at hr
      repeat' (first|refine sK ?_|refine sC (fun _=>?_) (fun _=>?_)|fail)
      exact retq rfl (by rw [hr];rfl)
end Go.Cg
