/- A part of the walks by abstract values: no statement of its own. -/
import Derived.Test.YtdlokcmodgccnaaGreatF26
import Derived.Test.YtdlokcmodgccnaaGreatF16
set_option linter.unusedVariables false
set_option linter.unusedSimpArgs false
namespace Go.Cg
open Go.Proofs
set_option maxHeartbeats 20000000
theorem znd (p:Int→Int→Bool) (f:FuncId) (first cap:List PV) (a b:Int) (hp:ACall Tryz.prog f (first++[pi a,pi b]++cap) (pb (p a b))):ACall Tryz.prog 273 [pi b,.ptr (.fn (.func f) first cap) 0,.ptr (pi a) 0] (pb (p a b)):=by
 refine zf zh Tryz.func273 rfl (by kernel_rfl) Tryz.ntmps273 (by simp) _ rfl (fun hw gB hgB=>?_)
 repeat' (first|(refine shC ?_;first|refine qV (hp) ?_)|refine sA ?_|refine sC (fun _=>?_) (fun _=>?_)|fail)
 exact retq rfl rfl
theorem zir (l:List Int) (p:Int→Int→Bool) (f:FuncId) (first cap:List PV) (hp:∀ a∈l,∀ b∈l,ACall Tryz.prog f (first++[pi a,pi b]++cap) (pb (p a b))):ACall Tryz.prog 243 [ints l,.fn (.func f) first cap] (pb (zcE l p)):=by
 refine zf zh Tryz.func243 rfl (by kernel_rfl) Tryz.ntmps243 (by simp) _ rfl (fun hw gB hgB=>?_)
 have hl:=zcv hw.1
 repeat' (first|refine sA ?_|refine sC (fun _=>?_) (fun _=>?_)|fail)
 refine zo (fun k:Nat=>[(0,.pv (ints l)),(3,.pv (.ptr (.fn (.func f) first cap) 0)),(7,.pv (ints l)),(8,.pv (pi l.length)),(9,.pv (pi k))]) (fun _=>[]) (fun k=>k≤l.length∧zcE l p=((List.range l.length).drop k).any fun i=>(l.take i).any (p (l.getD i 0))) (fun k=>l.length - k) 0 ⟨by omega,rfl⟩ (tS) tH ?_
 rintro k ⟨hk,hr⟩
 by_cases hlt:k < l.length
 ·have he:=yT hlt
  have c1:=QT (l.take k) (p l[k]) 273 [] [.ptr (.fn (.func f) first cap) 0,.ptr (pi l[k]) 0] (fun x hx=>znd p f first cap l[k] x (hp _ (List.getElem_mem hlt) x (List.mem_of_mem_take hx)))
  rw [zhi hlt,zx hlt] at hr
  repeat' (first|refine zbc (t:=6) rfl rfl rfl ?_|refine zu rfl (Zc (xs:=l) (f:=pi) 0 k zh rfl rfl rfl rfl rfl rfl rfl (by omega) (by omega)) rfl rfl ?_|(refine shC ?_;first|refine qC c1 ?_)|(refine shX ?_;first|refine qX he ?_)|refine sK ?_|refine sC (fun _=>?_) (fun _=>?_)|fail)
  all_goals first|(refine retq rfl ?_;first|(simp only [zi,BL,List.length_map] at *;simp only [*,BL,List.length_map];done)|(simp_all [zi];done)|(simp_all [zi];omega)|(simp_all [zi];intros;omega))|(refine ⟨k + 1,⟨by omega,?_⟩,tD,tS,tH⟩;first|(simp only [BL,List.length_map] at *;simp only [*,BL,List.length_map];done)|(simp_all [];done)|(simp_all [];omega)|(simp_all [];intros;omega))|(trace "LEND";trace_state)
 ·rw [drop_end (by simp;omega)] at hr
  repeat' (first|refine sK ?_|refine sC (fun _=>?_) (fun _=>?_)|fail)
  all_goals first|(refine retq rfl ?_;first|(simp only [zi,BL,List.length_map] at *;simp only [*,BL,List.length_map];done)|(simp_all [zi];done)|(simp_all [zi];omega)|(simp_all [zi];intros;omega))|(refine ZA rfl ?_;first|(simp only [zi,BL,List.length_map] at *;simp only [*,BL,List.length_map];done)|(simp_all [zi];done)|(simp_all [zi];omega)|(simp_all [zi];intros;omega))|skip
theorem zmJ (g:Img) (a b:Int) (ha0:0≤a) (ha:a.toNat < g.fields.length) (hb0:0≤b) (hb:b.toNat < g.fields.length):ACall Tryz.prog 244 [pi a,pi b,.ptr (zq g) 0] (pb (zgX g a b)):=by
 refine zf zh Tryz.func244 rfl (by kernel_rfl) Tryz.ntmps244 (by simp) _ rfl (fun hw gB hgB=>?_)
 have hea:=qE (f:=Yc) ha
 have heb:=qE (f:=Yc) hb
 repeat' (first|(refine shX ?_;first|refine zu rfl (zk zh rfl rfl rfl rfl rfl rfl ha0 hea) rfl rfl ?_|refine AD.step _ _ _ _ _ rfl (zk zh rfl rfl rfl rfl rfl rfl ha0 hea) rfl rfl ?_|refine zu rfl (zk zh rfl rfl rfl rfl rfl rfl hb0 heb) rfl rfl ?_|refine AD.step _ _ _ _ _ rfl (zk zh rfl rfl rfl rfl rfl rfl hb0 heb) rfl rfl ?_)|refine sA ?_|refine sC (fun _=>?_) (fun _=>?_)|fail)
 exact retq rfl (by simp only [zi,zgX,fName,zx ha,zx hb])
theorem zem (a b:List Ty):ACall Tryz.prog 182 [tys a,tys b] (pb (decide (a=b))):=by
 refine zf zh Tryz.func182 rfl (by kernel_rfl) Tryz.ntmps182 (by simp) _ rfl (fun hw gB hgB=>?_)
 have hl:=zgS hw.1
 by_cases hlen:a.length=b.length
 ·repeat' (first|refine sK ?_|refine sC (fun _=>?_) (fun _=>?_)|fail)
  refine zo (fun k:Nat=>[(0,.pv (tys a)),(1,.pv (tys b)),(11,.pv (tys a)),(12,.pv (pi a.length)),(13,.pv (pi k))]) (fun _=>[]) (fun k=>k≤a.length∧a.take k=b.take k) (fun k=>a.length - k) 0 ⟨by simp,by simp⟩ (tS) tH ?_
  rintro k ⟨hk,hno⟩
  by_cases hlt:k < a.length
  ·have he:=zgG hlt
   have hltb:k < b.length:=by omega
   have he':=zgG hltb
   repeat' (first|(refine shX ?_;first|refine qX he ?_|refine qX he' ?_)|refine sK ?_|refine sC (fun _=>?_) (fun _=>?_)|fail)
   ·rename_i h
    refine retq rfl ?_
    have:a≠b:=by
     rintro rfl
     simp at h
    simp [zi,this]
   ·rename_i h
    have e:a[k]=b[k]:=by
     simp only [Bool.not_eq_false'] at h
     rw [QD] at h
     simpa using h
    exact ⟨k + 1,⟨by omega,zee hlt hltb hno e⟩,tD,tS,tH⟩
  ·repeat' (first|refine sK ?_|refine sC (fun _=>?_) (fun _=>?_)|fail)
   refine retq rfl ?_
   rw [List.take_of_length_le (by omega),List.take_of_length_le (by omega)] at hno
   simp [zi,hno]
 ·have hne:a≠b:=by rintro rfl;exact hlen rfl
  have hb:((((a.map yK).length:Nat):Int) != (((b.map yK).length:Nat):Int))=true:=by simp;omega
  repeat' (first|refine sK ?_|refine sC (fun _=>?_) (fun _=>?_)|fail)
  exact retq rfl (by simp [zi,hne])
abbrev zMe:AV:=.pv (.agg [.base (.string ByteArray.empty),pi 0,pi 0,.base (.slice none 0 0),pi 0,pi 0,pi 0,pb false,.base (.slice none 0 0),pi 0,.base (.slice none 0 0),.base (.slice none 0 0)])
theorem zm9 (g:Img) (a b:Int) (ha0:0≤a) (ha:a.toNat < g.methods.length) (hb0:0≤b) (hb:b.toNat < g.methods.length):ACall Tryz.prog 245 [pi a,pi b,.ptr (zq g) 0] (pb (Vl (mAt g a) (mAt g b))):=by
 refine zf zh Tryz.func245 rfl (by kernel_rfl) Tryz.ntmps245 (by simp) _ rfl (fun hw gB hgB=>?_)
 have hea:=qE (f:=zG) ha
 have heb:=qE (f:=zG) hb
 rw [mAt,mAt,zx ha,zx hb]
 generalize g.methods[a.toNat]=x at hea ⊢
 generalize g.methods[b.toNat]=y at heb ⊢
 have hty:=QD x.ret y.ret
 have c1:=zem x.params y.params
 repeat' (first|refine zmo rfl ?_|refine sA ?_|fail)
 refine zfs 10 11 [0,1,2,3,4,5,6,7,8,9,10,11,12,13] [0,1,2,3,4,5,6,7,8,9,10,11,12,13] [0,1,2,3,4,5,6,7,8,9,11,10,12,13] [0,1,2,3,4,5,6,7,8,9,11,10,12,13] rfl (by kernel_rfl) (by kernel_rfl) (zmE (by kernel_rfl) ?_) (zmE (by kernel_rfl) ?_)
 ·refine zc0 14 14 [10,11,12,13] [] (mkL [[],[(0,.cell zMe)],[(1,.cell zMe),(0,.cell zMe)],[(0,.cell (.pv (zG x))),(1,.cell zMe),(0,.cell zMe)],[(1,.cell (.pv (zG y))),(0,.cell (.pv (zG x))),(1,.cell zMe),(0,.cell zMe)]]) (mkL [[],[(0,.cell zMe)],[(1,.cell zMe),(0,.cell zMe)],[(0,.cell (.pv (zG x))),(1,.cell zMe),(0,.cell zMe)],[(1,.cell (.pv (zG y))),(0,.cell (.pv (zG x))),(1,.cell zMe),(0,.cell zMe)]]) [] none rfl (by kernel_rfl) (by kernel_rfl) (by kernel_rfl) (by kernel_rfl) (by kernel_rfl) (by kernel_rfl) (fun p hp=>by simp at hp) rfl (VN rfl ⟨tH,tH,tH,tH,tH,trivial⟩) rfl (Yr rfl rfl) (fun q h=>Yr rfl rfl q 4 h (Nat.le_refl 4)) tH rfl (fun v hv=>by cases hv) ?_
  repeat' (first|refine ZQ 10 [0,1,2] (.box 0 0) rfl rfl rfl rfl rfl ?_|refine ZQ 0 [0,1] (.box 1 0) rfl rfl rfl rfl rfl ?_|refine Qd [0] (.pv (.tup [])) rfl rfl rfl ?_|refine Qd [] (.pv (.tup [])) rfl rfl rfl ?_|refine ⟨⟨rfl,Xi zh 0 rfl rfl rfl rfl,.inr (by kernel_rfl)⟩,?_⟩|refine ⟨⟨rfl,Xi zh 1 rfl rfl rfl rfl,.inr (by kernel_rfl)⟩,?_⟩|refine ⟨⟨rfl,zbn zh rfl rfl rfl rfl rfl rfl rfl,.inl rfl⟩,?_⟩|refine Qc ?_|intro _|refine zaS ?_|(refine shC ?_;first|refine qC c1 ?_)|(refine shX ?_;first|refine zu rfl (zk zh rfl rfl rfl rfl rfl rfl ha0 hea) rfl rfl ?_|refine AD.step _ _ _ _ _ rfl (zk zh rfl rfl rfl rfl rfl rfl ha0 hea) rfl rfl ?_|refine zu rfl (zk zh rfl rfl rfl rfl rfl rfl hb0 heb) rfl rfl ?_|refine AD.step _ _ _ _ _ rfl (zk zh rfl rfl rfl rfl rfl rfl hb0 heb) rfl rfl ?_)|refine sK ?_|refine sC (fun _=>?_) (fun _=>?_)|fail)
  all_goals refine retq rfl ?_
  all_goals (simp only [zi,Vl,←hty];clear hty;simp_all)
 ·refine zc0 14 14 [10,11,12,13] [] (mkL [[],[(1,.cell zMe)],[(0,.cell zMe),(1,.cell zMe)],[(0,.cell (.pv (zG x))),(0,.cell zMe),(1,.cell zMe)],[(1,.cell (.pv (zG y))),(0,.cell (.pv (zG x))),(0,.cell zMe),(1,.cell zMe)]]) (mkL [[],[(1,.cell zMe)],[(0,.cell zMe),(1,.cell zMe)],[(0,.cell (.pv (zG x))),(0,.cell zMe),(1,.cell zMe)],[(1,.cell (.pv (zG y))),(0,.cell (.pv (zG x))),(0,.cell zMe),(1,.cell zMe)]]) [] none rfl (by kernel_rfl) (by kernel_rfl) (by kernel_rfl) (by kernel_rfl) (by kernel_rfl) (by kernel_rfl) (fun p hp=>by simp at hp) rfl (VN rfl ⟨tH,tH,tH,tH,tH,trivial⟩) rfl (Yr rfl rfl) (fun q h=>Yr rfl rfl q 4 h (Nat.le_refl 4)) tH rfl (fun v hv=>by cases hv) ?_
  repeat' (first|refine ZQ 10 [0,1,2] (.box 1 0) rfl rfl rfl rfl rfl ?_|refine ZQ 0 [0,1] (.box 0 0) rfl rfl rfl rfl rfl ?_|refine Qd [0] (.pv (.tup [])) rfl rfl rfl ?_|refine Qd [] (.pv (.tup [])) rfl rfl rfl ?_|refine ⟨⟨rfl,Xi zh 1 rfl rfl rfl rfl,.inr (by kernel_rfl)⟩,?_⟩|refine ⟨⟨rfl,Xi zh 0 rfl rfl rfl rfl,.inr (by kernel_rfl)⟩,?_⟩|refine ⟨⟨rfl,zbn zh rfl rfl rfl rfl rfl rfl rfl,.inl rfl⟩,?_⟩|refine Qc ?_|intro _|refine zaS ?_|(refine shC ?_;first|refine qC c1 ?_)|(refine shX ?_;first|refine zu rfl (zk zh rfl rfl rfl rfl rfl rfl ha0 hea) rfl rfl ?_|refine AD.step _ _ _ _ _ rfl (zk zh rfl rfl rfl rfl rfl rfl ha0 hea) rfl rfl ?_|refine zu rfl (zk zh rfl rfl rfl rfl rfl rfl hb0 heb) rfl rfl ?_|refine AD.step _ _ _ _ _ rfl (zk zh rfl rfl rfl rfl rfl rfl hb0 heb) rfl rfl ?_)|refine sK ?_|refine sC (fun _=>?_) (fun _=>?_)|fail)
  all_goals refine retq rfl ?_
  all_goals (simp only [zi,Vl,←hty];clear hty;simp_all)
theorem zmP (g:Img) (t:Int) (td:TD) (htd:typeAt g t=some td) (hg:g.types.length≤1000) (hgf:g.fields.length≤1000) (hgm:g.methods.length≤1000):ACall Tryz.prog 220 [zq g,pi t] (pb (zfu g t td)):=by
 refine zf zh Tryz.func220 rfl (by kernel_rfl) Tryz.ntmps220 (by simp) _ rfl (fun hw gB hgB=>?_)
 obtain ⟨h0,heT⟩:=yQ htd
 have cf:=zir (fieldsOf g t) (zgX g) 244 [] [.ptr (zq g) 0] (fun a ha b hb=>zmJ g a b (qU ha).1 (qU ha).2 (qU hb).1 (qU hb).2)
 have cm:=zir (methodsOf g t) (fun a b=>Vl (mAt g a) (mAt g b)) 245 [] [.ptr (zq g) 0] (fun a ha b hb=>zm9 g a b (yx ha).1 (yx ha).2 (yx hb).1 (yx hb).2)
 repeat' (first|refine sA ?_|refine sC (fun _=>?_) (fun _=>?_)|fail)
 refine zo (fun k:Nat=>[(1,.pv (pi t)),(2,.pv (.ptr (zq g) 0)),(8,.pv (.slc 4 (g.types.map Zb) false)),(9,.pv (pi g.types.length)),(10,.pv (pi k))]) (fun _=>[]) (fun k=>k≤g.types.length∧zfu g t td=(((List.range g.types.length).drop k).all (Vz g t td)&&!zcE (fieldsOf g t) (zgX g)&&!zcE (methodsOf g t) (fun a b=>Vl (mAt g a) (mAt g b)))) (fun k=>g.types.length - k) 0 ⟨by omega,rfl⟩ (tS) tH ?_
 rintro k ⟨hk,hr⟩
 by_cases hlt:k < g.types.length
 ·have he:=zA (f:=Zb) hlt
  rw [yZ hlt,Vz,zx hlt] at hr
  repeat' (first|(refine shX ?_;first|refine qX he ?_|refine zu rfl (zk zh rfl rfl rfl rfl rfl rfl h0 heT) rfl rfl ?_|refine AD.step _ _ _ _ _ rfl (zk zh rfl rfl rfl rfl rfl rfl h0 heT) rfl rfl ?_)|refine sK ?_|refine sC (fun _=>?_) (fun _=>?_)|fail)
  all_goals first|(refine retq rfl ?_;first|(simp only [zi,BL,List.length_map] at *;simp only [*,BL,List.length_map];done)|(simp_all [zi];done)|(simp_all [zi];omega)|(simp_all [zi];intros;omega))|(refine ⟨k + 1,⟨by omega,?_⟩,tD,tS,tH⟩;first|(simp only [BL,List.length_map] at *;simp only [*,BL,List.length_map];done)|(simp_all [];done)|(simp_all [];omega)|(simp_all [];intros;omega))|(trace "LEND";trace_state)
 ·rw [drop_end (by simp;omega)] at hr
  repeat' (first|(refine shC ?_;first|refine qC (Xw g t hgf) ?_|refine qC (YR g t hgm) ?_|refine qC cf ?_|refine qC cm ?_)|refine sK ?_|refine sC (fun _=>?_) (fun _=>?_)|fail)
  all_goals first|(refine retq rfl ?_;first|(simp only [zi,BL,List.length_map] at *;simp only [*,BL,List.length_map];done)|(simp_all [zi];done)|(simp_all [zi];omega)|(simp_all [zi];intros;omega))|(refine ZA rfl ?_;first|(simp only [zi,BL,List.length_map] at *;simp only [*,BL,List.length_map];done)|(simp_all [zi];done)|(simp_all [zi];omega)|(simp_all [zi];intros;omega))|skip
set_option maxHeartbeats 20000000
theorem zmr (g:Img) (t:Int) (hF:Fm g):ACall Tryz.prog 242 [pi t,.ptr (zq g) 0] (ints (yg g t)):=by
 refine zf zh Tryz.func242 rfl (by kernel_rfl) Tryz.ntmps242 (by simp) _ rfl (fun hw gB hgB=>?_)
 repeat' (first|(refine shC ?_;first|refine zu rfl (qw rfl rfl (WH g t (by have:=(hF.at t).1;omega) (fun f hf=>WO ((hF.at t).2 f hf)))) rfl rfl ?_|refine AD.step _ _ _ _ _ rfl (qw rfl rfl (WH g t (by have:=(hF.at t).1;omega) (fun f hf=>WO ((hF.at t).2 f hf)))) rfl rfl ?_)|refine sA ?_|refine sC (fun _=>?_) (fun _=>?_)|fail)
 exact retq rfl rfl
theorem zlb (g:Img) (t:Int) (hf:zJ g=true):ACall Tryz.prog 247 [pi t,.ptr (zq g) 0] (ints (partsOf g t)):=by
 refine zf zh Tryz.func247 rfl (by kernel_rfl) Tryz.ntmps247 (by simp) _ rfl (fun hw gB hgB=>?_)
 repeat' (first|(refine shC ?_;first|refine qC (zfY g t hf) ?_)|refine sA ?_|refine sC (fun _=>?_) (fun _=>?_)|fail)
 exact retq rfl rfl
theorem zhe (g:Img) (hf:zJ g=true) (t:Int) (td:TD) (htd:typeAt g t=some td):ACall Tryz.prog 89 [Zb td] (pi (zB g t)):=by
 have:=zeL td
 obtain ⟨h0,h1,_⟩:=Vr hf htd
 rw [zin h0 h1] at this
 rw [zB,htd];exact this
theorem zmm (g:Img) (t:Int) (td:TD) (htd:typeAt g t=some td) (hf:zJ g=true):ACall Tryz.prog 219 [zq g,pi t] (pb (zfd g t td)):=by
 refine zf zh Tryz.func219 rfl (by kernel_rfl) Tryz.ntmps219 (by simp) _ rfl (fun hw gB hgB=>?_)
 obtain ⟨h0,he⟩:=yQ htd
 have hF:=zdc hf
 have hn:=hF.n
 obtain ⟨hf1,hf2⟩:=hF.faces td (VW htd)
 have c0:=zhe g hf t td htd
 have c1:=zdi g.types.length (by omega) td.faces (yg g) 242 [] [.ptr (zq g) 0] hf2 (by omega)
  (fun x h0 h1=>zmr g x hF) (fun x h0 h1=>⟨by have:=(hF.at x).1;omega,(hF.at x).2⟩)
 repeat' (first|(refine shX ?_;first|refine zu rfl (zk zh rfl rfl rfl rfl rfl rfl h0 he) rfl rfl ?_|refine AD.step _ _ _ _ _ rfl (zk zh rfl rfl rfl rfl rfl rfl h0 he) rfl rfl ?_)|refine sA ?_|refine sC (fun _=>?_) (fun _=>?_)|fail)
 refine zo (fun k:Nat=>[(1,.pv (pi t)),(2,.pv (.ptr (zq g) 0)),(5,.pv (ints td.faces)),(15,.pv (ints td.faces)),(16,.pv (pi td.faces.length)),(17,.pv (pi k))]) (fun _=>[]) (fun k=>k≤td.faces.length∧zfd g t td=(((List.range td.faces.length).drop k).all (zbG g td.faces)&&(zB g t != 2||!decide (t∈sortL (QU g.types.length (yg g) td.faces))))) (fun k=>td.faces.length - k) 0 ⟨by simp,rfl⟩ (tS) tH ?_
 rintro k ⟨hk,hr⟩
 by_cases hlt:k < td.faces.length
 ·have hef:=yT hlt
  rw [yZ hlt,zbG,zx hlt] at hr
  repeat' (first|refine zu rfl (Zc (xs:=td.faces) (f:=pi) 0 k zh rfl rfl rfl rfl rfl rfl rfl (by omega) (by omega)) rfl rfl ?_|(refine shC ?_;first|refine qC (Zr g hf _) ?_|refine qC (YP (td.faces.take k) _) ?_)|(refine shX ?_;first|refine qX hef ?_)|refine sK ?_|refine sC (fun _=>?_) (fun _=>?_)|fail)
  all_goals first|(refine retq rfl ?_;first|(simp only [zi,BL,List.length_map] at *;simp only [*,BL,List.length_map];done)|(simp_all [zi];done)|(simp_all [zi];omega)|(simp_all [zi];intros;omega))|(refine ⟨k + 1,⟨by omega,?_⟩,tD,tS,tH⟩;first|(simp only [BL,List.length_map] at *;simp only [*,BL,List.length_map];done)|(simp_all [];done)|(simp_all [];omega)|(simp_all [];intros;omega))|(trace "LEND";trace_state)
 ·rw [drop_end (by simp;omega)] at hr
  repeat' (first|(refine shC ?_;first|refine qC c0 ?_|refine qC c1 ?_|refine qC (YP _ _) ?_)|(refine shX ?_;first|refine zu rfl (zk zh rfl rfl rfl rfl rfl rfl h0 he) rfl rfl ?_|refine AD.step _ _ _ _ _ rfl (zk zh rfl rfl rfl rfl rfl rfl h0 he) rfl rfl ?_)|refine sK ?_|refine sC (fun _=>?_) (fun _=>?_)|fail)
  all_goals first|(refine retq rfl ?_;first|(simp only [zi,BL,List.length_map] at *;simp only [*,BL,List.length_map];done)|(simp_all [zi];done)|(simp_all [zi];omega)|(simp_all [zi];intros;omega))|(refine ZA rfl ?_;first|(simp only [zi,BL,List.length_map] at *;simp only [*,BL,List.length_map];done)|(simp_all [zi];done)|(simp_all [zi];omega)|(simp_all [zi];intros;omega))|skip
theorem zk6 (g:Img) (t:Int) (td:TD) (htd:typeAt g t=some td) (hf:zJ g=true):ACall Tryz.prog 221 [zq g,pi t] (pb (ze5 g t)):=by
 refine zf zh Tryz.func221 rfl (by kernel_rfl) Tryz.ntmps221 (by simp) _ rfl (fun hw gB hgB=>?_)
 obtain ⟨h0,heT⟩:=yQ htd
 have hF:=zdc hf
 have hn:=hF.n
 have hg:g.fields.length≤64:=by have:=(zF hf).2.1;omega
 have c0:=zhe g hf t td htd
 have hpl:=zaw g
 have c1:=zdi g.types.length (by omega) (partsOf g t) (partsOf g) 247 [] [.ptr (zq g) 0] (fun x hx=>YO hx) (by have:=hpl t;omega)
  (fun x h0 h1=>zlb g x hf) (fun x h0 h1=>⟨by have:=hpl x;omega,fun y hy=>YO hy⟩)
 repeat' (first|(refine shC ?_;first|refine qC c0 ?_|refine zu rfl (qw rfl rfl (Xw g t (by omega))) rfl rfl ?_|refine AD.step _ _ _ _ _ rfl (qw rfl rfl (Xw g t (by omega))) rfl rfl ?_)|(refine shX ?_;first|refine zu rfl (zk zh rfl rfl rfl rfl rfl rfl h0 heT) rfl rfl ?_|refine AD.step _ _ _ _ _ rfl (zk zh rfl rfl rfl rfl rfl rfl h0 heT) rfl rfl ?_)|refine sA ?_|refine sC (fun _=>?_) (fun _=>?_)|fail)
 refine zo (fun k:Nat=>[(1,.pv (pi t)),(2,.pv (.ptr (zq g) 0)),(5,.pv (pi (zB g t))),(16,.pv (ints (fieldsOf g t))),(17,.pv (pi (fieldsOf g t).length)),(18,.pv (pi k))]) (fun _=>[]) (fun k=>k≤(fieldsOf g t).length∧ze5 g t=(((fieldsOf g t).drop k).all (zfm g (zB g t))&&(zB g t != 1||!decide (t∈sortL (QU g.types.length (partsOf g) (partsOf g t)))))) (fun k=>(fieldsOf g t).length - k) 0 ⟨by simp,rfl⟩ (tS) tH ?_
 have hfl:=YF g t
 rintro k ⟨hk,hr⟩
 by_cases hlt:k < (fieldsOf g t).length
 ·have he:=yT hlt
  obtain ⟨hi0,hi⟩:=qU (List.getElem_mem hlt)
  have hef:=qE (f:=Yc) hi
  rw [ZO hlt,zfm,zx hi] at hr
  repeat' (first|(refine shX ?_;first|refine qX he ?_|refine zu rfl (zk zh rfl rfl rfl rfl rfl rfl hi0 hef) rfl rfl ?_|refine AD.step _ _ _ _ _ rfl (zk zh rfl rfl rfl rfl rfl rfl hi0 hef) rfl rfl ?_)|refine sK ?_|refine sC (fun _=>?_) (fun _=>?_)|fail)
  all_goals first|(refine retq rfl ?_;first|(simp only [zi,BL,List.length_map] at *;simp only [*,BL,List.length_map];done)|(simp_all [zi];done)|(simp_all [zi];omega)|(simp_all [zi];intros;omega))|(refine ⟨k + 1,⟨by omega,?_⟩,tD,tS,tH⟩;first|(simp only [BL,List.length_map] at *;simp only [*,BL,List.length_map];done)|(simp_all [];done)|(simp_all [];omega)|(simp_all [];intros;omega))|(trace "LEND";trace_state)
 ·rw [drop_end (by omega)] at hr
  repeat' (first|(refine shC ?_;first|refine qC (zfY g t hf) ?_|refine qC c1 ?_|refine qC (YP _ _) ?_)|refine sK ?_|refine sC (fun _=>?_) (fun _=>?_)|fail)
  all_goals first|(refine retq rfl ?_;first|(simp only [zi,BL,List.length_map] at *;simp only [*,BL,List.length_map];done)|(simp_all [zi];done)|(simp_all [zi];omega)|(simp_all [zi];intros;omega))|(refine ZA rfl ?_;first|(simp only [zi,BL,List.length_map] at *;simp only [*,BL,List.length_map];done)|(simp_all [zi];done)|(simp_all [zi];omega)|(simp_all [zi];intros;omega))|skip
set_option maxHeartbeats 1000000 in
theorem zl1 (g:Img) (hx:∀ m∈g.methods,∀ x∈m.code,zdQ x):ACall Tryz.prog 169 [zq g] (.tup [pi (QV g).1,pi (QV g).2]):=by
 refine zf zh Tryz.func169 rfl (by kernel_rfl) Tryz.ntmps169 (by simp) _ rfl (fun hw gB hgB=>?_)
 have c0:=zj2 g hx
 cases hf:zJ g
 ·rw [hf] at c0
  repeat' (first|(refine shC ?_;first|refine qC c0 ?_)|refine sK ?_|refine sC (fun _=>?_) (fun _=>?_)|fail)
  exact retq rfl (by simp [zi,QV,hf])
 ·rw [hf] at c0
  obtain ⟨b1,b2,b3,b4⟩:=zF hf
  have hg:g.types.length≤1000:=by omega
  have hgf:g.fields.length≤1000:=by omega
  have hgm:g.methods.length≤1000:=by omega
  repeat' (first|(refine shC ?_;first|refine qC c0 ?_)|refine sK ?_|refine sC (fun _=>?_) (fun _=>?_)|fail)
  refine zo (fun k:Nat=>[(1,.pv (.ptr (zq g) 0)),(10,.pv (pi g.types.length)),(11,.pv (pi k))]) (fun _=>[]) (fun k=>k≤g.types.length∧∀ j,j < k→qL g j=0) (fun k=>g.types.length - k) 0 ⟨by omega,fun j h=>by omega⟩ (tS) tH ?_
  rintro k ⟨hk,hno⟩
  by_cases hlt:k < g.types.length
  ·have he:=zA (f:=Zb) hlt
   have htd:=zbi hlt
   have hat:=ziH hf hlt
   have hfin:=fun h=>zhZ hf hlt hno h
   have hnx:qL g k=0→∀ j,j < k + 1→qL g j=0:=fun h j hj=>by
    by_cases e:j=k
    ·subst e;exact h
    ·exact hno j (by omega)
   clear hno
   have d1:=ziJ g.types[k]
   have d2:=ziL g k _ htd hg
   have d3:=zmm g k _ htd hf
   have d4:=zmP g k _ htd hg hgf hgm
   have d5:=zk6 g k _ htd hf
   generalize Yd g.types[k]=e1 at d1 hat
   generalize ziA g k g.types[k]=e2 at d2 hat
   generalize zfd g k g.types[k]=e3 at d3 hat
   generalize zfu g k g.types[k]=e4 at d4 hat
   generalize ze5 g k=e5 at d5 hat
   have fin:∀ c:Int,c≠0→qL g k=c→PV.tup [pi (k:Int),pi c]=.tup [pi (QV g).1,pi (QV g).2]:=fun c hc h=>by rw [hfin (by rw [h];exact hc),h]
   repeat' (first|(refine shC ?_;first|refine qC d1 ?_|refine qC d2 ?_|refine qC d3 ?_|refine qC d4 ?_|refine qC d5 ?_)|(refine shX ?_;first|refine qX he ?_)|refine sK ?_|refine sC (fun _=>?_) (fun _=>?_)|fail)
   all_goals first
    | exact retq rfl (fin 7 (by decide) (by rw [hat];simp_all;done))
    | exact retq rfl (fin 18 (by decide) (by rw [hat];simp_all;done))
    | exact retq rfl (fin 20 (by decide) (by rw [hat];simp_all;done))
    | exact ⟨k + 1,⟨hlt,hnx (by rw [hat];simp_all;done)⟩,tD,tS,tH⟩
  ·repeat' (first|refine sK ?_|refine sC (fun _=>?_) (fun _=>?_)|fail)
   obtain rfl:k=g.types.length:=by omega
   exact retq rfl (by simp [zi,zkS hf hno])
end Go.Cg
