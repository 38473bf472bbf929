/- A part of the walks by abstract values: no statement of its own. -/
import Derived.Test.YtdngpcmllgnbjaaGreatN26
import Derived.Test.YtdngpcmllgnbjaaGreatN27
import Derived.Test.YtdngpcmllgnbjaaGreatN8
import Derived.Test.YtdngpcmllgnbjaaGreatN6
import Derived.Test.YtdngpcmllgnbjaaGreatN9
import Derived.Test.YtdngpcmllgnbjaaGreatN12
import Derived.Test.YtdngpcmllgnbjaaGreatN21
import Derived.Test.YtdngpcmllgnbjaaGreatN10
import Derived.Test.YtdngpcmllgnbjaaGreatN7
set_option linter.unusedVariables false
set_option linter.unusedSimpArgs false
namespace Go.Cg
open Go.Proofs
set_option maxHeartbeats 20000000
theorem zjU (p:Int→Int→Bool) (f:FuncId) (first cap:List PV) (a b:Int) (hp:ACall Tryz.prog f (first++[pi a,pi b]++cap) (pb (p a b))):ACall Tryz.prog 441 [pi b,.ptr (.fn (.func f) first cap) 0,.ptr (pi a) 0] (pb (p a b)):=by
 refine zf zh Tryz.func441 rfl (by kernel_rfl) Tryz.ntmps441 (by simp) _ rfl (fun hw gB hgB=>?_)
 repeat' (first|(refine shC ?_;first|refine qV (hp) ?_)|refine sA ?_|refine sC (fun _=>?_) (fun _=>?_)|fail)
 exact retq rfl rfl
theorem zel (l:List Int) (p:Int→Int→Bool) (f:FuncId) (first cap:List PV) (hp:∀ a∈l,∀ b∈l,ACall Tryz.prog f (first++[pi a,pi b]++cap) (pb (p a b))):ACall Tryz.prog 417 [ints l,.fn (.func f) first cap] (pb (zaq l p)):=by
 refine zf zh Tryz.func417 rfl (by kernel_rfl) Tryz.ntmps417 (by simp) _ rfl (fun hw gB hgB=>?_)
 have hl:=zfJ hw.1
 repeat' (first|refine sA ?_|refine sC (fun _=>?_) (fun _=>?_)|fail)
 refine zA (fun k:Nat=>[(0,.pv (ints l)),(3,.pv (.ptr (.fn (.func f) first cap) 0)),(7,.pv (ints l)),(8,.pv (pi l.length)),(9,.pv (pi k))]) (fun _=>[]) (fun k=>k≤l.length∧zaq l p=((List.range l.length).drop k).any fun i=>(l.take i).any (p (l.getD i 0))) (fun k=>l.length - k) 0 ⟨by omega,rfl⟩ (tS) tH ?_
 rintro k ⟨hk,hr⟩
 by_cases hlt:k < l.length
 ·have he:=Yd hlt
  have c1:=YG (l.take k) (p l[k]) 441 [] [.ptr (.fn (.func f) first cap) 0,.ptr (pi l[k]) 0] (fun x hx=>zjU p f first cap l[k] x (hp _ (List.getElem_mem hlt) x (List.mem_of_mem_take hx)))
  rw [zes hlt,zV hlt] at hr
  repeat' (first|refine Vx (t:=6) rfl rfl rfl ?_|refine zq rfl (YL (xs:=l) (f:=pi) 0 k zh rfl rfl rfl rfl rfl rfl rfl (by omega) (by omega)) rfl rfl ?_|(refine shC ?_;first|refine qC c1 ?_)|(refine shX ?_;first|refine qX he ?_)|refine sK ?_|refine sC (fun _=>?_) (fun _=>?_)|fail)
  all_goals first|(refine retq rfl ?_;first|(simp only [zl,BL,List.length_map] at *;simp only [*,BL,List.length_map];done)|(simp_all [zl];done)|(simp_all [zl];omega)|(simp_all [zl];intros;omega))|(refine ⟨k + 1,⟨by omega,?_⟩,tD,tS,tH⟩;first|(simp only [BL,List.length_map] at *;simp only [*,BL,List.length_map];done)|(simp_all [];done)|(simp_all [];omega)|(simp_all [];intros;omega))|(trace "LEND";trace_state)
 ·rw [drop_end (by simp;omega)] at hr
  repeat' (first|refine sK ?_|refine sC (fun _=>?_) (fun _=>?_)|fail)
  all_goals first|(refine retq rfl ?_;first|(simp only [zl,BL,List.length_map] at *;simp only [*,BL,List.length_map];done)|(simp_all [zl];done)|(simp_all [zl];omega)|(simp_all [zl];intros;omega))|(refine zcp rfl ?_;first|(simp only [zl,BL,List.length_map] at *;simp only [*,BL,List.length_map];done)|(simp_all [zl];done)|(simp_all [zl];omega)|(simp_all [zl];intros;omega))|skip
theorem ziD (g:Img) (a b:Int) (ha0:0≤a) (ha:a.toNat < g.fields.length) (hb0:0≤b) (hb:b.toNat < g.fields.length):ACall Tryz.prog 418 [pi a,pi b,.ptr (zu g) 0] (pb (zft g a b)):=by
 refine zf zh Tryz.func418 rfl (by kernel_rfl) Tryz.ntmps418 (by simp) _ rfl (fun hw gB hgB=>?_)
 have hea:=Zw (f:=Zc) ha
 have heb:=Zw (f:=Zc) hb
 repeat' (first|(refine shX ?_;first|refine zq rfl (zn zh rfl rfl rfl rfl rfl rfl ha0 hea) rfl rfl ?_|refine AD.step _ _ _ _ _ rfl (zn zh rfl rfl rfl rfl rfl rfl ha0 hea) rfl rfl ?_|refine zq rfl (zn zh rfl rfl rfl rfl rfl rfl hb0 heb) rfl rfl ?_|refine AD.step _ _ _ _ _ rfl (zn zh rfl rfl rfl rfl rfl rfl hb0 heb) rfl rfl ?_)|refine sA ?_|refine sC (fun _=>?_) (fun _=>?_)|fail)
 exact retq rfl (by simp only [zl,zft,fName,zV ha,zV hb])
theorem zcj (a b:List Ty):ACall Tryz.prog 207 [tys a,tys b] (pb (decide (a=b))):=by
 refine zf zh Tryz.func207 rfl (by kernel_rfl) Tryz.ntmps207 (by simp) _ rfl (fun hw gB hgB=>?_)
 have hl:=zo2 hw.1
 by_cases hlen:a.length=b.length
 ·repeat' (first|refine sK ?_|refine sC (fun _=>?_) (fun _=>?_)|fail)
  refine zA (fun k:Nat=>[(0,.pv (tys a)),(1,.pv (tys b)),(11,.pv (tys a)),(12,.pv (pi a.length)),(13,.pv (pi k))]) (fun _=>[]) (fun k=>k≤a.length∧a.take k=b.take k) (fun k=>a.length - k) 0 ⟨by simp,by simp⟩ (tS) tH ?_
  rintro k ⟨hk,hno⟩
  by_cases hlt:k < a.length
  ·have he:=zli hlt
   have hltb:k < b.length:=by omega
   have he':=zli hltb
   repeat' (first|(refine shX ?_;first|refine qX he ?_|refine qX he' ?_)|refine sK ?_|refine sC (fun _=>?_) (fun _=>?_)|fail)
   ·rename_i h
    refine retq rfl ?_
    have:a≠b:=by
     rintro rfl
     simp at h
    simp [zl,this]
   ·rename_i h
    have e:a[k]=b[k]:=by
     simp only [Bool.not_eq_false'] at h
     rw [XZ] at h
     simpa using h
    exact ⟨k + 1,⟨by omega,zhO hlt hltb hno e⟩,tD,tS,tH⟩
  ·repeat' (first|refine sK ?_|refine sC (fun _=>?_) (fun _=>?_)|fail)
   refine retq rfl ?_
   rw [List.take_of_length_le (by omega),List.take_of_length_le (by omega)] at hno
   simp [zl,hno]
 ·have hne:a≠b:=by rintro rfl;exact hlen rfl
  have hb:((((a.map yA).length:Nat):Int) != (((b.map yA).length:Nat):Int))=true:=by simp;omega
  repeat' (first|refine sK ?_|refine sC (fun _=>?_) (fun _=>?_)|fail)
  exact retq rfl (by simp [zl,hne])
abbrev zMe:AV:=.pv (.agg [.base (.string ByteArray.empty),pi 0,pi 0,.base (.slice none 0 0),pi 0,pi 0,pi 0,pb false,.base (.slice none 0 0),pi 0,.base (.slice none 0 0),.base (.slice none 0 0)])
theorem zio (g:Img) (a b:Int) (ha0:0≤a) (ha:a.toNat < g.methods.length) (hb0:0≤b) (hb:b.toNat < g.methods.length):ACall Tryz.prog 419 [pi a,pi b,.ptr (zu g) 0] (pb (Xi (mAt g a) (mAt g b))):=by
 refine zf zh Tryz.func419 rfl (by kernel_rfl) Tryz.ntmps419 (by simp) _ rfl (fun hw gB hgB=>?_)
 have hea:=Zw (f:=zM) ha
 have heb:=Zw (f:=zM) hb
 rw [mAt,mAt,zV ha,zV hb]
 generalize g.methods[a.toNat]=x at hea ⊢
 generalize g.methods[b.toNat]=y at heb ⊢
 have hty:=XZ x.ret y.ret
 have c1:=zcj x.params y.params
 repeat' (first|refine zi3 rfl ?_|refine sA ?_|fail)
 refine XA 10 11 [0,1,2,3,4,5,6,7,8,9,10,11,12,13] [0,1,2,3,4,5,6,7,8,9,10,11,12,13] [0,1,2,3,4,5,6,7,8,9,11,10,12,13] [0,1,2,3,4,5,6,7,8,9,11,10,12,13] rfl (by kernel_rfl) (by kernel_rfl) (zbr (by kernel_rfl) ?_) (zbr (by kernel_rfl) ?_)
 ·refine VE 14 14 [10,11,12,13] [] (mkL [[],[(0,.cell zMe)],[(1,.cell zMe),(0,.cell zMe)],[(0,.cell (.pv (zM x))),(1,.cell zMe),(0,.cell zMe)],[(1,.cell (.pv (zM y))),(0,.cell (.pv (zM x))),(1,.cell zMe),(0,.cell zMe)]]) (mkL [[],[(0,.cell zMe)],[(1,.cell zMe),(0,.cell zMe)],[(0,.cell (.pv (zM x))),(1,.cell zMe),(0,.cell zMe)],[(1,.cell (.pv (zM y))),(0,.cell (.pv (zM x))),(1,.cell zMe),(0,.cell zMe)]]) [] none rfl (by kernel_rfl) (by kernel_rfl) (by kernel_rfl) (by kernel_rfl) (by kernel_rfl) (by kernel_rfl) (fun p hp=>by simp at hp) rfl (XY rfl ⟨tH,tH,tH,tH,tH,trivial⟩) rfl (Zy rfl rfl) (fun q h=>Zy rfl rfl q 4 h (Nat.le_refl 4)) tH rfl (fun v hv=>by cases hv) ?_
  repeat' (first|refine Ya 10 [0,1,2] (.box 0 0) rfl rfl rfl rfl rfl ?_|refine Ya 0 [0,1] (.box 1 0) rfl rfl rfl rfl rfl ?_|refine QX [0] (.pv (.tup [])) rfl rfl rfl ?_|refine QX [] (.pv (.tup [])) rfl rfl rfl ?_|refine ⟨⟨rfl,Xq zh 0 rfl rfl rfl rfl,.inr (by kernel_rfl)⟩,?_⟩|refine ⟨⟨rfl,Xq zh 1 rfl rfl rfl rfl,.inr (by kernel_rfl)⟩,?_⟩|refine ⟨⟨rfl,zcw zh rfl rfl rfl rfl rfl rfl rfl,.inl rfl⟩,?_⟩|refine Yx ?_|intro _|refine Xd ?_|(refine shC ?_;first|refine qC c1 ?_)|(refine shX ?_;first|refine zq rfl (zn zh rfl rfl rfl rfl rfl rfl ha0 hea) rfl rfl ?_|refine AD.step _ _ _ _ _ rfl (zn zh rfl rfl rfl rfl rfl rfl ha0 hea) rfl rfl ?_|refine zq rfl (zn zh rfl rfl rfl rfl rfl rfl hb0 heb) rfl rfl ?_|refine AD.step _ _ _ _ _ rfl (zn zh rfl rfl rfl rfl rfl rfl hb0 heb) rfl rfl ?_)|refine sK ?_|refine sC (fun _=>?_) (fun _=>?_)|fail)
  all_goals refine retq rfl ?_
  all_goals (simp only [zl,Xi,←hty];clear hty;simp_all)
 ·refine VE 14 14 [10,11,12,13] [] (mkL [[],[(1,.cell zMe)],[(0,.cell zMe),(1,.cell zMe)],[(0,.cell (.pv (zM x))),(0,.cell zMe),(1,.cell zMe)],[(1,.cell (.pv (zM y))),(0,.cell (.pv (zM x))),(0,.cell zMe),(1,.cell zMe)]]) (mkL [[],[(1,.cell zMe)],[(0,.cell zMe),(1,.cell zMe)],[(0,.cell (.pv (zM x))),(0,.cell zMe),(1,.cell zMe)],[(1,.cell (.pv (zM y))),(0,.cell (.pv (zM x))),(0,.cell zMe),(1,.cell zMe)]]) [] none rfl (by kernel_rfl) (by kernel_rfl) (by kernel_rfl) (by kernel_rfl) (by kernel_rfl) (by kernel_rfl) (fun p hp=>by simp at hp) rfl (XY rfl ⟨tH,tH,tH,tH,tH,trivial⟩) rfl (Zy rfl rfl) (fun q h=>Zy rfl rfl q 4 h (Nat.le_refl 4)) tH rfl (fun v hv=>by cases hv) ?_
  repeat' (first|refine Ya 10 [0,1,2] (.box 1 0) rfl rfl rfl rfl rfl ?_|refine Ya 0 [0,1] (.box 0 0) rfl rfl rfl rfl rfl ?_|refine QX [0] (.pv (.tup [])) rfl rfl rfl ?_|refine QX [] (.pv (.tup [])) rfl rfl rfl ?_|refine ⟨⟨rfl,Xq zh 1 rfl rfl rfl rfl,.inr (by kernel_rfl)⟩,?_⟩|refine ⟨⟨rfl,Xq zh 0 rfl rfl rfl rfl,.inr (by kernel_rfl)⟩,?_⟩|refine ⟨⟨rfl,zcw zh rfl rfl rfl rfl rfl rfl rfl,.inl rfl⟩,?_⟩|refine Yx ?_|intro _|refine Xd ?_|(refine shC ?_;first|refine qC c1 ?_)|(refine shX ?_;first|refine zq rfl (zn zh rfl rfl rfl rfl rfl rfl ha0 hea) rfl rfl ?_|refine AD.step _ _ _ _ _ rfl (zn zh rfl rfl rfl rfl rfl rfl ha0 hea) rfl rfl ?_|refine zq rfl (zn zh rfl rfl rfl rfl rfl rfl hb0 heb) rfl rfl ?_|refine AD.step _ _ _ _ _ rfl (zn zh rfl rfl rfl rfl rfl rfl hb0 heb) rfl rfl ?_)|refine sK ?_|refine sC (fun _=>?_) (fun _=>?_)|fail)
  all_goals refine retq rfl ?_
  all_goals (simp only [zl,Xi,←hty];clear hty;simp_all)
theorem zjr (g:Img) (t:Int) (td:TD) (htd:typeAt g t=some td) (hg:g.types.length≤1000) (hgf:g.fields.length≤1000) (hgm:g.methods.length≤1000):ACall Tryz.prog 402 [zu g,pi t] (pb (zcV g t td)):=by
 refine zf zh Tryz.func402 rfl (by kernel_rfl) Tryz.ntmps402 (by simp) _ rfl (fun hw gB hgB=>?_)
 obtain ⟨h0,heT⟩:=ZK htd
 have cf:=zel (fieldsOf g t) (zft g) 418 [] [.ptr (zu g) 0] (fun a ha b hb=>ziD g a b (ZF ha).1 (ZF ha).2 (ZF hb).1 (ZF hb).2)
 have cm:=zel (methodsOf g t) (fun a b=>Xi (mAt g a) (mAt g b)) 419 [] [.ptr (zu g) 0] (fun a ha b hb=>zio g a b (yQ ha).1 (yQ ha).2 (yQ hb).1 (yQ hb).2)
 repeat' (first|refine sA ?_|refine sC (fun _=>?_) (fun _=>?_)|fail)
 refine zA (fun k:Nat=>[(1,.pv (pi t)),(2,.pv (.ptr (zu g) 0)),(8,.pv (.slc 4 (g.types.map qx) false)),(9,.pv (pi g.types.length)),(10,.pv (pi k))]) (fun _=>[]) (fun k=>k≤g.types.length∧zcV g t td=(((List.range g.types.length).drop k).all (za7 g t td)&&!zaq (fieldsOf g t) (zft g)&&!zaq (methodsOf g t) (fun a b=>Xi (mAt g a) (mAt g b)))) (fun k=>g.types.length - k) 0 ⟨by omega,rfl⟩ (tS) tH ?_
 rintro k ⟨hk,hr⟩
 by_cases hlt:k < g.types.length
 ·have he:=yI (f:=qx) hlt
  rw [Qd hlt,za7,zV hlt] at hr
  repeat' (first|(refine shX ?_;first|refine qX he ?_|refine zq rfl (zn zh rfl rfl rfl rfl rfl rfl h0 heT) rfl rfl ?_|refine AD.step _ _ _ _ _ rfl (zn zh rfl rfl rfl rfl rfl rfl h0 heT) rfl rfl ?_)|refine sK ?_|refine sC (fun _=>?_) (fun _=>?_)|fail)
  all_goals first|(refine retq rfl ?_;first|(simp only [zl,BL,List.length_map] at *;simp only [*,BL,List.length_map];done)|(simp_all [zl];done)|(simp_all [zl];omega)|(simp_all [zl];intros;omega))|(refine ⟨k + 1,⟨by omega,?_⟩,tD,tS,tH⟩;first|(simp only [BL,List.length_map] at *;simp only [*,BL,List.length_map];done)|(simp_all [];done)|(simp_all [];omega)|(simp_all [];intros;omega))|(trace "LEND";trace_state)
 ·rw [drop_end (by simp;omega)] at hr
  repeat' (first|(refine shC ?_;first|refine qC (YT g t hgf) ?_|refine qC (ZR g t hgm) ?_|refine qC cf ?_|refine qC cm ?_)|refine sK ?_|refine sC (fun _=>?_) (fun _=>?_)|fail)
  all_goals first|(refine retq rfl ?_;first|(simp only [zl,BL,List.length_map] at *;simp only [*,BL,List.length_map];done)|(simp_all [zl];done)|(simp_all [zl];omega)|(simp_all [zl];intros;omega))|(refine zcp rfl ?_;first|(simp only [zl,BL,List.length_map] at *;simp only [*,BL,List.length_map];done)|(simp_all [zl];done)|(simp_all [zl];omega)|(simp_all [zl];intros;omega))|skip
set_option maxHeartbeats 20000000
theorem zjP (g:Img) (t:Int) (hF:Fm g):ACall Tryz.prog 416 [pi t,.ptr (zu g) 0] (ints (zT g t)):=by
 refine zf zh Tryz.func416 rfl (by kernel_rfl) Tryz.ntmps416 (by simp) _ rfl (fun hw gB hgB=>?_)
 repeat' (first|(refine shC ?_;first|refine zq rfl (ZB rfl rfl (QM g t (by have:=(hF.at t).1;omega) (fun f hf=>QE ((hF.at t).2 f hf)))) rfl rfl ?_|refine AD.step _ _ _ _ _ rfl (ZB rfl rfl (QM g t (by have:=(hF.at t).1;omega) (fun f hf=>QE ((hF.at t).2 f hf)))) rfl rfl ?_)|refine sA ?_|refine sC (fun _=>?_) (fun _=>?_)|fail)
 exact retq rfl rfl
theorem ziF (g:Img) (t:Int) (hf:zK g=true):ACall Tryz.prog 421 [pi t,.ptr (zu g) 0] (ints (partsOf g t)):=by
 refine zf zh Tryz.func421 rfl (by kernel_rfl) Tryz.ntmps421 (by simp) _ rfl (fun hw gB hgB=>?_)
 repeat' (first|(refine shC ?_;first|refine qC (zdy g t hf) ?_)|refine sA ?_|refine sC (fun _=>?_) (fun _=>?_)|fail)
 exact retq rfl rfl
theorem zem (g:Img) (hf:zK g=true) (t:Int) (td:TD) (htd:typeAt g t=some td):ACall Tryz.prog 248 [qx td] (pi (zB g t)):=by
 have:=zdo td
 obtain ⟨h0,h1,_⟩:=XF hf htd
 rw [zeo h0 h1] at this
 rw [zB,htd];exact this
theorem zjk (g:Img) (t:Int) (td:TD) (htd:typeAt g t=some td) (hf:zK g=true):ACall Tryz.prog 401 [zu g,pi t] (pb (zc5 g t td)):=by
 refine zf zh Tryz.func401 rfl (by kernel_rfl) Tryz.ntmps401 (by simp) _ rfl (fun hw gB hgB=>?_)
 obtain ⟨h0,he⟩:=ZK htd
 have hF:=zfP hf
 have hn:=hF.n
 obtain ⟨hf1,hf2⟩:=hF.faces td (XH htd)
 have c0:=zem g hf t td htd
 have c1:=zbx g.types.length (by omega) td.faces (zT g) 416 [] [.ptr (zu g) 0] hf2 (by omega)
  (fun x h0 h1=>zjP g x hF) (fun x h0 h1=>⟨by have:=(hF.at x).1;omega,(hF.at x).2⟩)
 repeat' (first|(refine shX ?_;first|refine zq rfl (zn zh rfl rfl rfl rfl rfl rfl h0 he) rfl rfl ?_|refine AD.step _ _ _ _ _ rfl (zn zh rfl rfl rfl rfl rfl rfl h0 he) rfl rfl ?_)|refine sA ?_|refine sC (fun _=>?_) (fun _=>?_)|fail)
 refine zA (fun k:Nat=>[(1,.pv (pi t)),(2,.pv (.ptr (zu g) 0)),(5,.pv (ints td.faces)),(15,.pv (ints td.faces)),(16,.pv (pi td.faces.length)),(17,.pv (pi k))]) (fun _=>[]) (fun k=>k≤td.faces.length∧zc5 g t td=(((List.range td.faces.length).drop k).all (zcC g td.faces)&&(zB g t != 2||!decide (t∈sortL (YF g.types.length (zT g) td.faces))))) (fun k=>td.faces.length - k) 0 ⟨by simp,rfl⟩ (tS) tH ?_
 rintro k ⟨hk,hr⟩
 by_cases hlt:k < td.faces.length
 ·have hef:=Yd hlt
  rw [Qd hlt,zcC,zV hlt] at hr
  repeat' (first|refine zq rfl (YL (xs:=td.faces) (f:=pi) 0 k zh rfl rfl rfl rfl rfl rfl rfl (by omega) (by omega)) rfl rfl ?_|(refine shC ?_;first|refine qC (qw g hf _) ?_|refine qC (Yv (td.faces.take k) _) ?_)|(refine shX ?_;first|refine qX hef ?_)|refine sK ?_|refine sC (fun _=>?_) (fun _=>?_)|fail)
  all_goals first|(refine retq rfl ?_;first|(simp only [zl,BL,List.length_map] at *;simp only [*,BL,List.length_map];done)|(simp_all [zl];done)|(simp_all [zl];omega)|(simp_all [zl];intros;omega))|(refine ⟨k + 1,⟨by omega,?_⟩,tD,tS,tH⟩;first|(simp only [BL,List.length_map] at *;simp only [*,BL,List.length_map];done)|(simp_all [];done)|(simp_all [];omega)|(simp_all [];intros;omega))|(trace "LEND";trace_state)
 ·rw [drop_end (by simp;omega)] at hr
  repeat' (first|(refine shC ?_;first|refine qC c0 ?_|refine qC c1 ?_|refine qC (Yv _ _) ?_)|(refine shX ?_;first|refine zq rfl (zn zh rfl rfl rfl rfl rfl rfl h0 he) rfl rfl ?_|refine AD.step _ _ _ _ _ rfl (zn zh rfl rfl rfl rfl rfl rfl h0 he) rfl rfl ?_)|refine sK ?_|refine sC (fun _=>?_) (fun _=>?_)|fail)
  all_goals first|(refine retq rfl ?_;first|(simp only [zl,BL,List.length_map] at *;simp only [*,BL,List.length_map];done)|(simp_all [zl];done)|(simp_all [zl];omega)|(simp_all [zl];intros;omega))|(refine zcp rfl ?_;first|(simp only [zl,BL,List.length_map] at *;simp only [*,BL,List.length_map];done)|(simp_all [zl];done)|(simp_all [zl];omega)|(simp_all [zl];intros;omega))|skip
theorem ziy (g:Img) (t:Int) (td:TD) (htd:typeAt g t=some td) (hf:zK g=true):ACall Tryz.prog 403 [zu g,pi t] (pb (zdb g t)):=by
 refine zf zh Tryz.func403 rfl (by kernel_rfl) Tryz.ntmps403 (by simp) _ rfl (fun hw gB hgB=>?_)
 obtain ⟨h0,heT⟩:=ZK htd
 have hF:=zfP hf
 have hn:=hF.n
 have hg:g.fields.length≤64:=by have:=(zG hf).2.1;omega
 have c0:=zem g hf t td htd
 have hpl:=zdX g
 have c1:=zbx g.types.length (by omega) (partsOf g t) (partsOf g) 421 [] [.ptr (zu g) 0] (fun x hx=>Yy hx) (by have:=hpl t;omega)
  (fun x h0 h1=>ziF g x hf) (fun x h0 h1=>⟨by have:=hpl x;omega,fun y hy=>Yy hy⟩)
 repeat' (first|(refine shC ?_;first|refine qC c0 ?_|refine zq rfl (ZB rfl rfl (YT g t (by omega))) rfl rfl ?_|refine AD.step _ _ _ _ _ rfl (ZB rfl rfl (YT g t (by omega))) rfl rfl ?_)|(refine shX ?_;first|refine zq rfl (zn zh rfl rfl rfl rfl rfl rfl h0 heT) rfl rfl ?_|refine AD.step _ _ _ _ _ rfl (zn zh rfl rfl rfl rfl rfl rfl h0 heT) rfl rfl ?_)|refine sA ?_|refine sC (fun _=>?_) (fun _=>?_)|fail)
 refine zA (fun k:Nat=>[(1,.pv (pi t)),(2,.pv (.ptr (zu g) 0)),(5,.pv (pi (zB g t))),(16,.pv (ints (fieldsOf g t))),(17,.pv (pi (fieldsOf g t).length)),(18,.pv (pi k))]) (fun _=>[]) (fun k=>k≤(fieldsOf g t).length∧zdb g t=(((fieldsOf g t).drop k).all (zhm g (zB g t))&&(zB g t != 1||!decide (t∈sortL (YF g.types.length (partsOf g) (partsOf g t)))))) (fun k=>(fieldsOf g t).length - k) 0 ⟨by simp,rfl⟩ (tS) tH ?_
 have hfl:=Xj g t
 rintro k ⟨hk,hr⟩
 by_cases hlt:k < (fieldsOf g t).length
 ·have he:=Yd hlt
  obtain ⟨hi0,hi⟩:=ZF (List.getElem_mem hlt)
  have hef:=Zw (f:=Zc) hi
  rw [zfG hlt,zhm,zV hi] at hr
  repeat' (first|(refine shX ?_;first|refine qX he ?_|refine zq rfl (zn zh rfl rfl rfl rfl rfl rfl hi0 hef) rfl rfl ?_|refine AD.step _ _ _ _ _ rfl (zn zh rfl rfl rfl rfl rfl rfl hi0 hef) rfl rfl ?_)|refine sK ?_|refine sC (fun _=>?_) (fun _=>?_)|fail)
  all_goals first|(refine retq rfl ?_;first|(simp only [zl,BL,List.length_map] at *;simp only [*,BL,List.length_map];done)|(simp_all [zl];done)|(simp_all [zl];omega)|(simp_all [zl];intros;omega))|(refine ⟨k + 1,⟨by omega,?_⟩,tD,tS,tH⟩;first|(simp only [BL,List.length_map] at *;simp only [*,BL,List.length_map];done)|(simp_all [];done)|(simp_all [];omega)|(simp_all [];intros;omega))|(trace "LEND";trace_state)
 ·rw [drop_end (by omega)] at hr
  repeat' (first|(refine shC ?_;first|refine qC (zdy g t hf) ?_|refine qC c1 ?_|refine qC (Yv _ _) ?_)|refine sK ?_|refine sC (fun _=>?_) (fun _=>?_)|fail)
  all_goals first|(refine retq rfl ?_;first|(simp only [zl,BL,List.length_map] at *;simp only [*,BL,List.length_map];done)|(simp_all [zl];done)|(simp_all [zl];omega)|(simp_all [zl];intros;omega))|(refine zcp rfl ?_;first|(simp only [zl,BL,List.length_map] at *;simp only [*,BL,List.length_map];done)|(simp_all [zl];done)|(simp_all [zl];omega)|(simp_all [zl];intros;omega))|skip
set_option maxHeartbeats 1000000 in
theorem ziH (g:Img) (hx:∀ m∈g.methods,∀ x∈m.code,zco x):ACall Tryz.prog 359 [zu g] (.tup [pi (Xb g).1,pi (Xb g).2]):=by
 refine zf zh Tryz.func359 rfl (by kernel_rfl) Tryz.ntmps359 (by simp) _ rfl (fun hw gB hgB=>?_)
 have c0:=zhp g hx
 cases hf:zK g
 ·rw [hf] at c0
  repeat' (first|(refine shC ?_;first|refine qC c0 ?_)|refine sK ?_|refine sC (fun _=>?_) (fun _=>?_)|fail)
  exact retq rfl (by simp [zl,Xb,hf])
 ·rw [hf] at c0
  obtain ⟨b1,b2,b3,b4⟩:=zG hf
  have hg:g.types.length≤1000:=by omega
  have hgf:g.fields.length≤1000:=by omega
  have hgm:g.methods.length≤1000:=by omega
  repeat' (first|(refine shC ?_;first|refine qC c0 ?_)|refine sK ?_|refine sC (fun _=>?_) (fun _=>?_)|fail)
  refine zA (fun k:Nat=>[(1,.pv (.ptr (zu g) 0)),(10,.pv (pi g.types.length)),(11,.pv (pi k))]) (fun _=>[]) (fun k=>k≤g.types.length∧∀ j,j < k→qE g j=0) (fun k=>g.types.length - k) 0 ⟨by omega,fun j h=>by omega⟩ (tS) tH ?_
  rintro k ⟨hk,hno⟩
  by_cases hlt:k < g.types.length
  ·have he:=yI (f:=qx) hlt
   have htd:=zbv hlt
   have hat:=zf6 hf hlt
   have hfin:=fun h=>zjR hf hlt hno h
   have hnx:qE g k=0→∀ j,j < k + 1→qE g j=0:=fun h j hj=>by
    by_cases e:j=k
    ·subst e;exact h
    ·exact hno j (by omega)
   clear hno
   have d1:=zfU g.types[k]
   have d2:=zga g k _ htd hg
   have d3:=zjk g k _ htd hf
   have d4:=zjr g k _ htd hg hgf hgm
   have d5:=ziy g k _ htd hf
   generalize Zj g.types[k]=e1 at d1 hat
   generalize zf4 g k g.types[k]=e2 at d2 hat
   generalize zc5 g k g.types[k]=e3 at d3 hat
   generalize zcV g k g.types[k]=e4 at d4 hat
   generalize zdb g k=e5 at d5 hat
   have fin:∀ c:Int,c≠0→qE g k=c→PV.tup [pi (k:Int),pi c]=.tup [pi (Xb g).1,pi (Xb g).2]:=fun c hc h=>by rw [hfin (by rw [h];exact hc),h]
   repeat' (first|(refine shC ?_;first|refine qC d1 ?_|refine qC d2 ?_|refine qC d3 ?_|refine qC d4 ?_|refine qC d5 ?_)|(refine shX ?_;first|refine qX he ?_)|refine sK ?_|refine sC (fun _=>?_) (fun _=>?_)|fail)
   all_goals first
    | exact retq rfl (fin 7 (by decide) (by rw [hat];simp_all;done))
    | exact retq rfl (fin 18 (by decide) (by rw [hat];simp_all;done))
    | exact retq rfl (fin 20 (by decide) (by rw [hat];simp_all;done))
    | exact ⟨k + 1,⟨hlt,hnx (by rw [hat];simp_all;done)⟩,tD,tS,tH⟩
  ·repeat' (first|refine sK ?_|refine sC (fun _=>?_) (fun _=>?_)|fail)
   obtain rfl:k=g.types.length:=by omega
   exact retq rfl (by simp [zl,zn7 hf hno])
set_option maxHeartbeats 20000000
def OkA (g:Img):Prop:=∀ m∈g.methods,∀ x∈m.code,zco x
theorem zkZ (g:Img) (hx:OkA g):ACall Tryz.prog 290 [zu g] (pb (ZE g)):=by
 refine zf zh Tryz.func290 rfl (by kernel_rfl) Tryz.ntmps290 (by simp) _ rfl (fun hw gB hgB=>?_)
 repeat' (first|(refine shC ?_;first|refine qC (ziH g hx) ?_)|refine sA ?_|refine sC (fun _=>?_) (fun _=>?_)|fail)
 exact retq rfl rfl
theorem zay (g:Img) (t:Int):zB g t = -1∨zB g t=0∨zB g t=1∨zB g t=2∨zB g t=3:=by
 unfold zB
 cases typeAt g t with
 | none=>exact .inl rfl
 | some td =>
  simp only
  unfold Xf
  cases yE td.flags 2 <;> cases yE td.flags 1 <;> cases yE td.flags 16 <;> simp
theorem zeN (g:Img) (t:Ty) (hf:zK g=true):ACall Tryz.prog 291 [zu g,yA t] (pb (qA g t)):=by
 refine zf zh Tryz.func291 rfl (by kernel_rfl) Tryz.ntmps291 (by simp) _ rfl (fun hw gB hgB=>?_)
 have hk:=zay g t.index
 have c1:=qw g hf t.index
 have hu:qA g t=(Zf t&&(if t.kind==5 then zB g t.index==0||zB g t.index==2||zB g t.index==3 else t.kind != 6||zB g t.index==1)):=rfl
 rw [hu]
 generalize zB g t.index=k at c1 hk hu
 clear hu
 repeat' (first|(refine shC ?_;first|refine qC (WG t) ?_|refine qC c1 ?_)|refine sA ?_|refine sC (fun _=>?_) (fun _=>?_)|fail)
 all_goals (refine retq rfl ?_;rcases hk with rfl|rfl|rfl|rfl|rfl <;> simp_all [zl])
theorem znr {α:Type} (d:α) (fs:List α):(nums fs.length).map (fun i=>fs.getD i.toNat d)=fs:=by
 rw [nums,List.map_map]
 apply List.ext_getElem
 ·simp
 ·intro i h1 h2
  simp only [List.getElem_map,List.getElem_range,Function.comp]
  rw [Int.toNat_natCast,zV h2]
theorem zpZ {g:Img} (hf:zK g=true) (t:Int):((fieldsOf g t).filter fun i=>!(g.fields.getD i.toNat default).static).map (fun i=>g.fields.getD i.toNat default)=yN g t:=by
 have h1:yN g t=((nums g.fields.length).filter ((fun f:Fd=>f.owner==t&&!f.static) ∘ fun i=>g.fields.getD i.toNat default)).map (fun i=>g.fields.getD i.toNat default):=by
  rw [yN,←List.filter_map,znr]
 rw [h1,fieldsOf,List.filter_filter]
 congr 1
 apply List.filter_congr
 intro i hi
 obtain ⟨i0,i1⟩:=zfl.1 hi
 have hlt:i.toNat < g.fields.length:=by omega
 obtain ⟨o0,o1,_⟩:=zdm hf (List.getElem_mem hlt)
 simp only [Function.comp,zV hlt]
 by_cases ho:g.fields[i.toNat].owner=t
 ·have:=QE (g:=g) (t:=t) (by omega)
  rw [this,Bool.true_and,Bool.and_comm]
 ·have:(g.fields[i.toNat].owner==t)=false:=by simp [ho]
  rw [this];simp
theorem zcJ (g:Img) (t:Int):(yN g t).length≤g.fields.length:=List.length_filter_le _ _
theorem zcr {g:Img} {t:Int} {f:Fd} (h:f∈yN g t):f∈g.fields:=(List.mem_filter.1 h).1
theorem zce (g:Img) (t:Int) (hf:zK g=true):ACall Tryz.prog 295 [zu g,pi t] (.slc 7 ((yN g t).map Zc) false):=by
 refine zf zh Tryz.func295 rfl (by kernel_rfl) Tryz.ntmps295 (by simp) _ rfl (fun hw gB hgB=>?_)
 have hg:g.fields.length≤1000:=by have:=(zG hf).2.1;omega
 have hfl:=Xj g t
 repeat' (first|(refine shC ?_;first|refine qC (YT g t hg) ?_)|refine sA ?_|refine sC (fun _=>?_) (fun _=>?_)|fail)
 refine qZ (t:=5) 0 237 7 (by decide) rfl rfl ?_
 refine zA (fun x:Nat × List Fd=>[(2,.pv (.ptr (zu g) 0)),(5,.own 0),(10,.pv (ints (fieldsOf g t))),(11,.pv (pi (fieldsOf g t).length)),(12,.pv (pi x.1))]) (fun x=>[(0,.row 237 7 (x.2.map Zc))])
  (fun x=>x.1≤(fieldsOf g t).length∧x.2.length≤x.1∧x.2++(((fieldsOf g t).drop x.1).filter fun i=>!(g.fields.getD i.toNat default).static).map (fun i=>g.fields.getD i.toNat default)=yN g t) (fun x=>(fieldsOf g t).length - x.1) (0,[]) ⟨by simp,by simp,zpZ hf t⟩ (tS) ⟨zi rfl zk,rfl⟩ ?_
 rintro ⟨k,out⟩ ⟨hk,hol,hr⟩
 simp only at hk hol hr
 by_cases hlt:k < (fieldsOf g t).length
 ·have he:=Yd hlt
  obtain ⟨h0,hi⟩:=ZF (List.getElem_mem hlt)
  have hef:=Zw (f:=Zc) hi
  rw [drop_cons hlt,List.filter_cons,zV hi] at hr
  generalize hfd:g.fields[(fieldsOf g t)[k].toNat]=f at hr hef
  repeat' (first|(refine shX ?_;first|refine qX he ?_|refine zq rfl (zn zh rfl rfl rfl rfl rfl rfl h0 hef) rfl rfl ?_|refine AD.step _ _ _ _ _ rfl (zn zh rfl rfl rfl rfl rfl rfl h0 hef) rfl rfl ?_)|(refine zI ?_;first|refine yg zh rfl rfl rfl rfl rfl rfl rfl (by show _ * 64≤_;simp;omega) (by simp;omega) rfl rfl ?_)|refine sK ?_|refine sC (fun _=>?_) (fun _=>?_)|fail)
  ·rename_i hx
   rw [if_pos hx,List.map_cons,zV hi,hfd] at hr
   exact ⟨(k + 1,out++[f]),⟨by simp;omega,by simp;omega,by simpa using hr⟩,tD,tS,⟨yS rfl (by simp) zk,rfl⟩⟩
  ·rename_i hx
   rw [if_neg (by simp [hx])] at hr
   exact ⟨(k + 1,out),⟨by simp;omega,by simp;omega,hr⟩,tD,tS,⟨yS rfl rfl zk,rfl⟩⟩
 ·rw [drop_end (by omega)] at hr
  repeat' (first|refine sK ?_|refine sC (fun _=>?_) (fun _=>?_)|fail)
  exact retq rfl (by rw [←hr];simp [zl])
set_option maxHeartbeats 20000000
theorem zgL {g:Img} {n:Nat} {t:Ty} (hd:Dp g (n + 1) t) (hw:whole t=false):∀ f∈yN g t.index,Dp g n f.ty:=by
 rcases hd with h|h
 ·rw [h] at hw;cases hw
 ·exact h
theorem VH {g:Img} (h:ZE g=true) (hu:Zb g=true) {t:Ty} (hk:t.kind=1):yL g t=[]:=by rw [Vh h hu];simp [hk]
theorem Ws {g:Img} (h:ZE g=true) (hu:Zb g=true) {t:Ty} (hk:t.kind≠1) (hw:whole t=true):yL g t=[t]:=by rw [Vh h hu];simp [hk,hw]
theorem zbG {t:Ty} (hw:whole t=false):t.kind=6∧t.ref=false∧¬ 0 < t.dims:=by
 simp only [whole,Bool.or_eq_false_iff,bne_eq_false_iff_eq,decide_eq_false_iff_not] at hw
 exact ⟨hw.1.1,hw.1.2,hw.2⟩
theorem zbB {g:Img} (h:ZE g=true) (hu:Zb g=true) {t:Ty} (hw:whole t=false):yL g t=if (fcs g (yN g t.index)).length=0 then [intTy] else fcs g (yN g t.index):=by
 rw [Vh h hu,hw]
 simp [(zbG hw).1]
theorem zeI {g:Img} (h:ZE g=true) (hu:Zb g=true) {t:Ty} (hw:whole t=false):(yL g t).length=max (fcs g (yN g t.index)).length 1:=by
 rw [zbB h hu hw]
 split
 ·rename_i h0;rw [h0];rfl
 ·omega
theorem zf8 {g:Img} {l:List Fd} {k:Nat} (h:k < l.length):(fcs g (l.take (k + 1))).length=(fcs g (l.take k)).length + (yL g l[k].ty).length:=by
 rw [List.take_succ_eq_append_getElem h,ze4,VT];simp [fcs]
theorem zaO {g:Img} {l:List Fd} {k:Nat} (h:k < l.length):fcs g (l.take (k + 1))=fcs g (l.take k)++yL g l[k].ty:=by
 rw [List.take_succ_eq_append_getElem h,zbO,ze7];simp [fcs]
theorem zfM (g:Img) (hwl:ZE g=true) (hu:Zb g=true) (b:Nat) (hb:b≤100) (hb1:1≤b):∀ (n:Nat) (t:Ty),Dp g n t→ACall Tryz.prog 361 [zu g,yA t,pi b] (pi (Vw g b t:Nat)):=by
 have hf:=Zl hwl
 intro n
 induction n with
 | zero =>
  intro t hd
  have hwh:whole t=true:=hd
  refine zf zh Tryz.func361 rfl (by kernel_rfl) Tryz.ntmps361 (by simp) _ rfl (fun hw gB hgB=>?_)
  have hw':(t.kind != 6||t.ref||decide (0 < t.dims))=true:=hwh
  by_cases hk:t.kind=1
  ·have e:Vw g b t=0:=by rw [Vw,VH hwl hu hk];rfl
   have hkb:(t.kind==1)=true:=by simp [hk]
   repeat' (first|refine sK ?_|refine sC (fun _=>?_) (fun _=>?_)|fail)
   all_goals exact retq rfl (by rw [e];rfl)
  ·have e:Vw g b t=1:=by rw [Vw,Ws hwl hu hk hwh];simp <;> omega
   have hkb:(t.kind==1)=false:=by simp [hk]
   repeat' (first|refine sA ?_|refine sC (fun _=>?_) (fun _=>?_)|fail)
   all_goals first
    | (refine retq rfl ?_;rw [e];rfl)
    | (exfalso;simp_all;done)
 | succ n ih =>
  intro t hd
  refine zf zh Tryz.func361 rfl (by kernel_rfl) Tryz.ntmps361 (by simp) _ rfl (fun hw gB hgB=>?_)
  cases hwh:whole t
  ·obtain ⟨k1,k2,k3⟩:=zbG hwh
   have hn:=zgL hd hwh
   have hol:=zcJ g t.index
   have hgl:g.fields.length≤64:=by have:=(zG hf).2.1;omega
   have hkb1:(t.kind==1)=false:=by simp [k1]
   have hkb2:(t.kind != 6)=false:=by simp [k1]
   have hkb3:decide (0 < t.dims)=false:=by simp [k3]
   repeat' (first|(refine shC ?_;first|refine qC (zce g t.index hf) ?_)|refine sK ?_|refine sC (fun _=>?_) (fun _=>?_)|fail)
   refine zA (fun x:Nat × Nat=>[(2,.pv (pi b)),(3,.pv (.ptr (zu g) 0)),(7,.pv (pi x.2)),(28,.pv (.slc 7 ((yN g t.index).map Zc) false)),(29,.pv (pi (yN g t.index).length)),(30,.pv (pi x.1))]) (fun _=>[])
    (fun x=>x.1≤(yN g t.index).length∧x.2≤2 * b + 1∧Cnt b x.2 (fcs g ((yN g t.index).take x.1)).length) (fun x=>(yN g t.index).length - x.1) (0,0) ⟨by simp,by simp,rfl⟩ (tS) tH ?_
   rintro ⟨k,r⟩ ⟨hk,hr,hc⟩
   simp only at hk hr hc
   by_cases hlt:k < (yN g t.index).length
   ·have he:=yI (f:=Zc) hlt
    have c1:=ih (yN g t.index)[k].ty (hn _ (List.getElem_mem hlt))
    have hs:=zf8 (g:=g) hlt
    have hcl:Vw g b (yN g t.index)[k].ty≤b + 1:=Nat.min_le_right _ _
    have hce:Vw g b (yN g t.index)[k].ty=min (yL g (yN g t.index)[k].ty).length (b + 1):=rfl
    generalize Vw g b (yN g t.index)[k].ty=c at c1 hcl hce
    by_cases hrb:r≤b
    ·have hcn:=hc.add (l:=(yL g (yN g t.index)[k].ty).length) hrb
     rw [←hs,←hce] at hcn
     repeat' (first|(refine shC ?_;first|refine qC c1 ?_)|(refine shX ?_;first|refine qX he ?_)|refine sK ?_|refine sC (fun _=>?_) (fun _=>?_)|fail)
     exact ⟨(k + 1,r + c),⟨hlt,by simp only;omega,hcn⟩,tD,by repeat (first|exact yj|refine zY rfl ?_|(refine qL rfl ?_ ?_;· (first|(rw [wrap_in (by omega) (by omega)] <;> omega)|(dsimp only;rw [wrap_in (by omega) (by omega)] <;> (push_cast;omega))))),tH⟩
    ·have hcn:=hc.stay (l:=(yL g (yN g t.index)[k].ty).length) (by omega)
     rw [←hs] at hcn
     repeat' (first|(refine shX ?_;first|refine qX he ?_)|refine sK ?_|refine sC (fun _=>?_) (fun _=>?_)|fail)
     exact ⟨(k + 1,r),⟨hlt,hr,hcn⟩,tD,tS,tH⟩
   ·have e:Vw g b t=min (max r 1) (b + 1):=by
     rw [Vw,zeI hwl hu hwh]
     rw [List.take_of_length_le (by omega)] at hc
     unfold Cnt at hc;omega
    have hwb:IntKind.i64.wrap ((b:Int) + 1)=((b + 1:Nat):Int):=by rw [wrap_in (by omega) (by omega)];omega
    repeat' (first|refine zq rfl (zqj rfl rfl rfl) rfl rfl ?_|refine zq rfl (zqg rfl rfl rfl) rfl rfl ?_|refine sK ?_|refine sC (fun _=>?_) (fun _=>?_)|fail)
    exact retq rfl (by rw [e];simp only [zl,hwb] <;> (congr 3 <;> omega))
  ·have hw':(t.kind != 6||t.ref||decide (0 < t.dims))=true:=hwh
   by_cases hk:t.kind=1
   ·have e:Vw g b t=0:=by rw [Vw,VH hwl hu hk];rfl
    have hkb:(t.kind==1)=true:=by simp [hk]
    repeat' (first|refine sK ?_|refine sC (fun _=>?_) (fun _=>?_)|fail)
    all_goals exact retq rfl (by rw [e];rfl)
   ·have e:Vw g b t=1:=by rw [Vw,Ws hwl hu hk hwh];simp <;> omega
    have hkb:(t.kind==1)=false:=by simp [hk]
    repeat' (first|refine sA ?_|refine sC (fun _=>?_) (fun _=>?_)|fail)
    all_goals first
     | (refine retq rfl ?_;rw [e];rfl)
     | (exfalso;simp_all;done)
theorem zmV (g:Img) (hwl:ZE g=true) (hu:Zb g=true) (b:Nat) (hb:b≤100) (hb1:1≤b) (t:Ty):ACall Tryz.prog 292 [zu g,yA t,pi b] (pb (decide (b < (yL g t).length))):=by
 refine zf zh Tryz.func292 rfl (by kernel_rfl) Tryz.ntmps292 (by simp) _ rfl (fun hw gB hgB=>?_)
 have c1:=zfM g hwl hu b hb hb1 _ t (zhn hwl hu t)
 have e:decide ((b:Int) < (Vw g b t:Nat))=decide (b < (yL g t).length):=by
  rw [decide_eq_decide];unfold Vw;omega
 repeat' (first|(refine shC ?_;first|refine qC c1 ?_)|refine sA ?_|refine sC (fun _=>?_) (fun _=>?_)|fail)
 exact retq rfl (by simp only [zl,e])
def zqH (t:Int) (f:Fd):Bool:=f.owner==t&&!f.static
theorem Vf {α:Type} {p:α→Bool} {l:List α} {k:Nat} (h:k < l.length):(l.take (k + 1)).filter p=(l.take k).filter p++if p l[k] then [l[k]] else []:=by
 rw [List.take_succ_eq_append_getElem h,List.filter_append]
 cases hp:p l[k] <;> simp [hp]
theorem zd3 {g:Img} {p:Fd→Bool} {l:List Fd} {k:Nat} (h:k < l.length) (hp:p l[k]=true):fcs g ((l.take (k + 1)).filter p)=fcs g ((l.take k).filter p)++yL g l[k].ty:=by
 rw [Vf h,if_pos hp,zbO,ze7];simp [fcs]
theorem zeU {g:Img} {p:Fd→Bool} {l:List Fd} {k:Nat} (h:k < l.length) (hp:p l[k]=false):fcs g ((l.take (k + 1)).filter p)=fcs g ((l.take k).filter p):=by
 rw [Vf h,hp];simp
set_option maxHeartbeats 1000000 in
theorem ziC (g:Img) (hF:Fine g):∀ (n:Nat) (t:Ty),Dp g n t→ACall Tryz.prog 173 [zu g,yA t] (tys (yL g t)):=by
 have hwl:=hF.well
 have hu:=hF.used
 have hf:=Zl hwl
 intro n
 induction n with
 | zero =>
  intro t hd
  have hwh:whole t=true:=hd
  have hw':(t.kind != 6||t.ref||decide (0 < t.dims))=true:=hwh
  refine zf zh Tryz.func173 rfl (by kernel_rfl) Tryz.ntmps173 (by simp) _ rfl (fun hw gB hgB=>?_)
  by_cases hk:t.kind=1
  ·have e:yL g t=[]:=VH hwl hu hk
   have hkb:(t.kind==1)=true:=by simp [hk]
   repeat' (first|refine sK ?_|refine sC (fun _=>?_) (fun _=>?_)|fail)
   all_goals (rw [e];exact Zz (t:=4) (ps:=[tys []]) rfl (qo 4 false) rfl rfl)
  ·have e:yL g t=[t]:=Ws hwl hu hk hwh
   have hkb:(t.kind==1)=false:=by simp [hk]
   repeat' (first|refine sA ?_|refine sC (fun _=>?_) (fun _=>?_)|fail)
   all_goals first
    | (rw [e];exact Zz (t:=4) (ps:=[tys [t]]) rfl (Qg 4 [yA t] true) rfl rfl)
    | (exfalso;simp_all;done)
 | succ n ih =>
  intro t hd
  refine zf zh Tryz.func173 rfl (by kernel_rfl) Tryz.ntmps173 (by simp) _ rfl (fun hw gB hgB=>?_)
  cases hwh:whole t
  ·obtain ⟨k1,k2,k3⟩:=zbG hwh
   have hn:=zgL hd hwh
   have hol:=zcJ g t.index
   have hgl:g.fields.length≤64:=by have:=(zG hf).2.1;omega
   have hkb1:(t.kind==1)=false:=by simp [k1]
   have hkb2:(t.kind != 6)=false:=by simp [k1]
   have hkb3:decide (0 < t.dims)=false:=by simp [k3]
   repeat' (first|refine qZ (t:=5) 0 44 4 (by decide) rfl rfl ?_|(refine shC ?_;first|refine qC (zce g t.index hf) ?_)|refine sK ?_|refine sC (fun _=>?_) (fun _=>?_)|fail)
   refine zA (fun k:Nat=>[(2,.pv (.ptr (zu g) 0)),(5,.own 0),(30,.pv (.slc 7 ((yN g t.index).map Zc) false)),(31,.pv (pi (yN g t.index).length)),(32,.pv (pi k))]) (fun k=>[(0,.row 44 4 ((fcs g ((yN g t.index).take k)).map yA))])
    (fun k=>k≤(yN g t.index).length) (fun k=>(yN g t.index).length - k) 0 (by omega) (tS) ⟨zi rfl zk,rfl⟩ ?_
   rintro k hk
   have hle:=zhh hF ((yN g t.index).take k) (fun f h=>zcr (List.mem_of_mem_take h))
   have hlk:((yN g t.index).take k).length≤k:=by simp;omega
   by_cases hlt:k < (yN g t.index).length
   ·have he:=yI (f:=Zc) hlt
    have c1:=ih (yN g t.index)[k].ty (hn _ (List.getElem_mem hlt))
    have hs:=zaO (g:=g) hlt
    have hcl:=hF.field_le (zcr (List.getElem_mem hlt))
    repeat' (first|(refine shC ?_;first|refine qC c1 ?_)|(refine shX ?_;first|refine qX he ?_)|(refine zI ?_;first|refine yg zh rfl rfl rfl rfl rfl rfl rfl (by show _ * 32≤_;simp;omega) (by simp;omega) rfl rfl ?_)|refine sK ?_|refine sC (fun _=>?_) (fun _=>?_)|fail)
    exact ⟨k + 1,hlt,tD,tS,⟨yS rfl (by rw [hs];simp) zk,rfl⟩⟩
   ·rw [List.take_of_length_le (by omega)] at hle ⊢
    by_cases h0:(fcs g (yN g t.index)).length=0
    ·have e:yL g t=[intTy]:=by rw [zbB hwl hu hwh,if_pos h0]
     have hb0:(((((fcs g (yN g t.index)).map yA).length:Nat):Int)==0)=true:=by rw [List.length_map,h0];rfl
     repeat' (first|refine sK ?_|refine sC (fun _=>?_) (fun _=>?_)|fail)
     all_goals (rw [e];exact Zz (t:=4) (ps:=[tys [intTy]]) rfl (Qg 4 [yA intTy] true) rfl rfl)
    ·have e:yL g t=fcs g (yN g t.index):=by rw [zbB hwl hu hwh,if_neg h0]
     have hb0:(((((fcs g (yN g t.index)).map yA).length:Nat):Int)==0)=false:=by rw [List.length_map,beq_eq_false_iff_ne];omega
     repeat' (first|refine sK ?_|refine sC (fun _=>?_) (fun _=>?_)|fail)
     all_goals exact retq rfl (by rw [e];rfl)
  ·have hw':(t.kind != 6||t.ref||decide (0 < t.dims))=true:=hwh
   by_cases hk:t.kind=1
   ·have e:yL g t=[]:=VH hwl hu hk
    have hkb:(t.kind==1)=true:=by simp [hk]
    repeat' (first|refine sK ?_|refine sC (fun _=>?_) (fun _=>?_)|fail)
    all_goals (rw [e];exact Zz (t:=4) (ps:=[tys []]) rfl (qo 4 false) rfl rfl)
   ·have e:yL g t=[t]:=Ws hwl hu hk hwh
    have hkb:(t.kind==1)=false:=by simp [hk]
    repeat' (first|refine sA ?_|refine sC (fun _=>?_) (fun _=>?_)|fail)
    all_goals first
     | (rw [e];exact Zz (t:=4) (ps:=[tys [t]]) rfl (Qg 4 [yA t] true) rfl rfl)
     | (exfalso;simp_all;done)
theorem VW (g:Img) (hF:Fine g) (t:Ty):ACall Tryz.prog 173 [zu g,yA t] (tys (yL g t)):=ziC g hF _ t (zhn hF.well hF.used t)
theorem WS {g:Img} (hF:Fine g) (p:Fd→Bool) (k:Nat):(fcs g ((g.fields.take k).filter p)).length≤8 * 64:=by
 have h1:=zhh hF ((g.fields.take k).filter p) (fun f h=>List.mem_of_mem_take (List.mem_filter.1 h).1)
 have h2:((g.fields.take k).filter p).length≤g.fields.length:=Nat.le_trans (List.length_filter_le _ _) (by simp;omega)
 have h3:=(zG hF.formed).2.1
 omega
def zoG (g:Img) (n:Nat):List Ty:=fcs g ((g.fields.take n).filter (·.static))
set_option maxHeartbeats 1000000 in
theorem zhH (g:Img) (hF:Fine g) (n:Nat) (hn:n≤g.fields.length):ACall Tryz.prog 171 [zu g,pi n] (tys (zoG g n)):=by
 refine zf zh Tryz.func171 rfl (by kernel_rfl) Tryz.ntmps171 (by simp) _ rfl (fun hw gB hgB=>?_)
 have hgl:g.fields.length≤64:=by have:=(zG hF.formed).2.1;omega
 repeat' (first|refine zq rfl (YL (xs:=g.fields) (f:=Zc) 0 n zh rfl rfl rfl rfl rfl rfl rfl (by omega) (by omega)) rfl rfl ?_|refine sA ?_|refine sC (fun _=>?_) (fun _=>?_)|fail)
 rw [List.drop_zero]
 have htl:(g.fields.take n).length=n:=by simp;omega
 refine qZ (t:=5) 0 44 4 (by decide) rfl rfl ?_
 refine zA (fun k:Nat=>[(2,.pv (.ptr (zu g) 0)),(5,.own 0),(11,.pv (.slc 7 ((g.fields.take n).map Zc) false)),(12,.pv (pi n)),(13,.pv (pi k))]) (fun k=>[(0,.row 44 4 ((fcs g ((g.fields.take k).filter (·.static))).map yA))])
  (fun k=>k≤n) (fun k=>n - k) 0 (by omega) (by repeat (first|exact yj|refine zY rfl ?_|(refine qL rfl ?_ ?_;· (first|(rw [List.length_map,htl])|omega)))) ⟨zi rfl zk,rfl⟩ ?_
 rintro k hk
 have hle:=WS hF (·.static) k
 by_cases hlt:k < n
 ·have hlf:k < g.fields.length:=by omega
  have he:=yI (f:=Zc) (l:=g.fields.take n) (k:=k) (by omega)
  rw [List.getElem_take] at he
  have c1:=VW g hF g.fields[k].ty
  have hcl:=hF.field_le (List.getElem_mem hlf)
  cases hp:g.fields[k].static
  ·have hs:=zeU (g:=g) (p:=(·.static)) hlf hp
   repeat' (first|(refine shX ?_;first|refine qX he ?_)|refine sK ?_|refine sC (fun _=>?_) (fun _=>?_)|fail)
   exact ⟨k + 1,hlt,tD,tS,⟨yS rfl (by rw [hs]) zk,rfl⟩⟩
  ·have hs:=zd3 (g:=g) (p:=(·.static)) hlf hp
   repeat' (first|(refine shC ?_;first|refine qC c1 ?_)|(refine shX ?_;first|refine qX he ?_)|(refine zI ?_;first|refine yg zh rfl rfl rfl rfl rfl rfl rfl (by show _ * 32≤_;simp;omega) (by simp;omega) rfl rfl ?_)|refine sK ?_|refine sC (fun _=>?_) (fun _=>?_)|fail)
   exact ⟨k + 1,hlt,tD,tS,⟨yS rfl (by rw [hs];simp) zk,rfl⟩⟩
 ·obtain rfl:k=n:=by omega
  repeat' (first|refine sK ?_|refine sC (fun _=>?_) (fun _=>?_)|fail)
  exact retq rfl rfl
def VD (g:Img) (l:List Int):List Ty:=l.flatMap fun u=>fcs g (yN g u)
theorem zgv (l:List Int):(Xh l 0).map (·.2)=l.reverse:=by
 apply List.ext_getElem
 ·simp [Xh]
 ·intro i h1 h2
  have hi:i < l.length:=by simpa [Xh] using h1
  simp only [Xh,List.getElem_map,List.getElem_range,List.getElem_reverse]
  rw [List.getD_eq_getElem?_getD,List.getElem?_eq_getElem (by omega),Option.getD_some]
theorem zfW {g:Img} (hF:Fine g) (u:Int):(fcs g (yN g u)).length≤512:=by
 have:=WS hF (zqH u) g.fields.length
 rw [List.take_length] at this
 exact this
theorem zdr {g:Img} (hF:Fine g):∀ us:List Int,(VD g us).length≤512 * us.length
 | []=>by simp [VD]
 | u::us=>by
  have h1:=zfW hF u
  have h2:=zdr hF us
  rw [VD,List.flatMap_cons,List.length_append]
  rw [VD] at h2
  simp only [List.length_cons];omega
set_option maxHeartbeats 1000000 in
theorem zhy (g:Img) (hF:Fine g) (t:Int):ACall Tryz.prog 172 [zu g,pi t] (tys (objT g t)):=by
 have hgl:g.fields.length≤64:=by have:=(zG hF.formed).2.1;omega
 have hgt:g.types.length≤32:=(zG hF.formed).1
 have hui:=zaS g t
 have hul:=qU _ _ hui.1 hui.2
 refine zcy zh Tryz.func172 rfl (by kernel_rfl) Tryz.ntmps172 (by simp) _ rfl (fun hw gB hgB hds=>?_)
 refine WW ?_
 repeat' (first|refine sA ?_|refine sC (fun _=>?_) (fun _=>?_)|fail)
 refine WW ?_
 repeat' (first|refine sA ?_|refine sC (fun _=>?_) (fun _=>?_)|fail)
 refine zii ?_
 refine WW ?_
 repeat' (first|refine zad 0 1 44 4 (by decide) rfl rfl ?_|(refine shC ?_;first|refine zq rfl (ZB rfl rfl (ZO g t (by omega))) rfl rfl ?_|refine AD.step _ _ _ _ _ rfl (ZB rfl rfl (ZO g t (by omega))) rfl rfl ?_|refine qC (zbq _) ?_)|refine sA ?_|refine sC (fun _=>?_) (fun _=>?_)|fail)
 refine zgI ?_
 refine zgJ (fun x=>.int .i64 x.1) (fun x=>.int .i64 x.2) (zgr (up g t) (by omega)) [(2,.pv (.ptr (zu g) 0)),(5,.box 0 0),(13,.pv (.fn (.func 362) [] [.ptr (ints (up g t)) 0]))]
  (fun pre=>[(0,.cell (.own 1)),(1,.row 44 4 ((VD g (pre.map (·.2))).map yA))]) 100 hgB hds (fun _=>rfl) (fun _=>rfl) rfl (tS) rfl rfl rfl (by decide) ⟨by repeat (first|exact zk|refine zi rfl ?_),rfl⟩ (fun _=>rfl) (fun _=>rfl) rfl ?_ ?_
 ·intro g2 us pre x hlen
  rw [zbi] at hlen
  have hb1:=zdr hF (pre.map (·.2))
  rw [List.length_map] at hb1
  have hol:=zcJ g x.2
  repeat' (first|(refine shC ?_;first|refine qC (zce g x.2 hF.formed) ?_)|refine sA ?_|refine sC (fun _=>?_) (fun _=>?_)|fail)
  refine zA (fun k:Nat=>[(2,.pv (.ptr (zu g) 0)),(5,.box 0 0),(18,.pv (.slc 7 ((yN g x.2).map Zc) false)),(19,.pv (pi (yN g x.2).length)),(20,.pv (pi k))])
   (fun k=>[(0,.cell (.own 1)),(1,.row 44 4 ((VD g (pre.map (·.2))++fcs g ((yN g x.2).take k)).map yA))]++yF us 100 [(2,.pv (.ptr (zu g) 0)),(5,.box 0 0),(13,.pv (.fn (.func 362) [] [.ptr (ints (up g t)) 0]))])
   (fun k=>k≤(yN g x.2).length) (fun k=>(yN g x.2).length - k) 0 (by omega) (tS) ⟨zi rfl (yS rfl (by simp [fcs]) (by repeat (first|exact zk|refine zi rfl ?_))),rfl⟩ ?_
  rintro k hk
  have hle:=zhh hF ((yN g x.2).take k) (fun f h=>zcr (List.mem_of_mem_take h))
  have hlk:((yN g x.2).take k).length≤k:=by simp;omega
  by_cases hlt:k < (yN g x.2).length
  ·have he:=yI (f:=Zc) hlt
   have c1:=VW g hF (yN g x.2)[k].ty
   have hs:=zaO (g:=g) hlt
   have hcl:=hF.field_le (zcr (List.getElem_mem hlt))
   repeat' (first|refine yP 7 5 rfl (by kernel_rfl) (by kernel_rfl) (by kernel_rfl) (by kernel_rfl) (by kernel_rfl) ?_|(refine shC ?_;first|refine qC c1 ?_)|(refine shX ?_;first|refine qX he ?_)|(refine zI ?_;first|refine yg zh rfl rfl rfl rfl rfl rfl rfl (by show _ * 32≤_;simp;omega) (by simp;omega) rfl rfl ?_)|refine sK ?_|refine sC (fun _=>?_) (fun _=>?_)|fail)
   exact ⟨k + 1,hlt,tD,tS,⟨zi rfl (yS rfl (by rw [hs];simp) (by repeat (first|exact zk|refine zi rfl ?_))),rfl⟩⟩
  ·rw [List.take_of_length_le (by omega)]
   repeat' (first|refine sK ?_|refine sC (fun _=>?_) (fun _=>?_)|fail)
   exact ⟨zi rfl (yS rfl (by simp [VD]) (by repeat (first|exact zk|refine zi rfl ?_))),rfl⟩
 ·intro g3
  repeat' (first|refine sA ?_|refine sC (fun _=>?_) (fun _=>?_)|fail)
  exact ⟨rfl,retq rfl (by rw [zgv];rfl)⟩
set_option maxHeartbeats 20000000
theorem zkz (g:Img) (hwl:ZE g=true) (hu:Zb g=true) (t:Int):∃ r:Nat,Cnt 32 r (objT g t).length∧ACall Tryz.prog 293 [zu g,pi t] (pi (r:Nat)):=by
 have hf:=Zl hwl
 have hgl:g.fields.length≤64:=by have:=(zG hf).2.1;omega
 have hgt:g.types.length≤32:=(zG hf).1
 have hui:=zaS g t
 have hul:=qU _ _ hui.1 hui.2
 let add:Nat→Fd→Nat:=fun r f=>if r≤32 then r + Vw g 32 f.ty else r
 let addU:Nat→Int→Nat:=fun r u=>(yN g u).foldl add r
 have hadd:∀ (l:List Fd) (r s:Nat),r≤65→Cnt 32 r s→l.foldl add r≤65∧Cnt 32 (l.foldl add r) (s + (fcs g l).length):=by
  intro l
  induction l with
  | nil=>intro r s h1 h2;exact ⟨h1,by simpa [fcs] using h2⟩
  | cons f l ih =>
   intro r s h1 h2
   rw [List.foldl_cons,VT,←Nat.add_assoc]
   have hcl:Vw g 32 f.ty≤33:=Nat.min_le_right _ _
   refine ih _ _ ?_ ?_
   ·simp only [add];split <;> omega
   ·simp only [add]
    split
    ·rename_i h;exact h2.add h
    ·rename_i h;exact h2.stay (by omega)
 have haddU:∀ (us:List Int) (r s:Nat),r≤65→Cnt 32 r s→us.foldl addU r≤65∧Cnt 32 (us.foldl addU r) (s + (us.map fun u=>(fcs g (yN g u)).length).sum):=by
  intro us
  induction us with
  | nil=>intro r s h1 h2;exact ⟨h1,by simpa using h2⟩
  | cons u us ih =>
   intro r s h1 h2
   obtain ⟨k1,k2⟩:=hadd (yN g u) r s h1 h2
   rw [List.foldl_cons,List.map_cons,List.sum_cons,←Nat.add_assoc]
   exact ih _ _ k1 k2
 obtain ⟨hb,hc⟩:=haddU (up g t) 0 0 (by omega) (Cnt.zero _)
 rw [Nat.zero_add,←zne] at hc
 refine ⟨(up g t).foldl addU 0,hc,?_⟩
 clear hc
 refine zf zh Tryz.func293 rfl (by kernel_rfl) Tryz.ntmps293 (by simp) _ rfl (fun hw gB hgB=>?_)
 repeat' (first|(refine shC ?_;first|refine zq rfl (ZB rfl rfl (ZO g t (by omega))) rfl rfl ?_|refine AD.step _ _ _ _ _ rfl (ZB rfl rfl (ZO g t (by omega))) rfl rfl ?_)|refine sA ?_|refine sC (fun _=>?_) (fun _=>?_)|fail)
 refine zA (fun x:Nat × Nat=>[(2,.pv (.ptr (zu g) 0)),(5,.pv (pi x.2)),(12,.pv (ints (up g t))),(13,.pv (pi (up g t).length)),(14,.pv (pi x.1))]) (fun _=>[])
  (fun x=>x.1≤(up g t).length∧x.2≤65∧((up g t).drop x.1).foldl addU x.2=(up g t).foldl addU 0) (fun x=>(up g t).length - x.1) (0,0) ⟨by simp,by simp,rfl⟩ (tS) tH ?_
 rintro ⟨k,r⟩ ⟨hk,hr,hfd⟩
 simp only at hk hr hfd
 by_cases hlt:k < (up g t).length
 ·have heU:=Yd hlt
  rw [zbI hlt] at hfd
  have hol:=zcJ g (up g t)[k]
  repeat' (first|(refine shC ?_;first|refine qC (zce g _ hf) ?_)|(refine shX ?_;first|refine qX heU ?_)|refine sK ?_|refine sC (fun _=>?_) (fun _=>?_)|fail)
  refine zA (fun x:Nat × Nat=>[(2,.pv (.ptr (zu g) 0)),(5,.pv (pi x.2)),(12,.pv (ints (up g t))),(13,.pv (pi (up g t).length)),(14,.pv (pi k)),(20,.pv (.slc 7 ((yN g (up g t)[k]).map Zc) false)),(21,.pv (pi (yN g (up g t)[k]).length)),(22,.pv (pi x.1))]) (fun _=>[])
   (fun x=>x.1≤(yN g (up g t)[k]).length∧x.2≤65∧((yN g (up g t)[k]).drop x.1).foldl add x.2=addU r (up g t)[k]) (fun x=>(yN g (up g t)[k]).length - x.1) (0,r) ⟨by simp,hr,rfl⟩ (tS) tH ?_
  rintro ⟨m,s⟩ ⟨hm,hs,hfs⟩
  simp only at hm hs hfs
  by_cases hltm:m < (yN g (up g t)[k]).length
  ·have he:=yI (f:=Zc) hltm
   rw [zbI hltm] at hfs
   have c1:=zfM g hwl hu 32 (by omega) (by omega) _ (yN g (up g t)[k])[m].ty (zhn hwl hu _)
   have hcl:Vw g 32 (yN g (up g t)[k])[m].ty≤33:=Nat.min_le_right _ _
   simp only [add] at hfs
   generalize Vw g 32 (yN g (up g t)[k])[m].ty=c at c1 hcl hfs
   by_cases hsb:s≤32
   ·rw [if_pos hsb] at hfs
    have hd1:decide ((s:Int)≤32)=true:=by simp;omega
    repeat' (first|(refine shC ?_;first|refine qC c1 ?_)|(refine shX ?_;first|refine qX he ?_)|refine sK ?_|refine sC (fun _=>?_) (fun _=>?_)|fail)
    exact ⟨(m + 1,s + c),⟨hltm,by simp only;omega,hfs⟩,tD,by repeat (first|exact yj|refine zY rfl ?_|(refine qL rfl ?_ ?_;· (first|(rw [wrap_in (by omega) (by omega)] <;> omega)|(dsimp only;rw [wrap_in (by omega) (by omega)] <;> (push_cast;omega))))),tH⟩
   ·rw [if_neg hsb] at hfs
    have hd1:decide ((s:Int)≤32)=false:=by simp;omega
    repeat' (first|(refine shX ?_;first|refine qX he ?_)|refine sK ?_|refine sC (fun _=>?_) (fun _=>?_)|fail)
    exact ⟨(m + 1,s),⟨hltm,hs,hfs⟩,tD,tS,tH⟩
  ·rw [drop_end (by omega)] at hfs
   simp only [List.foldl_nil] at hfs
   repeat' (first|refine sK ?_|refine sC (fun _=>?_) (fun _=>?_)|fail)
   exact ⟨(k + 1,s),⟨hlt,hs,by rw [hfs];exact hfd⟩,tD,tS,tH⟩
 ·rw [drop_end (by omega)] at hfd
  simp only [List.foldl_nil] at hfd
  repeat' (first|refine sK ?_|refine sC (fun _=>?_) (fun _=>?_)|fail)
  exact retq rfl (by rw [←hfd];rfl)
theorem zlF {g:Img} {k:Nat} (h:k < g.fields.length):g.fields.getD k default=g.fields[k]:=zV h
theorem zaB (g:Img) (hx:OkA g):ACall Tryz.prog 166 [zu g] (.tup [pi (Yl g).1,pi (Yl g).2]):=by
 refine zf zh Tryz.func166 rfl (by kernel_rfl) Tryz.ntmps166 (by simp) _ rfl (fun hw gB hgB=>?_)
 have c0:=zkZ g hx
 cases hwl:ZE g
 ·rw [hwl] at c0
  repeat' (first|(refine shC ?_;first|refine qC c0 ?_)|refine sK ?_|refine sC (fun _=>?_) (fun _=>?_)|fail)
  exact retq rfl (by simp [zl,Yl,hwl])
 ·rw [hwl] at c0
  have hf:=Zl hwl
  have hgl:g.fields.length≤64:=by have:=(zG hf).2.1;omega
  have hgt:g.types.length≤32:=(zG hf).1
  repeat' (first|(refine shC ?_;first|refine qC c0 ?_)|refine sK ?_|refine sC (fun _=>?_) (fun _=>?_)|fail)
  refine zA (fun k:Nat=>[(1,.pv (.ptr (zu g) 0)),(11,.pv (.slc 7 (g.fields.map Zc) false)),(12,.pv (pi g.fields.length)),(13,.pv (pi k))]) (fun _=>[]) (fun k=>k≤g.fields.length∧∀ j,j < k→qA g (g.fields.getD j default).ty=true) (fun k=>g.fields.length - k) 0 ⟨by omega,fun j h=>by omega⟩ (tS) tH ?_
  rintro k ⟨hk,hno⟩
  by_cases hlt:k < g.fields.length
  ·have he:=yI (f:=Zc) hlt
   have c1:=zeN g g.fields[k].ty hf
   cases hus:qA g g.fields[k].ty
   ·have hfin:=zg7 hwl hlt hno (by rw [zlF hlt];exact hus)
    rw [hus] at c1
    repeat' (first|(refine shC ?_;first|refine qC c1 ?_)|(refine shX ?_;first|refine qX he ?_)|refine sK ?_|refine sC (fun _=>?_) (fun _=>?_)|fail)
    exact retq rfl (by rw [hfin];rfl)
   ·rw [hus] at c1
    repeat' (first|(refine shC ?_;first|refine qC c1 ?_)|(refine shX ?_;first|refine qX he ?_)|refine sK ?_|refine sC (fun _=>?_) (fun _=>?_)|fail)
    exact ⟨k + 1,⟨hlt,fun j hj=>by
     by_cases e:j=k
     ·subst e;rw [zlF hlt];exact hus
     ·exact hno j (by omega)⟩,tD,tS,tH⟩
  ·have hu:Zb g=true:=List.all_eq_true.2 fun j hj=>hno j (by have:=List.mem_range.1 hj;omega)
   clear hno
   repeat' (first|refine sK ?_|refine sC (fun _=>?_) (fun _=>?_)|fail)
   refine zA (fun k:Nat=>[(1,.pv (.ptr (zu g) 0)),(27,.pv (pi g.types.length)),(28,.pv (pi k))]) (fun _=>[]) (fun k=>k≤g.types.length∧∀ j,j < k→ZW g j=false) (fun k=>g.types.length - k) 0 ⟨by omega,fun j h=>by omega⟩ (tS) tH ?_
   clear hk hlt
   rintro k ⟨hk,hno⟩
   by_cases hlt:k < g.types.length
   ·have c1:=qw g hf (k:Int)
    have hfin:=fun h=>zhz hwl hu hlt hno h
    have hnx:ZW g k=false→∀ j,j < k + 1→ZW g j=false:=fun h j hj=>by
     by_cases e:j=k
     ·subst e;exact h
     ·exact hno j (by omega)
    have hsb:ZW g k=((zB g k==1&&decide (8 < (yL g ⟨6,k,0,false⟩).length))||(zB g k==0&&decide (32 < (objT g k).length))):=rfl
    clear hno
    by_cases hk1:zB g k=1
    ·have c2:=zmV g hwl hu 8 (by omega) (by omega) ⟨6,k,0,false⟩
     rw [hk1] at hsb c1
     cases hl:decide (8 < (yL g ⟨6,k,0,false⟩).length)
     ·rw [hl] at c2 hsb
      repeat' (first|(refine shC ?_;first|refine qC c1 ?_|refine qC c2 ?_)|refine sK ?_|refine sC (fun _=>?_) (fun _=>?_)|fail)
      exact ⟨k + 1,⟨hlt,hnx (by rw [hsb];rfl)⟩,tD,tS,tH⟩
     ·rw [hl] at c2 hsb
      repeat' (first|(refine shC ?_;first|refine qC c1 ?_|refine qC c2 ?_)|refine sK ?_|refine sC (fun _=>?_) (fun _=>?_)|fail)
      exact retq rfl (by rw [hfin (by rw [hsb];rfl)];rfl)
    ·have hb1:(zB g k==1)=false:=by simp [hk1]
     by_cases hk0:zB g k=0
     ·obtain ⟨r,hr,c2⟩:=zkz g hwl hu k
      rw [hk0] at hsb c1
      have hd:decide (32 < (r:Int))=decide (32 < (objT g k).length):=by rw [decide_eq_decide,←hr.more];omega
      cases hl:decide (32 < (objT g k).length)
      ·rw [hl] at hsb hd
       repeat' (first|(refine shC ?_;first|refine qC c1 ?_|refine qC c2 ?_)|refine sK ?_|refine sC (fun _=>?_) (fun _=>?_)|fail)
       exact ⟨k + 1,⟨hlt,hnx (by rw [hsb];rfl)⟩,tD,tS,tH⟩
      ·rw [hl] at hsb hd
       repeat' (first|(refine shC ?_;first|refine qC c1 ?_|refine qC c2 ?_)|refine sK ?_|refine sC (fun _=>?_) (fun _=>?_)|fail)
       exact retq rfl (by rw [hfin (by rw [hsb];rfl)];rfl)
     ·have hb0:(zB g k==0)=false:=by simp [hk0]
      rw [hb1,hb0] at hsb
      repeat' (first|(refine shC ?_;first|refine qC c1 ?_)|refine sK ?_|refine sC (fun _=>?_) (fun _=>?_)|fail)
      exact ⟨k + 1,⟨hlt,hnx (by rw [hsb];rfl)⟩,tD,tS,tH⟩
   ·repeat' (first|refine sK ?_|refine sC (fun _=>?_) (fun _=>?_)|fail)
    exact retq rfl (by rw [zbX hwl hu (fun j hj=>hno j (by omega))];rfl)
set_option maxHeartbeats 20000000
theorem zbS (g:Img) (hx:OkA g):ACall Tryz.prog 170 [zu g] (pb (YM g)):=by
 refine zf zh Tryz.func170 rfl (by kernel_rfl) Tryz.ntmps170 (by simp) _ rfl (fun hw gB hgB=>?_)
 repeat' (first|(refine shC ?_;first|refine qC (zaB g hx) ?_)|refine sA ?_|refine sC (fun _=>?_) (fun _=>?_)|fail)
 exact retq rfl rfl
def cellsA (g:Img) (t:Ty):List Ty:=if YM g&&qA g t then yL g t else []
theorem zil (g:Img) (hx:OkA g) (t:Ty):ACall Tryz.prog 221 [zu g,yA t] (tys (cellsA g t)):=by
 refine zf zh Tryz.func221 rfl (by kernel_rfl) Tryz.ntmps221 (by simp) _ rfl (fun hw gB hgB=>?_)
 have c0:=zbS g hx
 cases hfi:YM g
 ·rw [hfi] at c0
  repeat' (first|(refine shC ?_;first|refine qC c0 ?_)|refine sK ?_|refine sC (fun _=>?_) (fun _=>?_)|fail)
  all_goals (rw [show cellsA g t=[] by simp [cellsA,hfi]];exact Zz (t:=4) (ps:=[tys []]) rfl (qo 4 false) rfl rfl)
 ·rw [hfi] at c0
  have hF:=zbh hfi
  have c1:=zeN g t hF.formed
  cases hus:qA g t
  ·rw [hus] at c1
   repeat' (first|(refine shC ?_;first|refine qC c0 ?_|refine qC c1 ?_)|refine sK ?_|refine sC (fun _=>?_) (fun _=>?_)|fail)
   all_goals (rw [show cellsA g t=[] by simp [cellsA,hus]];exact Zz (t:=4) (ps:=[tys []]) rfl (qo 4 false) rfl rfl)
  ·rw [hus] at c1
   repeat' (first|(refine shC ?_;first|refine qC c0 ?_|refine qC c1 ?_|refine qC (VW g hF t) ?_)|refine sK ?_|refine sC (fun _=>?_) (fun _=>?_)|fail)
   all_goals exact retq rfl (by simp [zl,cellsA,hfi,hus])
theorem zep (g:Img) (hx:OkA g) (t:Ty):ACall Tryz.prog 168 [zu g,yA t] (pi (cellsA g t).length):=by
 refine zf zh Tryz.func168 rfl (by kernel_rfl) Tryz.ntmps168 (by simp) _ rfl (fun hw gB hgB=>?_)
 repeat' (first|(refine shC ?_;first|refine qC (zil g hx t) ?_)|refine sA ?_|refine sC (fun _=>?_) (fun _=>?_)|fail)
 exact retq rfl (by simp [zl])
def Qc (g:Img) (t:Int):List Ty:=if YM g&&zB g t==0 then objT g t else []
theorem zhD (g:Img) (hx:OkA g) (t:Int):ACall Tryz.prog 167 [zu g,pi t] (tys (Qc g t)):=by
 refine zf zh Tryz.func167 rfl (by kernel_rfl) Tryz.ntmps167 (by simp) _ rfl (fun hw gB hgB=>?_)
 have c0:=zbS g hx
 cases hfi:YM g
 ·rw [hfi] at c0
  repeat' (first|(refine shC ?_;first|refine qC c0 ?_)|refine sK ?_|refine sC (fun _=>?_) (fun _=>?_)|fail)
  all_goals (rw [show Qc g t=[] by simp [Qc,hfi]];exact Zz (t:=4) (ps:=[tys []]) rfl (qo 4 false) rfl rfl)
 ·rw [hfi] at c0
  have hF:=zbh hfi
  have c1:=qw g hF.formed t
  by_cases hk:zB g t=0
  ·rw [hk] at c1
   repeat' (first|(refine shC ?_;first|refine qC c0 ?_|refine qC c1 ?_|refine qC (zhy g hF t) ?_)|refine sK ?_|refine sC (fun _=>?_) (fun _=>?_)|fail)
   all_goals exact retq rfl (by simp [zl,Qc,hfi,hk])
  ·have hkb:(zB g t != 0)=true:=by simp [hk]
   repeat' (first|(refine shC ?_;first|refine qC c0 ?_|refine qC c1 ?_)|refine sK ?_|refine sC (fun _=>?_) (fun _=>?_)|fail)
   all_goals (rw [show Qc g t=[] by simp [Qc,hk]];exact Zz (t:=4) (ps:=[tys []]) rfl (qo 4 false) rfl rfl)
def qI (g:Img):List Ty:=if YM g then zoG g g.fields.length else []
theorem zbm (g:Img) (hx:OkA g):ACall Tryz.prog 90 [zu g] (tys (qI g)):=by
 refine zf zh Tryz.func90 rfl (by kernel_rfl) Tryz.ntmps90 (by simp) _ rfl (fun hw gB hgB=>?_)
 have c0:=zbS g hx
 cases hfi:YM g
 ·rw [hfi] at c0
  repeat' (first|(refine shC ?_;first|refine qC c0 ?_)|refine sK ?_|refine sC (fun _=>?_) (fun _=>?_)|fail)
  all_goals (rw [show qI g=[] by simp [qI,hfi]];exact Zz (t:=2) (ps:=[tys []]) rfl (qo 4 false) rfl rfl)
 ·rw [hfi] at c0
  have hF:=zbh hfi
  have c1:=zhH g hF g.fields.length (Nat.le_refl _)
  rw [show ((g.fields.length:Nat):Int)=(((g.fields.map Zc).length:Nat):Int) by simp] at c1
  repeat' (first|(refine shC ?_;first|refine qC c0 ?_|refine qC c1 ?_)|refine sK ?_|refine sC (fun _=>?_) (fun _=>?_)|fail)
  all_goals exact retq rfl (by simp [zl,qI,hfi])
theorem znJ {g:Img} (hF:Fine g) (n:Nat):(zoG g n).length≤512:=WS hF _ n
set_option maxHeartbeats 20000000
theorem YB (m:Me) (f:Int):ACall Tryz.prog 249 [zM m,pi f] (pb (yY m.flags f)):=by
 refine zf zh Tryz.func249 rfl (by kernel_rfl) Tryz.ntmps249 (by simp) _ rfl (fun hw gB hgB=>?_)
 repeat' (first|refine sA ?_|refine sC (fun _=>?_) (fun _=>?_)|fail)
 all_goals (first|refine retq rfl ?_|refine zcp rfl ?_)
 all_goals (first|(simp_all [zl,yY];done)|(simp_all [zl,yY];omega))
def zfN (a b:Me):Bool:=a.name.toList==b.name.toList&&decide (a.ret=b.ret)&&(yY a.flags 1==yY b.flags 1)&&decide (a.params=b.params)
def zkx (a b:Me):Bool:=a.name.toList==b.name.toList&&za1 a b
theorem zdq (a b:Me):ACall Tryz.prog 348 [zM a,zM b] (pb (zfN a b)):=by
 refine zf zh Tryz.func348 rfl (by kernel_rfl) Tryz.ntmps348 (by simp) _ rfl (fun hw gB hgB=>?_)
 have hty:=XZ a.ret b.ret
 repeat' (first|(refine shC ?_;first|refine qC (YB _ _) ?_|refine qC (zcj _ _) ?_)|refine sA ?_|refine sC (fun _=>?_) (fun _=>?_)|fail)
 all_goals refine retq rfl ?_
 all_goals (simp only [zl,zfN,←hty];clear hty;simp_all)
theorem zmu:∀ a b:Fin 32,(yY (a.val:Int) 1==yY (b.val:Int) 1)=((a.val:Int).tmod 2==(b.val:Int).tmod 2):=by decide +kernel
theorem zm6:∀ a:Fin 32,yY (a.val:Int) 1=yE a.val 1∧yY (a.val:Int) 2=yE a.val 2∧yY (a.val:Int) 4=yE a.val 4∧yY (a.val:Int) 8=yE a.val 8∧yY (a.val:Int) 16=yE a.val 16:=by decide +kernel
theorem Vk {f:Int} (h0:0≤f) (h1:f≤31):yY f 1=yE f 1∧yY f 2=yE f 2∧yY f 4=yE f 4∧yY f 8=yE f 8∧yY f 16=yE f 16:=by
 have:=zm6 ⟨f.toNat,by omega⟩
 simpa only [Int.toNat_of_nonneg h0] using this
theorem znX {x y:Me} (hx0:0≤x.flags) (hx1:x.flags≤31) (hy0:0≤y.flags) (hy1:y.flags≤31):zfN x y=zkx x y:=by
 have:=zmu ⟨x.flags.toNat,by omega⟩ ⟨y.flags.toNat,by omega⟩
 simp only [Int.toNat_of_nonneg hx0,Int.toNat_of_nonneg hy0] at this
 rw [zfN,zkx,za1,this]
 simp only [Bool.and_assoc]
theorem zmh {g:Img} (hW:Wl g) {t:Int} {td:TD} (h:typeAt g t=some td) (he:0≤td.ext):zB g t=0∧zB g td.ext=0:=by
 refine ⟨?_,(hW.extk h).resolve_left (by omega)⟩
 have hfl:=hW.flag t td h
 rw [zB,h]
 simp only
 have hne:(td.ext == -1)=false:=by simp;omega
 have hr:Xf td.flags=2∨Xf td.flags=1∨Xf td.flags=3∨Xf td.flags=0:=by
  unfold Xf
  cases yE td.flags 2 <;> cases yE td.flags 1 <;> cases yE td.flags 16 <;> simp
 rw [Zi,hne] at hfl
 rcases hr with h1|h1|h1|h1
 ·rw [h1] at hfl;simp at hfl
 ·rw [h1] at hfl;simp at hfl
 ·rw [h1] at hfl;simp at hfl
 ·exact h1
end Go.Cg
