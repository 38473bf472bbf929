/- A part of the walks by abstract values: no statement of its own. -/
import Derived.Test.YtmgdpkcmbnlklaaGreatA22
import Derived.Test.YtmgdpkcmbnlklaaGreatA24
import Derived.Test.YtmgdpkcmbnlklaaGreatA7
import Derived.Test.YtmgdpkcmbnlklaaGreatA6
import Derived.Test.YtmgdpkcmbnlklaaGreatA9
import Derived.Test.YtmgdpkcmbnlklaaGreatA12
import Derived.Test.YtmgdpkcmbnlklaaGreatA19
import Derived.Test.YtmgdpkcmbnlklaaGreatA20
import Derived.Test.YtmgdpkcmbnlklaaGreatA3
import Derived.Test.YtmgdpkcmbnlklaaGreatA11
set_option linter.unusedVariables false
set_option linter.unusedSimpArgs false
namespace Go.Cg
open Go.Proofs
set_option maxHeartbeats 20000000
theorem zhm (p:Int→Int→Bool) (f:FuncId) (first cap:List PV) (a b:Int) (hp:ACall Tryz.prog f (first++[pi a,pi b]++cap) (pb (p a b))):ACall Tryz.prog 99 [pi b,.ptr (.fn (.func f) first cap) 0,.ptr (pi a) 0] (pb (p a b)):=by
 refine zf zk Tryz.func99 rfl (by kernel_rfl) Tryz.ntmps99 (by simp) _ rfl (fun hw gB hgB=>?_)
 repeat' (first|(refine shC ?_;first|refine qV (hp) ?_)|refine sA ?_|refine sC (fun _=>?_) (fun _=>?_)|fail)
 exact retq rfl rfl
theorem zeA (l:List Int) (p:Int→Int→Bool) (f:FuncId) (first cap:List PV) (hp:∀ a∈l,∀ b∈l,ACall Tryz.prog f (first++[pi a,pi b]++cap) (pb (p a b))):ACall Tryz.prog 79 [ints l,.fn (.func f) first cap] (pb (WO l p)):=by
 refine zf zk Tryz.func79 rfl (by kernel_rfl) Tryz.ntmps79 (by simp) _ rfl (fun hw gB hgB=>?_)
 have hl:=zew hw.1
 repeat' (first|refine sA ?_|refine sC (fun _=>?_) (fun _=>?_)|fail)
 refine zI (fun k:Nat=>[(0,.pv (ints l)),(3,.pv (.ptr (.fn (.func f) first cap) 0)),(7,.pv (ints l)),(8,.pv (pi l.length)),(9,.pv (pi k))]) (fun _=>[]) (fun k=>k≤l.length∧WO l p=((List.range l.length).drop k).any fun i=>(l.take i).any (p (l.getD i 0))) (fun k=>l.length - k) 0 ⟨by omega,rfl⟩ (tS) tH ?_
 rintro k ⟨hk,hr⟩
 by_cases hlt:k < l.length
 ·have he:=ZR hlt
  have c1:=QF (l.take k) (p l[k]) 99 [] [.ptr (.fn (.func f) first cap) 0,.ptr (pi l[k]) 0] (fun x hx=>zhm p f first cap l[k] x (hp _ (List.getElem_mem hlt) x (List.mem_of_mem_take hx)))
  rw [zdC hlt,zZ hlt] at hr
  repeat' (first|refine XF (t:=6) rfl rfl rfl ?_|refine zy rfl (Xk (xs:=l) (f:=pi) 0 k zk rfl rfl rfl rfl rfl rfl rfl (by omega) (by omega)) rfl rfl ?_|(refine shC ?_;first|refine qC c1 ?_)|(refine shX ?_;first|refine qX he ?_)|refine sK ?_|refine sC (fun _=>?_) (fun _=>?_)|fail)
  all_goals first|(refine retq rfl ?_;first|(simp only [zl,BL,List.length_map] at *;simp only [*,BL,List.length_map];done)|(simp_all [zl];done)|(simp_all [zl];omega)|(simp_all [zl];intros;omega))|(refine ⟨k + 1,⟨by omega,?_⟩,tD,tS,tH⟩;first|(simp only [BL,List.length_map] at *;simp only [*,BL,List.length_map];done)|(simp_all [];done)|(simp_all [];omega)|(simp_all [];intros;omega))|(trace "LEND";trace_state)
 ·rw [drop_end (by simp;omega)] at hr
  repeat' (first|refine sK ?_|refine sC (fun _=>?_) (fun _=>?_)|fail)
  all_goals first|(refine retq rfl ?_;first|(simp only [zl,BL,List.length_map] at *;simp only [*,BL,List.length_map];done)|(simp_all [zl];done)|(simp_all [zl];omega)|(simp_all [zl];intros;omega))|(refine retn rfl ?_;first|(simp only [zl,BL,List.length_map] at *;simp only [*,BL,List.length_map];done)|(simp_all [zl];done)|(simp_all [zl];omega)|(simp_all [zl];intros;omega))|skip
theorem zhH (g:Img) (a b:Int) (ha0:0≤a) (ha:a.toNat < g.fields.length) (hb0:0≤b) (hb:b.toNat < g.fields.length):ACall Tryz.prog 80 [pi a,pi b,.ptr (zO g) 0] (pb (zdL g a b)):=by
 refine zf zk Tryz.func80 rfl (by kernel_rfl) Tryz.ntmps80 (by simp) _ rfl (fun hw gB hgB=>?_)
 have hea:=QV (f:=YA) ha
 have heb:=QV (f:=YA) hb
 repeat' (first|(refine shX ?_;first|refine zy rfl (zL zk rfl rfl rfl rfl rfl rfl ha0 hea) rfl rfl ?_|refine AD.step _ _ _ _ _ rfl (zL zk rfl rfl rfl rfl rfl rfl ha0 hea) rfl rfl ?_|refine zy rfl (zL zk rfl rfl rfl rfl rfl rfl hb0 heb) rfl rfl ?_|refine AD.step _ _ _ _ _ rfl (zL zk rfl rfl rfl rfl rfl rfl hb0 heb) rfl rfl ?_)|refine sA ?_|refine sC (fun _=>?_) (fun _=>?_)|fail)
 exact retq rfl (by simp only [zl,zdL,fName,zZ ha,zZ hb])
theorem zf8 (a b:List Ty):ACall Tryz.prog 83 [tys a,tys b] (pb (decide (a=b))):=by
 refine zf zk Tryz.func83 rfl (by kernel_rfl) Tryz.ntmps83 (by simp) _ rfl (fun hw gB hgB=>?_)
 have hl:=zlF hw.1
 by_cases hlen:a.length=b.length
 ·repeat' (first|refine sK ?_|refine sC (fun _=>?_) (fun _=>?_)|fail)
  refine zI (fun k:Nat=>[(0,.pv (tys a)),(1,.pv (tys b)),(11,.pv (tys a)),(12,.pv (pi a.length)),(13,.pv (pi k))]) (fun _=>[]) (fun k=>k≤a.length∧a.take k=b.take k) (fun k=>a.length - k) 0 ⟨by simp,by simp⟩ (tS) tH ?_
  rintro k ⟨hk,hno⟩
  by_cases hlt:k < a.length
  ·have he:=zjr hlt
   have hltb:k < b.length:=by omega
   have he':=zjr hltb
   repeat' (first|(refine shX ?_;first|refine qX he ?_|refine qX he' ?_)|refine sK ?_|refine sC (fun _=>?_) (fun _=>?_)|fail)
   ·rename_i h
    refine retq rfl ?_
    have:a≠b:=by
     rintro rfl
     simp at h
    simp [zl,this]
   ·rename_i h
    have e:a[k]=b[k]:=by
     simp only [Bool.not_eq_false'] at h
     rw [zd8] at h
     simpa using h
    exact ⟨k + 1,⟨by omega,zfP hlt hltb hno e⟩,tD,tS,tH⟩
  ·repeat' (first|refine sK ?_|refine sC (fun _=>?_) (fun _=>?_)|fail)
   refine retq rfl ?_
   rw [List.take_of_length_le (by omega),List.take_of_length_le (by omega)] at hno
   simp [zl,hno]
 ·have hne:a≠b:=by rintro rfl;exact hlen rfl
  have hb:((((a.map yZ).length:Nat):Int) != (((b.map yZ).length:Nat):Int))=true:=by simp;omega
  repeat' (first|refine sK ?_|refine sC (fun _=>?_) (fun _=>?_)|fail)
  exact retq rfl (by simp [zl,hne])
abbrev zMe:AV:=.pv (.agg [.base (.string ByteArray.empty),pi 0,pi 0,.base (.slice none 0 0),pi 0,pi 0,pi 0,pb false,.base (.slice none 0 0),pi 0,.base (.slice none 0 0),.base (.slice none 0 0)])
theorem zgr (g:Img) (a b:Int) (ha0:0≤a) (ha:a.toNat < g.methods.length) (hb0:0≤b) (hb:b.toNat < g.methods.length):ACall Tryz.prog 82 [pi a,pi b,.ptr (zO g) 0] (pb (Qs (mAt g a) (mAt g b))):=by
 refine zf zk Tryz.func82 rfl (by kernel_rfl) Tryz.ntmps82 (by simp) _ rfl (fun hw gB hgB=>?_)
 have hea:=QV (f:=YG) ha
 have heb:=QV (f:=YG) hb
 rw [mAt,mAt,zZ ha,zZ hb]
 generalize g.methods[a.toNat]=x at hea ⊢
 generalize g.methods[b.toNat]=y at heb ⊢
 have hty:=zd8 x.ret y.ret
 have c1:=zf8 x.params y.params
 repeat' (first|refine zhX rfl ?_|refine sA ?_|fail)
 refine zbK 10 11 [0,1,2,3,4,5,6,7,8,9,10,11,12,13] [0,1,2,3,4,5,6,7,8,9,10,11,12,13] [0,1,2,3,4,5,6,7,8,9,11,10,12,13] [0,1,2,3,4,5,6,7,8,9,11,10,12,13] rfl (by kernel_rfl) (by kernel_rfl) (zdY (by kernel_rfl) ?_) (zdY (by kernel_rfl) ?_)
 ·refine zcY 14 14 [10,11,12,13] [] (mkL [[],[(0,.cell zMe)],[(1,.cell zMe),(0,.cell zMe)],[(0,.cell (.pv (YG x))),(1,.cell zMe),(0,.cell zMe)],[(1,.cell (.pv (YG y))),(0,.cell (.pv (YG x))),(1,.cell zMe),(0,.cell zMe)]]) (mkL [[],[(0,.cell zMe)],[(1,.cell zMe),(0,.cell zMe)],[(0,.cell (.pv (YG x))),(1,.cell zMe),(0,.cell zMe)],[(1,.cell (.pv (YG y))),(0,.cell (.pv (YG x))),(1,.cell zMe),(0,.cell zMe)]]) [] none rfl (by kernel_rfl) (by kernel_rfl) (by kernel_rfl) (by kernel_rfl) (by kernel_rfl) (by kernel_rfl) (fun p hp=>by simp at hp) rfl (zd5 rfl ⟨tH,tH,tH,tH,tH,trivial⟩) rfl (XE rfl rfl) (fun q h=>XE rfl rfl q 4 h (Nat.le_refl 4)) tH rfl (fun v hv=>by cases hv) ?_
  repeat' (first|refine VP 10 [0,1,2] (.box 0 0) rfl rfl rfl rfl rfl ?_|refine VP 0 [0,1] (.box 1 0) rfl rfl rfl rfl rfl ?_|refine zbe [0] (.pv (.tup [])) rfl rfl rfl ?_|refine zbe [] (.pv (.tup [])) rfl rfl rfl ?_|refine ⟨⟨rfl,Qu zk 0 rfl rfl rfl rfl,.inr (by kernel_rfl)⟩,?_⟩|refine ⟨⟨rfl,Qu zk 1 rfl rfl rfl rfl,.inr (by kernel_rfl)⟩,?_⟩|refine ⟨⟨rfl,zbi zk rfl rfl rfl rfl rfl rfl rfl,.inl rfl⟩,?_⟩|refine zbm ?_|intro _|refine Qa ?_|(refine shC ?_;first|refine qC c1 ?_)|(refine shX ?_;first|refine zy rfl (zL zk rfl rfl rfl rfl rfl rfl ha0 hea) rfl rfl ?_|refine AD.step _ _ _ _ _ rfl (zL zk rfl rfl rfl rfl rfl rfl ha0 hea) rfl rfl ?_|refine zy rfl (zL zk rfl rfl rfl rfl rfl rfl hb0 heb) rfl rfl ?_|refine AD.step _ _ _ _ _ rfl (zL zk rfl rfl rfl rfl rfl rfl hb0 heb) rfl rfl ?_)|refine sK ?_|refine sC (fun _=>?_) (fun _=>?_)|fail)
  all_goals refine retq rfl ?_
  all_goals (simp only [zl,Qs,←hty];clear hty;simp_all)
 ·refine zcY 14 14 [10,11,12,13] [] (mkL [[],[(1,.cell zMe)],[(0,.cell zMe),(1,.cell zMe)],[(0,.cell (.pv (YG x))),(0,.cell zMe),(1,.cell zMe)],[(1,.cell (.pv (YG y))),(0,.cell (.pv (YG x))),(0,.cell zMe),(1,.cell zMe)]]) (mkL [[],[(1,.cell zMe)],[(0,.cell zMe),(1,.cell zMe)],[(0,.cell (.pv (YG x))),(0,.cell zMe),(1,.cell zMe)],[(1,.cell (.pv (YG y))),(0,.cell (.pv (YG x))),(0,.cell zMe),(1,.cell zMe)]]) [] none rfl (by kernel_rfl) (by kernel_rfl) (by kernel_rfl) (by kernel_rfl) (by kernel_rfl) (by kernel_rfl) (fun p hp=>by simp at hp) rfl (zd5 rfl ⟨tH,tH,tH,tH,tH,trivial⟩) rfl (XE rfl rfl) (fun q h=>XE rfl rfl q 4 h (Nat.le_refl 4)) tH rfl (fun v hv=>by cases hv) ?_
  repeat' (first|refine VP 10 [0,1,2] (.box 1 0) rfl rfl rfl rfl rfl ?_|refine VP 0 [0,1] (.box 0 0) rfl rfl rfl rfl rfl ?_|refine zbe [0] (.pv (.tup [])) rfl rfl rfl ?_|refine zbe [] (.pv (.tup [])) rfl rfl rfl ?_|refine ⟨⟨rfl,Qu zk 1 rfl rfl rfl rfl,.inr (by kernel_rfl)⟩,?_⟩|refine ⟨⟨rfl,Qu zk 0 rfl rfl rfl rfl,.inr (by kernel_rfl)⟩,?_⟩|refine ⟨⟨rfl,zbi zk rfl rfl rfl rfl rfl rfl rfl,.inl rfl⟩,?_⟩|refine zbm ?_|intro _|refine Qa ?_|(refine shC ?_;first|refine qC c1 ?_)|(refine shX ?_;first|refine zy rfl (zL zk rfl rfl rfl rfl rfl rfl ha0 hea) rfl rfl ?_|refine AD.step _ _ _ _ _ rfl (zL zk rfl rfl rfl rfl rfl rfl ha0 hea) rfl rfl ?_|refine zy rfl (zL zk rfl rfl rfl rfl rfl rfl hb0 heb) rfl rfl ?_|refine AD.step _ _ _ _ _ rfl (zL zk rfl rfl rfl rfl rfl rfl hb0 heb) rfl rfl ?_)|refine sK ?_|refine sC (fun _=>?_) (fun _=>?_)|fail)
  all_goals refine retq rfl ?_
  all_goals (simp only [zl,Qs,←hty];clear hty;simp_all)
theorem zgt (g:Img) (t:Int) (td:TD) (htd:typeAt g t=some td) (hg:g.types.length≤1000) (hgf:g.fields.length≤1000) (hgm:g.methods.length≤1000):ACall Tryz.prog 66 [zO g,pi t] (pb (zb8 g t td)):=by
 refine zf zk Tryz.func66 rfl (by kernel_rfl) Tryz.ntmps66 (by simp) _ rfl (fun hw gB hgB=>?_)
 obtain ⟨h0,heT⟩:=Zk htd
 have cf:=zeA (fieldsOf g t) (zdL g) 80 [] [.ptr (zO g) 0] (fun a ha b hb=>zhH g a b (Zl ha).1 (Zl ha).2 (Zl hb).1 (Zl hb).2)
 have cm:=zeA (methodsOf g t) (fun a b=>Qs (mAt g a) (mAt g b)) 82 [] [.ptr (zO g) 0] (fun a ha b hb=>zgr g a b (Zt ha).1 (Zt ha).2 (Zt hb).1 (Zt hb).2)
 repeat' (first|refine sA ?_|refine sC (fun _=>?_) (fun _=>?_)|fail)
 refine zI (fun k:Nat=>[(1,.pv (pi t)),(2,.pv (.ptr (zO g) 0)),(8,.pv (.slc 4 (g.types.map ZE) false)),(9,.pv (pi g.types.length)),(10,.pv (pi k))]) (fun _=>[]) (fun k=>k≤g.types.length∧zb8 g t td=(((List.range g.types.length).drop k).all (zab g t td)&&!WO (fieldsOf g t) (zdL g)&&!WO (methodsOf g t) (fun a b=>Qs (mAt g a) (mAt g b)))) (fun k=>g.types.length - k) 0 ⟨by omega,rfl⟩ (tS) tH ?_
 rintro k ⟨hk,hr⟩
 by_cases hlt:k < g.types.length
 ·have he:=qQ (f:=ZE) hlt
  rw [Yt hlt,zab,zZ hlt] at hr
  repeat' (first|(refine shX ?_;first|refine qX he ?_|refine zy rfl (zL zk rfl rfl rfl rfl rfl rfl h0 heT) rfl rfl ?_|refine AD.step _ _ _ _ _ rfl (zL zk rfl rfl rfl rfl rfl rfl h0 heT) rfl rfl ?_)|refine sK ?_|refine sC (fun _=>?_) (fun _=>?_)|fail)
  all_goals first|(refine retq rfl ?_;first|(simp only [zl,BL,List.length_map] at *;simp only [*,BL,List.length_map];done)|(simp_all [zl];done)|(simp_all [zl];omega)|(simp_all [zl];intros;omega))|(refine ⟨k + 1,⟨by omega,?_⟩,tD,tS,tH⟩;first|(simp only [BL,List.length_map] at *;simp only [*,BL,List.length_map];done)|(simp_all [];done)|(simp_all [];omega)|(simp_all [];intros;omega))|(trace "LEND";trace_state)
 ·rw [drop_end (by simp;omega)] at hr
  repeat' (first|(refine shC ?_;first|refine qC (Yu g t hgf) ?_|refine qC (zeX g t hgm) ?_|refine qC cf ?_|refine qC cm ?_)|refine sK ?_|refine sC (fun _=>?_) (fun _=>?_)|fail)
  all_goals first|(refine retq rfl ?_;first|(simp only [zl,BL,List.length_map] at *;simp only [*,BL,List.length_map];done)|(simp_all [zl];done)|(simp_all [zl];omega)|(simp_all [zl];intros;omega))|(refine retn rfl ?_;first|(simp only [zl,BL,List.length_map] at *;simp only [*,BL,List.length_map];done)|(simp_all [zl];done)|(simp_all [zl];omega)|(simp_all [zl];intros;omega))|skip
set_option maxHeartbeats 20000000
theorem zgX (g:Img) (t:Int) (hF:Fm g):ACall Tryz.prog 76 [pi t,.ptr (zO g) 0] (ints (zX g t)):=by
 refine zf zk Tryz.func76 rfl (by kernel_rfl) Tryz.ntmps76 (by simp) _ rfl (fun hw gB hgB=>?_)
 repeat' (first|(refine shC ?_;first|refine zy rfl (Qd rfl rfl (zcw g t (by have:=(hF.at t).1;omega) (fun f hf=>WW ((hF.at t).2 f hf)))) rfl rfl ?_|refine AD.step _ _ _ _ _ rfl (Qd rfl rfl (zcw g t (by have:=(hF.at t).1;omega) (fun f hf=>WW ((hF.at t).2 f hf)))) rfl rfl ?_)|refine sA ?_|refine sC (fun _=>?_) (fun _=>?_)|fail)
 exact retq rfl rfl
theorem zhv (g:Img) (t:Int) (hf:zW g=true):ACall Tryz.prog 85 [pi t,.ptr (zO g) 0] (ints (partsOf g t)):=by
 refine zf zk Tryz.func85 rfl (by kernel_rfl) Tryz.ntmps85 (by simp) _ rfl (fun hw gB hgB=>?_)
 repeat' (first|(refine shC ?_;first|refine qC (zcm g t hf) ?_)|refine sA ?_|refine sC (fun _=>?_) (fun _=>?_)|fail)
 exact retq rfl rfl
theorem zdw (g:Img) (hf:zW g=true) (t:Int) (td:TD) (htd:typeAt g t=some td):ACall Tryz.prog 50 [ZE td] (pi (zY g t)):=by
 have:=zbI td
 obtain ⟨h0,h1,_⟩:=XC hf htd
 rw [zd9 h0 h1] at this
 rw [zY,htd];exact this
theorem zgq (g:Img) (t:Int) (td:TD) (htd:typeAt g t=some td) (hf:zW g=true):ACall Tryz.prog 65 [zO g,pi t] (pb (zb0 g t td)):=by
 refine zf zk Tryz.func65 rfl (by kernel_rfl) Tryz.ntmps65 (by simp) _ rfl (fun hw gB hgB=>?_)
 obtain ⟨h0,he⟩:=Zk htd
 have hF:=zla hf
 have hn:=hF.n
 obtain ⟨hf1,hf2⟩:=hF.faces td (zar htd)
 have c0:=zdw g hf t td htd
 have c1:=zed g.types.length (by omega) td.faces (zX g) 76 [] [.ptr (zO g) 0] hf2 (by omega)
  (fun x h0 h1=>zgX g x hF) (fun x h0 h1=>⟨by have:=(hF.at x).1;omega,(hF.at x).2⟩)
 repeat' (first|(refine shX ?_;first|refine zy rfl (zL zk rfl rfl rfl rfl rfl rfl h0 he) rfl rfl ?_|refine AD.step _ _ _ _ _ rfl (zL zk rfl rfl rfl rfl rfl rfl h0 he) rfl rfl ?_)|refine sA ?_|refine sC (fun _=>?_) (fun _=>?_)|fail)
 refine zI (fun k:Nat=>[(1,.pv (pi t)),(2,.pv (.ptr (zO g) 0)),(5,.pv (ints td.faces)),(15,.pv (ints td.faces)),(16,.pv (pi td.faces.length)),(17,.pv (pi k))]) (fun _=>[]) (fun k=>k≤td.faces.length∧zb0 g t td=(((List.range td.faces.length).drop k).all (zbg g td.faces)&&(zY g t != 2||!decide (t∈sortL (Ym g.types.length (zX g) td.faces))))) (fun k=>td.faces.length - k) 0 ⟨by simp,rfl⟩ (tS) tH ?_
 rintro k ⟨hk,hr⟩
 by_cases hlt:k < td.faces.length
 ·have hef:=ZR hlt
  rw [Yt hlt,zbg,zZ hlt] at hr
  repeat' (first|refine zy rfl (Xk (xs:=td.faces) (f:=pi) 0 k zk rfl rfl rfl rfl rfl rfl rfl (by omega) (by omega)) rfl rfl ?_|(refine shC ?_;first|refine qC (Xm g hf _) ?_|refine qC (ZO (td.faces.take k) _) ?_)|(refine shX ?_;first|refine qX hef ?_)|refine sK ?_|refine sC (fun _=>?_) (fun _=>?_)|fail)
  all_goals first|(refine retq rfl ?_;first|(simp only [zl,BL,List.length_map] at *;simp only [*,BL,List.length_map];done)|(simp_all [zl];done)|(simp_all [zl];omega)|(simp_all [zl];intros;omega))|(refine ⟨k + 1,⟨by omega,?_⟩,tD,tS,tH⟩;first|(simp only [BL,List.length_map] at *;simp only [*,BL,List.length_map];done)|(simp_all [];done)|(simp_all [];omega)|(simp_all [];intros;omega))|(trace "LEND";trace_state)
 ·rw [drop_end (by simp;omega)] at hr
  repeat' (first|(refine shC ?_;first|refine qC c0 ?_|refine qC c1 ?_|refine qC (ZO _ _) ?_)|(refine shX ?_;first|refine zy rfl (zL zk rfl rfl rfl rfl rfl rfl h0 he) rfl rfl ?_|refine AD.step _ _ _ _ _ rfl (zL zk rfl rfl rfl rfl rfl rfl h0 he) rfl rfl ?_)|refine sK ?_|refine sC (fun _=>?_) (fun _=>?_)|fail)
  all_goals first|(refine retq rfl ?_;first|(simp only [zl,BL,List.length_map] at *;simp only [*,BL,List.length_map];done)|(simp_all [zl];done)|(simp_all [zl];omega)|(simp_all [zl];intros;omega))|(refine retn rfl ?_;first|(simp only [zl,BL,List.length_map] at *;simp only [*,BL,List.length_map];done)|(simp_all [zl];done)|(simp_all [zl];omega)|(simp_all [zl];intros;omega))|skip
theorem zgQ (g:Img) (t:Int) (td:TD) (htd:typeAt g t=some td) (hf:zW g=true):ACall Tryz.prog 67 [zO g,pi t] (pb (zbE g t)):=by
 refine zf zk Tryz.func67 rfl (by kernel_rfl) Tryz.ntmps67 (by simp) _ rfl (fun hw gB hgB=>?_)
 obtain ⟨h0,heT⟩:=Zk htd
 have hF:=zla hf
 have hn:=hF.n
 have hg:g.fields.length≤64:=by have:=(zS hf).2.1;omega
 have c0:=zdw g hf t td htd
 have hpl:=zce g
 have c1:=zed g.types.length (by omega) (partsOf g t) (partsOf g) 85 [] [.ptr (zO g) 0] (fun x hx=>ZQ hx) (by have:=hpl t;omega)
  (fun x h0 h1=>zhv g x hf) (fun x h0 h1=>⟨by have:=hpl x;omega,fun y hy=>ZQ hy⟩)
 repeat' (first|(refine shC ?_;first|refine qC c0 ?_|refine zy rfl (Qd rfl rfl (Yu g t (by omega))) rfl rfl ?_|refine AD.step _ _ _ _ _ rfl (Qd rfl rfl (Yu g t (by omega))) rfl rfl ?_)|(refine shX ?_;first|refine zy rfl (zL zk rfl rfl rfl rfl rfl rfl h0 heT) rfl rfl ?_|refine AD.step _ _ _ _ _ rfl (zL zk rfl rfl rfl rfl rfl rfl h0 heT) rfl rfl ?_)|refine sA ?_|refine sC (fun _=>?_) (fun _=>?_)|fail)
 refine zI (fun k:Nat=>[(1,.pv (pi t)),(2,.pv (.ptr (zO g) 0)),(5,.pv (pi (zY g t))),(16,.pv (ints (fieldsOf g t))),(17,.pv (pi (fieldsOf g t).length)),(18,.pv (pi k))]) (fun _=>[]) (fun k=>k≤(fieldsOf g t).length∧zbE g t=(((fieldsOf g t).drop k).all (zfF g (zY g t))&&(zY g t != 1||!decide (t∈sortL (Ym g.types.length (partsOf g) (partsOf g t)))))) (fun k=>(fieldsOf g t).length - k) 0 ⟨by simp,rfl⟩ (tS) tH ?_
 have hfl:=Qr g t
 rintro k ⟨hk,hr⟩
 by_cases hlt:k < (fieldsOf g t).length
 ·have he:=ZR hlt
  obtain ⟨hi0,hi⟩:=Zl (List.getElem_mem hlt)
  have hef:=QV (f:=YA) hi
  rw [zev hlt,zfF,zZ hi] at hr
  repeat' (first|(refine shX ?_;first|refine qX he ?_|refine zy rfl (zL zk rfl rfl rfl rfl rfl rfl hi0 hef) rfl rfl ?_|refine AD.step _ _ _ _ _ rfl (zL zk rfl rfl rfl rfl rfl rfl hi0 hef) rfl rfl ?_)|refine sK ?_|refine sC (fun _=>?_) (fun _=>?_)|fail)
  all_goals first|(refine retq rfl ?_;first|(simp only [zl,BL,List.length_map] at *;simp only [*,BL,List.length_map];done)|(simp_all [zl];done)|(simp_all [zl];omega)|(simp_all [zl];intros;omega))|(refine ⟨k + 1,⟨by omega,?_⟩,tD,tS,tH⟩;first|(simp only [BL,List.length_map] at *;simp only [*,BL,List.length_map];done)|(simp_all [];done)|(simp_all [];omega)|(simp_all [];intros;omega))|(trace "LEND";trace_state)
 ·rw [drop_end (by omega)] at hr
  repeat' (first|(refine shC ?_;first|refine qC (zcm g t hf) ?_|refine qC c1 ?_|refine qC (ZO _ _) ?_)|refine sK ?_|refine sC (fun _=>?_) (fun _=>?_)|fail)
  all_goals first|(refine retq rfl ?_;first|(simp only [zl,BL,List.length_map] at *;simp only [*,BL,List.length_map];done)|(simp_all [zl];done)|(simp_all [zl];omega)|(simp_all [zl];intros;omega))|(refine retn rfl ?_;first|(simp only [zl,BL,List.length_map] at *;simp only [*,BL,List.length_map];done)|(simp_all [zl];done)|(simp_all [zl];omega)|(simp_all [zl];intros;omega))|skip
set_option maxHeartbeats 1000000 in
theorem zgH (g:Img) (hx:∀ m∈g.methods,∀ x∈m.code,za9 x):ACall Tryz.prog 55 [zO g] (.tup [pi (Qg g).1,pi (Qg g).2]):=by
 refine zf zk Tryz.func55 rfl (by kernel_rfl) Tryz.ntmps55 (by simp) _ rfl (fun hw gB hgB=>?_)
 have c0:=zfG g hx
 cases hf:zW g
 ·rw [hf] at c0
  repeat' (first|(refine shC ?_;first|refine qC c0 ?_)|refine sK ?_|refine sC (fun _=>?_) (fun _=>?_)|fail)
  exact retq rfl (by simp [zl,Qg,hf])
 ·rw [hf] at c0
  obtain ⟨b1,b2,b3,b4⟩:=zS hf
  have hg:g.types.length≤1000:=by omega
  have hgf:g.fields.length≤1000:=by omega
  have hgm:g.methods.length≤1000:=by omega
  repeat' (first|(refine shC ?_;first|refine qC c0 ?_)|refine sK ?_|refine sC (fun _=>?_) (fun _=>?_)|fail)
  refine zI (fun k:Nat=>[(1,.pv (.ptr (zO g) 0)),(10,.pv (pi g.types.length)),(11,.pv (pi k))]) (fun _=>[]) (fun k=>k≤g.types.length∧∀ j,j < k→qL g j=0) (fun k=>g.types.length - k) 0 ⟨by omega,fun j h=>by omega⟩ (tS) tH ?_
  rintro k ⟨hk,hno⟩
  by_cases hlt:k < g.types.length
  ·have he:=qQ (f:=ZE) hlt
   have htd:=zdq hlt
   have hat:=zeT hf hlt
   have hfin:=fun h=>zk4 hf hlt hno h
   have hnx:qL g k=0→∀ j,j < k + 1→qL g j=0:=fun h j hj=>by
    by_cases e:j=k
    ·subst e;exact h
    ·exact hno j (by omega)
   clear hno
   have d1:=zeC g.types[k]
   have d2:=zeQ g k _ htd hg
   have d3:=zgq g k _ htd hf
   have d4:=zgt g k _ htd hg hgf hgm
   have d5:=zgQ g k _ htd hf
   generalize qP g.types[k]=e1 at d1 hat
   generalize zeD g k g.types[k]=e2 at d2 hat
   generalize zb0 g k g.types[k]=e3 at d3 hat
   generalize zb8 g k g.types[k]=e4 at d4 hat
   generalize zbE g k=e5 at d5 hat
   have fin:∀ c:Int,c≠0→qL g k=c→PV.tup [pi (k:Int),pi c]=.tup [pi (Qg g).1,pi (Qg g).2]:=fun c hc h=>by rw [hfin (by rw [h];exact hc),h]
   repeat' (first|(refine shC ?_;first|refine qC d1 ?_|refine qC d2 ?_|refine qC d3 ?_|refine qC d4 ?_|refine qC d5 ?_)|(refine shX ?_;first|refine qX he ?_)|refine sK ?_|refine sC (fun _=>?_) (fun _=>?_)|fail)
   all_goals first
    | exact retq rfl (fin 7 (by decide) (by rw [hat];simp_all;done))
    | exact retq rfl (fin 18 (by decide) (by rw [hat];simp_all;done))
    | exact retq rfl (fin 20 (by decide) (by rw [hat];simp_all;done))
    | exact ⟨k + 1,⟨hlt,hnx (by rw [hat];simp_all;done)⟩,tD,tS,tH⟩
  ·repeat' (first|refine sK ?_|refine sC (fun _=>?_) (fun _=>?_)|fail)
   obtain rfl:k=g.types.length:=by omega
   exact retq rfl (by simp [zl,zkD hf hno])
set_option maxHeartbeats 20000000
def OkA (g:Img):Prop:=∀ m∈g.methods,∀ x∈m.code,za9 x
theorem zh6 (g:Img) (hx:OkA g):ACall Tryz.prog 45 [zO g] (pb (ZL g)):=by
 refine zf zk Tryz.func45 rfl (by kernel_rfl) Tryz.ntmps45 (by simp) _ rfl (fun hw gB hgB=>?_)
 repeat' (first|(refine shC ?_;first|refine qC (zgH g hx) ?_)|refine sA ?_|refine sC (fun _=>?_) (fun _=>?_)|fail)
 exact retq rfl rfl
theorem zhI (g:Img) (t:Int):zY g t = -1∨zY g t=0∨zY g t=1∨zY g t=2∨zY g t=3:=by
 unfold zY
 cases typeAt g t with
 | none=>exact .inl rfl
 | some td =>
  simp only
  unfold zco
  cases Yq td.flags 2 <;> cases Yq td.flags 1 <;> cases Yq td.flags 16 <;> simp
theorem ziK (g:Img) (t:Ty) (hf:zW g=true):ACall Tryz.prog 46 [zO g,yZ t] (pb (YV g t)):=by
 refine zf zk Tryz.func46 rfl (by kernel_rfl) Tryz.ntmps46 (by simp) _ rfl (fun hw gB hgB=>?_)
 have hk:=zhI g t.index
 have c1:=Xm g hf t.index
 have hu:YV g t=(Yy t&&(if t.kind==5 then zY g t.index==0||zY g t.index==2||zY g t.index==3 else t.kind != 6||zY g t.index==1)):=rfl
 rw [hu]
 generalize zY g t.index=k at c1 hk hu
 clear hu
 repeat' (first|(refine shC ?_;first|refine qC (Xq t) ?_|refine qC c1 ?_)|refine sA ?_|refine sC (fun _=>?_) (fun _=>?_)|fail)
 all_goals (refine retq rfl ?_;rcases hk with rfl|rfl|rfl|rfl|rfl <;> simp_all [zl])
theorem zk1 {α:Type} (d:α) (fs:List α):(nums fs.length).map (fun i=>fs.getD i.toNat d)=fs:=by
 rw [nums,List.map_map]
 apply List.ext_getElem
 ·simp
 ·intro i h1 h2
  simp only [List.getElem_map,List.getElem_range,Function.comp]
  rw [Int.toNat_natCast,zZ h2]
theorem zmp {g:Img} (hf:zW g=true) (t:Int):((fieldsOf g t).filter fun i=>!(g.fields.getD i.toNat default).static).map (fun i=>g.fields.getD i.toNat default)=yJ g t:=by
 have h1:yJ g t=((nums g.fields.length).filter ((fun f:Fd=>f.owner==t&&!f.static) ∘ fun i=>g.fields.getD i.toNat default)).map (fun i=>g.fields.getD i.toNat default):=by
  rw [yJ,←List.filter_map,zk1]
 rw [h1,fieldsOf,List.filter_filter]
 congr 1
 apply List.filter_congr
 intro i hi
 obtain ⟨i0,i1⟩:=zdz.1 hi
 have hlt:i.toNat < g.fields.length:=by omega
 obtain ⟨o0,o1,_⟩:=zbR hf (List.getElem_mem hlt)
 simp only [Function.comp,zZ hlt]
 by_cases ho:g.fields[i.toNat].owner=t
 ·have:=WW (g:=g) (t:=t) (by omega)
  rw [this,Bool.true_and,Bool.and_comm]
 ·have:(g.fields[i.toNat].owner==t)=false:=by simp [ho]
  rw [this];simp
theorem zel (g:Img) (t:Int):(yJ g t).length≤g.fields.length:=List.length_filter_le _ _
theorem zgx {g:Img} {t:Int} {f:Fd} (h:f∈yJ g t):f∈g.fields:=(List.mem_filter.1 h).1
theorem zer (g:Img) (t:Int) (hf:zW g=true):ACall Tryz.prog 59 [zO g,pi t] (.slc 7 ((yJ g t).map YA) false):=by
 refine zf zk Tryz.func59 rfl (by kernel_rfl) Tryz.ntmps59 (by simp) _ rfl (fun hw gB hgB=>?_)
 have hg:g.fields.length≤1000:=by have:=(zS hf).2.1;omega
 have hfl:=Qr g t
 repeat' (first|(refine shC ?_;first|refine qC (Yu g t hg) ?_)|refine sA ?_|refine sC (fun _=>?_) (fun _=>?_)|fail)
 refine Ye (t:=5) 0 92 7 (by decide) rfl rfl ?_
 refine zI (fun x:Nat × List Fd=>[(2,.pv (.ptr (zO g) 0)),(5,.own 0),(10,.pv (ints (fieldsOf g t))),(11,.pv (pi (fieldsOf g t).length)),(12,.pv (pi x.1))]) (fun x=>[(0,.row 92 7 (x.2.map YA))])
  (fun x=>x.1≤(fieldsOf g t).length∧x.2.length≤x.1∧x.2++(((fieldsOf g t).drop x.1).filter fun i=>!(g.fields.getD i.toNat default).static).map (fun i=>g.fields.getD i.toNat default)=yJ g t) (fun x=>(fieldsOf g t).length - x.1) (0,[]) ⟨by simp,by simp,zmp hf t⟩ (tS) ⟨zh rfl zi,rfl⟩ ?_
 rintro ⟨k,out⟩ ⟨hk,hol,hr⟩
 simp only at hk hol hr
 by_cases hlt:k < (fieldsOf g t).length
 ·have he:=ZR hlt
  obtain ⟨h0,hi⟩:=Zl (List.getElem_mem hlt)
  have hef:=QV (f:=YA) hi
  rw [drop_cons hlt,List.filter_cons,zZ hi] at hr
  generalize hfd:g.fields[(fieldsOf g t)[k].toNat]=f at hr hef
  repeat' (first|(refine shX ?_;first|refine qX he ?_|refine zy rfl (zL zk rfl rfl rfl rfl rfl rfl h0 hef) rfl rfl ?_|refine AD.step _ _ _ _ _ rfl (zL zk rfl rfl rfl rfl rfl rfl h0 hef) rfl rfl ?_)|(refine yC ?_;first|refine qw zk rfl rfl rfl rfl rfl rfl rfl (by show _ * 64≤_;simp;omega) (by simp;omega) rfl rfl ?_)|refine sK ?_|refine sC (fun _=>?_) (fun _=>?_)|fail)
  ·rename_i hx
   rw [if_pos hx,List.map_cons,zZ hi,hfd] at hr
   exact ⟨(k + 1,out++[f]),⟨by simp;omega,by simp;omega,by simpa using hr⟩,tD,tS,⟨Zv rfl (by simp) zi,rfl⟩⟩
  ·rename_i hx
   rw [if_neg (by simp [hx])] at hr
   exact ⟨(k + 1,out),⟨by simp;omega,by simp;omega,hr⟩,tD,tS,⟨Zv rfl rfl zi,rfl⟩⟩
 ·rw [drop_end (by omega)] at hr
  repeat' (first|refine sK ?_|refine sC (fun _=>?_) (fun _=>?_)|fail)
  exact retq rfl (by rw [←hr];simp [zl])
set_option maxHeartbeats 20000000
theorem zeZ {g:Img} {n:Nat} {t:Ty} (hd:Dp g (n + 1) t) (hw:whole t=false):∀ f∈yJ g t.index,Dp g n f.ty:=by
 rcases hd with h|h
 ·rw [h] at hw;cases hw
 ·exact h
theorem Wu {g:Img} (h:ZL g=true) (hu:qZ g=true) {t:Ty} (hk:t.kind=1):yx g t=[]:=by rw [XU h hu];simp [hk]
theorem Xj {g:Img} (h:ZL g=true) (hu:qZ g=true) {t:Ty} (hk:t.kind≠1) (hw:whole t=true):yx g t=[t]:=by rw [XU h hu];simp [hk,hw]
theorem zaD {t:Ty} (hw:whole t=false):t.kind=6∧t.ref=false∧¬ 0 < t.dims:=by
 simp only [whole,Bool.or_eq_false_iff,bne_eq_false_iff_eq,decide_eq_false_iff_not] at hw
 exact ⟨hw.1.1,hw.1.2,hw.2⟩
theorem zaO {g:Img} (h:ZL g=true) (hu:qZ g=true) {t:Ty} (hw:whole t=false):yx g t=if (fcs g (yJ g t.index)).length=0 then [intTy] else fcs g (yJ g t.index):=by
 rw [XU h hu,hw]
 simp [(zaD hw).1]
theorem zdT {g:Img} (h:ZL g=true) (hu:qZ g=true) {t:Ty} (hw:whole t=false):(yx g t).length=max (fcs g (yJ g t.index)).length 1:=by
 rw [zaO h hu hw]
 split
 ·rename_i h0;rw [h0];rfl
 ·omega
theorem zeL {g:Img} {l:List Fd} {k:Nat} (h:k < l.length):(fcs g (l.take (k + 1))).length=(fcs g (l.take k)).length + (yx g l[k].ty).length:=by
 rw [List.take_succ_eq_append_getElem h,zd6,XY];simp [fcs]
theorem zdD {g:Img} {l:List Fd} {k:Nat} (h:k < l.length):fcs g (l.take (k + 1))=fcs g (l.take k)++yx g l[k].ty:=by
 rw [List.take_succ_eq_append_getElem h,zaP,zdh];simp [fcs]
theorem zd1 (g:Img) (hwl:ZL g=true) (hu:qZ g=true) (b:Nat) (hb:b≤100) (hb1:1≤b):∀ (n:Nat) (t:Ty),Dp g n t→ACall Tryz.prog 57 [zO g,yZ t,pi b] (pi (XT g b t:Nat)):=by
 have hf:=Zg hwl
 intro n
 induction n with
 | zero =>
  intro t hd
  have hwh:whole t=true:=hd
  refine zf zk Tryz.func57 rfl (by kernel_rfl) Tryz.ntmps57 (by simp) _ rfl (fun hw gB hgB=>?_)
  have hw':(t.kind != 6||t.ref||decide (0 < t.dims))=true:=hwh
  by_cases hk:t.kind=1
  ·have e:XT g b t=0:=by rw [XT,Wu hwl hu hk];rfl
   have hkb:(t.kind==1)=true:=by simp [hk]
   repeat' (first|refine sK ?_|refine sC (fun _=>?_) (fun _=>?_)|fail)
   all_goals exact retq rfl (by rw [e];rfl)
  ·have e:XT g b t=1:=by rw [XT,Xj hwl hu hk hwh];simp <;> omega
   have hkb:(t.kind==1)=false:=by simp [hk]
   repeat' (first|refine sA ?_|refine sC (fun _=>?_) (fun _=>?_)|fail)
   all_goals first
    | (refine retq rfl ?_;rw [e];rfl)
    | (exfalso;simp_all;done)
 | succ n ih =>
  intro t hd
  refine zf zk Tryz.func57 rfl (by kernel_rfl) Tryz.ntmps57 (by simp) _ rfl (fun hw gB hgB=>?_)
  cases hwh:whole t
  ·obtain ⟨k1,k2,k3⟩:=zaD hwh
   have hn:=zeZ hd hwh
   have hol:=zel g t.index
   have hgl:g.fields.length≤64:=by have:=(zS hf).2.1;omega
   have hkb1:(t.kind==1)=false:=by simp [k1]
   have hkb2:(t.kind != 6)=false:=by simp [k1]
   have hkb3:decide (0 < t.dims)=false:=by simp [k3]
   repeat' (first|(refine shC ?_;first|refine qC (zer g t.index hf) ?_)|refine sK ?_|refine sC (fun _=>?_) (fun _=>?_)|fail)
   refine zI (fun x:Nat × Nat=>[(2,.pv (pi b)),(3,.pv (.ptr (zO g) 0)),(7,.pv (pi x.2)),(28,.pv (.slc 7 ((yJ g t.index).map YA) false)),(29,.pv (pi (yJ g t.index).length)),(30,.pv (pi x.1))]) (fun _=>[])
    (fun x=>x.1≤(yJ g t.index).length∧x.2≤2 * b + 1∧Cnt b x.2 (fcs g ((yJ g t.index).take x.1)).length) (fun x=>(yJ g t.index).length - x.1) (0,0) ⟨by simp,by simp,rfl⟩ (tS) tH ?_
   rintro ⟨k,r⟩ ⟨hk,hr,hc⟩
   simp only at hk hr hc
   by_cases hlt:k < (yJ g t.index).length
   ·have he:=qQ (f:=YA) hlt
    have c1:=ih (yJ g t.index)[k].ty (hn _ (List.getElem_mem hlt))
    have hs:=zeL (g:=g) hlt
    have hcl:XT g b (yJ g t.index)[k].ty≤b + 1:=Nat.min_le_right _ _
    have hce:XT g b (yJ g t.index)[k].ty=min (yx g (yJ g t.index)[k].ty).length (b + 1):=rfl
    generalize XT g b (yJ g t.index)[k].ty=c at c1 hcl hce
    by_cases hrb:r≤b
    ·have hcn:=hc.add (l:=(yx g (yJ g t.index)[k].ty).length) hrb
     rw [←hs,←hce] at hcn
     repeat' (first|(refine shC ?_;first|refine qC c1 ?_)|(refine shX ?_;first|refine qX he ?_)|refine sK ?_|refine sC (fun _=>?_) (fun _=>?_)|fail)
     exact ⟨(k + 1,r + c),⟨hlt,by simp only;omega,hcn⟩,tD,by repeat (first|exact qO|refine qE rfl ?_|(refine Xl rfl ?_ ?_;· (first|(rw [wrap_in (by omega) (by omega)] <;> omega)|(dsimp only;rw [wrap_in (by omega) (by omega)] <;> (push_cast;omega))))),tH⟩
    ·have hcn:=hc.stay (l:=(yx g (yJ g t.index)[k].ty).length) (by omega)
     rw [←hs] at hcn
     repeat' (first|(refine shX ?_;first|refine qX he ?_)|refine sK ?_|refine sC (fun _=>?_) (fun _=>?_)|fail)
     exact ⟨(k + 1,r),⟨hlt,hr,hcn⟩,tD,tS,tH⟩
   ·have e:XT g b t=min (max r 1) (b + 1):=by
     rw [XT,zdT hwl hu hwh]
     rw [List.take_of_length_le (by omega)] at hc
     unfold Cnt at hc;omega
    have hwb:IntKind.i64.wrap ((b:Int) + 1)=((b + 1:Nat):Int):=by rw [wrap_in (by omega) (by omega)];omega
    repeat' (first|refine zy rfl (zm9 rfl rfl rfl) rfl rfl ?_|refine zy rfl (zm0 rfl rfl rfl) rfl rfl ?_|refine sK ?_|refine sC (fun _=>?_) (fun _=>?_)|fail)
    exact retq rfl (by rw [e];simp only [zl,hwb] <;> (congr 3 <;> omega))
  ·have hw':(t.kind != 6||t.ref||decide (0 < t.dims))=true:=hwh
   by_cases hk:t.kind=1
   ·have e:XT g b t=0:=by rw [XT,Wu hwl hu hk];rfl
    have hkb:(t.kind==1)=true:=by simp [hk]
    repeat' (first|refine sK ?_|refine sC (fun _=>?_) (fun _=>?_)|fail)
    all_goals exact retq rfl (by rw [e];rfl)
   ·have e:XT g b t=1:=by rw [XT,Xj hwl hu hk hwh];simp <;> omega
    have hkb:(t.kind==1)=false:=by simp [hk]
    repeat' (first|refine sA ?_|refine sC (fun _=>?_) (fun _=>?_)|fail)
    all_goals first
     | (refine retq rfl ?_;rw [e];rfl)
     | (exfalso;simp_all;done)
theorem zj3 (g:Img) (hwl:ZL g=true) (hu:qZ g=true) (b:Nat) (hb:b≤100) (hb1:1≤b) (t:Ty):ACall Tryz.prog 47 [zO g,yZ t,pi b] (pb (decide (b < (yx g t).length))):=by
 refine zf zk Tryz.func47 rfl (by kernel_rfl) Tryz.ntmps47 (by simp) _ rfl (fun hw gB hgB=>?_)
 have c1:=zd1 g hwl hu b hb hb1 _ t (zfY hwl hu t)
 have e:decide ((b:Int) < (XT g b t:Nat))=decide (b < (yx g t).length):=by
  rw [decide_eq_decide];unfold XT;omega
 repeat' (first|(refine shC ?_;first|refine qC c1 ?_)|refine sA ?_|refine sC (fun _=>?_) (fun _=>?_)|fail)
 exact retq rfl (by simp only [zl,e])
theorem XM {α:Type} {p:α→Bool} {l:List α} {k:Nat} (h:k < l.length):(l.take (k + 1)).filter p=(l.take k).filter p++if p l[k] then [l[k]] else []:=by
 rw [List.take_succ_eq_append_getElem h,List.filter_append]
 cases hp:p l[k] <;> simp [hp]
theorem zcV {g:Img} {p:Fd→Bool} {l:List Fd} {k:Nat} (h:k < l.length) (hp:p l[k]=true):fcs g ((l.take (k + 1)).filter p)=fcs g ((l.take k).filter p)++yx g l[k].ty:=by
 rw [XM h,if_pos hp,zaP,zdh];simp [fcs]
theorem zem {g:Img} {p:Fd→Bool} {l:List Fd} {k:Nat} (h:k < l.length) (hp:p l[k]=false):fcs g ((l.take (k + 1)).filter p)=fcs g ((l.take k).filter p):=by
 rw [XM h,hp];simp
set_option maxHeartbeats 1000000 in
theorem zg0 (g:Img) (hF:Fine g):∀ (n:Nat) (t:Ty),Dp g n t→ACall Tryz.prog 61 [zO g,yZ t] (tys (yx g t)):=by
 have hwl:=hF.well
 have hu:=hF.used
 have hf:=Zg hwl
 intro n
 induction n with
 | zero =>
  intro t hd
  have hwh:whole t=true:=hd
  have hw':(t.kind != 6||t.ref||decide (0 < t.dims))=true:=hwh
  refine zf zk Tryz.func61 rfl (by kernel_rfl) Tryz.ntmps61 (by simp) _ rfl (fun hw gB hgB=>?_)
  by_cases hk:t.kind=1
  ·have e:yx g t=[]:=Wu hwl hu hk
   have hkb:(t.kind==1)=true:=by simp [hk]
   repeat' (first|refine sK ?_|refine sC (fun _=>?_) (fun _=>?_)|fail)
   all_goals (rw [e];exact Wq (t:=4) (ps:=[tys []]) rfl (XL 4 false) rfl rfl)
  ·have e:yx g t=[t]:=Xj hwl hu hk hwh
   have hkb:(t.kind==1)=false:=by simp [hk]
   repeat' (first|refine sA ?_|refine sC (fun _=>?_) (fun _=>?_)|fail)
   all_goals first
    | (rw [e];exact Wq (t:=4) (ps:=[tys [t]]) rfl (YC 4 [yZ t] true) rfl rfl)
    | (exfalso;simp_all;done)
 | succ n ih =>
  intro t hd
  refine zf zk Tryz.func61 rfl (by kernel_rfl) Tryz.ntmps61 (by simp) _ rfl (fun hw gB hgB=>?_)
  cases hwh:whole t
  ·obtain ⟨k1,k2,k3⟩:=zaD hwh
   have hn:=zeZ hd hwh
   have hol:=zel g t.index
   have hgl:g.fields.length≤64:=by have:=(zS hf).2.1;omega
   have hkb1:(t.kind==1)=false:=by simp [k1]
   have hkb2:(t.kind != 6)=false:=by simp [k1]
   have hkb3:decide (0 < t.dims)=false:=by simp [k3]
   repeat' (first|refine Ye (t:=5) 0 86 4 (by decide) rfl rfl ?_|(refine shC ?_;first|refine qC (zer g t.index hf) ?_)|refine sK ?_|refine sC (fun _=>?_) (fun _=>?_)|fail)
   refine zI (fun k:Nat=>[(2,.pv (.ptr (zO g) 0)),(5,.own 0),(30,.pv (.slc 7 ((yJ g t.index).map YA) false)),(31,.pv (pi (yJ g t.index).length)),(32,.pv (pi k))]) (fun k=>[(0,.row 86 4 ((fcs g ((yJ g t.index).take k)).map yZ))])
    (fun k=>k≤(yJ g t.index).length) (fun k=>(yJ g t.index).length - k) 0 (by omega) (tS) ⟨zh rfl zi,rfl⟩ ?_
   rintro k hk
   have hle:=zii hF ((yJ g t.index).take k) (fun f h=>zgx (List.mem_of_mem_take h))
   have hlk:((yJ g t.index).take k).length≤k:=by simp;omega
   by_cases hlt:k < (yJ g t.index).length
   ·have he:=qQ (f:=YA) hlt
    have c1:=ih (yJ g t.index)[k].ty (hn _ (List.getElem_mem hlt))
    have hs:=zdD (g:=g) hlt
    have hcl:=hF.field_le (zgx (List.getElem_mem hlt))
    repeat' (first|(refine shC ?_;first|refine qC c1 ?_)|(refine shX ?_;first|refine qX he ?_)|(refine yC ?_;first|refine qw zk rfl rfl rfl rfl rfl rfl rfl (by show _ * 32≤_;simp;omega) (by simp;omega) rfl rfl ?_)|refine sK ?_|refine sC (fun _=>?_) (fun _=>?_)|fail)
    exact ⟨k + 1,hlt,tD,tS,⟨Zv rfl (by rw [hs];simp) zi,rfl⟩⟩
   ·rw [List.take_of_length_le (by omega)] at hle ⊢
    by_cases h0:(fcs g (yJ g t.index)).length=0
    ·have e:yx g t=[intTy]:=by rw [zaO hwl hu hwh,if_pos h0]
     have hb0:(((((fcs g (yJ g t.index)).map yZ).length:Nat):Int)==0)=true:=by rw [List.length_map,h0];rfl
     repeat' (first|refine sK ?_|refine sC (fun _=>?_) (fun _=>?_)|fail)
     all_goals (rw [e];exact Wq (t:=4) (ps:=[tys [intTy]]) rfl (YC 4 [yZ intTy] true) rfl rfl)
    ·have e:yx g t=fcs g (yJ g t.index):=by rw [zaO hwl hu hwh,if_neg h0]
     have hb0:(((((fcs g (yJ g t.index)).map yZ).length:Nat):Int)==0)=false:=by rw [List.length_map,beq_eq_false_iff_ne];omega
     repeat' (first|refine sK ?_|refine sC (fun _=>?_) (fun _=>?_)|fail)
     all_goals exact retq rfl (by rw [e];rfl)
  ·have hw':(t.kind != 6||t.ref||decide (0 < t.dims))=true:=hwh
   by_cases hk:t.kind=1
   ·have e:yx g t=[]:=Wu hwl hu hk
    have hkb:(t.kind==1)=true:=by simp [hk]
    repeat' (first|refine sK ?_|refine sC (fun _=>?_) (fun _=>?_)|fail)
    all_goals (rw [e];exact Wq (t:=4) (ps:=[tys []]) rfl (XL 4 false) rfl rfl)
   ·have e:yx g t=[t]:=Xj hwl hu hk hwh
    have hkb:(t.kind==1)=false:=by simp [hk]
    repeat' (first|refine sA ?_|refine sC (fun _=>?_) (fun _=>?_)|fail)
    all_goals first
     | (rw [e];exact Wq (t:=4) (ps:=[tys [t]]) rfl (YC 4 [yZ t] true) rfl rfl)
     | (exfalso;simp_all;done)
theorem zfu (g:Img) (hF:Fine g) (t:Ty):ACall Tryz.prog 61 [zO g,yZ t] (tys (yx g t)):=zg0 g hF _ t (zfY hF.well hF.used t)
theorem zeO {g:Img} (hF:Fine g) (p:Fd→Bool) (k:Nat):(fcs g ((g.fields.take k).filter p)).length≤8 * 64:=by
 have h1:=zii hF ((g.fields.take k).filter p) (fun f h=>List.mem_of_mem_take (List.mem_filter.1 h).1)
 have h2:((g.fields.take k).filter p).length≤g.fields.length:=Nat.le_trans (List.length_filter_le _ _) (by simp;omega)
 have h3:=(zS hF.formed).2.1
 omega
def zmo (g:Img) (n:Nat):List Ty:=fcs g ((g.fields.take n).filter (·.static))
set_option maxHeartbeats 1000000 in
theorem zgd (g:Img) (hF:Fine g) (n:Nat) (hn:n≤g.fields.length):ACall Tryz.prog 54 [zO g,pi n] (tys (zmo g n)):=by
 refine zf zk Tryz.func54 rfl (by kernel_rfl) Tryz.ntmps54 (by simp) _ rfl (fun hw gB hgB=>?_)
 have hgl:g.fields.length≤64:=by have:=(zS hF.formed).2.1;omega
 repeat' (first|refine zy rfl (Xk (xs:=g.fields) (f:=YA) 0 n zk rfl rfl rfl rfl rfl rfl rfl (by omega) (by omega)) rfl rfl ?_|refine sA ?_|refine sC (fun _=>?_) (fun _=>?_)|fail)
 rw [List.drop_zero]
 have htl:(g.fields.take n).length=n:=by simp;omega
 refine Ye (t:=5) 0 86 4 (by decide) rfl rfl ?_
 refine zI (fun k:Nat=>[(2,.pv (.ptr (zO g) 0)),(5,.own 0),(11,.pv (.slc 7 ((g.fields.take n).map YA) false)),(12,.pv (pi n)),(13,.pv (pi k))]) (fun k=>[(0,.row 86 4 ((fcs g ((g.fields.take k).filter (·.static))).map yZ))])
  (fun k=>k≤n) (fun k=>n - k) 0 (by omega) (by repeat (first|exact qO|refine qE rfl ?_|(refine Xl rfl ?_ ?_;· (first|(rw [List.length_map,htl])|omega)))) ⟨zh rfl zi,rfl⟩ ?_
 rintro k hk
 have hle:=zeO hF (·.static) k
 by_cases hlt:k < n
 ·have hlf:k < g.fields.length:=by omega
  have he:=qQ (f:=YA) (l:=g.fields.take n) (k:=k) (by omega)
  rw [List.getElem_take] at he
  have c1:=zfu g hF g.fields[k].ty
  have hcl:=hF.field_le (List.getElem_mem hlf)
  cases hp:g.fields[k].static
  ·have hs:=zem (g:=g) (p:=(·.static)) hlf hp
   repeat' (first|(refine shX ?_;first|refine qX he ?_)|refine sK ?_|refine sC (fun _=>?_) (fun _=>?_)|fail)
   exact ⟨k + 1,hlt,tD,tS,⟨Zv rfl (by rw [hs]) zi,rfl⟩⟩
  ·have hs:=zcV (g:=g) (p:=(·.static)) hlf hp
   repeat' (first|(refine shC ?_;first|refine qC c1 ?_)|(refine shX ?_;first|refine qX he ?_)|(refine yC ?_;first|refine qw zk rfl rfl rfl rfl rfl rfl rfl (by show _ * 32≤_;simp;omega) (by simp;omega) rfl rfl ?_)|refine sK ?_|refine sC (fun _=>?_) (fun _=>?_)|fail)
   exact ⟨k + 1,hlt,tD,tS,⟨Zv rfl (by rw [hs];simp) zi,rfl⟩⟩
 ·obtain rfl:k=n:=by omega
  repeat' (first|refine sK ?_|refine sC (fun _=>?_) (fun _=>?_)|fail)
  exact retq rfl rfl
set_option maxHeartbeats 20000000
theorem ziW (g:Img) (hwl:ZL g=true) (hu:qZ g=true) (t:Int):∃ r:Nat,Cnt 32 r (objT g t).length∧ACall Tryz.prog 48 [zO g,pi t] (pi (r:Nat)):=by
 have hf:=Zg hwl
 have hgl:g.fields.length≤64:=by have:=(zS hf).2.1;omega
 have hgt:g.types.length≤32:=(zS hf).1
 have hui:=zf1 g t
 have hul:=ZA _ _ hui.1 hui.2
 let add:Nat→Fd→Nat:=fun r f=>if r≤32 then r + XT g 32 f.ty else r
 let addU:Nat→Int→Nat:=fun r u=>(yJ g u).foldl add r
 have hadd:∀ (l:List Fd) (r s:Nat),r≤65→Cnt 32 r s→l.foldl add r≤65∧Cnt 32 (l.foldl add r) (s + (fcs g l).length):=by
  intro l
  induction l with
  | nil=>intro r s h1 h2;exact ⟨h1,by simpa [fcs] using h2⟩
  | cons f l ih =>
   intro r s h1 h2
   rw [List.foldl_cons,XY,←Nat.add_assoc]
   have hcl:XT g 32 f.ty≤33:=Nat.min_le_right _ _
   refine ih _ _ ?_ ?_
   ·simp only [add];split <;> omega
   ·simp only [add]
    split
    ·rename_i h;exact h2.add h
    ·rename_i h;exact h2.stay (by omega)
 have haddU:∀ (us:List Int) (r s:Nat),r≤65→Cnt 32 r s→us.foldl addU r≤65∧Cnt 32 (us.foldl addU r) (s + (us.map fun u=>(fcs g (yJ g u)).length).sum):=by
  intro us
  induction us with
  | nil=>intro r s h1 h2;exact ⟨h1,by simpa using h2⟩
  | cons u us ih =>
   intro r s h1 h2
   obtain ⟨k1,k2⟩:=hadd (yJ g u) r s h1 h2
   rw [List.foldl_cons,List.map_cons,List.sum_cons,←Nat.add_assoc]
   exact ih _ _ k1 k2
 obtain ⟨hb,hc⟩:=haddU (up g t) 0 0 (by omega) (Cnt.zero _)
 rw [Nat.zero_add,←zkA] at hc
 refine ⟨(up g t).foldl addU 0,hc,?_⟩
 clear hc
 refine zf zk Tryz.func48 rfl (by kernel_rfl) Tryz.ntmps48 (by simp) _ rfl (fun hw gB hgB=>?_)
 repeat' (first|(refine shC ?_;first|refine zy rfl (Qd rfl rfl (za5 g t (by omega))) rfl rfl ?_|refine AD.step _ _ _ _ _ rfl (Qd rfl rfl (za5 g t (by omega))) rfl rfl ?_)|refine sA ?_|refine sC (fun _=>?_) (fun _=>?_)|fail)
 refine zI (fun x:Nat × Nat=>[(2,.pv (.ptr (zO g) 0)),(5,.pv (pi x.2)),(12,.pv (ints (up g t))),(13,.pv (pi (up g t).length)),(14,.pv (pi x.1))]) (fun _=>[])
  (fun x=>x.1≤(up g t).length∧x.2≤65∧((up g t).drop x.1).foldl addU x.2=(up g t).foldl addU 0) (fun x=>(up g t).length - x.1) (0,0) ⟨by simp,by simp,rfl⟩ (tS) tH ?_
 rintro ⟨k,r⟩ ⟨hk,hr,hfd⟩
 simp only at hk hr hfd
 by_cases hlt:k < (up g t).length
 ·have heU:=ZR hlt
  rw [zaz hlt] at hfd
  have hol:=zel g (up g t)[k]
  repeat' (first|(refine shC ?_;first|refine qC (zer g _ hf) ?_)|(refine shX ?_;first|refine qX heU ?_)|refine sK ?_|refine sC (fun _=>?_) (fun _=>?_)|fail)
  refine zI (fun x:Nat × Nat=>[(2,.pv (.ptr (zO g) 0)),(5,.pv (pi x.2)),(12,.pv (ints (up g t))),(13,.pv (pi (up g t).length)),(14,.pv (pi k)),(20,.pv (.slc 7 ((yJ g (up g t)[k]).map YA) false)),(21,.pv (pi (yJ g (up g t)[k]).length)),(22,.pv (pi x.1))]) (fun _=>[])
   (fun x=>x.1≤(yJ g (up g t)[k]).length∧x.2≤65∧((yJ g (up g t)[k]).drop x.1).foldl add x.2=addU r (up g t)[k]) (fun x=>(yJ g (up g t)[k]).length - x.1) (0,r) ⟨by simp,hr,rfl⟩ (tS) tH ?_
  rintro ⟨m,s⟩ ⟨hm,hs,hfs⟩
  simp only at hm hs hfs
  by_cases hltm:m < (yJ g (up g t)[k]).length
  ·have he:=qQ (f:=YA) hltm
   rw [zaz hltm] at hfs
   have c1:=zd1 g hwl hu 32 (by omega) (by omega) _ (yJ g (up g t)[k])[m].ty (zfY hwl hu _)
   have hcl:XT g 32 (yJ g (up g t)[k])[m].ty≤33:=Nat.min_le_right _ _
   simp only [add] at hfs
   generalize XT g 32 (yJ g (up g t)[k])[m].ty=c at c1 hcl hfs
   by_cases hsb:s≤32
   ·rw [if_pos hsb] at hfs
    have hd1:decide ((s:Int)≤32)=true:=by simp;omega
    repeat' (first|(refine shC ?_;first|refine qC c1 ?_)|(refine shX ?_;first|refine qX he ?_)|refine sK ?_|refine sC (fun _=>?_) (fun _=>?_)|fail)
    exact ⟨(m + 1,s + c),⟨hltm,by simp only;omega,hfs⟩,tD,by repeat (first|exact qO|refine qE rfl ?_|(refine Xl rfl ?_ ?_;· (first|(rw [wrap_in (by omega) (by omega)] <;> omega)|(dsimp only;rw [wrap_in (by omega) (by omega)] <;> (push_cast;omega))))),tH⟩
   ·rw [if_neg hsb] at hfs
    have hd1:decide ((s:Int)≤32)=false:=by simp;omega
    repeat' (first|(refine shX ?_;first|refine qX he ?_)|refine sK ?_|refine sC (fun _=>?_) (fun _=>?_)|fail)
    exact ⟨(m + 1,s),⟨hltm,hs,hfs⟩,tD,tS,tH⟩
  ·rw [drop_end (by omega)] at hfs
   simp only [List.foldl_nil] at hfs
   repeat' (first|refine sK ?_|refine sC (fun _=>?_) (fun _=>?_)|fail)
   exact ⟨(k + 1,s),⟨hlt,hs,by rw [hfs];exact hfd⟩,tD,tS,tH⟩
 ·rw [drop_end (by omega)] at hfd
  simp only [List.foldl_nil] at hfd
  repeat' (first|refine sK ?_|refine sC (fun _=>?_) (fun _=>?_)|fail)
  exact retq rfl (by rw [←hfd];rfl)
theorem zjy {g:Img} {k:Nat} (h:k < g.fields.length):g.fields.getD k default=g.fields[k]:=zZ h
theorem zcx (g:Img) (hx:OkA g):ACall Tryz.prog 38 [zO g] (.tup [pi (ZV g).1,pi (ZV g).2]):=by
 refine zf zk Tryz.func38 rfl (by kernel_rfl) Tryz.ntmps38 (by simp) _ rfl (fun hw gB hgB=>?_)
 have c0:=zh6 g hx
 cases hwl:ZL g
 ·rw [hwl] at c0
  repeat' (first|(refine shC ?_;first|refine qC c0 ?_)|refine sK ?_|refine sC (fun _=>?_) (fun _=>?_)|fail)
  exact retq rfl (by simp [zl,ZV,hwl])
 ·rw [hwl] at c0
  have hf:=Zg hwl
  have hgl:g.fields.length≤64:=by have:=(zS hf).2.1;omega
  have hgt:g.types.length≤32:=(zS hf).1
  repeat' (first|(refine shC ?_;first|refine qC c0 ?_)|refine sK ?_|refine sC (fun _=>?_) (fun _=>?_)|fail)
  refine zI (fun k:Nat=>[(1,.pv (.ptr (zO g) 0)),(11,.pv (.slc 7 (g.fields.map YA) false)),(12,.pv (pi g.fields.length)),(13,.pv (pi k))]) (fun _=>[]) (fun k=>k≤g.fields.length∧∀ j,j < k→YV g (g.fields.getD j default).ty=true) (fun k=>g.fields.length - k) 0 ⟨by omega,fun j h=>by omega⟩ (tS) tH ?_
  rintro k ⟨hk,hno⟩
  by_cases hlt:k < g.fields.length
  ·have he:=qQ (f:=YA) hlt
   have c1:=ziK g g.fields[k].ty hf
   cases hus:YV g g.fields[k].ty
   ·have hfin:=zfK hwl hlt hno (by rw [zjy hlt];exact hus)
    rw [hus] at c1
    repeat' (first|(refine shC ?_;first|refine qC c1 ?_)|(refine shX ?_;first|refine qX he ?_)|refine sK ?_|refine sC (fun _=>?_) (fun _=>?_)|fail)
    exact retq rfl (by rw [hfin];rfl)
   ·rw [hus] at c1
    repeat' (first|(refine shC ?_;first|refine qC c1 ?_)|(refine shX ?_;first|refine qX he ?_)|refine sK ?_|refine sC (fun _=>?_) (fun _=>?_)|fail)
    exact ⟨k + 1,⟨hlt,fun j hj=>by
     by_cases e:j=k
     ·subst e;rw [zjy hlt];exact hus
     ·exact hno j (by omega)⟩,tD,tS,tH⟩
  ·have hu:qZ g=true:=List.all_eq_true.2 fun j hj=>hno j (by have:=List.mem_range.1 hj;omega)
   clear hno
   repeat' (first|refine sK ?_|refine sC (fun _=>?_) (fun _=>?_)|fail)
   refine zI (fun k:Nat=>[(1,.pv (.ptr (zO g) 0)),(27,.pv (pi g.types.length)),(28,.pv (pi k))]) (fun _=>[]) (fun k=>k≤g.types.length∧∀ j,j < k→Ya g j=false) (fun k=>g.types.length - k) 0 ⟨by omega,fun j h=>by omega⟩ (tS) tH ?_
   clear hk hlt
   rintro k ⟨hk,hno⟩
   by_cases hlt:k < g.types.length
   ·have c1:=Xm g hf (k:Int)
    have hfin:=fun h=>zfE hwl hu hlt hno h
    have hnx:Ya g k=false→∀ j,j < k + 1→Ya g j=false:=fun h j hj=>by
     by_cases e:j=k
     ·subst e;exact h
     ·exact hno j (by omega)
    have hsb:Ya g k=((zY g k==1&&decide (8 < (yx g ⟨6,k,0,false⟩).length))||(zY g k==0&&decide (32 < (objT g k).length))):=rfl
    clear hno
    by_cases hk1:zY g k=1
    ·have c2:=zj3 g hwl hu 8 (by omega) (by omega) ⟨6,k,0,false⟩
     rw [hk1] at hsb c1
     cases hl:decide (8 < (yx g ⟨6,k,0,false⟩).length)
     ·rw [hl] at c2 hsb
      repeat' (first|(refine shC ?_;first|refine qC c1 ?_|refine qC c2 ?_)|refine sK ?_|refine sC (fun _=>?_) (fun _=>?_)|fail)
      exact ⟨k + 1,⟨hlt,hnx (by rw [hsb];rfl)⟩,tD,tS,tH⟩
     ·rw [hl] at c2 hsb
      repeat' (first|(refine shC ?_;first|refine qC c1 ?_|refine qC c2 ?_)|refine sK ?_|refine sC (fun _=>?_) (fun _=>?_)|fail)
      exact retq rfl (by rw [hfin (by rw [hsb];rfl)];rfl)
    ·have hb1:(zY g k==1)=false:=by simp [hk1]
     by_cases hk0:zY g k=0
     ·obtain ⟨r,hr,c2⟩:=ziW g hwl hu k
      rw [hk0] at hsb c1
      have hd:decide (32 < (r:Int))=decide (32 < (objT g k).length):=by rw [decide_eq_decide,←hr.more];omega
      cases hl:decide (32 < (objT g k).length)
      ·rw [hl] at hsb hd
       repeat' (first|(refine shC ?_;first|refine qC c1 ?_|refine qC c2 ?_)|refine sK ?_|refine sC (fun _=>?_) (fun _=>?_)|fail)
       exact ⟨k + 1,⟨hlt,hnx (by rw [hsb];rfl)⟩,tD,tS,tH⟩
      ·rw [hl] at hsb hd
       repeat' (first|(refine shC ?_;first|refine qC c1 ?_|refine qC c2 ?_)|refine sK ?_|refine sC (fun _=>?_) (fun _=>?_)|fail)
       exact retq rfl (by rw [hfin (by rw [hsb];rfl)];rfl)
     ·have hb0:(zY g k==0)=false:=by simp [hk0]
      rw [hb1,hb0] at hsb
      repeat' (first|(refine shC ?_;first|refine qC c1 ?_)|refine sK ?_|refine sC (fun _=>?_) (fun _=>?_)|fail)
      exact ⟨k + 1,⟨hlt,hnx (by rw [hsb];rfl)⟩,tD,tS,tH⟩
   ·repeat' (first|refine sK ?_|refine sC (fun _=>?_) (fun _=>?_)|fail)
    exact retq rfl (by rw [zif hwl hu (fun j hj=>hno j (by omega))];rfl)
set_option maxHeartbeats 20000000
theorem ziC (g:Img) (hx:OkA g):ACall Tryz.prog 51 [zO g] (pb (zhy g)):=by
 refine zf zk Tryz.func51 rfl (by kernel_rfl) Tryz.ntmps51 (by simp) _ rfl (fun hw gB hgB=>?_)
 repeat' (first|(refine shC ?_;first|refine qC (zcx g hx) ?_)|refine sA ?_|refine sC (fun _=>?_) (fun _=>?_)|fail)
 exact retq rfl rfl
def Vy (g:Img):List Ty:=if zhy g then zmo g g.fields.length else []
theorem zeH (g:Img) (hx:OkA g):ACall Tryz.prog 42 [zO g] (tys (Vy g)):=by
 refine zf zk Tryz.func42 rfl (by kernel_rfl) Tryz.ntmps42 (by simp) _ rfl (fun hw gB hgB=>?_)
 have c0:=ziC g hx
 cases hfi:zhy g
 ·rw [hfi] at c0
  repeat' (first|(refine shC ?_;first|refine qC c0 ?_)|refine sK ?_|refine sC (fun _=>?_) (fun _=>?_)|fail)
  all_goals (rw [show Vy g=[] by simp [Vy,hfi]];exact Wq (t:=2) (ps:=[tys []]) rfl (XL 4 false) rfl rfl)
 ·rw [hfi] at c0
  have hF:=zlI hfi
  have c1:=zgd g hF g.fields.length (Nat.le_refl _)
  rw [show ((g.fields.length:Nat):Int)=(((g.fields.map YA).length:Nat):Int) by simp] at c1
  repeat' (first|(refine shC ?_;first|refine qC c0 ?_|refine qC c1 ?_)|refine sK ?_|refine sC (fun _=>?_) (fun _=>?_)|fail)
  all_goals exact retq rfl (by simp [zl,Vy,hfi])
abbrev u64 (n:Int):PV:=.base (.int .u64 n)
def zmH (k:IntKind) (a b:Int):Int:=k.wrap ((BitVec.ofInt k.bits a &&& BitVec.ofInt k.bits b).toNat:Int)
def orU (a b:Int):Int:=IntKind.u64.wrap ((BitVec.ofInt IntKind.u64.bits a ||| BitVec.ofInt IntKind.u64.bits b).toNat:Int)
def zmg (t:Ty):Int:=orU (orU (IntKind.u64.wrap (zmH .i64 t.kind 15)) (IntKind.u64.wrap (IntKind.u64.wrap (zmH .i64 t.index 1023) * 2 ^ (min (4:Int).toNat IntKind.u64.bits)))) (IntKind.u64.wrap (IntKind.u64.wrap (zmH .i64 t.dims 15) * 2 ^ (min (14:Int).toNat IntKind.u64.bits)))
set_option maxHeartbeats 1000000 in
theorem zjR (t:Ty):ACall Tryz.prog 43 [yZ t] (u64 (zmg t)):=by
 refine zf zk Tryz.func43 rfl (by kernel_rfl) Tryz.ntmps43 (by simp) _ rfl (fun hw gB hgB=>?_)
 repeat' (first|refine zy rfl (zmb rfl rfl rfl (by decide)) rfl rfl ?_|refine sA ?_|refine sC (fun _=>?_) (fun _=>?_)|fail)
 exact retq rfl rfl
abbrev zlP:PV:=.base (.pointer none)
set_option maxHeartbeats 20000000
def g0:Img:=⟨[],[],[],-1⟩
abbrev za1:PV:=.base (.slice none 0 0)
abbrev zan (ws:List Int) (mv:Value) (fr used:Int):PV:=.agg [.slc 1 (ws.map u64) false,za1,za1,.base mv,u64 1,u64 8,u64 fr,pi used]
theorem zM {a:Int} (h1:0≤a) (h2:a≤18446744073709551615):IntKind.u64.wrap a=a:=by
 unfold IntKind.wrap
 simp only [IntKind.bits,IntKind.signed]
 simp
 omega
theorem ziz (ws:List Int) (mv:Value) (fr used k:Int) (h1:1≤k) (h7:k≤7):ACall Tryz.prog 44 [.ptr (zan ws mv fr used) 0,pi k] (u64 k):=by
 refine zf zk Tryz.func44 rfl (by kernel_rfl) Tryz.ntmps44 (by simp) _ rfl (fun hw gB hgB=>?_)
 have hd1:decide (k < 1)=false:=decide_eq_false (by omega)
 have hd2:decide (7 < k)=false:=decide_eq_false (by omega)
 repeat' (first|refine zy rfl (yF (b:=false) rfl Tryz.underlying25 rfl rfl) rfl rfl ?_|refine sK ?_|refine sC (fun _=>?_) (fun _=>?_)|fail)
 exact retq rfl (by
  simp only [zl]
  rw [zM (a:=k) (by omega) (by omega),zM (a:=1 + k) (by omega) (by omega),zM (by omega) (by omega)]
  congr 2;omega)
theorem zhM (ws:List Int) (mv:Value) (fr used:Int):ACall Tryz.prog 31 [.ptr (zan ws mv fr used) 0] (u64 fr):=by
 refine zf zk Tryz.func31 rfl (by kernel_rfl) Tryz.ntmps31 (by simp) _ rfl (fun hw gB hgB=>?_)
 repeat' (first|refine zy rfl (yF (b:=false) rfl Tryz.underlying25 rfl rfl) rfl rfl ?_|refine sA ?_|refine sC (fun _=>?_) (fun _=>?_)|fail)
 exact retq rfl rfl
theorem zlj (ws:List Int) (mv:Value) (fr used:Int) (i:Nat) (h:i < ws.length) (hl:ws.length≤100000):ACall Tryz.prog 32 [.ptr (zan ws mv fr used) 0,u64 i] (u64 ws[i]):=by
 refine zf zk Tryz.func32 rfl (by kernel_rfl) Tryz.ntmps32 (by simp) _ rfl (fun hw gB hgB=>?_)
 have hd:decide (IntKind.u64.wrap (((ws.map u64).length:Nat):Int)≤(i:Int))=false:=decide_eq_false (by rw [List.length_map,zM (by omega) (by omega)];omega)
 have he:(ws.map u64)[i]?=some (u64 ws[i]):=by simp [h]
 repeat' (first|refine zy rfl (yF (b:=false) rfl Tryz.underlying25 rfl rfl) rfl rfl ?_|(refine shX ?_;first|refine qX he ?_)|refine sK ?_|refine sC (fun _=>?_) (fun _=>?_)|fail)
 exact retq rfl rfl
def fresh (g:Img) (m:Int):Bool:=Yq (mAt g m).flags 8
theorem tSO {P:Prop} (h:P:=by repeat (first|exact qO|refine qE rfl ?_|(refine Xl rfl ?_ ?_;· (first|omega|(rw [wrap_in (by omega) (by omega)] <;> omega)|(dsimp only;rw [wrap_in (by omega) (by omega)] <;> omega)|(simp;done))))):P:=h
abbrev Yd (ws:List Int) (fr used:Int):HEnv:=[(0,.cell (.agg [.own 7,.pv za1,.pv za1,.own 8,.pv (u64 1),.pv (u64 8),.pv (u64 fr),.pv (pi used)])),(7,.mrow 33 1 (ws.map u64)),(8,.obj (MapSet Tryz.prog 86 3 []))]
theorem zmq:ZV g0=(0,0):=by decide +kernel
theorem zmU:Vy g0=[]:=by decide +kernel
theorem ok0:OkA g0:=fun m hm=>by cases hm
def ws0 (w:Int):Nat→List Int
 | 0=>List.replicate (16392 + w).toNat 0
 | k + 1=>(ws0 w k).set (k + 1) (zmg ⟨7,((k + 1:Nat):Int),0,false⟩)
theorem zbh (w:Int):∀ k,(ws0 w k).length=(16392 + w).toNat
 | 0=>by simp [ws0]
 | k + 1=>by rw [ws0,List.length_set,zbh w k]
set_option maxHeartbeats 2000000 in
theorem zkR (w:Int) (h0:0≤w) (h1:w≤4096):ACallM Tryz.prog 20 [.pv (zO g0),.pv (pi w)] [] (.box 0 0) (Yd (ws0 w 7) (8 + w) 0):=by
 have c0:=zcx g0 ok0
 rw [zmq] at c0
 have c1:=zeH g0 ok0
 rw [zmU] at c1
 have hd1:decide (w < 0)=false:=decide_eq_false (by omega)
 have hd2:decide (4096 < w)=false:=decide_eq_false (by omega)
 obtain ⟨N,hN⟩:∃ N,N=(16392 + w).toNat:=⟨_,rfl⟩
 refine zn zk Tryz.func20 rfl (by kernel_rfl) Tryz.ntmps20 (by simp) _ rfl (fun gB hw1=>?_)
 repeat' (first|(refine shC ?_;first|refine qC c0 ?_)|refine sK ?_|refine sC (fun _=>?_) (fun _=>?_)|fail)
 repeat' (first|refine zdW (kt:=86) (et:=3) 8 rfl rfl rfl rfl rfl ?_|refine zy rfl (zg3 zk rfl ⟨_,rfl⟩ rfl rfl rfl rfl rfl rfl) rfl rfl ?_|(refine VX ?_;first|refine zc4 0 rfl rfl rfl rfl rfl rfl ?_)|refine sK ?_|refine sC (fun _=>?_) (fun _=>?_)|fail)
 refine zI (fun _:Nat=>[(1,.pv (pi w)),(2,.pv (.ptr (zO g0) 0)),(7,.box 0 0),(31,.pv (pi 0)),(32,.pv (pi 0))])
  (fun _=>[(0,.cell (.agg [.pv za1,.pv za1,.pv za1,.own 8,.pv (u64 0),.pv (u64 0),.pv (u64 0),.pv (pi 0)])),(8,.obj (MapSet Tryz.prog 86 3 []))]) (fun k=>k=0) (fun k=>k) 0 rfl (tS) ⟨by repeat (first|exact zi|refine zh rfl ?_),rfl⟩ ?_
 rintro k rfl
 obtain ⟨E1,hE1⟩:∃ E,E=IntKind.u64.wrap (1 + IntKind.u64.wrap ((((([]:List Ty).map yZ).length:Nat)):Int)):=⟨_,rfl⟩
 have e1:E1=1:=by rw [hE1];rfl
 obtain ⟨E2,hE2⟩:∃ E,E=IntKind.u64.wrap (E1 + 7):=⟨_,rfl⟩
 have e2:E2=8:=by rw [hE2,e1];rfl
 obtain ⟨E3,hE3⟩:∃ E,E=IntKind.u64.wrap (E2 + IntKind.u64.wrap w):=⟨_,rfl⟩
 have e3:E3=8 + w:=by rw [hE3,e2,zM (a:=w) (by omega) (by omega),zM (by omega) (by omega)]
 have hmi:IntKind.u64.wrap (E3 + 16384)=((N:Nat):Int):=by rw [e3,zM (by omega) (by omega)];omega
 rw [hE3,hE2,hE1] at hmi
 repeat' (first|refine zdZ (m:=N) (sz:=1) zk 7 rfl rfl rfl rfl rfl hmi rfl rfl (by show 8 * _≤_;omega) (by simp [maxLen];omega) rfl rfl rfl ?_|(refine shC ?_;first|refine qC c1 ?_)|refine sK ?_|refine sC (fun _=>?_) (fun _=>?_)|fail)
 refine zI (fun j:Nat=>[(7,.box 0 0),(10,.pv (pi ((j + 1:Nat):Int)))]) (fun j=>Yd (ws0 w j) (8 + w) 0) (fun j=>j≤7) (fun j=>7 - j) 0 (by omega) (tS)
  ⟨zh (show some (HE.cell (.agg [.own 7,.pv za1,.pv za1,.own 8,.pv (u64 (IntKind.u64.wrap (1 + IntKind.u64.wrap ((((([]:List Ty).map yZ).length:Nat)):Int)))),.pv (u64 (IntKind.u64.wrap (IntKind.u64.wrap (1 + IntKind.u64.wrap ((((([]:List Ty).map yZ).length:Nat)):Int)) + 7))),.pv (u64 (IntKind.u64.wrap (IntKind.u64.wrap (IntKind.u64.wrap (1 + IntKind.u64.wrap ((((([]:List Ty).map yZ).length:Nat)):Int)) + 7) + IntKind.u64.wrap w))),.pv (pi 0)]))=_ from by
    rw [←hE1,←hE2,←hE3,e3,e2,e1]) (YF rfl (by rw [ws0,List.map_replicate,hN]) (zh rfl zi)),rfl⟩ ?_
 rintro j hj
 by_cases hlt:j < 7
 ·have hl:=zbh w j
  have hil:j + 1 < ((ws0 w j).map u64).length:=by rw [List.length_map,hl];omega
  have hpp:((ws0 w j).map u64)[j + 1]?=some (u64 ((ws0 w j)[j + 1]'(by rw [hl];omega))):=by rw [List.getElem?_map,List.getElem?_eq_getElem (by rw [hl];omega)];rfl
  repeat' (first|refine qj 12 11 rfl (by kernel_rfl) (by kernel_rfl) (by kernel_rfl) (by kernel_rfl) (by kernel_rfl) ?_|refine AD.step _ _ _ _ _ rfl (zlv rfl (fun _=>rfl) (fun ρ=>ziz (ws0 w j) (ρ 8) (8 + w) 0 ((j + 1:Nat):Int) (by omega) (by omega))) rfl rfl ?_|(refine shC ?_;first|refine qC (zjR ⟨7,((j + 1:Nat):Int),0,false⟩) ?_)|(refine shX ?_;first|refine zy rfl (zC (k:=j + 1) zk rfl rfl rfl rfl rfl rfl rfl rfl hil) rfl rfl ?_|refine AD.step _ _ _ _ _ rfl (zC (k:=j + 1) zk rfl rfl rfl rfl rfl rfl rfl rfl hil) rfl rfl ?_)|(refine yj ?_;first|refine yS (k:=j + 1) (j:=0) zk rfl rfl rfl rfl rfl hpp rfl rfl rfl rfl rfl ?_)|refine sK ?_|refine sC (fun _=>?_) (fun _=>?_)|fail)
  exact ⟨j + 1,hlt,tD,tSO,⟨zh rfl (YF rfl (by rw [ws0,List.map_set]) (zh rfl zi)),rfl⟩⟩
 ·have hj2:j=7:=by omega
  subst hj2
  repeat' (first|refine sK ?_|refine sC (fun _=>?_) (fun _=>?_)|fail)
  exact ⟨.inr rfl,.inr ⟨4,rfl,rfl,⟨by repeat (first|exact zi|refine zh rfl ?_),rfl⟩⟩⟩
theorem yI {P:Prop}:false=true→P:=fun h=>nomatch h
end Go.Cg
