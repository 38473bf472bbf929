/- A part of the walks by abstract values: no statement of its own. -/
import Derived.Test.YtdbgicaoddibdaaGreatT16
import Derived.Test.YtdbgicaoddibdaaGreatT27
import Derived.Test.YtdbgicaoddibdaaGreatT20
import Derived.Test.YtdbgicaoddibdaaGreatT6
import Derived.Test.YtdbgicaoddibdaaGreatT15
import Derived.Test.YtdbgicaoddibdaaGreatT19
import Derived.Test.YtdbgicaoddibdaaGreatT5
import Derived.Test.YtdbgicaoddibdaaGreatT14
import Derived.Test.YtdbgicaoddibdaaGreatT12
import Derived.Test.YtdbgicaoddibdaaGreatT7
import Derived.Test.YtdbgicaoddibdaaGreatT22
import Derived.Test.YtdbgicaoddibdaaGreatT9
set_option linter.unusedVariables false
set_option linter.unusedSimpArgs false
namespace Go.Cg
open Go.RowKit
section
variable {P:Program} {g:Base} {H:HEnv} {env:Env} {tb:Tab} {o:Oper}
theorem zxA {x y:Operand} {ts:Array TypeId} {k:IntKind} {m c:Int} (hop:o.op=.call { callee:=.builtin .max,args:=#[x,y],argTypes:=ts }) (hx:env.pv H x=some (.base (.int k m))) (hy:env.pv H y=some (.base (.int k c))):QStep P g H o env (.pv (.base (.int k (max m c)))):=by
 refine ⟨fun K ρ a w hf hv=>?_⟩;have hxr:=qc hf (hv x zwy70) hx;have hyr:=qc hf (hv y zwy70) hy;generalize hxv:a.eval x=xv at hxr;generalize hyv:a.eval y=yv at hyr;cases hxr;cases hyr;have hrun:(execOp a.eval o).run P w=.ok (.value (.int k (max m c))) w:=by
  simp [execOp,hop,resolve,invoke,builtin,Builtin.max_,Builtin.max2,hxv,hyv];first|done|omega|(split <;> simp <;> omega)
 rw [hrun];exact ZP hf (.pv _ _ (.base _ rfl))
theorem zxj {x y:Operand} {ts:Array TypeId} {k:IntKind} {m c:Int} (hop:o.op=.call { callee:=.builtin .min,args:=#[x,y],argTypes:=ts }) (hx:env.pv H x=some (.base (.int k m))) (hy:env.pv H y=some (.base (.int k c))):QStep P g H o env (.pv (.base (.int k (min m c)))):=by
 refine ⟨fun K ρ a w hf hv=>?_⟩;have hxr:=qc hf (hv x zwy70) hx;have hyr:=qc hf (hv y zwy70) hy;generalize hxv:a.eval x=xv at hxr;generalize hyv:a.eval y=yv at hyr;cases hxr;cases hyr;have hrun:(execOp a.eval o).run P w=.ok (.value (.int k (min m c))) w:=by
  simp [execOp,hop,resolve,invoke,builtin,Builtin.min_,Builtin.min2,hxv,hyv];first|done|omega|(split <;> simp <;> omega)
 rw [hrun];exact ZP hf (.pv _ _ (.base _ rfl))
end
section
variable {P:Program} {tb:Tab} {n:Nat} {g:Base} {K:KK} {w:World} {ρ:Nat→Value} {H:HEnv} {env:Env} {a:Act} {ops:List Oper} {o:Oper} {rest:List Oper} {Q:Env→HEnv→Prop}
theorem FS.setObj (hf:FS g K ρ H w) (hw1:g.w1.heap.size=0) {i b:Nat} {X X':Obj→Prop} {ob':Obj} (hi:H.get i=some (.obj X)) (hr:ρ i=.map (some b)) (hX':X' ob'):FS g K ρ ((i,.obj X')::H) (w.putObj b ob')∧Later K K w (w.putObj b ob'):=by
 obtain ⟨b',ob,hr',hB,hheap,hX,hnK⟩:=hf.heap.ok i _ hi;rw [hr] at hr';simp only [Value.map.injEq,Option.some.injEq] at hr';subst hr';have hgrow:w.grownBy (w.putObj b ob') (some b):=grownBy_putObj' _ _ _;have hlt:b < w.heap.size:=(Array.getElem?_eq_some_iff.1 hheap).1;have hb':(w.putObj b ob').heap[b]?=some ob':=by simp [World.putObj,hlt]
 have hlat:Later K K w (w.putObj b ob'):=⟨fun _ _ h=>h,fun b' o hk=>by
  have hne:b'≠b:=by rintro rfl;exact hnK o hk
  exact World.cell?_of_block (hgrow.block b' (hf.lt b' o hk) (by simp [hne]))⟩
 have hkeep:∀ j,(H.get j).isSome=true→(HEnv.get ((i,.obj X')::H) j).isSome=true∧ρ j=ρ j:=by
  intro j hj;refine ⟨?_,rfl⟩;rw [HEnv.get_cons];split
  ·rfl
  ·exact hj
 refine ⟨⟨hf.below.grown hgrow hf.below.size (fun k hk=>by simp at hk;omega),hf.old,hf.new,fun b o hk=>Nat.lt_of_lt_of_le (hf.lt b o hk) hgrow.size,⟨by rw [hw1];omega,fun k o hk=>by have:=(Array.getElem?_eq_some_iff.1 hk).1;omega⟩,hf.pt.grown hf.old hgrow hlat (fun b2 hb2=>by cases hb2;exact hf.away i _ b hi rfl zwy109) (fun _ _ h=>.inl h),hf.away.set hi rfl,?_,?_⟩,hlat⟩
 ·intro j e hj;rw [HEnv.get_cons] at hj;split at hj
  ·rename_i e';subst e';simp only [Option.some.injEq] at hj;subst hj;exact ⟨b,ob',hr,hB,hb',hX',hnK⟩
  ·rename_i hne;by_cases hlive:e.live=true
   ·have:=(hf.heap.ok j e hj).grown (f:=id) hgrow hlat (fun b o h=>.inl h) (fun av v h=>h.keeps hlat hkeep) hlive (fun b' hb' e'=>by
     simp at e';subst e';exact hf.heap.apart i j _ e b hne hi hj rfl hlive zwy109 hb')
    cases e <;> exact this
   ·cases e <;> simp [HE.live] at hlive
    ·trivial
    ·exact ARel.keeps hlat hkeep (hf.heap.ok j _ hj)
 ·intro j k2 e e' bb hjk hj hk' hlj hlk hbj hbk;have e1:∀ (j:Nat) (hh:HE),HEnv.get ((i,.obj X')::H) j=some hh→hh.live=true→∃ h0,H.get j=some h0∧h0.live=true:=by
   intro j hh hj hl;rw [HEnv.get_cons] at hj;split at hj
   ·rename_i e';subst e';exact ⟨_,hi,rfl⟩
   ·exact ⟨hh,hj,hl⟩
  obtain ⟨a1,a2,a3⟩:=e1 j e hj hlj;obtain ⟨b1,b2,b3⟩:=e1 k2 e' hk' hlk;exact hf.heap.apart j k2 a1 b1 bb hjk a2 b2 a3 b3 hbj hbk
end
end Go.Cg
namespace Go.Cg
open Go.Proofs
set_option maxHeartbeats 20000000
theorem znx (p:Int→Int→Bool) (f:FuncId) (first cap:List PV) (a b:Int) (hp:ACall Tryz.prog f (first++[pi a,pi b]++cap) (pb (p a b))):ACall Tryz.prog 228 [pi b,.ptr (.fn (.func f) first cap) 0,.ptr (pi a) 0] (pb (p a b)):=by
 refine zi zf Tryz.func228 rfl zws Tryz.ntmps228 zwy63 _ rfl (fun hw gB hgB=>?_)
 repeat' (first|(refine shC ?_;first|refine qV (hp) ?_)|refine sA ?_|refine sC (fun _=>?_) (fun _=>?_)|fail)
 exact retq rfl rfl
theorem zh3 (l:List Int) (p:Int→Int→Bool) (f:FuncId) (first cap:List PV) (hp:∀ a∈l,∀ b∈l,ACall Tryz.prog f (first++[pi a,pi b]++cap) (pb (p a b))):ACall Tryz.prog 204 [ints l,.fn (.func f) first cap] (pb (zcv l p)):=by
 refine zi zf Tryz.func204 rfl zws Tryz.ntmps204 zwy63 _ rfl (fun hw gB hgB=>?_);have hl:=ziG hw.1
 repeat' (first|refine sA ?_|refine sC (fun _=>?_) (fun _=>?_)|fail)
 refine zW (fun k:Nat=>[(0,.pv (ints l)),(3,.pv (.ptr (.fn (.func f) first cap) 0)),(7,.pv (ints l)),(8,.pv (pi l.length)),(9,.pv (pi k))]) (fun _=>[]) (fun k=>k≤l.length∧zcv l p=((List.range l.length).drop k).any fun i=>(l.take i).any (p (l.getD i 0))) (fun k=>l.length - k) 0 ⟨by omega,rfl⟩ (tS) tH ?_;rintro k ⟨hk,hr⟩;by_cases hlt:k < l.length
 ·have he:=Qv hlt;have c1:=XH (l.take k) (p l[k]) 228 [] [.ptr (.fn (.func f) first cap) 0,.ptr (pi l[k]) 0] (fun x hx=>znx p f first cap l[k] x (hp _ (List.getElem_mem hlt) x (List.mem_of_mem_take hx)));rw [zii hlt,zT hlt] at hr
  repeat' (first|refine QW (t:=6) rfl rfl rfl ?_|refine zy rfl (ZK (xs:=l) (f:=pi) 0 k zf rfl rfl rfl rfl rfl rfl rfl zwy62 zwy62) rfl rfl ?_|(refine shC ?_;first|refine qC c1 ?_)|(refine shX ?_;first|refine qX he ?_)|refine sK ?_|refine sC (fun _=>?_) (fun _=>?_)|fail)
  all_goals first|(refine ay ?_;first|(simp only [zC,BL,List.length_map] at *;simp only [*,BL,List.length_map];done)|(simp_all [zC];done)|(simp_all [zC];omega)|(simp_all [zC];intros;omega))|(refine ⟨k + 1,⟨by omega,?_⟩,tD,tS,tH⟩;first|(simp only [BL,List.length_map] at *;simp only [*,BL,List.length_map];done)|(simp_all [];done)|(simp_all [];omega)|(simp_all [];intros;omega))|(trace "LEND";trace_state)
 ·rw [drop_end zwy64] at hr
  repeat' (first|refine sK ?_|refine sC (fun _=>?_) (fun _=>?_)|fail)
  all_goals first|(refine ay ?_;first|(simp only [zC,BL,List.length_map] at *;simp only [*,BL,List.length_map];done)|(simp_all [zC];done)|(simp_all [zC];omega)|(simp_all [zC];intros;omega))|(refine zbf rfl ?_;first|(simp only [zC,BL,List.length_map] at *;simp only [*,BL,List.length_map];done)|(simp_all [zC];done)|(simp_all [zC];omega)|(simp_all [zC];intros;omega))|skip
theorem zn5 (g:Img) (a b:Int) (ha0:0≤a) (ha:a.toNat < g.fields.length) (hb0:0≤b) (hb:b.toNat < g.fields.length):ACall Tryz.prog 205 [pi a,pi b,.ptr (zO g) 0] (pb (zhT g a b)):=by
 refine zi zf Tryz.func205 rfl zws Tryz.ntmps205 zwy63 _ rfl (fun hw gB hgB=>?_);have hea:=Yy (f:=Yo) ha;have heb:=Yy (f:=Yo) hb
 repeat' (first|(refine shX ?_;first|refine zy rfl (ah ha0 hea) rfl rfl ?_|refine zq rfl (ah ha0 hea) rfl rfl ?_|refine zy rfl (ah hb0 heb) rfl rfl ?_|refine zq rfl (ah hb0 heb) rfl rfl ?_)|refine sA ?_|refine sC (fun _=>?_) (fun _=>?_)|fail)
 exact retq rfl (by simp only [zC,zhT,fName,zT ha,zT hb])
theorem ze5 (a b:List Ty):ACall Tryz.prog 171 [tys a,tys b] (pb (decide (a=b))):=by
 refine zi zf Tryz.func171 rfl zws Tryz.ntmps171 zwy63 _ rfl (fun hw gB hgB=>?_);have hl:=zdz hw.1;by_cases hlen:a.length=b.length
 ·repeat' (first|refine sK ?_|refine sC (fun _=>?_) (fun _=>?_)|fail)
  refine zW (fun k:Nat=>[(0,.pv (tys a)),(1,.pv (tys b)),(11,.pv (tys a)),(12,.pv (pi a.length)),(13,.pv (pi k))]) (fun _=>[]) (fun k=>k≤a.length∧a.take k=b.take k) (fun k=>a.length - k) 0 ⟨by simp,by simp⟩ (tS) tH ?_;rintro k ⟨hk,hno⟩;by_cases hlt:k < a.length
  ·have he:=zdf hlt;have hltb:k < b.length:=by omega
   have he':=zdf hltb
   repeat' (first|(refine shX ?_;first|refine qX he ?_|refine qX he' ?_)|refine sK ?_|refine sC (fun _=>?_) (fun _=>?_)|fail)
   ·rename_i h;refine ay ?_;have:a≠b:=by
     rintro rfl;simp at h
    simp [zC,this]
   ·rename_i h;have e:a[k]=b[k]:=by
     simp only [Bool.not_eq_false'] at h;rw [Vo] at h;simpa using h
    exact ⟨k + 1,⟨by omega,zk7 hlt hltb hno e⟩,tD,tS,tH⟩
  ·repeat' (first|refine sK ?_|refine sC (fun _=>?_) (fun _=>?_)|fail)
   refine ay ?_;rw [List.take_of_length_le zwy62,List.take_of_length_le zwy62] at hno;simp [zC,hno]
 ·have hne:a≠b:=by rintro rfl;exact hlen rfl
  have hb:((((a.map yJ).length:Nat):Int) != (((b.map yJ).length:Nat):Int))=true:=by simp;omega
  repeat' (first|refine sK ?_|refine sC (fun _=>?_) (fun _=>?_)|fail)
  exact retq rfl (by simp [zC,hne])
abbrev zMe:AV:=.pv (.agg [.base (.string ByteArray.empty),pi 0,pi 0,.base (.slice none 0 0),pi 0,pi 0,pi 0,pb false,.base (.slice none 0 0),pi 0,.base (.slice none 0 0),.base (.slice none 0 0)])
theorem zmS (g:Img) (a b:Int) (ha0:0≤a) (ha:a.toNat < g.methods.length) (hb0:0≤b) (hb:b.toNat < g.methods.length):ACall Tryz.prog 206 [pi a,pi b,.ptr (zO g) 0] (pb (zad (mAt g a) (mAt g b))):=by
 refine zi zf Tryz.func206 rfl zws Tryz.ntmps206 zwy63 _ rfl (fun hw gB hgB=>?_);have hea:=Yy (f:=yh) ha;have heb:=Yy (f:=yh) hb;rw [mAt,mAt,zT ha,zT hb];generalize g.methods[a.toNat]=x at hea ⊢;generalize g.methods[b.toNat]=y at heb ⊢;have hty:=Vo x.ret y.ret;have c1:=ze5 x.params y.params
 repeat' (first|refine zeA rfl ?_|refine sA ?_|fail)
 refine zbu 10 11 [0,1,2,3,4,5,6,7,8,9,10,11,12,13] [0,1,2,3,4,5,6,7,8,9,10,11,12,13] [0,1,2,3,4,5,6,7,8,9,11,10,12,13] [0,1,2,3,4,5,6,7,8,9,11,10,12,13] rfl zws zws (zfs zws ?_) (zfs zws ?_)
 ·refine zdr 14 14 [10,11,12,13] [] (mkL [[],[(0,.cell zMe)],[(1,.cell zMe),(0,.cell zMe)],[(0,.cell (.pv (yh x))),(1,.cell zMe),(0,.cell zMe)],[(1,.cell (.pv (yh y))),(0,.cell (.pv (yh x))),(1,.cell zMe),(0,.cell zMe)]]) (mkL [[],[(0,.cell zMe)],[(1,.cell zMe),(0,.cell zMe)],[(0,.cell (.pv (yh x))),(1,.cell zMe),(0,.cell zMe)],[(1,.cell (.pv (yh y))),(0,.cell (.pv (yh x))),(1,.cell zMe),(0,.cell zMe)]]) [] none rfl zws zws zws zws zws zws (fun p hp=>by simp at hp) rfl (zaE rfl ⟨tH,tH,tH,tH,tH,trivial⟩) rfl (YO rfl rfl) (fun q h=>YO rfl rfl q 4 h (Nat.le_refl 4)) tH rfl (fun v hv=>by cases hv) ?_
  repeat' (first|refine Yp 10 [0,1,2] (.box 0 0) rfl rfl rfl rfl rfl ?_|refine Yp 0 [0,1] (.box 1 0) rfl rfl rfl rfl rfl ?_|refine Zt [0] (.pv (.tup [])) rfl rfl rfl ?_|refine Zt [] (.pv (.tup [])) rfl rfl rfl ?_|refine ⟨⟨rfl,Wn zf 0 rfl rfl rfl rfl,.inr zws⟩,?_⟩|refine ⟨⟨rfl,Wn zf 1 rfl rfl rfl rfl,.inr zws⟩,?_⟩|refine ⟨⟨rfl,zb6 zf rfl rfl rfl rfl rfl rfl rfl,.inl rfl⟩,?_⟩|refine ZV ?_|intro _|refine QL ?_|(refine shC ?_;first|refine qC c1 ?_)|(refine shX ?_;first|refine zy rfl (ah ha0 hea) rfl rfl ?_|refine zq rfl (ah ha0 hea) rfl rfl ?_|refine zy rfl (ah hb0 heb) rfl rfl ?_|refine zq rfl (ah hb0 heb) rfl rfl ?_)|refine sK ?_|refine sC (fun _=>?_) (fun _=>?_)|fail)
  all_goals refine ay ?_
  all_goals (simp only [zC,zad,←hty];clear hty;simp_all)
 ·refine zdr 14 14 [10,11,12,13] [] (mkL [[],[(1,.cell zMe)],[(0,.cell zMe),(1,.cell zMe)],[(0,.cell (.pv (yh x))),(0,.cell zMe),(1,.cell zMe)],[(1,.cell (.pv (yh y))),(0,.cell (.pv (yh x))),(0,.cell zMe),(1,.cell zMe)]]) (mkL [[],[(1,.cell zMe)],[(0,.cell zMe),(1,.cell zMe)],[(0,.cell (.pv (yh x))),(0,.cell zMe),(1,.cell zMe)],[(1,.cell (.pv (yh y))),(0,.cell (.pv (yh x))),(0,.cell zMe),(1,.cell zMe)]]) [] none rfl zws zws zws zws zws zws (fun p hp=>by simp at hp) rfl (zaE rfl ⟨tH,tH,tH,tH,tH,trivial⟩) rfl (YO rfl rfl) (fun q h=>YO rfl rfl q 4 h (Nat.le_refl 4)) tH rfl (fun v hv=>by cases hv) ?_
  repeat' (first|refine Yp 10 [0,1,2] (.box 1 0) rfl rfl rfl rfl rfl ?_|refine Yp 0 [0,1] (.box 0 0) rfl rfl rfl rfl rfl ?_|refine Zt [0] (.pv (.tup [])) rfl rfl rfl ?_|refine Zt [] (.pv (.tup [])) rfl rfl rfl ?_|refine ⟨⟨rfl,Wn zf 1 rfl rfl rfl rfl,.inr zws⟩,?_⟩|refine ⟨⟨rfl,Wn zf 0 rfl rfl rfl rfl,.inr zws⟩,?_⟩|refine ⟨⟨rfl,zb6 zf rfl rfl rfl rfl rfl rfl rfl,.inl rfl⟩,?_⟩|refine ZV ?_|intro _|refine QL ?_|(refine shC ?_;first|refine qC c1 ?_)|(refine shX ?_;first|refine zy rfl (ah ha0 hea) rfl rfl ?_|refine zq rfl (ah ha0 hea) rfl rfl ?_|refine zy rfl (ah hb0 heb) rfl rfl ?_|refine zq rfl (ah hb0 heb) rfl rfl ?_)|refine sK ?_|refine sC (fun _=>?_) (fun _=>?_)|fail)
  all_goals refine ay ?_
  all_goals (simp only [zC,zad,←hty];clear hty;simp_all)
theorem zob (g:Img) (t:Int) (td:TD) (htd:typeAt g t=some td) (hg:g.types.length≤1000) (hgf:g.fields.length≤1000) (hgm:g.methods.length≤1000):ACall Tryz.prog 188 [zO g,pi t] (pb (zfU g t td)):=by
 refine zi zf Tryz.func188 rfl zws Tryz.ntmps188 zwy63 _ rfl (fun hw gB hgB=>?_);obtain ⟨h0,heT⟩:=Qc htd;have cf:=zh3 (fieldsOf g t) (zhT g) 205 [] [.ptr (zO g) 0] (fun a ha b hb=>zn5 g a b (Ql ha).1 (Ql ha).2 (Ql hb).1 (Ql hb).2);have cm:=zh3 (methodsOf g t) (fun a b=>zad (mAt g a) (mAt g b)) 206 [] [.ptr (zO g) 0] (fun a ha b hb=>zmS g a b (qO ha).1 (qO ha).2 (qO hb).1 (qO hb).2)
 repeat' (first|refine sA ?_|refine sC (fun _=>?_) (fun _=>?_)|fail)
 refine zW (fun k:Nat=>[(1,.pv (pi t)),(2,.pv (.ptr (zO g) 0)),(8,.pv (.slc 4 (g.types.map ZB) false)),(9,.pv (pi g.types.length)),(10,.pv (pi k))]) (fun _=>[]) (fun k=>k≤g.types.length∧zfU g t td=(((List.range g.types.length).drop k).all (zdc g t td)&&!zcv (fieldsOf g t) (zhT g)&&!zcv (methodsOf g t) (fun a b=>zad (mAt g a) (mAt g b)))) (fun k=>g.types.length - k) 0 ⟨by omega,rfl⟩ (tS) tH ?_;rintro k ⟨hk,hr⟩;by_cases hlt:k < g.types.length
 ·have he:=zY (f:=ZB) hlt;rw [YS hlt,zdc,zT hlt] at hr
  repeat' (first|(refine shX ?_;first|refine qX he ?_|refine zy rfl (ah h0 heT) rfl rfl ?_|refine zq rfl (ah h0 heT) rfl rfl ?_)|refine sK ?_|refine sC (fun _=>?_) (fun _=>?_)|fail)
  all_goals first|(refine ay ?_;first|(simp only [zC,BL,List.length_map] at *;simp only [*,BL,List.length_map];done)|(simp_all [zC];done)|(simp_all [zC];omega)|(simp_all [zC];intros;omega))|(refine ⟨k + 1,⟨by omega,?_⟩,tD,tS,tH⟩;first|(simp only [BL,List.length_map] at *;simp only [*,BL,List.length_map];done)|(simp_all [];done)|(simp_all [];omega)|(simp_all [];intros;omega))|(trace "LEND";trace_state)
 ·rw [drop_end zwy64] at hr
  repeat' (first|(refine shC ?_;first|refine qC (XT g t hgf) ?_|refine qC (YG g t hgm) ?_|refine qC cf ?_|refine qC cm ?_)|refine sK ?_|refine sC (fun _=>?_) (fun _=>?_)|fail)
  all_goals first|(refine ay ?_;first|(simp only [zC,BL,List.length_map] at *;simp only [*,BL,List.length_map];done)|(simp_all [zC];done)|(simp_all [zC];omega)|(simp_all [zC];intros;omega))|(refine zbf rfl ?_;first|(simp only [zC,BL,List.length_map] at *;simp only [*,BL,List.length_map];done)|(simp_all [zC];done)|(simp_all [zC];omega)|(simp_all [zC];intros;omega))|skip
def whole (t:Ty):Bool:=t.kind != 6||t.ref||decide (0 < t.dims)
def Yi (g:Img) (t:Int):List Fd:=g.fields.filter fun f=>f.owner==t&&!f.static
def intTy:Ty:=⟨2,0,0,false⟩
def VE (g:Img):Nat→Ty→List Ty
 | 0,_=>[]
 | n + 1,t=>if t.kind==1 then [] else if whole t then [t] else
   if ((Yi g t.index).flatMap fun f=>VE g n f.ty).length=0 then [intTy] else (Yi g t.index).flatMap fun f=>VE g n f.ty
def Dp (g:Img):Nat→Ty→Prop
 | 0,t=>whole t=true
 | n + 1,t=>whole t=true∨∀ f∈Yi g t.index,Dp g n f.ty
theorem Dp.whole {g:Img} {t:Ty} (h:Cg.whole t=true):∀ n,Dp g n t
 | 0=>h
 | _ + 1=>.inl h
theorem zcW {α β:Type} {l:List α} {f h:α→List β} (hh:∀ x∈l,f x=h x):l.flatMap f=l.flatMap h:=by
 induction l with
 | nil=>rfl
 | cons x l ih=>rw [List.flatMap_cons,List.flatMap_cons,hh x zwy63,ih (fun y hy=>hh y zwy113)]
theorem zg5 {g:Img}:∀ (n:Nat) (t:Ty),Dp g n t→∀ m,n < m→VE g m t=VE g (n + 1) t
 | 0,t,h,m,hm=>by
  obtain ⟨k,rfl⟩:∃ k,m=k + 1:=⟨m - 1,by omega⟩
  have hwt:whole t=true:=h;rw [VE,VE,hwt];rfl
 | n + 1,t,h,m,hm=>by
  obtain ⟨k,rfl⟩:∃ k,m=k + 1:=⟨m - 1,by omega⟩
  rw [VE,VE];rcases h with h|h
  ·rw [h];rfl
  ·rw [zcW (fun f hf=>zg5 n f.ty (h f hf) k zwy62)]
def YR (g:Img) (t:Ty):List Ty:=VE g (g.types.length + 2) t
def fcs (g:Img) (l:List Fd):List Ty:=l.flatMap fun f=>YR g f.ty
theorem zuA (g:Img) (f:Fd) (l:List Fd):fcs g (f::l)=YR g f.ty++fcs g l:=rfl
theorem zoV (g:Img) (l m:List Fd):fcs g (l++m)=fcs g l++fcs g m:=by simp [fcs]
def Yq (g:Img) (t:Ty):Bool :=
 ZY t&&(if t.kind==5 then yt g t.index==0||yt g t.index==2||yt g t.index==3 else t.kind != 6||yt g t.index==1)
def Yz (g:Img):Bool:=(List.range g.fields.length).all fun i=>Yq g (g.fields.getD i default).ty
theorem zoO {g:Img} {t:Ty} (h:Yq g t=true) (hw:whole t=false):t.kind=6∧t.ref=false∧t.dims=0∧yt g t.index=1:=by
 simp only [whole,Bool.or_eq_false_iff,bne_eq_false_iff_eq,decide_eq_false_iff_not] at hw;obtain ⟨⟨h1,h2⟩,h3⟩:=hw;rw [Yq,Bool.and_eq_true] at h;obtain ⟨hp,hk⟩:=h;have hd:0≤t.dims:=by
  unfold ZY at hp;split at hp
  ·cases hp
  ·rename_i hc;simp only [Bool.or_eq_true,decide_eq_true_eq,not_or] at hc;omega
 have hk':yt g t.index=1:=by simpa [h1] using hk
 exact ⟨h1,h2,by omega,hk'⟩
theorem zpz {g:Img} (h:Yz g=true) {f:Fd} (hf:f∈g.fields):Yq g f.ty=true:=by
 obtain ⟨k,hk,rfl⟩:=List.getElem_of_mem hf;have:=List.all_eq_true.1 h k (by simpa using hk)
 rwa [zT hk] at this
theorem zfY {g:Img} (hf:yI g=true) {f:Fd} (h:f∈g.fields):0≤f.owner∧f.owner < g.types.length∧Vg f.ty 1 g.types.length=true:=by
 obtain ⟨k,hk,rfl⟩:=List.getElem_of_mem h;simp only [yI,Bool.and_eq_true,List.all_eq_true] at hf;have:=hf.1.2 k (by simpa using hk);rw [zsY hk] at this;simp only [Bool.and_eq_true,decide_eq_true_eq] at this;exact ⟨this.1.1.1.2,this.1.1.2,this.2⟩
theorem zvL {g:Img} (hf:yI g=true) {u:Int} {f:Fd} (h:f∈Yi g u) (hu:Yq g f.ty=true) (hw:whole f.ty=false):f.ty.index∈partsOf g u:=by
 obtain ⟨h1,_,h3,h4⟩:=zoO hu hw;obtain ⟨hm,hc⟩:=List.mem_filter.1 h;simp only [Bool.and_eq_true,beq_iff_eq,Bool.not_eq_true'] at hc;obtain ⟨ho,hs⟩:=hc;obtain ⟨o0,o1,_⟩:=zfY hf hm;obtain ⟨k,hk,rfl⟩:=List.getElem_of_mem hm;have hgk:g.fields.getD ((k:Int)).toNat default=g.fields[k]:=by rw [Int.toNat_natCast,zT hk]
 rw [partsOf,List.mem_map];refine ⟨(k:Int),List.mem_filter.2 ⟨List.mem_filter.2 ⟨zi9.2 ⟨by omega,by omega⟩,?_⟩,?_⟩,by rw [hgk]⟩
 ·rw [hgk,Vl zwy62,ho];simp
 ·rw [zgg,hgk];simp [h1,hs,h3,h4]
theorem ztD {g:Img} {p u:Int} (h:Rch (partsOf g) (partsOf g p) u):yt g u=1:=by
 have key:∀ q,u∈partsOf g q→yt g u=1:=by
  intro q hq;simp only [partsOf,List.mem_map,List.mem_filter,zgg,Bool.and_eq_true,beq_iff_eq] at hq;obtain ⟨i,⟨_,_,hk⟩,rfl⟩:=hq;exact hk
 cases h with
 | base _ hx=>exact key _ hx
 | step x _ _ hy=>exact key _ hy
theorem zqc {g:Img} (hf:yI g=true) (hu:Yz g=true) (hz:∀ u:Int,yt g u=1→u∉ztb g u):∀ (n:Nat) (path:List Int) (t:Ty),path.Nodup→(∀ p∈path,0≤p∧p < g.types.length)→g.types.length + 1≤path.length + n →
  (∀ p∈path,Rch (partsOf g) (partsOf g p) t.index)→Dp g n t
 | 0,path,t,h1,h2,h3,h4=>by have:=Yl _ _ h1 h2;omega
 | n + 1,path,t,h1,h2,h3,h4=>by
  cases hw:whole t
  ·refine .inr fun f hfo=>?_
   cases hwf:whole f.ty
   ·have hm:=(List.mem_filter.1 hfo).1;have hc:=(List.mem_filter.1 hfo).2;simp only [Bool.and_eq_true,beq_iff_eq] at hc;obtain ⟨o0,o1,_⟩:=zfY hf hm;have hp:=zvL hf hfo (zpz hu hm) hwf;have hni:t.index∉path:=fun hin=>by
     have hr:=h4 _ hin;exact hz _ (ztD hr) (zn0.2 hr)
    refine zqc hf hu hz n (t.index::path) f.ty (List.nodup_cons.2 ⟨hni,h1⟩) ?_ zwy64 ?_
    ·intro p hp';rcases List.mem_cons.1 hp' with rfl|hp'
     ·omega
     ·exact h2 p hp'
    ·intro p hp';rcases List.mem_cons.1 hp' with rfl|hp'
     ·exact .base _ hp
     ·exact .step _ _ (h4 p hp') hp
   ·exact Dp.whole hwf n
  ·exact .inl hw
theorem zoI {g:Img} (h:Qu g=true) {u:Int} (hk:yt g u=1):u∉ztb g u:=by
 have hf:=YV h;obtain ⟨td,htd,_⟩:=zij hk zwy62;have hlt:=Wy htd;have hck:=zvH h (k:=u.toNat) zwy62;rw [zdV zwy62] at hck;have e:((u.toNat:Nat):Int)=u:=Int.toNat_of_nonneg hlt.1;rw [e] at hck;have hs:zd1 g u=true:=by
  cases hs:zd1 g u
  ·rw [hs] at hck;split at hck
   ·cases hck
   ·split at hck
    ·cases hck
    ·simp at hck
  ·rfl
 rw [zd1,hk,Bool.and_eq_true] at hs;simpa using hs.2
theorem zoS {g:Img} (h:Qu g=true) (hu:Yz g=true) (t:Ty):Dp g (g.types.length + 1) t :=
 zqc (YV h) hu (fun _ hk=>zoI h hk) _ [] t zwy63 zwy63 zwy63 zwy63
theorem zgv {g:Img} (h:Qu g=true) (hu:Yz g=true) (t:Ty):YR g t=if t.kind==1 then [] else if whole t then [t] else if (fcs g (Yi g t.index)).length=0 then [intTy] else fcs g (Yi g t.index):=by
 have hd:=zoS h hu t;rcases hd with hd|hd
 ·rw [YR,VE,hd];rfl
 ·have e:((Yi g t.index).flatMap fun f=>VE g (g.types.length + 1) f.ty)=fcs g (Yi g t.index):=zcW (fun f hf=>(zg5 _ _ (hd f hf) _ zwy62).symm);rw [YR,VE,e]
set_option maxHeartbeats 20000000
theorem zmC (g:Img) (t:Int) (hF:Fm g):ACall Tryz.prog 203 [pi t,.ptr (zO g) 0] (ints (yS g t)):=by
 refine zi zf Tryz.func203 rfl zws Tryz.ntmps203 zwy63 _ rfl (fun hw gB hgB=>?_)
 repeat' (first|(refine shC ?_;first|refine zy rfl (zJ rfl rfl (Vw g t (by have:=(hF.at t).1;omega) (fun f hf=>Vl ((hF.at t).2 f hf)))) rfl rfl ?_|refine zq rfl (zJ rfl rfl (Vw g t (by have:=(hF.at t).1;omega) (fun f hf=>Vl ((hF.at t).2 f hf)))) rfl rfl ?_)|refine sA ?_|refine sC (fun _=>?_) (fun _=>?_)|fail)
 exact retq rfl rfl
theorem znH (g:Img) (t:Int) (hf:yI g=true):ACall Tryz.prog 208 [pi t,.ptr (zO g) 0] (ints (partsOf g t)):=by
 refine zi zf Tryz.func208 rfl zws Tryz.ntmps208 zwy63 _ rfl (fun hw gB hgB=>?_)
 repeat' (first|(refine shC ?_;first|refine qC (zhd g t hf) ?_)|refine sA ?_|refine sC (fun _=>?_) (fun _=>?_)|fail)
 exact retq rfl rfl
theorem zjj (g:Img) (hf:yI g=true) (t:Int) (td:TD) (htd:typeAt g t=some td):ACall Tryz.prog 91 [ZB td] (pi (yt g t)):=by
 have:=zgf td;obtain ⟨h0,h1,_⟩:=zai hf htd;rw [zhU h0 h1] at this;rw [yt,htd];exact this
theorem znZ (g:Img) (t:Int) (td:TD) (htd:typeAt g t=some td) (hf:yI g=true):ACall Tryz.prog 187 [zO g,pi t] (pb (zf6 g t td)):=by
 refine zi zf Tryz.func187 rfl zws Tryz.ntmps187 zwy63 _ rfl (fun hw gB hgB=>?_);obtain ⟨h0,he⟩:=Qc htd;have hF:=VH hf;have hn:=hF.n;obtain ⟨hf1,hf2⟩:=hF.faces td (zaJ htd);have c0:=zjj g hf t td htd;have c1:=zei g.types.length zwy62 td.faces (yS g) 203 [] [.ptr (zO g) 0] hf2 zwy62
  (fun x h0 h1=>zmC g x hF) (fun x h0 h1=>⟨by have:=(hF.at x).1;omega,(hF.at x).2⟩)
 repeat' (first|(refine shX ?_;first|refine zy rfl (ah h0 he) rfl rfl ?_|refine zq rfl (ah h0 he) rfl rfl ?_)|refine sA ?_|refine sC (fun _=>?_) (fun _=>?_)|fail)
 refine zW (fun k:Nat=>[(1,.pv (pi t)),(2,.pv (.ptr (zO g) 0)),(5,.pv (ints td.faces)),(15,.pv (ints td.faces)),(16,.pv (pi td.faces.length)),(17,.pv (pi k))]) (fun _=>[]) (fun k=>k≤td.faces.length∧zf6 g t td=(((List.range td.faces.length).drop k).all (ze1 g td.faces)&&(yt g t != 2||!decide (t∈sortL (XJ g.types.length (yS g) td.faces))))) (fun k=>td.faces.length - k) 0 ⟨by simp,rfl⟩ (tS) tH ?_;rintro k ⟨hk,hr⟩;by_cases hlt:k < td.faces.length
 ·have hef:=Qv hlt;rw [YS hlt,ze1,zT hlt] at hr
  repeat' (first|refine zy rfl (ZK (xs:=td.faces) (f:=pi) 0 k zf rfl rfl rfl rfl rfl rfl rfl zwy62 zwy62) rfl rfl ?_|(refine shC ?_;first|refine qC (ZI g hf _) ?_|refine qC (YE (td.faces.take k) _) ?_)|(refine shX ?_;first|refine qX hef ?_)|refine sK ?_|refine sC (fun _=>?_) (fun _=>?_)|fail)
  all_goals first|(refine ay ?_;first|(simp only [zC,BL,List.length_map] at *;simp only [*,BL,List.length_map];done)|(simp_all [zC];done)|(simp_all [zC];omega)|(simp_all [zC];intros;omega))|(refine ⟨k + 1,⟨by omega,?_⟩,tD,tS,tH⟩;first|(simp only [BL,List.length_map] at *;simp only [*,BL,List.length_map];done)|(simp_all [];done)|(simp_all [];omega)|(simp_all [];intros;omega))|(trace "LEND";trace_state)
 ·rw [drop_end zwy64] at hr
  repeat' (first|(refine shC ?_;first|refine qC c0 ?_|refine qC c1 ?_|refine qC (YE _ _) ?_)|(refine shX ?_;first|refine zy rfl (ah h0 he) rfl rfl ?_|refine zq rfl (ah h0 he) rfl rfl ?_)|refine sK ?_|refine sC (fun _=>?_) (fun _=>?_)|fail)
  all_goals first|(refine ay ?_;first|(simp only [zC,BL,List.length_map] at *;simp only [*,BL,List.length_map];done)|(simp_all [zC];done)|(simp_all [zC];omega)|(simp_all [zC];intros;omega))|(refine zbf rfl ?_;first|(simp only [zC,BL,List.length_map] at *;simp only [*,BL,List.length_map];done)|(simp_all [zC];done)|(simp_all [zC];omega)|(simp_all [zC];intros;omega))|skip
theorem zns (g:Img) (t:Int) (td:TD) (htd:typeAt g t=some td) (hf:yI g=true):ACall Tryz.prog 189 [zO g,pi t] (pb (zfO g t)):=by
 refine zi zf Tryz.func189 rfl zws Tryz.ntmps189 zwy63 _ rfl (fun hw gB hgB=>?_);obtain ⟨h0,heT⟩:=Qc htd;have hF:=VH hf;have hn:=hF.n;have hg:g.fields.length≤64:=by have:=(yG hf).2.1;omega
 have c0:=zjj g hf t td htd;have hpl:=zgL g;have c1:=zei g.types.length zwy62 (partsOf g t) (partsOf g) 208 [] [.ptr (zO g) 0] (fun x hx=>Xu hx) (by have:=hpl t;omega)
  (fun x h0 h1=>znH g x hf) (fun x h0 h1=>⟨by have:=hpl x;omega,fun y hy=>Xu hy⟩)
 repeat' (first|(refine shC ?_;first|refine qC c0 ?_|refine zy rfl (zJ rfl rfl (XT g t zwy62)) rfl rfl ?_|refine zq rfl (zJ rfl rfl (XT g t zwy62)) rfl rfl ?_)|(refine shX ?_;first|refine zy rfl (ah h0 heT) rfl rfl ?_|refine zq rfl (ah h0 heT) rfl rfl ?_)|refine sA ?_|refine sC (fun _=>?_) (fun _=>?_)|fail)
 refine zW (fun k:Nat=>[(1,.pv (pi t)),(2,.pv (.ptr (zO g) 0)),(5,.pv (pi (yt g t))),(16,.pv (ints (fieldsOf g t))),(17,.pv (pi (fieldsOf g t).length)),(18,.pv (pi k))]) (fun _=>[]) (fun k=>k≤(fieldsOf g t).length∧zfO g t=(((fieldsOf g t).drop k).all (zlC g (yt g t))&&(yt g t != 1||!decide (t∈sortL (XJ g.types.length (partsOf g) (partsOf g t)))))) (fun k=>(fieldsOf g t).length - k) 0 ⟨by simp,rfl⟩ (tS) tH ?_;have hfl:=VO g t;rintro k ⟨hk,hr⟩;by_cases hlt:k < (fieldsOf g t).length
 ·have he:=Qv hlt;obtain ⟨hi0,hi⟩:=Ql (List.getElem_mem hlt);have hef:=Yy (f:=Yo) hi;rw [zi7 hlt,zlC,zT hi] at hr
  repeat' (first|(refine shX ?_;first|refine qX he ?_|refine zy rfl (ah hi0 hef) rfl rfl ?_|refine zq rfl (ah hi0 hef) rfl rfl ?_)|refine sK ?_|refine sC (fun _=>?_) (fun _=>?_)|fail)
  all_goals first|(refine ay ?_;first|(simp only [zC,BL,List.length_map] at *;simp only [*,BL,List.length_map];done)|(simp_all [zC];done)|(simp_all [zC];omega)|(simp_all [zC];intros;omega))|(refine ⟨k + 1,⟨by omega,?_⟩,tD,tS,tH⟩;first|(simp only [BL,List.length_map] at *;simp only [*,BL,List.length_map];done)|(simp_all [];done)|(simp_all [];omega)|(simp_all [];intros;omega))|(trace "LEND";trace_state)
 ·rw [drop_end zwy62] at hr
  repeat' (first|(refine shC ?_;first|refine qC (zhd g t hf) ?_|refine qC c1 ?_|refine qC (YE _ _) ?_)|refine sK ?_|refine sC (fun _=>?_) (fun _=>?_)|fail)
  all_goals first|(refine ay ?_;first|(simp only [zC,BL,List.length_map] at *;simp only [*,BL,List.length_map];done)|(simp_all [zC];done)|(simp_all [zC];omega)|(simp_all [zC];intros;omega))|(refine zbf rfl ?_;first|(simp only [zC,BL,List.length_map] at *;simp only [*,BL,List.length_map];done)|(simp_all [zC];done)|(simp_all [zC];omega)|(simp_all [zC];intros;omega))|skip
def Cnt (b r s:Nat):Prop:=min r (b + 1)=min s (b + 1)
theorem Cnt.zero (b:Nat):Cnt b 0 0:=rfl
theorem Cnt.add {b r s l:Nat} (h:Cnt b r s) (hr:r≤b):Cnt b (r + min l (b + 1)) (s + l):=by unfold Cnt at h ⊢;omega
theorem Cnt.stay {b r s l:Nat} (h:Cnt b r s) (hr:b < r):Cnt b r (s + l):=by unfold Cnt at h ⊢;omega
theorem Cnt.more {b r s:Nat} (h:Cnt b r s):b < r↔b < s:=by unfold Cnt at h;omega
def zbF (g:Img) (b:Nat) (t:Ty):Nat:=min (YR g t).length (b + 1)
theorem zew (g:Img) (f:Fd) (l:List Fd):(fcs g (f::l)).length=(YR g f.ty).length + (fcs g l).length:=by rw [zuA,List.length_append]
theorem zis (g:Img) (l m:List Fd):(fcs g (l++m)).length=(fcs g l).length + (fcs g m).length:=by rw [zoV,List.length_append]
def objT (g:Img) (t:Int):List Ty:=(up g t).reverse.flatMap fun u=>fcs g (Yi g u)
theorem zmX (g:Img):∀ l:List Int,(l.flatMap fun u=>fcs g (Yi g u)).length=(l.map fun u=>(fcs g (Yi g u)).length).sum
 | []=>rfl
 | x::l=>by rw [List.flatMap_cons,List.length_append,zmX g l];rfl
theorem zvm (l:List Nat):l.reverse.sum=l.sum:=by
 induction l with
 | nil=>rfl
 | cons x l ih=>rw [List.reverse_cons,List.sum_append,ih];simp;omega
theorem zt1 (g:Img) (t:Int):(objT g t).length=((up g t).map fun u=>(fcs g (Yi g u)).length).sum:=by
 rw [objT,zmX,List.map_reverse,zvm]
def Xv (g:Img) (t:Nat):Bool:=(yt g t==1&&decide (8 < (YR g ⟨6,t,0,false⟩).length))||(yt g t==0&&decide (32 < (objT g t).length))
def Wq (g:Img):Int × Int :=
 if !Qu g then (0,17) else match (List.range g.fields.length).find? (fun i=>!Yq g (g.fields.getD i default).ty) with
  | some i=>(((i:Nat):Int),10)
  | none=>match (List.range g.types.length).find? (Xv g) with
   | some t=>(((t:Nat):Int),20)
   | none=>(0,0)
def zgW (g:Img):Bool:=(Wq g).2==0
theorem zk6 {g:Img} {k:Nat} (hw:Qu g=true) (hk:k < g.fields.length) (hno:∀ j,j < k→Yq g (g.fields.getD j default).ty=true) (h:Yq g (g.fields.getD k default).ty=false):Wq g=(((k:Nat):Int),10):=by
 have:(List.range g.fields.length).find? (fun i=>!Yq g (g.fields.getD i default).ty)=some k:=by
  rw [List.find?_range_eq_some];exact ⟨by simpa using h,by simpa using hk,fun j hj=>by simp only [hno j hj,Bool.not_true,Bool.not_false]⟩
 rw [Wq,hw];simp only [Bool.not_true,Bool.false_eq_true,if_false];rw [this]
theorem zk9 {n:Nat} {p:Nat→Bool} (h:∀ j,j < n→p j=false):(List.range n).find? p=none:=by
 rw [List.find?_eq_none];intro j hj;simp [h j (List.mem_range.1 hj)]
theorem zkX {g:Img} {k:Nat} (hw:Qu g=true) (hu:Yz g=true) (hk:k < g.types.length) (hno:∀ j,j < k→Xv g j=false) (h:Xv g k=true):Wq g=(((k:Nat):Int),20):=by
 have h1:(List.range g.fields.length).find? (fun i=>!Yq g (g.fields.getD i default).ty)=none:=zk9 fun j hj=>by
  have:=List.all_eq_true.1 hu j zwy100;simp only [this];rfl
 have h2:(List.range g.types.length).find? (Xv g)=some k:=by
  rw [List.find?_range_eq_some];exact ⟨h,by simpa using hk,fun j hj=>by simp only [hno j hj,Bool.not_false]⟩
 rw [Wq,hw];simp only [Bool.not_true,Bool.false_eq_true,if_false];rw [h1];simp only;rw [h2]
theorem zjo {g:Img} (hw:Qu g=true) (hu:Yz g=true) (hno:∀ j,j < g.types.length→Xv g j=false):Wq g=(0,0):=by
 have h1:(List.range g.fields.length).find? (fun i=>!Yq g (g.fields.getD i default).ty)=none:=zk9 fun j hj=>by
  have:=List.all_eq_true.1 hu j zwy100;simp only [this];rfl
 rw [Wq,hw];simp only [Bool.not_true,Bool.false_eq_true,if_false];rw [h1];simp only;rw [zk9 hno]
structure Fine (g:Img):Prop where
 well:Qu g=true
 used:Yz g=true
 size:∀ j,j < g.types.length→Xv g j=false
theorem Xc {g:Img} (h:zgW g=true):Fine g:=by
 rw [zgW,Wq] at h;cases hw:Qu g
 ·simp [hw] at h
 ·rw [hw] at h;simp only [Bool.not_true,Bool.false_eq_true,if_false] at h;cases h1:(List.range g.fields.length).find? (fun i=>!Yq g (g.fields.getD i default).ty) with
  | some i=>rw [h1] at h;simp at h
  | none =>
   rw [h1] at h;cases h2:(List.range g.types.length).find? (Xv g) with
   | some t=>rw [h2] at h;simp at h
   | none =>
    refine ⟨hw,?_,fun j hj=>?_⟩
    ·rw [Yz,List.all_eq_true];intro i hi;have:=List.find?_eq_none.1 h1 i hi;simpa using this
    ·have:=List.find?_eq_none.1 h2 j zwy100;simpa using this
theorem Fine.formed {g:Img} (h:Fine g):yI g=true:=YV h.well
set_option maxHeartbeats 1000000 in
theorem zot (g:Img) (hx:∀ m∈g.methods,∀ x∈m.code,zfD x):ACall Tryz.prog 160 [zO g] (.tup [pi (VD g).1,pi (VD g).2]):=by
 refine zi zf Tryz.func160 rfl zws Tryz.ntmps160 zwy63 _ rfl (fun hw gB hgB=>?_);have c0:=zlE g hx;cases hf:yI g
 ·rw [hf] at c0
  repeat' (first|(refine shC ?_;first|refine qC c0 ?_)|refine sK ?_|refine sC (fun _=>?_) (fun _=>?_)|fail)
  exact retq rfl (by simp [zC,VD,hf])
 ·rw [hf] at c0;obtain ⟨b1,b2,b3,b4⟩:=yG hf;have hg:g.types.length≤1000:=by omega
  have hgf:g.fields.length≤1000:=by omega
  have hgm:g.methods.length≤1000:=by omega
  repeat' (first|(refine shC ?_;first|refine qC c0 ?_)|refine sK ?_|refine sC (fun _=>?_) (fun _=>?_)|fail)
  refine zW (fun k:Nat=>[(1,.pv (.ptr (zO g) 0)),(10,.pv (pi g.types.length)),(11,.pv (pi k))]) (fun _=>[]) (fun k=>k≤g.types.length∧∀ j,j < k→ZG g j=0) (fun k=>g.types.length - k) 0 ⟨by omega,fun j h=>by omega⟩ (tS) tH ?_;rintro k ⟨hk,hno⟩;by_cases hlt:k < g.types.length
  ·have he:=zY (f:=ZB) hlt;have htd:=zeg hlt;have hat:=zjQ hf hlt;have hfin:=fun h=>zoj hf hlt hno h
   have hnx:ZG g k=0→∀ j,j < k + 1→ZG g j=0:=fun h j hj=>by
    by_cases e:j=k
    ·subst e;exact h
    ·exact hno j zwy62
   clear hno;have d1:=zjS g.types[k];have d2:=zjO g k _ htd hg;have d3:=znZ g k _ htd hf;have d4:=zob g k _ htd hg hgf hgm;have d5:=zns g k _ htd hf;generalize YD g.types[k]=e1 at d1 hat;generalize zjJ g k g.types[k]=e2 at d2 hat;generalize zf6 g k g.types[k]=e3 at d3 hat;generalize zfU g k g.types[k]=e4 at d4 hat;generalize zfO g k=e5 at d5 hat;have fin:∀ c:Int,c≠0→ZG g k=c→PV.tup [pi (k:Int),pi c]=.tup [pi (VD g).1,pi (VD g).2]:=fun c hc h=>by rw [hfin (by rw [h];exact hc),h]
   repeat' (first|(refine shC ?_;first|refine qC d1 ?_|refine qC d2 ?_|refine qC d3 ?_|refine qC d4 ?_|refine qC d5 ?_)|(refine shX ?_;first|refine qX he ?_)|refine sK ?_|refine sC (fun _=>?_) (fun _=>?_)|fail)
   all_goals first
    | exact retq rfl (fin 7 zwy67 (by rw [hat];simp_all;done))
    | exact retq rfl (fin 18 zwy67 (by rw [hat];simp_all;done))
    | exact retq rfl (fin 20 zwy67 (by rw [hat];simp_all;done))
    | exact ⟨k + 1,⟨hlt,hnx (by rw [hat];simp_all;done)⟩,tD,tS,tH⟩
  ·repeat' (first|refine sK ?_|refine sC (fun _=>?_) (fun _=>?_)|fail)
   obtain rfl:k=g.types.length:=by omega
   exact retq rfl (by simp [zC,zuB hf hno])
set_option maxHeartbeats 20000000
def QN (x:Int × Int × Int):PV:=.agg [pi x.1,pi x.2.1,pi x.2.2]
abbrev HR (l:List (Int × Int × Int)):HEnv:=[(11,.mrow 67 3 (l.map QN))]
def wlt (a b:Int × Int × Int):Bool:=decide (a.1 < b.1)||a.1==b.1&&decide (a.2.1 < b.2.1)
theorem zdw (l:List (Int × Int × Int)) (us:Nat→Value):ACallM Tryz.prog 19 [.own 11] (HR l++qE us [11]) (.pv (pi l.length)) (HR l++qE us [11]):=by
 refine yB zf Tryz.func19 rfl zws Tryz.ntmps19 zwy63 _ rfl (fun gB hw1=>?_)
 repeat' (first|refine sM ?_|refine sK ?_|refine sC (fun _=>?_) (fun _=>?_)|fail)
 exact ⟨.inr rfl,.inl ⟨_,rfl,by simp [zC],⟨by repeat (first|exact zA|refine aB ?_),rfl⟩⟩⟩
theorem zow (l:List (Int × Int × Int)) (i j:Nat) (hi:i < l.length) (hj:j < l.length) (us:Nat→Value):ACallM Tryz.prog 297 [.own 11,.pv (pi i),.pv (pi j)] (HR l++qE us [11]) (.pv (pb (wlt l[i] l[j]))) (HR l++qE us [11]):=by
 have hpi:=zY (f:=QN) hi;have hpj:=zY (f:=QN) hj;have hli:i < (l.map QN).length:=by simpa using hi
 have hlj:j < (l.map QN).length:=by simpa using hj
 refine yB zf Tryz.func297 rfl zws Tryz.ntmps297 zwy63 _ rfl (fun gB hw1=>?_)
 repeat' (first|refine sM ?_|refine zy rfl (au (k:=i) (j:=0) hpi) rfl rfl ?_|refine zq rfl (au (k:=i) (j:=0) hpi) rfl rfl ?_|refine zy rfl (au (k:=j) (j:=0) hpj) rfl rfl ?_|refine zq rfl (au (k:=j) (j:=0) hpj) rfl rfl ?_|refine zy rfl (au (k:=i) (j:=1) hpi) rfl rfl ?_|refine zq rfl (au (k:=i) (j:=1) hpi) rfl rfl ?_|refine zy rfl (au (k:=j) (j:=1) hpj) rfl rfl ?_|refine zq rfl (au (k:=j) (j:=1) hpj) rfl rfl ?_|(refine shX ?_;first|refine zy rfl (ak (k:=i) hli) rfl rfl ?_|refine zq rfl (ak (k:=i) hli) rfl rfl ?_|refine zy rfl (ak (k:=j) hlj) rfl rfl ?_|refine zq rfl (ak (k:=j) hlj) rfl rfl ?_)|refine sK ?_|refine sC (fun _=>?_) (fun _=>?_)|fail)
 all_goals exact ⟨.inr rfl,.inl ⟨_,rfl,by simp [zC,wlt, *],⟨by repeat (first|exact zA|refine aB ?_),rfl⟩⟩⟩
def swH (l:List (Int × Int × Int)) (i j:Nat) (a b:Int × Int × Int) (us:Nat→Value):Nat→HEnv
 | 0=>HR l++qE us [11]
 | 1=>(11,.mrow 67 3 ((l.map QN).set i (QN b)))::(HR l++qE us [11])
 | _=>(11,.mrow 67 3 (((l.map QN).set i (QN b)).set j (QN a)))::(11,.mrow 67 3 ((l.map QN).set i (QN b)))::(HR l++qE us [11])
abbrev swT (us:Nat→Value):HEnv:=(11,.dead)::qE us [11]
theorem zt5 (l:List (Int × Int × Int)) (i j:Nat) (a b:Int × Int × Int) (us:Nat→Value):∀ p,p < 3→qg (swH l i j a b us p) (swT us)=true∧qg (swT us) (swH l i j a b us p)=true:=by
 intro p h;have hp:p=0∨p=1∨p=2:=by omega
 rcases hp with rfl|rfl|rfl <;> exact ⟨rfl,rfl⟩
theorem ztO (l:List (Int × Int × Int)) (i j:Nat) (a b:Int × Int × Int) (us:Nat→Value) {gB:Base}:∀ p,p≤2→∀ K ρ w,FS gB K ρ (swH l i j a b us p) w→FS gB K ρ (swT us) w:=by
 intro p h K ρ w hf;have hp:p=0∨p=1∨p=2:=by omega
 rcases hp with rfl|rfl|rfl <;> exact (hf.kill 11).narrow (e:=[]) tH
theorem zia (l:List (Int × Int × Int)) (i j:Nat) (hi:i < l.length) (hj:j < l.length) (us:Nat→Value):ACallM Tryz.prog 300 [.own 11,.pv (pi i),.pv (pi j)] (HR l++qE us [11]) (.pv (.tup [])) (HR ((l.set i l[j]).set j l[i])++qE us [11]):=by
 have hpi:=zY (f:=QN) hi;have hpj:=zY (f:=QN) hj;have hli:i < (l.map QN).length:=by simpa using hi
 have hlj:j < (l.map QN).length:=by simpa using hj
 have hlj2:j < ((l.map QN).set i (QN l[j])).length:=by simpa using hj
 have hp2:((l.map QN).set i (QN l[j]))[j]?=some (QN ((l.set i l[j])[j]'zwy100)):=by rw [←List.map_set];exact zY zwy100
 generalize (l.set i l[j])[j]'zwy100=c at hp2;have hfin:((l.map QN).set i (QN l[j])).set j (QN l[i])=((l.set i l[j]).set j l[i]).map QN:=by rw [List.map_set,List.map_set]
 generalize l[i]=a at hpi hfin ⊢;generalize l[j]=b at hpj hp2 hfin hlj2 ⊢;refine yB zf Tryz.func300 rfl zws Tryz.ntmps300 zwy63 _ rfl (fun gB hw1=>?_)
 repeat' (first|refine sM ?_|refine Zr 16 16 [13,15] [[12,13,16,17,18],[19]] (swH l i j a b us) (fun _=>swT us) (swT us) none rfl zws zws zws zws zws zws zws (fun p hp=>zt5 l i j a b us p zwy107) rfl (fun p hp=>ztO l i j a b us p hp) rfl (fun _ _ _ _=>rfl) (fun _ _=>rfl) tH rfl (fun v hv=>by cases hv) ?_|refine QF 0 2 [5,7] rfl rfl zws ?_|refine QF 0 3 [0,2] rfl rfl zws ?_|refine QF 1 1 [0] rfl rfl zws ?_|refine Qp 6 [7,9] rfl rfl ?_|refine Qp 2 [3,5] rfl rfl ?_|refine Zt [1] (.pv (.tup [])) rfl rfl rfl ?_|refine Zt [] (.pv (.tup [])) rfl rfl rfl ?_|refine ZV ?_|refine ⟨⟨rfl,qB (k:=i) (j:=0) zf rfl rfl rfl rfl hpi rfl rfl rfl rfl,.inl rfl⟩,?_⟩|refine ⟨⟨rfl,qB (k:=j) (j:=0) zf rfl rfl rfl rfl hp2 rfl rfl rfl rfl,.inl rfl⟩,?_⟩|intro _|refine QL ?_|refine zy rfl (au (k:=i) (j:=0) hpi) rfl rfl ?_|refine zq rfl (au (k:=i) (j:=0) hpi) rfl rfl ?_|refine zy rfl (au (k:=j) (j:=0) hpj) rfl rfl ?_|refine zq rfl (au (k:=j) (j:=0) hpj) rfl rfl ?_|(refine shX ?_;first|refine zy rfl (ak (k:=i) hli) rfl rfl ?_|refine zq rfl (ak (k:=i) hli) rfl rfl ?_|refine zy rfl (ak (k:=j) hlj) rfl rfl ?_|refine zq rfl (ak (k:=j) hlj) rfl rfl ?_|refine zy rfl (ak (k:=j) hlj2) rfl rfl ?_|refine zq rfl (ak (k:=j) hlj2) rfl rfl ?_)|refine sK ?_|refine sC (fun _=>?_) (fun _=>?_)|fail)
 exact ⟨.inl rfl,.inl ⟨[],rfl,rfl,⟨Zh rfl hfin (aB zA),rfl⟩⟩⟩
set_option maxHeartbeats 20000000
def OkA (g:Img):Prop:=∀ m∈g.methods,∀ x∈m.code,zfD x
theorem zpM (g:Img) (hx:OkA g):ACall Tryz.prog 134 [zO g] (pb (Qu g)):=by
 refine zi zf Tryz.func134 rfl zws Tryz.ntmps134 zwy63 _ rfl (fun hw gB hgB=>?_)
 repeat' (first|(refine shC ?_;first|refine qC (zot g hx) ?_)|refine sA ?_|refine sC (fun _=>?_) (fun _=>?_)|fail)
 exact retq rfl rfl
theorem zc4 (g:Img) (t:Int):yt g t = -1∨yt g t=0∨yt g t=1∨yt g t=2∨yt g t=3:=by
 unfold yt;cases typeAt g t with
 | none=>exact .inl rfl
 | some td =>
  simp only;unfold VG;cases qJ td.flags 2 <;> cases qJ td.flags 1 <;> cases qJ td.flags 16 <;> simp
theorem zpr (g:Img) (t:Ty) (hf:yI g=true):ACall Tryz.prog 135 [zO g,yJ t] (pb (Yq g t)):=by
 refine zi zf Tryz.func135 rfl zws Tryz.ntmps135 zwy63 _ rfl (fun hw gB hgB=>?_);have hk:=zc4 g t.index;have c1:=ZI g hf t.index;have hu:Yq g t=(ZY t&&(if t.kind==5 then yt g t.index==0||yt g t.index==2||yt g t.index==3 else t.kind != 6||yt g t.index==1)):=rfl;rw [hu];generalize yt g t.index=k at c1 hk hu;clear hu
 repeat' (first|(refine shC ?_;first|refine qC (za6 t) ?_|refine qC c1 ?_)|refine sA ?_|refine sC (fun _=>?_) (fun _=>?_)|fail)
 all_goals (refine ay ?_;rcases hk with rfl|rfl|rfl|rfl|rfl <;> simp_all [zC])
theorem ztw {α:Type} (d:α) (fs:List α):(nums fs.length).map (fun i=>fs.getD i.toNat d)=fs:=by
 rw [nums,List.map_map];apply List.ext_getElem
 ·simp
 ·intro i h1 h2;simp only [List.getElem_map,List.getElem_range,Function.comp];rw [Int.toNat_natCast,zT h2]
theorem zwO {g:Img} (hf:yI g=true) (t:Int):((fieldsOf g t).filter fun i=>!(g.fields.getD i.toNat default).static).map (fun i=>g.fields.getD i.toNat default)=Yi g t:=by
 have h1:Yi g t=((nums g.fields.length).filter ((fun f:Fd=>f.owner==t&&!f.static) ∘ fun i=>g.fields.getD i.toNat default)).map (fun i=>g.fields.getD i.toNat default):=by
  rw [Yi,←List.filter_map,ztw]
 rw [h1,fieldsOf,List.filter_filter];congr 1;apply List.filter_congr;intro i hi;obtain ⟨i0,i1⟩:=zi9.1 hi;have hlt:i.toNat < g.fields.length:=by omega
 obtain ⟨o0,o1,_⟩:=zfY hf (List.getElem_mem hlt);simp only [Function.comp,zT hlt];by_cases ho:g.fields[i.toNat].owner=t
 ·have:=Vl (g:=g) (t:=t) zwy62;rw [this,Bool.true_and,Bool.and_comm]
 ·have:(g.fields[i.toNat].owner==t)=false:=by simp [ho]
  rw [this];simp
theorem zof (g:Img) (t:Int):(Yi g t).length≤g.fields.length:=List.length_filter_le _ _
theorem zmf (g:Img) (t:Int) (hf:yI g=true):ACall Tryz.prog 163 [zO g,pi t] (.slc 7 ((Yi g t).map Yo) false):=by
 refine zi zf Tryz.func163 rfl zws Tryz.ntmps163 zwy63 _ rfl (fun hw gB hgB=>?_);have hg:g.fields.length≤1000:=by have:=(yG hf).2.1;omega
 have hfl:=VO g t
 repeat' (first|(refine shC ?_;first|refine qC (XT g t hg) ?_)|refine sA ?_|refine sC (fun _=>?_) (fun _=>?_)|fail)
 refine YF (t:=5) 0 128 7 zwy67 rfl rfl ?_;refine zW (fun x:Nat × List Fd=>[(2,.pv (.ptr (zO g) 0)),(5,.own 0),(10,.pv (ints (fieldsOf g t))),(11,.pv (pi (fieldsOf g t).length)),(12,.pv (pi x.1))]) (fun x=>[(0,.row 128 7 (x.2.map Yo))])
  (fun x=>x.1≤(fieldsOf g t).length∧x.2.length≤x.1∧x.2++(((fieldsOf g t).drop x.1).filter fun i=>!(g.fields.getD i.toNat default).static).map (fun i=>g.fields.getD i.toNat default)=Yi g t) (fun x=>(fieldsOf g t).length - x.1) (0,[]) ⟨by simp,by simp,zwO hf t⟩ (tS) ⟨aB zA,rfl⟩ ?_
 rintro ⟨k,out⟩ ⟨hk,hol,hr⟩;simp only at hk hol hr;by_cases hlt:k < (fieldsOf g t).length
 ·have he:=Qv hlt;obtain ⟨h0,hi⟩:=Ql (List.getElem_mem hlt);have hef:=Yy (f:=Yo) hi;rw [drop_cons hlt,List.filter_cons,zT hi] at hr;generalize hfd:g.fields[(fieldsOf g t)[k].toNat]=f at hr hef
  repeat' (first|(refine shX ?_;first|refine qX he ?_|refine zy rfl (ah h0 hef) rfl rfl ?_|refine zq rfl (ah h0 hef) rfl rfl ?_)|(refine yC ?_;first|refine qI zf rfl rfl rfl rfl rfl rfl rfl (by show _ * 64≤_;simp;omega) zwy64 rfl rfl ?_)|refine sK ?_|refine sC (fun _=>?_) (fun _=>?_)|fail)
  ·rename_i hx;rw [if_pos hx,List.map_cons,zT hi,hfd] at hr;exact ⟨(k + 1,out++[f]),⟨by simp;omega,by simp;omega,by simpa using hr⟩,tD,tS,⟨Yk rfl zwy63 zA,rfl⟩⟩
  ·rename_i hx;rw [if_neg (by simp [hx])] at hr;exact ⟨(k + 1,out),⟨by simp;omega,by simp;omega,hr⟩,tD,tS,⟨Yk rfl rfl zA,rfl⟩⟩
 ·rw [drop_end zwy62] at hr
  repeat' (first|refine sK ?_|refine sC (fun _=>?_) (fun _=>?_)|fail)
  exact retq rfl (by rw [←hr];simp [zC])
set_option maxHeartbeats 20000000
theorem zrF {g:Img} {n:Nat} {t:Ty} (hd:Dp g (n + 1) t) (hw:whole t=false):∀ f∈Yi g t.index,Dp g n f.ty:=by
 rcases hd with h|h
 ·rw [h] at hw;cases hw
 ·exact h
theorem ziL {g:Img} (h:Qu g=true) (hu:Yz g=true) {t:Ty} (hk:t.kind=1):YR g t=[]:=by rw [zgv h hu];simp [hk]
theorem zgC {g:Img} (h:Qu g=true) (hu:Yz g=true) {t:Ty} (hk:t.kind≠1) (hw:whole t=true):YR g t=[t]:=by rw [zgv h hu];simp [hk,hw]
theorem zir {t:Ty} (hw:whole t=false):t.kind=6∧t.ref=false∧¬ 0 < t.dims:=by
 simp only [whole,Bool.or_eq_false_iff,bne_eq_false_iff_eq,decide_eq_false_iff_not] at hw;exact ⟨hw.1.1,hw.1.2,hw.2⟩
theorem zpO {g:Img} (h:Qu g=true) (hu:Yz g=true) {t:Ty} (hw:whole t=false):YR g t=if (fcs g (Yi g t.index)).length=0 then [intTy] else fcs g (Yi g t.index):=by
 rw [zgv h hu,hw];simp [(zir hw).1]
theorem zh4 {g:Img} (h:Qu g=true) (hu:Yz g=true) {t:Ty} (hw:whole t=false):(YR g t).length=max (fcs g (Yi g t.index)).length 1:=by
 rw [zpO h hu hw];split
 ·rename_i h0;rw [h0];rfl
 ·omega
theorem zjZ {g:Img} {l:List Fd} {k:Nat} (h:k < l.length):(fcs g (l.take (k + 1))).length=(fcs g (l.take k)).length + (YR g l[k].ty).length:=by
 rw [List.take_succ_eq_append_getElem h,zis,zew];simp [fcs]
theorem zwk8 {G:Prop} (h:G:=by repeat' (first|(refine shC ?_;first|(have:=b0;refine qC c1 ?_))|(refine shX ?_;first|(have:=b1;refine qX he ?_))|(have:=b2;refine zy rfl (zxA rfl rfl rfl) rfl rfl ?_)|(have:=b2;refine zy rfl (zxj rfl rfl rfl) rfl rfl ?_)|refine sK ?_|refine sC (fun _=>?_) (fun _=>?_)|(have:=b0;exact ⟨(k + 1,r + c),⟨hlt,by simp only;omega,hcn⟩,tD,by repeat (first|exact qh|refine yU rfl ?_|(refine ZF rfl ?_ ?_;· (first|(rw [wrap_in zwy62 zwy62] <;> omega)|(dsimp only;rw [wrap_in zwy62 zwy62] <;> (push_cast;omega))))),tH⟩)|(have:=b2;exact retq rfl (by rw [e];simp only [zC,hwb] <;> (congr 3 <;> omega)))|exact ⟨(k + 1,r),⟨hlt,hr,hcn⟩,tD,tS,tH⟩|fail)):G:=h
theorem ziA (g:Img) (hwl:Qu g=true) (hu:Yz g=true) (b:Nat) (hb:b≤100) (hb1:1≤b):∀ (n:Nat) (t:Ty),Dp g n t→ACall Tryz.prog 162 [zO g,yJ t,pi b] (pi (zbF g b t:Nat)):=by
 have hf:=YV hwl;intro n;induction n with
 | zero =>
  intro t hd;have hwh:whole t=true:=hd;refine zi zf Tryz.func162 rfl zws Tryz.ntmps162 zwy63 _ rfl (fun hw gB hgB=>?_);have hw':(t.kind != 6||t.ref||decide (0 < t.dims))=true:=hwh;by_cases hk:t.kind=1
  ·have e:zbF g b t=0:=by rw [zbF,ziL hwl hu hk];rfl
   have hkb:(t.kind==1)=true:=by simp [hk]
   repeat' (first|refine sK ?_|refine sC (fun _=>?_) (fun _=>?_)|fail)
   all_goals exact retq rfl (by rw [e];rfl)
  ·have e:zbF g b t=1:=by rw [zbF,zgC hwl hu hk hwh];simp <;> omega
   have hkb:(t.kind==1)=false:=by simp [hk]
   repeat' (first|refine sA ?_|refine sC (fun _=>?_) (fun _=>?_)|fail)
   all_goals first
    | (refine ay ?_;rw [e];rfl)
    | (exfalso;simp_all;done)
 | succ n ih =>
  intro t hd;refine zi zf Tryz.func162 rfl zws Tryz.ntmps162 zwy63 _ rfl (fun hw gB hgB=>?_);cases hwh:whole t
  ·obtain ⟨k1,k2,k3⟩:=zir hwh;have hn:=zrF hd hwh;have hol:=zof g t.index;have hgl:g.fields.length≤64:=by have:=(yG hf).2.1;omega
   have hkb1:(t.kind==1)=false:=by simp [k1]
   have hkb2:(t.kind != 6)=false:=by simp [k1]
   have hkb3:decide (0 < t.dims)=false:=by simp [k3]
   repeat' (first|(refine shC ?_;first|refine qC (zmf g t.index hf) ?_)|refine sK ?_|refine sC (fun _=>?_) (fun _=>?_)|fail)
   refine zW (fun x:Nat × Nat=>[(2,.pv (pi b)),(3,.pv (.ptr (zO g) 0)),(7,.pv (pi x.2)),(28,.pv (.slc 7 ((Yi g t.index).map Yo) false)),(29,.pv (pi (Yi g t.index).length)),(30,.pv (pi x.1))]) (fun _=>[])
    (fun x=>x.1≤(Yi g t.index).length∧x.2≤2 * b + 1∧Cnt b x.2 (fcs g ((Yi g t.index).take x.1)).length) (fun x=>(Yi g t.index).length - x.1) (0,0) ⟨by simp,by simp,rfl⟩ (tS) tH ?_
   rintro ⟨k,r⟩ ⟨hk,hr,hc⟩;simp only at hk hr hc;by_cases hlt:k < (Yi g t.index).length
   ·have he:=zY (f:=Yo) hlt;have c1:=ih (Yi g t.index)[k].ty (hn _ (List.getElem_mem hlt));have hs:=zjZ (g:=g) hlt;have hcl:zbF g b (Yi g t.index)[k].ty≤b + 1:=Nat.min_le_right _ _;have hce:zbF g b (Yi g t.index)[k].ty=min (YR g (Yi g t.index)[k].ty).length (b + 1):=rfl;generalize zbF g b (Yi g t.index)[k].ty=c at c1 hcl hce;by_cases hrb:r≤b
    ·have hcn:=hc.add (l:=(YR g (Yi g t.index)[k].ty).length) hrb;rw [←hs,←hce] at hcn;have b0:=();have b1:=();exact zwk8
    ·have hcn:=hc.stay (l:=(YR g (Yi g t.index)[k].ty).length) zwy62;rw [←hs] at hcn;have b1:=();exact zwk8
   ·have e:zbF g b t=min (max r 1) (b + 1):=by
     rw [zbF,zh4 hwl hu hwh];rw [List.take_of_length_le zwy62] at hc;unfold Cnt at hc;omega
    have hwb:IntKind.i64.wrap ((b:Int) + 1)=((b + 1:Nat):Int):=by rw [wrap_in zwy62 zwy62];omega
    have b2:=();exact zwk8
  ·have hw':(t.kind != 6||t.ref||decide (0 < t.dims))=true:=hwh;by_cases hk:t.kind=1
   ·have e:zbF g b t=0:=by rw [zbF,ziL hwl hu hk];rfl
    have hkb:(t.kind==1)=true:=by simp [hk]
    repeat' (first|refine sK ?_|refine sC (fun _=>?_) (fun _=>?_)|fail)
    all_goals exact retq rfl (by rw [e];rfl)
   ·have e:zbF g b t=1:=by rw [zbF,zgC hwl hu hk hwh];simp <;> omega
    have hkb:(t.kind==1)=false:=by simp [hk]
    repeat' (first|refine sA ?_|refine sC (fun _=>?_) (fun _=>?_)|fail)
    all_goals first
     | (refine ay ?_;rw [e];rfl)
     | (exfalso;simp_all;done)
theorem zrT (g:Img) (hwl:Qu g=true) (hu:Yz g=true) (b:Nat) (hb:b≤100) (hb1:1≤b) (t:Ty):ACall Tryz.prog 136 [zO g,yJ t,pi b] (pb (decide (b < (YR g t).length))):=by
 refine zi zf Tryz.func136 rfl zws Tryz.ntmps136 zwy63 _ rfl (fun hw gB hgB=>?_);have c1:=ziA g hwl hu b hb hb1 _ t (zoS hwl hu t);have e:decide ((b:Int) < (zbF g b t:Nat))=decide (b < (YR g t).length):=by
  rw [decide_eq_decide];unfold zbF;omega
 repeat' (first|(refine shC ?_;first|refine qC c1 ?_)|refine sA ?_|refine sC (fun _=>?_) (fun _=>?_)|fail)
 exact retq rfl (by simp only [zC,e])
end Go.Cg




namespace Go.Cg
open Go.Proofs
theorem zsE (l:List Int):(VI l 0).map (·.2)=l.reverse:=by
 apply List.ext_getElem
 ·simp [VI]
 ·intro i h1 h2;have hi:i < l.length:=by simpa [VI] using h1
  simp only [VI,List.getElem_map,List.getElem_range,List.getElem_reverse];rw [List.getD_eq_getElem?_getD,List.getElem?_eq_getElem zwy62,Option.getD_some]
set_option maxHeartbeats 20000000
theorem zwk9 {G:Prop} (h:G:=by repeat' (first|(refine shC ?_;first|(have:=b0;refine qC c1 ?_))|(refine shX ?_;first|(have:=b1;refine qX he ?_))|refine sK ?_|refine sC (fun _=>?_) (fun _=>?_)|(have:=b0;exact ⟨(m + 1,s + c),⟨hltm,by simp only;omega,hfs⟩,tD,by repeat (first|exact qh|refine yU rfl ?_|(refine ZF rfl ?_ ?_;· (first|(rw [wrap_in zwy62 zwy62] <;> omega)|(dsimp only;rw [wrap_in zwy62 zwy62] <;> (push_cast;omega))))),tH⟩)|(have:=b2;exact ⟨(k + 1,s),⟨hlt,hs,by rw [hfs];exact hfd⟩,tD,tS,tH⟩)|(have:=b3;exact retq rfl (by rw [←hfd];rfl))|exact ⟨(m + 1,s),⟨hltm,hs,hfs⟩,tD,tS,tH⟩|fail)):G:=h
theorem zoN (g:Img) (hwl:Qu g=true) (hu:Yz g=true) (t:Int):∃ r:Nat,Cnt 32 r (objT g t).length∧ACall Tryz.prog 137 [zO g,pi t] (pi (r:Nat)):=by
 have hf:=YV hwl;have hgl:g.fields.length≤64:=by have:=(yG hf).2.1;omega
 have hgt:g.types.length≤32:=(yG hf).1;have hui:=zcr g t;have hul:=Yl _ _ hui.1 hui.2;let add:Nat→Fd→Nat:=fun r f=>if r≤32 then r + zbF g 32 f.ty else r
 let addU:Nat→Int→Nat:=fun r u=>(Yi g u).foldl add r
 have hadd:∀ (l:List Fd) (r s:Nat),r≤65→Cnt 32 r s→l.foldl add r≤65∧Cnt 32 (l.foldl add r) (s + (fcs g l).length):=by
  intro l;induction l with
  | nil=>intro r s h1 h2;exact ⟨h1,by simpa [fcs] using h2⟩
  | cons f l ih =>
   intro r s h1 h2;rw [List.foldl_cons,zew,←Nat.add_assoc];have hcl:zbF g 32 f.ty≤33:=Nat.min_le_right _ _;refine ih _ _ ?_ ?_
   ·simp only [add];split <;> omega
   ·simp only [add];split
    ·rename_i h;exact h2.add h
    ·rename_i h;exact h2.stay zwy62
 have haddU:∀ (us:List Int) (r s:Nat),r≤65→Cnt 32 r s→us.foldl addU r≤65∧Cnt 32 (us.foldl addU r) (s + (us.map fun u=>(fcs g (Yi g u)).length).sum):=by
  intro us;induction us with
  | nil=>intro r s h1 h2;exact ⟨h1,by simpa using h2⟩
  | cons u us ih =>
   intro r s h1 h2;obtain ⟨k1,k2⟩:=hadd (Yi g u) r s h1 h2;rw [List.foldl_cons,List.map_cons,List.sum_cons,←Nat.add_assoc];exact ih _ _ k1 k2
 obtain ⟨hb,hc⟩:=haddU (up g t) 0 0 zwy62 (Cnt.zero _);rw [Nat.zero_add,←zt1] at hc;refine ⟨(up g t).foldl addU 0,hc,?_⟩;clear hc;refine zi zf Tryz.func137 rfl zws Tryz.ntmps137 zwy63 _ rfl (fun hw gB hgB=>?_)
 repeat' (first|(refine shC ?_;first|refine zy rfl (zJ rfl rfl (Yw g t zwy62)) rfl rfl ?_|refine zq rfl (zJ rfl rfl (Yw g t zwy62)) rfl rfl ?_)|refine sA ?_|refine sC (fun _=>?_) (fun _=>?_)|fail)
 refine zW (fun x:Nat × Nat=>[(2,.pv (.ptr (zO g) 0)),(5,.pv (pi x.2)),(12,.pv (ints (up g t))),(13,.pv (pi (up g t).length)),(14,.pv (pi x.1))]) (fun _=>[])
  (fun x=>x.1≤(up g t).length∧x.2≤65∧((up g t).drop x.1).foldl addU x.2=(up g t).foldl addU 0) (fun x=>(up g t).length - x.1) (0,0) ⟨by simp,by simp,rfl⟩ (tS) tH ?_
 rintro ⟨k,r⟩ ⟨hk,hr,hfd⟩;simp only at hk hr hfd;by_cases hlt:k < (up g t).length
 ·have heU:=Qv hlt;rw [zen hlt] at hfd;have hol:=zof g (up g t)[k]
  repeat' (first|(refine shC ?_;first|refine qC (zmf g _ hf) ?_)|(refine shX ?_;first|refine qX heU ?_)|refine sK ?_|refine sC (fun _=>?_) (fun _=>?_)|fail)
  refine zW (fun x:Nat × Nat=>[(2,.pv (.ptr (zO g) 0)),(5,.pv (pi x.2)),(12,.pv (ints (up g t))),(13,.pv (pi (up g t).length)),(14,.pv (pi k)),(20,.pv (.slc 7 ((Yi g (up g t)[k]).map Yo) false)),(21,.pv (pi (Yi g (up g t)[k]).length)),(22,.pv (pi x.1))]) (fun _=>[])
   (fun x=>x.1≤(Yi g (up g t)[k]).length∧x.2≤65∧((Yi g (up g t)[k]).drop x.1).foldl add x.2=addU r (up g t)[k]) (fun x=>(Yi g (up g t)[k]).length - x.1) (0,r) ⟨by simp,hr,rfl⟩ (tS) tH ?_
  rintro ⟨m,s⟩ ⟨hm,hs,hfs⟩;simp only at hm hs hfs;by_cases hltm:m < (Yi g (up g t)[k]).length
  ·have he:=zY (f:=Yo) hltm;rw [zen hltm] at hfs;have c1:=ziA g hwl hu 32 zwy62 zwy62 _ (Yi g (up g t)[k])[m].ty (zoS hwl hu _);have hcl:zbF g 32 (Yi g (up g t)[k])[m].ty≤33:=Nat.min_le_right _ _;simp only [add] at hfs;generalize zbF g 32 (Yi g (up g t)[k])[m].ty=c at c1 hcl hfs;by_cases hsb:s≤32
   ·rw [if_pos hsb] at hfs;have hd1:decide ((s:Int)≤32)=true:=by simp;omega
    have b0:=();have b1:=();exact zwk9
   ·rw [if_neg hsb] at hfs;have hd1:decide ((s:Int)≤32)=false:=by simp;omega
    have b1:=();exact zwk9
  ·rw [drop_end zwy62] at hfs;simp only [List.foldl_nil] at hfs;have b2:=();exact zwk9
 ·rw [drop_end zwy62] at hfd;simp only [List.foldl_nil] at hfd;have b3:=();exact zwk9
theorem zqb {g:Img} {k:Nat} (h:k < g.fields.length):g.fields.getD k default=g.fields[k]:=zT h
theorem zwk10 {G:Prop} (h:G:=by repeat' (first|(refine shC ?_;first|(have:=b0;refine qC c0 ?_)|(have:=b1;refine qC c1 ?_)|(have:=b2;refine qC c2 ?_))|(refine shX ?_;first|(have:=b3;refine qX he ?_))|refine sK ?_|refine sC (fun _=>?_) (fun _=>?_)|(have:=b0;exact retq rfl (by simp [zC,Wq,hwl]))|(have:=b3;exact retq rfl (by rw [hfin];rfl))|(have:=b4;exact ⟨k + 1,⟨hlt,hnx (by rw [hsb];rfl)⟩,tD,tS,tH⟩)|(have:=b5;exact retq rfl (by rw [hfin (by rw [hsb];rfl)];rfl))|(have:=b6;exact retq rfl (by rw [zjo hwl hu (fun j hj=>hno j (by omega))];rfl))|fail)):G:=h
theorem zm9 (g:Img) (hx:OkA g):ACall Tryz.prog 92 [zO g] (.tup [pi (Wq g).1,pi (Wq g).2]):=by
 refine zi zf Tryz.func92 rfl zws Tryz.ntmps92 zwy63 _ rfl (fun hw gB hgB=>?_);have c0:=zpM g hx;cases hwl:Qu g
 ·rw [hwl] at c0;have b0:=();exact zwk10
 ·rw [hwl] at c0;have hf:=YV hwl;have hgl:g.fields.length≤64:=by have:=(yG hf).2.1;omega
  have hgt:g.types.length≤32:=(yG hf).1
  repeat' (first|(refine shC ?_;first|refine qC c0 ?_)|refine sK ?_|refine sC (fun _=>?_) (fun _=>?_)|fail)
  refine zW (fun k:Nat=>[(1,.pv (.ptr (zO g) 0)),(11,.pv (.slc 7 (g.fields.map Yo) false)),(12,.pv (pi g.fields.length)),(13,.pv (pi k))]) (fun _=>[]) (fun k=>k≤g.fields.length∧∀ j,j < k→Yq g (g.fields.getD j default).ty=true) (fun k=>g.fields.length - k) 0 ⟨by omega,fun j h=>by omega⟩ (tS) tH ?_;rintro k ⟨hk,hno⟩;by_cases hlt:k < g.fields.length
  ·have he:=zY (f:=Yo) hlt;have c1:=zpr g g.fields[k].ty hf;cases hus:Yq g g.fields[k].ty
   ·have hfin:=zk6 hwl hlt hno (by rw [zqb hlt];exact hus);rw [hus] at c1;have b1:=();have b3:=();exact zwk10
   ·rw [hus] at c1
    repeat' (first|(refine shC ?_;first|refine qC c1 ?_)|(refine shX ?_;first|refine qX he ?_)|refine sK ?_|refine sC (fun _=>?_) (fun _=>?_)|fail)
    exact ⟨k + 1,⟨hlt,fun j hj=>by
     by_cases e:j=k
     ·subst e;rw [zqb hlt];exact hus
     ·exact hno j zwy62⟩,tD,tS,tH⟩
  ·have hu:Yz g=true:=List.all_eq_true.2 fun j hj=>hno j (by have:=List.mem_range.1 hj;omega)
   clear hno
   repeat' (first|refine sK ?_|refine sC (fun _=>?_) (fun _=>?_)|fail)
   refine zW (fun k:Nat=>[(1,.pv (.ptr (zO g) 0)),(27,.pv (pi g.types.length)),(28,.pv (pi k))]) (fun _=>[]) (fun k=>k≤g.types.length∧∀ j,j < k→Xv g j=false) (fun k=>g.types.length - k) 0 ⟨by omega,fun j h=>by omega⟩ (tS) tH ?_;clear hk hlt;rintro k ⟨hk,hno⟩;by_cases hlt:k < g.types.length
   ·have c1:=ZI g hf (k:Int);have hfin:=fun h=>zkX hwl hu hlt hno h
    have hnx:Xv g k=false→∀ j,j < k + 1→Xv g j=false:=fun h j hj=>by
     by_cases e:j=k
     ·subst e;exact h
     ·exact hno j zwy62
    have hsb:Xv g k=((yt g k==1&&decide (8 < (YR g ⟨6,k,0,false⟩).length))||(yt g k==0&&decide (32 < (objT g k).length))):=rfl;clear hno;by_cases hk1:yt g k=1
    ·have c2:=zrT g hwl hu 8 zwy62 zwy62 ⟨6,k,0,false⟩;rw [hk1] at hsb c1;cases hl:decide (8 < (YR g ⟨6,k,0,false⟩).length)
     ·rw [hl] at c2 hsb;have b1:=();have b2:=();have b4:=();exact zwk10
     ·rw [hl] at c2 hsb;have b1:=();have b2:=();have b5:=();exact zwk10
    ·have hb1:(yt g k==1)=false:=by simp [hk1]
     by_cases hk0:yt g k=0
     ·obtain ⟨r,hr,c2⟩:=zoN g hwl hu k;rw [hk0] at hsb c1;have hd:decide (32 < (r:Int))=decide (32 < (objT g k).length):=by rw [decide_eq_decide,←hr.more];omega
      cases hl:decide (32 < (objT g k).length)
      ·rw [hl] at hsb hd;have b1:=();have b2:=();have b4:=();exact zwk10
      ·rw [hl] at hsb hd;have b1:=();have b2:=();have b5:=();exact zwk10
     ·have hb0:(yt g k==0)=false:=by simp [hk0]
      rw [hb1,hb0] at hsb;have b1:=();have b4:=();exact zwk10
   ·have b6:=();exact zwk10
end Go.Cg





namespace Go.Cg
open Go.Proofs
set_option maxHeartbeats 20000000
theorem Xr (m:Me) (f:Int):ACall Tryz.prog 93 [yh m,pi f] (pb (qL m.flags f)):=by
 refine zi zf Tryz.func93 rfl zws Tryz.ntmps93 zwy63 _ rfl (fun hw gB hgB=>?_)
 repeat' (first|refine sA ?_|refine sC (fun _=>?_) (fun _=>?_)|fail)
 all_goals (first|refine ay ?_|refine zbf rfl ?_)
 all_goals (first|(simp_all [zC,qL];done)|(simp_all [zC,qL];omega))
def ziX (a b:Me):Bool:=a.name.toList==b.name.toList&&decide (a.ret=b.ret)&&(qL a.flags 1==qL b.flags 1)&&decide (a.params=b.params)
def zp0 (a b:Me):Bool:=a.name.toList==b.name.toList&&zdq a b
theorem zgE (a b:Me):ACall Tryz.prog 145 [yh a,yh b] (pb (ziX a b)):=by
 refine zi zf Tryz.func145 rfl zws Tryz.ntmps145 zwy63 _ rfl (fun hw gB hgB=>?_);have hty:=Vo a.ret b.ret
 repeat' (first|(refine shC ?_;first|refine qC (Xr _ _) ?_|refine qC (ze5 _ _) ?_)|refine sA ?_|refine sC (fun _=>?_) (fun _=>?_)|fail)
 all_goals refine ay ?_
 all_goals (simp only [zC,ziX,←hty];clear hty;simp_all)
theorem zrf:∀ a b:Fin 32,(qL (a.val:Int) 1==qL (b.val:Int) 1)=((a.val:Int).tmod 2==(b.val:Int).tmod 2):=by decide +kernel
theorem zsD:∀ a:Fin 32,qL (a.val:Int) 1=qJ a.val 1∧qL (a.val:Int) 2=qJ a.val 2∧qL (a.val:Int) 4=qJ a.val 4∧qL (a.val:Int) 8=qJ a.val 8∧qL (a.val:Int) 16=qJ a.val 16:=by decide +kernel
theorem zbn {f:Int} (h0:0≤f) (h1:f≤31):qL f 1=qJ f 1∧qL f 2=qJ f 2∧qL f 4=qJ f 4∧qL f 8=qJ f 8∧qL f 16=qJ f 16:=by
 have:=zsD ⟨f.toNat,by omega⟩;simpa only [Int.toNat_of_nonneg h0] using this
theorem zuy {x y:Me} (hx0:0≤x.flags) (hx1:x.flags≤31) (hy0:0≤y.flags) (hy1:y.flags≤31):ziX x y=zp0 x y:=by
 have:=zrf ⟨x.flags.toNat,by omega⟩ ⟨y.flags.toNat,by omega⟩;simp only [Int.toNat_of_nonneg hx0,Int.toNat_of_nonneg hy0] at this;rw [ziX,zp0,zdq,this];simp only [Bool.and_assoc]
def alk (g:Img) (a b:Int):Bool:=zp0 (mAt g a) (mAt g b)
def zgi (g:Img) (m:Int):Bool:=qJ (mAt g m).flags 2
def fresh (g:Img) (m:Int):Bool:=qJ (mAt g m).flags 8
def Xh (g:Img) (out:List Int) (m:Int):List Int :=
 if zgi g m then (if out.any (fun x=>alk g x m)&&!fresh g m then out.set (out.findIdx (fun x=>alk g x m)) m else out++[m]) else out
def Ya (g:Img) (out:List Int) (ms:List Int):List Int:=ms.foldl (Xh g) out
def zl2 (g:Img) (us:List Int):List Int:=us.foldl (fun out u=>Ya g out (methodsOf g u)) []
def tbl (g:Img) (t:Int):List Int:=zl2 g (up g t).reverse
theorem zs4 {g:Img} (hW:Wl g) {t:Int} {td:TD} (h:typeAt g t=some td):tbl g t=Ya g (tbl g td.ext) (methodsOf g t):=by
 rw [tbl,hW.up_cons h,List.reverse_cons,zl2,List.foldl_append];rfl
def mOk (g:Img) (x:Int):Prop:=0≤x∧x.toNat < g.methods.length
theorem zms {g:Img} {out:List Int} {m x:Int} (h:x∈Xh g out m):x∈out∨x=m:=by
 rw [Xh] at h;split at h
 ·split at h
  ·exact List.mem_or_eq_of_mem_set h
  ·simpa using h
 ·exact .inl h
theorem zmA (g:Img) (out:List Int) (m:Int):out.length≤(Xh g out m).length∧(Xh g out m).length≤out.length + 1:=by
 rw [Xh];split
 ·split <;> simp
 ·simp
theorem zcH {g:Img} {x:Int}:∀ {ms out:List Int},x∈Ya g out ms→x∈out∨x∈ms
 | [],out,h=>.inl h
 | m::ms,out,h=>by
  rcases zcH (ms:=ms) (out:=Xh g out m) h with h|h
  ·rcases zms h with h|rfl
   ·exact .inl h
   ·exact .inr zwy63
  ·exact .inr zwy88
theorem zaX (g:Img):∀ (ms out:List Int),out.length≤(Ya g out ms).length∧(Ya g out ms).length≤out.length + ms.length
 | [],out=>by simp [Ya]
 | m::ms,out=>by
  have h1:=zaX g ms (Xh g out m);have h2:=zmA g out m;have e:Ya g out (m::ms)=Ya g (Xh g out m) ms:=rfl;rw [e,List.length_cons];omega
theorem zt0 {g:Img} (us:List Int):(zl2 g us).length≤g.methods.length * us.length:=by
 rw [zl2];have key:∀ (us:List Int) (out:List Int),(us.foldl (fun out u=>Ya g out (methodsOf g u)) out).length≤out.length + g.methods.length * us.length:=by
  intro us;induction us with
  | nil=>intro out;simp
  | cons u us ih =>
   intro out;have h1:=ih (Ya g out (methodsOf g u));have h2:=(zaX g (methodsOf g u) out).2;have h3:=Xl g u;rw [List.foldl_cons,List.length_cons,Nat.mul_succ];omega
 have:=key us [];simpa using this
theorem zmm {g:Img} {x:Int}:∀ {us:List Int},x∈zl2 g us→mOk g x:=by
 have key:∀ (us:List Int) (out:List Int),(∀ x∈out,mOk g x)→∀ x∈us.foldl (fun out u=>Ya g out (methodsOf g u)) out,mOk g x:=by
  intro us;induction us with
  | nil=>intro out h;exact h
  | cons u us ih =>
   intro out h;refine ih _ fun x hx=>?_
   rcases zcH hx with hx|hx
   ·exact h x hx
   ·exact qO hx
 intro us h;exact key us [] zwy63 x h
theorem zqy {g:Img} {t x:Int} (h:x∈tbl g t):mOk g x:=zmm h
theorem WV {g:Img} {x:Int} (h:mOk g x):(g.methods.map yh)[x.toNat]?=some (yh (mAt g x)):=by
 rw [mAt,zT h.2];exact Yy h.2
theorem zlO (g:Img) (out ms:List Int) (k:Nat) (h:k < ms.length):Ya g out (ms.take (k + 1))=Xh g (Ya g out (ms.take k)) ms[k]:=by
 rw [List.take_succ_eq_append_getElem h,Ya,List.foldl_append];rfl
set_option maxHeartbeats 20000000
theorem zaj {g:Img} (hf:yI g=true) {a:Int} (h:mOk g a):0≤(mAt g a).flags∧(mAt g a).flags≤31:=zbg (zdB hf h.2)
theorem zqm {g:Img} (hf:yI g=true) {a b:Int} (ha:mOk g a) (hb:mOk g b):ziX (mAt g a) (mAt g b)=alk g a b:=by
 have h1:=zaj hf ha;have h2:=zaj hf hb;exact zuy h1.1 h1.2 h2.1 h2.2
theorem zpX (g:Img) (hf:yI g=true) (x m:Int) (hx:mOk g x) (hm:mOk g m):ACall Tryz.prog 192 ([]++[pi x]++[.ptr (zO g) 0,.ptr (pi m) 0]) (pb (alk g x m)):=by
 show ACall Tryz.prog 192 [pi x,.ptr (zO g) 0,.ptr (pi m) 0] (pb (alk g x m))
 refine zi zf Tryz.func192 rfl zws Tryz.ntmps192 zwy63 _ rfl (fun hw gB hgB=>?_);have e1:=WV hx;have e2:=WV hm;have c1:=zgE (mAt g x) (mAt g m);rw [zqm hf hx hm] at c1
 repeat' (first|(refine shC ?_;first|refine qC c1 ?_)|(refine shX ?_;first|refine zy rfl (ah hx.1 e1) rfl rfl ?_|refine zq rfl (ah hx.1 e1) rfl rfl ?_|refine zy rfl (ah hm.1 e2) rfl rfl ?_|refine zq rfl (ah hm.1 e2) rfl rfl ?_)|refine sA ?_|refine sC (fun _=>?_) (fun _=>?_)|fail)
 exact retq rfl rfl
abbrev slH (out:List Int):HEnv:=[(0,.cell (.agg [.own 7])),(7,.mrow 3 1 (out.map pi))]
theorem zo9 (g:Img) (hf:yI g=true) (out:List Int) (m:Int) (ho:∀ x∈out,mOk g x) (hm:mOk g m) (us:Nat→Value):ACallM Tryz.prog 165 [.box 0 0,.pv (zO g),.pv (pi m)] (slH out++qE us [0]) (.pv (pi (zdF out (fun x=>alk g x m)))) (slH out++qE us [0]):=by
 refine yB zf Tryz.func165 rfl zws Tryz.ntmps165 zwy63 _ rfl (fun gB hw1=>?_);have c1:=zaI out (fun x=>alk g x m) 192 [] [.ptr (zO g) 0,.ptr (pi m) 0] (fun x hx=>zpX g hf x m (ho x hx) hm)
 repeat' (first|(refine zn ?_;first|refine zuj rfl rfl rfl c1 rfl rfl ?_)|refine sA ?_|refine sC (fun _=>?_) (fun _=>?_)|fail)
 exact ⟨.inr rfl,.inl ⟨_,rfl,rfl,⟨by repeat (first|exact zA|refine aB ?_),rfl⟩⟩⟩
theorem zsa (out:List Int) (m:Int) (ho:out.length≤5000) (us:Nat→Value):ACallM Tryz.prog 166 [.box 0 0,.pv (pi m)] (slH out++qE us [0]) (.pv (.tup [])) (slH (out++[m])++qE us [0]):=by
 refine yB zf Tryz.func166 rfl zws Tryz.ntmps166 zwy63 _ rfl (fun gB hw1=>?_)
 repeat' (first|(refine yC ?_;first|refine XI zf rfl rfl rfl rfl rfl rfl rfl zwy81 zwy64 rfl rfl ?_)|refine sA ?_|refine sC (fun _=>?_) (fun _=>?_)|fail)
 exact ⟨.inl rfl,.inl ⟨[],rfl,rfl,⟨zx rfl (Zh rfl zwy63 zwy68),rfl⟩⟩⟩
theorem zoo {g:Img} {out:List Int} {m:Int} (hv:zgi g m=true):Xh g out m=if decide (0≤zdF out (fun x=>alk g x m))&&!fresh g m then out.set (zdF out (fun x=>alk g x m)).toNat m else out++[m]:=by
 rw [Xh,if_pos hv,zdF];cases out.any (fun x=>alk g x m) <;> cases fresh g m <;> simp
theorem zpG {l:List Int} {p:Int→Bool}:zdF l p = -1∨(0≤zdF l p∧(zdF l p).toNat < l.length):=by
 rw [zdF];split
 ·rename_i h;right;obtain ⟨x,hx,hp⟩:=List.any_eq_true.1 h;have:=List.findIdx_lt_length_of_exists (p:=p) ⟨x,hx,hp⟩;omega
 ·exact .inl rfl
def zqx (g:Img):List PV:=[.slc 4 (g.types.map ZB) false,.slc 7 (g.fields.map Yo) false,.slc 12 (g.methods.map yh) false,pi g.entry]
abbrev zeV (g:Img):AV:=.agg [.box 0 0,.pv (.slc 4 (g.types.map ZB) false),.pv (.slc 7 (g.fields.map Yo) false),.pv (.slc 12 (g.methods.map yh) false),.pv (pi g.entry)]
theorem zgm {P:Prop}:false=true→P:=fun h=>nomatch h
theorem zwk28 {G:Prop} (h:G:=by repeat' (first|(have:=d0;refine zy rfl (aj (ps:=zqx g)) rfl rfl ?_)|(refine shC ?_;first|(have:=d1;refine qC b2 ?_)|(have:=d0;refine qC b8 ?_))|(refine shX ?_;first|(have:=d1;refine qX hex ?_)|(have:=d1;refine zy rfl (ah hmx.1 hem) rfl rfl ?_)|(have:=d1;refine zq rfl (ah hmx.1 hem) rfl rfl ?_)|(have:=d2;refine zy rfl (zK (k:=a.toNat) zf rfl rfl rfl rfl rfl rfl rfl zwy62 hal) rfl rfl ?_)|(have:=d2;refine zq rfl (zK (k:=a.toNat) zf rfl rfl rfl rfl rfl rfl rfl zwy62 hal) rfl rfl ?_))|(have:=d3;refine zn ?_;first|refine yD (slH cur) (slH cur) [(2,.cell (zeV g)),(1,.cell (.pv (yh (mAt g x)))),(1000,.pin (.own 0) (us 0))] [(2,.box 2 0),(5,.pv (pi x)),(6,.box 1 0),(11,.pv (ints (methodsOf g u))),(12,.pv (pi (methodsOf g u).length)),(13,.pv (pi k))] [0] zgm rfl rfl rfl zwy68 tS rfl rfl rfl cF ?_|refine yD (slH cur) (slH (cur++[x])) [(2,.cell (zeV g)),(1000,.pin (.own 0) (us 0))] [(2,.box 2 0),(11,.pv (ints (methodsOf g u))),(12,.pv (pi (methodsOf g u).length)),(13,.pv (pi k))] [0] zgm rfl rfl rfl zwy68 tS rfl rfl rfl cP ?_)|(have:=d2;refine zn ?_;first|refine yD (slH cur) (slH cur) [(2,.cell (zeV g)),(1,.cell (.pv (yh (mAt g x)))),(1000,.pin (.own 0) (us 0))] [(2,.box 2 0),(5,.pv (pi x)),(6,.box 1 0),(11,.pv (ints (methodsOf g u))),(12,.pv (pi (methodsOf g u).length)),(13,.pv (pi k))] [0] zgm rfl rfl rfl zwy68 tS rfl rfl rfl cF ?_)|(have:=d2;refine Yd ?_;first|refine XP (k:=a.toNat) (j:=0) zf rfl rfl rfl rfl rfl hap rfl rfl rfl rfl rfl ?_)|refine sK ?_|refine sC (fun _=>?_) (fun _=>?_)|(have:=d4;exact ⟨k + 1,hlt,tD,tS,⟨zx rfl (Zh rfl (by rw [hs,Xh,hv];rfl) zwy68),rfl⟩⟩)|(have:=d3;exact ⟨k + 1,hlt,tD,tS,⟨zx rfl (Zh rfl (by rw [hs]) zwy68),rfl⟩⟩)|(have:=d2;exact ⟨k + 1,hlt,tD,tS,⟨zx rfl (Zh rfl (by rw [hs,List.map_set]) zwy68),rfl⟩⟩)|(have:=d5;exact ⟨.inl rfl,.inl ⟨[],rfl,rfl,⟨by repeat (first|exact zA|refine aB ?_),rfl⟩⟩⟩)|fail)):G:=h
theorem zpL (g:Img) (hF:Fine g) (out:List Int) (u:Int) (ho:∀ x∈out,mOk g x) (hol0:out.length≤2048) (us:Nat→Value) :
  ACallM Tryz.prog 141 [zeV g,.pv (pi u)] (slH out++qE us [0]) (.pv (.tup [])) (slH (Ya g out (methodsOf g u))++qE us [0]):=by
 have hgm:g.methods.length≤64:=(yG hF.formed).2.2.1;have c3:=YG g u zwy62;have hml:=Xl g u;refine yB zf Tryz.func141 rfl zws Tryz.ntmps141 zwy63 _ rfl (fun gB hw1=>?_)
 repeat' (first|refine zy rfl (aj (ps:=zqx g)) rfl rfl ?_|(refine shC ?_;first|refine qC c3 ?_)|(refine Qx ?_;first|refine WX 2 rfl rfl rfl rfl rfl rfl ?_)|refine sA ?_|refine sC (fun _=>?_) (fun _=>?_)|fail)
 refine zW (fun k:Nat=>[(2,.box 2 0),(11,.pv (ints (methodsOf g u))),(12,.pv (pi (methodsOf g u).length)),(13,.pv (pi k))])
  (fun k=>[(0,.cell (.agg [.own 7])),(7,.mrow 3 1 ((Ya g out ((methodsOf g u).take k)).map pi)),(2,.cell (zeV g)),(1000,.pin (.own 0) (us 0))])
  (fun k=>k≤(methodsOf g u).length) (fun k=>(methodsOf g u).length - k) 0 zwy62 (tS) ⟨zx rfl (Zh rfl rfl zwy68),rfl⟩ ?_
 rintro k hk;by_cases hlt:k < (methodsOf g u).length
 ·obtain ⟨x,hx⟩:∃ x,x=(methodsOf g u)[k]:=⟨_,rfl⟩
  have hex:((methodsOf g u).map pi)[k]?=some (pi x):=by rw [hx];exact zY (f:=pi) hlt
  have hmx:mOk g x:=by rw [hx];exact qO (List.getElem_mem hlt)
  have hem:=WV hmx;have hs:=zlO g out _ k hlt;rw [←hx] at hs;obtain ⟨cur,hcu⟩:∃ o,o=Ya g out ((methodsOf g u).take k):=⟨_,rfl⟩
  have hcl:cur.length≤2112:=by
   have:=(zaX g ((methodsOf g u).take k) out).2;have h2:((methodsOf g u).take k).length≤64:=by simp;omega
   rw [hcu];omega
  have hcm:∀ y∈cur,mOk g y:=by
   intro y hy;rw [hcu] at hy;rcases zcH hy with hy|hy
   ·exact ho y hy
   ·exact qO (List.mem_of_mem_take hy)
  rw [←hcu] at hs ⊢;have hfl:=zaj hF.formed hmx;have hfe:=zbn hfl.1 hfl.2;have b2:=Xr (mAt g x) 2;have b8:=Xr (mAt g x) 8;rw [hfe.2.1] at b2;rw [hfe.2.2.2.1] at b8;cases hv:zgi g x
  ·rw [show qJ (mAt g x).flags 2=false from hv] at b2;have d1:=();have d4:=();exact zwk28
  ·rw [show qJ (mAt g x).flags 2=true from hv] at b2;rw [zoo hv] at hs;have cF:=fun us=>zo9 g hF.formed cur x hcm hmx us
   have cP:=fun us=>zsa cur x zwy62 us
   have hr:=zpG (l:=cur) (p:=fun y=>alk g y x);obtain ⟨a,ha⟩:∃ a,a=zdF cur (fun y=>alk g y x):=⟨_,rfl⟩
   simp only [←ha] at cF;rw [←ha] at hs hr;rcases hr with rfl|⟨ha0,ha1⟩
   ·rw [if_neg zwy63] at hs;have d0:=();have d1:=();have d3:=();exact zwk28
   ·have hd:decide (0≤a)=true:=decide_eq_true ha0;rw [hd] at hs;cases hf:fresh g x
    ·rw [show qJ (mAt g x).flags 8=false from hf] at b8;rw [hf,if_pos zwy63] at hs;have hal:a.toNat < (cur.map pi).length:=by rw [List.length_map];exact ha1
     have hap:(cur.map pi)[a.toNat]?=some (pi cur[a.toNat]):=Yy ha1;have d0:=();have d1:=();have d2:=();exact zwk28
    ·rw [show qJ (mAt g x).flags 8=true from hf] at b8;rw [hf,if_neg zwy63] at hs;have d0:=();have d1:=();have d3:=();exact zwk28
 ·have hk2:k=(methodsOf g u).length:=by omega
  subst hk2;rw [List.take_length];have d5:=();exact zwk28
set_option maxHeartbeats 2000000 in
theorem ziy (g:Img) (hF:Fine g) (t:Int):ACall Tryz.prog 99 [zO g,pi t] (ints (tbl g t)):=by
 obtain ⟨hgt,_,hgm,_⟩:=yG hF.formed;have hui:=zcr g t;have hul:=Yl _ _ hui.1 hui.2;refine zaa zf Tryz.func99 rfl zws Tryz.ntmps99 zwy63 _ rfl (fun hw gB hgB hds=>?_);refine yZ ?_
 repeat' (first|refine sA ?_|refine sC (fun _=>?_) (fun _=>?_)|fail)
 refine yZ ?_
 repeat' (first|refine zy rfl (zax zf rfl ⟨_,rfl⟩ rfl rfl rfl rfl rfl rfl) rfl rfl ?_|(refine Qx ?_;first|refine WX 0 rfl rfl rfl rfl rfl rfl ?_)|refine sA ?_|refine sC (fun _=>?_) (fun _=>?_)|fail)
 refine zfb ?_;refine yZ ?_
 repeat' (first|refine zfA 0 7 0 3 1 zwy67 rfl rfl rfl rfl ?_|(refine shC ?_;first|refine zy rfl (zJ rfl rfl (Yw g t zwy62)) rfl rfl ?_|refine zq rfl (zJ rfl rfl (Yw g t zwy62)) rfl rfl ?_|refine qC (zjP _) ?_)|refine sA ?_|refine sC (fun _=>?_) (fun _=>?_)|fail)
 refine zc9 ?_;refine zq8 (fun x=>.int .i64 x.1) (fun x=>.int .i64 x.2) (zrG (up g t) zwy62) [(2,.pv (.ptr (zO g) 0)),(5,.box 1 0),(15,.pv (.fn (.func 164) [] [.ptr (ints (up g t)) 0]))]
  (fun pre=>[(0,.cell (.agg [.own 7])),(7,.mrow 3 1 ((zl2 g (pre.map (·.2))).map pi)),(1,.cell (zeV g))]) 100 hgB hds (fun _=>rfl) (fun _=>rfl) rfl (tS) rfl rfl rfl zwy67 ⟨by repeat (first|exact zA|refine aB ?_),rfl⟩ (fun _=>rfl) (fun _=>rfl) rfl ?_ ?_
 ·intro g2 us pre x hlen;rw [zf5] at hlen;obtain ⟨cur,hcu⟩:∃ c,c=zl2 g (pre.map (·.2)):=⟨_,rfl⟩
  have hcl:cur.length≤2048:=by
   have h1:=zt0 (g:=g) (pre.map (·.2));have h2:g.methods.length * (pre.map (·.2)).length≤64 * 32:=Nat.mul_le_mul hgm zwy80;rw [hcu];omega
  have hcm:∀ y∈cur,mOk g y:=fun y hy=>zmm (by rw [hcu] at hy;exact hy)
  have hs:zl2 g ((pre++[x]).map (·.2))=Ya g cur (methodsOf g x.2):=by rw [hcu,List.map_append,zl2,List.foldl_append];rfl
  rw [←hcu];have cT:=fun us'=>zpL g hF cur x.2 hcm hcl us'
  repeat' (first|(refine zn ?_;first|refine yD (slH cur) (slH (Ya g cur (methodsOf g x.2))) ((1,.cell (zeV g))::yQ us 100 [(2,.pv (.ptr (zO g) 0)),(5,.box 1 0),(15,.pv (.fn (.func 164) [] [.ptr (ints (up g t)) 0]))]) [] [0] zgm rfl rfl rfl zwy68 tS rfl rfl rfl cT ?_)|refine sA ?_|refine sC (fun _=>?_) (fun _=>?_)|fail)
  exact ⟨zx rfl (Zh rfl (by rw [hs]) zwy68),rfl⟩
 ·intro g3
  repeat' (first|refine WG 7 rfl ?_|refine sA ?_|refine sC (fun _=>?_) (fun _=>?_)|fail)
  exact ⟨rfl,retq rfl (by rw [zsE];rfl)⟩
set_option maxHeartbeats 20000000
theorem zo2 (g:Img) (hx:OkA g):ACall Tryz.prog 51 [zO g] (pb (zgW g)):=by
 refine zi zf Tryz.func51 rfl zws Tryz.ntmps51 zwy63 _ rfl (fun hw gB hgB=>?_)
 repeat' (first|(refine shC ?_;first|refine qC (zm9 g hx) ?_)|refine sA ?_|refine sC (fun _=>?_) (fun _=>?_)|fail)
 exact retq rfl rfl
def zb1 (g:Img) (m:Int):Int:=(mAt g m).owner
def Ve (g:Img) (m:Int):Int:=if zgi g m&&yt g (zb1 g m)==0 then idx (tbl g (zb1 g m)) m else -1
theorem zwG {g:Img} (hF:Fine g) {m:Int} (hm:mOk g m):ACall Tryz.prog 93 [yh (mAt g m),pi 2] (pb (zgi g m)):=by
 have h:=zaj hF.formed hm;have c:=Xr (mAt g m) 2
 rwa [(zbn h.1 h.2).2.1] at c
theorem zwk29 {G:Prop} (h:G:=by repeat' (first|(refine shC ?_;first|refine qC c1 ?_|(have:=b0;refine qC c2 ?_)|(have:=b1;refine qC c3 ?_)|(have:=b1;refine qC c4 ?_))|(refine shX ?_;first|refine zy rfl (ah hm.1 hem) rfl rfl ?_|refine zq rfl (ah hm.1 hem) rfl rfl ?_)|refine sK ?_|refine sC (fun _=>?_) (fun _=>?_)|(have:=b2;exact retq rfl (by simp [zC,Ve,hv]))|(have:=b0;exact retq rfl (by simp [zC,Ve,hv,zb1,hk]))|fail)):G:=h
theorem zo5 (g:Img) (hF:Fine g) (m:Int) (hm:mOk g m):ACall Tryz.prog 172 [zO g,pi m] (pi (Ve g m)):=by
 have hem:=WV hm;have c1:=zwG hF hm;have c2:=ZI g hF.formed (mAt g m).owner;have c3:=ziy g hF (mAt g m).owner;have c4:=zhQ (tbl g (mAt g m).owner) m;refine zi zf Tryz.func172 rfl zws Tryz.ntmps172 zwy63 _ rfl (fun hw gB hgB=>?_);cases hv:zgi g m
 ·rw [hv] at c1;have b2:=();exact zwk29
 ·rw [hv] at c1;by_cases hk:yt g (mAt g m).owner=0
  ·rw [hk] at c2;have b0:=();have b1:=();exact zwk29
  ·have hkb:(yt g (mAt g m).owner != 0)=true:=by simp [hk]
   have b0:=();exact zwk29
abbrev u64 (n:Int):PV:=.base (.int .u64 n)
def g0:Img:=⟨[],[],[],-1⟩
end Go.Cg














namespace Go.Cg
open Go.Proofs
theorem zhc (f:Int):0≤VG f:=by
 unfold VG;cases qJ f 2 <;> cases qJ f 1 <;> cases qJ f 16 <;> simp
def zjG (g:Img) (t:Ty):Bool:=(t.kind != 5&&t.kind != 6)||(t.kind==6&&yt g t.index==1)||(t.kind==5&&yt g t.index != 1)
theorem zvi {g:Img} {t:Ty} (hp:ZY t=true) (ho:zjT t g.types.length=true):zjG g t=Yq g t:=by
 have hk:=zc4 g t.index;have hn:(t.kind=5∨t.kind=6)→yt g t.index ≠ -1:=by
  intro h;have h0:0≤t.index:=by
   rw [ZY] at hp;split at hp
   ·cases hp
   ·rename_i hh;simp at hh;omega
  have h1:t.index < g.types.length:=by
   rw [zjT] at ho;rcases h with h|h <;> simpa [h] using ho
  obtain ⟨td,htd⟩:=VY ⟨h0,h1⟩;rw [yt,htd];have:=zhc td.flags;simp only;omega
 rw [zjG,Yq,hp];generalize yt g t.index=k at hk hn;by_cases h5:t.kind=5
 ·have:=hn (.inl h5);rcases hk with rfl|rfl|rfl|rfl|rfl <;> simp_all
 ·by_cases h6:t.kind=6
  ·have:=hn (.inr h6);rcases hk with rfl|rfl|rfl|rfl|rfl <;> simp_all
  ·have e5:(t.kind==5)=false:=beq_eq_false_iff_ne.2 h5;have e6:(t.kind==6)=false:=beq_eq_false_iff_ne.2 h6;simp only [bne,e5,e6];rfl
theorem zdC {t:Ty} {p n:Int} (h:Vg t p n=true):ZY t=true∧zjT t n=true:=by
 rw [Vg,Bool.and_eq_true] at h;refine ⟨?_,h.2⟩;have:=h.1;rw [Yc] at this;cases hp:ZY t
 ·rw [hp] at this;simp at this
 ·rfl
def ztL (m:Me):List Ty:=(m.code.filter fun x=>yL x.op==8).map (·.t)
def zoz (m:Me):List Ty:=(m.clauses.filter fun c=>c.kind==1).map (·.t)
def zcT (m:Me):List Ty:=m.params++m.locals++[m.ret]++ztL m++zoz m
def zje (g:Img) (m:Me):Bool:=Yq g m.ret&&m.params.all (Yq g)&&m.locals.all (Yq g)&&m.code.all (fun x=>yL x.op != 8||Yq g x.t)&&m.clauses.all (fun c=>c.kind != 1||Yq g c.t)
theorem zmV {α:Type} {l:List α} {p:α→Bool} {f:α→Ty} {q:Ty→Bool}:((l.filter p).map f).all q=l.all fun x=>!p x||q (f x):=by
 induction l with
 | nil=>rfl
 | cons x l ih =>
  rw [List.filter_cons];cases h:p x <;> simp [h,ih]
theorem ztl {g:Img} {m:Me} (h:ZT g m=true):(zcT m).all (zjG g)=zje g m:=by
 simp only [ZT,zac,Bool.and_eq_true,List.all_eq_true,Wv,codeOk] at h;obtain ⟨⟨⟨⟨_,hr⟩,hp⟩,hl⟩,⟨⟨_,hc⟩,hk⟩,_⟩:=h;have e:(zcT m).all (zjG g)=(zcT m).all (Yq g):=by
  rw [Bool.eq_iff_iff,List.all_eq_true,List.all_eq_true];have:∀ t∈zcT m,zjG g t=Yq g t:=by
   intro t ht;have key:ZY t=true∧zjT t g.types.length=true:=by
    simp only [zcT,ztL,zoz,List.mem_append,List.mem_singleton,List.mem_map,List.mem_filter] at ht;rcases ht with (((ht|ht)|rfl)|⟨x,⟨hx,ho⟩,rfl⟩)|⟨c,⟨hx,ho⟩,rfl⟩
    ·exact zdC (hp t ht)
    ·exact zdC (hl t ht)
    ·exact zdC hr
    ·have h1:=hc x hx;rw [beq_iff_eq] at ho;obtain ⟨hf,h2⟩:=h1;rw [ho] at h2;refine ⟨?_,by simpa using h2⟩;rw [beq_iff_eq,WQ] at hf;cases hpx:ZY x.t
     ·have hw:Yc x.t 1=false:=by rw [Yc,hpx];rfl
      split at hf
      ·omega
      ·split at hf
       ·omega
       ·split at hf
        ·omega
        ·rw [if_pos ⟨ho,hw⟩] at hf;omega
     ·rfl
    ·have h1:=hk c hx;rw [beq_iff_eq] at ho;rw [ho] at h1;simp at h1;exact zdC h1
   exact zvi key.1 key.2
  constructor
  ·intro h t ht;rw [←this t ht];exact h t ht
  ·intro h t ht;rw [this t ht];exact h t ht
 rw [e,zcT,List.all_append,List.all_append,List.all_append,List.all_append,ztL,zoz,zmV,zmV,zje];have e1:(m.code.all fun x=>!(yL x.op==8)||Yq g x.t)=m.code.all fun x=>yL x.op != 8||Yq g x.t:=rfl
 have e2:(m.clauses.all fun c=>!(c.kind==1)||Yq g c.t)=m.clauses.all fun c=>c.kind != 1||Yq g c.t:=rfl
 rw [e1,e2];simp only [List.all_cons,List.all_nil,Bool.and_true];cases Yq g m.ret <;> simp [Bool.and_assoc]
end Go.Cg
