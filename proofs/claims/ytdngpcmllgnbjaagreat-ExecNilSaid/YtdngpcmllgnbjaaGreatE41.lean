/- A part of the walks by abstract values: no statement of its own. -/
import Derived.Test.YtdngpcmllgnbjaaGreatE37
import Derived.Test.YtdngpcmllgnbjaaGreatE38
import Derived.Test.YtdngpcmllgnbjaaGreatE8
set_option linter.unusedVariables false
set_option linter.unusedSimpArgs false
namespace Go.Cg
open Go.Proofs
theorem zqx {g:Img} {m:Me} (h:MeOk g m) {x:Ins} (hx:x∈m.code):1≤x.op∧x.op≤75:=by
 have:=h.formed
 simp only [ZU,za5,Bool.and_eq_true,List.all_eq_true,codeOk] at this
 have:=(this.2.1.1.2 x hx).1
 exact zqN (by simpa using this)
def isT (x:Ins):Bool:=yj x.op==8
def isC (c:Cl):Bool:=c.kind==1
def ziW (m:Me):List Ty:=m.params++m.locals++[m.ret]
theorem zqF (m:Me):zbM m=ziW m++(m.code.filter isT).map (·.t)++(m.clauses.filter isC).map (·.t):=rfl
set_option maxHeartbeats 4000000 in
theorem zl0 (g:Img) (hf:zV g=true) (m:Me) (h:MeOk g m):ACall Tryz.prog 130 [zx g,zG m] (pb (zhY g m)):=by
 obtain ⟨s1,s2,s3,s4,s5,s6⟩:=h.small
 have hc3:=zkM m.params m.locals [m.ret] (by omega) (by omega) (by simp)
 have ht:PTells (.slc 4 [yK m.ret] true) (tys [m.ret]):=zkW (zbF (zQ (.refl _) (zQ (.refl _) (zQ (.refl _) (zQ (.refl _) Xz)))) zgx)
 have hh:(ziW m).length≤19:=by simp [ziW];omega
 have cu:=Yg (zbM m) (fun t=>!ziy g t) 251 [] [.ptr (zx g) 0] (fun t _=>zm6 g hf t)
 rw [←List.not_all_eq_any_not,zrW h.formed] at cu
 refine zf zh Tryz.func130 rfl (by kernel_rfl) Tryz.ntmps130 (by simp) _ rfl (fun hw gB hgB=>?_)
 repeat' (first|refine Vh 18 ht rfl ?_|(refine zy ?_;first|refine zb7 5 rfl rfl rfl hc3 (by decide) rfl rfl rfl ?_)|refine sK ?_|refine sC (fun _=>?_) (fun _=>?_)|fail)
 refine zB (fun k:Nat=>[(2,.pv (.ptr (zx g) 0)),(3,.pv (.ptr (zG m) 0)),(5,.own 5),(22,.pv (.slc 6 (m.code.map yR) false)),(23,.pv (pi m.code.length)),(24,.pv (pi k))])
  (fun k=>[(5,.row 44 4 ((ziW m++((m.code.take k).filter isT).map (·.t)).map yK))]) (fun k=>k≤m.code.length) (fun k=>m.code.length - k) 0 (by omega)
  (by repeat (first|exact yu|refine zY rfl ?_|(refine qK rfl ?_ ?_;· simp))) ⟨qw rfl (by simp [ziW]) zk,rfl⟩ ?_
 rintro k hk
 by_cases hlt:k < m.code.length
 ·have he:=yc (f:=yR) hlt
  obtain ⟨o1,o2⟩:=zqx h (List.getElem_mem hlt)
  have co:=zem m.code[k].op o1 o2
  rw [(zkg _ o1 o2).2] at co
  have hsl:((m.code.take k).filter isT).length≤160:=by
   have:=List.length_filter_le isT (m.code.take k)
   rw [List.length_take] at this;omega
  have hn:=zjg (p:=isT) (f:=(·.t)) hlt
  cases hop:yj m.code[k].op==8
  ·rw [show isT m.code[k]=false from hop,if_neg (by simp),List.append_nil] at hn
   repeat' (first|(refine shC ?_;first|refine qC co ?_)|(refine shX ?_;first|refine qX he ?_)|refine sK ?_|refine sC (fun _=>?_) (fun _=>?_)|fail)
   exact ⟨k + 1,hlt,tD,tS,⟨qw rfl (by rw [hn]) zk,rfl⟩⟩
  ·rw [show isT m.code[k]=true from hop,if_pos rfl] at hn
   repeat' (first|(refine shC ?_;first|refine qC co ?_)|(refine shX ?_;first|refine qX he ?_)|(refine zL ?_;first|refine zX zh rfl rfl rfl rfl rfl rfl rfl (by show _ * 32≤_;simp only [List.length_map,List.length_append,List.length_cons,List.length_nil];omega) (by simp only [List.length_map,List.length_append,List.length_cons,List.length_nil];omega) rfl rfl ?_)|refine sK ?_|refine sC (fun _=>?_) (fun _=>?_)|fail)
   exact ⟨k + 1,hlt,tD,tS,⟨qw rfl (by rw [hn];simp;rfl) zk,rfl⟩⟩
 ·have hk2:k=m.code.length:=by omega
  subst hk2
  have hsl:(m.code.filter isT).length≤160:=by
   have:=List.length_filter_le isT m.code
   omega
  rw [List.take_length]
  repeat' (first|refine sK ?_|refine sC (fun _=>?_) (fun _=>?_)|fail)
  refine zB (fun k:Nat=>[(2,.pv (.ptr (zx g) 0)),(5,.own 5),(44,.pv (.slc 10 (m.clauses.map ZJ) false)),(45,.pv (pi m.clauses.length)),(46,.pv (pi k))])
   (fun k=>[(5,.row 44 4 ((ziW m++(m.code.filter isT).map (·.t)++((m.clauses.take k).filter isC).map (·.t)).map yK))]) (fun k=>k≤m.clauses.length) (fun k=>m.clauses.length - k) 0 (by omega)
   (by repeat (first|exact yu|refine zY rfl ?_|(refine qK rfl ?_ ?_;· simp))) ⟨qw rfl (by simp) zk,rfl⟩ ?_
  clear hk hlt
  rintro k hk
  by_cases hlt:k < m.clauses.length
  ·have he:=yc (f:=ZJ) hlt
   have hsl2:((m.clauses.take k).filter isC).length≤6:=by
    have:=List.length_filter_le isC (m.clauses.take k)
    rw [List.length_take] at this;omega
   have hn:=zjg (p:=isC) (f:=(·.t)) hlt
   cases hop:m.clauses[k].kind==1
   ·rw [show isC m.clauses[k]=false from hop,if_neg (by simp),List.append_nil] at hn
    repeat' (first|(refine shX ?_;first|refine qX he ?_)|refine sK ?_|refine sC (fun _=>?_) (fun _=>?_)|fail)
    exact ⟨k + 1,hlt,tD,tS,⟨qw rfl (by rw [hn]) zk,rfl⟩⟩
   ·rw [show isC m.clauses[k]=true from hop,if_pos rfl] at hn
    repeat' (first|(refine shX ?_;first|refine qX he ?_)|(refine zL ?_;first|refine zX zh rfl rfl rfl rfl rfl rfl rfl (by show _ * 32≤_;simp only [List.length_map,List.length_append,List.length_cons,List.length_nil];omega) (by simp only [List.length_map,List.length_append,List.length_cons,List.length_nil];omega) rfl rfl ?_)|refine sK ?_|refine sC (fun _=>?_) (fun _=>?_)|fail)
    exact ⟨k + 1,hlt,tD,tS,⟨qw rfl (by rw [hn];simp;rfl) zk,rfl⟩⟩
  ·have hk2:k=m.clauses.length:=by omega
   subst hk2
   rw [List.take_length,←zqF]
   repeat' (first|(refine shC ?_;first|refine qC cu ?_)|refine sK ?_|refine sC (fun _=>?_) (fun _=>?_)|fail)
   exact retq rfl (by simp [zn])
set_option maxHeartbeats 20000000
def zac (g:Img) (m:Int):Bool:=decide (m < 0)||yP (mAt g m).flags 4
def za9 (g:Img) (t:Int) (what:Int→Int) (fs:List Int):Bool:=!(tbl g t).any (zac g)&&!fs.any fun f=>(methodsOf g f).any fun m=>zac g (what m)
def okI (g:Img) (m:Int):Prop:=m < 0∨mOk g m
theorem zf0 (g:Img) (hF:Fine g) (m:Int) (hm:okI g m):ACall Tryz.prog 253 ([]++[pi m]++[.ptr (zx g) 0]) (pb (zac g m)):=by
 show ACall Tryz.prog 253 [pi m,.ptr (zx g) 0] (pb (zac g m))
 refine zf zh Tryz.func253 rfl (by kernel_rfl) Tryz.ntmps253 (by simp) _ rfl (fun hw gB hgB=>?_)
 by_cases h0:m < 0
 ·repeat' (first|refine sK ?_|refine sC (fun _=>?_) (fun _=>?_)|fail)
  exact retq rfl (by rw [zac,decide_eq_true h0];rfl)
 ·have hm2:mOk g m:=hm.resolve_left h0
  have hem:=Xf hm2
  have h:=WT hF.formed hm2
  have c:=Qn (mAt g m) 4
  rw [(zaJ h.1 h.2).2.2.1] at c
  have hd:decide (m < 0)=false:=decide_eq_false h0
  repeat' (first|(refine shC ?_;first|refine qC c ?_)|(refine shX ?_;first|refine zo rfl (zl zh rfl rfl rfl rfl rfl rfl hm2.1 hem) rfl rfl ?_|refine AD.step _ _ _ _ _ rfl (zl zh rfl rfl rfl rfl rfl rfl hm2.1 hem) rfl rfl ?_)|refine sK ?_|refine sC (fun _=>?_) (fun _=>?_)|fail)
  exact retq rfl (by rw [zac,hd];rfl)
theorem zsS {g:Img} (hW:Wl g) {t m:Int} (hm:mOk g m) (hb:zF g (zbo g m)=0→zbo g m∈up g t):mOk g (zd6 g t m):=by
 rw [zd6]
 split
 ·exact hm
 ·rename_i h
  have:=zo0 hW hb h
  rw [zM this]
  exact zpA (List.getElem_mem this)
theorem zsR {g:Img} (hW:Wl g) {t m:Int} (hk:zF g t=0):okI g (VB g t m):=by
 rw [VB]
 cases h:zpq g t m with
 | none=>exact .inl (by show (-1:Int) < 0;omega)
 | some k =>
  have:=List.mem_of_find?_eq_some h
  obtain ⟨u,hu,hku⟩:=List.mem_flatMap.1 this
  obtain ⟨q1,q2,q3⟩:=up0 hW hk hu hku
  exact .inr (zsS hW q1 q3)
theorem zq9 {g:Img} (hF:Fm g) (t:Int):(Ya g t).length≤g.types.length:=by
 have:=(zhB hF t).2.len
 rw [Ya,sortL]
 simpa using this
theorem zlY (g:Img) (hF:Fine g) (t:Int) (hk:zF g t=0):ACall Tryz.prog 131 [zx g,pi t] (pb (za9 g t (VB g t) (Ya g t))):=by
 have hW:=zgC hF.well
 obtain ⟨hgt,_,hgm,_⟩:=zI hF.formed
 have c1:=zhl g hF t
 have c2:=Qz (tbl g t) (zac g) 253 [] [.ptr (zx g) 0] (fun x hx=>zf0 g hF x (.inr (zpA hx)))
 have c3:=zgc g t (zeG hF.formed)
 have hfpl:=zq9 (zeG hF.formed) t
 refine zf zh Tryz.func131 rfl (by kernel_rfl) Tryz.ntmps131 (by simp) _ rfl (fun hw gB hgB=>?_)
 rw [za9]
 cases ho:(tbl g t).any (zac g)
 ·rw [ho] at c2
  repeat' (first|(refine shC ?_;first|refine qC c1 ?_|refine qC c2 ?_|refine qC c3 ?_)|refine sK ?_|refine sC (fun _=>?_) (fun _=>?_)|fail)
  refine zB (fun i:Nat=>[(1,.pv (pi t)),(2,.pv (.ptr (zx g) 0)),(5,.pv (.fn (.func 253) [] [.ptr (zx g) 0])),(18,.pv (ints (Ya g t))),(19,.pv (pi (Ya g t).length)),(20,.pv (pi i))]) (fun _=>[])
   (fun i=>i≤(Ya g t).length∧((Ya g t).any fun f=>(methodsOf g f).any fun m=>zac g (VB g t m))=((Ya g t).drop i).any fun f=>(methodsOf g f).any fun m=>zac g (VB g t m)) (fun i=>(Ya g t).length - i) 0 ⟨by omega,rfl⟩
   (by repeat (first|exact yu|refine zY rfl ?_|(refine qK rfl ?_ ?_;· simp))) tH ?_
  rintro i ⟨hi,hr⟩
  by_cases hlt:i < (Ya g t).length
  ·obtain ⟨f,hf⟩:∃ f,f=(Ya g t)[i]:=⟨_,rfl⟩
   have hef:((Ya g t).map pi)[i]?=some (pi f):=by rw [hf];exact yc (f:=pi) hlt
   have cm:=YD g f (by omega)
   have hml:=Qo g f
   rw [zhT hlt,←hf] at hr
   repeat' (first|(refine shC ?_;first|refine qC cm ?_)|(refine shX ?_;first|refine qX hef ?_)|refine sK ?_|refine sC (fun _=>?_) (fun _=>?_)|fail)
   refine zB (fun j:Nat=>[(1,.pv (pi t)),(2,.pv (.ptr (zx g) 0)),(5,.pv (.fn (.func 253) [] [.ptr (zx g) 0])),(18,.pv (ints (Ya g t))),(19,.pv (pi (Ya g t).length)),(20,.pv (pi i)),(26,.pv (ints (methodsOf g f))),(27,.pv (pi (methodsOf g f).length)),(28,.pv (pi j))]) (fun _=>[])
    (fun j=>j≤(methodsOf g f).length∧((Ya g t).any fun f=>(methodsOf g f).any fun m=>zac g (VB g t m))=((((methodsOf g f).drop j).any fun m=>zac g (VB g t m))||((Ya g t).drop (i + 1)).any fun f=>(methodsOf g f).any fun m=>zac g (VB g t m))) (fun j=>(methodsOf g f).length - j) 0 ⟨by omega,hr⟩
    (by repeat (first|exact yu|refine zY rfl ?_|(refine qK rfl ?_ ?_;· simp))) tH ?_
   clear hr
   rintro j ⟨hj,hr⟩
   by_cases hjl:j < (methodsOf g f).length
   ·obtain ⟨m,hm⟩:∃ m,m=(methodsOf g f)[j]:=⟨_,rfl⟩
    have hem:((methodsOf g f).map pi)[j]?=some (pi m):=by rw [hm];exact yc (f:=pi) hjl
    have hmk:mOk g m:=by rw [hm];exact qm (List.getElem_mem hjl)
    have cf:=zq8 g hF t m hmk hk
    have cv:=zf0 g hF (VB g t m) (zsR hW hk)
    rw [zhT hjl,←hm] at hr
    cases hop:zac g (VB g t m)
    ·rw [hop] at cv hr
     repeat' (first|(refine shC ?_;first|refine qC cf ?_|refine qV (cv) ?_)|(refine shX ?_;first|refine qX hem ?_)|refine sK ?_|refine sC (fun _=>?_) (fun _=>?_)|fail)
     exact ⟨j + 1,⟨hjl,hr⟩,tD,tS,tH⟩
    ·rw [hop] at cv hr
     repeat' (first|(refine shC ?_;first|refine qC cf ?_|refine qV (cv) ?_)|(refine shX ?_;first|refine qX hem ?_)|refine sK ?_|refine sC (fun _=>?_) (fun _=>?_)|fail)
     exact retq rfl (by rw [hr];rfl)
   ·rw [drop_end (by omega)] at hr
    repeat' (first|refine sK ?_|refine sC (fun _=>?_) (fun _=>?_)|fail)
    exact ⟨i + 1,⟨hlt,hr⟩,tD,tS,tH⟩
  ·rw [drop_end (by omega)] at hr
   repeat' (first|refine sK ?_|refine sC (fun _=>?_) (fun _=>?_)|fail)
   exact retq rfl (by rw [hr];rfl)
 ·rw [ho] at c2
  repeat' (first|(refine shC ?_;first|refine qC c1 ?_|refine qC c2 ?_)|refine sK ?_|refine sC (fun _=>?_) (fun _=>?_)|fail)
  exact retq rfl rfl
def zt4 (t:Ty):Bool:=decide (t=⟨1,0,0,false⟩)||decide (t=⟨2,0,0,false⟩)||decide (t=⟨3,0,0,false⟩)
def ztH (m:Me):Bool:=yP m.flags 1&&!yP m.flags 4&&m.params.length==0&&zt4 m.ret
theorem zvH {t:Ty} (hp:Zv t=true) (hr:t.ref=false):zt4 t=(t.dims==0&&decide (1≤t.kind)&&decide (t.kind≤3)):=by
 obtain ⟨k,i,d,r⟩:=t
 simp only at hr
 subst hr
 rw [Bool.eq_iff_iff]
 simp only [zt4,Ty.mk.injEq,Bool.or_eq_true,decide_eq_true_eq,Bool.and_eq_true,beq_iff_eq,and_true]
 constructor
 ·omega
 ·rintro ⟨⟨h1,h2⟩,h3⟩
  have hk:k=1∨k=2∨k=3:=by omega
  rcases hk with rfl|rfl|rfl <;> simp_all [Zv]
set_option maxHeartbeats 1000000 in
theorem zjI (g:Img) (m:Me) (h:MeOk g m):ACall Tryz.prog 133 [zG m] (pb (ztH m)):=by
 obtain ⟨h1,_,h4,_,_⟩:=zuV h
 have e1:=Vl m.ret ⟨1,0,0,false⟩
 have e2:=Vl m.ret ⟨2,0,0,false⟩
 have e3:=Vl m.ret ⟨3,0,0,false⟩
 have hl:((((m.params.map yK).length:Nat):Int)==0)=(m.params.length==0):=by
  rw [List.length_map,Bool.eq_iff_iff];simp only [beq_iff_eq];omega
 refine zf zh Tryz.func133 rfl (by kernel_rfl) Tryz.ntmps133 (by simp) _ rfl (fun hw gB hgB=>?_)
 rw [ztH,zt4,←e1,←e2,←e3]
 generalize yP m.flags 1=b1 at h1 ⊢
 generalize yP m.flags 4=b4 at h4 ⊢
 clear e1 e2 e3
 repeat' (first|(refine shC ?_;first|refine qC h1 ?_|refine qC h4 ?_)|refine sA ?_|refine sC (fun _=>?_) (fun _=>?_)|fail)
 all_goals (refine retq rfl ?_;first|(simp_all [zn];done)|(simp_all [zn];intro hh;rcases hh with ⟨a1,a2,a3,a4⟩|⟨a1,a2,a3,a4⟩ <;> simp_all))
abbrev zfb:=(Int × Int) × Int
def zjG (r:zfb):PV:=.tup [.agg [pi r.1.1,pi r.1.2],pi r.2]
def stE (g:Img):zfb:=if decide (0≤g.entry)&&!ztH (mAt g g.entry) then ((1,g.entry),11) else ((0,0),0)
def zr5 (g:Img) (t:Int):Bool:=zF g t==3&&(methodsOf g t).length==0
def zvp (g:Img) (W:Int→Bool) (t:Int):Bool:=zF g t==0&&!yP (g.types.getD t.toNat default).flags 4&&!W t
def stD (g:Img):List Nat→zfb
 | []=>stE g
 | t::ts=>if zr5 g (t:Int) then ((0,(t:Int)),8) else stD g ts
def stC (g:Img) (W:Int→Bool):List Nat→zfb
 | []=>stD g (List.range g.types.length)
 | t::ts=>if zvp g W (t:Int) then ((0,(t:Int)),18) else stC g W ts
def stM (g:Img):List Nat→zfb
 | []=>stC g (fun t=>za9 g t (zm0 g t) (zbf g t)) (List.range g.types.length)
 | i::is=>if zld g (mAt g (i:Int)) then (if zhY g (mAt g (i:Int)) then stM g is else ((1,(i:Int)),10)) else ((1,(i:Int)),8)
def yZ (g:Img):zfb:=if Qi g then stM g (List.range g.methods.length) else ((0,0),17)
theorem zcX {n k:Nat} (h:k < n):(List.range n).drop k=k::(List.range n).drop (k + 1):=by
 rw [List.drop_eq_getElem_cons (by simpa using h)];simp
theorem zfw (n:Nat):(List.range n).drop n=[]:=List.drop_eq_nil_of_le (by simp)
theorem zcO {l l':List Int} {p q:Int→Bool} (h:∀ x,x∈l↔x∈l') (hp:∀ x∈l,p x=q x):l.any p=l'.any q:=by
 rw [Bool.eq_iff_iff,List.any_eq_true,List.any_eq_true]
 constructor
 ·rintro ⟨x,hx,hpx⟩;exact ⟨x,(h x).1 hx,by rw [←hp x hx];exact hpx⟩
 ·rintro ⟨x,hx,hpx⟩;exact ⟨x,(h x).2 hx,by rw [hp x ((h x).2 hx)];exact hpx⟩
theorem zpT {k:Int} {b1 b2 b4 b8 b16 rv f16 em nc m1 ab:Bool} (h:zeW k b1 b2 b4 b8 b16 rv f16 em nc m1 ab=true) (hk:k=2):b2=true:=by
 subst hk
 cases b2
 ·cases b4
  ·simp [zeW] at h
  ·simp [zeW] at h
 ·rfl
theorem zr9 {g:Img} (hF:Fine g) (hm:∀ i,i < g.methods.length→zld g (mAt g (i:Int))=true) (t:Int):za9 g t (VB g t) (Ya g t)=za9 g t (zm0 g t) (zbf g t):=by
 have hFm:=zeG hF.formed
 have hW:=zgC hF.well
 rw [za9,za9]
 congr 2
 refine zcO (fun f=>by rw [zhp hFm,zgZ hFm]) fun f hf=>?_
 refine zcO (fun m=>Iff.rfl) fun m hmm=>?_
 have hk:zF g (zbo g m)=2:=by rw [zal hmm];exact hW.rf_kind ((zhp hFm).1 hf)
 have hmo:=qm hmm
 have h1:=hm m.toNat hmo.2
 rw [Int.toNat_of_nonneg hmo.1] at h1
 have hv:zfs g m=true:=zpT h1 hk
 rw [zm0,hk,hv];rfl
theorem zoN {g:Img} {k:Nat} (h:k < g.methods.length):mOk g (k:Int):=⟨by omega,by simpa using h⟩
theorem zvf {g:Img} {k:Nat} (h:k < g.methods.length):(g.methods.map zG)[((k:Int)).toNat]?=some (zG (mAt g (k:Int))):=Xf (zoN h)
theorem zuM {g:Img} {k:Nat} (h:k < g.types.length):(g.types.map qU)[((k:Int)).toNat]?=some (qU (g.types.getD ((k:Int)).toNat default)):=by
 have h':((k:Int)).toNat < g.types.length:=by simpa using h
 rw [zM h'];exact Yj h'
theorem zrP {g:Img} (hf:zV g=true) (h:0≤g.entry):mOk g g.entry:=by
 simp only [zV,Bool.and_eq_true,decide_eq_true_eq] at hf
 exact ⟨h,by omega⟩
theorem zpN {f:Int} (h0:0≤f) (h1:f≤31):(IntKind.i64.wrap ((BitVec.ofInt IntKind.i64.bits f &&& BitVec.ofInt IntKind.i64.bits 4).toNat:Int)==0)=!yP f 4:=by
 rw [←(zaJ h0 h1).2.2.1,qy,bne,Bool.not_not]
theorem zpP {g:Img} (hf:zV g=true) {k:Nat} (h:k < g.types.length):0≤(g.types.getD ((k:Int)).toNat default).flags∧(g.types.getD ((k:Int)).toNat default).flags≤31:=zle hf (by omega) (by simpa using h)
theorem zsb {l:List Int}:((((l.map pi).length:Nat):Int)==0)=(l.length==0):=by
 rw [List.length_map,Bool.eq_iff_iff];simp only [beq_iff_eq];omega
set_option maxHeartbeats 4000000 in
theorem zbC (g:Img) (hx:OkA g):ACall Tryz.prog 66 [zx g] (zjG (yZ g)):=by
 have c0:=znw g hx
 refine zf zh Tryz.func66 rfl (by kernel_rfl) Tryz.ntmps66 (by simp) _ rfl (fun hw gB hgB=>?_)
 cases hfi:Qi g
 ·rw [hfi] at c0
  repeat' (first|(refine shC ?_;first|refine qC c0 ?_)|refine sK ?_|refine sC (fun _=>?_) (fun _=>?_)|fail)
  exact retq rfl (by rw [yZ,hfi];rfl)
 ·rw [hfi] at c0
  have hF:=YT hfi
  obtain ⟨hgt,_,hgm,_⟩:=zI hF.formed
  have hr0:yZ g=stM g (List.range g.methods.length):=by rw [yZ,hfi];rfl
  repeat' (first|(refine shC ?_;first|refine qC c0 ?_)|refine sK ?_|refine sC (fun _=>?_) (fun _=>?_)|fail)
  refine zB (fun k:Nat=>[(1,.pv (.ptr (zx g) 0)),(2,.box 0 0),(14,.pv (.slc 12 (g.methods.map zG) false)),(15,.pv (pi g.methods.length)),(16,.pv (pi k))]) (fun _=>[(0,.cell (.pv (.agg [pi 0,pi 0])))])
   (fun k=>k≤g.methods.length∧yZ g=stM g ((List.range g.methods.length).drop k)∧∀ i,i < k→zld g (mAt g (i:Int))=true) (fun k=>g.methods.length - k) 0 ⟨by omega,hr0,fun i h=>by omega⟩ (by repeat (first|exact yu|refine zY rfl ?_|(refine qK rfl ?_ ?_;· simp))) tH ?_
  rintro k ⟨hk,hr,hall⟩
  by_cases hlt:k < g.methods.length
  ·have he:=zvf hlt
   have hM:=Xg hF.formed (zoN hlt)
   have cf:=ziN g hF.formed _ hM
   have co:=zlr g hF.formed _ hM
   have ct:=zl0 g hF.formed _ hM
   have hfe:=ztt hM
   rw [zcX hlt,stM] at hr
   cases hf:zpH g (mAt g (k:Int))
   ·rw [hf] at cf hfe
    rw [←hfe] at hr
    repeat' (first|(refine shC ?_;first|refine qC cf ?_)|(refine shX ?_;first|refine qX he ?_)|refine sK ?_|refine sC (fun _=>?_) (fun _=>?_)|fail)
    exact retq rfl (by rw [hr];rfl)
   ·rw [hf] at cf hfe
    cases ho:zk4 g (mAt g (k:Int))
    ·rw [ho] at co hfe
     rw [←hfe] at hr
     repeat' (first|(refine shC ?_;first|refine qC cf ?_|refine qC co ?_)|(refine shX ?_;first|refine qX he ?_)|refine sK ?_|refine sC (fun _=>?_) (fun _=>?_)|fail)
     exact retq rfl (by rw [hr];rfl)
    ·rw [ho] at co hfe
     have hfR:zld g (mAt g (k:Int))=true:=hfe.symm
     rw [hfR,if_pos rfl] at hr
     cases ht:zhY g (mAt g (k:Int))
     ·rw [ht] at ct hr
      repeat' (first|(refine shC ?_;first|refine qC cf ?_|refine qC co ?_|refine qC ct ?_)|(refine shX ?_;first|refine qX he ?_)|refine sK ?_|refine sC (fun _=>?_) (fun _=>?_)|fail)
      exact retq rfl (by rw [hr];rfl)
     ·rw [ht] at ct hr
      repeat' (first|(refine shC ?_;first|refine qC cf ?_|refine qC co ?_|refine qC ct ?_)|(refine shX ?_;first|refine qX he ?_)|refine sK ?_|refine sC (fun _=>?_) (fun _=>?_)|fail)
      exact ⟨k + 1,⟨hlt,hr,fun i hi=>by
       by_cases e:i=k
       ·subst e;exact hfR
       ·exact hall i (by omega)⟩,tD,tS,tH⟩
  ·have hk2:k=g.methods.length:=by omega
   subst hk2
   rw [zfw,stM] at hr
   have hwe:=fun t=>zr9 hF hall t
   clear hall
   repeat' (first|refine sK ?_|refine sC (fun _=>?_) (fun _=>?_)|fail)
   refine zB (fun k:Nat=>[(1,.pv (.ptr (zx g) 0)),(2,.box 0 0),(43,.pv (.slc 4 (g.types.map qU) false)),(44,.pv (pi g.types.length)),(45,.pv (pi k))]) (fun _=>[(0,.cell (.pv (.agg [pi 0,pi 0])))])
    (fun k=>k≤g.types.length∧yZ g=stC g (fun t=>za9 g t (zm0 g t) (zbf g t)) ((List.range g.types.length).drop k)) (fun k=>g.types.length - k) 0 ⟨by omega,hr⟩ (by repeat (first|exact yu|refine zY rfl ?_|(refine qK rfl ?_ ?_;· simp))) tH ?_
   clear hr hk hlt
   rintro k ⟨hk,hr⟩
   by_cases hlt:k < g.types.length
   ·have he:=zuM hlt
    have hfl:=zpP hF.formed hlt
    have hz:=zpN hfl.1 hfl.2
    have ck:=qZ g hF.formed (k:Int)
    rw [zcX hlt,stC,zvp] at hr
    by_cases hk0:zF g (k:Int)=0
    ·have cw:=zlY g hF (k:Int) hk0
     rw [hwe] at cw
     rw [hk0] at ck hr
     cases hb:yP (g.types.getD ((k:Int)).toNat default).flags 4
     ·rw [hb] at hz hr
      cases hw2:za9 g (k:Int) (zm0 g (k:Int)) (zbf g (k:Int))
      ·rw [hw2] at cw hr
       repeat' (first|(refine shC ?_;first|refine qC ck ?_|refine qC cw ?_)|(refine shX ?_;first|refine qX he ?_)|refine sK ?_|refine sC (fun _=>?_) (fun _=>?_)|fail)
       exact retq rfl (by rw [hr];rfl)
      ·rw [hw2] at cw hr
       repeat' (first|(refine shC ?_;first|refine qC ck ?_|refine qC cw ?_)|(refine shX ?_;first|refine qX he ?_)|refine sK ?_|refine sC (fun _=>?_) (fun _=>?_)|fail)
       exact ⟨k + 1,⟨hlt,hr⟩,tD,tS,tH⟩
     ·rw [hb] at hz hr
      repeat' (first|(refine shC ?_;first|refine qC ck ?_)|(refine shX ?_;first|refine qX he ?_)|refine sK ?_|refine sC (fun _=>?_) (fun _=>?_)|fail)
      exact ⟨k + 1,⟨hlt,hr⟩,tD,tS,tH⟩
    ·have hkb:(zF g (k:Int)==0)=false:=by simp [hk0]
     rw [hkb] at hr
     repeat' (first|(refine shC ?_;first|refine qC ck ?_)|(refine shX ?_;first|refine qX he ?_)|refine sK ?_|refine sC (fun _=>?_) (fun _=>?_)|fail)
     exact ⟨k + 1,⟨hlt,hr⟩,tD,tS,tH⟩
   ·have hk2:k=g.types.length:=by omega
    subst hk2
    rw [zfw,stC] at hr
    repeat' (first|refine sK ?_|refine sC (fun _=>?_) (fun _=>?_)|fail)
    refine zB (fun k:Nat=>[(1,.pv (.ptr (zx g) 0)),(2,.box 0 0),(71,.pv (pi g.types.length)),(72,.pv (pi k))]) (fun _=>[(0,.cell (.pv (.agg [pi 0,pi 0])))])
     (fun k=>k≤g.types.length∧yZ g=stD g ((List.range g.types.length).drop k)) (fun k=>g.types.length - k) 0 ⟨by omega,hr⟩ (by repeat (first|exact yu|refine zY rfl ?_|(refine qK rfl ?_ ?_;· simp))) tH ?_
    clear hr hk hlt
    rintro k ⟨hk,hr⟩
    by_cases hlt:k < g.types.length
    ·have ck:=qZ g hF.formed (k:Int)
     have cm:=YD g (k:Int) (by omega)
     have hlz:=zsb (l:=methodsOf g (k:Int))
     rw [zcX hlt,stD,zr5] at hr
     by_cases hk3:zF g (k:Int)=3
     ·rw [hk3] at ck hr
      cases hb:(methodsOf g (k:Int)).length==0
      ·rw [hb] at hlz hr
       repeat' (first|(refine shC ?_;first|refine qC ck ?_|refine qC cm ?_)|refine sK ?_|refine sC (fun _=>?_) (fun _=>?_)|fail)
       exact ⟨k + 1,⟨hlt,hr⟩,tD,tS,tH⟩
      ·rw [hb] at hlz hr
       repeat' (first|(refine shC ?_;first|refine qC ck ?_|refine qC cm ?_)|refine sK ?_|refine sC (fun _=>?_) (fun _=>?_)|fail)
       exact retq rfl (by rw [hr];rfl)
     ·have hkb:(zF g (k:Int)==3)=false:=by simp [hk3]
      rw [hkb] at hr
      repeat' (first|(refine shC ?_;first|refine qC ck ?_)|refine sK ?_|refine sC (fun _=>?_) (fun _=>?_)|fail)
      exact ⟨k + 1,⟨hlt,hr⟩,tD,tS,tH⟩
    ·have hk2:k=g.types.length:=by omega
     subst hk2
     rw [zfw,stD,stE] at hr
     by_cases h0:0≤g.entry
     ·have hen:=zrP hF.formed h0
      have hem:=Xf hen
      have cb:=zjI g _ (Xg hF.formed hen)
      rw [decide_eq_true h0] at hr
      cases hb:ztH (mAt g g.entry)
      ·rw [hb] at cb hr
       repeat' (first|(refine shC ?_;first|refine qC cb ?_)|(refine shX ?_;first|refine zo rfl (zl zh rfl rfl rfl rfl rfl rfl h0 hem) rfl rfl ?_|refine AD.step _ _ _ _ _ rfl (zl zh rfl rfl rfl rfl rfl rfl h0 hem) rfl rfl ?_)|refine sK ?_|refine sC (fun _=>?_) (fun _=>?_)|fail)
       exact retq rfl (by rw [hr];rfl)
      ·rw [hb] at cb hr
       repeat' (first|(refine shC ?_;first|refine qC cb ?_)|(refine shX ?_;first|refine zo rfl (zl zh rfl rfl rfl rfl rfl rfl h0 hem) rfl rfl ?_|refine AD.step _ _ _ _ _ rfl (zl zh rfl rfl rfl rfl rfl rfl h0 hem) rfl rfl ?_)|refine sK ?_|refine sC (fun _=>?_) (fun _=>?_)|fail)
       exact retq rfl (by rw [hr];rfl)
     ·rw [decide_eq_false h0] at hr
      repeat' (first|refine sK ?_|refine sC (fun _=>?_) (fun _=>?_)|fail)
      exact retq rfl (by rw [hr];rfl)
end Go.Cg
