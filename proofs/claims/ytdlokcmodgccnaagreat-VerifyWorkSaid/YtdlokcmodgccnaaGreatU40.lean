/- A part of the walks by abstract values: no statement of its own. -/
import Derived.Test.YtdlokcmodgccnaaGreatU37
import Derived.Test.YtdlokcmodgccnaaGreatU7
import Derived.Test.YtdlokcmodgccnaaGreatU14
import Derived.Test.YtdlokcmodgccnaaGreatU16
import Derived.Test.YtdlokcmodgccnaaGreatU28
import Derived.Test.YtdlokcmodgccnaaGreatU22
import Derived.Test.YtdlokcmodgccnaaGreatU23
import Derived.Test.YtdlokcmodgccnaaGreatU24
set_option linter.unusedVariables false
set_option linter.unusedSimpArgs false
namespace Go.Cg
open Go.Proofs
theorem zpE {g:Img} {m:Me} (h:MeOk g m) {x:Ins} (hx:x∈m.code):1≤x.op∧x.op≤75:=by
 have:=h.formed
 simp only [ZA,Vg,Bool.and_eq_true,List.all_eq_true,codeOk] at this
 have:=(this.2.1.1.2 x hx).1
 exact zpj (by simpa using this)
def isT (x:Ins):Bool:=yN x.op==8
def isC (c:Cl):Bool:=c.kind==1
def ziu (m:Me):List Ty:=m.params++m.locals++[m.ret]
theorem zof (m:Me):zbR m=ziu m++(m.code.filter isT).map (·.t)++(m.clauses.filter isC).map (·.t):=rfl
set_option maxHeartbeats 4000000 in
theorem zlK (g:Img) (hf:yJ g=true) (m:Me) (h:MeOk g m):ACall Tryz.prog 45 [zT g,yB m] (pb (zhI g m)):=by
 obtain ⟨s1,s2,s3,s4,s5,s6⟩:=h.small
 have hc3:=zjS m.params m.locals [m.ret] (by omega) (by omega) (by simp)
 have ht:PTells (.slc 4 [yM m.ret] true) (tys [m.ret]):=zgG (zaS (qy (.refl _) (qy (.refl _) (qy (.refl _) (qy (.refl _) zbb)))) zdz)
 have hh:(ziu m).length≤19:=by simp [ziu];omega
 have cu:=YA (zbR m) (fun t=>!zhR g t) 86 [] [.ptr (zT g) 0] (fun t _=>zkL g hf t)
 rw [←List.not_all_eq_any_not,zq8 h.formed] at cu
 refine zi zf Tryz.func45 rfl (by kernel_rfl) Tryz.ntmps45 (by simp) _ rfl (fun hw gB hgB=>?_)
 repeat' (first|refine zd6 18 ht rfl ?_|(refine zn ?_;first|refine zbS 5 rfl rfl rfl hc3 (by decide) rfl rfl rfl ?_)|refine sK ?_|refine sC (fun _=>?_) (fun _=>?_)|fail)
 refine zW (fun k:Nat=>[(2,.pv (.ptr (zT g) 0)),(3,.pv (.ptr (yB m) 0)),(5,.own 5),(22,.pv (.slc 6 (m.code.map qj) false)),(23,.pv (pi m.code.length)),(24,.pv (pi k))])
  (fun k=>[(5,.row 42 4 ((ziu m++((m.code.take k).filter isT).map (·.t)).map yM))]) (fun k=>k≤m.code.length) (fun k=>m.code.length - k) 0 (by omega)
  (by repeat (first|exact yZ|refine yS rfl ?_|(refine Zn rfl ?_ ?_;· simp))) ⟨ZW rfl (by simp [ziu]) zG,rfl⟩ ?_
 rintro k hk
 by_cases hlt:k < m.code.length
 ·have he:=yj (f:=qj) hlt
  obtain ⟨o1,o2⟩:=zpE h (List.getElem_mem hlt)
  have co:=zds m.code[k].op o1 o2
  rw [(ziT _ o1 o2).2] at co
  have hsl:((m.code.take k).filter isT).length≤160:=by
   have:=List.length_filter_le isT (m.code.take k)
   rw [List.length_take] at this;omega
  have hn:=zij (p:=isT) (f:=(·.t)) hlt
  cases hop:yN m.code[k].op==8
  ·rw [show isT m.code[k]=false from hop,if_neg (by simp),List.append_nil] at hn
   repeat' (first|(refine shC ?_;first|refine qC co ?_)|(refine shX ?_;first|refine qX he ?_)|refine sK ?_|refine sC (fun _=>?_) (fun _=>?_)|fail)
   exact ⟨k + 1,hlt,tD,tS,⟨ZW rfl (by rw [hn]) zG,rfl⟩⟩
  ·rw [show isT m.code[k]=true from hop,if_pos rfl] at hn
   repeat' (first|(refine shC ?_;first|refine qC co ?_)|(refine shX ?_;first|refine qX he ?_)|(refine yK ?_;first|refine qG zf rfl rfl rfl rfl rfl rfl rfl (by show _ * 32≤_;simp only [List.length_map,List.length_append,List.length_cons,List.length_nil];omega) (by simp only [List.length_map,List.length_append,List.length_cons,List.length_nil];omega) rfl rfl ?_)|refine sK ?_|refine sC (fun _=>?_) (fun _=>?_)|fail)
   exact ⟨k + 1,hlt,tD,tS,⟨ZW rfl (by rw [hn];simp;rfl) zG,rfl⟩⟩
 ·have hk2:k=m.code.length:=by omega
  subst hk2
  have hsl:(m.code.filter isT).length≤160:=by
   have:=List.length_filter_le isT m.code
   omega
  rw [List.take_length]
  repeat' (first|refine sK ?_|refine sC (fun _=>?_) (fun _=>?_)|fail)
  refine zW (fun k:Nat=>[(2,.pv (.ptr (zT g) 0)),(5,.own 5),(44,.pv (.slc 10 (m.clauses.map ZX) false)),(45,.pv (pi m.clauses.length)),(46,.pv (pi k))])
   (fun k=>[(5,.row 42 4 ((ziu m++(m.code.filter isT).map (·.t)++((m.clauses.take k).filter isC).map (·.t)).map yM))]) (fun k=>k≤m.clauses.length) (fun k=>m.clauses.length - k) 0 (by omega)
   (by repeat (first|exact yZ|refine yS rfl ?_|(refine Zn rfl ?_ ?_;· simp))) ⟨ZW rfl (by simp) zG,rfl⟩ ?_
  clear hk hlt
  rintro k hk
  by_cases hlt:k < m.clauses.length
  ·have he:=yj (f:=ZX) hlt
   have hsl2:((m.clauses.take k).filter isC).length≤6:=by
    have:=List.length_filter_le isC (m.clauses.take k)
    rw [List.length_take] at this;omega
   have hn:=zij (p:=isC) (f:=(·.t)) hlt
   cases hop:m.clauses[k].kind==1
   ·rw [show isC m.clauses[k]=false from hop,if_neg (by simp),List.append_nil] at hn
    repeat' (first|(refine shX ?_;first|refine qX he ?_)|refine sK ?_|refine sC (fun _=>?_) (fun _=>?_)|fail)
    exact ⟨k + 1,hlt,tD,tS,⟨ZW rfl (by rw [hn]) zG,rfl⟩⟩
   ·rw [show isC m.clauses[k]=true from hop,if_pos rfl] at hn
    repeat' (first|(refine shX ?_;first|refine qX he ?_)|(refine yK ?_;first|refine qG zf rfl rfl rfl rfl rfl rfl rfl (by show _ * 32≤_;simp only [List.length_map,List.length_append,List.length_cons,List.length_nil];omega) (by simp only [List.length_map,List.length_append,List.length_cons,List.length_nil];omega) rfl rfl ?_)|refine sK ?_|refine sC (fun _=>?_) (fun _=>?_)|fail)
    exact ⟨k + 1,hlt,tD,tS,⟨ZW rfl (by rw [hn];simp;rfl) zG,rfl⟩⟩
  ·have hk2:k=m.clauses.length:=by omega
   subst hk2
   rw [List.take_length,←zof]
   repeat' (first|(refine shC ?_;first|refine qC cu ?_)|refine sK ?_|refine sC (fun _=>?_) (fun _=>?_)|fail)
   exact retq rfl (by simp [zy])
set_option maxHeartbeats 20000000
def zau (g:Img) (m:Int):Bool:=decide (m < 0)||qF (mAt g m).flags 4
def zba (g:Img) (t:Int) (what:Int→Int) (fs:List Int):Bool:=!(tbl g t).any (zau g)&&!fs.any fun f=>(methodsOf g f).any fun m=>zau g (what m)
def okI (g:Img) (m:Int):Prop:=m < 0∨mOk g m
theorem zfw (g:Img) (hF:Fine g) (m:Int) (hm:okI g m):ACall Tryz.prog 90 ([]++[pi m]++[.ptr (zT g) 0]) (pb (zau g m)):=by
 show ACall Tryz.prog 90 [pi m,.ptr (zT g) 0] (pb (zau g m))
 refine zi zf Tryz.func90 rfl (by kernel_rfl) Tryz.ntmps90 (by simp) _ rfl (fun hw gB hgB=>?_)
 by_cases h0:m < 0
 ·repeat' (first|refine sK ?_|refine sC (fun _=>?_) (fun _=>?_)|fail)
  exact retq rfl (by rw [zau,decide_eq_true h0];rfl)
 ·have hm2:mOk g m:=hm.resolve_left h0
  have hem:=XT hm2
  have h:=Vr hF.formed hm2
  have c:=QF (mAt g m) 4
  rw [(zaR h.1 h.2).2.2.1] at c
  have hd:decide (m < 0)=false:=decide_eq_false h0
  repeat' (first|(refine shC ?_;first|refine qC c ?_)|(refine shX ?_;first|refine zx rfl (zq zf rfl rfl rfl rfl rfl rfl hm2.1 hem) rfl rfl ?_|refine AD.step _ _ _ _ _ rfl (zq zf rfl rfl rfl rfl rfl rfl hm2.1 hem) rfl rfl ?_)|refine sK ?_|refine sC (fun _=>?_) (fun _=>?_)|fail)
  exact retq rfl (by rw [zau,hd];rfl)
theorem zrd {g:Img} (hW:Wl g) {t m:Int} (hm:mOk g m) (hb:yt g (zbs g m)=0→zbs g m∈up g t):mOk g (zdY g t m):=by
 rw [zdY]
 split
 ·exact hm
 ·rename_i h
  have:=znp hW hb h
  rw [zQ this]
  exact znP (List.getElem_mem this)
theorem zpI {g:Img} (hW:Wl g) {t m:Int} (hk:yt g t=0):okI g (VL g t m):=by
 rw [VL]
 cases h:znU g t m with
 | none=>exact .inl (by show (-1:Int) < 0;omega)
 | some k =>
  have:=List.mem_of_find?_eq_some h
  obtain ⟨u,hu,hku⟩:=List.mem_flatMap.1 this
  obtain ⟨q1,q2,q3⟩:=up0 hW hk hu hku
  exact .inr (zrd hW q1 q3)
theorem zpB {g:Img} (hF:Fm g) (t:Int):(Yt g t).length≤g.types.length:=by
 have:=(zgK hF t).2.len
 rw [Yt,sortL]
 simpa using this
theorem zlq (g:Img) (hF:Fine g) (t:Int) (hk:yt g t=0):ACall Tryz.prog 47 [zT g,pi t] (pb (zba g t (VL g t) (Yt g t))):=by
 have hW:=zf4 hF.well
 obtain ⟨hgt,_,hgm,_⟩:=yH hF.formed
 have c1:=zgN g hF t
 have c2:=QX (tbl g t) (zau g) 90 [] [.ptr (zT g) 0] (fun x hx=>zfw g hF x (.inr (znP hx)))
 have c3:=zfk g t (zbO hF.formed)
 have hfpl:=zpB (zbO hF.formed) t
 refine zi zf Tryz.func47 rfl (by kernel_rfl) Tryz.ntmps47 (by simp) _ rfl (fun hw gB hgB=>?_)
 rw [zba]
 cases ho:(tbl g t).any (zau g)
 ·rw [ho] at c2
  repeat' (first|(refine shC ?_;first|refine qC c1 ?_|refine qC c2 ?_|refine qC c3 ?_)|refine sK ?_|refine sC (fun _=>?_) (fun _=>?_)|fail)
  refine zW (fun i:Nat=>[(1,.pv (pi t)),(2,.pv (.ptr (zT g) 0)),(5,.pv (.fn (.func 90) [] [.ptr (zT g) 0])),(18,.pv (ints (Yt g t))),(19,.pv (pi (Yt g t).length)),(20,.pv (pi i))]) (fun _=>[])
   (fun i=>i≤(Yt g t).length∧((Yt g t).any fun f=>(methodsOf g f).any fun m=>zau g (VL g t m))=((Yt g t).drop i).any fun f=>(methodsOf g f).any fun m=>zau g (VL g t m)) (fun i=>(Yt g t).length - i) 0 ⟨by omega,rfl⟩
   (by repeat (first|exact yZ|refine yS rfl ?_|(refine Zn rfl ?_ ?_;· simp))) tH ?_
  rintro i ⟨hi,hr⟩
  by_cases hlt:i < (Yt g t).length
  ·obtain ⟨f,hf⟩:∃ f,f=(Yt g t)[i]:=⟨_,rfl⟩
   have hef:((Yt g t).map pi)[i]?=some (pi f):=by rw [hf];exact yj (f:=pi) hlt
   have cm:=Yu g f (by omega)
   have hml:=Qz g f
   rw [zb3 hlt,←hf] at hr
   repeat' (first|(refine shC ?_;first|refine qC cm ?_)|(refine shX ?_;first|refine qX hef ?_)|refine sK ?_|refine sC (fun _=>?_) (fun _=>?_)|fail)
   refine zW (fun j:Nat=>[(1,.pv (pi t)),(2,.pv (.ptr (zT g) 0)),(5,.pv (.fn (.func 90) [] [.ptr (zT g) 0])),(18,.pv (ints (Yt g t))),(19,.pv (pi (Yt g t).length)),(20,.pv (pi i)),(26,.pv (ints (methodsOf g f))),(27,.pv (pi (methodsOf g f).length)),(28,.pv (pi j))]) (fun _=>[])
    (fun j=>j≤(methodsOf g f).length∧((Yt g t).any fun f=>(methodsOf g f).any fun m=>zau g (VL g t m))=((((methodsOf g f).drop j).any fun m=>zau g (VL g t m))||((Yt g t).drop (i + 1)).any fun f=>(methodsOf g f).any fun m=>zau g (VL g t m))) (fun j=>(methodsOf g f).length - j) 0 ⟨by omega,hr⟩
    (by repeat (first|exact yZ|refine yS rfl ?_|(refine Zn rfl ?_ ?_;· simp))) tH ?_
   clear hr
   rintro j ⟨hj,hr⟩
   by_cases hjl:j < (methodsOf g f).length
   ·obtain ⟨m,hm⟩:∃ m,m=(methodsOf g f)[j]:=⟨_,rfl⟩
    have hem:((methodsOf g f).map pi)[j]?=some (pi m):=by rw [hm];exact yj (f:=pi) hjl
    have hmk:mOk g m:=by rw [hm];exact qM (List.getElem_mem hjl)
    have cf:=zoR g hF t m hmk hk
    have cv:=zfw g hF (VL g t m) (zpI hW hk)
    rw [zb3 hjl,←hm] at hr
    cases hop:zau g (VL g t m)
    ·rw [hop] at cv hr
     repeat' (first|(refine shC ?_;first|refine qC cf ?_|refine qV (cv) ?_)|(refine shX ?_;first|refine qX hem ?_)|refine sK ?_|refine sC (fun _=>?_) (fun _=>?_)|fail)
     exact ⟨j + 1,⟨hjl,hr⟩,tD,tS,tH⟩
    ·rw [hop] at cv hr
     repeat' (first|(refine shC ?_;first|refine qC cf ?_|refine qV (cv) ?_)|(refine shX ?_;first|refine qX hem ?_)|refine sK ?_|refine sC (fun _=>?_) (fun _=>?_)|fail)
     exact retq rfl (by rw [hr];rfl)
   ·rw [drop_end (by omega)] at hr
    repeat' (first|refine sK ?_|refine sC (fun _=>?_) (fun _=>?_)|fail)
    exact ⟨i + 1,⟨hlt,hr⟩,tD,tS,tH⟩
  ·rw [drop_end (by omega)] at hr
   repeat' (first|refine sK ?_|refine sC (fun _=>?_) (fun _=>?_)|fail)
   exact retq rfl (by rw [hr];rfl)
 ·rw [ho] at c2
  repeat' (first|(refine shC ?_;first|refine qC c1 ?_|refine qC c2 ?_)|refine sK ?_|refine sC (fun _=>?_) (fun _=>?_)|fail)
  exact retq rfl rfl
def zrO (t:Ty):Bool:=decide (t=⟨1,0,0,false⟩)||decide (t=⟨2,0,0,false⟩)||decide (t=⟨3,0,0,false⟩)
def zsw (m:Me):Bool:=qF m.flags 1&&!qF m.flags 4&&m.params.length==0&&zrO m.ret
theorem ztV {t:Ty} (hp:ZI t=true) (hr:t.ref=false):zrO t=(t.dims==0&&decide (1≤t.kind)&&decide (t.kind≤3)):=by
 obtain ⟨k,i,d,r⟩:=t
 simp only at hr
 subst hr
 rw [Bool.eq_iff_iff]
 simp only [zrO,Ty.mk.injEq,Bool.or_eq_true,decide_eq_true_eq,Bool.and_eq_true,beq_iff_eq,and_true]
 constructor
 ·omega
 ·rintro ⟨⟨h1,h2⟩,h3⟩
  have hk:k=1∨k=2∨k=3:=by omega
  rcases hk with rfl|rfl|rfl <;> simp_all [ZI]
set_option maxHeartbeats 1000000 in
theorem ziP (g:Img) (m:Me) (h:MeOk g m):ACall Tryz.prog 49 [yB m] (pb (zsw m)):=by
 obtain ⟨h1,_,h4,_,_⟩:=ztg h
 have e1:=Wp m.ret ⟨1,0,0,false⟩
 have e2:=Wp m.ret ⟨2,0,0,false⟩
 have e3:=Wp m.ret ⟨3,0,0,false⟩
 have hl:((((m.params.map yM).length:Nat):Int)==0)=(m.params.length==0):=by
  rw [List.length_map,Bool.eq_iff_iff];simp only [beq_iff_eq];omega
 refine zi zf Tryz.func49 rfl (by kernel_rfl) Tryz.ntmps49 (by simp) _ rfl (fun hw gB hgB=>?_)
 rw [zsw,zrO,←e1,←e2,←e3]
 generalize qF m.flags 1=b1 at h1 ⊢
 generalize qF m.flags 4=b4 at h4 ⊢
 clear e1 e2 e3
 repeat' (first|(refine shC ?_;first|refine qC h1 ?_|refine qC h4 ?_)|refine sA ?_|refine sC (fun _=>?_) (fun _=>?_)|fail)
 all_goals (refine retq rfl ?_;first|(simp_all [zy];done)|(simp_all [zy];intro hh;rcases hh with ⟨a1,a2,a3,a4⟩|⟨a1,a2,a3,a4⟩ <;> simp_all))
abbrev zez:=(Int × Int) × Int
def zjE (r:zez):PV:=.tup [.agg [pi r.1.1,pi r.1.2],pi r.2]
def stE (g:Img):zez:=if decide (0≤g.entry)&&!zsw (mAt g g.entry) then ((1,g.entry),11) else ((0,0),0)
def zqk (g:Img) (t:Int):Bool:=yt g t==3&&(methodsOf g t).length==0
def ztO (g:Img) (W:Int→Bool) (t:Int):Bool:=yt g t==0&&!qF (g.types.getD t.toNat default).flags 4&&!W t
def stD (g:Img):List Nat→zez
 | []=>stE g
 | t::ts=>if zqk g (t:Int) then ((0,(t:Int)),8) else stD g ts
def stC (g:Img) (W:Int→Bool):List Nat→zez
 | []=>stD g (List.range g.types.length)
 | t::ts=>if ztO g W (t:Int) then ((0,(t:Int)),18) else stC g W ts
def stM (g:Img):List Nat→zez
 | []=>stC g (fun t=>zba g t (zjY g t) (za6 g t)) (List.range g.types.length)
 | i::is=>if zli g (mAt g (i:Int)) then (if zhI g (mAt g (i:Int)) then stM g is else ((1,(i:Int)),10)) else ((1,(i:Int)),8)
def Za (g:Img):zez:=if zfc g then stM g (List.range g.methods.length) else ((0,0),17)
theorem zdl {n k:Nat} (h:k < n):(List.range n).drop k=k::(List.range n).drop (k + 1):=by
 rw [List.drop_eq_getElem_cons (by simpa using h)];simp
theorem zeN (n:Nat):(List.range n).drop n=[]:=List.drop_eq_nil_of_le (by simp)
theorem zcP {l l':List Int} {p q:Int→Bool} (h:∀ x,x∈l↔x∈l') (hp:∀ x∈l,p x=q x):l.any p=l'.any q:=by
 rw [Bool.eq_iff_iff,List.any_eq_true,List.any_eq_true]
 constructor
 ·rintro ⟨x,hx,hpx⟩;exact ⟨x,(h x).1 hx,by rw [←hp x hx];exact hpx⟩
 ·rintro ⟨x,hx,hpx⟩;exact ⟨x,(h x).2 hx,by rw [hp x ((h x).2 hx)];exact hpx⟩
theorem zpy {k:Int} {b1 b2 b4 b8 b16 rv f16 em nc m1 ab:Bool} (h:ze5 k b1 b2 b4 b8 b16 rv f16 em nc m1 ab=true) (hk:k=2):b2=true:=by
 subst hk
 cases b2
 ·cases b4
  ·simp [ze5] at h
  ·simp [ze5] at h
 ·rfl
theorem zrl {g:Img} (hF:Fine g) (hm:∀ i,i < g.methods.length→zli g (mAt g (i:Int))=true) (t:Int):zba g t (VL g t) (Yt g t)=zba g t (zjY g t) (za6 g t):=by
 have hFm:=zbO hF.formed
 have hW:=zf4 hF.well
 rw [zba,zba]
 congr 2
 refine zcP (fun f=>by rw [zhi hFm,zhw hFm]) fun f hf=>?_
 refine zcP (fun m=>Iff.rfl) fun m hmm=>?_
 have hk:yt g (zbs g m)=2:=by rw [zay hmm];exact hW.rf_kind ((zhi hFm).1 hf)
 have hmo:=qM hmm
 have h1:=hm m.toNat hmo.2
 rw [Int.toNat_of_nonneg hmo.1] at h1
 have hv:zeS g m=true:=zpy h1 hk
 rw [zjY,hk,hv];rfl
theorem zmu {g:Img} {k:Nat} (h:k < g.methods.length):mOk g (k:Int):=⟨by omega,by simpa using h⟩
theorem zs9 {g:Img} {k:Nat} (h:k < g.methods.length):(g.methods.map yB)[((k:Int)).toNat]?=some (yB (mAt g (k:Int))):=XT (zmu h)
theorem ztk {g:Img} {k:Nat} (h:k < g.types.length):(g.types.map Zl)[((k:Int)).toNat]?=some (Zl (g.types.getD ((k:Int)).toNat default)):=by
 have h':((k:Int)).toNat < g.types.length:=by simpa using h
 rw [zQ h'];exact YE h'
theorem zpN {g:Img} (hf:yJ g=true) (h:0≤g.entry):mOk g g.entry:=by
 simp only [yJ,Bool.and_eq_true,decide_eq_true_eq] at hf
 exact ⟨h,by omega⟩
theorem zoN {f:Int} (h0:0≤f) (h1:f≤31):(IntKind.i64.wrap ((BitVec.ofInt IntKind.i64.bits f &&& BitVec.ofInt IntKind.i64.bits 4).toNat:Int)==0)=!qF f 4:=by
 rw [←(zaR h0 h1).2.2.1,qJ,bne,Bool.not_not]
theorem zov {g:Img} (hf:yJ g=true) {k:Nat} (h:k < g.types.length):0≤(g.types.getD ((k:Int)).toNat default).flags∧(g.types.getD ((k:Int)).toNat default).flags≤31:=zlF hf (by omega) (by simpa using h)
theorem zql {l:List Int}:((((l.map pi).length:Nat):Int)==0)=(l.length==0):=by
 rw [List.length_map,Bool.eq_iff_iff];simp only [beq_iff_eq];omega
set_option maxHeartbeats 4000000 in
theorem zfe (g:Img) (hx:OkA g):ACall Tryz.prog 26 [zT g] (zjE (Za g)):=by
 have c0:=zmI g hx
 refine zi zf Tryz.func26 rfl (by kernel_rfl) Tryz.ntmps26 (by simp) _ rfl (fun hw gB hgB=>?_)
 cases hfi:zfc g
 ·rw [hfi] at c0
  repeat' (first|(refine shC ?_;first|refine qC c0 ?_)|refine sK ?_|refine sC (fun _=>?_) (fun _=>?_)|fail)
  exact retq rfl (by rw [Za,hfi];rfl)
 ·rw [hfi] at c0
  have hF:=Va hfi
  obtain ⟨hgt,_,hgm,_⟩:=yH hF.formed
  have hr0:Za g=stM g (List.range g.methods.length):=by rw [Za,hfi];rfl
  repeat' (first|(refine shC ?_;first|refine qC c0 ?_)|refine sK ?_|refine sC (fun _=>?_) (fun _=>?_)|fail)
  refine zW (fun k:Nat=>[(1,.pv (.ptr (zT g) 0)),(2,.box 0 0),(14,.pv (.slc 12 (g.methods.map yB) false)),(15,.pv (pi g.methods.length)),(16,.pv (pi k))]) (fun _=>[(0,.cell (.pv (.agg [pi 0,pi 0])))])
   (fun k=>k≤g.methods.length∧Za g=stM g ((List.range g.methods.length).drop k)∧∀ i,i < k→zli g (mAt g (i:Int))=true) (fun k=>g.methods.length - k) 0 ⟨by omega,hr0,fun i h=>by omega⟩ (by repeat (first|exact yZ|refine yS rfl ?_|(refine Zn rfl ?_ ?_;· simp))) tH ?_
  rintro k ⟨hk,hr,hall⟩
  by_cases hlt:k < g.methods.length
  ·have he:=zs9 hlt
   have hM:=QV hF.formed (zmu hlt)
   have cf:=zh1 g hF.formed _ hM
   have co:=zlW g hF.formed _ hM
   have ct:=zlK g hF.formed _ hM
   have hfe:=zsb hM
   rw [zdl hlt,stM] at hr
   cases hf:znL g (mAt g (k:Int))
   ·rw [hf] at cf hfe
    rw [←hfe] at hr
    repeat' (first|(refine shC ?_;first|refine qC cf ?_)|(refine shX ?_;first|refine qX he ?_)|refine sK ?_|refine sC (fun _=>?_) (fun _=>?_)|fail)
    exact retq rfl (by rw [hr];rfl)
   ·rw [hf] at cf hfe
    cases ho:zjF g (mAt g (k:Int))
    ·rw [ho] at co hfe
     rw [←hfe] at hr
     repeat' (first|(refine shC ?_;first|refine qC cf ?_|refine qC co ?_)|(refine shX ?_;first|refine qX he ?_)|refine sK ?_|refine sC (fun _=>?_) (fun _=>?_)|fail)
     exact retq rfl (by rw [hr];rfl)
    ·rw [ho] at co hfe
     have hfR:zli g (mAt g (k:Int))=true:=hfe.symm
     rw [hfR,if_pos rfl] at hr
     cases ht:zhI g (mAt g (k:Int))
     ·rw [ht] at ct hr
      repeat' (first|(refine shC ?_;first|refine qC cf ?_|refine qC co ?_|refine qC ct ?_)|(refine shX ?_;first|refine qX he ?_)|refine sK ?_|refine sC (fun _=>?_) (fun _=>?_)|fail)
      exact retq rfl (by rw [hr];rfl)
     ·rw [ht] at ct hr
      repeat' (first|(refine shC ?_;first|refine qC cf ?_|refine qC co ?_|refine qC ct ?_)|(refine shX ?_;first|refine qX he ?_)|refine sK ?_|refine sC (fun _=>?_) (fun _=>?_)|fail)
      exact ⟨k + 1,⟨hlt,hr,fun i hi=>by
       by_cases e:i=k
       ·subst e;exact hfR
       ·exact hall i (by omega)⟩,tD,tS,tH⟩
  ·have hk2:k=g.methods.length:=by omega
   subst hk2
   rw [zeN,stM] at hr
   have hwe:=fun t=>zrl hF hall t
   clear hall
   repeat' (first|refine sK ?_|refine sC (fun _=>?_) (fun _=>?_)|fail)
   refine zW (fun k:Nat=>[(1,.pv (.ptr (zT g) 0)),(2,.box 0 0),(43,.pv (.slc 4 (g.types.map Zl) false)),(44,.pv (pi g.types.length)),(45,.pv (pi k))]) (fun _=>[(0,.cell (.pv (.agg [pi 0,pi 0])))])
    (fun k=>k≤g.types.length∧Za g=stC g (fun t=>zba g t (zjY g t) (za6 g t)) ((List.range g.types.length).drop k)) (fun k=>g.types.length - k) 0 ⟨by omega,hr⟩ (by repeat (first|exact yZ|refine yS rfl ?_|(refine Zn rfl ?_ ?_;· simp))) tH ?_
   clear hr hk hlt
   rintro k ⟨hk,hr⟩
   by_cases hlt:k < g.types.length
   ·have he:=ztk hlt
    have hfl:=zov hF.formed hlt
    have hz:=zoN hfl.1 hfl.2
    have ck:=Zx g hF.formed (k:Int)
    rw [zdl hlt,stC,ztO] at hr
    by_cases hk0:yt g (k:Int)=0
    ·have cw:=zlq g hF (k:Int) hk0
     rw [hwe] at cw
     rw [hk0] at ck hr
     cases hb:qF (g.types.getD ((k:Int)).toNat default).flags 4
     ·rw [hb] at hz hr
      cases hw2:zba g (k:Int) (zjY g (k:Int)) (za6 g (k:Int))
      ·rw [hw2] at cw hr
       repeat' (first|(refine shC ?_;first|refine qC ck ?_|refine qC cw ?_)|(refine shX ?_;first|refine qX he ?_)|refine sK ?_|refine sC (fun _=>?_) (fun _=>?_)|fail)
       exact retq rfl (by rw [hr];rfl)
      ·rw [hw2] at cw hr
       repeat' (first|(refine shC ?_;first|refine qC ck ?_|refine qC cw ?_)|(refine shX ?_;first|refine qX he ?_)|refine sK ?_|refine sC (fun _=>?_) (fun _=>?_)|fail)
       exact ⟨k + 1,⟨hlt,hr⟩,tD,tS,tH⟩
     ·rw [hb] at hz hr
      repeat' (first|(refine shC ?_;first|refine qC ck ?_)|(refine shX ?_;first|refine qX he ?_)|refine sK ?_|refine sC (fun _=>?_) (fun _=>?_)|fail)
      exact ⟨k + 1,⟨hlt,hr⟩,tD,tS,tH⟩
    ·have hkb:(yt g (k:Int)==0)=false:=by simp [hk0]
     rw [hkb] at hr
     repeat' (first|(refine shC ?_;first|refine qC ck ?_)|(refine shX ?_;first|refine qX he ?_)|refine sK ?_|refine sC (fun _=>?_) (fun _=>?_)|fail)
     exact ⟨k + 1,⟨hlt,hr⟩,tD,tS,tH⟩
   ·have hk2:k=g.types.length:=by omega
    subst hk2
    rw [zeN,stC] at hr
    repeat' (first|refine sK ?_|refine sC (fun _=>?_) (fun _=>?_)|fail)
    refine zW (fun k:Nat=>[(1,.pv (.ptr (zT g) 0)),(2,.box 0 0),(71,.pv (pi g.types.length)),(72,.pv (pi k))]) (fun _=>[(0,.cell (.pv (.agg [pi 0,pi 0])))])
     (fun k=>k≤g.types.length∧Za g=stD g ((List.range g.types.length).drop k)) (fun k=>g.types.length - k) 0 ⟨by omega,hr⟩ (by repeat (first|exact yZ|refine yS rfl ?_|(refine Zn rfl ?_ ?_;· simp))) tH ?_
    clear hr hk hlt
    rintro k ⟨hk,hr⟩
    by_cases hlt:k < g.types.length
    ·have ck:=Zx g hF.formed (k:Int)
     have cm:=Yu g (k:Int) (by omega)
     have hlz:=zql (l:=methodsOf g (k:Int))
     rw [zdl hlt,stD,zqk] at hr
     by_cases hk3:yt g (k:Int)=3
     ·rw [hk3] at ck hr
      cases hb:(methodsOf g (k:Int)).length==0
      ·rw [hb] at hlz hr
       repeat' (first|(refine shC ?_;first|refine qC ck ?_|refine qC cm ?_)|refine sK ?_|refine sC (fun _=>?_) (fun _=>?_)|fail)
       exact ⟨k + 1,⟨hlt,hr⟩,tD,tS,tH⟩
      ·rw [hb] at hlz hr
       repeat' (first|(refine shC ?_;first|refine qC ck ?_|refine qC cm ?_)|refine sK ?_|refine sC (fun _=>?_) (fun _=>?_)|fail)
       exact retq rfl (by rw [hr];rfl)
     ·have hkb:(yt g (k:Int)==3)=false:=by simp [hk3]
      rw [hkb] at hr
      repeat' (first|(refine shC ?_;first|refine qC ck ?_)|refine sK ?_|refine sC (fun _=>?_) (fun _=>?_)|fail)
      exact ⟨k + 1,⟨hlt,hr⟩,tD,tS,tH⟩
    ·have hk2:k=g.types.length:=by omega
     subst hk2
     rw [zeN,stD,stE] at hr
     by_cases h0:0≤g.entry
     ·have hen:=zpN hF.formed h0
      have hem:=XT hen
      have cb:=ziP g _ (QV hF.formed hen)
      rw [decide_eq_true h0] at hr
      cases hb:zsw (mAt g g.entry)
      ·rw [hb] at cb hr
       repeat' (first|(refine shC ?_;first|refine qC cb ?_)|(refine shX ?_;first|refine zx rfl (zq zf rfl rfl rfl rfl rfl rfl h0 hem) rfl rfl ?_|refine AD.step _ _ _ _ _ rfl (zq zf rfl rfl rfl rfl rfl rfl h0 hem) rfl rfl ?_)|refine sK ?_|refine sC (fun _=>?_) (fun _=>?_)|fail)
       exact retq rfl (by rw [hr];rfl)
      ·rw [hb] at cb hr
       repeat' (first|(refine shC ?_;first|refine qC cb ?_)|(refine shX ?_;first|refine zx rfl (zq zf rfl rfl rfl rfl rfl rfl h0 hem) rfl rfl ?_|refine AD.step _ _ _ _ _ rfl (zq zf rfl rfl rfl rfl rfl rfl h0 hem) rfl rfl ?_)|refine sK ?_|refine sC (fun _=>?_) (fun _=>?_)|fail)
       exact retq rfl (by rw [hr];rfl)
     ·rw [decide_eq_false h0] at hr
      repeat' (first|refine sK ?_|refine sC (fun _=>?_) (fun _=>?_)|fail)
      exact retq rfl (by rw [hr];rfl)
end Go.Cg
namespace Go.Cg
set_option linter.unusedSectionVars false
open Go.Proofs
end Go.Cg
namespace Go.Cg
open Go.Proofs
end Go.Cg
namespace Go.Cg
set_option linter.unusedSectionVars false
open Go.Proofs
end Go.Cg
namespace Go.Cg
open Go.Proofs
theorem zsn {n:Nat} {l:List Cl} (hc:(YM n l).2=0) {c:Cl} (hm:c∈l):c.hf.toNat < n∧(c.kind=2→c.filter.toNat < n):=by
 obtain ⟨j,hj,rfl⟩:=List.getElem_of_mem hm
 have e:l.getD j default=l[j]:=zQ hj
 have ha:=(zeT hc).1 j hj
 have hok:=zbL ha
 have k2:=zj7 hc hj (y:=⟨j,2,(l.getD j default).hf,(l.getD j default).ht⟩) (by unfold yG;simp)
 rw [e] at hok k2
 have e1:=hok.h;have e2:=hok.h0
 simp only at k2
 refine ⟨by omega,fun hk=>?_⟩
 have:=hok.f hk
 omega
theorem zo8:∀ k:Fin 76,1≤k.val→WR (ofI (k.val:Int)).2.2=true→yN (k.val:Int)=5:=by decide
theorem zhS {m:Me} {i:Int} (h:WR (WJ m i)=true):yN (ql m i).op=5:=by
 unfold WJ at h
 split at h
 ·rename_i h1
  simp only [Bool.and_eq_true,decide_eq_true_eq] at h1
  have:=zo8 ⟨(ql m i).op.toNat,by omega⟩ (by simp only;omega)
  simp only [Int.toNat_of_nonneg (show 0≤(ql m i).op by omega)] at this
  exact this h
 ·simp [WR] at h
theorem zo7 {g:Img} {m:Me} (hf:ZA g m=true) {i:Int} (hi:i.toNat < m.code.length) (h:WR (WJ m i)=true):0≤(ql m i).arg∧(ql m i).arg.toNat < m.code.length:=by
 have h5:=zhS h
 unfold ZA Vg at hf
 simp only [Bool.and_eq_true] at hf
 have hx:=List.all_eq_true.1 hf.2.1.1.2 (ql m i) (by unfold ql;rw [zQ hi];exact List.getElem_mem hi)
 unfold codeOk at hx
 rw [h5] at hx
 simp only [Bool.and_eq_true,beq_self_eq_true,if_true,decide_eq_true_eq,beq_iff_eq] at hx
 have h0:0≤(ql m i).arg:=by
  have:=hx.1
  unfold XK at this
  rw [h5] at this
  split at this
  ·simp at this
  ·split at this
   ·simp at this
   ·rename_i h2;simp [zbW] at h2;omega
 have:=hx.2
 exact ⟨h0,by omega⟩
end Go.Cg
