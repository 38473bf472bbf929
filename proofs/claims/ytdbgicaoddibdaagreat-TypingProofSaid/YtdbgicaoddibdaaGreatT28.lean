/- A part of the walks by abstract values: no statement of its own. -/
import Derived.Test.YtdbgicaoddibdaaGreatT27
import Derived.Test.YtdbgicaoddibdaaGreatT15
set_option linter.unusedVariables false
set_option linter.unusedSimpArgs false
namespace Go.Cg
open Go.Proofs
set_option maxHeartbeats 20000000
theorem zX {α:Type} {tb:Tab} {rs:List ResultVar} {u:Value} {c:RC} {val:α→AV} {act:SM α} {l l':List Ty} {a:α} {ex:Exit} {env:Env} {H:HEnv} (h:act l=.ok (a,l')) (hr:zho tb rs (val a) (yN u c l') ex env H):zla tb rs (zvO u c val (act l)) ex env H:=by
 rw [h];exact hr
theorem zF {α:Type} {tb:Tab} {rs:List ResultVar} {u:Value} {c:RC} {val:α→AV} {act:SM α} {l:List Ty} {e:Int} {env:Env} {H:HEnv} (h:act l=.error e):zla tb rs (zvO u c val (act l)) (.panic [{ v:=flt e,recovered:=false }]) env H:=by
 rw [h];rfl
theorem zH {b:Bool} (h:b=true) (e:Int):ACall Tryz.prog 123 [pb b,pi e] (.tup []):=by
 subst h;refine zi zf Tryz.func123 rfl zws Tryz.ntmps123 zwy63 _ rfl (fun hw gB hgB=>?_)
 repeat' (first|refine sK ?_|refine sC (fun _=>?_) (fun _=>?_)|fail)
 exact zbf rfl rfl
theorem yc {b:Bool} (h:b=false) (e:Int):ACallPan Tryz.prog 123 [.pv (pb b),.pv (pi e)] [] (flt e):=by
 subst h;refine zaD Tryz.func123 rfl zws Tryz.ntmps123 zwy63 (fun gB hw1=>?_)
 repeat' (first|refine zl 1 2 rfl rfl rfl ?_|refine zy rfl (zky rfl Tryz.underlying105 rfl) rfl rfl ?_|refine zka rfl rfl rfl ?_|refine sK ?_|refine sC (fun _=>?_) (fun _=>?_)|fail)
 exact rfl
theorem zQ (k:Int):ACall Tryz.prog 119 [pi k] (yJ (kTy k)):=by
 refine zi zf Tryz.func119 rfl zws Tryz.ntmps119 zwy63 _ rfl (fun hw gB hgB=>?_)
 repeat' (first|refine sK ?_|refine sC (fun _=>?_) (fun _=>?_)|fail)
 exact retq rfl rfl
theorem zby (t:Ty):ACall Tryz.prog 124 [yJ t] (pb (nuT t)):=by
 refine zi zf Tryz.func124 rfl zws Tryz.ntmps124 zwy63 _ rfl (fun hw gB hgB=>?_)
 repeat' (first|(refine shC ?_;first|refine qC (zQ 2) ?_|refine qC (zQ 3) ?_)|refine sA ?_|refine sC (fun _=>?_) (fun _=>?_)|fail)
 all_goals first|(exact retq rfl (by simp_all [zC,nuT,tyB,kTy]))|trace_state
theorem ZX (t:Ty):ACall Tryz.prog 130 [yJ t] (yJ (rfT t)):=by
 refine zi zf Tryz.func130 rfl zws Tryz.ntmps130 zwy63 _ rfl (fun hw gB hgB=>?_)
 repeat' (first|(refine Qx ?_;first|refine WX 7 rfl rfl rfl rfl rfl rfl ?_)|refine sA ?_|refine sC (fun _=>?_) (fun _=>?_)|fail)
 exact retq rfl rfl
theorem YQ (m:Me) (k:Int):ACall Tryz.prog 126 [yh m,pi k] (pb (qL m.flags k)):=by
 refine zi zf Tryz.func126 rfl zws Tryz.ntmps126 zwy63 _ rfl (fun hw gB hgB=>?_)
 repeat' (first|refine sA ?_|refine sC (fun _=>?_) (fun _=>?_)|fail)
 exact retq rfl rfl
theorem zch (t:Ty):ACall Tryz.prog 132 [yJ t] (pb (zgq t)):=by
 refine zi zf Tryz.func132 rfl zws Tryz.ntmps132 zwy63 _ rfl (fun hw gB hgB=>?_);have c1:=zby t;rw [zgq];generalize nuT t=b at c1 ⊢
 repeat' (first|(refine shC ?_;first|refine qC c1 ?_)|refine sA ?_|refine sC (fun _=>?_) (fun _=>?_)|fail)
 all_goals first|(exact retq rfl (by simp_all [zC]))|trace_state
theorem yw {tb:Tab} {u:Value} {c:RC} {l:List Ty} {ex:Exit} {env:Env} {H:HEnv} (he:ex=.normal∨ex=.ret) (h:Yj H (yN u c l) []):zho tb [] (uV ()) (yN u c l) ex env H:=⟨he,.inl ⟨[],rfl,rfl,h⟩⟩
theorem zli {tb:Tab} {u:Value} {c:RC} {l:List Ty} {t:Ty} {rs:List ResultVar} {env:Env} {H:HEnv} (hr:VN tb H env rs=some [yJ t]) (h:Yj H (yN u c l) []):zho tb rs (tV t) (yN u c l) .ret env H:=⟨.inr rfl,.inl ⟨_,hr,rfl,h⟩⟩
theorem yg (c:RC) (l:List Ty) (hl:l.length≤1000):XC 122 [] c YU tV l:=by
 intro u;refine zI zf Tryz.func122 rfl zws Tryz.ntmps122 zwy63 _ rfl (fun gB hw1=>?_);by_cases h:l.length < 1
 ·have hp:YU l=.error 9:=by rw [YU,if_pos h]
  repeat' (first|refine zl 2 3 rfl rfl rfl ?_|refine zD ([]) zh rfl rfl rfl tH (yc rfl 9) ?_|(refine shC ?_;first|refine zy rfl (zJ rfl rfl (za7 l 1 (.inr zwy62))) rfl rfl ?_|refine zq rfl (zJ rfl rfl (za7 l 1 (.inr zwy62))) rfl rfl ?_)|refine sK ?_|refine sC (fun _=>?_) (fun _=>?_)|fail)
  exact zF hp
 ·have hp:YU l=.ok ((l.drop (l.length - 1)).headD default,l.take (l.length - 1)):=by rw [YU,if_neg h]
  have hd:(l.drop (l.length - 1)).length=1:=by simp;omega
  obtain ⟨t,ht⟩:=List.length_eq_one_iff.1 hd;rw [ht] at hp;have cp:=znG l 1 hl zwy62 zwy62;rw [show (1:Int).toNat=1 from rfl,ht] at cp
  repeat' (first|(refine shC ?_;first|refine qC cp ?_|refine qC (zH rfl 0) ?_)|(refine shX ?_;first|refine zy rfl (zo zf rfl rfl rfl rfl rfl rfl zwy67 rfl) rfl rfl ?_|refine zq rfl (zo zf rfl rfl rfl rfl rfl rfl zwy67 rfl) rfl rfl ?_)|refine sK ?_|refine sC (fun _=>?_) (fun _=>?_)|fail)
  exact zX hp (zli rfl tH)
set_option maxHeartbeats 20000000
theorem Yn (l:List Ty):YU l=.error 9∨∃ t l',YU l=.ok (t,l')∧l=l'++[t]:=by
 by_cases h:l.length < 1
 ·exact .inl (by rw [YU,if_pos h])
 ·refine .inr ?_;have hd:(l.drop (l.length - 1)).length=1:=by simp;omega
  obtain ⟨t,ht⟩:=List.length_eq_one_iff.1 hd;refine ⟨t,l.take (l.length - 1),by rw [YU,if_neg h,ht];rfl,?_⟩;rw [←ht,List.take_append_drop]
theorem zjg {l l':List Ty} {t:Ty} (h:YU l=.ok (t,l')):l.length=l'.length + 1:=by
 rcases Yn l with e|⟨t2,l2,e,e2⟩
 ·rw [e] at h;cases h
 ·rw [e] at h;cases h;rw [e2];simp
theorem zfe (sz:Nat) (es:List PV) (f:Bool):PTells (.slc sz es f) (.slc sz es false):=fun K w v h=>by
 cases h with
 | nil=>exact .nil sz false
 | emp _ _ a=>exact .emp sz false a
 | slc _ _ _ b o cap vss h0 h1 h2 h3 h4 h5 h6=>exact .slc sz es false b o cap vss h0 h1 zwy63 h3 h4 h5 h6
theorem ACall.tells {P:Program} {f:FuncId} {args args':List PV} {r:PV} (h:ACall P f args r) (ht:PTL args' args):ACall P f args' r :=
 ⟨h.stands,fun K w vs hl hv=>h.calls K w vs hl ⟨by rw [hv.1,ht.1],fun k c v hc hvv=>by
  have hlt:k < args'.length:=by rw [ht.1];exact (List.getElem?_eq_some_iff.1 hc).1
  exact ht.2 k _ c (List.getElem?_eq_getElem hlt) hc _ _ _ (hv.2 k _ v (List.getElem?_eq_getElem hlt) hvv)⟩⟩
abbrev tsV (ts:List Ty):AV:=.pv (.slc 4 (ts.map yJ) true)
theorem zU (c:RC) (ts l:List Ty) (hl:l.length≤200) (ht:ts.length≤200):XC 115 [tsV ts] c (yX c.m.max ts) uV l:=by
 intro u;refine zI zf Tryz.func115 rfl zws Tryz.ntmps115 zwy63 _ rfl (fun gB hw1=>?_);have htl:PTL [tys l,pi c.m.max,.slc 4 (ts.map yJ) true] [tys l,pi c.m.max,tys ts]:=ql (.refl _) (ql (.refl _) (ql (zfe _ _ _) XR));by_cases h:((l.length:Int) + (ts.length:Int))≤c.m.max
 ·have hp:yX c.m.max ts l=.ok ((),l++ts):=by rw [yX,if_pos h]
  have cp:=(zr3 l ts c.m.max hl ht h).tells htl
  repeat' (first|(refine shC ?_;first|refine qC cp ?_|refine qC (zH rfl 0) ?_)|refine sK ?_|refine sC (fun _=>?_) (fun _=>?_)|fail)
  exact zX hp (yw (.inl rfl) tH)
 ·have hp:yX c.m.max ts l=.error 9:=by rw [yX,if_neg h]
  have cp:=(zlm l ts c.m.max hl ht zwy62).tells htl
  repeat' (first|refine zl 1 3 rfl rfl rfl ?_|refine zD ([]) zh rfl rfl rfl tH (yc rfl 9) ?_|(refine shC ?_;first|refine qC cp ?_)|refine sK ?_|refine sC (fun _=>?_) (fun _=>?_)|fail)
  exact zF hp
theorem zuZ {K:KK} {w:World} {sz:Nat} {es:List PV} {f:Bool} {v:Value} (h:PRel K w (.slc sz es f) v):v.cells=#[v]∧v.oneCell'=true:=by
 cases h <;> exact ⟨rfl,rfl⟩
theorem zop (c:RC) (l:List Ty):Tells (.agg ((zZ c.g++(zhi c.m++(tys c.ar::(zcm c.x++[tys l])))).map .pv)) (.agg ((zZ c.g++(zhi c.m++(tys c.ar::zcm c.x))).map .pv++[.any1])):=fun K w ρ H v h=>by
 cases h with
 | agg _ vs h1 h2 h3 =>
  refine .agg _ vs zwy99 h2 fun k a v ha hv=>?_
  have hk:k < 24:=by have:=(List.getElem?_eq_some_iff.1 ha).1;simpa using this
  by_cases h23:k=23
  ·subst h23;have:=h3 23 (.pv (tys l)) v rfl hv;have e:a=.any1:=by simpa using ha.symm
   subst e;cases this with
   | pv _ _ hp =>
    obtain ⟨q1,q2⟩:=zuZ hp;exact .any1 _ q1 q2
  ·have e:((zZ c.g++(zhi c.m++(tys c.ar::(zcm c.x++[tys l])))).map AV.pv)[k]?=some a:=by
    rw [←ha,show zZ c.g++(zhi c.m++(tys c.ar::(zcm c.x++[tys l])))=(zZ c.g++(zhi c.m++(tys c.ar::zcm c.x)))++[tys l] by simp,List.map_append,List.getElem?_append_left zwy64,List.getElem?_append_left zwy64]
   exact h3 k a v e hv
section
variable {P:Program} {n:Nat} {g:Base} {H:HEnv} {env:Env} {ops:List Oper}
theorem Yf {QQ:QC} {id:Nat} (L k jc:Nat) (R:HEnv) (c:RC) (l l':List Ty) {oc:Oper} {tc:Nat} (rc:AV) (pan:Option Value) (hL:ops.length=L) (hok:Xd ops k=true) (hm:P.follows .mixedOrders=true) (hB:Qh (zS k ops 0) ((zS k ops 0).take k)=true) (hT:Xk (zS k ops 0) k=true) (hk:Nat.ble k (zS k ops 0).length=true)
  (hsp:(zS k ops 0).take k=(zS k ops 0).take jc++oc::((zS k ops 0).take k).drop (jc + 1)) (hjl:Nat.ble jc (zS k ops 0).length=true) (hd:oc.dst=some tc) (htc:Nat.blt tc n=true)
  (hH:Yj H ((0,XM c l)::R) env) (hke:QD ((0,VF c)::R) env=true) (hkk:qg ((0,VF c)::R) ((0,XM c l')::R)=true)
  (hp:∀ v,pan=some v→QQ (.panic [{ v:=v,recovered:=false }]) [] [])
  (h:AD P n g ((0,VF c)::R) (zS k ops 0) (fun env1=>(guardE (zS k ops 0) env1 oc=some true∧EStep P g ((0,XM c l)::R) ((0,XM c l')::R) ((0,VF c)::R) oc env1 rc pan)∧AD P n g ((0,VF c)::R) (zS k ops 0) (fun env'=>pan=none→AOX P n g (zS k ops 0).toArray ((zS k ops 0).drop k) env' ((0,XM c l')::R) QQ) (((zS k ops 0).take k).drop (jc + 1)) ((tc,rc)::env1)) ((zS k ops 0).take jc) env)
  (hnd:qU ops=true:=by kernel_rfl) (hr:Zx ((0,VF c)::R) rc=true:=by rfl):AW P n g (.region id ops.toArray true) env H QQ :=
 zmj L k jc ((0,XM c l)::R) ((0,XM c l')::R) ((0,VF c)::R) rc pan hL hok hm hB hT hk hsp hjl hd htc (fun _ _ _ hf=>zhD hf (zop c l)) (fun _ _ _ hf=>zhD hf (zop c l')) hkk hH hke hr hp h hnd
end
theorem zaB {α:Type} {g:Base} {f:FuncId} {args:List AV} {R:HEnv} {c:RC} {act:SM α} {val:α→AV} {l l':List Ty} {a:α} {o:Oper} {e:Env} {xs:Array Operand} {ts:Array TypeId} (h:XC f args c act val l) (he:act l=.ok (a,l'))
  (hop:o.op=.call { callee:=.value (.func f),args:=xs,argTypes:=ts }) (hargs:avs e xs.toList=some (.box 0 0::args)) (hk:qg ((0,VF c)::R) ((0,XM c l)::R)=true) (hk2:qg ((0,VF c)::R) (R++Wx [0])=true) (hr:Zx ((0,VF c)::R) (val a)=true) (hchk:YB [(0,XM c l)] [(0,XM c l')] R [0] (.box 0 0::args) [] (val a)=true) :
  EStep Tryz.prog g ((0,XM c l)::R) ((0,XM c l')::R) ((0,VF c)::R) o e (val a) none :=
 zmd [(0,XM c l)] [(0,XM c l')] R [0] zh hop hargs (fun _ _ h=>h) hk hk2 hr hchk (h.ok he)
theorem zfN {α:Type} {g:Base} {f:FuncId} {args:List AV} {u:Value} {R:HEnv} {c:RC} {act:SM α} {val:α→AV} {l:List Ty} {H1:HEnv} {er:Int} {r:AV} {o:Oper} {e:Env} {xs:Array Operand} {ts:Array TypeId} (h:XC f args c act val l) (he:act l=.error er)
  (hop:o.op=.call { callee:=.value (.func f),args:=xs,argTypes:=ts }) (hargs:avs e xs.toList=some (.box 0 0::args)) (hfit:Yj ((0,XM c l)::R) (yN u c l) []) (hin:YT (yN u c l) (.box 0 0::args)=true) :
  EStep Tryz.prog g ((0,XM c l)::R) H1 ((0,VF c)::R) o e r (some (flt er)) :=
 zrK (yN u c l) zh hop hargs hfit hin (h.bad he u)
theorem zwk45 {G:Prop} (h:G:=by repeat' (first|refine Yf 9 8 5 (zhs u) c l l' (tV x) none rfl zws zws zws zws zws rfl zws rfl rfl tH rfl rfl (fun v hv=>by cases hv) ?_|refine ⟨⟨rfl,zaB cp hp rfl rfl rfl rfl rfl rfl⟩,?_⟩|refine zy rfl (aj (ps:=(zZ c.g))) rfl rfl ?_|refine zq rfl (aj (ps:=(zZ c.g))) rfl rfl ?_|intro _|(have:=b0;refine zD [] zh rfl rfl rfl tH (yc hf 10) ?_)|(have:=b1;refine QL ?_)|(refine shC ?_;first|refine qC cf ?_|(have:=b1;refine qC (zH hf 10) ?_))|refine sK ?_|refine sC (fun _=>?_) (fun _=>?_)|exact zF hw|exact zX hw (yw (.inl rfl) tH)|fail)):G:=h
theorem qw (c:RC) (hF:Fm c.g) (t:Ty) (l:List Ty) (hl:l.length≤200):XC 116 [tV t] c (YL c.g t) uV l:=by
 intro u;refine zI zf Tryz.func116 rfl zws Tryz.ntmps116 zwy63 _ rfl (fun gB hw1=>?_);have cp:=yg c l zwy62;rcases Yn l with hp|⟨x,l',hp,_⟩
 ·have hw:YL c.g t l=.error 9:=zgj hp
  repeat' (first|refine Yf 9 8 5 (zhs u) c l l (tV t) (some (flt 9)) rfl zws zws zws zws zws rfl zws rfl rfl tH rfl rfl (fun v hv=>by cases hv;exact zF hw) ?_|refine ⟨⟨rfl,zfN (u:=u) cp hp rfl rfl tH rfl⟩,?_⟩|refine zy rfl (aj (ps:=(zZ c.g))) rfl rfl ?_|refine zq rfl (aj (ps:=(zZ c.g))) rfl rfl ?_|(intro h;cases h)|(refine shC ?_;first|refine qC (XF c.g t t hF) ?_)|refine sK ?_|refine sC (fun _=>?_) (fun _=>?_)|fail)
 ·have cf:=XF c.g x t hF;cases hf:ZO c.g x t
  ·have hw:YL c.g t l=.error 10:=by simp [YL,zB,hp,zL,hf]
   have b0:=();exact zwk45
  ·have hw:YL c.g t l=.ok ((),l'):=by simp [YL,zB,hp,zL,hf]
   have b1:=();exact zwk45
set_option maxHeartbeats 20000000
theorem zwk46 {G:Prop} (h:G:=by repeat' (first|(have:=b0;refine zl 1 1 rfl rfl rfl ?_)|(have:=b0;refine zD ((yN u c l)) zh rfl rfl rfl tH (c1.bad hp u) ?_)|(have:=b1;refine zl 1 3 rfl rfl rfl ?_)|(have:=b1;refine zD ((yN u c l1)) zh rfl rfl rfl tH (c2.bad hp2 u) ?_)|(have:=b1;refine zn ?_;first|(refine aA 0 (c1.ok hp) ?_))|(have:=b2;refine zl 2 7 rfl rfl rfl ?_)|(have:=b2;refine zD ([]) zh rfl rfl rfl tH (yc rfl 10) ?_)|(refine shC ?_;first|(have:=b3;refine qC cn ?_)|(have:=b4;refine qC (zH rfl 10) ?_))|(have:=b5;refine zn ?_;first|(refine aA 0 (c1.ok hp) ?_)|(refine aA 0 (c2.ok hp2) ?_))|refine sK ?_|refine sC (fun _=>?_) (fun _=>?_)|exact zF hw|exact zX hw (zli rfl tH)|fail)):G:=h
theorem YA (c:RC) (l:List Ty) (hl:l.length≤1000):XC 118 [] c Zv tV l:=by
 intro u;refine zI zf Tryz.func118 rfl zws Tryz.ntmps118 zwy63 _ rfl (fun gB hw1=>?_);have c1:=yg c l hl;rcases Yn l with hp|⟨b,l1,hp,e1⟩
 ·have hw:Zv l=.error 9:=zgj hp;have b0:=();exact zwk46
 ·have hl1:l1.length≤1000:=by have:=zjg hp;omega
  have c2:=yg c l1 hl1;rcases Yn l1 with hp2|⟨a,l2,hp2,e2⟩
  ·have hw:Zv l=.error 9:=by simp [Zv,zB,hp,hp2]
   have b1:=();exact zwk46
  ·have cn:=zby a;cases hab:tyB a b
   ·have hab':(a.kind==b.kind&&(a.index==b.index&&(a.dims==b.dims&&(a.ref==b.ref&&true))))=false:=hab;have hw:Zv l=.error 10:=by simp [Zv,zB,hp,hp2,zL,hab]
    have b2:=();have b5:=();exact zwk46
   ·have hab':(a.kind==b.kind&&(a.index==b.index&&(a.dims==b.dims&&(a.ref==b.ref&&true))))=true:=hab;cases hn:nuT a
    ·rw [hn] at cn;have hw:Zv l=.error 10:=by simp [Zv,zB,hp,hp2,zL,hab,hn]
     have b2:=();have b3:=();have b5:=();exact zwk46
    ·rw [hn] at cn;have hw:Zv l=.ok (a,l2):=by simp [Zv,zB,zG,hp,hp2,zL,hab,hn]
     have b3:=();have b4:=();have b5:=();exact zwk46
theorem zwk47 {G:Prop} (h:G:=by repeat' (first|(have:=b0;refine zl 1 1 rfl rfl rfl ?_)|(have:=b0;refine zD ((yN u c l)) zh rfl rfl rfl tH (c1.bad hp u) ?_)|(have:=b1;refine zl 2 2 rfl rfl rfl ?_)|(have:=b1;refine zD ([]) zh rfl rfl rfl tH (yc hn 10) ?_)|(refine shC ?_;first|(have:=b2;refine qC cn ?_)|(have:=b3;refine qC (zH hn 10) ?_))|(have:=b2;refine zn ?_;first|(refine aA 0 (c1.ok hp) ?_))|refine sK ?_|refine sC (fun _=>?_) (fun _=>?_)|exact zF hw|exact zX hw (zli rfl tH)|fail)):G:=h
theorem Yu (c:RC) (l:List Ty) (hl:l.length≤1000):XC 120 [] c zc5 tV l:=by
 intro u;refine zI zf Tryz.func120 rfl zws Tryz.ntmps120 zwy63 _ rfl (fun gB hw1=>?_);have c1:=yg c l hl;rcases Yn l with hp|⟨t,l1,hp,e1⟩
 ·have hw:zc5 l=.error 9:=zgj hp;have b0:=();exact zwk47
 ·have cn:=zby t;cases hn:nuT t
  ·have hw:zc5 l=.error 10:=by simp [zc5,zB,hp,zL,hn]
   have b1:=();have b2:=();exact zwk47
  ·have hw:zc5 l=.ok (t,l1):=by simp [zc5,zB,zG,hp,zL,hn]
   have b2:=();have b3:=();exact zwk47
theorem zwk48 {G:Prop} (h:G:=by repeat' (first|(have:=b0;refine zl 0 1 rfl rfl rfl ?_)|(have:=b0;refine zD ((yN u c l)) zh rfl rfl rfl tH (c1.bad hp u) ?_)|(have:=b1;refine zl 0 3 rfl rfl rfl ?_)|(have:=b1;refine zD ((yN u c l1)) zh rfl rfl rfl tH (c2.bad hp2 u) ?_)|(have:=b1;refine zn ?_;first|(refine aA 0 (c1.ok hp) ?_))|(have:=b2;refine zl 1 15 rfl rfl rfl ?_)|(have:=b2;refine zD ([]) zh rfl rfl rfl tH (yc rfl 10) ?_)|(refine shC ?_;first|(have:=b3;refine qC cn ?_)|(have:=b4;refine qC co ?_)|(have:=b5;refine qC co2 ?_)|(have:=b6;refine qC (zH rfl 10) ?_))|(have:=b7;refine zn ?_;first|(refine aA 0 (c1.ok hp) ?_)|(refine aA 0 (c2.ok hp2) ?_))|refine sK ?_|refine sC (fun _=>?_) (fun _=>?_)|exact zF hw|exact zX hw (yw (.inl rfl) tH)|fail)):G:=h
theorem Vj (c:RC) (l:List Ty) (hl:l.length≤1000):XC 121 [] c Zi uV l:=by
 intro u;refine zI zf Tryz.func121 rfl zws Tryz.ntmps121 zwy63 _ rfl (fun gB hw1=>?_);have c1:=yg c l hl;rcases Yn l with hp|⟨b,l1,hp,e1⟩
 ·have hw:Zi l=.error 9:=zgj hp;have b0:=();exact zwk48
 ·have hl1:l1.length≤1000:=by have:=zjg hp;omega
  have c2:=yg c l1 hl1;rcases Yn l1 with hp2|⟨a,l2,hp2,e2⟩
  ·have hw:Zi l=.error 9:=by simp [Zi,zB,hp,hp2]
   have b1:=();exact zwk48
  ·have cn:=zby a;have co:=qQ a;have co2:=qQ b;cases hab:tyB a b
   ·have hab':(a.kind==b.kind&&(a.index==b.index&&(a.dims==b.dims&&(a.ref==b.ref&&true))))=false:=hab;cases ho:object a
    ·rw [ho] at co;have hw:Zi l=.error 10:=by simp [Zi,zB,hp,hp2,zL,hab,ho]
     have b2:=();have b4:=();have b7:=();exact zwk48
    ·rw [ho] at co;cases ho2:object b
     ·rw [ho2] at co2;have hw:Zi l=.error 10:=by simp [Zi,zB,hp,hp2,zL,hab,ho,ho2]
      have b2:=();have b4:=();have b5:=();have b7:=();exact zwk48
     ·rw [ho2] at co2;have hw:Zi l=.ok ((),l2):=by simp [Zi,zB,hp,hp2,zL,hab,ho,ho2]
      have b4:=();have b5:=();have b6:=();have b7:=();exact zwk48
   ·have hab':(a.kind==b.kind&&(a.index==b.index&&(a.dims==b.dims&&(a.ref==b.ref&&true))))=true:=hab;cases hn:nuT a
    ·rw [hn] at cn;cases ho:object a
     ·rw [ho] at co;have hw:Zi l=.error 10:=by simp [Zi,zB,hp,hp2,zL,hab,hn,ho]
      have b2:=();have b3:=();have b4:=();have b7:=();exact zwk48
     ·rw [ho] at co;cases ho2:object b
      ·rw [ho2] at co2;have hw:Zi l=.error 10:=by simp [Zi,zB,hp,hp2,zL,hab,hn,ho,ho2]
       have b2:=();have b3:=();have b4:=();have b5:=();have b7:=();exact zwk48
      ·rw [ho2] at co2;have hw:Zi l=.ok ((),l2):=by simp [Zi,zB,hp,hp2,zL,hab,hn,ho,ho2]
       have b3:=();have b4:=();have b5:=();have b6:=();have b7:=();exact zwk48
    ·rw [hn] at cn;have hw:Zi l=.ok ((),l2):=by simp [Zi,zB,hp,hp2,zL,hab,hn]
     have b3:=();have b6:=();have b7:=();exact zwk48
theorem zwk49 {G:Prop} (h:G:=by repeat' (first|(have:=b0;refine zl 1 3 rfl rfl rfl ?_)|(have:=b0;refine zD ([]) zh rfl rfl rfl tH (yc rfl 9) ?_)|(have:=b1;refine zl 2 7 rfl rfl rfl ?_)|(have:=b1;refine zD ([]) zh rfl rfl rfl tH (yc hf 10) ?_)|(have:=b2;refine zy rfl (aj (ps:=(zZ c.g))) rfl rfl ?_)|(have:=b2;refine zq rfl (aj (ps:=(zZ c.g))) rfl rfl ?_)|(refine shC ?_;first|(have:=b0;refine zy rfl (zJ rfl rfl (za7 l ((ls.map yJ).length:Int) (.inr zwy64))) rfl rfl ?_)|(have:=b0;refine zq rfl (zJ rfl rfl (za7 l ((ls.map yJ).length:Int) (.inr zwy64))) rfl rfl ?_)|(have:=b2;refine qC cp ?_)|(have:=b2;refine qC (zH rfl 0) ?_)|(have:=b3;refine qC (zH hf 10) ?_)|(have:=b2;refine qC cf ?_))|refine sK ?_|refine sC (fun _=>?_) (fun _=>?_)|exact zF hw|exact zX hw (yw (.inl rfl) tH)|fail)):G:=h
theorem YH (c:RC) (hF:Fm c.g) (ls l:List Ty) (hl:l.length≤1000):XC 127 [.pv (tys ls)] c (ZN c.g ls) uV l:=by
 intro u;refine zI zf Tryz.func127 rfl zws Tryz.ntmps127 zwy63 _ rfl (fun gB hw1=>?_);by_cases h:l.length < ls.length
 ·have hw:ZN c.g ls l=.error 9:=by rw [ZN,if_pos h]
  have b0:=();exact zwk49
 ·have cp:=znG l ((ls.map yJ).length:Int) hl zwy62 zwy64;rw [show (((ls.map yJ).length:Nat):Int).toNat=ls.length by simp] at cp;have cf:=XE c.g (l.drop (l.length - ls.length)) ls hF;cases hf:Zl c.g (l.drop (l.length - ls.length)) ls
  ·have hw:ZN c.g ls l=.error 10:=by rw [ZN,if_neg h,hf];rfl
   have b1:=();have b2:=();exact zwk49
  ·have hw:ZN c.g ls l=.ok ((),l.take (l.length - ls.length)):=by rw [ZN,if_neg h,hf];rfl
   have b2:=();have b3:=();exact zwk49
theorem Zf (c:RC) (ls l:List Ty) (h0:0≤c.x.arg):XC 114 [.pv (tys ls)] c (zaN c.x ls) tV l:=by
 intro u;refine zI zf Tryz.func114 rfl zws Tryz.ntmps114 zwy63 _ rfl (fun gB hw1=>?_);by_cases h:c.x.arg < ls.length
 ·have hw:zaN c.x ls l=.ok (ls.getD c.x.arg.toNat default,l):=by simp [zaN,zB,zG,zL,h]
  have hlt:c.x.arg.toNat < ls.length:=by omega
  have he:(ls.map yJ)[c.x.arg.toNat]?=some (yJ (ls.getD c.x.arg.toNat default)):=by rw [zT hlt];exact zY hlt
  repeat' (first|(refine shC ?_;first|refine zy rfl (zJ rfl rfl (zH zwy64 3)) rfl rfl ?_|refine zq rfl (zJ rfl rfl (zH zwy64 3)) rfl rfl ?_)|(refine shX ?_;first|refine zy rfl (ah h0 he) rfl rfl ?_|refine zq rfl (ah h0 he) rfl rfl ?_)|refine sK ?_|refine sC (fun _=>?_) (fun _=>?_)|fail)
  exact zX hw (zli rfl tH)
 ·have hw:zaN c.x ls l=.error 3:=by simp [zaN,zB,zL,h]
  repeat' (first|refine zl 1 8 rfl rfl rfl ?_|refine zD ([]) zh rfl rfl rfl tH (yc zwy64 3) ?_|refine sK ?_|refine sC (fun _=>?_) (fun _=>?_)|fail)
  exact zF hw
theorem zwk50 {G:Prop} (h:G:=by repeat' (first|(have:=b0;refine zl 2 4 rfl rfl rfl ?_)|(have:=b0;refine zD ((yN u c l)) zh rfl rfl rfl tH (cp.bad hp u) ?_)|(refine shC ?_;first|(have:=b1;refine zy rfl (zJ rfl rfl (zH zwy88 13)) rfl rfl ?_)|(have:=b1;refine zq rfl (zJ rfl rfl (zH zwy88 13)) rfl rfl ?_)|(have:=b1;refine qC cr ?_))|(have:=b2;refine zn ?_;first|(refine aA 0 (cp.ok hp) ?_))|(have:=b3;refine zl 1 3 rfl rfl rfl ?_)|(have:=b3;refine zD ([]) zh rfl rfl rfl tH (yc zwy88 13) ?_)|refine sK ?_|refine sC (fun _=>?_) (fun _=>?_)|exact zF hw|exact zX hw (yw (.inl rfl) tH)|fail)):G:=h
theorem VR (c:RC) (t:Ty) (l:List Ty) (hl:l.length≤200):XC 117 [tV t] c (Qn c.m.max t) uV l:=by
 intro u;refine zI zf Tryz.func117 rfl zws Tryz.ntmps117 zwy63 _ rfl (fun gB hw1=>?_);have cr:=ZX t;have cp:=zU c [rfT t] l hl zwy63;cases h:t.ref
 ·cases hp:yX c.m.max [rfT t] l with
  | error e =>
   have hw:Qn c.m.max t l=.error e:=by simp [Qn,zB,zL,h,hp]
   have b0:=();have b1:=();exact zwk50
  | ok p =>
   obtain ⟨⟨⟩,l'⟩:=p;have hw:Qn c.m.max t l=.ok ((),l'):=by simp [Qn,zB,zL,h,hp]
   have b1:=();have b2:=();exact zwk50
 ·have hw:Qn c.m.max t l=.error 13:=by simp [Qn,zB,zL,h]
  have b3:=();exact zwk50
theorem zwk51 {G:Prop} (h:G:=by repeat' (first|(have:=b0;refine zl 2 4 rfl rfl rfl ?_)|(have:=b0;refine zD ((yN u c l)) zh rfl rfl rfl tH (cp.bad hp u) ?_)|(have:=b1;refine zn ?_;first|(refine aA 0 (cp.ok hp) ?_))|refine sK ?_|refine sC (fun _=>?_) (fun _=>?_)|exact zX hw (yw (.inl rfl) tH)|exact zF hw|fail)):G:=h
theorem zaR (c:RC) (d:Me) (l:List Ty) (hl:l.length≤200):XC 128 [.pv (yh d)] c (QE c.m.max d) uV l:=by
 intro u;refine zI zf Tryz.func128 rfl zws Tryz.ntmps128 zwy63 _ rfl (fun gB hw1=>?_);have cp:=zU c [d.ret] l hl zwy63;cases h:(d.ret.kind != 1)
 ·have hw:QE c.m.max d l=.ok ((),l):=by simp [QE,h,zG]
  exact zwk51
 ·cases hp:yX c.m.max [d.ret] l with
  | error e =>
   have hw:QE c.m.max d l=.error e:=by simp [QE,h,hp]
   have b0:=();exact zwk51
  | ok p =>
   obtain ⟨⟨⟩,l'⟩:=p;have hw:QE c.m.max d l=.ok ((),l'):=by simp [QE,h,hp]
   have b1:=();exact zwk51
theorem zvn {tb:Tab} {u:Value} {c:RC} {l:List Ty} {t:Ty} {p:PV} {rs:List ResultVar} {env:Env} {H:HEnv} (hr:VN tb H env rs=some [p]) (e:p=yJ t) (h:Yj H (yN u c l) []):zho tb rs (tV t) (yN u c l) .ret env H:=⟨.inr rfl,.inl ⟨_,hr,by rw [e];rfl,h⟩⟩
theorem zwk52 {G:Prop} (h:G:=by repeat' (first|refine zy rfl (aj (ps:=(yO c.x.t))) rfl rfl ?_|refine zq rfl (aj (ps:=(yO c.x.t))) rfl rfl ?_|(refine shC ?_;first|(have:=b0;refine zy rfl (zJ rfl rfl (zH (by rw [hwr];simpa using h) 6)) rfl rfl ?_)|(have:=b0;refine zq rfl (zJ rfl rfl (zH (by rw [hwr];simpa using h) 6)) rfl rfl ?_))|(have:=b1;refine zl 3 3 rfl rfl rfl ?_)|(have:=b1;refine zD ([]) zh rfl rfl rfl tH (yc (by rw [hwr];simpa using h) 6) ?_)|refine sK ?_|refine sC (fun _=>?_) (fun _=>?_)|(have:=b0;exact zX hw (zvn rfl (by simp only [yJ];congr 1;simp [hwr,AV.flat]) tH))|exact zF hw|fail)):G:=h
theorem Zj (c:RC) (l:List Ty) (h0:0≤c.x.t.dims) (h1:c.x.t.dims≤100):XC 131 [] c (WE c.x) tV l:=by
 intro u;refine zI zf Tryz.func131 rfl zws Tryz.ntmps131 zwy63 _ rfl (fun gB hw1=>?_);have hwr:IntKind.i64.wrap (c.x.t.dims + 1)=c.x.t.dims + 1:=wrap_in zwy62 zwy62;by_cases h:c.x.t.dims + 1≤3
 ·have hw:WE c.x l=.ok (⟨c.x.t.kind,c.x.t.index,c.x.t.dims + 1,c.x.t.ref⟩,l):=by simp [WE,zB,zG,zL,h]
  have b0:=();exact zwk52
 ·have hw:WE c.x l=.error 6:=by simp [WE,zB,zL,h]
  have b1:=();exact zwk52
set_option maxHeartbeats 20000000
theorem zwv {tb:Tab} {u:Value} {c:RC} {l:List Ty} {d:Me} {rs:List ResultVar} {env:Env} {H:HEnv} (hr:VN tb H env rs=some [yh d]) (h:Yj H (yN u c l) []):zho tb rs (.pv (yh d)) (yN u c l) .ret env H:=⟨.inr rfl,.inl ⟨_,hr,rfl,h⟩⟩
theorem zaU (c:RC) (l:List Ty) (h0:0≤c.x.arg) (h1:c.x.arg.toNat < c.g.methods.length):XC 125 [] c (pure (mAt c.g c.x.arg):SM Me) (fun d=>.pv (yh d)) l:=by
 intro u;refine zI zf Tryz.func125 rfl zws Tryz.ntmps125 zwy63 _ rfl (fun gB hw1=>?_);have he:(c.g.methods.map yh)[c.x.arg.toNat]?=some (yh (mAt c.g c.x.arg)):=by rw [mAt,zT h1];exact zY h1
 repeat' (first|refine zV 13 12 rfl zws zws zws zws zws ?_|(refine shX ?_;first|refine zy rfl (ah h0 he) rfl rfl ?_|refine zq rfl (ah h0 he) rfl rfl ?_)|refine sK ?_|refine sC (fun _=>?_) (fun _=>?_)|fail)
 exact zX (val:=fun d=>.pv (yh d)) (act:=(pure (mAt c.g c.x.arg):SM Me)) (a:=mAt c.g c.x.arg) (l':=l) rfl (zwv (d:=mAt c.g c.x.arg) (c:=c) (l:=l) rfl tH)
abbrev zxd (o:Int):Ty:=⟨5,o,0,false⟩
abbrev zwU (o:Int):Ty:=⟨6,o,0,false⟩
theorem zwk53 {G:Prop} (h:G:=by repeat' (first|(have:=b0;refine zl 1 1 rfl rfl rfl ?_)|(have:=b0;refine zD ((yN u c l)) zh rfl rfl rfl tH (c1.bad hp u) ?_)|(have:=b1;refine zy rfl (aj (ps:=(zZ c.g))) rfl rfl ?_)|(have:=b1;refine zq rfl (aj (ps:=(zZ c.g))) rfl rfl ?_)|(have:=b2;refine yV 13 12 rfl zws zws zws zws zws ?_)|(have:=b3;refine zD ([]) zh rfl rfl rfl tH (yc rfl 10) ?_)|(have:=b4;refine zD ([]) zh rfl rfl rfl tH (yc hb 10) ?_)|(have:=b5;refine yV 10 9 rfl zws zws zws zws zws ?_)|(have:=b5;refine zD ([]) zh rfl rfl rfl tH (yc hf 10) ?_)|(refine shC ?_;first|(have:=b1;refine qC ck ?_)|(have:=b6;refine qC cr ?_)|(have:=b7;refine qC (zH hb 10) ?_)|(have:=b8;refine qC (zH rfl 10) ?_)|(have:=b9;refine qC cf ?_)|(have:=b10;refine qC (zH hf 10) ?_))|(have:=b1;refine zn ?_;first|(refine aA 0 (c1.ok hp) ?_))|refine sK ?_|refine sC (fun _=>?_) (fun _=>?_)|exact zF hw|exact zX hw (yw (.inr rfl) tH)|exact zX hw (yw (.inl rfl) tH)|fail)):G:=h
theorem YZ (c:RC) (hF:Fm c.g) (f:Fd) (it:Bool) (l:List Ty) (hl:l.length≤1000):XC 129 [.pv (Yo f),.pv (pb it)] c (Zq c.g f it) uV l:=by
 intro u;refine zI zf Tryz.func129 rfl zws Tryz.ntmps129 zwy63 _ rfl (fun gB hw1=>?_);have c1:=yg c l hl;rcases Yn l with hp|⟨t,l1,hp,e1⟩
 ·have hw:Zq c.g f it l=.error 9:=zgj hp;have b0:=();exact zwk53
 ·have ck:=Qb c.g f.owner;by_cases hk:Yh c.g f.owner=1
  ·rw [hk] at ck;have cr:=ZX (zwU f.owner);cases ha:tyB t (rfT (zwU f.owner))
   ·have ha':(t.kind==6&&(t.index==f.owner&&(t.dims==0&&(t.ref==true&&true))))=false:=ha;cases it
    ·have hw:Zq c.g f false l=.error 10:=by simp [Zq,zB,hp,zL,hk,ha]
     have b1:=();have b2:=();have b3:=();have b6:=();exact zwk53
    ·cases hb:tyB t (zwU f.owner)
     ·have hb':(t.kind==6&&(t.index==f.owner&&(t.dims==0&&(t.ref==false&&true))))=false:=hb;have hw:Zq c.g f true l=.error 10:=by simp [Zq,zB,hp,zL,hk,ha,hb]
      have b1:=();have b2:=();have b4:=();have b6:=();exact zwk53
     ·have hb':(t.kind==6&&(t.index==f.owner&&(t.dims==0&&(t.ref==false&&true))))=true:=hb;have hw:Zq c.g f true l=.ok ((),l1):=by simp [Zq,zB,hp,zL,hk,ha,hb]
      have b1:=();have b6:=();have b7:=();exact zwk53
   ·have ha':(t.kind==6&&(t.index==f.owner&&(t.dims==0&&(t.ref==true&&true))))=true:=ha;have hw:Zq c.g f it l=.ok ((),l1):=by simp [Zq,zB,hp,zL,hk,ha]
    have b1:=();have b6:=();have b8:=();exact zwk53
  ·have hk':(Yh c.g f.owner==1)=false:=beq_eq_false_iff_ne.2 hk;have cf:=XF c.g t (zxd f.owner) hF;cases hf:ZO c.g t (zxd f.owner)
   ·have hw:Zq c.g f it l=.error 10:=by simp [Zq,zB,hp,zL,hk,hf]
    have b1:=();have b5:=();have b9:=();exact zwk53
   ·have hw:Zq c.g f it l=.ok ((),l1):=by simp [Zq,zB,hp,zL,hk,hf]
    have b1:=();have b9:=();have b10:=();exact zwk53
def LeS {α:Type} (act:SM α):Prop:=∀ l a l',act l=.ok (a,l')→l'.length≤l.length
theorem Wp {α β:Type} {x:SM α} {f:α→SM β} (hx:LeS x) (hf:∀ a,LeS (f a)):LeS (x >>= f):=fun l b l' h=>by
 rw [zB] at h;cases hxl:x l with
 | error e=>rw [hxl] at h;cases h
 | ok p =>
  obtain ⟨a,l1⟩:=p;rw [hxl] at h;exact Nat.le_trans (hf a l1 b l' h) (hx l a l1 hxl)
theorem zb9 {α:Type} (a:α):LeS (pure a:SM α):=fun l b l' h=>by rw [zG] at h;cases h;exact Nat.le_refl _
theorem WT (b:Bool) (e:Int):LeS (zL b e):=fun l a l' h=>by
 unfold zL at h;split at h
 ·cases h;exact Nat.le_refl _
 ·cases h
theorem empty_le (e:Int):LeS (emptyS e):=fun l a l' h=>by
 unfold emptyS at h;split at h
 ·cases h;exact Nat.le_refl _
 ·cases h
theorem zbh:LeS YU:=fun l a l' h=>by have:=zjg h;omega
theorem zlx (g:Img) (t:Ty):LeS (YL g t):=Wp zbh fun _=>WT _ _
theorem zi3 (g:Img) (ls:List Ty):LeS (ZN g ls):=fun l a l' h=>by
 unfold ZN at h;split at h
 ·cases h
 ·split at h
  ·cases h;simp
  ·cases h
theorem Xx {l l':List Ty} {a:Ty} (h:YU l=.ok (a,l')):l'.length≤l.length:=zbh l a l' h
theorem zat {x:Ins} {ls l l':List Ty} {a:Ty} (h:zaN x ls l=.ok (a,l')):l'.length≤l.length:=Wp (WT _ _) (fun _=>zb9 _) l a l' h
theorem za2 {l l':List Ty} {a:Ty} (h:Zv l=.ok (a,l')):l'.length≤l.length:=Wp zbh (fun _=>Wp zbh fun _=>Wp (WT _ _) fun _=>zb9 _) l a l' h
theorem zfq {l l':List Ty} {a:Ty} (h:zc5 l=.ok (a,l')):l'.length≤l.length:=Wp zbh (fun _=>Wp (WT _ _) fun _=>zb9 _) l a l' h
theorem zes {l l':List Ty} (h:Zi l=.ok ((),l')):l'.length≤l.length:=Wp zbh (fun _=>Wp zbh fun _=>WT _ _) l () l' h
theorem Vx {g:Img} {t:Ty} {l l':List Ty} (h:YL g t l=.ok ((),l')):l'.length≤l.length:=zlx g t l () l' h
theorem WC {g:Img} {ls:List Ty} {l l':List Ty} (h:ZN g ls l=.ok ((),l')):l'.length≤l.length:=zi3 g ls l () l' h
theorem zbO {g:Img} {f:Fd} {it:Bool} {l l':List Ty} (h:Zq g f it l=.ok ((),l')):l'.length≤l.length:=Wp zbh (fun _=>by split <;> exact WT _ _) l () l' h
theorem zbt {x:Ins} {l l':List Ty} {a:Ty} (h:WE x l=.ok (a,l')):l'.length≤l.length:=Wp (WT _ _) (fun _=>zb9 _) l a l' h
theorem XC.tells {α:Type} {f:FuncId} {c:RC} {act:SM α} {val:α→AV} {l:List Ty} {p p':PV} (h:XC f [.pv p] c act val l) (ht:PTells p' p):XC f [.pv p'] c act val l:=fun u=>by
 have key:∀ {K:KK} {w:World} {ρ:Nat→Value} {H:HEnv} {vs:List Value},Yx K w ρ H [.box 0 0,.pv p'] vs→Yx K w ρ H [.box 0 0,.pv p] vs:=fun hv=>⟨hv.1,fun k c v hc hvv=>by
  match k with
  | 0=>exact hv.2 0 c v hc hvv
  | 1 =>
   simp at hc;subst hc;have:=hv.2 1 (.pv p') v rfl hvv;cases this with|pv _ _ hp=>exact .pv _ _ (ht _ _ _ hp)
  | k + 2=>simp at hc⟩
 have hu:=h u;cases ho:zvO u c val (act l) with
 | ret r H' =>
  rw [ho] at hu;exact ⟨hu.stands,fun g K ρ w vs hw1 hf hv=>hu.calls g K ρ w vs hw1 hf (key hv)⟩
 | pan v =>
  rw [ho] at hu;exact ⟨hu.stands,fun g K ρ w vs hw1 hf hv=>hu.calls g K ρ w vs hw1 hf (key hv)⟩
theorem Ye (c:RC) (hF:Fm c.g) (ls l:List Ty) (hl:l.length≤1000):XC 127 [tsV ls] c (ZN c.g ls) uV l:=(YH c hF ls l hl).tells (zfe _ _ _)
abbrev zwI (c:RC):HE:=.cell (.agg ((zZ c.g++(zhi c.m++(tys c.ar::(zcm c.x++[.base (.slice none 0 0)])))).map .pv))
abbrev rHN (u:Value) (c:RC):HEnv:=(0,zwI c)::zhs u
def zo7 (u:Value) (c:RC):Except Int (Unit × List Ty)→Out
 | .error e=>.pan (flt e)
 | .ok _=>.ret (.pv (.tup [])) (rHN u c)
theorem zfE {tb:Tab} {rs:List ResultVar} {u:Value} {c:RC} {act:SM Unit} {l:List Ty} {p:Unit × List Ty} {ex:Exit} {env:Env} {H:HEnv} (h:act l=.ok p) (hr:zho tb rs (.pv (.tup [])) (rHN u c) ex env H):zla tb rs (zo7 u c (act l)) ex env H:=by
 rw [h];exact hr
theorem zaA {tb:Tab} {rs:List ResultVar} {u:Value} {c:RC} {act:SM Unit} {l:List Ty} {e:Int} {env:Env} {H:HEnv} (h:act l=.error e):zla tb rs (zo7 u c (act l)) (.panic [{ v:=flt e,recovered:=false }]) env H:=by
 rw [h];rfl
theorem zhO {tb:Tab} {u:Value} {c:RC} {ex:Exit} {env:Env} {H:HEnv} (he:ex=.normal∨ex=.ret) (h:Yj H (rHN u c) []):zho tb [] (.pv (.tup [])) (rHN u c) ex env H:=⟨he,.inl ⟨[],rfl,rfl,h⟩⟩
theorem ztU (c:RC):Tells (.agg ((zZ c.g++(zhi c.m++(tys c.ar::(zcm c.x++[.base (.slice none 0 0)])))).map .pv)) (.agg ((zZ c.g++(zhi c.m++(tys c.ar::(zcm c.x++[tys []])))).map .pv)):=fun K w ρ H v h=>by
 cases h with
 | agg _ vs h1 h2 h3 =>
  refine .agg _ vs zwy99 h2 fun k a v ha hv=>?_
  have hk:k < 24:=by have:=(List.getElem?_eq_some_iff.1 ha).1;simpa using this
  by_cases h23:k=23
  ·subst h23;have:=h3 23 (.pv (.base (.slice none 0 0))) v rfl hv;have e:a=.pv (tys []):=by simpa using ha.symm
   subst e;exact Qy 4 false _ _ _ _ _ this
  ·have e1:∀ x:PV,zZ c.g++(zhi c.m++(tys c.ar::(zcm c.x++[x])))=(zZ c.g++(zhi c.m++(tys c.ar::zcm c.x)))++[x]:=fun x=>by simp
   rw [e1,List.map_append,List.getElem?_append_left zwy64] at ha;refine h3 k a v ?_ hv;rw [e1,List.map_append,List.getElem?_append_left zwy64];exact ha
theorem zhE {f:FuncId} {c:RC} {act:SM Unit} {l:List Ty} (hn:∀ p,act l=.ok p→p.2=[]) (h:∀ u,Qe Tryz.prog f [.box 0 0] (yN u c l) (zo7 u c (act l))):XC f [] c act uV l:=fun u=>by
 have hu:=h u;cases ho:act l with
 | error e=>rw [ho] at hu;exact hu
 | ok p =>
  rw [ho] at hu;have hp:=hn p ho;obtain ⟨⟨⟩,l'⟩:=p;simp only at hp;subst hp;exact ⟨hu.stands,fun g K ρ w vs hw1 hf hv=>(hu.calls g K ρ w vs hw1 hf hv).mono fun e w' ⟨v,K',ρ',e1,hf',hr⟩=>⟨v,K',ρ',e1,zhD hf' (ztU c),by
   cases hr with|pv _ _ hp=>exact .pv _ _ hp⟩⟩
end Go.Cg
