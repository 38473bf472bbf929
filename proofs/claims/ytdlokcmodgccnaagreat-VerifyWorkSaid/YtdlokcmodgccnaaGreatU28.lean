/- A part of the walks by abstract values: no statement of its own. -/
import Derived.Test.YtdlokcmodgccnaaGreatU26
import Derived.Test.YtdlokcmodgccnaaGreatU27
import Derived.Test.YtdlokcmodgccnaaGreatU22
import Derived.Test.YtdlokcmodgccnaaGreatU23
set_option linter.unusedVariables false
set_option linter.unusedSimpArgs false
namespace Go.Cg
open Go.Proofs
set_option maxHeartbeats 20000000
theorem Yc (l:List Ty):YC l=.error 9∨∃ t l',YC l=.ok (t,l')∧l=l'++[t]:=by
 by_cases h:l.length < 1
 ·exact .inl (by rw [YC,if_pos h])
 ·refine .inr ?_
  have hd:(l.drop (l.length - 1)).length=1:=by simp;omega
  obtain ⟨t,ht⟩:=List.length_eq_one_iff.1 hd
  refine ⟨t,l.take (l.length - 1),by rw [YC,if_neg h,ht];rfl,?_⟩
  rw [←ht,List.take_append_drop]
theorem zhH {l l':List Ty} {t:Ty} (h:YC l=.ok (t,l')):l.length=l'.length + 1:=by
 rcases Yc l with e|⟨t2,l2,e,e2⟩
 ·rw [e] at h;cases h
 ·rw [e] at h;cases h;rw [e2];simp
theorem zno (sz:Nat) (es:List PV) (f:Bool):PTells (.slc sz es f) (.slc sz es false):=fun K w v h=>by
 cases h with
 | nil=>exact .nil sz false
 | emp _ _ a=>exact .emp sz false a
 | slc _ _ _ b o cap vss h0 h1 h2 h3 h4 h5 h6=>exact .slc sz es false b o cap vss h0 h1 (by simp) h3 h4 h5 h6
theorem ACall.tells {P:Program} {f:FuncId} {args args':List PV} {r:PV} (h:ACall P f args r) (ht:PTL args' args):ACall P f args' r :=
 ⟨h.stands,fun K w vs hl hv=>h.calls K w vs hl ⟨by rw [hv.1,ht.1],fun k c v hc hvv=>by
  have hlt:k < args'.length:=by rw [ht.1];exact (List.getElem?_eq_some_iff.1 hc).1
  exact ht.2 k _ c (List.getElem?_eq_getElem hlt) hc _ _ _ (hv.2 k _ v (List.getElem?_eq_getElem hlt) hvv)⟩⟩
abbrev tsV (ts:List Ty):AV:=.pv (.slc 4 (ts.map yM) true)
theorem zO (c:RC) (ts l:List Ty) (hl:l.length≤200) (ht:ts.length≤200):XC 191 [tsV ts] c (yV c.m.max ts) uV l:=by
 intro u;refine zH zf Tryz.func191 rfl (by kernel_rfl) Tryz.ntmps191 (by simp) _ rfl (fun gB hw1=>?_)
 have htl:PTL [tys l,pi c.m.max,.slc 4 (ts.map yM) true] [tys l,pi c.m.max,tys ts]:=qy (.refl _) (qy (.refl _) (qy (zno _ _ _) zbb))
 by_cases h:((l.length:Int) + (ts.length:Int))≤c.m.max
 ·have hp:yV c.m.max ts l=.ok ((),l++ts):=by rw [yV,if_pos h]
  have cp:=(zoG l ts c.m.max hl ht h).tells htl
  repeat' (first|(refine shC ?_;first|refine qC cp ?_|refine qC (zF rfl 0) ?_)|refine sK ?_|refine sC (fun _=>?_) (fun _=>?_)|fail)
  exact zU hp (yw (.inl rfl) tH)
 ·have hp:yV c.m.max ts l=.error 9:=by rw [yV,if_neg h]
  have cp:=(zjU l ts c.m.max hl ht (by omega)).tells htl
  repeat' (first|refine zl 1 3 rfl rfl rfl ?_|refine zA ([]) zh rfl rfl rfl tH (yc rfl 9) ?_|(refine shC ?_;first|refine qC cp ?_)|refine sK ?_|refine sC (fun _=>?_) (fun _=>?_)|fail)
  exact zB hp
theorem zr8 {K:KK} {w:World} {sz:Nat} {es:List PV} {f:Bool} {v:Value} (h:PRel K w (.slc sz es f) v):v.cells=#[v]∧v.oneCell'=true:=by
 cases h <;> exact ⟨rfl,rfl⟩
theorem zkW (c:RC) (l:List Ty):Tells (.agg ((zZ c.g++(zfU c.m++(tys c.ar::(zbD c.x++[tys l])))).map .pv)) (.agg ((zZ c.g++(zfU c.m++(tys c.ar::zbD c.x))).map .pv++[.any1])):=fun K w ρ H v h=>by
 cases h with
 | agg _ vs h1 h2 h3 =>
  refine .agg _ vs (by simpa using h1) h2 fun k a v ha hv=>?_
  have hk:k < 24:=by have:=(List.getElem?_eq_some_iff.1 ha).1;simpa using this
  by_cases h23:k=23
  ·subst h23
   have:=h3 23 (.pv (tys l)) v rfl hv
   have e:a=.any1:=by simpa using ha.symm
   subst e
   cases this with
   | pv _ _ hp =>
    obtain ⟨q1,q2⟩:=zr8 hp
    exact .any1 _ q1 q2
  ·have e:((zZ c.g++(zfU c.m++(tys c.ar::(zbD c.x++[tys l])))).map AV.pv)[k]?=some a:=by
    rw [←ha,show zZ c.g++(zfU c.m++(tys c.ar::(zbD c.x++[tys l])))=(zZ c.g++(zfU c.m++(tys c.ar::zbD c.x)))++[tys l] by simp,List.map_append,List.getElem?_append_left (by simp;omega),List.getElem?_append_left (by simp;omega)]
   exact h3 k a v e hv
section
variable {P:Program} {n:Nat} {g:Base} {H:HEnv} {env:Env} {ops:List Oper}
theorem ZO {QQ:QC} {id:Nat} (L k jc:Nat) (R:HEnv) (c:RC) (l l':List Ty) {oc:Oper} {tc:Nat} (rc:AV) (pan:Option Value) (hL:ops.length=L) (hok:Xm ops k=true) (hm:P.follows .mixedOrders=true) (hB:Yf (zL k ops 0) ((zL k ops 0).take k)=true) (hT:Xv (zL k ops 0) k=true) (hk:Nat.ble k (zL k ops 0).length=true)
  (hsp:(zL k ops 0).take k=(zL k ops 0).take jc++oc::((zL k ops 0).take k).drop (jc + 1)) (hjl:Nat.ble jc (zL k ops 0).length=true) (hd:oc.dst=some tc) (htc:Nat.blt tc n=true)
  (hH:Qo H ((0,Xg c l)::R) env) (hke:XB ((0,WC c)::R) env=true) (hkk:qO ((0,WC c)::R) ((0,Xg c l')::R)=true)
  (hp:∀ v,pan=some v→QQ (.panic [{ v:=v,recovered:=false }]) [] [])
  (h:AD P n g ((0,WC c)::R) (zL k ops 0) (fun env1=>(guardE (zL k ops 0) env1 oc=some true∧EStep P g ((0,Xg c l)::R) ((0,Xg c l')::R) ((0,WC c)::R) oc env1 rc pan)∧AD P n g ((0,WC c)::R) (zL k ops 0) (fun env'=>pan=none→AOX P n g (zL k ops 0).toArray ((zL k ops 0).drop k) env' ((0,Xg c l')::R) QQ) (((zL k ops 0).take k).drop (jc + 1)) ((tc,rc)::env1)) ((zL k ops 0).take jc) env)
  (hnd:Zd ops=true:=by kernel_rfl) (hr:ZC ((0,WC c)::R) rc=true:=by rfl):AW P n g (.region id ops.toArray true) env H QQ :=
 zk2 L k jc ((0,Xg c l)::R) ((0,Xg c l')::R) ((0,WC c)::R) rc pan hL hok hm hB hT hk hsp hjl hd htc (fun _ _ _ hf=>zf2 hf (zkW c l)) (fun _ _ _ hf=>zf2 hf (zkW c l')) hkk hH hke hr hp h hnd
end
theorem VB {α:Type} {g:Base} {f:FuncId} {args:List AV} {R:HEnv} {c:RC} {act:SM α} {val:α→AV} {l l':List Ty} {a:α} {o:Oper} {e:Env} {xs:Array Operand} {ts:Array TypeId} (h:XC f args c act val l) (he:act l=.ok (a,l'))
  (hop:o.op=.call { callee:=.value (.func f),args:=xs,argTypes:=ts }) (hargs:avs e xs.toList=some (.box 0 0::args)) (hk:qO ((0,WC c)::R) ((0,Xg c l)::R)=true) (hk2:qO ((0,WC c)::R) (R++Wx [0])=true) (hr:ZC ((0,WC c)::R) (val a)=true) (hchk:QL [(0,Xg c l)] [(0,Xg c l')] R [0] (.box 0 0::args) [] (val a)=true) :
  EStep Tryz.prog g ((0,Xg c l)::R) ((0,Xg c l')::R) ((0,WC c)::R) o e (val a) none :=
 zlT [(0,Xg c l)] [(0,Xg c l')] R [0] zh hop hargs (fun _ _ h=>h) hk hk2 hr hchk (h.ok he)
theorem zev {α:Type} {g:Base} {f:FuncId} {args:List AV} {u:Value} {R:HEnv} {c:RC} {act:SM α} {val:α→AV} {l:List Ty} {H1:HEnv} {er:Int} {r:AV} {o:Oper} {e:Env} {xs:Array Operand} {ts:Array TypeId} (h:XC f args c act val l) (he:act l=.error er)
  (hop:o.op=.call { callee:=.value (.func f),args:=xs,argTypes:=ts }) (hargs:avs e xs.toList=some (.box 0 0::args)) (hfit:Qo ((0,Xg c l)::R) (yP u c l) []) (hin:Qd (yP u c l) (.box 0 0::args)=true) :
  EStep Tryz.prog g ((0,Xg c l)::R) H1 ((0,WC c)::R) o e r (some (flt er)) :=
 zpb (yP u c l) zh hop hargs hfit hin (h.bad he u)
theorem qg (c:RC) (hF:Fm c.g) (t:Ty) (l:List Ty) (hl:l.length≤200):XC 192 [tV t] c (Yy c.g t) uV l:=by
 intro u;refine zH zf Tryz.func192 rfl (by kernel_rfl) Tryz.ntmps192 (by simp) _ rfl (fun gB hw1=>?_)
 have cp:=yh c l (by omega)
 rcases Yc l with hp|⟨x,l',hp,_⟩
 ·have hw:Yy c.g t l=.error 9:=zeH hp
  repeat' (first|refine ZO 9 8 5 (zfS u) c l l (tV t) (some (flt 9)) rfl (by kernel_rfl) (by kernel_rfl) (by kernel_rfl) (by kernel_rfl) (by kernel_rfl) rfl (by kernel_rfl) rfl rfl tH rfl rfl (fun v hv=>by cases hv;exact zB hw) ?_|refine ⟨⟨rfl,zev (u:=u) cp hp rfl rfl tH rfl⟩,?_⟩|refine zx rfl (zk (ps:=(zZ c.g)) zf rfl rfl rfl rfl rfl) rfl rfl ?_|refine AD.step _ _ _ _ _ rfl (zk (ps:=(zZ c.g)) zf rfl rfl rfl rfl rfl) rfl rfl ?_|(intro h;cases h)|(refine shC ?_;first|refine qC (QY c.g t t hF) ?_)|refine sK ?_|refine sC (fun _=>?_) (fun _=>?_)|fail)
 ·have cf:=QY c.g x t hF
  cases hf:zah c.g x t
  ·have hw:Yy c.g t l=.error 10:=by simp [Yy,zu,hp,zJ,hf]
   repeat' (first|refine ZO 9 8 5 (zfS u) c l l' (tV x) none rfl (by kernel_rfl) (by kernel_rfl) (by kernel_rfl) (by kernel_rfl) (by kernel_rfl) rfl (by kernel_rfl) rfl rfl tH rfl rfl (fun v hv=>by cases hv) ?_|refine ⟨⟨rfl,VB cp hp rfl rfl rfl rfl rfl rfl⟩,?_⟩|refine zx rfl (zk (ps:=(zZ c.g)) zf rfl rfl rfl rfl rfl) rfl rfl ?_|refine AD.step _ _ _ _ _ rfl (zk (ps:=(zZ c.g)) zf rfl rfl rfl rfl rfl) rfl rfl ?_|intro _|refine zA [] zh rfl rfl rfl tH (yc hf 10) ?_|(refine shC ?_;first|refine qC cf ?_)|refine sK ?_|refine sC (fun _=>?_) (fun _=>?_)|fail)
   exact zB hw
  ·have hw:Yy c.g t l=.ok ((),l'):=by simp [Yy,zu,hp,zJ,hf]
   repeat' (first|refine ZO 9 8 5 (zfS u) c l l' (tV x) none rfl (by kernel_rfl) (by kernel_rfl) (by kernel_rfl) (by kernel_rfl) (by kernel_rfl) rfl (by kernel_rfl) rfl rfl tH rfl rfl (fun v hv=>by cases hv) ?_|refine ⟨⟨rfl,VB cp hp rfl rfl rfl rfl rfl rfl⟩,?_⟩|refine zx rfl (zk (ps:=(zZ c.g)) zf rfl rfl rfl rfl rfl) rfl rfl ?_|refine AD.step _ _ _ _ _ rfl (zk (ps:=(zZ c.g)) zf rfl rfl rfl rfl rfl) rfl rfl ?_|intro _|refine XO ?_|(refine shC ?_;first|refine qC cf ?_|refine qC (zF hf 10) ?_)|refine sK ?_|refine sC (fun _=>?_) (fun _=>?_)|fail)
   exact zU hw (yw (.inl rfl) tH)
set_option maxHeartbeats 20000000
theorem Yk (c:RC) (l:List Ty) (hl:l.length≤1000):XC 194 [] c Zg tV l:=by
 intro u;refine zH zf Tryz.func194 rfl (by kernel_rfl) Tryz.ntmps194 (by simp) _ rfl (fun gB hw1=>?_)
 have c1:=yh c l hl
 rcases Yc l with hp|⟨b,l1,hp,e1⟩
 ·have hw:Zg l=.error 9:=zeH hp
  repeat' (first|refine zl 1 1 rfl rfl rfl ?_|refine zA ((yP u c l)) zh rfl rfl rfl tH (c1.bad hp u) ?_|refine sK ?_|refine sC (fun _=>?_) (fun _=>?_)|fail)
  exact zB hw
 ·have hl1:l1.length≤1000:=by have:=zhH hp;omega
  have c2:=yh c l1 hl1
  rcases Yc l1 with hp2|⟨a,l2,hp2,e2⟩
  ·have hw:Zg l=.error 9:=by simp [Zg,zu,hp,hp2]
   repeat' (first|refine zl 1 3 rfl rfl rfl ?_|refine zA ((yP u c l1)) zh rfl rfl rfl tH (c2.bad hp2 u) ?_|(refine zn ?_;first|(refine zo 0 zh rfl rfl (c1.ok hp) rfl rfl rfl rfl rfl ?_))|refine sK ?_|refine sC (fun _=>?_) (fun _=>?_)|fail)
   exact zB hw
  ·have cn:=za1 a
   cases hab:tyB a b
   ·have hab':(a.kind==b.kind&&(a.index==b.index&&(a.dims==b.dims&&(a.ref==b.ref&&true))))=false:=hab
    have hw:Zg l=.error 10:=by simp [Zg,zu,hp,hp2,zJ,hab]
    repeat' (first|refine zl 2 7 rfl rfl rfl ?_|refine zA ([]) zh rfl rfl rfl tH (yc rfl 10) ?_|(refine zn ?_;first|(refine zo 0 zh rfl rfl (c1.ok hp) rfl rfl rfl rfl rfl ?_)|(refine zo 0 zh rfl rfl (c2.ok hp2) rfl rfl rfl rfl rfl ?_))|refine sK ?_|refine sC (fun _=>?_) (fun _=>?_)|fail)
    exact zB hw
   ·have hab':(a.kind==b.kind&&(a.index==b.index&&(a.dims==b.dims&&(a.ref==b.ref&&true))))=true:=hab
    cases hn:nuT a
    ·rw [hn] at cn
     have hw:Zg l=.error 10:=by simp [Zg,zu,hp,hp2,zJ,hab,hn]
     repeat' (first|refine zl 2 7 rfl rfl rfl ?_|refine zA ([]) zh rfl rfl rfl tH (yc rfl 10) ?_|(refine shC ?_;first|refine qC cn ?_)|(refine zn ?_;first|(refine zo 0 zh rfl rfl (c1.ok hp) rfl rfl rfl rfl rfl ?_)|(refine zo 0 zh rfl rfl (c2.ok hp2) rfl rfl rfl rfl rfl ?_))|refine sK ?_|refine sC (fun _=>?_) (fun _=>?_)|fail)
     exact zB hw
    ·rw [hn] at cn
     have hw:Zg l=.ok (a,l2):=by simp [Zg,zu,zC,hp,hp2,zJ,hab,hn]
     repeat' (first|(refine shC ?_;first|refine qC cn ?_|refine qC (zF rfl 10) ?_)|(refine zn ?_;first|(refine zo 0 zh rfl rfl (c1.ok hp) rfl rfl rfl rfl rfl ?_)|(refine zo 0 zh rfl rfl (c2.ok hp2) rfl rfl rfl rfl rfl ?_))|refine sK ?_|refine sC (fun _=>?_) (fun _=>?_)|fail)
     exact zU hw (zi3 rfl tH)
theorem Yh (c:RC) (l:List Ty) (hl:l.length≤1000):XC 196 [] c zbG tV l:=by
 intro u;refine zH zf Tryz.func196 rfl (by kernel_rfl) Tryz.ntmps196 (by simp) _ rfl (fun gB hw1=>?_)
 have c1:=yh c l hl
 rcases Yc l with hp|⟨t,l1,hp,e1⟩
 ·have hw:zbG l=.error 9:=zeH hp
  repeat' (first|refine zl 1 1 rfl rfl rfl ?_|refine zA ((yP u c l)) zh rfl rfl rfl tH (c1.bad hp u) ?_|refine sK ?_|refine sC (fun _=>?_) (fun _=>?_)|fail)
  exact zB hw
 ·have cn:=za1 t
  cases hn:nuT t
  ·have hw:zbG l=.error 10:=by simp [zbG,zu,hp,zJ,hn]
   repeat' (first|refine zl 2 2 rfl rfl rfl ?_|refine zA ([]) zh rfl rfl rfl tH (yc hn 10) ?_|(refine shC ?_;first|refine qC cn ?_)|(refine zn ?_;first|(refine zo 0 zh rfl rfl (c1.ok hp) rfl rfl rfl rfl rfl ?_))|refine sK ?_|refine sC (fun _=>?_) (fun _=>?_)|fail)
   exact zB hw
  ·have hw:zbG l=.ok (t,l1):=by simp [zbG,zu,zC,hp,zJ,hn]
   repeat' (first|(refine shC ?_;first|refine qC cn ?_|refine qC (zF hn 10) ?_)|(refine zn ?_;first|(refine zo 0 zh rfl rfl (c1.ok hp) rfl rfl rfl rfl rfl ?_))|refine sK ?_|refine sC (fun _=>?_) (fun _=>?_)|fail)
   exact zU hw (zi3 rfl tH)
theorem Wu (c:RC) (l:List Ty) (hl:l.length≤1000):XC 197 [] c Ze uV l:=by
 intro u;refine zH zf Tryz.func197 rfl (by kernel_rfl) Tryz.ntmps197 (by simp) _ rfl (fun gB hw1=>?_)
 have c1:=yh c l hl
 rcases Yc l with hp|⟨b,l1,hp,e1⟩
 ·have hw:Ze l=.error 9:=zeH hp
  repeat' (first|refine zl 0 1 rfl rfl rfl ?_|refine zA ((yP u c l)) zh rfl rfl rfl tH (c1.bad hp u) ?_|refine sK ?_|refine sC (fun _=>?_) (fun _=>?_)|fail)
  exact zB hw
 ·have hl1:l1.length≤1000:=by have:=zhH hp;omega
  have c2:=yh c l1 hl1
  rcases Yc l1 with hp2|⟨a,l2,hp2,e2⟩
  ·have hw:Ze l=.error 9:=by simp [Ze,zu,hp,hp2]
   repeat' (first|refine zl 0 3 rfl rfl rfl ?_|refine zA ((yP u c l1)) zh rfl rfl rfl tH (c2.bad hp2 u) ?_|(refine zn ?_;first|(refine zo 0 zh rfl rfl (c1.ok hp) rfl rfl rfl rfl rfl ?_))|refine sK ?_|refine sC (fun _=>?_) (fun _=>?_)|fail)
   exact zB hw
  ·have cn:=za1 a
   have co:=qN a
   have co2:=qN b
   cases hab:tyB a b
   ·have hab':(a.kind==b.kind&&(a.index==b.index&&(a.dims==b.dims&&(a.ref==b.ref&&true))))=false:=hab
    cases ho:object a
    ·rw [ho] at co
     have hw:Ze l=.error 10:=by simp [Ze,zu,hp,hp2,zJ,hab,ho]
     repeat' (first|refine zl 1 15 rfl rfl rfl ?_|refine zA ([]) zh rfl rfl rfl tH (yc rfl 10) ?_|(refine shC ?_;first|refine qC co ?_)|(refine zn ?_;first|(refine zo 0 zh rfl rfl (c1.ok hp) rfl rfl rfl rfl rfl ?_)|(refine zo 0 zh rfl rfl (c2.ok hp2) rfl rfl rfl rfl rfl ?_))|refine sK ?_|refine sC (fun _=>?_) (fun _=>?_)|fail)
     exact zB hw
    ·rw [ho] at co
     cases ho2:object b
     ·rw [ho2] at co2
      have hw:Ze l=.error 10:=by simp [Ze,zu,hp,hp2,zJ,hab,ho,ho2]
      repeat' (first|refine zl 1 15 rfl rfl rfl ?_|refine zA ([]) zh rfl rfl rfl tH (yc rfl 10) ?_|(refine shC ?_;first|refine qC co ?_|refine qC co2 ?_)|(refine zn ?_;first|(refine zo 0 zh rfl rfl (c1.ok hp) rfl rfl rfl rfl rfl ?_)|(refine zo 0 zh rfl rfl (c2.ok hp2) rfl rfl rfl rfl rfl ?_))|refine sK ?_|refine sC (fun _=>?_) (fun _=>?_)|fail)
      exact zB hw
     ·rw [ho2] at co2
      have hw:Ze l=.ok ((),l2):=by simp [Ze,zu,hp,hp2,zJ,hab,ho,ho2]
      repeat' (first|(refine shC ?_;first|refine qC co ?_|refine qC co2 ?_|refine qC (zF rfl 10) ?_)|(refine zn ?_;first|(refine zo 0 zh rfl rfl (c1.ok hp) rfl rfl rfl rfl rfl ?_)|(refine zo 0 zh rfl rfl (c2.ok hp2) rfl rfl rfl rfl rfl ?_))|refine sK ?_|refine sC (fun _=>?_) (fun _=>?_)|fail)
      exact zU hw (yw (.inl rfl) tH)
   ·have hab':(a.kind==b.kind&&(a.index==b.index&&(a.dims==b.dims&&(a.ref==b.ref&&true))))=true:=hab
    cases hn:nuT a
    ·rw [hn] at cn
     cases ho:object a
     ·rw [ho] at co
      have hw:Ze l=.error 10:=by simp [Ze,zu,hp,hp2,zJ,hab,hn,ho]
      repeat' (first|refine zl 1 15 rfl rfl rfl ?_|refine zA ([]) zh rfl rfl rfl tH (yc rfl 10) ?_|(refine shC ?_;first|refine qC cn ?_|refine qC co ?_)|(refine zn ?_;first|(refine zo 0 zh rfl rfl (c1.ok hp) rfl rfl rfl rfl rfl ?_)|(refine zo 0 zh rfl rfl (c2.ok hp2) rfl rfl rfl rfl rfl ?_))|refine sK ?_|refine sC (fun _=>?_) (fun _=>?_)|fail)
      exact zB hw
     ·rw [ho] at co
      cases ho2:object b
      ·rw [ho2] at co2
       have hw:Ze l=.error 10:=by simp [Ze,zu,hp,hp2,zJ,hab,hn,ho,ho2]
       repeat' (first|refine zl 1 15 rfl rfl rfl ?_|refine zA ([]) zh rfl rfl rfl tH (yc rfl 10) ?_|(refine shC ?_;first|refine qC cn ?_|refine qC co ?_|refine qC co2 ?_)|(refine zn ?_;first|(refine zo 0 zh rfl rfl (c1.ok hp) rfl rfl rfl rfl rfl ?_)|(refine zo 0 zh rfl rfl (c2.ok hp2) rfl rfl rfl rfl rfl ?_))|refine sK ?_|refine sC (fun _=>?_) (fun _=>?_)|fail)
       exact zB hw
      ·rw [ho2] at co2
       have hw:Ze l=.ok ((),l2):=by simp [Ze,zu,hp,hp2,zJ,hab,hn,ho,ho2]
       repeat' (first|(refine shC ?_;first|refine qC cn ?_|refine qC co ?_|refine qC co2 ?_|refine qC (zF rfl 10) ?_)|(refine zn ?_;first|(refine zo 0 zh rfl rfl (c1.ok hp) rfl rfl rfl rfl rfl ?_)|(refine zo 0 zh rfl rfl (c2.ok hp2) rfl rfl rfl rfl rfl ?_))|refine sK ?_|refine sC (fun _=>?_) (fun _=>?_)|fail)
       exact zU hw (yw (.inl rfl) tH)
    ·rw [hn] at cn
     have hw:Ze l=.ok ((),l2):=by simp [Ze,zu,hp,hp2,zJ,hab,hn]
     repeat' (first|(refine shC ?_;first|refine qC cn ?_|refine qC (zF rfl 10) ?_)|(refine zn ?_;first|(refine zo 0 zh rfl rfl (c1.ok hp) rfl rfl rfl rfl rfl ?_)|(refine zo 0 zh rfl rfl (c2.ok hp2) rfl rfl rfl rfl rfl ?_))|refine sK ?_|refine sC (fun _=>?_) (fun _=>?_)|fail)
     exact zU hw (yw (.inl rfl) tH)
theorem Yq (c:RC) (hF:Fm c.g) (ls l:List Ty) (hl:l.length≤1000):XC 204 [.pv (tys ls)] c (Zw c.g ls) uV l:=by
 intro u;refine zH zf Tryz.func204 rfl (by kernel_rfl) Tryz.ntmps204 (by simp) _ rfl (fun gB hw1=>?_)
 by_cases h:l.length < ls.length
 ·have hw:Zw c.g ls l=.error 9:=by rw [Zw,if_pos h]
  repeat' (first|refine zl 1 3 rfl rfl rfl ?_|refine zA ([]) zh rfl rfl rfl tH (yc rfl 9) ?_|(refine shC ?_;first|refine zx rfl (zI rfl rfl (zaq l ((ls.map yM).length:Int) (.inr (by simp;omega)))) rfl rfl ?_|refine AD.step _ _ _ _ _ rfl (zI rfl rfl (zaq l ((ls.map yM).length:Int) (.inr (by simp;omega)))) rfl rfl ?_)|refine sK ?_|refine sC (fun _=>?_) (fun _=>?_)|fail)
  exact zB hw
 ·have cp:=zj3 l ((ls.map yM).length:Int) hl (by omega) (by simp;omega)
  rw [show (((ls.map yM).length:Nat):Int).toNat=ls.length by simp] at cp
  have cf:=zgk c.g (l.drop (l.length - ls.length)) ls hF
  cases hf:zeV c.g (l.drop (l.length - ls.length)) ls
  ·have hw:Zw c.g ls l=.error 10:=by rw [Zw,if_neg h,hf];rfl
   repeat' (first|refine zl 2 7 rfl rfl rfl ?_|refine zA ([]) zh rfl rfl rfl tH (yc hf 10) ?_|refine zx rfl (zk (ps:=(zZ c.g)) zf rfl rfl rfl rfl rfl) rfl rfl ?_|refine AD.step _ _ _ _ _ rfl (zk (ps:=(zZ c.g)) zf rfl rfl rfl rfl rfl) rfl rfl ?_|(refine shC ?_;first|refine qC cp ?_|refine qC (zF rfl 0) ?_|refine qC cf ?_)|refine sK ?_|refine sC (fun _=>?_) (fun _=>?_)|fail)
   exact zB hw
  ·have hw:Zw c.g ls l=.ok ((),l.take (l.length - ls.length)):=by rw [Zw,if_neg h,hf];rfl
   repeat' (first|refine zx rfl (zk (ps:=(zZ c.g)) zf rfl rfl rfl rfl rfl) rfl rfl ?_|refine AD.step _ _ _ _ _ rfl (zk (ps:=(zZ c.g)) zf rfl rfl rfl rfl rfl) rfl rfl ?_|(refine shC ?_;first|refine qC cp ?_|refine qC (zF rfl 0) ?_|refine qC (zF hf 10) ?_|refine qC cf ?_)|refine sK ?_|refine sC (fun _=>?_) (fun _=>?_)|fail)
   exact zU hw (yw (.inl rfl) tH)
theorem Zc (c:RC) (ls l:List Ty) (h0:0≤c.x.arg):XC 190 [.pv (tys ls)] c (VE c.x ls) tV l:=by
 intro u;refine zH zf Tryz.func190 rfl (by kernel_rfl) Tryz.ntmps190 (by simp) _ rfl (fun gB hw1=>?_)
 by_cases h:c.x.arg < ls.length
 ·have hw:VE c.x ls l=.ok (ls.getD c.x.arg.toNat default,l):=by simp [VE,zu,zC,zJ,h]
  have hlt:c.x.arg.toNat < ls.length:=by omega
  have he:(ls.map yM)[c.x.arg.toNat]?=some (yM (ls.getD c.x.arg.toNat default)):=by rw [zQ hlt];exact yj hlt
  repeat' (first|(refine shC ?_;first|refine zx rfl (zI rfl rfl (zF (by simp;omega) 3)) rfl rfl ?_|refine AD.step _ _ _ _ _ rfl (zI rfl rfl (zF (by simp;omega) 3)) rfl rfl ?_)|(refine shX ?_;first|refine zx rfl (zq zf rfl rfl rfl rfl rfl rfl h0 he) rfl rfl ?_|refine AD.step _ _ _ _ _ rfl (zq zf rfl rfl rfl rfl rfl rfl h0 he) rfl rfl ?_)|refine sK ?_|refine sC (fun _=>?_) (fun _=>?_)|fail)
  exact zU hw (zi3 rfl tH)
 ·have hw:VE c.x ls l=.error 3:=by simp [VE,zu,zJ,h]
  repeat' (first|refine zl 1 8 rfl rfl rfl ?_|refine zA ([]) zh rfl rfl rfl tH (yc (by simp;omega) 3) ?_|refine sK ?_|refine sC (fun _=>?_) (fun _=>?_)|fail)
  exact zB hw
theorem Vl (c:RC) (t:Ty) (l:List Ty) (hl:l.length≤200):XC 193 [tV t] c (YX c.m.max t) uV l:=by
 intro u;refine zH zf Tryz.func193 rfl (by kernel_rfl) Tryz.ntmps193 (by simp) _ rfl (fun gB hw1=>?_)
 have cr:=ZF t
 have cp:=zO c [rfT t] l hl (by simp)
 cases h:t.ref
 ·cases hp:yV c.m.max [rfT t] l with
  | error e =>
   have hw:YX c.m.max t l=.error e:=by simp [YX,zu,zJ,h,hp]
   repeat' (first|refine zl 2 4 rfl rfl rfl ?_|refine zA ((yP u c l)) zh rfl rfl rfl tH (cp.bad hp u) ?_|(refine shC ?_;first|refine zx rfl (zI rfl rfl (zF (by simp [h]) 13)) rfl rfl ?_|refine AD.step _ _ _ _ _ rfl (zI rfl rfl (zF (by simp [h]) 13)) rfl rfl ?_|refine qC cr ?_)|refine sK ?_|refine sC (fun _=>?_) (fun _=>?_)|fail)
   exact zB hw
  | ok p =>
   obtain ⟨⟨⟩,l'⟩:=p
   have hw:YX c.m.max t l=.ok ((),l'):=by simp [YX,zu,zJ,h,hp]
   repeat' (first|(refine shC ?_;first|refine zx rfl (zI rfl rfl (zF (by simp [h]) 13)) rfl rfl ?_|refine AD.step _ _ _ _ _ rfl (zI rfl rfl (zF (by simp [h]) 13)) rfl rfl ?_|refine qC cr ?_)|(refine zn ?_;first|(refine zo 0 zh rfl rfl (cp.ok hp) rfl rfl rfl rfl rfl ?_))|refine sK ?_|refine sC (fun _=>?_) (fun _=>?_)|fail)
   exact zU hw (yw (.inl rfl) tH)
 ·have hw:YX c.m.max t l=.error 13:=by simp [YX,zu,zJ,h]
  repeat' (first|refine zl 1 3 rfl rfl rfl ?_|refine zA ([]) zh rfl rfl rfl tH (yc (by simp [h]) 13) ?_|refine sK ?_|refine sC (fun _=>?_) (fun _=>?_)|fail)
  exact zB hw
theorem zaj (c:RC) (d:Me) (l:List Ty) (hl:l.length≤200):XC 205 [.pv (yB d)] c (Qe c.m.max d) uV l:=by
 intro u;refine zH zf Tryz.func205 rfl (by kernel_rfl) Tryz.ntmps205 (by simp) _ rfl (fun gB hw1=>?_)
 have cp:=zO c [d.ret] l hl (by simp)
 cases h:(d.ret.kind != 1)
 ·have hw:Qe c.m.max d l=.ok ((),l):=by simp [Qe,h,zC]
  repeat' (first|refine sK ?_|refine sC (fun _=>?_) (fun _=>?_)|fail)
  exact zU hw (yw (.inl rfl) tH)
 ·cases hp:yV c.m.max [d.ret] l with
  | error e =>
   have hw:Qe c.m.max d l=.error e:=by simp [Qe,h,hp]
   repeat' (first|refine zl 2 4 rfl rfl rfl ?_|refine zA ((yP u c l)) zh rfl rfl rfl tH (cp.bad hp u) ?_|refine sK ?_|refine sC (fun _=>?_) (fun _=>?_)|fail)
   exact zB hw
  | ok p =>
   obtain ⟨⟨⟩,l'⟩:=p
   have hw:Qe c.m.max d l=.ok ((),l'):=by simp [Qe,h,hp]
   repeat' (first|(refine zn ?_;first|(refine zo 0 zh rfl rfl (cp.ok hp) rfl rfl rfl rfl rfl ?_))|refine sK ?_|refine sC (fun _=>?_) (fun _=>?_)|fail)
   exact zU hw (yw (.inl rfl) tH)
theorem zr9 {tb:Tab} {u:Value} {c:RC} {l:List Ty} {t:Ty} {p:PV} {rs:List ResultVar} {env:Env} {H:HEnv} (hr:WS tb H env rs=some [p]) (e:p=yM t) (h:Qo H (yP u c l) []):zgD tb rs (tV t) (yP u c l) .ret env H:=⟨.inr rfl,.inl ⟨_,hr,by rw [e];rfl,h⟩⟩
theorem Zf (c:RC) (l:List Ty) (h0:0≤c.x.t.dims) (h1:c.x.t.dims≤100):XC 208 [] c (XG c.x) tV l:=by
 intro u;refine zH zf Tryz.func208 rfl (by kernel_rfl) Tryz.ntmps208 (by simp) _ rfl (fun gB hw1=>?_)
 have hwr:IntKind.i64.wrap (c.x.t.dims + 1)=c.x.t.dims + 1:=wrap_in (by omega) (by omega)
 by_cases h:c.x.t.dims + 1≤3
 ·have hw:XG c.x l=.ok (⟨c.x.t.kind,c.x.t.index,c.x.t.dims + 1,c.x.t.ref⟩,l):=by simp [XG,zu,zC,zJ,h]
  repeat' (first|refine zx rfl (zk (ps:=(yR c.x.t)) zf rfl rfl rfl rfl rfl) rfl rfl ?_|refine AD.step _ _ _ _ _ rfl (zk (ps:=(yR c.x.t)) zf rfl rfl rfl rfl rfl) rfl rfl ?_|(refine shC ?_;first|refine zx rfl (zI rfl rfl (zF (by rw [hwr];simpa using h) 6)) rfl rfl ?_|refine AD.step _ _ _ _ _ rfl (zI rfl rfl (zF (by rw [hwr];simpa using h) 6)) rfl rfl ?_)|refine sK ?_|refine sC (fun _=>?_) (fun _=>?_)|fail)
  exact zU hw (zr9 rfl (by simp only [yM];congr 1;simp [hwr,AV.flat]) tH)
 ·have hw:XG c.x l=.error 6:=by simp [XG,zu,zJ,h]
  repeat' (first|refine zx rfl (zk (ps:=(yR c.x.t)) zf rfl rfl rfl rfl rfl) rfl rfl ?_|refine AD.step _ _ _ _ _ rfl (zk (ps:=(yR c.x.t)) zf rfl rfl rfl rfl rfl) rfl rfl ?_|refine zl 3 3 rfl rfl rfl ?_|refine zA ([]) zh rfl rfl rfl tH (yc (by rw [hwr];simpa using h) 6) ?_|refine sK ?_|refine sC (fun _=>?_) (fun _=>?_)|fail)
  exact zB hw
set_option maxHeartbeats 20000000
theorem ztl {tb:Tab} {u:Value} {c:RC} {l:List Ty} {d:Me} {rs:List ResultVar} {env:Env} {H:HEnv} (hr:WS tb H env rs=some [yB d]) (h:Qo H (yP u c l) []):zgD tb rs (.pv (yB d)) (yP u c l) .ret env H:=⟨.inr rfl,.inl ⟨_,hr,rfl,h⟩⟩
theorem zam (c:RC) (l:List Ty) (h0:0≤c.x.arg) (h1:c.x.arg.toNat < c.g.methods.length):XC 202 [] c (pure (mAt c.g c.x.arg):SM Me) (fun d=>.pv (yB d)) l:=by
 intro u;refine zH zf Tryz.func202 rfl (by kernel_rfl) Tryz.ntmps202 (by simp) _ rfl (fun gB hw1=>?_)
 have he:(c.g.methods.map yB)[c.x.arg.toNat]?=some (yB (mAt c.g c.x.arg)):=by rw [mAt,zQ h1];exact yj h1
 repeat' (first|refine zV 13 12 rfl (by kernel_rfl) (by kernel_rfl) (by kernel_rfl) (by kernel_rfl) (by kernel_rfl) ?_|(refine shX ?_;first|refine zx rfl (zq zf rfl rfl rfl rfl rfl rfl h0 he) rfl rfl ?_|refine AD.step _ _ _ _ _ rfl (zq zf rfl rfl rfl rfl rfl rfl h0 he) rfl rfl ?_)|refine sK ?_|refine sC (fun _=>?_) (fun _=>?_)|fail)
 exact zU (val:=fun d=>.pv (yB d)) (act:=(pure (mAt c.g c.x.arg):SM Me)) (a:=mAt c.g c.x.arg) (l':=l) rfl (ztl (d:=mAt c.g c.x.arg) (c:=c) (l:=l) rfl tH)
abbrev ztD (o:Int):Ty:=⟨5,o,0,false⟩
abbrev zte (o:Int):Ty:=⟨6,o,0,false⟩
theorem YJ (c:RC) (hF:Fm c.g) (f:Fd) (it:Bool) (l:List Ty) (hl:l.length≤1000):XC 206 [.pv (Yb f),.pv (pb it)] c (Zh c.g f it) uV l:=by
 intro u;refine zH zf Tryz.func206 rfl (by kernel_rfl) Tryz.ntmps206 (by simp) _ rfl (fun gB hw1=>?_)
 have c1:=yh c l hl
 rcases Yc l with hp|⟨t,l1,hp,e1⟩
 ·have hw:Zh c.g f it l=.error 9:=zeH hp
  repeat' (first|refine zl 1 1 rfl rfl rfl ?_|refine zA ((yP u c l)) zh rfl rfl rfl tH (c1.bad hp u) ?_|refine sK ?_|refine sC (fun _=>?_) (fun _=>?_)|fail)
  exact zB hw
 ·have ck:=YR c.g f.owner
  by_cases hk:ZY c.g f.owner=1
  ·rw [hk] at ck
   have cr:=ZF (zte f.owner)
   cases ha:tyB t (rfT (zte f.owner))
   ·have ha':(t.kind==6&&(t.index==f.owner&&(t.dims==0&&(t.ref==true&&true))))=false:=ha
    cases it
    ·have hw:Zh c.g f false l=.error 10:=by simp [Zh,zu,hp,zJ,hk,ha]
     repeat' (first|refine zx rfl (zk (ps:=(zZ c.g)) zf rfl rfl rfl rfl rfl) rfl rfl ?_|refine AD.step _ _ _ _ _ rfl (zk (ps:=(zZ c.g)) zf rfl rfl rfl rfl rfl) rfl rfl ?_|refine yU 13 12 rfl (by kernel_rfl) (by kernel_rfl) (by kernel_rfl) (by kernel_rfl) (by kernel_rfl) ?_|refine zA ([]) zh rfl rfl rfl tH (yc rfl 10) ?_|(refine shC ?_;first|refine qC ck ?_|refine qC cr ?_)|(refine zn ?_;first|(refine zo 0 zh rfl rfl (c1.ok hp) rfl rfl rfl rfl rfl ?_))|refine sK ?_|refine sC (fun _=>?_) (fun _=>?_)|fail)
     exact zB hw
    ·cases hb:tyB t (zte f.owner)
     ·have hb':(t.kind==6&&(t.index==f.owner&&(t.dims==0&&(t.ref==false&&true))))=false:=hb
      have hw:Zh c.g f true l=.error 10:=by simp [Zh,zu,hp,zJ,hk,ha,hb]
      repeat' (first|refine zx rfl (zk (ps:=(zZ c.g)) zf rfl rfl rfl rfl rfl) rfl rfl ?_|refine AD.step _ _ _ _ _ rfl (zk (ps:=(zZ c.g)) zf rfl rfl rfl rfl rfl) rfl rfl ?_|refine yU 13 12 rfl (by kernel_rfl) (by kernel_rfl) (by kernel_rfl) (by kernel_rfl) (by kernel_rfl) ?_|refine zA ([]) zh rfl rfl rfl tH (yc hb 10) ?_|(refine shC ?_;first|refine qC ck ?_|refine qC cr ?_)|(refine zn ?_;first|(refine zo 0 zh rfl rfl (c1.ok hp) rfl rfl rfl rfl rfl ?_))|refine sK ?_|refine sC (fun _=>?_) (fun _=>?_)|fail)
      exact zB hw
     ·have hb':(t.kind==6&&(t.index==f.owner&&(t.dims==0&&(t.ref==false&&true))))=true:=hb
      have hw:Zh c.g f true l=.ok ((),l1):=by simp [Zh,zu,hp,zJ,hk,ha,hb]
      repeat' (first|refine zx rfl (zk (ps:=(zZ c.g)) zf rfl rfl rfl rfl rfl) rfl rfl ?_|refine AD.step _ _ _ _ _ rfl (zk (ps:=(zZ c.g)) zf rfl rfl rfl rfl rfl) rfl rfl ?_|(refine shC ?_;first|refine qC ck ?_|refine qC cr ?_|refine qC (zF hb 10) ?_)|(refine zn ?_;first|(refine zo 0 zh rfl rfl (c1.ok hp) rfl rfl rfl rfl rfl ?_))|refine sK ?_|refine sC (fun _=>?_) (fun _=>?_)|fail)
      exact zU hw (yw (.inr rfl) tH)
   ·have ha':(t.kind==6&&(t.index==f.owner&&(t.dims==0&&(t.ref==true&&true))))=true:=ha
    have hw:Zh c.g f it l=.ok ((),l1):=by simp [Zh,zu,hp,zJ,hk,ha]
    repeat' (first|refine zx rfl (zk (ps:=(zZ c.g)) zf rfl rfl rfl rfl rfl) rfl rfl ?_|refine AD.step _ _ _ _ _ rfl (zk (ps:=(zZ c.g)) zf rfl rfl rfl rfl rfl) rfl rfl ?_|(refine shC ?_;first|refine qC ck ?_|refine qC cr ?_|refine qC (zF rfl 10) ?_)|(refine zn ?_;first|(refine zo 0 zh rfl rfl (c1.ok hp) rfl rfl rfl rfl rfl ?_))|refine sK ?_|refine sC (fun _=>?_) (fun _=>?_)|fail)
    exact zU hw (yw (.inr rfl) tH)
  ·have hk':(ZY c.g f.owner==1)=false:=beq_eq_false_iff_ne.2 hk
   have cf:=QY c.g t (ztD f.owner) hF
   cases hf:zah c.g t (ztD f.owner)
   ·have hw:Zh c.g f it l=.error 10:=by simp [Zh,zu,hp,zJ,hk,hf]
    repeat' (first|refine zx rfl (zk (ps:=(zZ c.g)) zf rfl rfl rfl rfl rfl) rfl rfl ?_|refine AD.step _ _ _ _ _ rfl (zk (ps:=(zZ c.g)) zf rfl rfl rfl rfl rfl) rfl rfl ?_|refine yU 10 9 rfl (by kernel_rfl) (by kernel_rfl) (by kernel_rfl) (by kernel_rfl) (by kernel_rfl) ?_|refine zA ([]) zh rfl rfl rfl tH (yc hf 10) ?_|(refine shC ?_;first|refine qC ck ?_|refine qC cf ?_)|(refine zn ?_;first|(refine zo 0 zh rfl rfl (c1.ok hp) rfl rfl rfl rfl rfl ?_))|refine sK ?_|refine sC (fun _=>?_) (fun _=>?_)|fail)
    exact zB hw
   ·have hw:Zh c.g f it l=.ok ((),l1):=by simp [Zh,zu,hp,zJ,hk,hf]
    repeat' (first|refine zx rfl (zk (ps:=(zZ c.g)) zf rfl rfl rfl rfl rfl) rfl rfl ?_|refine AD.step _ _ _ _ _ rfl (zk (ps:=(zZ c.g)) zf rfl rfl rfl rfl rfl) rfl rfl ?_|(refine shC ?_;first|refine qC ck ?_|refine qC cf ?_|refine qC (zF hf 10) ?_)|(refine zn ?_;first|(refine zo 0 zh rfl rfl (c1.ok hp) rfl rfl rfl rfl rfl ?_))|refine sK ?_|refine sC (fun _=>?_) (fun _=>?_)|fail)
    exact zU hw (yw (.inl rfl) tH)
def LeS {α:Type} (act:SM α):Prop:=∀ l a l',act l=.ok (a,l')→l'.length≤l.length
theorem Xn {α β:Type} {x:SM α} {f:α→SM β} (hx:LeS x) (hf:∀ a,LeS (f a)):LeS (x >>= f):=fun l b l' h=>by
 rw [zu] at h
 cases hxl:x l with
 | error e=>rw [hxl] at h;cases h
 | ok p =>
  obtain ⟨a,l1⟩:=p
  rw [hxl] at h
  exact Nat.le_trans (hf a l1 b l' h) (hx l a l1 hxl)
theorem zbw {α:Type} (a:α):LeS (pure a:SM α):=fun l b l' h=>by rw [zC] at h;cases h;exact Nat.le_refl _
theorem XP (b:Bool) (e:Int):LeS (zJ b e):=fun l a l' h=>by
 unfold zJ at h;split at h
 ·cases h;exact Nat.le_refl _
 ·cases h
theorem empty_le (e:Int):LeS (emptyS e):=fun l a l' h=>by
 unfold emptyS at h;split at h
 ·cases h;exact Nat.le_refl _
 ·cases h
theorem zaw:LeS YC:=fun l a l' h=>by have:=zhH h;omega
theorem zjO (g:Img) (t:Ty):LeS (Yy g t):=Xn zaw fun _=>XP _ _
theorem zgA (g:Img) (ls:List Ty):LeS (Zw g ls):=fun l a l' h=>by
 unfold Zw at h;split at h
 ·cases h
 ·split at h
  ·cases h;simp
  ·cases h
theorem QU {l l':List Ty} {a:Ty} (h:YC l=.ok (a,l')):l'.length≤l.length:=zaw l a l' h
theorem Vy {x:Ins} {ls l l':List Ty} {a:Ty} (h:VE x ls l=.ok (a,l')):l'.length≤l.length:=Xn (XP _ _) (fun _=>zbw _) l a l' h
theorem zad {l l':List Ty} {a:Ty} (h:Zg l=.ok (a,l')):l'.length≤l.length:=Xn zaw (fun _=>Xn zaw fun _=>Xn (XP _ _) fun _=>zbw _) l a l' h
theorem zdw {l l':List Ty} {a:Ty} (h:zbG l=.ok (a,l')):l'.length≤l.length:=Xn zaw (fun _=>Xn (XP _ _) fun _=>zbw _) l a l' h
theorem zdj {l l':List Ty} (h:Ze l=.ok ((),l')):l'.length≤l.length:=Xn zaw (fun _=>Xn zaw fun _=>XP _ _) l () l' h
theorem XZ {g:Img} {t:Ty} {l l':List Ty} (h:Yy g t l=.ok ((),l')):l'.length≤l.length:=zjO g t l () l' h
theorem XD {g:Img} {ls:List Ty} {l l':List Ty} (h:Zw g ls l=.ok ((),l')):l'.length≤l.length:=zgA g ls l () l' h
theorem zbr {g:Img} {f:Fd} {it:Bool} {l l':List Ty} (h:Zh g f it l=.ok ((),l')):l'.length≤l.length:=Xn zaw (fun _=>by split <;> exact XP _ _) l () l' h
theorem zaY {x:Ins} {l l':List Ty} {a:Ty} (h:XG x l=.ok (a,l')):l'.length≤l.length:=Xn (XP _ _) (fun _=>zbw _) l a l' h
theorem XC.tells {α:Type} {f:FuncId} {c:RC} {act:SM α} {val:α→AV} {l:List Ty} {p p':PV} (h:XC f [.pv p] c act val l) (ht:PTells p' p):XC f [.pv p'] c act val l:=fun u=>by
 have key:∀ {K:KK} {w:World} {ρ:Nat→Value} {H:HEnv} {vs:List Value},Yx K w ρ H [.box 0 0,.pv p'] vs→Yx K w ρ H [.box 0 0,.pv p] vs:=fun hv=>⟨hv.1,fun k c v hc hvv=>by
  match k with
  | 0=>exact hv.2 0 c v hc hvv
  | 1 =>
   simp at hc;subst hc
   have:=hv.2 1 (.pv p') v rfl hvv
   cases this with|pv _ _ hp=>exact .pv _ _ (ht _ _ _ hp)
  | k + 2=>simp at hc⟩
 have hu:=h u
 cases ho:zst u c val (act l) with
 | ret r H' =>
  rw [ho] at hu
  exact ⟨hu.stands,fun g K ρ w vs hw1 hf hv=>hu.calls g K ρ w vs hw1 hf (key hv)⟩
 | pan v =>
  rw [ho] at hu
  exact ⟨hu.stands,fun g K ρ w vs hw1 hf hv=>hu.calls g K ρ w vs hw1 hf (key hv)⟩
theorem ZQ (c:RC) (hF:Fm c.g) (ls l:List Ty) (hl:l.length≤1000):XC 204 [tsV ls] c (Zw c.g ls) uV l:=(Yq c hF ls l hl).tells (zno _ _ _)
abbrev zsL (c:RC):HE:=.cell (.agg ((zZ c.g++(zfU c.m++(tys c.ar::(zbD c.x++[.base (.slice none 0 0)])))).map .pv))
abbrev rHN (u:Value) (c:RC):HEnv:=(0,zsL c)::zfS u
def zmM (u:Value) (c:RC):Except Int (Unit × List Ty)→Out
 | .error e=>.pan (flt e)
 | .ok _=>.ret (.pv (.tup [])) (rHN u c)
theorem zd3 {tb:Tab} {rs:List ResultVar} {u:Value} {c:RC} {act:SM Unit} {l:List Ty} {p:Unit × List Ty} {ex:Exit} {env:Env} {H:HEnv} (h:act l=.ok p) (hr:zgD tb rs (.pv (.tup [])) (rHN u c) ex env H):zjw tb rs (zmM u c (act l)) ex env H:=by
 rw [h];exact hr
theorem VH {tb:Tab} {rs:List ResultVar} {u:Value} {c:RC} {act:SM Unit} {l:List Ty} {e:Int} {env:Env} {H:HEnv} (h:act l=.error e):zjw tb rs (zmM u c (act l)) (.panic [{ v:=flt e,recovered:=false }]) env H:=by
 rw [h];rfl
theorem zhJ {tb:Tab} {u:Value} {c:RC} {ex:Exit} {env:Env} {H:HEnv} (he:ex=.normal∨ex=.ret) (h:Qo H (rHN u c) []):zgD tb [] (.pv (.tup [])) (rHN u c) ex env H:=⟨he,.inl ⟨[],rfl,rfl,h⟩⟩
theorem zp7 (c:RC):Tells (.agg ((zZ c.g++(zfU c.m++(tys c.ar::(zbD c.x++[.base (.slice none 0 0)])))).map .pv)) (.agg ((zZ c.g++(zfU c.m++(tys c.ar::(zbD c.x++[tys []])))).map .pv)):=fun K w ρ H v h=>by
 cases h with
 | agg _ vs h1 h2 h3 =>
  refine .agg _ vs (by simpa using h1) h2 fun k a v ha hv=>?_
  have hk:k < 24:=by have:=(List.getElem?_eq_some_iff.1 ha).1;simpa using this
  by_cases h23:k=23
  ·subst h23
   have:=h3 23 (.pv (.base (.slice none 0 0))) v rfl hv
   have e:a=.pv (tys []):=by simpa using ha.symm
   subst e
   exact Qb 4 false _ _ _ _ _ this
  ·have e1:∀ x:PV,zZ c.g++(zfU c.m++(tys c.ar::(zbD c.x++[x])))=(zZ c.g++(zfU c.m++(tys c.ar::zbD c.x)))++[x]:=fun x=>by simp
   rw [e1,List.map_append,List.getElem?_append_left (by simp;omega)] at ha
   refine h3 k a v ?_ hv
   rw [e1,List.map_append,List.getElem?_append_left (by simp;omega)];exact ha
theorem zf9 {f:FuncId} {c:RC} {act:SM Unit} {l:List Ty} (hn:∀ p,act l=.ok p→p.2=[]) (h:∀ u,YQ Tryz.prog f [.box 0 0] (yP u c l) (zmM u c (act l))):XC f [] c act uV l:=fun u=>by
 have hu:=h u
 cases ho:act l with
 | error e=>rw [ho] at hu;exact hu
 | ok p =>
  rw [ho] at hu
  have hp:=hn p ho
  obtain ⟨⟨⟩,l'⟩:=p
  simp only at hp;subst hp
  exact ⟨hu.stands,fun g K ρ w vs hw1 hf hv=>(hu.calls g K ρ w vs hw1 hf hv).mono fun e w' ⟨v,K',ρ',e1,hf',hr⟩=>⟨v,K',ρ',e1,zf2 hf' (zp7 c),by
   cases hr with|pv _ _ hp=>exact .pv _ _ hp⟩⟩
set_option maxHeartbeats 20000000
theorem zsk (g:Img) (hF:Fm g) (m:Me) (ar:List Ty) (arg:Int) (t0:Ty) (l:List Ty) (hl:l.length≤100) (op:Int) (ho:op=13∨op=14∨op=15∨op=16∨op=17∨op=18∨op=19∨op=20∨op=25∨op=26∨op=27):XC 153 [] (⟨g,m,ar,⟨op,arg,t0⟩⟩:RC) (qA g m op) uV l:=by
 let c:RC:=⟨g,m,ar,⟨op,arg,t0⟩⟩
 rcases ho with rfl|rfl|rfl|rfl|rfl|rfl|rfl|rfl|rfl|rfl|rfl
 all_goals
  intro u;refine zH zf Tryz.func153 rfl (by kernel_rfl) Tryz.ntmps153 (by simp) _ rfl (fun gB hw1=>?_)
  cases hS1:(Zg) l with
  | error e =>
   have hw:(qA g m c.x.op) l=.error e:=by simp [qA,c,zu,zC,hS1]
   repeat' (first|refine zl 12 2 rfl rfl rfl ?_|refine zA ((yP u c l)) zh rfl rfl rfl tH ((Yk c _ (by omega)).bad hS1 u) ?_|refine sK ?_|refine sC (fun _=>?_) (fun _=>?_)|fail)
   exact zB hw
  | ok p =>
   obtain ⟨t,l1⟩:=p
   have hl1:l1.length≤100:=by have:=zad hS1;omega
   cases hS2:(yV m.max [t]) l1 with
   | error e =>
    have hw:(qA g m c.x.op) l=.error e:=by simp [qA,c,zu,zC,hS1,hS2]
    repeat' (first|refine zl 12 4 rfl rfl rfl ?_|refine zA ((yP u c l1)) zh rfl rfl rfl tH ((zO c [t] _ (by omega) (by simp)).bad hS2 u) ?_|(refine zn ?_;first|(refine zo 0 zh rfl rfl ((Yk c _ (by omega)).ok hS1) rfl rfl rfl rfl rfl ?_))|refine sK ?_|refine sC (fun _=>?_) (fun _=>?_)|fail)
    exact zB hw
   | ok p =>
    obtain ⟨⟨⟩,l2⟩:=p
    have hw:(qA g m c.x.op) l=.ok ((),l2):=by simp [qA,c,zu,zC,hS1,hS2]
    repeat' (first|(refine zn ?_;first|(refine zo 0 zh rfl rfl ((Yk c _ (by omega)).ok hS1) rfl rfl rfl rfl rfl ?_)|(refine zo 0 zh rfl rfl ((zO c [t] _ (by omega) (by simp)).ok hS2) rfl rfl rfl rfl rfl ?_))|refine sK ?_|refine sC (fun _=>?_) (fun _=>?_)|fail)
    exact zU hw (yw (.inl rfl) tH)
theorem zrU (g:Img) (hF:Fm g) (m:Me) (ar:List Ty) (arg:Int) (t0:Ty) (l:List Ty) (hl:l.length≤100) (op:Int) (ho:op=21∨op=22):XC 153 [] (⟨g,m,ar,⟨op,arg,t0⟩⟩:RC) (qA g m op) uV l:=by
 let c:RC:=⟨g,m,ar,⟨op,arg,t0⟩⟩
 rcases ho with rfl|rfl
 all_goals
  intro u;refine zH zf Tryz.func153 rfl (by kernel_rfl) Tryz.ntmps153 (by simp) _ rfl (fun gB hw1=>?_)
  cases hS1:(Yy g (kTy 2)) l with
  | error e =>
   have hw:(qA g m c.x.op) l=.error e:=by simp [qA,c,zu,zC,hS1]
   repeat' (first|refine zl 15 2 rfl rfl rfl ?_|refine zA ((yP u c l)) zh rfl rfl rfl tH ((qg c hF (kTy 2) _ (by omega)).bad hS1 u) ?_|(refine shC ?_;first|refine qC (zM 2) ?_)|refine sK ?_|refine sC (fun _=>?_) (fun _=>?_)|fail)
   exact zB hw
  | ok p =>
   obtain ⟨⟨⟩,l1⟩:=p
   have hl1:l1.length≤100:=by have:=XZ hS1;omega
   cases hS2:(zbG) l1 with
   | error e =>
    have hw:(qA g m c.x.op) l=.error e:=by simp [qA,c,zu,zC,hS1,hS2]
    repeat' (first|refine zl 16 2 rfl rfl rfl ?_|refine zA ((yP u c l1)) zh rfl rfl rfl tH ((Yh c _ (by omega)).bad hS2 u) ?_|(refine shC ?_;first|refine qC (zM 2) ?_)|(refine zn ?_;first|(refine zo 0 zh rfl rfl ((qg c hF (kTy 2) _ (by omega)).ok hS1) rfl rfl rfl rfl rfl ?_))|refine sK ?_|refine sC (fun _=>?_) (fun _=>?_)|fail)
    exact zB hw
   | ok p =>
    obtain ⟨t,l2⟩:=p
    have hl2:l2.length≤100:=by have:=zdw hS2;omega
    cases hS3:(yV m.max [t]) l2 with
    | error e =>
     have hw:(qA g m c.x.op) l=.error e:=by simp [qA,c,zu,zC,hS1,hS2,hS3]
     repeat' (first|refine zl 16 4 rfl rfl rfl ?_|refine zA ((yP u c l2)) zh rfl rfl rfl tH ((zO c [t] _ (by omega) (by simp)).bad hS3 u) ?_|(refine shC ?_;first|refine qC (zM 2) ?_)|(refine zn ?_;first|(refine zo 0 zh rfl rfl ((qg c hF (kTy 2) _ (by omega)).ok hS1) rfl rfl rfl rfl rfl ?_)|(refine zo 0 zh rfl rfl ((Yh c _ (by omega)).ok hS2) rfl rfl rfl rfl rfl ?_))|refine sK ?_|refine sC (fun _=>?_) (fun _=>?_)|fail)
     exact zB hw
    | ok p =>
     obtain ⟨⟨⟩,l3⟩:=p
     have hw:(qA g m c.x.op) l=.ok ((),l3):=by simp [qA,c,zu,zC,hS1,hS2,hS3]
     repeat' (first|(refine shC ?_;first|refine qC (zM 2) ?_)|(refine zn ?_;first|(refine zo 0 zh rfl rfl ((qg c hF (kTy 2) _ (by omega)).ok hS1) rfl rfl rfl rfl rfl ?_)|(refine zo 0 zh rfl rfl ((Yh c _ (by omega)).ok hS2) rfl rfl rfl rfl rfl ?_)|(refine zo 0 zh rfl rfl ((zO c [t] _ (by omega) (by simp)).ok hS3) rfl rfl rfl rfl rfl ?_))|refine sK ?_|refine sC (fun _=>?_) (fun _=>?_)|fail)
     exact zU hw (yw (.inl rfl) tH)
theorem zrS (g:Img) (hF:Fm g) (m:Me) (ar:List Ty) (arg:Int) (t0:Ty) (l:List Ty) (hl:l.length≤100) (op:Int) (ho:op=23∨op=24):XC 153 [] (⟨g,m,ar,⟨op,arg,t0⟩⟩:RC) (qA g m op) uV l:=by
 let c:RC:=⟨g,m,ar,⟨op,arg,t0⟩⟩
 rcases ho with rfl|rfl
 all_goals
  intro u;refine zH zf Tryz.func153 rfl (by kernel_rfl) Tryz.ntmps153 (by simp) _ rfl (fun gB hw1=>?_)
  cases hS1:(zbG) l with
  | error e =>
   have hw:(qA g m c.x.op) l=.error e:=by simp [qA,c,zu,zC,hS1]
   repeat' (first|refine zl 19 2 rfl rfl rfl ?_|refine zA ((yP u c l)) zh rfl rfl rfl tH ((Yh c _ (by omega)).bad hS1 u) ?_|refine sK ?_|refine sC (fun _=>?_) (fun _=>?_)|fail)
   exact zB hw
  | ok p =>
   obtain ⟨t,l1⟩:=p
   have hl1:l1.length≤100:=by have:=zdw hS1;omega
   cases hS2:(yV m.max [t]) l1 with
   | error e =>
    have hw:(qA g m c.x.op) l=.error e:=by simp [qA,c,zu,zC,hS1,hS2]
    repeat' (first|refine zl 19 4 rfl rfl rfl ?_|refine zA ((yP u c l1)) zh rfl rfl rfl tH ((zO c [t] _ (by omega) (by simp)).bad hS2 u) ?_|(refine zn ?_;first|(refine zo 0 zh rfl rfl ((Yh c _ (by omega)).ok hS1) rfl rfl rfl rfl rfl ?_))|refine sK ?_|refine sC (fun _=>?_) (fun _=>?_)|fail)
    exact zB hw
   | ok p =>
    obtain ⟨⟨⟩,l2⟩:=p
    have hw:(qA g m c.x.op) l=.ok ((),l2):=by simp [qA,c,zu,zC,hS1,hS2]
    repeat' (first|(refine zn ?_;first|(refine zo 0 zh rfl rfl ((Yh c _ (by omega)).ok hS1) rfl rfl rfl rfl rfl ?_)|(refine zo 0 zh rfl rfl ((zO c [t] _ (by omega) (by simp)).ok hS2) rfl rfl rfl rfl rfl ?_))|refine sK ?_|refine sC (fun _=>?_) (fun _=>?_)|fail)
    exact zU hw (yw (.inl rfl) tH)
theorem zrE (g:Img) (hF:Fm g) (m:Me) (ar:List Ty) (arg:Int) (t0:Ty) (l:List Ty) (hl:l.length≤100) (op:Int) (ho:op=28∨op=30):XC 153 [] (⟨g,m,ar,⟨op,arg,t0⟩⟩:RC) (qA g m op) uV l:=by
 let c:RC:=⟨g,m,ar,⟨op,arg,t0⟩⟩
 rcases ho with rfl|rfl
 all_goals
  intro u;refine zH zf Tryz.func153 rfl (by kernel_rfl) Tryz.ntmps153 (by simp) _ rfl (fun gB hw1=>?_)
  cases hS1:(zbG) l with
  | error e =>
   have hw:(qA g m c.x.op) l=.error e:=by simp [qA,c,zu,zC,hS1]
   repeat' (first|refine zl 22 1 rfl rfl rfl ?_|refine zA ((yP u c l)) zh rfl rfl rfl tH ((Yh c _ (by omega)).bad hS1 u) ?_|(refine shC ?_;first|refine qC (zM 2) ?_)|refine sK ?_|refine sC (fun _=>?_) (fun _=>?_)|fail)
   exact zB hw
  | ok p =>
   obtain ⟨t,l1⟩:=p
   have hl1:l1.length≤100:=by have:=zdw hS1;omega
   cases hS2:(yV m.max [kTy 2]) l1 with
   | error e =>
    have hw:(qA g m c.x.op) l=.error e:=by simp [qA,c,zu,zC,hS1,hS2]
    repeat' (first|refine zl 23 3 rfl rfl rfl ?_|refine zA ((yP u c l1)) zh rfl rfl rfl tH ((zO c [kTy 2] _ (by omega) (by simp)).bad hS2 u) ?_|(refine shC ?_;first|refine qC (zM 2) ?_)|(refine zn ?_;first|(refine zo 0 zh rfl rfl ((Yh c _ (by omega)).ok hS1) rfl rfl rfl rfl rfl ?_))|refine sK ?_|refine sC (fun _=>?_) (fun _=>?_)|fail)
    exact zB hw
   | ok p =>
    obtain ⟨⟨⟩,l2⟩:=p
    have hw:(qA g m c.x.op) l=.ok ((),l2):=by simp [qA,c,zu,zC,hS1,hS2]
    repeat' (first|(refine shC ?_;first|refine qC (zM 2) ?_)|(refine zn ?_;first|(refine zo 0 zh rfl rfl ((Yh c _ (by omega)).ok hS1) rfl rfl rfl rfl rfl ?_)|(refine zo 0 zh rfl rfl ((zO c [kTy 2] _ (by omega) (by simp)).ok hS2) rfl rfl rfl rfl rfl ?_))|refine sK ?_|refine sC (fun _=>?_) (fun _=>?_)|fail)
    exact zU hw (yw (.inl rfl) tH)
theorem zrK (g:Img) (hF:Fm g) (m:Me) (ar:List Ty) (arg:Int) (t0:Ty) (l:List Ty) (hl:l.length≤100):XC 153 [] (⟨g,m,ar,⟨29,arg,t0⟩⟩:RC) (qA g m 29) uV l:=by
 intro u;refine zH zf Tryz.func153 rfl (by kernel_rfl) Tryz.ntmps153 (by simp) _ rfl (fun gB hw1=>?_)
 cases hS1:(zbG) l with
 | error e =>
  have hw:(qA g m 29) l=.error e:=by simp [qA,zu,zC,hS1]
  repeat' (first|refine zl 25 1 rfl rfl rfl ?_|refine zA ((yP u ⟨g,m,ar,⟨29,arg,t0⟩⟩ l)) zh rfl rfl rfl tH ((Yh ⟨g,m,ar,⟨29,arg,t0⟩⟩ _ (by omega)).bad hS1 u) ?_|(refine shC ?_;first|refine qC (zM 3) ?_)|refine sK ?_|refine sC (fun _=>?_) (fun _=>?_)|fail)
  exact zB hw
 | ok p =>
  obtain ⟨t,l1⟩:=p
  have hl1:l1.length≤100:=by have:=zdw hS1;omega
  cases hS2:(yV m.max [kTy 3]) l1 with
  | error e =>
   have hw:(qA g m 29) l=.error e:=by simp [qA,zu,zC,hS1,hS2]
   repeat' (first|refine zl 26 3 rfl rfl rfl ?_|refine zA ((yP u ⟨g,m,ar,⟨29,arg,t0⟩⟩ l1)) zh rfl rfl rfl tH ((zO ⟨g,m,ar,⟨29,arg,t0⟩⟩ [kTy 3] _ (by omega) (by simp)).bad hS2 u) ?_|(refine shC ?_;first|refine qC (zM 3) ?_)|(refine zn ?_;first|(refine zo 0 zh rfl rfl ((Yh ⟨g,m,ar,⟨29,arg,t0⟩⟩ _ (by omega)).ok hS1) rfl rfl rfl rfl rfl ?_))|refine sK ?_|refine sC (fun _=>?_) (fun _=>?_)|fail)
   exact zB hw
  | ok p =>
   obtain ⟨⟨⟩,l2⟩:=p
   have hw:(qA g m 29) l=.ok ((),l2):=by simp [qA,zu,zC,hS1,hS2]
   repeat' (first|(refine shC ?_;first|refine qC (zM 3) ?_)|(refine zn ?_;first|(refine zo 0 zh rfl rfl ((Yh ⟨g,m,ar,⟨29,arg,t0⟩⟩ _ (by omega)).ok hS1) rfl rfl rfl rfl rfl ?_)|(refine zo 0 zh rfl rfl ((zO ⟨g,m,ar,⟨29,arg,t0⟩⟩ [kTy 3] _ (by omega) (by simp)).ok hS2) rfl rfl rfl rfl rfl ?_))|refine sK ?_|refine sC (fun _=>?_) (fun _=>?_)|fail)
   exact zU hw (yw (.inl rfl) tH)
theorem zrv (g:Img) (hF:Fm g) (m:Me) (ar:List Ty) (arg:Int) (t0:Ty) (l:List Ty) (hl:l.length≤100):XC 153 [] (⟨g,m,ar,⟨31,arg,t0⟩⟩:RC) (qA g m 31) uV l:=by
 intro u;refine zH zf Tryz.func153 rfl (by kernel_rfl) Tryz.ntmps153 (by simp) _ rfl (fun gB hw1=>?_)
 cases hS1:(Ze) l with
 | error e =>
  have hw:(qA g m 31) l=.error e:=by simp [qA,zu,zC,hS1]
  repeat' (first|refine zl 28 1 rfl rfl rfl ?_|refine zA ((yP u ⟨g,m,ar,⟨31,arg,t0⟩⟩ l)) zh rfl rfl rfl tH ((Wu ⟨g,m,ar,⟨31,arg,t0⟩⟩ _ (by omega)).bad hS1 u) ?_|(refine shC ?_;first|refine qC (zM 2) ?_)|refine sK ?_|refine sC (fun _=>?_) (fun _=>?_)|fail)
  exact zB hw
 | ok p =>
  obtain ⟨⟨⟩,l1⟩:=p
  have hl1:l1.length≤100:=by have:=zdj hS1;omega
  cases hS2:(yV m.max [kTy 2]) l1 with
  | error e =>
   have hw:(qA g m 31) l=.error e:=by simp [qA,zu,zC,hS1,hS2]
   repeat' (first|refine zl 29 3 rfl rfl rfl ?_|refine zA ((yP u ⟨g,m,ar,⟨31,arg,t0⟩⟩ l1)) zh rfl rfl rfl tH ((zO ⟨g,m,ar,⟨31,arg,t0⟩⟩ [kTy 2] _ (by omega) (by simp)).bad hS2 u) ?_|(refine shC ?_;first|refine qC (zM 2) ?_)|(refine zn ?_;first|(refine zo 0 zh rfl rfl ((Wu ⟨g,m,ar,⟨31,arg,t0⟩⟩ _ (by omega)).ok hS1) rfl rfl rfl rfl rfl ?_))|refine sK ?_|refine sC (fun _=>?_) (fun _=>?_)|fail)
   exact zB hw
  | ok p =>
   obtain ⟨⟨⟩,l2⟩:=p
   have hw:(qA g m 31) l=.ok ((),l2):=by simp [qA,zu,zC,hS1,hS2]
   repeat' (first|(refine shC ?_;first|refine qC (zM 2) ?_)|(refine zn ?_;first|(refine zo 0 zh rfl rfl ((Wu ⟨g,m,ar,⟨31,arg,t0⟩⟩ _ (by omega)).ok hS1) rfl rfl rfl rfl rfl ?_)|(refine zo 0 zh rfl rfl ((zO ⟨g,m,ar,⟨31,arg,t0⟩⟩ [kTy 2] _ (by omega) (by simp)).ok hS2) rfl rfl rfl rfl rfl ?_))|refine sK ?_|refine sC (fun _=>?_) (fun _=>?_)|fail)
   exact zU hw (yw (.inl rfl) tH)
theorem zr1 (g:Img) (hF:Fm g) (m:Me) (ar:List Ty) (arg:Int) (t0:Ty) (l:List Ty) (hl:l.length≤100) (op:Int) (ho:op=32∨op=33):XC 153 [] (⟨g,m,ar,⟨op,arg,t0⟩⟩:RC) (qA g m op) uV l:=by
 let c:RC:=⟨g,m,ar,⟨op,arg,t0⟩⟩
 rcases ho with rfl|rfl
 all_goals
  intro u;refine zH zf Tryz.func153 rfl (by kernel_rfl) Tryz.ntmps153 (by simp) _ rfl (fun gB hw1=>?_)
  cases hS1:(Zg) l with
  | error e =>
   have hw:(qA g m c.x.op) l=.error e:=by simp [qA,c,zu,zC,hS1]
   repeat' (first|refine zl 32 1 rfl rfl rfl ?_|refine zA ((yP u c l)) zh rfl rfl rfl tH ((Yk c _ (by omega)).bad hS1 u) ?_|(refine shC ?_;first|refine qC (zM 2) ?_)|refine sK ?_|refine sC (fun _=>?_) (fun _=>?_)|fail)
   exact zB hw
  | ok p =>
   obtain ⟨t,l1⟩:=p
   have hl1:l1.length≤100:=by have:=zad hS1;omega
   cases hS2:(yV m.max [kTy 2]) l1 with
   | error e =>
    have hw:(qA g m c.x.op) l=.error e:=by simp [qA,c,zu,zC,hS1,hS2]
    repeat' (first|refine zl 33 3 rfl rfl rfl ?_|refine zA ((yP u c l1)) zh rfl rfl rfl tH ((zO c [kTy 2] _ (by omega) (by simp)).bad hS2 u) ?_|(refine shC ?_;first|refine qC (zM 2) ?_)|(refine zn ?_;first|(refine zo 0 zh rfl rfl ((Yk c _ (by omega)).ok hS1) rfl rfl rfl rfl rfl ?_))|refine sK ?_|refine sC (fun _=>?_) (fun _=>?_)|fail)
    exact zB hw
   | ok p =>
    obtain ⟨⟨⟩,l2⟩:=p
    have hw:(qA g m c.x.op) l=.ok ((),l2):=by simp [qA,c,zu,zC,hS1,hS2]
    repeat' (first|(refine shC ?_;first|refine qC (zM 2) ?_)|(refine zn ?_;first|(refine zo 0 zh rfl rfl ((Yk c _ (by omega)).ok hS1) rfl rfl rfl rfl rfl ?_)|(refine zo 0 zh rfl rfl ((zO c [kTy 2] _ (by omega) (by simp)).ok hS2) rfl rfl rfl rfl rfl ?_))|refine sK ?_|refine sC (fun _=>?_) (fun _=>?_)|fail)
    exact zU hw (yw (.inl rfl) tH)
def BdS {α:Type} (max:Int) (act:SM α):Prop:=∀ l a l',act l=.ok (a,l')→((l'.length:Int)≤max∨l'.length≤l.length)∧l'.length≤l.length + 1
theorem zea {α:Type} {max:Int} {act:SM α} (h:LeS act):BdS max act:=fun l a l' hx=>⟨.inr (h l a l' hx),by have:=h l a l' hx;omega⟩
theorem Qw {α β:Type} {max:Int} {x:SM α} {f:α→SM β} (hx:LeS x) (hf:∀ a,BdS max (f a)):BdS max (x >>= f):=fun l b l' h=>by
 rw [zu] at h
 cases hxl:x l with
 | error e=>rw [hxl] at h;cases h
 | ok p =>
  obtain ⟨a,l1⟩:=p
  rw [hxl] at h
  have h1:=hf a l1 b l' h
  have h2:=hx l a l1 hxl
  exact ⟨h1.1.imp (fun h=>h) (fun h=>by omega),by omega⟩
theorem zgg (max:Int) (t:Ty):BdS max (yV max [t]):=fun l a l' h=>by
 unfold yV at h
 split at h
 ·rename_i hm
  cases h
  simp at hm ⊢;omega
 ·cases h
theorem zsM (max:Int):BdS max (do let t ←YC;yV max [t,t]):=fun l a l' h=>by
 rcases Yc l with e|⟨t,l1,e,e2⟩
 ·rw [zeH e] at h;cases h
 ·rw [ztz e] at h
  unfold yV at h
  split at h
  ·rename_i hm
   cases h
   subst e2
   simp at hm ⊢;omega
  ·cases h
theorem zru:LeS zbn:=fun l a l' h=>by cases h;simp
theorem zmC:LeS Zg:=fun l a l' h=>zad h
theorem one_le:LeS zbG:=fun l a l' h=>zdw h
theorem ziD:LeS Ze:=fun l a l' h=>zdj h
theorem zsj (x:Ins) (ls:List Ty):LeS (VE x ls):=fun l a l' h=>Vy h
theorem ziK (g:Img) (f:Fd) (it:Bool):LeS (Zh g f it):=fun l a l' h=>zbr h
theorem zqQ (x:Ins):LeS (XG x):=fun l a l' h=>zaY h
theorem zl8 (max:Int) (t:Ty):BdS max (YX max t):=Qw (XP _ _) fun _=>zgg _ _
theorem zow (max:Int) (c:Me):BdS max (Qe max c):=by
 unfold Qe
 split
 ·exact zgg _ _
 ·exact zea (zbw _)
theorem ztj {α:Type} {max:Int} {p:Prop} [Decidable p] {x y:SM α} (hx:BdS max x) (hy:BdS max y):BdS max (if p then x else y):=by split <;> assumption
theorem zsD (g:Img) (ar:List Ty) (m:Me) (x:Ins):BdS m.max (doS g ar m x):=by
 unfold doS qP qA Zk qI yI qY yF yA yu Zm yL
 try dsimp only
 repeat' (first|with_reducible exact zgg _ _|with_reducible exact zsM _|with_reducible exact zea (zbw _)|with_reducible exact zea (XP _ _)|with_reducible exact zea (zjO _ _)|with_reducible exact zea (zgA _ _)|with_reducible exact zea (ziK _ _ _)|with_reducible exact zea ziD|with_reducible exact zea zru|with_reducible exact zl8 _ _|with_reducible exact zow _ _|with_reducible exact zea zaw|with_reducible refine Qw (zbw _) fun _=>?_|with_reducible refine Qw (XP _ _) fun _=>?_|with_reducible refine Qw (zaw) fun _=>?_|with_reducible refine Qw (zjO _ _) fun _=>?_|with_reducible refine Qw (zgA _ _) fun _=>?_|with_reducible refine Qw (zmC) fun _=>?_|with_reducible refine Qw (one_le) fun _=>?_|with_reducible refine Qw (ziD) fun _=>?_|with_reducible refine Qw (zsj _ _) fun _=>?_|with_reducible refine Qw (ziK _ _ _) fun _=>?_|with_reducible refine Qw (zqQ _) fun _=>?_|with_reducible refine Qw (empty_le _) fun _=>?_|with_reducible refine ztj ?_ ?_|split|dsimp only)
def qW (c:List Pt) (at_:Int):Nat:=(c.takeWhile fun x=>x.p==1&&x.f==at_).length
def zsQ (x y:Pt):Bool:=x.c==y.c&&(x.p==y.p&&true)
def VO:List Pt→List Pt→Bool
 | [],[]=>true
 | x::a,y::b=>zsQ x y&&VO a b
 | _,_=>false
def zjD (b:List Pt) (to:Int) (a:List Pt):Bool:=(List.range (qW b to + 1)).any fun k=>VO (b.drop k) a
def zfq (l:List Cl) (i to:Int):Bool:=zjD (qK l to) to (qK l i)
def zs8 (l:List Cl) (r:Pt):Bool:=r.p==3||r.p==2&&(l.getD r.c.toNat default).kind != 1&&(l.getD r.c.toNat default).kind != 2
def XU (l:List Cl) (b:List Pt) (to:Int):List Pt→Bool
 | []=>zjD b to []
 | r::a=>if zjD b to (r::a) then true else if zs8 l r then false else XU l b to a
def zgF (l:List Cl) (i to:Int):Bool:=XU l (qK l to) to (qK l i)
def WJ (m:Me) (i:Int):Int:=if decide (1≤(ql m i).op)&&decide ((ql m i).op≤75) then (ofI (ql m i).op).2.2 else 0
def opV (m:Me) (i:Int):Int:=if decide (i < 0)||decide ((m.code.length:Int)≤i) then 0 else (ql m i).op
def zcO (w:Int):Bool:=w==0||w==2
def WR (w:Int):Bool:=w==1||(w==2||w==4)
def onV (m:Me) (i:Int):Int :=
 if zcO (WJ m i)&&!decide (i + 1 < (m.code.length:Int)) then 11
 else if zcO (WJ m i)&&!zfq m.clauses i (i + 1) then 12
 else if !WR (WJ m i) then 0
 else if WJ m i==4 then (if zgF m.clauses i (ql m i).arg then 0 else 12)
 else if zfq m.clauses i (ql m i).arg then 0 else 12
def clV (m:Me) (r:Pt):Cl:=m.clauses.getD r.c.toNat default
def QI (m:Me) (r:Pt) (a b:Int):Bool:=r.p==2&&((clV m r).kind==a||(clV m r).kind==b)
def Zz (m:Me) (i:Int):Int :=
 if opV m i==46 then (if (qK m.clauses i).isEmpty then 0 else 12)
 else if opV m i==70 then (match (qK m.clauses i).find? (fun r=>r.p != 1) with|none=>12|some r=>if QI m r 1 2 then 0 else 12)
 else if opV m i==72 then (match qK m.clauses i with|[]=>12|r::_=>if QI m r 3 4 then 0 else 12)
 else if opV m i==73 then (match qK m.clauses i with|[]=>12|r::_=>if r.p==3&&(clV m r).hf==i + 1 then 0 else 12)
 else 0
def XY (g:Img) (m:Me) (i:Int):Me:=mAt g (ql m (i + 1)).arg
def tailV (g:Img) (m:Me) (i:Int):Int :=
 if opV m i != 47 then 0
 else if !((opV m (i + 1)==43||opV m (i + 1)==44)&&opV m (i + 2)==46&&(qK m.clauses i).isEmpty) then 11
 else if !tyB (XY g m i).ret m.ret then 10
 else if (QB g (XY g m i)).any (fun t=>t.ref) then 13 else 0
def zao (m:Me) (i:Int):Int:=if opV m i==68&&opV m (i - 1) != 67 then 11 else 0
def Wy (g:Img) (m:Me) (i:Int):Int :=
 if onV m i != 0 then onV m i else if Zz m i != 0 then Zz m i else if tailV g m i != 0 then tailV g m i else zao m i
def zdD (m:Me):Bool:=!(qK m.clauses 0).any fun r=>r.p != 1||(clV m r).tf != 0
def zcH (g:Img) (m:Me):Int × Int :=
 match (List.range m.code.length).find? (fun i:Nat=>Wy g m i != 0) with
 | some i=>(((i:Nat):Int),Wy g m i)
 | none=>if zdD m then (0,0) else (0,12)
structure VS where
 st:List (List Ty)
 kn:List Bool
 wk:Int
def qL (i:Int) (l:List Ty) (s:VS):VS:=⟨s.st.set i.toNat l,s.kn.set i.toNat true,s.wk⟩
def YW (s:VS) (c:Cl):VS :=
 if c.kind==1 then qL c.hf [c.t] s
 else if c.kind==2 then qL c.filter [⟨4,0,0,false⟩] (qL c.hf [⟨4,0,0,false⟩] s)
 else qL c.hf [] s
def za8 (m:Me):VS:=m.clauses.foldl YW (qL 0 [] ⟨List.replicate m.code.length [],List.replicate m.code.length false,0⟩)
def zf5 (m:Me) (i to:Int):Bool:=m.clauses.any fun c=>c.tf==to&&(decide (i < c.tf)||decide (c.tt≤i))
def WI (s:VS) (i:Int):List Ty:=s.st.getD i.toNat []
def toV (g:Img) (m:Me) (i to:Int) (l:List Ty) (s:VS):Except Int VS :=
 if !(l.isEmpty||!zf5 m i to) then .error 9
 else if decide (to≤i) then (if zeV g l (WI s to) then .ok { s with wk:=s.wk + (1 + l.length) } else .error 14)
 else if !s.kn.getD to.toNat false then .ok (qL to l { s with wk:=s.wk + (1 + l.length) })
 else if (YB g (WI s to) l).2==0 then .ok { s with st:=s.st.set to.toNat (YB g (WI s to) l).1,wk:=s.wk + (1 + l.length) }
 else .error (YB g (WI s to) l).2
def zgE (g:Img) (m:Me) (i:Int) (l:List Ty) (s:VS):Except Int VS :=
 match (if zcO (WJ m i) then toV g m i (i + 1) l s else .ok s) with
 | .error e=>.error e
 | .ok s'=>if WR (WJ m i) then toV g m i (ql m i).arg l s' else .ok s'
def zfP (g:Img) (k:Int) (i:Int) (s:VS):Except Int VS :=
 match stepS g k i (WI s i) with
 | .error e=>.error e
 | .ok p=>zgE g (mAt g k) i p.2 { s with kn:=s.kn.set i.toNat true,wk:=s.wk + 1 }
def goV (g:Img) (k:Int):Nat→Nat→VS→Except (Int × Int) VS
 | 0,_,s=>.ok s
 | f + 1,i,s=>match zfP g k i s with|.error e=>.error (((i:Nat):Int),e)|.ok s'=>goV g k f (i + 1) s'
def Qv (g:Img) (k:Int):Except (Int × Int) VS :=
 if (zcH g (mAt g k)).2 != 0 then .error (zcH g (mAt g k)) else goV g k (mAt g k).code.length 0 (za8 (mAt g k))
structure OkV (n:Nat) (s:VS):Prop where
 len:s.st.length=n
 st:∀ l∈s.st,l.length≤12
theorem zcs {s:VS} {n:Nat} (h:OkV n s) (i:Int):(WI s i).length≤12:=by
 unfold WI
 rw [List.getD_eq_getElem?_getD]
 cases hs:s.st[i.toNat]? with
 | none=>simp
 | some l=>exact h.st l (List.mem_of_getElem? hs)
theorem zc8 {n:Nat} {s:VS} (h:OkV n s) {l:List Ty} (hl:l.length≤12) (i:Nat) (kn:List Bool) (wk:Int):OkV n ⟨s.st.set i l,kn,wk⟩ :=
 ⟨by simp [h.len],fun x hx=>by
  rcases List.mem_or_eq_of_mem_set hx with hx|hx
  ·exact h.st x hx
  ·rw [hx];exact hl⟩
theorem zsv {n:Nat} {s:VS} (h:OkV n s) (c:Cl):OkV n (YW s c):=by
 unfold YW
 split
 ·exact zc8 h (by simp) _ _ _
 ·split
  ·exact zc8 (s:=qL c.hf [⟨4,0,0,false⟩] s) (zc8 h (by simp) _ _ _) (by simp) _ _ _
  ·exact zc8 h (by simp) _ _ _
theorem zl1 {n:Nat}:∀ (l:List Cl) {s:VS},OkV n s→OkV n (l.foldl YW s)
 | [],_,h=>h
 | c::l,_,h=>zl1 l (zsv h c)
theorem zkB:∀ (l:List Cl) (s:VS),(l.foldl YW s).wk=s.wk
 | [],_=>rfl
 | c::l,s=>by
  rw [List.foldl_cons,zkB l]
  unfold YW
  split
  ·rfl
  ·split <;> rfl
theorem zlP (m:Me):OkV m.code.length (za8 m)∧(za8 m).wk=0 :=
 ⟨zl1 _ (zc8 ⟨by simp,fun l hl=>by rw [List.eq_of_mem_replicate hl];simp⟩ (by simp) _ _ _),by rw [za8,zkB];rfl⟩
theorem zlG (g:Img):∀ (a b out:List Ty),a.length=b.length→(zgR g a b out).2=0→(zgR g a b out).1.length=out.length + a.length
 | [],[],out,_,_=>by simp [zgR]
 | x::a,y::b,out,h,h2=>by
  rw [zgR] at h2 ⊢
  split at h2
  ·rename_i h3;simp at h3;exact absurd h2 h3
  ·rename_i h3
   rw [if_neg h3,zlG g a b _ (by simpa using h) h2]
   simp;omega
 | [],_::_,_,h,_=>by simp at h
 | _::_,[],_,h,_=>by simp at h
theorem zk6 {g:Img} {a b:List Ty} (h:(YB g a b).2=0):(YB g a b).1.length=a.length:=by
 unfold YB at h ⊢
 split
 ·rename_i h1;rw [if_pos h1] at h;simp at h
 ·rename_i h1
  rw [if_neg h1] at h
  rw [zlG g a b [] (by simpa using h1) h];simp
theorem zqW {g:Img} {m:Me} {i to:Int} {l:List Ty} {n:Nat} {s s':VS} (h:OkV n s) (hl:l.length≤12) (ht:toV g m i to l s=.ok s'):OkV n s'∧s'.wk=s.wk + (1 + l.length):=by
 unfold toV at ht
 split at ht
 ·cases ht
 ·split at ht
  ·split at ht
   ·cases ht;exact ⟨⟨h.len,h.st⟩,rfl⟩
   ·cases ht
  ·split at ht
   ·cases ht;exact ⟨zc8 h hl _ _ _,rfl⟩
   ·split at ht
    ·rename_i he
     cases ht
     exact ⟨zc8 h (by rw [zk6 (by simpa using he)];exact zcs h to) _ _ _,rfl⟩
    ·cases ht
theorem zr2 {g:Img} {m:Me} {i:Int} {l:List Ty} {n:Nat} {s s':VS} (h:OkV n s) (hl:l.length≤12) (ht:zgE g m i l s=.ok s'):OkV n s'∧s.wk≤s'.wk∧s'.wk≤s.wk + 26:=by
 unfold zgE at ht
 split at ht
 ·cases ht
 ·rename_i s1 h1
  have k1:OkV n s1∧s.wk≤s1.wk∧s1.wk≤s.wk + 13:=by
   split at h1
   ·obtain ⟨a,b⟩:=zqW h hl h1
    exact ⟨a,by omega,by omega⟩
   ·cases h1;exact ⟨h,by omega,by omega⟩
  split at ht
  ·obtain ⟨a,b⟩:=zqW k1.1 hl ht
   exact ⟨a,by omega,by omega⟩
  ·cases ht;exact ⟨k1.1,by omega,by omega⟩
theorem zp5 {g:Img} {k i:Int} {n:Nat} {s s':VS} (hm:(mAt g k).max≤12) (h:OkV n s) (ht:zfP g k i s=.ok s'):OkV n s'∧s.wk + 1≤s'.wk∧s'.wk≤s.wk + 27:=by
 unfold zfP at ht
 split at ht
 ·cases ht
 ·rename_i p hp
  obtain ⟨⟨⟩,l2⟩:=p
  have hb:=(zsD g (QB g (mAt g k)) (mAt g k) (ql (mAt g k) i) _ _ _ hp).1
  have hg:=zcs h i
  obtain ⟨a,b,c⟩:=zr2 (s:={ s with kn:=s.kn.set i.toNat true,wk:=s.wk + 1 }) ⟨h.len,h.st⟩ (show l2.length≤12 by rcases hb with hb|hb <;> omega) ht
  exact ⟨a,by simpa using b,by simp only at c;omega⟩
theorem go_ok {g:Img} {k:Int} {n:Nat} (hm:(mAt g k).max≤12):∀ (f i:Nat) {s s':VS},OkV n s→goV g k f i s=.ok s'→OkV n s'∧s.wk + f≤s'.wk∧s'.wk≤s.wk + 27 * f
 | 0,i,s,s',h,ht=>by cases ht;exact ⟨h,by omega,by omega⟩
 | f + 1,i,s,s',h,ht=>by
  rw [goV] at ht
  split at ht
  ·cases ht
  ·rename_i s1 h1
   obtain ⟨a,b,c⟩:=zp5 hm h h1
   obtain ⟨a2,b2,c2⟩:=go_ok hm f (i + 1) a ht
   exact ⟨a2,by omega,by omega⟩
theorem zoE {g:Img} {k:Int} {s:VS} (hm:(mAt g k).max≤12) (h:Qv g k=.ok s):s.st.length=(mAt g k).code.length∧((mAt g k).code.length:Int)≤s.wk∧s.wk≤27 * (mAt g k).code.length:=by
 unfold Qv at h
 split at h
 ·cases h
 ·obtain ⟨a,b⟩:=zlP (mAt g k)
  obtain ⟨c,d,e⟩:=go_ok hm _ 0 a h
  exact ⟨c.len,by omega,by omega⟩
end Go.Cg
