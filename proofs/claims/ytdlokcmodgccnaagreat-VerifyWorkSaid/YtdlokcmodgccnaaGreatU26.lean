/- A part of the walks by abstract values: no statement of its own. -/
import Derived.Test.YtdlokcmodgccnaaGreatU25
import Derived.Test.YtdlokcmodgccnaaGreatU23
import Derived.Test.YtdlokcmodgccnaaGreatU11
import Derived.Test.YtdlokcmodgccnaaGreatU17
set_option linter.unusedVariables false
set_option linter.unusedSimpArgs false
namespace Go.Cg
open Go.Proofs
def SM (α:Type):Type:=List Ty→Except Int (α × List Ty)
def SM.ret {α:Type} (a:α):SM α:=fun l=>.ok (a,l)
def SM.bnd {α β:Type} (x:SM α) (f:α→SM β):SM β:=fun l=>match x l with|.error e=>.error e|.ok p=>f p.1 p.2
instance:Monad SM:={ pure:=SM.ret,bind:=SM.bnd }
theorem zC {α:Type} (a:α) (l:List Ty):(pure a:SM α) l=.ok (a,l):=rfl
theorem zu {α β:Type} (x:SM α) (f:α→SM β) (l:List Ty):(x >>= f) l=match x l with|.error e=>.error e|.ok p=>f p.1 p.2:=rfl
theorem zeH {α β:Type} {x:SM α} {f:α→SM β} {l:List Ty} {e:Int} (h:x l=.error e):(x >>= f) l=.error e:=by rw [zu,h]
theorem ztz {α β:Type} {x:SM α} {f:α→SM β} {l l':List Ty} {a:α} (h:x l=.ok (a,l')):(x >>= f) l=f a l':=by rw [zu,h]
def zJ (b:Bool) (e:Int):SM Unit:=fun l=>if b then .ok ((),l) else .error e
def YC:SM Ty:=fun l=>if l.length < 1 then .error 9 else .ok ((l.drop (l.length - 1)).headD default,l.take (l.length - 1))
def yV (most:Int) (ts:List Ty):SM Unit:=fun l=>if ((l.length:Int) + (ts.length:Int))≤most then .ok ((),l++ts) else .error 9
def zbn:SM Unit:=fun _=>.ok ((),[])
def emptyS (e:Int):SM Unit:=fun l=>if l.length==0 then .ok ((),l) else .error e
def kTy (k:Int):Ty:=⟨k,0,0,false⟩
def rfT (t:Ty):Ty:=⟨t.kind,t.index,t.dims,true⟩
def nuT (t:Ty):Bool:=tyB t (kTy 2)||tyB t (kTy 3)
def Yy (g:Img) (t:Ty):SM Unit:=do let x ←YC;zJ (zah g x t) 10
def Zw (g:Img) (ls:List Ty):SM Unit:=fun l =>
 if l.length < ls.length then .error 9 else if zeV g (l.drop (l.length - ls.length)) ls then .ok ((),l.take (l.length - ls.length)) else .error 10
def Zg:SM Ty:=do let b ←YC;let a ←YC;zJ (tyB a b&&nuT a) 10;pure a
def zbG:SM Ty:=do let t ←YC;zJ (nuT t) 10;pure t
def Ze:SM Unit:=do let b ←YC;let a ←YC;zJ (tyB a b&&nuT a||object a&&object b) 10
def VE (x:Ins) (ls:List Ty):SM Ty:=do zJ (decide (x.arg < ls.length)) 3;pure (ls.getD x.arg.toNat default)
def YX (most:Int) (t:Ty):SM Unit:=do zJ (!t.ref) 13;yV most [rfT t]
def QB (g:Img) (c:Me):List Ty:=zsJ (WW (ZY g c.owner) (qJ c.flags 1) c.owner) c.params
def Qe (most:Int) (c:Me):SM Unit:=if c.ret.kind != 1 then yV most [c.ret] else pure ()
def fAt (g:Img) (a:Int):Fd:=g.fields.getD a.toNat default
def tAt (g:Img) (a:Int):TD:=g.types.getD a.toNat default
def Zh (g:Img) (f:Fd) (itself:Bool):SM Unit:=do
 let t ←YC
 if ZY g f.owner==1 then zJ (tyB t (rfT ⟨6,f.owner,0,false⟩)||itself&&tyB t ⟨6,f.owner,0,false⟩) 10
 else zJ (zah g t ⟨5,f.owner,0,false⟩) 10
def XG (x:Ins):SM Ty:=do zJ (decide (x.t.dims + 1≤3)) 6;pure ⟨x.t.kind,x.t.index,x.t.dims + 1,x.t.ref⟩
def zef (t:Ty):Bool:=nuT t||t.kind==6&&t.dims==0
def qP (g:Img) (ar:List Ty) (m:Me) (x:Ins):SM Unit:=do
 let t ←VE x (if x.op==2||x.op==3||x.op==4 then ar else m.locals)
 if x.op==2||x.op==5 then yV m.max [t] else if x.op==3||x.op==6 then Yy g t else YX m.max t
def qA (g:Img) (m:Me) (op:Int):SM Unit :=
 if op==13||op==14||op==15||op==16||op==17||op==18||op==19||op==20||op==25||op==26||op==27 then do let t ←Zg;yV m.max [t]
 else if op==21||op==22 then do Yy g (kTy 2);let t ←zbG;yV m.max [t]
 else if op==23||op==24 then do let t ←zbG;yV m.max [t]
 else if op==28||op==30 then do let _ ←zbG;yV m.max [kTy 2]
 else if op==29 then do let _ ←zbG;yV m.max [kTy 3]
 else if op==31 then do Ze;yV m.max [kTy 2]
 else if op==32||op==33 then do let _ ←Zg;yV m.max [kTy 2]
 else pure ()
def Zk (op:Int):SM Unit :=
 if op==35||op==36 then do let t ←YC;zJ (nuT t||object t) 10
 else if op==37||op==42 then Ze
 else if op==38||op==39||op==40||op==41 then do let _ ←Zg;pure ()
 else pure ()
def qI (g:Img) (m:Me) (x:Ins):SM Unit :=
 let c:=mAt g x.arg
 if x.op==43 then do zJ (!qJ c.flags 4) 8;Zw g (QB g c);Qe m.max c
 else if x.op==44 then do zJ (!qJ c.flags 1&&!qJ c.flags 16&&ZY g c.owner != 1) 8;Zw g (QB g c);Qe m.max c
 else do zJ (qJ c.flags 16&&!qJ (tAt g c.owner).flags 4) 8;Zw g c.params;yV m.max [⟨5,c.owner,0,false⟩]
def yI (g:Img) (m:Me) (x:Ins):SM Unit:=do
 let f:=fAt g x.arg
 zJ (f.static==(x.op==51||x.op==52||x.op==53)) 8
 if x.op==48 then do Zh g f true;yV m.max [f.ty]
 else if x.op==49 then do Yy g f.ty;Zh g f false
 else if x.op==50 then do Zh g f false;yV m.max [rfT f.ty]
 else if x.op==51 then yV m.max [f.ty]
 else if x.op==52 then Yy g f.ty
 else yV m.max [rfT f.ty]
def qY (g:Img) (m:Me) (x:Ins):SM Unit :=
 if x.op==55 then Zw g [rfT x.t,x.t]
 else do let t ←YC;zJ (tyB t (rfT x.t)) 10;if x.op==54 then yV m.max [x.t] else pure ()
def yF (g:Img) (m:Me) (x:Ins):SM Unit :=
 if x.op==58 then do let t ←YC;zJ (object t&&(decide (0 < t.dims)||t.kind==8)) 10;yV m.max [kTy 2]
 else do
  let a ←XG x
  if x.op==57 then do Yy g (kTy 2);yV m.max [a]
  else if x.op==60 then Zw g [a,kTy 2,x.t]
  else do Zw g [a,kTy 2];if x.op==59 then yV m.max [x.t] else yV m.max [rfT x.t]
def yA (g:Img) (m:Me) (x:Ins):SM Unit:=do
 zJ ((x.op==65||x.op==66)&&object x.t||!(x.op==65||x.op==66)&&zef x.t) 8
 if x.op==62 then do Yy g x.t;yV m.max [kTy 4]
 else do let t ←YC;zJ (object t) 10;yV m.max [if x.op==63 then rfT x.t else x.t]
def sameAll:List Ty→List Ty→Bool
 | a::ar,b::bs=>tyB a b&&sameAll ar bs
 | _,_=>true
def yu (g:Img) (m:Me) (x:Ins):SM Unit:=do
 zJ (x.t.kind==5&&x.t.dims==0&&ZY g x.t.index==3) 8
 let d:=mAt g ((methodsOf g x.t.index).headD 0)
 let f ←YC
 let o ←YC
 zJ (tyB f ⟨9,f.index,0,false⟩&&decide (0≤f.index)&&decide (f.index < g.methods.length)) 10
 let c:=mAt g f.index
 zJ (tyB c.ret d.ret&&c.params.length==d.params.length) 10
 zJ (sameAll c.params d.params) 10
 let this:=WW (ZY g c.owner) (qJ c.flags 1) c.owner
 if this.2 then zJ (!this.1.ref&&zah g o this.1) 10 else zJ (tyB o (kTy 8)) 10
 yV m.max [x.t]
def Zm (g:Img) (m:Me) (op:Int):SM Unit:=do
 if op==46 then do (if m.ret.kind != 1 then Yy g m.ret else pure ());emptyS 9
 else if op==69 then do let t ←YC;zJ (object t) 10
 else if op==73 then do Yy g (kTy 2);emptyS 9
 else pure ()
 zbn
def yL (g:Img) (m:Me) (x:Ins):SM Unit :=
 if x.op==8 then yV m.max [kTy 2]
 else if x.op==9||x.op==74 then yV m.max [kTy 3]
 else if x.op==10 then yV m.max [kTy 8]
 else if x.op==11 then do let t ←YC;yV m.max [t,t]
 else if x.op==12 then do let _ ←YC;pure ()
 else if x.op==75 then Yy g (kTy 3)
 else if x.op==67 then do zJ (!qJ (mAt g x.arg).flags 4&&!qJ (mAt g x.arg).flags 16) 8;yV m.max [⟨9,x.arg,0,false⟩]
 else pure ()
def doS (g:Img) (ar:List Ty) (m:Me) (x:Ins):SM Unit :=
 if decide (2≤x.op)&&decide (x.op≤7) then qP g ar m x
 else if decide (13≤x.op)&&decide (x.op≤33) then qA g m x.op
 else if decide (34≤x.op)&&decide (x.op≤42) then Zk x.op
 else if decide (43≤x.op)&&decide (x.op≤45) then qI g m x
 else if decide (48≤x.op)&&decide (x.op≤53) then yI g m x
 else if decide (54≤x.op)&&decide (x.op≤56) then qY g m x
 else if decide (57≤x.op)&&decide (x.op≤61) then yF g m x
 else if decide (62≤x.op)&&decide (x.op≤66) then yA g m x
 else if x.op==68 then yu g m x
 else if x.op==46||decide (69≤x.op)&&decide (x.op≤73) then Zm g m x.op
 else yL g m x
def ql (m:Me) (a:Int):Ins:=m.code.getD a.toNat default
def stepS (g:Img) (mi at_:Int) (l:List Ty):Except Int (Unit × List Ty):=doS g (QB g (mAt g mi)) (mAt g mi) (ql (mAt g mi) at_) l
abbrev zZ (g:Img):List PV:=[.slc 4 (g.types.map Zl) false,.slc 7 (g.fields.map Yb) false,.slc 12 (g.methods.map yB) false,pi g.entry]
abbrev zfU (m:Me):List PV:=[ps m.name,pi m.owner,pi m.flags,tys m.params,pi m.ret.kind,pi m.ret.index,pi m.ret.dims,pb m.ret.ref,tys m.locals,pi m.max,.slc 6 (m.code.map qj) false,.slc 10 (m.clauses.map ZX) false]
abbrev zbD (x:Ins):List PV:=[pi x.op,pi x.arg,pi x.t.kind,pi x.t.index,pi x.t.dims,pb x.t.ref]
abbrev yR (t:Ty):List PV:=[pi t.kind,pi t.index,pi t.dims,pb t.ref]
structure RC where
 g:Img
 m:Me
 ar:List Ty
 x:Ins
abbrev Xg (c:RC) (l:List Ty):HE:=.cell (.agg ((zZ c.g++(zfU c.m++(tys c.ar::(zbD c.x++[tys l])))).map .pv))
abbrev WC (c:RC):HE:=.cell (.agg ((zZ c.g++(zfU c.m++(tys c.ar::zbD c.x))).map .pv++[.any1]))
abbrev zfS (u:Value):HEnv:=[(1000,.pin (.own 0) u)]
abbrev yP (u:Value) (c:RC) (l:List Ty):HEnv:=(0,Xg c l)::zfS u
abbrev flt (e:Int):Value:=.iface 147 (.int .i64 e)
def zst {α:Type} (u:Value) (c:RC) (val:α→AV):Except Int (α × List Ty)→Out
 | .error e=>.pan (flt e)
 | .ok p=>.ret (val p.1) (yP u c p.2)
abbrev uV:Unit→AV:=fun _=>.pv (.tup [])
abbrev tV:Ty→AV:=fun t=>.pv (yM t)
def XC {α:Type} (f:FuncId) (args:List AV) (c:RC) (act:SM α) (val:α→AV) (l:List Ty):Prop:=∀ u,YQ Tryz.prog f (.box 0 0::args) (yP u c l) (zst u c val (act l))
theorem XC.ok {α:Type} {f:FuncId} {args:List AV} {c:RC} {act:SM α} {val:α→AV} {l l':List Ty} {a:α} (h:XC f args c act val l) (e:act l=.ok (a,l')):∀ us,ACallM Tryz.prog f (.box 0 0::args) ([(0,Xg c l)]++qx us [0]) (val a) ([(0,Xg c l')]++qx us [0]):=fun us=>by
 have:=h (us 0)
 rw [e] at this;exact this
theorem XC.bad {α:Type} {f:FuncId} {args:List AV} {c:RC} {act:SM α} {val:α→AV} {l:List Ty} {e:Int} (h:XC f args c act val l) (he:act l=.error e) (u:Value):ACallPan Tryz.prog f (.box 0 0::args) (yP u c l) (flt e):=by
 have:=h u
 rw [he] at this;exact this
set_option maxHeartbeats 20000000
theorem zU {α:Type} {tb:Tab} {rs:List ResultVar} {u:Value} {c:RC} {val:α→AV} {act:SM α} {l l':List Ty} {a:α} {ex:Exit} {env:Env} {H:HEnv} (h:act l=.ok (a,l')) (hr:zgD tb rs (val a) (yP u c l') ex env H):zjw tb rs (zst u c val (act l)) ex env H:=by
 rw [h];exact hr
theorem zB {α:Type} {tb:Tab} {rs:List ResultVar} {u:Value} {c:RC} {val:α→AV} {act:SM α} {l:List Ty} {e:Int} {env:Env} {H:HEnv} (h:act l=.error e):zjw tb rs (zst u c val (act l)) (.panic [{ v:=flt e,recovered:=false }]) env H:=by
 rw [h];rfl
theorem zF {b:Bool} (h:b=true) (e:Int):ACall Tryz.prog 199 [pb b,pi e] (.tup []):=by
 subst h
 refine zi zf Tryz.func199 rfl (by kernel_rfl) Tryz.ntmps199 (by simp) _ rfl (fun hw gB hgB=>?_)
 repeat' (first|refine sK ?_|refine sC (fun _=>?_) (fun _=>?_)|fail)
 exact VX rfl rfl
theorem yc {b:Bool} (h:b=false) (e:Int):ACallPan Tryz.prog 199 [.pv (pb b),.pv (pi e)] [] (flt e):=by
 subst h
 refine VA Tryz.func199 rfl (by kernel_rfl) Tryz.ntmps199 (by simp) (fun gB hw1=>?_)
 repeat' (first|refine zl 1 2 rfl rfl rfl ?_|refine zx rfl (ziA rfl Tryz.underlying147 rfl) rfl rfl ?_|refine ziH rfl rfl rfl ?_|refine sK ?_|refine sC (fun _=>?_) (fun _=>?_)|fail)
 exact rfl
theorem zM (k:Int):ACall Tryz.prog 195 [pi k] (yM (kTy k)):=by
 refine zi zf Tryz.func195 rfl (by kernel_rfl) Tryz.ntmps195 (by simp) _ rfl (fun hw gB hgB=>?_)
 repeat' (first|refine sK ?_|refine sC (fun _=>?_) (fun _=>?_)|fail)
 exact retq rfl rfl
theorem za1 (t:Ty):ACall Tryz.prog 200 [yM t] (pb (nuT t)):=by
 refine zi zf Tryz.func200 rfl (by kernel_rfl) Tryz.ntmps200 (by simp) _ rfl (fun hw gB hgB=>?_)
 repeat' (first|(refine shC ?_;first|refine qC (zM 2) ?_|refine qC (zM 3) ?_)|refine sA ?_|refine sC (fun _=>?_) (fun _=>?_)|fail)
 all_goals first|(exact retq rfl (by simp_all [zy,nuT,tyB,kTy]))|trace_state
theorem ZF (t:Ty):ACall Tryz.prog 207 [yM t] (yM (rfT t)):=by
 refine zi zf Tryz.func207 rfl (by kernel_rfl) Tryz.ntmps207 (by simp) _ rfl (fun hw gB hgB=>?_)
 repeat' (first|(refine Qp ?_;first|refine Vk 7 rfl rfl rfl rfl rfl rfl ?_)|refine sA ?_|refine sC (fun _=>?_) (fun _=>?_)|fail)
 exact retq rfl rfl
theorem YI (m:Me) (k:Int):ACall Tryz.prog 203 [yB m,pi k] (pb (qJ m.flags k)):=by
 refine zi zf Tryz.func203 rfl (by kernel_rfl) Tryz.ntmps203 (by simp) _ rfl (fun hw gB hgB=>?_)
 repeat' (first|refine sA ?_|refine sC (fun _=>?_) (fun _=>?_)|fail)
 exact retq rfl rfl
theorem zbc (t:Ty):ACall Tryz.prog 209 [yM t] (pb (zef t)):=by
 refine zi zf Tryz.func209 rfl (by kernel_rfl) Tryz.ntmps209 (by simp) _ rfl (fun hw gB hgB=>?_)
 have c1:=za1 t
 rw [zef]
 generalize nuT t=b at c1 ⊢
 repeat' (first|(refine shC ?_;first|refine qC c1 ?_)|refine sA ?_|refine sC (fun _=>?_) (fun _=>?_)|fail)
 all_goals first|(exact retq rfl (by simp_all [zy]))|trace_state
theorem yw {tb:Tab} {u:Value} {c:RC} {l:List Ty} {ex:Exit} {env:Env} {H:HEnv} (he:ex=.normal∨ex=.ret) (h:Qo H (yP u c l) []):zgD tb [] (uV ()) (yP u c l) ex env H:=⟨he,.inl ⟨[],rfl,rfl,h⟩⟩
theorem zi3 {tb:Tab} {u:Value} {c:RC} {l:List Ty} {t:Ty} {rs:List ResultVar} {env:Env} {H:HEnv} (hr:WS tb H env rs=some [yM t]) (h:Qo H (yP u c l) []):zgD tb rs (tV t) (yP u c l) .ret env H:=⟨.inr rfl,.inl ⟨_,hr,rfl,h⟩⟩
theorem yh (c:RC) (l:List Ty) (hl:l.length≤1000):XC 198 [] c YC tV l:=by
 intro u;refine zH zf Tryz.func198 rfl (by kernel_rfl) Tryz.ntmps198 (by simp) _ rfl (fun gB hw1=>?_)
 by_cases h:l.length < 1
 ·have hp:YC l=.error 9:=by rw [YC,if_pos h]
  repeat' (first|refine zl 2 3 rfl rfl rfl ?_|refine zA ([]) zh rfl rfl rfl tH (yc rfl 9) ?_|(refine shC ?_;first|refine zx rfl (zI rfl rfl (zaq l 1 (.inr (by omega)))) rfl rfl ?_|refine AD.step _ _ _ _ _ rfl (zI rfl rfl (zaq l 1 (.inr (by omega)))) rfl rfl ?_)|refine sK ?_|refine sC (fun _=>?_) (fun _=>?_)|fail)
  exact zB hp
 ·have hp:YC l=.ok ((l.drop (l.length - 1)).headD default,l.take (l.length - 1)):=by rw [YC,if_neg h]
  have hd:(l.drop (l.length - 1)).length=1:=by simp;omega
  obtain ⟨t,ht⟩:=List.length_eq_one_iff.1 hd
  rw [ht] at hp
  have cp:=zj3 l 1 hl (by omega) (by omega)
  rw [show (1:Int).toNat=1 from rfl,ht] at cp
  repeat' (first|(refine shC ?_;first|refine qC cp ?_|refine qC (zF rfl 0) ?_)|(refine shX ?_;first|refine zx rfl (zq zf rfl rfl rfl rfl rfl rfl (by decide) rfl) rfl rfl ?_|refine AD.step _ _ _ _ _ rfl (zq zf rfl rfl rfl rfl rfl rfl (by decide) rfl) rfl rfl ?_)|refine sK ?_|refine sC (fun _=>?_) (fun _=>?_)|fail)
  exact zU hp (zi3 rfl tH)
end Go.Cg
