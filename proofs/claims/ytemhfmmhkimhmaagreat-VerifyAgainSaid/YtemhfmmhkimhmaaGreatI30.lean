/- A part of the walks by abstract values: no statement of its own. -/
import Derived.Test.YtemhfmmhkimhmaaGreatI29
import Derived.Test.YtemhfmmhkimhmaaGreatI27
import Derived.Test.YtemhfmmhkimhmaaGreatI15
import Derived.Test.YtemhfmmhkimhmaaGreatI17
import Derived.Test.YtemhfmmhkimhmaaGreatI16
set_option linter.unusedVariables false
set_option linter.unusedSimpArgs false
namespace Go.Cg
open Go.Proofs
def SM (α:Type):Type:=List Ty->Except Int (α × List Ty)
def SM.ret {α:Type} (a:α):SM α:=fun l=>.ok (a,l)
def SM.bnd {α β:Type} (x:SM α) (f:α->SM β):SM β:=fun l=>match x l with|.error e=>.error e|.ok p=>f p.1 p.2
instance:Monad SM:={ pure:=SM.ret,bind:=SM.bnd }
theorem zG {α:Type} (a:α) (l:List Ty):(pure a:SM α) l=.ok (a,l):=rfl
theorem zB {α β:Type} (x:SM α) (f:α->SM β) (l:List Ty):(x >>= f) l=match x l with|.error e=>.error e|.ok p=>f p.1 p.2:=rfl
theorem zge {α β:Type} {x:SM α} {f:α->SM β} {l:List Ty} {e:Int} (h:x l=.error e):(x >>= f) l=.error e:=by rw [zB,h]
theorem zxD {α β:Type} {x:SM α} {f:α->SM β} {l l':List Ty} {a:α} (h:x l=.ok (a,l')):(x >>= f) l=f a l':=by rw [zB,h]
def zN (b:Bool) (e:Int):SM Unit:=fun l=>if b then .ok ((),l) else .error e
def Qp:SM Ty:=fun l=>if l.length < 1 then .error 9 else .ok ((l.drop (l.length - 1)).headD default,l.take (l.length - 1))
def qg (most:Int) (ts:List Ty):SM Unit:=fun l=>if ((l.length:Int) + (ts.length:Int))<=most then .ok ((),l++ts) else .error 9
def zcH:SM Unit:=fun _=>.ok ((),[])
def emptyS (e:Int):SM Unit:=fun l=>if l.length==0 then .ok ((),l) else .error e
def kTy (k:Int):Ty:=⟨k,0,0,false⟩
def rfT (t:Ty):Ty:=⟨t.kind,t.index,t.dims,true⟩
def nuT (t:Ty):Bool:=tyB t (kTy 2)||tyB t (kTy 3)
def YK (g:Img) (t:Ty):SM Unit:=do let x <-Qp;zN (zab g x t) 10
def ZM (g:Img) (ls:List Ty):SM Unit:=fun l =>
 if l.length < ls.length then .error 9 else if zcu g (l.drop (l.length - ls.length)) ls then .ok ((),l.take (l.length - ls.length)) else .error 10
def ZO:SM Ty:=do let b <-Qp;let a <-Qp;zN (tyB a b&&nuT a) 10;pure a
def zdf:SM Ty:=do let t <-Qp;zN (nuT t) 10;pure t
def ZC:SM Unit:=do let b <-Qp;let a <-Qp;zN (tyB a b&&nuT a||object a&&object b) 10
def zbc (x:Ins) (ls:List Ty):SM Ty:=do zN (decide (x.arg < ls.length)) 3;pure (ls.getD x.arg.toNat default)
def QV (most:Int) (t:Ty):SM Unit:=do zN (!t.ref) 13;qg most [rfT t]
def Qs (g:Img) (c:Me):List Ty:=zwm (zao (Ye g c.owner) (qQ c.flags 1) c.owner) c.params
def YV (most:Int) (c:Me):SM Unit:=if c.ret.kind != 1 then qg most [c.ret] else pure ()
def fAt (g:Img) (a:Int):Fd:=g.fields.getD a.toNat default
def tAt (g:Img) (a:Int):TD:=g.types.getD a.toNat default
def Zt (g:Img) (f:Fd) (itself:Bool):SM Unit:=do
 let t <-Qp
 if Ye g f.owner==1 then zN (tyB t (rfT ⟨6,f.owner,0,false⟩)||itself&&tyB t ⟨6,f.owner,0,false⟩) 10
 else zN (zab g t ⟨5,f.owner,0,false⟩) 10
def Vk (x:Ins):SM Ty:=do zN (decide (x.t.dims + 1<=3)) 6;pure ⟨x.t.kind,x.t.index,x.t.dims + 1,x.t.ref⟩
def zgr (t:Ty):Bool:=nuT t||t.kind==6&&t.dims==0
def Zb (g:Img) (ar:List Ty) (m:Me) (x:Ins):SM Unit:=do
 let t <-zbc x (if x.op==2||x.op==3||x.op==4 then ar else m.locals)
 if x.op==2||x.op==5 then qg m.max [t] else if x.op==3||x.op==6 then YK g t else QV m.max t
def qG (g:Img) (m:Me) (op:Int):SM Unit :=
 if op==13||op==14||op==15||op==16||op==17||op==18||op==19||op==20||op==25||op==26||op==27 then do let t <-ZO;qg m.max [t]
 else if op==21||op==22 then do YK g (kTy 2);let t <-zdf;qg m.max [t]
 else if op==23||op==24 then do let t <-zdf;qg m.max [t]
 else if op==28||op==30 then do let _ <-zdf;qg m.max [kTy 2]
 else if op==29 then do let _ <-zdf;qg m.max [kTy 3]
 else if op==31 then do ZC;qg m.max [kTy 2]
 else if op==32||op==33 then do let _ <-ZO;qg m.max [kTy 2]
 else pure ()
def ZR (op:Int):SM Unit :=
 if op==35||op==36 then do let t <-Qp;zN (nuT t||object t) 10
 else if op==37||op==42 then ZC
 else if op==38||op==39||op==40||op==41 then do let _ <-ZO;pure ()
 else pure ()
def qJ (g:Img) (m:Me) (x:Ins):SM Unit :=
 let c:=mAt g x.arg
 if x.op==43 then do zN (!qQ c.flags 4) 8;ZM g (Qs g c);YV m.max c
 else if x.op==44 then do zN (!qQ c.flags 1&&!qQ c.flags 16&&Ye g c.owner != 1) 8;ZM g (Qs g c);YV m.max c
 else do zN (qQ c.flags 16&&!qQ (tAt g c.owner).flags 4) 8;ZM g c.params;qg m.max [⟨5,c.owner,0,false⟩]
def yG (g:Img) (m:Me) (x:Ins):SM Unit:=do
 let f:=fAt g x.arg
 zN (f.static==(x.op==51||x.op==52||x.op==53)) 8
 if x.op==48 then do Zt g f true;qg m.max [f.ty]
 else if x.op==49 then do YK g f.ty;Zt g f false
 else if x.op==50 then do Zt g f false;qg m.max [rfT f.ty]
 else if x.op==51 then qg m.max [f.ty]
 else if x.op==52 then YK g f.ty
 else qg m.max [rfT f.ty]
def Ze (g:Img) (m:Me) (x:Ins):SM Unit :=
 if x.op==55 then ZM g [rfT x.t,x.t]
 else do let t <-Qp;zN (tyB t (rfT x.t)) 10;if x.op==54 then qg m.max [x.t] else pure ()
def yJ (g:Img) (m:Me) (x:Ins):SM Unit :=
 if x.op==58 then do let t <-Qp;zN (object t&&(decide (0 < t.dims)||t.kind==8)) 10;qg m.max [kTy 2]
 else do
  let a <-Vk x
  if x.op==57 then do YK g (kTy 2);qg m.max [a]
  else if x.op==60 then ZM g [a,kTy 2,x.t]
  else do ZM g [a,kTy 2];if x.op==59 then qg m.max [x.t] else qg m.max [rfT x.t]
def yC (g:Img) (m:Me) (x:Ins):SM Unit:=do
 zN ((x.op==65||x.op==66)&&object x.t||!(x.op==65||x.op==66)&&zgr x.t) 8
 if x.op==62 then do YK g x.t;qg m.max [kTy 4]
 else do let t <-Qp;zN (object t) 10;qg m.max [if x.op==63 then rfT x.t else x.t]
def sameAll:List Ty->List Ty->Bool
 | a::ar,b::bs=>tyB a b&&sameAll ar bs
 | _,_=>true
def yx (g:Img) (m:Me) (x:Ins):SM Unit:=do
 zN (x.t.kind==5&&x.t.dims==0&&Ye g x.t.index==3) 8
 let d:=mAt g ((methodsOf g x.t.index).headD 0)
 let f <-Qp
 let o <-Qp
 zN (tyB f ⟨9,f.index,0,false⟩&&decide (0<=f.index)&&decide (f.index < g.methods.length)) 10
 let c:=mAt g f.index
 zN (tyB c.ret d.ret&&c.params.length==d.params.length) 10
 zN (sameAll c.params d.params) 10
 let this:=zao (Ye g c.owner) (qQ c.flags 1) c.owner
 if this.2 then zN (!this.1.ref&&zab g o this.1) 10 else zN (tyB o (kTy 8)) 10
 qg m.max [x.t]
def ZP (g:Img) (m:Me) (op:Int):SM Unit:=do
 if op==46 then do (if m.ret.kind != 1 then YK g m.ret else pure ());emptyS 9
 else if op==69 then do let t <-Qp;zN (object t) 10
 else if op==73 then do YK g (kTy 2);emptyS 9
 else pure ()
 zcH
def yN (g:Img) (m:Me) (x:Ins):SM Unit :=
 if x.op==8 then qg m.max [kTy 2]
 else if x.op==9||x.op==74 then qg m.max [kTy 3]
 else if x.op==10 then qg m.max [kTy 8]
 else if x.op==11 then do let t <-Qp;qg m.max [t,t]
 else if x.op==12 then do let _ <-Qp;pure ()
 else if x.op==75 then YK g (kTy 3)
 else if x.op==67 then do zN (!qQ (mAt g x.arg).flags 4&&!qQ (mAt g x.arg).flags 16) 8;qg m.max [⟨9,x.arg,0,false⟩]
 else pure ()
def doS (g:Img) (ar:List Ty) (m:Me) (x:Ins):SM Unit :=
 if decide (2<=x.op)&&decide (x.op<=7) then Zb g ar m x
 else if decide (13<=x.op)&&decide (x.op<=33) then qG g m x.op
 else if decide (34<=x.op)&&decide (x.op<=42) then ZR x.op
 else if decide (43<=x.op)&&decide (x.op<=45) then qJ g m x
 else if decide (48<=x.op)&&decide (x.op<=53) then yG g m x
 else if decide (54<=x.op)&&decide (x.op<=56) then Ze g m x
 else if decide (57<=x.op)&&decide (x.op<=61) then yJ g m x
 else if decide (62<=x.op)&&decide (x.op<=66) then yC g m x
 else if x.op==68 then yx g m x
 else if x.op==46||decide (69<=x.op)&&decide (x.op<=73) then ZP g m x.op
 else yN g m x
def qj (m:Me) (a:Int):Ins:=m.code.getD a.toNat default
def stepS (g:Img) (mi at_:Int) (l:List Ty):Except Int (Unit × List Ty):=doS g (Qs g (mAt g mi)) (mAt g mi) (qj (mAt g mi) at_) l
abbrev yt (g:Img):List PV:=[.slc 4 (g.types.map Zw) false,.slc 7 (g.fields.map ZI) false,.slc 12 (g.methods.map zY) false,pi g.entry]
abbrev zhp (m:Me):List PV:=[ps m.name,pi m.owner,pi m.flags,tys m.params,pi m.ret.kind,pi m.ret.index,pi m.ret.dims,pb m.ret.ref,tys m.locals,pi m.max,.slc 6 (m.code.map yM) false,.slc 10 (m.clauses.map qR) false]
abbrev zc5 (x:Ins):List PV:=[pi x.op,pi x.arg,pi x.t.kind,pi x.t.index,pi x.t.dims,pb x.t.ref]
abbrev yU (t:Ty):List PV:=[pi t.kind,pi t.index,pi t.dims,pb t.ref]
structure RC where
 g:Img
 m:Me
 ar:List Ty
 x:Ins
abbrev Wx (c:RC) (l:List Ty):HE:=.cell (.agg ((yt c.g++(zhp c.m++(tys c.ar::(zc5 c.x++[tys l])))).map .pv))
abbrev zak (c:RC):HE:=.cell (.agg ((yt c.g++(zhp c.m++(tys c.ar::zc5 c.x))).map .pv++[.any1]))
abbrev zhs (u:Value):HEnv:=[(1000,.pin (.own 0) u)]
abbrev yS (u:Value) (c:RC) (l:List Ty):HEnv:=(0,Wx c l)::zhs u
abbrev flt (e:Int):Value:=.iface 125 (.int .i64 e)
def zvF {α:Type} (u:Value) (c:RC) (val:α->AV):Except Int (α × List Ty)->Out
 | .error e=>.pan (flt e)
 | .ok p=>.ret (val p.1) (yS u c p.2)
abbrev uV:Unit->AV:=fun _=>.pv (.tup [])
abbrev tV:Ty->AV:=fun t=>.pv (yI t)
def XC {α:Type} (f:FuncId) (args:List AV) (c:RC) (act:SM α) (val:α->AV) (l:List Ty):Prop:=∀ u,QO Tryz.prog f (.box 0 0::args) (yS u c l) (zvF u c val (act l))
theorem XC.ok {α:Type} {f:FuncId} {args:List AV} {c:RC} {act:SM α} {val:α->AV} {l l':List Ty} {a:α} (h:XC f args c act val l) (e:act l=.ok (a,l')):∀ us,ACallM Tryz.prog f (.box 0 0::args) ([(0,Wx c l)]++Zc us [0]) (val a) ([(0,Wx c l')]++Zc us [0]):=fun us=>by
 have:=h (us 0);rw [e] at this;exact this
theorem XC.bad {α:Type} {f:FuncId} {args:List AV} {c:RC} {act:SM α} {val:α->AV} {l:List Ty} {e:Int} (h:XC f args c act val l) (he:act l=.error e) (u:Value):ACallPan Tryz.prog f (.box 0 0::args) (yS u c l) (flt e):=by
 have:=h u;rw [he] at this;exact this
set_option maxHeartbeats 20000000
theorem yc {α:Type} {tb:Tab} {rs:List ResultVar} {u:Value} {c:RC} {val:α->AV} {act:SM α} {l l':List Ty} {a:α} {ex:Exit} {env:Env} {H:HEnv} (h:act l=.ok (a,l')) (hr:zhu tb rs (val a) (yS u c l') ex env H):zln tb rs (zvF u c val (act l)) ex env H:=by
 rw [h];exact hr
theorem zD {α:Type} {tb:Tab} {rs:List ResultVar} {u:Value} {c:RC} {val:α->AV} {act:SM α} {l:List Ty} {e:Int} {env:Env} {H:HEnv} (h:act l=.error e):zln tb rs (zvF u c val (act l)) (.panic [{ v:=flt e,recovered:=false }]) env H:=by
 rw [h];rfl
theorem zH {b:Bool} (h:b=true) (e:Int):ACall Tryz.prog 176 [pb b,pi e] (.tup []):=by
 subst h;refine zh zf Tryz.func176 rfl zws Tryz.ntmps176 zwy63 _ rfl (fun hw gB hgB=>?_)
 repeat' (first|refine sK ?_|refine sC (fun _=>?_) (fun _=>?_)|fail)
 exact Yi rfl rfl
theorem yu {b:Bool} (h:b=false) (e:Int):ACallPan Tryz.prog 176 [.pv (pb b),.pv (pi e)] [] (flt e):=by
 subst h;refine za0 Tryz.func176 rfl zws Tryz.ntmps176 zwy63 (fun gB hw1=>?_)
 repeat' (first|refine zo 1 2 rfl rfl rfl ?_|refine zy rfl (zj3 rfl Tryz.underlying125 rfl) rfl rfl ?_|refine zkq rfl rfl rfl ?_|refine sK ?_|refine sC (fun _=>?_) (fun _=>?_)|fail)
 exact rfl
theorem zT (k:Int):ACall Tryz.prog 172 [pi k] (yI (kTy k)):=by
 refine zh zf Tryz.func172 rfl zws Tryz.ntmps172 zwy63 _ rfl (fun hw gB hgB=>?_)
 repeat' (first|refine sK ?_|refine sC (fun _=>?_) (fun _=>?_)|fail)
 exact retq rfl rfl
theorem zca (t:Ty):ACall Tryz.prog 177 [yI t] (pb (nuT t)):=by
 refine zh zf Tryz.func177 rfl zws Tryz.ntmps177 zwy63 _ rfl (fun hw gB hgB=>?_)
 repeat' (first|(refine shC ?_;first|refine qC (zT 2) ?_|refine qC (zT 3) ?_)|refine sA ?_|refine sC (fun _=>?_) (fun _=>?_)|fail)
 all_goals first|(exact retq rfl (by simp_all [zn,nuT,tyB,kTy]))|trace_state
theorem Yn (t:Ty):ACall Tryz.prog 184 [yI t] (yI (rfT t)):=by
 refine zh zf Tryz.func184 rfl zws Tryz.ntmps184 zwy63 _ rfl (fun hw gB hgB=>?_)
 repeat' (first|(refine Xy ?_;first|refine zau 7 rfl rfl rfl rfl rfl rfl ?_)|refine sA ?_|refine sC (fun _=>?_) (fun _=>?_)|fail)
 exact retq rfl rfl
theorem Qn (m:Me) (k:Int):ACall Tryz.prog 180 [zY m,pi k] (pb (qQ m.flags k)):=by
 refine zh zf Tryz.func180 rfl zws Tryz.ntmps180 zwy63 _ rfl (fun hw gB hgB=>?_)
 repeat' (first|refine sA ?_|refine sC (fun _=>?_) (fun _=>?_)|fail)
 exact retq rfl rfl
theorem zcR (t:Ty):ACall Tryz.prog 186 [yI t] (pb (zgr t)):=by
 refine zh zf Tryz.func186 rfl zws Tryz.ntmps186 zwy63 _ rfl (fun hw gB hgB=>?_);have c1:=zca t;rw [zgr];generalize nuT t=b at c1 ⊢
 repeat' (first|(refine shC ?_;first|refine qC c1 ?_)|refine sA ?_|refine sC (fun _=>?_) (fun _=>?_)|fail)
 all_goals first|(exact retq rfl (by simp_all [zn]))|trace_state
theorem yD {tb:Tab} {u:Value} {c:RC} {l:List Ty} {ex:Exit} {env:Env} {H:HEnv} (he:ex=.normal\/ex=.ret) (h:Qx H (yS u c l) []):zhu tb [] (uV ()) (yS u c l) ex env H:=⟨he,.inl ⟨[],rfl,rfl,h⟩⟩
theorem zlS {tb:Tab} {u:Value} {c:RC} {l:List Ty} {t:Ty} {rs:List ResultVar} {env:Env} {H:HEnv} (hr:zan tb H env rs=some [yI t]) (h:Qx H (yS u c l) []):zhu tb rs (tV t) (yS u c l) .ret env H:=⟨.inr rfl,.inl ⟨_,hr,rfl,h⟩⟩
theorem yw (c:RC) (l:List Ty) (hl:l.length<=1000):XC 175 [] c Qp tV l:=by
 intro u;refine zI zf Tryz.func175 rfl zws Tryz.ntmps175 zwy63 _ rfl (fun gB hw1=>?_);by_cases h:l.length < 1
 ·have hp:Qp l=.error 9:=by rw [Qp,if_pos h]
  repeat' (first|refine zo 2 3 rfl rfl rfl ?_|refine zF ([]) zi rfl rfl rfl tH (yu rfl 9) ?_|(refine shC ?_;first|refine zy rfl (zJ rfl rfl (zbs l 1 (.inr zwy62))) rfl rfl ?_|refine zq rfl (zJ rfl rfl (zbs l 1 (.inr zwy62))) rfl rfl ?_)|refine sK ?_|refine sC (fun _=>?_) (fun _=>?_)|fail)
  exact zD hp
 ·have hp:Qp l=.ok ((l.drop (l.length - 1)).headD default,l.take (l.length - 1)):=by rw [Qp,if_neg h]
  have hd:(l.drop (l.length - 1)).length=1:=by simp;omega
  obtain ⟨t,ht⟩:=List.length_eq_one_iff.1 hd;rw [ht] at hp;have cp:=zmU l 1 hl zwy62 zwy62;rw [show (1:Int).toNat=1 from rfl,ht] at cp
  repeat' (first|(refine shC ?_;first|refine qC cp ?_|refine qC (zH rfl 0) ?_)|(refine shX ?_;first|refine zy rfl (zk zf rfl rfl rfl rfl rfl rfl zwy69 rfl) rfl rfl ?_|refine zq rfl (zk zf rfl rfl rfl rfl rfl rfl zwy69 rfl) rfl rfl ?_)|refine sK ?_|refine sC (fun _=>?_) (fun _=>?_)|fail)
  exact yc hp (zlS rfl tH)
set_option maxHeartbeats 20000000
theorem YL (l:List Ty):Qp l=.error 9\/∃ t l',Qp l=.ok (t,l')/\l=l'++[t]:=by
 by_cases h:l.length < 1
 ·exact .inl (by rw [Qp,if_pos h])
 ·refine .inr ?_;have hd:(l.drop (l.length - 1)).length=1:=by simp;omega
  obtain ⟨t,ht⟩:=List.length_eq_one_iff.1 hd;refine ⟨t,l.take (l.length - 1),by rw [Qp,if_neg h,ht];rfl,?_⟩;rw [<-ht,List.take_append_drop]
theorem ziV {l l':List Ty} {t:Ty} (h:Qp l=.ok (t,l')):l.length=l'.length + 1:=by
 rcases YL l with e|⟨t2,l2,e,e2⟩
 ·rw [e] at h;cases h
 ·rw [e] at h;cases h;rw [e2];simp
theorem zqC (sz:Nat) (es:List PV) (f:Bool):PTells (.slc sz es f) (.slc sz es false):=fun K w v h=>by
 cases h with
 | nil=>exact .nil sz false
 | emp _ _ a=>exact .emp sz false a
 | slc _ _ _ b o cap vss h0 h1 h2 h3 h4 h5 h6=>exact .slc sz es false b o cap vss h0 h1 zwy63 h3 h4 h5 h6
theorem ACall.tells {P:Program} {f:FuncId} {args args':List PV} {r:PV} (h:ACall P f args r) (ht:PTL args' args):ACall P f args' r :=
 ⟨h.stands,fun K w vs hl hv=>h.calls K w vs hl ⟨by rw [hv.1,ht.1],fun k c v hc hvv=>by
  have hlt:k < args'.length:=by rw [ht.1];exact (List.getElem?_eq_some_iff.1 hc).1
  exact ht.2 k _ c (List.getElem?_eq_getElem hlt) hc _ _ _ (hv.2 k _ v (List.getElem?_eq_getElem hlt) hvv)⟩⟩
abbrev tsV (ts:List Ty):AV:=.pv (.slc 4 (ts.map yI) true)
theorem zX (c:RC) (ts l:List Ty) (hl:l.length<=200) (ht:ts.length<=200):XC 168 [tsV ts] c (qg c.m.max ts) uV l:=by
 intro u;refine zI zf Tryz.func168 rfl zws Tryz.ntmps168 zwy63 _ rfl (fun gB hw1=>?_);have htl:PTL [tys l,pi c.m.max,.slc 4 (ts.map yI) true] [tys l,pi c.m.max,tys ts]:=qF (.refl _) (qF (.refl _) (qF (zqC _ _ _) zcx));by_cases h:((l.length:Int) + (ts.length:Int))<=c.m.max
 ·have hp:qg c.m.max ts l=.ok ((),l++ts):=by rw [qg,if_pos h]
  have cp:=(zr8 l ts c.m.max hl ht h).tells htl
  repeat' (first|(refine shC ?_;first|refine qC cp ?_|refine qC (zH rfl 0) ?_)|refine sK ?_|refine sC (fun _=>?_) (fun _=>?_)|fail)
  exact yc hp (yD (.inl rfl) tH)
 ·have hp:qg c.m.max ts l=.error 9:=by rw [qg,if_neg h]
  have cp:=(zlX l ts c.m.max hl ht zwy62).tells htl
  repeat' (first|refine zo 1 3 rfl rfl rfl ?_|refine zF ([]) zi rfl rfl rfl tH (yu rfl 9) ?_|(refine shC ?_;first|refine qC cp ?_)|refine sK ?_|refine sC (fun _=>?_) (fun _=>?_)|fail)
  exact zD hp
theorem zv5 {K:KK} {w:World} {sz:Nat} {es:List PV} {f:Bool} {v:Value} (h:PRel K w (.slc sz es f) v):v.cells=#[v]/\v.oneCell'=true:=by
 cases h <;> exact ⟨rfl,rfl⟩
theorem zn0 (c:RC) (l:List Ty):Tells (.agg ((yt c.g++(zhp c.m++(tys c.ar::(zc5 c.x++[tys l])))).map .pv)) (.agg ((yt c.g++(zhp c.m++(tys c.ar::zc5 c.x))).map .pv++[.any1])):=fun K w ρ H v h=>by
 cases h with
 | agg _ vs h1 h2 h3 =>
  refine .agg _ vs zwy98 h2 fun k a v ha hv=>?_
  have hk:k < 24:=by have:=(List.getElem?_eq_some_iff.1 ha).1;simpa using this
  by_cases h23:k=23
  ·subst h23;have:=h3 23 (.pv (tys l)) v rfl hv;have e:a=.any1:=by simpa using ha.symm
   subst e;cases this with
   | pv _ _ hp =>
    obtain ⟨q1,q2⟩:=zv5 hp;exact .any1 _ q1 q2
  ·have e:((yt c.g++(zhp c.m++(tys c.ar::(zc5 c.x++[tys l])))).map AV.pv)[k]?=some a:=by
    rw [<-ha,show yt c.g++(zhp c.m++(tys c.ar::(zc5 c.x++[tys l])))=(yt c.g++(zhp c.m++(tys c.ar::zc5 c.x)))++[tys l] by simp,List.map_append,List.getElem?_append_left zwy64,List.getElem?_append_left zwy64]
   exact h3 k a v e hv
section
variable {P:Program} {n:Nat} {g:Base} {H:HEnv} {env:Env} {ops:List Oper}
theorem Yy {QQ:QC} {id:Nat} (L k jc:Nat) (R:HEnv) (c:RC) (l l':List Ty) {oc:Oper} {tc:Nat} (rc:AV) (pan:Option Value) (hL:ops.length=L) (hok:Xz ops k=true) (hm:P.follows .mixedOrders=true) (hB:QN (zU k ops 0) ((zU k ops 0).take k)=true) (hT:XJ (zU k ops 0) k=true) (hk:Nat.ble k (zU k ops 0).length=true)
  (hsp:(zU k ops 0).take k=(zU k ops 0).take jc++oc::((zU k ops 0).take k).drop (jc + 1)) (hjl:Nat.ble jc (zU k ops 0).length=true) (hd:oc.dst=some tc) (htc:Nat.blt tc n=true)
  (hH:Qx H ((0,Wx c l)::R) env) (hke:Xi ((0,zak c)::R) env=true) (hkk:qB ((0,zak c)::R) ((0,Wx c l')::R)=true)
  (hp:∀ v,pan=some v->QQ (.panic [{ v:=v,recovered:=false }]) [] [])
  (h:AD P n g ((0,zak c)::R) (zU k ops 0) (fun env1=>(guardE (zU k ops 0) env1 oc=some true/\EStep P g ((0,Wx c l)::R) ((0,Wx c l')::R) ((0,zak c)::R) oc env1 rc pan)/\AD P n g ((0,zak c)::R) (zU k ops 0) (fun env'=>pan=none->AOX P n g (zU k ops 0).toArray ((zU k ops 0).drop k) env' ((0,Wx c l')::R) QQ) (((zU k ops 0).take k).drop (jc + 1)) ((tc,rc)::env1)) ((zU k ops 0).take jc) env)
  (hnd:ZB ops=true:=by kernel_rfl) (hr:Zz ((0,zak c)::R) rc=true:=by rfl):AW P n g (.region id ops.toArray true) env H QQ :=
 zom L k jc ((0,Wx c l)::R) ((0,Wx c l')::R) ((0,zak c)::R) rc pan hL hok hm hB hT hk hsp hjl hd htc (fun _ _ _ hf=>zhS hf (zn0 c l)) (fun _ _ _ hf=>zhS hf (zn0 c l')) hkk hH hke hr hp h hnd
end
theorem za1 {α:Type} {g:Base} {f:FuncId} {args:List AV} {R:HEnv} {c:RC} {act:SM α} {val:α->AV} {l l':List Ty} {a:α} {o:Oper} {e:Env} {xs:Array Operand} {ts:Array TypeId} (h:XC f args c act val l) (he:act l=.ok (a,l'))
  (hop:o.op=.call { callee:=.value (.func f),args:=xs,argTypes:=ts }) (hargs:avs e xs.toList=some (.box 0 0::args)) (hk:qB ((0,zak c)::R) ((0,Wx c l)::R)=true) (hk2:qB ((0,zak c)::R) (R++VT [0])=true) (hr:Zz ((0,zak c)::R) (val a)=true) (hchk:Ql [(0,Wx c l)] [(0,Wx c l')] R [0] (.box 0 0::args) [] (val a)=true) :
  EStep Tryz.prog g ((0,Wx c l)::R) ((0,Wx c l')::R) ((0,zak c)::R) o e (val a) none :=
 zml [(0,Wx c l)] [(0,Wx c l')] R [0] zi hop hargs (fun _ _ h=>h) hk hk2 hr hchk (h.ok he)
theorem zgo {α:Type} {g:Base} {f:FuncId} {args:List AV} {u:Value} {R:HEnv} {c:RC} {act:SM α} {val:α->AV} {l:List Ty} {H1:HEnv} {er:Int} {r:AV} {o:Oper} {e:Env} {xs:Array Operand} {ts:Array TypeId} (h:XC f args c act val l) (he:act l=.error er)
  (hop:o.op=.call { callee:=.value (.func f),args:=xs,argTypes:=ts }) (hargs:avs e xs.toList=some (.box 0 0::args)) (hfit:Qx ((0,Wx c l)::R) (yS u c l) []) (hin:Qm (yS u c l) (.box 0 0::args)=true) :
  EStep Tryz.prog g ((0,Wx c l)::R) H1 ((0,zak c)::R) o e r (some (flt er)) :=
 zrq (yS u c l) zi hop hargs hfit hin (h.bad he u)
theorem zwk54 {G:Prop} (h:G:=by repeat' (first|refine Yy 9 8 5 (zhs u) c l l' (tV x) none rfl zws zws zws zws zws rfl zws rfl rfl tH rfl rfl (fun v hv=>by cases hv) ?_|refine ⟨⟨rfl,za1 cp hp rfl rfl rfl rfl rfl rfl⟩,?_⟩|refine zy rfl (aj (ps:=(yt c.g))) rfl rfl ?_|refine zq rfl (aj (ps:=(yt c.g))) rfl rfl ?_|intro _|(have:=b0;refine zF [] zi rfl rfl rfl tH (yu hf 10) ?_)|(have:=b1;refine WR ?_)|(refine shC ?_;first|refine qC cf ?_|(have:=b1;refine qC (zH hf 10) ?_))|refine sK ?_|refine sC (fun _=>?_) (fun _=>?_)|exact zD hw|exact yc hw (yD (.inl rfl) tH)|fail)):G:=h
theorem qw (c:RC) (hF:Fm c.g) (t:Ty) (l:List Ty) (hl:l.length<=200):XC 169 [tV t] c (YK c.g t) uV l:=by
 intro u;refine zI zf Tryz.func169 rfl zws Tryz.ntmps169 zwy63 _ rfl (fun gB hw1=>?_);have cp:=yw c l zwy62;rcases YL l with hp|⟨x,l',hp,_⟩
 ·have hw:YK c.g t l=.error 9:=zge hp
  repeat' (first|refine Yy 9 8 5 (zhs u) c l l (tV t) (some (flt 9)) rfl zws zws zws zws zws rfl zws rfl rfl tH rfl rfl (fun v hv=>by cases hv;exact zD hw) ?_|refine ⟨⟨rfl,zgo (u:=u) cp hp rfl rfl tH rfl⟩,?_⟩|refine zy rfl (aj (ps:=(yt c.g))) rfl rfl ?_|refine zq rfl (aj (ps:=(yt c.g))) rfl rfl ?_|(intro h;cases h)|(refine shC ?_;first|refine qC (Ws c.g t t hF) ?_)|refine sK ?_|refine sC (fun _=>?_) (fun _=>?_)|fail)
 ·have cf:=Ws c.g x t hF;cases hf:zab c.g x t
  ·have hw:YK c.g t l=.error 10:=by simp [YK,zB,hp,zN,hf]
   have b0:=();exact zwk54
  ·have hw:YK c.g t l=.ok ((),l'):=by simp [YK,zB,hp,zN,hf]
   have b1:=();exact zwk54
set_option maxHeartbeats 20000000
theorem zwk55 {G:Prop} (h:G:=by repeat' (first|(have:=b0;refine zo 1 1 rfl rfl rfl ?_)|(have:=b0;refine zF ((yS u c l)) zi rfl rfl rfl tH (c1.bad hp u) ?_)|(have:=b1;refine zo 1 3 rfl rfl rfl ?_)|(have:=b1;refine zF ((yS u c l1)) zi rfl rfl rfl tH (c2.bad hp2 u) ?_)|(have:=b1;refine zu ?_;first|(refine ay 0 (c1.ok hp) ?_))|(have:=b2;refine zo 2 7 rfl rfl rfl ?_)|(have:=b2;refine zF ([]) zi rfl rfl rfl tH (yu rfl 10) ?_)|(refine shC ?_;first|(have:=b3;refine qC cn ?_)|(have:=b4;refine qC (zH rfl 10) ?_))|(have:=b5;refine zu ?_;first|(refine ay 0 (c1.ok hp) ?_)|(refine ay 0 (c2.ok hp2) ?_))|refine sK ?_|refine sC (fun _=>?_) (fun _=>?_)|exact zD hw|exact yc hw (zlS rfl tH)|fail)):G:=h
theorem YW (c:RC) (l:List Ty) (hl:l.length<=1000):XC 171 [] c ZO tV l:=by
 intro u;refine zI zf Tryz.func171 rfl zws Tryz.ntmps171 zwy63 _ rfl (fun gB hw1=>?_);have c1:=yw c l hl;rcases YL l with hp|⟨b,l1,hp,e1⟩
 ·have hw:ZO l=.error 9:=zge hp;have b0:=();exact zwk55
 ·have hl1:l1.length<=1000:=by have:=ziV hp;omega
  have c2:=yw c l1 hl1;rcases YL l1 with hp2|⟨a,l2,hp2,e2⟩
  ·have hw:ZO l=.error 9:=by simp [ZO,zB,hp,hp2]
   have b1:=();exact zwk55
  ·have cn:=zca a;cases hab:tyB a b
   ·have hab':(a.kind==b.kind&&(a.index==b.index&&(a.dims==b.dims&&(a.ref==b.ref&&true))))=false:=hab;have hw:ZO l=.error 10:=by simp [ZO,zB,hp,hp2,zN,hab]
    have b2:=();have b5:=();exact zwk55
   ·have hab':(a.kind==b.kind&&(a.index==b.index&&(a.dims==b.dims&&(a.ref==b.ref&&true))))=true:=hab;cases hn:nuT a
    ·rw [hn] at cn;have hw:ZO l=.error 10:=by simp [ZO,zB,hp,hp2,zN,hab,hn]
     have b2:=();have b3:=();have b5:=();exact zwk55
    ·rw [hn] at cn;have hw:ZO l=.ok (a,l2):=by simp [ZO,zB,zG,hp,hp2,zN,hab,hn]
     have b3:=();have b4:=();have b5:=();exact zwk55
theorem zwk56 {G:Prop} (h:G:=by repeat' (first|(have:=b0;refine zo 1 1 rfl rfl rfl ?_)|(have:=b0;refine zF ((yS u c l)) zi rfl rfl rfl tH (c1.bad hp u) ?_)|(have:=b1;refine zo 2 2 rfl rfl rfl ?_)|(have:=b1;refine zF ([]) zi rfl rfl rfl tH (yu hn 10) ?_)|(refine shC ?_;first|(have:=b2;refine qC cn ?_)|(have:=b3;refine qC (zH hn 10) ?_))|(have:=b2;refine zu ?_;first|(refine ay 0 (c1.ok hp) ?_))|refine sK ?_|refine sC (fun _=>?_) (fun _=>?_)|exact zD hw|exact yc hw (zlS rfl tH)|fail)):G:=h
theorem YQ (c:RC) (l:List Ty) (hl:l.length<=1000):XC 173 [] c zdf tV l:=by
 intro u;refine zI zf Tryz.func173 rfl zws Tryz.ntmps173 zwy63 _ rfl (fun gB hw1=>?_);have c1:=yw c l hl;rcases YL l with hp|⟨t,l1,hp,e1⟩
 ·have hw:zdf l=.error 9:=zge hp;have b0:=();exact zwk56
 ·have cn:=zca t;cases hn:nuT t
  ·have hw:zdf l=.error 10:=by simp [zdf,zB,hp,zN,hn]
   have b1:=();have b2:=();exact zwk56
  ·have hw:zdf l=.ok (t,l1):=by simp [zdf,zB,zG,hp,zN,hn]
   have b2:=();have b3:=();exact zwk56
theorem zwk57 {G:Prop} (h:G:=by repeat' (first|(have:=b0;refine zo 0 1 rfl rfl rfl ?_)|(have:=b0;refine zF ((yS u c l)) zi rfl rfl rfl tH (c1.bad hp u) ?_)|(have:=b1;refine zo 0 3 rfl rfl rfl ?_)|(have:=b1;refine zF ((yS u c l1)) zi rfl rfl rfl tH (c2.bad hp2 u) ?_)|(have:=b1;refine zu ?_;first|(refine ay 0 (c1.ok hp) ?_))|(have:=b2;refine zo 1 15 rfl rfl rfl ?_)|(have:=b2;refine zF ([]) zi rfl rfl rfl tH (yu rfl 10) ?_)|(refine shC ?_;first|(have:=b3;refine qC cn ?_)|(have:=b4;refine qC co ?_)|(have:=b5;refine qC co2 ?_)|(have:=b6;refine qC (zH rfl 10) ?_))|(have:=b7;refine zu ?_;first|(refine ay 0 (c1.ok hp) ?_)|(refine ay 0 (c2.ok hp2) ?_))|refine sK ?_|refine sC (fun _=>?_) (fun _=>?_)|exact zD hw|exact yc hw (yD (.inl rfl) tH)|fail)):G:=h
theorem VP (c:RC) (l:List Ty) (hl:l.length<=1000):XC 174 [] c ZC uV l:=by
 intro u;refine zI zf Tryz.func174 rfl zws Tryz.ntmps174 zwy63 _ rfl (fun gB hw1=>?_);have c1:=yw c l hl;rcases YL l with hp|⟨b,l1,hp,e1⟩
 ·have hw:ZC l=.error 9:=zge hp;have b0:=();exact zwk57
 ·have hl1:l1.length<=1000:=by have:=ziV hp;omega
  have c2:=yw c l1 hl1;rcases YL l1 with hp2|⟨a,l2,hp2,e2⟩
  ·have hw:ZC l=.error 9:=by simp [ZC,zB,hp,hp2]
   have b1:=();exact zwk57
  ·have cn:=zca a;have co:=qY a;have co2:=qY b;cases hab:tyB a b
   ·have hab':(a.kind==b.kind&&(a.index==b.index&&(a.dims==b.dims&&(a.ref==b.ref&&true))))=false:=hab;cases ho:object a
    ·rw [ho] at co;have hw:ZC l=.error 10:=by simp [ZC,zB,hp,hp2,zN,hab,ho]
     have b2:=();have b4:=();have b7:=();exact zwk57
    ·rw [ho] at co;cases ho2:object b
     ·rw [ho2] at co2;have hw:ZC l=.error 10:=by simp [ZC,zB,hp,hp2,zN,hab,ho,ho2]
      have b2:=();have b4:=();have b5:=();have b7:=();exact zwk57
     ·rw [ho2] at co2;have hw:ZC l=.ok ((),l2):=by simp [ZC,zB,hp,hp2,zN,hab,ho,ho2]
      have b4:=();have b5:=();have b6:=();have b7:=();exact zwk57
   ·have hab':(a.kind==b.kind&&(a.index==b.index&&(a.dims==b.dims&&(a.ref==b.ref&&true))))=true:=hab;cases hn:nuT a
    ·rw [hn] at cn;cases ho:object a
     ·rw [ho] at co;have hw:ZC l=.error 10:=by simp [ZC,zB,hp,hp2,zN,hab,hn,ho]
      have b2:=();have b3:=();have b4:=();have b7:=();exact zwk57
     ·rw [ho] at co;cases ho2:object b
      ·rw [ho2] at co2;have hw:ZC l=.error 10:=by simp [ZC,zB,hp,hp2,zN,hab,hn,ho,ho2]
       have b2:=();have b3:=();have b4:=();have b5:=();have b7:=();exact zwk57
      ·rw [ho2] at co2;have hw:ZC l=.ok ((),l2):=by simp [ZC,zB,hp,hp2,zN,hab,hn,ho,ho2]
       have b3:=();have b4:=();have b5:=();have b6:=();have b7:=();exact zwk57
    ·rw [hn] at cn;have hw:ZC l=.ok ((),l2):=by simp [ZC,zB,hp,hp2,zN,hab,hn]
     have b3:=();have b6:=();have b7:=();exact zwk57
theorem zwk58 {G:Prop} (h:G:=by repeat' (first|(have:=b0;refine zo 1 3 rfl rfl rfl ?_)|(have:=b0;refine zF ([]) zi rfl rfl rfl tH (yu rfl 9) ?_)|(have:=b1;refine zo 2 7 rfl rfl rfl ?_)|(have:=b1;refine zF ([]) zi rfl rfl rfl tH (yu hf 10) ?_)|(have:=b2;refine zy rfl (aj (ps:=(yt c.g))) rfl rfl ?_)|(have:=b2;refine zq rfl (aj (ps:=(yt c.g))) rfl rfl ?_)|(refine shC ?_;first|(have:=b0;refine zy rfl (zJ rfl rfl (zbs l ((ls.map yI).length:Int) (.inr zwy64))) rfl rfl ?_)|(have:=b0;refine zq rfl (zJ rfl rfl (zbs l ((ls.map yI).length:Int) (.inr zwy64))) rfl rfl ?_)|(have:=b2;refine qC cp ?_)|(have:=b2;refine qC (zH rfl 0) ?_)|(have:=b3;refine qC (zH hf 10) ?_)|(have:=b2;refine qC cf ?_))|refine sK ?_|refine sC (fun _=>?_) (fun _=>?_)|exact zD hw|exact yc hw (yD (.inl rfl) tH)|fail)):G:=h
theorem Qb (c:RC) (hF:Fm c.g) (ls l:List Ty) (hl:l.length<=1000):XC 181 [.pv (tys ls)] c (ZM c.g ls) uV l:=by
 intro u;refine zI zf Tryz.func181 rfl zws Tryz.ntmps181 zwy63 _ rfl (fun gB hw1=>?_);by_cases h:l.length < ls.length
 ·have hw:ZM c.g ls l=.error 9:=by rw [ZM,if_pos h]
  have b0:=();exact zwk58
 ·have cp:=zmU l ((ls.map yI).length:Int) hl zwy62 zwy64;rw [show (((ls.map yI).length:Nat):Int).toNat=ls.length by simp] at cp;have cf:=ziE c.g (l.drop (l.length - ls.length)) ls hF;cases hf:zcu c.g (l.drop (l.length - ls.length)) ls
  ·have hw:ZM c.g ls l=.error 10:=by rw [ZM,if_neg h,hf];rfl
   have b1:=();have b2:=();exact zwk58
  ·have hw:ZM c.g ls l=.ok ((),l.take (l.length - ls.length)):=by rw [ZM,if_neg h,hf];rfl
   have b2:=();have b3:=();exact zwk58
theorem Zx (c:RC) (ls l:List Ty) (h0:0<=c.x.arg):XC 167 [.pv (tys ls)] c (zbc c.x ls) tV l:=by
 intro u;refine zI zf Tryz.func167 rfl zws Tryz.ntmps167 zwy63 _ rfl (fun gB hw1=>?_);by_cases h:c.x.arg < ls.length
 ·have hw:zbc c.x ls l=.ok (ls.getD c.x.arg.toNat default,l):=by simp [zbc,zB,zG,zN,h]
  have hlt:c.x.arg.toNat < ls.length:=by omega
  have he:(ls.map yI)[c.x.arg.toNat]?=some (yI (ls.getD c.x.arg.toNat default)):=by rw [zQ hlt];exact zS hlt
  repeat' (first|(refine shC ?_;first|refine zy rfl (zJ rfl rfl (zH zwy64 3)) rfl rfl ?_|refine zq rfl (zJ rfl rfl (zH zwy64 3)) rfl rfl ?_)|(refine shX ?_;first|refine zy rfl (ah h0 he) rfl rfl ?_|refine zq rfl (ah h0 he) rfl rfl ?_)|refine sK ?_|refine sC (fun _=>?_) (fun _=>?_)|fail)
  exact yc hw (zlS rfl tH)
 ·have hw:zbc c.x ls l=.error 3:=by simp [zbc,zB,zN,h]
  repeat' (first|refine zo 1 8 rfl rfl rfl ?_|refine zF ([]) zi rfl rfl rfl tH (yu zwy64 3) ?_|refine sK ?_|refine sC (fun _=>?_) (fun _=>?_)|fail)
  exact zD hw
theorem zwk59 {G:Prop} (h:G:=by repeat' (first|(have:=b0;refine zo 2 4 rfl rfl rfl ?_)|(have:=b0;refine zF ((yS u c l)) zi rfl rfl rfl tH (cp.bad hp u) ?_)|(refine shC ?_;first|(have:=b1;refine zy rfl (zJ rfl rfl (zH zwy94 13)) rfl rfl ?_)|(have:=b1;refine zq rfl (zJ rfl rfl (zH zwy94 13)) rfl rfl ?_)|(have:=b1;refine qC cr ?_))|(have:=b2;refine zu ?_;first|(refine ay 0 (cp.ok hp) ?_))|(have:=b3;refine zo 1 3 rfl rfl rfl ?_)|(have:=b3;refine zF ([]) zi rfl rfl rfl tH (yu zwy94 13) ?_)|refine sK ?_|refine sC (fun _=>?_) (fun _=>?_)|exact zD hw|exact yc hw (yD (.inl rfl) tH)|fail)):G:=h
theorem zax (c:RC) (t:Ty) (l:List Ty) (hl:l.length<=200):XC 170 [tV t] c (QV c.m.max t) uV l:=by
 intro u;refine zI zf Tryz.func170 rfl zws Tryz.ntmps170 zwy63 _ rfl (fun gB hw1=>?_);have cr:=Yn t;have cp:=zX c [rfT t] l hl zwy63;cases h:t.ref
 ·cases hp:qg c.m.max [rfT t] l with
  | error e =>
   have hw:QV c.m.max t l=.error e:=by simp [QV,zB,zN,h,hp]
   have b0:=();have b1:=();exact zwk59
  | ok p =>
   obtain ⟨⟨⟩,l'⟩:=p;have hw:QV c.m.max t l=.ok ((),l'):=by simp [QV,zB,zN,h,hp]
   have b1:=();have b2:=();exact zwk59
 ·have hw:QV c.m.max t l=.error 13:=by simp [QV,zB,zN,h]
  have b3:=();exact zwk59
theorem zwk60 {G:Prop} (h:G:=by repeat' (first|(have:=b0;refine zo 2 4 rfl rfl rfl ?_)|(have:=b0;refine zF ((yS u c l)) zi rfl rfl rfl tH (cp.bad hp u) ?_)|(have:=b1;refine zu ?_;first|(refine ay 0 (cp.ok hp) ?_))|refine sK ?_|refine sC (fun _=>?_) (fun _=>?_)|exact yc hw (yD (.inl rfl) tH)|exact zD hw|fail)):G:=h
theorem zbK (c:RC) (d:Me) (l:List Ty) (hl:l.length<=200):XC 182 [.pv (zY d)] c (YV c.m.max d) uV l:=by
 intro u;refine zI zf Tryz.func182 rfl zws Tryz.ntmps182 zwy63 _ rfl (fun gB hw1=>?_);have cp:=zX c [d.ret] l hl zwy63;cases h:(d.ret.kind != 1)
 ·have hw:YV c.m.max d l=.ok ((),l):=by simp [YV,h,zG]
  exact zwk60
 ·cases hp:qg c.m.max [d.ret] l with
  | error e =>
   have hw:YV c.m.max d l=.error e:=by simp [YV,h,hp]
   have b0:=();exact zwk60
  | ok p =>
   obtain ⟨⟨⟩,l'⟩:=p;have hw:YV c.m.max d l=.ok ((),l'):=by simp [YV,h,hp]
   have b1:=();exact zwk60
theorem zu8 {tb:Tab} {u:Value} {c:RC} {l:List Ty} {t:Ty} {p:PV} {rs:List ResultVar} {env:Env} {H:HEnv} (hr:zan tb H env rs=some [p]) (e:p=yI t) (h:Qx H (yS u c l) []):zhu tb rs (tV t) (yS u c l) .ret env H:=⟨.inr rfl,.inl ⟨_,hr,by rw [e];rfl,h⟩⟩
theorem zwk61 {G:Prop} (h:G:=by repeat' (first|refine zy rfl (aj (ps:=(yU c.x.t))) rfl rfl ?_|refine zq rfl (aj (ps:=(yU c.x.t))) rfl rfl ?_|(refine shC ?_;first|(have:=b0;refine zy rfl (zJ rfl rfl (zH (by rw [hwr];simpa using h) 6)) rfl rfl ?_)|(have:=b0;refine zq rfl (zJ rfl rfl (zH (by rw [hwr];simpa using h) 6)) rfl rfl ?_))|(have:=b1;refine zo 3 3 rfl rfl rfl ?_)|(have:=b1;refine zF ([]) zi rfl rfl rfl tH (yu (by rw [hwr];simpa using h) 6) ?_)|refine sK ?_|refine sC (fun _=>?_) (fun _=>?_)|(have:=b0;exact yc hw (zu8 rfl (by simp only [yI];congr 1;simp [hwr,AV.flat]) tH))|exact zD hw|fail)):G:=h
theorem ZE (c:RC) (l:List Ty) (h0:0<=c.x.t.dims) (h1:c.x.t.dims<=100):XC 185 [] c (Vk c.x) tV l:=by
 intro u;refine zI zf Tryz.func185 rfl zws Tryz.ntmps185 zwy63 _ rfl (fun gB hw1=>?_);have hwr:IntKind.i64.wrap (c.x.t.dims + 1)=c.x.t.dims + 1:=wrap_in zwy62 zwy62;by_cases h:c.x.t.dims + 1<=3
 ·have hw:Vk c.x l=.ok (⟨c.x.t.kind,c.x.t.index,c.x.t.dims + 1,c.x.t.ref⟩,l):=by simp [Vk,zB,zG,zN,h]
  have b0:=();exact zwk61
 ·have hw:Vk c.x l=.error 6:=by simp [Vk,zB,zN,h]
  have b1:=();exact zwk61
set_option maxHeartbeats 20000000
theorem zwW {tb:Tab} {u:Value} {c:RC} {l:List Ty} {d:Me} {rs:List ResultVar} {env:Env} {H:HEnv} (hr:zan tb H env rs=some [zY d]) (h:Qx H (yS u c l) []):zhu tb rs (.pv (zY d)) (yS u c l) .ret env H:=⟨.inr rfl,.inl ⟨_,hr,rfl,h⟩⟩
theorem zbI (c:RC) (l:List Ty) (h0:0<=c.x.arg) (h1:c.x.arg.toNat < c.g.methods.length):XC 179 [] c (pure (mAt c.g c.x.arg):SM Me) (fun d=>.pv (zY d)) l:=by
 intro u;refine zI zf Tryz.func179 rfl zws Tryz.ntmps179 zwy63 _ rfl (fun gB hw1=>?_);have he:(c.g.methods.map zY)[c.x.arg.toNat]?=some (zY (mAt c.g c.x.arg)):=by rw [mAt,zQ h1];exact zS h1
 repeat' (first|refine zZ 13 12 rfl zws zws zws zws zws ?_|(refine shX ?_;first|refine zy rfl (ah h0 he) rfl rfl ?_|refine zq rfl (ah h0 he) rfl rfl ?_)|refine sK ?_|refine sC (fun _=>?_) (fun _=>?_)|fail)
 exact yc (val:=fun d=>.pv (zY d)) (act:=(pure (mAt c.g c.x.arg):SM Me)) (a:=mAt c.g c.x.arg) (l':=l) rfl (zwW (d:=mAt c.g c.x.arg) (c:=c) (l:=l) rfl tH)
abbrev zxO (o:Int):Ty:=⟨5,o,0,false⟩
abbrev zxi (o:Int):Ty:=⟨6,o,0,false⟩
theorem zwk62 {G:Prop} (h:G:=by repeat' (first|(have:=b0;refine zo 1 1 rfl rfl rfl ?_)|(have:=b0;refine zF ((yS u c l)) zi rfl rfl rfl tH (c1.bad hp u) ?_)|(have:=b1;refine zy rfl (aj (ps:=(yt c.g))) rfl rfl ?_)|(have:=b1;refine zq rfl (aj (ps:=(yt c.g))) rfl rfl ?_)|(have:=b2;refine qc 13 12 rfl zws zws zws zws zws ?_)|(have:=b3;refine zF ([]) zi rfl rfl rfl tH (yu rfl 10) ?_)|(have:=b4;refine zF ([]) zi rfl rfl rfl tH (yu hb 10) ?_)|(have:=b5;refine qc 10 9 rfl zws zws zws zws zws ?_)|(have:=b5;refine zF ([]) zi rfl rfl rfl tH (yu hf 10) ?_)|(refine shC ?_;first|(have:=b1;refine qC ck ?_)|(have:=b6;refine qC cr ?_)|(have:=b7;refine qC (zH hb 10) ?_)|(have:=b8;refine qC (zH rfl 10) ?_)|(have:=b9;refine qC cf ?_)|(have:=b10;refine qC (zH hf 10) ?_))|(have:=b1;refine zu ?_;first|(refine ay 0 (c1.ok hp) ?_))|refine sK ?_|refine sC (fun _=>?_) (fun _=>?_)|exact zD hw|exact yc hw (yD (.inr rfl) tH)|exact yc hw (yD (.inl rfl) tH)|fail)):G:=h
theorem Qy (c:RC) (hF:Fm c.g) (f:Fd) (it:Bool) (l:List Ty) (hl:l.length<=1000):XC 183 [.pv (ZI f),.pv (pb it)] c (Zt c.g f it) uV l:=by
 intro u;refine zI zf Tryz.func183 rfl zws Tryz.ntmps183 zwy63 _ rfl (fun gB hw1=>?_);have c1:=yw c l hl;rcases YL l with hp|⟨t,l1,hp,e1⟩
 ·have hw:Zt c.g f it l=.error 9:=zge hp;have b0:=();exact zwk62
 ·have ck:=QH c.g f.owner;by_cases hk:Ye c.g f.owner=1
  ·rw [hk] at ck;have cr:=Yn (zxi f.owner);cases ha:tyB t (rfT (zxi f.owner))
   ·have ha':(t.kind==6&&(t.index==f.owner&&(t.dims==0&&(t.ref==true&&true))))=false:=ha;cases it
    ·have hw:Zt c.g f false l=.error 10:=by simp [Zt,zB,hp,zN,hk,ha]
     have b1:=();have b2:=();have b3:=();have b6:=();exact zwk62
    ·cases hb:tyB t (zxi f.owner)
     ·have hb':(t.kind==6&&(t.index==f.owner&&(t.dims==0&&(t.ref==false&&true))))=false:=hb;have hw:Zt c.g f true l=.error 10:=by simp [Zt,zB,hp,zN,hk,ha,hb]
      have b1:=();have b2:=();have b4:=();have b6:=();exact zwk62
     ·have hb':(t.kind==6&&(t.index==f.owner&&(t.dims==0&&(t.ref==false&&true))))=true:=hb;have hw:Zt c.g f true l=.ok ((),l1):=by simp [Zt,zB,hp,zN,hk,ha,hb]
      have b1:=();have b6:=();have b7:=();exact zwk62
   ·have ha':(t.kind==6&&(t.index==f.owner&&(t.dims==0&&(t.ref==true&&true))))=true:=ha;have hw:Zt c.g f it l=.ok ((),l1):=by simp [Zt,zB,hp,zN,hk,ha]
    have b1:=();have b6:=();have b8:=();exact zwk62
  ·have hk':(Ye c.g f.owner==1)=false:=beq_eq_false_iff_ne.2 hk;have cf:=Ws c.g t (zxO f.owner) hF;cases hf:zab c.g t (zxO f.owner)
   ·have hw:Zt c.g f it l=.error 10:=by simp [Zt,zB,hp,zN,hk,hf]
    have b1:=();have b5:=();have b9:=();exact zwk62
   ·have hw:Zt c.g f it l=.ok ((),l1):=by simp [Zt,zB,hp,zN,hk,hf]
    have b1:=();have b9:=();have b10:=();exact zwk62
def LeS {α:Type} (act:SM α):Prop:=∀ l a l',act l=.ok (a,l')->l'.length<=l.length
theorem WE {α β:Type} {x:SM α} {f:α->SM β} (hx:LeS x) (hf:∀ a,LeS (f a)):LeS (x >>= f):=fun l b l' h=>by
 rw [zB] at h;cases hxl:x l with
 | error e=>rw [hxl] at h;cases h
 | ok p =>
  obtain ⟨a,l1⟩:=p;rw [hxl] at h;exact Nat.le_trans (hf a l1 b l' h) (hx l a l1 hxl)
theorem zcp {α:Type} (a:α):LeS (pure a:SM α):=fun l b l' h=>by rw [zG] at h;cases h;exact Nat.le_refl _
theorem VE (b:Bool) (e:Int):LeS (zN b e):=fun l a l' h=>by
 unfold zN at h;split at h
 ·cases h;exact Nat.le_refl _
 ·cases h
theorem empty_le (e:Int):LeS (emptyS e):=fun l a l' h=>by
 unfold emptyS at h;split at h
 ·cases h;exact Nat.le_refl _
 ·cases h
theorem zbQ:LeS Qp:=fun l a l' h=>by have:=ziV h;omega
theorem zkZ (g:Img) (t:Ty):LeS (YK g t):=WE zbQ fun _=>VE _ _
theorem zi1 (g:Img) (ls:List Ty):LeS (ZM g ls):=fun l a l' h=>by
 unfold ZM at h;split at h
 ·cases h
 ·split at h
  ·cases h;simp
  ·cases h
theorem Wh {l l':List Ty} {a:Ty} (h:Qp l=.ok (a,l')):l'.length<=l.length:=zbQ l a l' h
theorem zbj {x:Ins} {ls l l':List Ty} {a:Ty} (h:zbc x ls l=.ok (a,l')):l'.length<=l.length:=WE (VE _ _) (fun _=>zcp _) l a l' h
theorem zby {l l':List Ty} {a:Ty} (h:ZO l=.ok (a,l')):l'.length<=l.length:=WE zbQ (fun _=>WE zbQ fun _=>WE (VE _ _) fun _=>zcp _) l a l' h
theorem ze4 {l l':List Ty} {a:Ty} (h:zdf l=.ok (a,l')):l'.length<=l.length:=WE zbQ (fun _=>WE (VE _ _) fun _=>zcp _) l a l' h
theorem zeB {l l':List Ty} (h:ZC l=.ok ((),l')):l'.length<=l.length:=WE zbQ (fun _=>WE zbQ fun _=>VE _ _) l () l' h
theorem VL {g:Img} {t:Ty} {l l':List Ty} (h:YK g t l=.ok ((),l')):l'.length<=l.length:=zkZ g t l () l' h
theorem Vr {g:Img} {ls:List Ty} {l l':List Ty} (h:ZM g ls l=.ok ((),l')):l'.length<=l.length:=zi1 g ls l () l' h
theorem zcM {g:Img} {f:Fd} {it:Bool} {l l':List Ty} (h:Zt g f it l=.ok ((),l')):l'.length<=l.length:=WE zbQ (fun _=>by split <;> exact VE _ _) l () l' h
theorem zcc {x:Ins} {l l':List Ty} {a:Ty} (h:Vk x l=.ok (a,l')):l'.length<=l.length:=WE (VE _ _) (fun _=>zcp _) l a l' h
theorem XC.tells {α:Type} {f:FuncId} {c:RC} {act:SM α} {val:α->AV} {l:List Ty} {p p':PV} (h:XC f [.pv p] c act val l) (ht:PTells p' p):XC f [.pv p'] c act val l:=fun u=>by
 have key:∀ {K:KK} {w:World} {ρ:Nat->Value} {H:HEnv} {vs:List Value},Qh K w ρ H [.box 0 0,.pv p'] vs->Qh K w ρ H [.box 0 0,.pv p] vs:=fun hv=>⟨hv.1,fun k c v hc hvv=>by
  match k with
  | 0=>exact hv.2 0 c v hc hvv
  | 1 =>
   simp at hc;subst hc;have:=hv.2 1 (.pv p') v rfl hvv;cases this with|pv _ _ hp=>exact .pv _ _ (ht _ _ _ hp)
  | k + 2=>simp at hc⟩
 have hu:=h u;cases ho:zvF u c val (act l) with
 | ret r H' =>
  rw [ho] at hu;exact ⟨hu.stands,fun g K ρ w vs hw1 hf hv=>hu.calls g K ρ w vs hw1 hf (key hv)⟩
 | pan v =>
  rw [ho] at hu;exact ⟨hu.stands,fun g K ρ w vs hw1 hf hv=>hu.calls g K ρ w vs hw1 hf (key hv)⟩
theorem Yx (c:RC) (hF:Fm c.g) (ls l:List Ty) (hl:l.length<=1000):XC 181 [tsV ls] c (ZM c.g ls) uV l:=(Qb c hF ls l hl).tells (zqC _ _ _)
abbrev zxh (c:RC):HE:=.cell (.agg ((yt c.g++(zhp c.m++(tys c.ar::(zc5 c.x++[.base (.slice none 0 0)])))).map .pv))
abbrev rHN (u:Value) (c:RC):HEnv:=(0,zxh c)::zhs u
def zo4 (u:Value) (c:RC):Except Int (Unit × List Ty)->Out
 | .error e=>.pan (flt e)
 | .ok _=>.ret (.pv (.tup [])) (rHN u c)
theorem zfL {tb:Tab} {rs:List ResultVar} {u:Value} {c:RC} {act:SM Unit} {l:List Ty} {p:Unit × List Ty} {ex:Exit} {env:Env} {H:HEnv} (h:act l=.ok p) (hr:zhu tb rs (.pv (.tup [])) (rHN u c) ex env H):zln tb rs (zo4 u c (act l)) ex env H:=by
 rw [h];exact hr
theorem zba {tb:Tab} {rs:List ResultVar} {u:Value} {c:RC} {act:SM Unit} {l:List Ty} {e:Int} {env:Env} {H:HEnv} (h:act l=.error e):zln tb rs (zo4 u c (act l)) (.panic [{ v:=flt e,recovered:=false }]) env H:=by
 rw [h];rfl
theorem ziB {tb:Tab} {u:Value} {c:RC} {ex:Exit} {env:Env} {H:HEnv} (he:ex=.normal\/ex=.ret) (h:Qx H (rHN u c) []):zhu tb [] (.pv (.tup [])) (rHN u c) ex env H:=⟨he,.inl ⟨[],rfl,rfl,h⟩⟩
theorem zs8 (c:RC):Tells (.agg ((yt c.g++(zhp c.m++(tys c.ar::(zc5 c.x++[.base (.slice none 0 0)])))).map .pv)) (.agg ((yt c.g++(zhp c.m++(tys c.ar::(zc5 c.x++[tys []])))).map .pv)):=fun K w ρ H v h=>by
 cases h with
 | agg _ vs h1 h2 h3 =>
  refine .agg _ vs zwy98 h2 fun k a v ha hv=>?_
  have hk:k < 24:=by have:=(List.getElem?_eq_some_iff.1 ha).1;simpa using this
  by_cases h23:k=23
  ·subst h23;have:=h3 23 (.pv (.base (.slice none 0 0))) v rfl hv;have e:a=.pv (tys []):=by simpa using ha.symm
   subst e;exact QY 4 false _ _ _ _ _ this
  ·have e1:∀ x:PV,yt c.g++(zhp c.m++(tys c.ar::(zc5 c.x++[x])))=(yt c.g++(zhp c.m++(tys c.ar::zc5 c.x)))++[x]:=fun x=>by simp
   rw [e1,List.map_append,List.getElem?_append_left zwy64] at ha;refine h3 k a v ?_ hv;rw [e1,List.map_append,List.getElem?_append_left zwy64];exact ha
theorem zhO {f:FuncId} {c:RC} {act:SM Unit} {l:List Ty} (hn:∀ p,act l=.ok p->p.2=[]) (h:∀ u,QO Tryz.prog f [.box 0 0] (yS u c l) (zo4 u c (act l))):XC f [] c act uV l:=fun u=>by
 have hu:=h u;cases ho:act l with
 | error e=>rw [ho] at hu;exact hu
 | ok p =>
  rw [ho] at hu;have hp:=hn p ho;obtain ⟨⟨⟩,l'⟩:=p;simp only at hp;subst hp;exact ⟨hu.stands,fun g K ρ w vs hw1 hf hv=>(hu.calls g K ρ w vs hw1 hf hv).mono fun e w' ⟨v,K',ρ',e1,hf',hr⟩=>⟨v,K',ρ',e1,zhS hf' (zs8 c),by
   cases hr with|pv _ _ hp=>exact .pv _ _ hp⟩⟩
theorem zlA {a b:List Ty} {k:Nat} (ha:k < a.length) (hb:k < b.length):sameAll (a.drop k) (b.drop k)=(tyB a[k] b[k]&&sameAll (a.drop (k + 1)) (b.drop (k + 1))):=by
 rw [List.drop_eq_getElem_cons ha,List.drop_eq_getElem_cons hb];rfl
theorem znD {a b:List Ty} {k:Nat} (ha:a.length<=k):sameAll (a.drop k) (b.drop k)=true:=by
 rw [List.drop_eq_nil_of_le ha];rfl
theorem zwk50 {G:Prop} (h:G:=by repeat' (first|(have:=b0;refine qK 1 19 18 rfl rfl zws zws zws zws zws ?_)|(have:=b1;refine zF ([]) zi rfl rfl rfl tH (yu zwy66 8) ?_)|(have:=b2;refine zF ([]) zi rfl rfl rfl tH (yu zwy93 8) ?_)|(have:=b3;refine zF ([]) zi rfl rfl rfl tH (yu zwy73 8) ?_)|(have:=b4;refine zo 3 1 rfl rfl rfl ?_)|(have:=b4;refine zF ((yS u ⟨g,m,ar,⟨68,arg,t0⟩⟩ l)) zi rfl rfl rfl tH ((yw ⟨g,m,ar,⟨68,arg,t0⟩⟩ _ zwy62).bad hS8 u) ?_)|(have:=b5;refine zo 3 3 rfl rfl rfl ?_)|(have:=b5;refine zF ((yS u ⟨g,m,ar,⟨68,arg,t0⟩⟩ l8)) zi rfl rfl rfl tH ((yw ⟨g,m,ar,⟨68,arg,t0⟩⟩ _ zwy62).bad hS9 u) ?_)|(have:=b6;refine qK 4 22 21 rfl rfl zws zws zws zws zws ?_)|(have:=b7;refine zF ([]) zi rfl rfl rfl tH (yu (by first|rfl|assumption|simp [hC1,hC2,hC3,hC10]) 10) ?_)|(have:=b8;refine zF ([]) zi rfl rfl rfl tH (yu (by first|rfl|assumption|simp [hC1,hC2,hC3,hC10,hC11]) 10) ?_)|(have:=b9;refine zF ([]) zi rfl rfl rfl tH (yu zwy77 10) ?_)|(have:=b10;refine zZ 19 18 rfl zws zws zws zws zws ?_)|(have:=b10;refine zM 2 16 0 zf rfl zws zws zws rfl rfl rfl rfl rfl rfl rfl rfl rfl rfl rfl rfl rfl rfl (fun _=>rfl) rfl rfl rfl ?_)|(have:=b11;refine qK 10 12 11 rfl rfl zws zws zws zws zws ?_)|(have:=b11;refine zF ([]) zi rfl rfl rfl tH (yu hb 10) ?_)|(have:=b12;refine zZ 12 11 rfl zws zws zws zws zws ?_)|(have:=b13;refine zo 16 3 rfl rfl rfl ?_)|(have:=b13;refine zF ((yS u ⟨g,m,ar,⟨68,arg,t0⟩⟩ l9)) zi rfl rfl rfl tH (cp.bad hp u) ?_)|(have:=b14;refine zM 6 9 0 zf rfl zws zws zws rfl rfl rfl rfl rfl rfl rfl rfl rfl rfl rfl rfl rfl rfl (fun _=>rfl) rfl rfl rfl ?_)|(have:=b15;refine ⟨_,_,rfl,rfl,rfl,?_⟩)|(have:=b16;refine zy rfl (aj (ps:=(yU t0))) rfl rfl ?_)|(have:=b16;refine zq rfl (aj (ps:=(yU t0))) rfl rfl ?_)|(have:=b17;refine zy rfl (aj (ps:=(yt g))) rfl rfl ?_)|(have:=b17;refine zq rfl (aj (ps:=(yt g))) rfl rfl ?_)|(have:=b18;refine qK 15 4 3 rfl rfl zws zws zws zws zws ?_)|(have:=b18;refine zF ([]) zi rfl rfl rfl tH (yu hn 10) ?_)|(have:=b19;refine zZ 4 3 rfl zws zws zws zws zws ?_)|(have:=b20;refine qK 14 13 12 rfl rfl zws zws zws zws zws ?_)|(have:=b21;refine zF ([]) zi rfl rfl rfl tH (yu rfl 10) ?_)|(have:=b22;refine zZ 13 12 rfl zws zws zws zws zws ?_)|(have:=b23;refine zF ([]) zi rfl rfl rfl tH (yu (by simp [hn]) 10) ?_)|(refine shC ?_;first|(have:=b10;refine zy rfl (zJ rfl rfl (zH zwy73 8)) rfl rfl ?_)|(have:=b10;refine zq rfl (zJ rfl rfl (zH zwy73 8)) rfl rfl ?_)|(have:=b10;refine qC cm ?_)|(have:=b16;refine qC ck ?_)|(have:=b12;refine qC (zH hb 10) ?_)|(have:=b14;refine qC cT ?_)|(have:=b24;refine qC (zT 8) ?_)|(have:=b19;refine qC (zH hn 10) ?_)|(have:=b25;refine qC cfo ?_)|(have:=b22;refine qC (zH rfl 10) ?_))|(refine shX ?_;first|(have:=b10;refine zy rfl (zk zf rfl rfl rfl rfl rfl rfl zwy69 hm0) rfl rfl ?_)|(have:=b10;refine zq rfl (zk zf rfl rfl rfl rfl rfl rfl zwy69 hm0) rfl rfl ?_)|(have:=b10;refine zy rfl (ah hk0.1 hek) rfl rfl ?_)|(have:=b10;refine zq rfl (ah hk0.1 hek) rfl rfl ?_)|(have:=b26;refine qX he1 ?_)|(have:=b26;refine qX he2 ?_))|(have:=b5;refine zu ?_;first|(refine zx 0 zi rfl rfl ((yw ⟨g,m,ar,⟨68,arg,t0⟩⟩ _ zwy62).ok hS8) rfl rfl rfl rfl rfl ?_))|(have:=b6;refine zu ?_;first|(refine zx 0 zi rfl rfl ((yw ⟨g,m,ar,⟨68,arg,t0⟩⟩ _ zwy62).ok hS8) rfl rfl rfl rfl rfl ?_)|(refine zx 0 zi rfl rfl ((yw ⟨g,m,ar,⟨68,arg,t0⟩⟩ _ zwy62).ok hS9) rfl rfl rfl rfl rfl ?_))|(have:=b27;refine zu ?_;first|(refine ay 0 (cp.ok hp) ?_))|refine sK ?_|refine sC (fun _=>?_) (fun _=>?_)|exact zD hw|exact ⟨k + 1,⟨hlt,hr⟩,tD,tS,tH⟩|exact yc hw (yD (.inl rfl) tH)|fail)):G:=h
set_option maxHeartbeats 4000000 in
theorem zmL (g:Img) (hF:Fm g) (m:Me) (ar:List Ty) (arg:Int) (t0:Ty) (l:List Ty) (hl:l.length<=100) (hgm:g.methods.length<=1000) (hpe:∀ i:Int,0<=i->i.toNat < g.methods.length->(mAt g i).params.length<=100) (hd:t0.kind=5->t0.dims=0->Ye g t0.index=3->methodsOf g t0.index≠[]):XC 132 [] (⟨g,m,ar,⟨68,arg,t0⟩⟩:RC) (yx g m ⟨68,arg,t0⟩) uV l:=by
 intro u;refine zI zf Tryz.func132 rfl zws Tryz.ntmps132 zwy63 _ rfl (fun gB hw1=>?_);have ck:=QH g t0.index;cases hC1:(t0.kind==5)
 ·skip;have hw:(yx g m ⟨68,arg,t0⟩) l=.error 8:=by simp [yx,zB,zG,hC1,zN,emptyS]
  have b0:=();have b1:=();have b16:=();have b17:=();exact zwk50
 ·skip;cases hC2:(t0.dims==0)
  ·skip;have hw:(yx g m ⟨68,arg,t0⟩) l=.error 8:=by simp [yx,zB,zG,hC1,hC2,zN,emptyS]
   have b0:=();have b2:=();have b16:=();have b17:=();exact zwk50
  ·skip;cases hC3:(Ye g t0.index==3)
   ·skip;have hw:(yx g m ⟨68,arg,t0⟩) l=.error 8:=by simp [yx,zB,zG,hC1,hC2,hC3,zN,emptyS]
    have b0:=();have b3:=();have b16:=();have b17:=();exact zwk50
   ·skip;have hne:=hd (by simpa using hC1) (by simpa using hC2) (by simpa using hC3);obtain ⟨k0,ks,hms⟩:∃ k0 ks,methodsOf g t0.index=k0::ks:=by cases hm:methodsOf g t0.index with|nil=>exact absurd hm hne|cons a b=>exact ⟨a,b,rfl⟩
    have hk0:=ql (g:=g) (t:=t0.index) (i:=k0) (by rw [hms];simp);have cm:=Qe g t0.index zwy62;rw [hms] at cm;have hm0:((k0::ks).map pi)[(0:Int).toNat]?=some (pi k0):=rfl;have hek:(g.methods.map zY)[k0.toNat]?=some (zY (mAt g k0)):=by rw [mAt,zQ hk0.2];exact zS hk0.2
    obtain ⟨d,hdd⟩:∃ d,mAt g k0=d:=⟨_,rfl⟩
    rw [hdd] at hek;cases hS8:(Qp) l with
    | error e =>
     have hw:(yx g m ⟨68,arg,t0⟩) l=.error e:=by simp [yx,zB,zG,hC1,hC2,hC3,zN,emptyS,hms,hdd,hS8]
     have b4:=();have b10:=();have b15:=();have b16:=();have b17:=();exact zwk50
    | ok p =>
     obtain ⟨f,l8⟩:=p;have hl8:l8.length<=100:=by have:=Wh hS8;omega
     cases hS9:(Qp) l8 with
     | error e =>
      have hw:(yx g m ⟨68,arg,t0⟩) l=.error e:=by simp [yx,zB,zG,hC1,hC2,hC3,zN,emptyS,hms,hdd,hS8,hS9]
      have b5:=();have b10:=();have b15:=();have b16:=();have b17:=();exact zwk50
     | ok p =>
      obtain ⟨ob,l9⟩:=p;have hl9:l9.length<=100:=by have:=Wh hS9;omega
      cases hC10:(tyB f ⟨9,f.index,0,false⟩)
      ·skip;have hT:(f.kind==9&&(f.index==f.index&&(f.dims==0&&(f.ref==false&&true))))=false:=hC10;have hw:(yx g m ⟨68,arg,t0⟩) l=.error 10:=by simp [yx,zB,zG,hC1,hC2,hC3,zN,emptyS,hms,hdd,hS8,hS9,hC10,zN,emptyS]
       have b6:=();have b7:=();have b10:=();have b15:=();have b16:=();have b17:=();exact zwk50
      ·skip;have hT:(f.kind==9&&(f.index==f.index&&(f.dims==0&&(f.ref==false&&true))))=true:=hC10;cases hC11:(decide (0<=f.index))
       ·skip;have hP:=hC11;simp only [decide_eq_true_eq,decide_eq_false_iff_not] at hP;have hw:(yx g m ⟨68,arg,t0⟩) l=.error 10:=by simp [yx,zB,zG,hC1,hC2,hC3,zN,emptyS,hms,hdd,hS8,hS9,hC10,hC11,zN,emptyS]
        have b6:=();have b8:=();have b10:=();have b15:=();have b16:=();have b17:=();exact zwk50
       ·skip;have hP:=hC11;simp only [decide_eq_true_eq,decide_eq_false_iff_not] at hP;cases hC12:(decide (f.index < g.methods.length))
        ·skip;have hP:=hC12;simp only [decide_eq_true_eq,decide_eq_false_iff_not] at hP;have hw:(yx g m ⟨68,arg,t0⟩) l=.error 10:=by simp [yx,zB,zG,hC1,hC2,hC3,zN,emptyS,hms,hdd,hS8,hS9,hC10,hC11,hC12,zN,emptyS]
         have b6:=();have b9:=();have b10:=();have b15:=();have b16:=();have b17:=();exact zwk50
        ·skip;have hP:=hC12;simp only [decide_eq_true_eq,decide_eq_false_iff_not] at hP;have hf0:0<=f.index:=by assumption
         have hfl:f.index.toNat < g.methods.length:=by omega
         have hfe:(g.methods.map zY)[f.index.toNat]?=some (zY (mAt g f.index)):=by rw [mAt,zQ hfl];exact zS hfl
         obtain ⟨e,hee⟩:∃ e,mAt g f.index=e:=⟨_,rfl⟩
         have hpl:e.params.length<=100:=hee ▸ hpe f.index hf0 hfl;rw [hee] at hfe;cases hC17:(tyB e.ret d.ret)
         ·skip;have hR:(e.ret.kind==d.ret.kind&&(e.ret.index==d.ret.index&&(e.ret.dims==d.ret.dims&&(e.ret.ref==d.ret.ref&&true))))=false:=hC17;have hw:(yx g m ⟨68,arg,t0⟩) l=.error 10:=by simp [yx,zB,zG,hC1,hC2,hC3,zN,emptyS,hms,hdd,hS8,hS9,hC10,hC11,hC12,zN,emptyS,hee,hC17,zN,emptyS]
          repeat' (first|refine zo 6 14 rfl rfl rfl ?_|refine zF ([]) zi rfl rfl rfl tH (yu (by first|rfl|assumption|simp [hC1,hC2,hC3,hC10,hC11,hC12,hC17]) 10) ?_|refine zZ 19 18 rfl zws zws zws zws zws ?_|refine zM 2 16 0 zf rfl zws zws zws rfl rfl rfl rfl rfl rfl rfl rfl rfl rfl rfl rfl rfl rfl (fun _=>rfl) rfl rfl rfl ?_|refine ⟨_,_,rfl,rfl,rfl,?_⟩|refine zZ 22 21 rfl zws zws zws zws zws ?_|refine zM 5 9 0 zf rfl zws zws zws rfl rfl rfl rfl rfl rfl rfl rfl rfl rfl rfl rfl rfl rfl (fun _=>rfl) rfl rfl rfl ?_|refine ⟨_,_,rfl,rfl,rfl,?_⟩|refine zy rfl (aj (ps:=(yU t0))) rfl rfl ?_|refine zq rfl (aj (ps:=(yU t0))) rfl rfl ?_|refine zy rfl (aj (ps:=(yt g))) rfl rfl ?_|refine zq rfl (aj (ps:=(yt g))) rfl rfl ?_|(refine shC ?_;first|refine zy rfl (zJ rfl rfl (zH zwy73 8)) rfl rfl ?_|refine zq rfl (zJ rfl rfl (zH zwy73 8)) rfl rfl ?_|refine qC cm ?_|refine zy rfl (zJ rfl rfl (zH zwy77 10)) rfl rfl ?_|refine zq rfl (zJ rfl rfl (zH zwy77 10)) rfl rfl ?_|refine qC ck ?_)|(refine shX ?_;first|refine zy rfl (zk zf rfl rfl rfl rfl rfl rfl zwy69 hm0) rfl rfl ?_|refine zq rfl (zk zf rfl rfl rfl rfl rfl rfl zwy69 hm0) rfl rfl ?_|refine zy rfl (ah hk0.1 hek) rfl rfl ?_|refine zq rfl (ah hk0.1 hek) rfl rfl ?_|refine zy rfl (ah hf0 hfe) rfl rfl ?_|refine zq rfl (ah hf0 hfe) rfl rfl ?_)|(refine zu ?_;first|(refine zx 0 zi rfl rfl ((yw ⟨g,m,ar,⟨68,arg,t0⟩⟩ _ zwy62).ok hS8) rfl rfl rfl rfl rfl ?_)|(refine zx 0 zi rfl rfl ((yw ⟨g,m,ar,⟨68,arg,t0⟩⟩ _ zwy62).ok hS9) rfl rfl rfl rfl rfl ?_))|refine sK ?_|refine sC (fun _=>?_) (fun _=>?_)|fail)
          exact zD hw
         ·skip;have hR:(e.ret.kind==d.ret.kind&&(e.ret.index==d.ret.index&&(e.ret.dims==d.ret.dims&&(e.ret.ref==d.ret.ref&&true))))=true:=hC17;cases hC18:(e.params.length==d.params.length)
          ·skip;have hL:((((e.params.map yI).length:Nat):Int)==(((d.params.map yI).length:Nat):Int))=false:=by rw [<-hC18,Bool.eq_iff_iff];simp only [List.length_map,beq_iff_eq];omega
           have hw:(yx g m ⟨68,arg,t0⟩) l=.error 10:=by simp [yx,zB,zG,hC1,hC2,hC3,zN,emptyS,hms,hdd,hS8,hS9,hC10,hC11,hC12,zN,emptyS,hee,hC17,hC18,zN,emptyS]
           repeat' (first|refine zo 6 14 rfl rfl rfl ?_|refine zF ([]) zi rfl rfl rfl tH (yu zwy91 10) ?_|refine zZ 19 18 rfl zws zws zws zws zws ?_|refine zM 2 16 0 zf rfl zws zws zws rfl rfl rfl rfl rfl rfl rfl rfl rfl rfl rfl rfl rfl rfl (fun _=>rfl) rfl rfl rfl ?_|refine ⟨_,_,rfl,rfl,rfl,?_⟩|refine zZ 22 21 rfl zws zws zws zws zws ?_|refine zM 5 9 0 zf rfl zws zws zws rfl rfl rfl rfl rfl rfl rfl rfl rfl rfl rfl rfl rfl rfl (fun _=>rfl) rfl rfl rfl ?_|refine ⟨_,_,rfl,rfl,rfl,?_⟩|refine zy rfl (aj (ps:=(yU t0))) rfl rfl ?_|refine zq rfl (aj (ps:=(yU t0))) rfl rfl ?_|refine zy rfl (aj (ps:=(yt g))) rfl rfl ?_|refine zq rfl (aj (ps:=(yt g))) rfl rfl ?_|(refine shC ?_;first|refine zy rfl (zJ rfl rfl (zH zwy73 8)) rfl rfl ?_|refine zq rfl (zJ rfl rfl (zH zwy73 8)) rfl rfl ?_|refine qC cm ?_|refine zy rfl (zJ rfl rfl (zH zwy77 10)) rfl rfl ?_|refine zq rfl (zJ rfl rfl (zH zwy77 10)) rfl rfl ?_|refine qC ck ?_)|(refine shX ?_;first|refine zy rfl (zk zf rfl rfl rfl rfl rfl rfl zwy69 hm0) rfl rfl ?_|refine zq rfl (zk zf rfl rfl rfl rfl rfl rfl zwy69 hm0) rfl rfl ?_|refine zy rfl (ah hk0.1 hek) rfl rfl ?_|refine zq rfl (ah hk0.1 hek) rfl rfl ?_|refine zy rfl (ah hf0 hfe) rfl rfl ?_|refine zq rfl (ah hf0 hfe) rfl rfl ?_)|(refine zu ?_;first|(refine zx 0 zi rfl rfl ((yw ⟨g,m,ar,⟨68,arg,t0⟩⟩ _ zwy62).ok hS8) rfl rfl rfl rfl rfl ?_)|(refine zx 0 zi rfl rfl ((yw ⟨g,m,ar,⟨68,arg,t0⟩⟩ _ zwy62).ok hS9) rfl rfl rfl rfl rfl ?_))|refine sK ?_|refine sC (fun _=>?_) (fun _=>?_)|fail)
           exact zD hw
          ·skip;have hL:((((e.params.map yI).length:Nat):Int)==(((d.params.map yI).length:Nat):Int))=true:=by rw [<-hC18,Bool.eq_iff_iff];simp only [List.length_map,beq_iff_eq];omega
           have hlen:e.params.length=d.params.length:=by simpa using (by assumption:(e.params.length==d.params.length)=true)
           repeat' (first|refine zZ 19 18 rfl zws zws zws zws zws ?_|refine zM 2 16 0 zf rfl zws zws zws rfl rfl rfl rfl rfl rfl rfl rfl rfl rfl rfl rfl rfl rfl (fun _=>rfl) rfl rfl rfl ?_|refine ⟨_,_,rfl,rfl,rfl,?_⟩|refine zZ 22 21 rfl zws zws zws zws zws ?_|refine zM 5 9 0 zf rfl zws zws zws rfl rfl rfl rfl rfl rfl rfl rfl rfl rfl rfl rfl rfl rfl (fun _=>rfl) rfl rfl rfl ?_|refine ⟨_,_,rfl,rfl,rfl,?_⟩|refine zy rfl (aj (ps:=(yU t0))) rfl rfl ?_|refine zq rfl (aj (ps:=(yU t0))) rfl rfl ?_|refine zy rfl (aj (ps:=(yt g))) rfl rfl ?_|refine zq rfl (aj (ps:=(yt g))) rfl rfl ?_|(refine shC ?_;first|refine zy rfl (zJ rfl rfl (zH zwy73 8)) rfl rfl ?_|refine zq rfl (zJ rfl rfl (zH zwy73 8)) rfl rfl ?_|refine qC cm ?_|refine zy rfl (zJ rfl rfl (zH zwy77 10)) rfl rfl ?_|refine zq rfl (zJ rfl rfl (zH zwy77 10)) rfl rfl ?_|refine zy rfl (zJ rfl rfl (zH zwy91 10)) rfl rfl ?_|refine zq rfl (zJ rfl rfl (zH zwy91 10)) rfl rfl ?_|refine qC ck ?_)|(refine shX ?_;first|refine zy rfl (zk zf rfl rfl rfl rfl rfl rfl zwy69 hm0) rfl rfl ?_|refine zq rfl (zk zf rfl rfl rfl rfl rfl rfl zwy69 hm0) rfl rfl ?_|refine zy rfl (ah hk0.1 hek) rfl rfl ?_|refine zq rfl (ah hk0.1 hek) rfl rfl ?_|refine zy rfl (ah hf0 hfe) rfl rfl ?_|refine zq rfl (ah hf0 hfe) rfl rfl ?_)|(refine zu ?_;first|(refine zx 0 zi rfl rfl ((yw ⟨g,m,ar,⟨68,arg,t0⟩⟩ _ zwy62).ok hS8) rfl rfl rfl rfl rfl ?_)|(refine zx 0 zi rfl rfl ((yw ⟨g,m,ar,⟨68,arg,t0⟩⟩ _ zwy62).ok hS9) rfl rfl rfl rfl rfl ?_))|refine sK ?_|refine sC (fun _=>?_) (fun _=>?_)|fail)
           refine zL (fun k:Nat=>[(0,.box 0 0),(2,.box 1 0),(3,.box 2 0),(4,.box 3 0),(5,.box 4 0),(6,.box 5 0),(102,.pv (pi e.params.length)),(103,.pv (pi k))]) (fun _=>[(0,Wx ⟨g,m,ar,⟨68,arg,t0⟩⟩ l9),(1,.cell (.pv (yI t0))),(2,.cell (.pv (zY d))),(3,.cell (.pv (yI f))),(4,.cell (.pv (yI ob))),(5,.cell (.pv (zY e))),(1000,.pin (.own 0) u)]) (fun k=>k<=e.params.length/\sameAll e.params d.params=sameAll (e.params.drop k) (d.params.drop k)) (fun k=>e.params.length - k) 0 ⟨by omega,rfl⟩ (by repeat (first|exact yO|refine yA rfl ?_|(refine qW rfl ?_ ?_;· (simp)))) tH ?_;rintro k ⟨hk,hr⟩;by_cases hlt:k < e.params.length
           ·have hlt2:k < d.params.length:=by omega
            have he1:=zS (f:=yI) hlt;have he2:=zS (f:=yI) hlt2;rw [zlA hlt hlt2] at hr;cases hb:tyB e.params[k] d.params[k]
            ·rw [hb,Bool.false_and] at hr;have hw:(yx g m ⟨68,arg,t0⟩) l=.error 10:=by simp [yx,zB,zG,hC1,hC2,hC3,zN,emptyS,hms,hdd,hS8,hS9,hC10,hC11,hC12,zN,emptyS,hee,hC17,hC18,zN,emptyS,hr]
             have b11:=();have b26:=();exact zwk50
            ·rw [hb,Bool.true_and] at hr;have b12:=();have b26:=();exact zwk50
           ·rw [znD zwy62] at hr;have cT:=zkj g e;have cfo:=Ws g ob (zao (Ye g e.owner) (qQ e.flags 1) e.owner).1 hF;obtain ⟨th,hth⟩:∃ th,zao (Ye g e.owner) (qQ e.flags 1) e.owner=th:=⟨_,rfl⟩
            rw [hth] at cT cfo;obtain ⟨ty,isT⟩:=th;have cp:=zX ⟨g,m,ar,⟨68,arg,t0⟩⟩ [t0] l9 zwy62 zwy63;cases isT
            ·cases hn:tyB ob (kTy 8)
             ·have hw:(yx g m ⟨68,arg,t0⟩) l=.error 10:=by simp [yx,zB,zG,hC1,hC2,hC3,zN,emptyS,hms,hdd,hS8,hS9,hC10,hC11,hC12,zN,emptyS,hee,hC17,hC18,zN,emptyS,hr,hth,hn]
              have b14:=();have b15:=();have b17:=();have b18:=();have b24:=();exact zwk50
             ·cases hp:(qg m.max [t0]) l9 with
              | error er =>
               have hw:(yx g m ⟨68,arg,t0⟩) l=.error er:=by simp [yx,zB,zG,hC1,hC2,hC3,zN,emptyS,hms,hdd,hS8,hS9,hC10,hC11,hC12,zN,emptyS,hee,hC17,hC18,zN,emptyS,hr,hth,hn,hp]
               have b13:=();have b14:=();have b15:=();have b17:=();have b19:=();have b24:=();exact zwk50
              | ok p =>
               obtain ⟨⟨⟩,lz⟩:=p;have hw:(yx g m ⟨68,arg,t0⟩) l=.ok ((),lz):=by simp [yx,zB,zG,hC1,hC2,hC3,zN,emptyS,hms,hdd,hS8,hS9,hC10,hC11,hC12,zN,emptyS,hee,hC17,hC18,zN,emptyS,hr,hth,hn,hp]
               have b14:=();have b15:=();have b17:=();have b19:=();have b24:=();have b27:=();exact zwk50
            ·cases hn:ty.ref
             ·cases hf:zab g ob ty
              ·rw [hf] at cfo;have hw:(yx g m ⟨68,arg,t0⟩) l=.error 10:=by simp [yx,zB,zG,hC1,hC2,hC3,zN,emptyS,hms,hdd,hS8,hS9,hC10,hC11,hC12,zN,emptyS,hee,hC17,hC18,zN,emptyS,hr,hth,hn,hf]
               have b14:=();have b15:=();have b17:=();have b20:=();have b21:=();have b25:=();exact zwk50
              ·rw [hf] at cfo;cases hp:(qg m.max [t0]) l9 with
               | error er =>
                have hw:(yx g m ⟨68,arg,t0⟩) l=.error er:=by simp [yx,zB,zG,hC1,hC2,hC3,zN,emptyS,hms,hdd,hS8,hS9,hC10,hC11,hC12,zN,emptyS,hee,hC17,hC18,zN,emptyS,hr,hth,hn,hf,hp]
                have b13:=();have b14:=();have b15:=();have b17:=();have b22:=();have b25:=();exact zwk50
               | ok p =>
                obtain ⟨⟨⟩,lz⟩:=p;have hw:(yx g m ⟨68,arg,t0⟩) l=.ok ((),lz):=by simp [yx,zB,zG,hC1,hC2,hC3,zN,emptyS,hms,hdd,hS8,hS9,hC10,hC11,hC12,zN,emptyS,hee,hC17,hC18,zN,emptyS,hr,hth,hn,hf,hp]
                have b14:=();have b15:=();have b17:=();have b22:=();have b25:=();have b27:=();exact zwk50
             ·have hw:(yx g m ⟨68,arg,t0⟩) l=.error 10:=by simp [yx,zB,zG,hC1,hC2,hC3,zN,emptyS,hms,hdd,hS8,hS9,hC10,hC11,hC12,zN,emptyS,hee,hC17,hC18,zN,emptyS,hr,hth,hn]
              have b14:=();have b15:=();have b17:=();have b20:=();have b23:=();exact zwk50
end Go.Cg
