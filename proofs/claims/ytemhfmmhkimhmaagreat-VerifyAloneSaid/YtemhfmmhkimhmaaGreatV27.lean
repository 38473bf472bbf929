/- A part of the walks by abstract values: no statement of its own. -/
import Derived.Test.YtemhfmmhkimhmaaGreatV26
import Derived.Test.YtemhfmmhkimhmaaGreatV24
import Derived.Test.YtemhfmmhkimhmaaGreatV12
import Derived.Test.YtemhfmmhkimhmaaGreatV17
import Derived.Test.YtemhfmmhkimhmaaGreatV16
import Derived.Test.YtemhfmmhkimhmaaGreatV14
set_option linter.unusedVariables false
set_option linter.unusedSimpArgs false
namespace Go.Cg
open Go.Proofs
def SM (α:Type):Type:=List Ty->Except Int (α × List Ty)
def SM.ret {α:Type} (a:α):SM α:=fun l=>.ok (a,l)
def SM.bnd {α β:Type} (x:SM α) (f:α->SM β):SM β:=fun l=>match x l with|.error e=>.error e|.ok p=>f p.1 p.2
instance:Monad SM:={ pure:=SM.ret,bind:=SM.bnd }
theorem zG {α:Type} (a:α) (l:List Ty):(pure a:SM α) l=.ok (a,l):=rfl
theorem zA {α β:Type} (x:SM α) (f:α->SM β) (l:List Ty):(x >>= f) l=match x l with|.error e=>.error e|.ok p=>f p.1 p.2:=rfl
theorem zfW {α β:Type} {x:SM α} {f:α->SM β} {l:List Ty} {e:Int} (h:x l=.error e):(x >>= f) l=.error e:=by rw [zA,h]
theorem zwX {α β:Type} {x:SM α} {f:α->SM β} {l l':List Ty} {a:α} (h:x l=.ok (a,l')):(x >>= f) l=f a l':=by rw [zA,h]
def zO (b:Bool) (e:Int):SM Unit:=fun l=>if b then .ok ((),l) else .error e
def Qj:SM Ty:=fun l=>if l.length < 1 then .error 9 else .ok ((l.drop (l.length - 1)).headD default,l.take (l.length - 1))
def qg (most:Int) (ts:List Ty):SM Unit:=fun l=>if ((l.length:Int) + (ts.length:Int))<=most then .ok ((),l++ts) else .error 9
def zcu:SM Unit:=fun _=>.ok ((),[])
def emptyS (e:Int):SM Unit:=fun l=>if l.length==0 then .ok ((),l) else .error e
def kTy (k:Int):Ty:=⟨k,0,0,false⟩
def rfT (t:Ty):Ty:=⟨t.kind,t.index,t.dims,true⟩
def nuT (t:Ty):Bool:=tyB t (kTy 2)||tyB t (kTy 3)
def YG (g:Img) (t:Ty):SM Unit:=do let x <-Qj;zO (zaa g x t) 10
def ZG (g:Img) (ls:List Ty):SM Unit:=fun l =>
 if l.length < ls.length then .error 9 else if zcx g (l.drop (l.length - ls.length)) ls then .ok ((),l.take (l.length - ls.length)) else .error 10
def ZJ:SM Ty:=do let b <-Qj;let a <-Qj;zO (tyB a b&&nuT a) 10;pure a
def zdu:SM Ty:=do let t <-Qj;zO (nuT t) 10;pure t
def Zy:SM Unit:=do let b <-Qj;let a <-Qj;zO (tyB a b&&nuT a||object a&&object b) 10
def zbc (x:Ins) (ls:List Ty):SM Ty:=do zO (decide (x.arg < ls.length)) 3;pure (ls.getD x.arg.toNat default)
def QN (most:Int) (t:Ty):SM Unit:=do zO (!t.ref) 13;qg most [rfT t]
def Qr (g:Img) (c:Me):List Ty:=zvL (zat (Yb g c.owner) (qU c.flags 1) c.owner) c.params
def YW (most:Int) (c:Me):SM Unit:=if c.ret.kind != 1 then qg most [c.ret] else pure ()
def fAt (g:Img) (a:Int):Fd:=g.fields.getD a.toNat default
def tAt (g:Img) (a:Int):TD:=g.types.getD a.toNat default
def Zt (g:Img) (f:Fd) (itself:Bool):SM Unit:=do
 let t <-Qj
 if Yb g f.owner==1 then zO (tyB t (rfT ⟨6,f.owner,0,false⟩)||itself&&tyB t ⟨6,f.owner,0,false⟩) 10
 else zO (zaa g t ⟨5,f.owner,0,false⟩) 10
def Vg (x:Ins):SM Ty:=do zO (decide (x.t.dims + 1<=3)) 6;pure ⟨x.t.kind,x.t.index,x.t.dims + 1,x.t.ref⟩
def zgu (t:Ty):Bool:=nuT t||t.kind==6&&t.dims==0
def Zb (g:Img) (ar:List Ty) (m:Me) (x:Ins):SM Unit:=do
 let t <-zbc x (if x.op==2||x.op==3||x.op==4 then ar else m.locals)
 if x.op==2||x.op==5 then qg m.max [t] else if x.op==3||x.op==6 then YG g t else QN m.max t
def qF (g:Img) (m:Me) (op:Int):SM Unit :=
 if op==13||op==14||op==15||op==16||op==17||op==18||op==19||op==20||op==25||op==26||op==27 then do let t <-ZJ;qg m.max [t]
 else if op==21||op==22 then do YG g (kTy 2);let t <-zdu;qg m.max [t]
 else if op==23||op==24 then do let t <-zdu;qg m.max [t]
 else if op==28||op==30 then do let _ <-zdu;qg m.max [kTy 2]
 else if op==29 then do let _ <-zdu;qg m.max [kTy 3]
 else if op==31 then do Zy;qg m.max [kTy 2]
 else if op==32||op==33 then do let _ <-ZJ;qg m.max [kTy 2]
 else pure ()
def ZO (op:Int):SM Unit :=
 if op==35||op==36 then do let t <-Qj;zO (nuT t||object t) 10
 else if op==37||op==42 then Zy
 else if op==38||op==39||op==40||op==41 then do let _ <-ZJ;pure ()
 else pure ()
def qK (g:Img) (m:Me) (x:Ins):SM Unit :=
 let c:=mAt g x.arg
 if x.op==43 then do zO (!qU c.flags 4) 8;ZG g (Qr g c);YW m.max c
 else if x.op==44 then do zO (!qU c.flags 1&&!qU c.flags 16&&Yb g c.owner != 1) 8;ZG g (Qr g c);YW m.max c
 else do zO (qU c.flags 16&&!qU (tAt g c.owner).flags 4) 8;ZG g c.params;qg m.max [⟨5,c.owner,0,false⟩]
def yG (g:Img) (m:Me) (x:Ins):SM Unit:=do
 let f:=fAt g x.arg
 zO (f.static==(x.op==51||x.op==52||x.op==53)) 8
 if x.op==48 then do Zt g f true;qg m.max [f.ty]
 else if x.op==49 then do YG g f.ty;Zt g f false
 else if x.op==50 then do Zt g f false;qg m.max [rfT f.ty]
 else if x.op==51 then qg m.max [f.ty]
 else if x.op==52 then YG g f.ty
 else qg m.max [rfT f.ty]
def Zc (g:Img) (m:Me) (x:Ins):SM Unit :=
 if x.op==55 then ZG g [rfT x.t,x.t]
 else do let t <-Qj;zO (tyB t (rfT x.t)) 10;if x.op==54 then qg m.max [x.t] else pure ()
def yK (g:Img) (m:Me) (x:Ins):SM Unit :=
 if x.op==58 then do let t <-Qj;zO (object t&&(decide (0 < t.dims)||t.kind==8)) 10;qg m.max [kTy 2]
 else do
  let a <-Vg x
  if x.op==57 then do YG g (kTy 2);qg m.max [a]
  else if x.op==60 then ZG g [a,kTy 2,x.t]
  else do ZG g [a,kTy 2];if x.op==59 then qg m.max [x.t] else qg m.max [rfT x.t]
def yD (g:Img) (m:Me) (x:Ins):SM Unit:=do
 zO ((x.op==65||x.op==66)&&object x.t||!(x.op==65||x.op==66)&&zgu x.t) 8
 if x.op==62 then do YG g x.t;qg m.max [kTy 4]
 else do let t <-Qj;zO (object t) 10;qg m.max [if x.op==63 then rfT x.t else x.t]
def sameAll:List Ty->List Ty->Bool
 | a::ar,b::bs=>tyB a b&&sameAll ar bs
 | _,_=>true
def yA (g:Img) (m:Me) (x:Ins):SM Unit:=do
 zO (x.t.kind==5&&x.t.dims==0&&Yb g x.t.index==3) 8
 let d:=mAt g ((methodsOf g x.t.index).headD 0)
 let f <-Qj
 let o <-Qj
 zO (tyB f ⟨9,f.index,0,false⟩&&decide (0<=f.index)&&decide (f.index < g.methods.length)) 10
 let c:=mAt g f.index
 zO (tyB c.ret d.ret&&c.params.length==d.params.length) 10
 zO (sameAll c.params d.params) 10
 let this:=zat (Yb g c.owner) (qU c.flags 1) c.owner
 if this.2 then zO (!this.1.ref&&zaa g o this.1) 10 else zO (tyB o (kTy 8)) 10
 qg m.max [x.t]
def ZL (g:Img) (m:Me) (op:Int):SM Unit:=do
 if op==46 then do (if m.ret.kind != 1 then YG g m.ret else pure ());emptyS 9
 else if op==69 then do let t <-Qj;zO (object t) 10
 else if op==73 then do YG g (kTy 2);emptyS 9
 else pure ()
 zcu
def yM (g:Img) (m:Me) (x:Ins):SM Unit :=
 if x.op==8 then qg m.max [kTy 2]
 else if x.op==9||x.op==74 then qg m.max [kTy 3]
 else if x.op==10 then qg m.max [kTy 8]
 else if x.op==11 then do let t <-Qj;qg m.max [t,t]
 else if x.op==12 then do let _ <-Qj;pure ()
 else if x.op==75 then YG g (kTy 3)
 else if x.op==67 then do zO (!qU (mAt g x.arg).flags 4&&!qU (mAt g x.arg).flags 16) 8;qg m.max [⟨9,x.arg,0,false⟩]
 else pure ()
def doS (g:Img) (ar:List Ty) (m:Me) (x:Ins):SM Unit :=
 if decide (2<=x.op)&&decide (x.op<=7) then Zb g ar m x
 else if decide (13<=x.op)&&decide (x.op<=33) then qF g m x.op
 else if decide (34<=x.op)&&decide (x.op<=42) then ZO x.op
 else if decide (43<=x.op)&&decide (x.op<=45) then qK g m x
 else if decide (48<=x.op)&&decide (x.op<=53) then yG g m x
 else if decide (54<=x.op)&&decide (x.op<=56) then Zc g m x
 else if decide (57<=x.op)&&decide (x.op<=61) then yK g m x
 else if decide (62<=x.op)&&decide (x.op<=66) then yD g m x
 else if x.op==68 then yA g m x
 else if x.op==46||decide (69<=x.op)&&decide (x.op<=73) then ZL g m x.op
 else yM g m x
def qy (m:Me) (a:Int):Ins:=m.code.getD a.toNat default
def stepS (g:Img) (mi at_:Int) (l:List Ty):Except Int (Unit × List Ty):=doS g (Qr g (mAt g mi)) (mAt g mi) (qy (mAt g mi) at_) l
abbrev yt (g:Img):List PV:=[.slc 4 (g.types.map Zx) false,.slc 7 (g.fields.map ZI) false,.slc 12 (g.methods.map zY) false,pi g.entry]
abbrev zhw (m:Me):List PV:=[ps m.name,pi m.owner,pi m.flags,tys m.params,pi m.ret.kind,pi m.ret.index,pi m.ret.dims,pb m.ret.ref,tys m.locals,pi m.max,.slc 6 (m.code.map ql) false,.slc 10 (m.clauses.map qN) false]
abbrev zc1 (x:Ins):List PV:=[pi x.op,pi x.arg,pi x.t.kind,pi x.t.index,pi x.t.dims,pb x.t.ref]
abbrev yU (t:Ty):List PV:=[pi t.kind,pi t.index,pi t.dims,pb t.ref]
structure RC where
 g:Img
 m:Me
 ar:List Ty
 x:Ins
abbrev Wy (c:RC) (l:List Ty):HE:=.cell (.agg ((yt c.g++(zhw c.m++(tys c.ar::(zc1 c.x++[tys l])))).map .pv))
abbrev zad (c:RC):HE:=.cell (.agg ((yt c.g++(zhw c.m++(tys c.ar::zc1 c.x))).map .pv++[.any1]))
abbrev zhs (u:Value):HEnv:=[(1000,.pin (.own 0) u)]
abbrev yS (u:Value) (c:RC) (l:List Ty):HEnv:=(0,Wy c l)::zhs u
abbrev flt (e:Int):Value:=.iface 125 (.int .i64 e)
def zvl {α:Type} (u:Value) (c:RC) (val:α->AV):Except Int (α × List Ty)->Out
 | .error e=>.pan (flt e)
 | .ok p=>.ret (val p.1) (yS u c p.2)
abbrev uV:Unit->AV:=fun _=>.pv (.tup [])
abbrev tV:Ty->AV:=fun t=>.pv (yJ t)
def XC {α:Type} (f:FuncId) (args:List AV) (c:RC) (act:SM α) (val:α->AV) (l:List Ty):Prop:=∀ u,QF Tryz.prog f (.box 0 0::args) (yS u c l) (zvl u c val (act l))
theorem XC.ok {α:Type} {f:FuncId} {args:List AV} {c:RC} {act:SM α} {val:α->AV} {l l':List Ty} {a:α} (h:XC f args c act val l) (e:act l=.ok (a,l')):∀ us,ACallM Tryz.prog f (.box 0 0::args) ([(0,Wy c l)]++qB us [0]) (val a) ([(0,Wy c l')]++qB us [0]):=fun us=>by
 have:=h (us 0);rw [e] at this;exact this
theorem XC.bad {α:Type} {f:FuncId} {args:List AV} {c:RC} {act:SM α} {val:α->AV} {l:List Ty} {e:Int} (h:XC f args c act val l) (he:act l=.error e) (u:Value):ACallPan Tryz.prog f (.box 0 0::args) (yS u c l) (flt e):=by
 have:=h u;rw [he] at this;exact this
set_option maxHeartbeats 20000000
theorem yc {α:Type} {tb:Tab} {rs:List ResultVar} {u:Value} {c:RC} {val:α->AV} {act:SM α} {l l':List Ty} {a:α} {ex:Exit} {env:Env} {H:HEnv} (h:act l=.ok (a,l')) (hr:zi3 tb rs (val a) (yS u c l') ex env H):zkS tb rs (zvl u c val (act l)) ex env H:=by
 rw [h];exact hr
theorem zF {α:Type} {tb:Tab} {rs:List ResultVar} {u:Value} {c:RC} {val:α->AV} {act:SM α} {l:List Ty} {e:Int} {env:Env} {H:HEnv} (h:act l=.error e):zkS tb rs (zvl u c val (act l)) (.panic [{ v:=flt e,recovered:=false }]) env H:=by
 rw [h];rfl
theorem zH {b:Bool} (h:b=true) (e:Int):ACall Tryz.prog 176 [pb b,pi e] (.tup []):=by
 subst h;refine zh zf Tryz.func176 rfl zws Tryz.ntmps176 zwy63 _ rfl (fun hw gB hgB=>?_)
 repeat' (first|refine sK ?_|refine sC (fun _=>?_) (fun _=>?_)|fail)
 exact Yf rfl rfl
theorem yu {b:Bool} (h:b=false) (e:Int):ACallPan Tryz.prog 176 [.pv (pb b),.pv (pi e)] [] (flt e):=by
 subst h;refine zaU Tryz.func176 rfl zws Tryz.ntmps176 zwy63 (fun gB hw1=>?_)
 repeat' (first|refine zo 1 2 rfl rfl rfl ?_|refine zy rfl (zka rfl Tryz.underlying125 rfl) rfl rfl ?_|refine zkd rfl rfl rfl ?_|refine sK ?_|refine sC (fun _=>?_) (fun _=>?_)|fail)
 exact rfl
theorem zU (k:Int):ACall Tryz.prog 172 [pi k] (yJ (kTy k)):=by
 refine zh zf Tryz.func172 rfl zws Tryz.ntmps172 zwy63 _ rfl (fun hw gB hgB=>?_)
 repeat' (first|refine sK ?_|refine sC (fun _=>?_) (fun _=>?_)|fail)
 exact retq rfl rfl
theorem zcc (t:Ty):ACall Tryz.prog 177 [yJ t] (pb (nuT t)):=by
 refine zh zf Tryz.func177 rfl zws Tryz.ntmps177 zwy63 _ rfl (fun hw gB hgB=>?_)
 repeat' (first|(refine shC ?_;first|refine qC (zU 2) ?_|refine qC (zU 3) ?_)|refine sA ?_|refine sC (fun _=>?_) (fun _=>?_)|fail)
 all_goals first|(exact retq rfl (by simp_all [zn,nuT,tyB,kTy]))|trace_state
theorem Yl (t:Ty):ACall Tryz.prog 184 [yJ t] (yJ (rfT t)):=by
 refine zh zf Tryz.func184 rfl zws Tryz.ntmps184 zwy63 _ rfl (fun hw gB hgB=>?_)
 repeat' (first|(refine XF ?_;first|refine zax 7 rfl rfl rfl rfl rfl rfl ?_)|refine sA ?_|refine sC (fun _=>?_) (fun _=>?_)|fail)
 exact retq rfl rfl
theorem Qs (m:Me) (k:Int):ACall Tryz.prog 180 [zY m,pi k] (pb (qU m.flags k)):=by
 refine zh zf Tryz.func180 rfl zws Tryz.ntmps180 zwy63 _ rfl (fun hw gB hgB=>?_)
 repeat' (first|refine sA ?_|refine sC (fun _=>?_) (fun _=>?_)|fail)
 exact retq rfl rfl
theorem zcN (t:Ty):ACall Tryz.prog 186 [yJ t] (pb (zgu t)):=by
 refine zh zf Tryz.func186 rfl zws Tryz.ntmps186 zwy63 _ rfl (fun hw gB hgB=>?_);have c1:=zcc t;rw [zgu];generalize nuT t=b at c1 ⊢
 repeat' (first|(refine shC ?_;first|refine qC c1 ?_)|refine sA ?_|refine sC (fun _=>?_) (fun _=>?_)|fail)
 all_goals first|(exact retq rfl (by simp_all [zn]))|trace_state
theorem yE {tb:Tab} {u:Value} {c:RC} {l:List Ty} {ex:Exit} {env:Env} {H:HEnv} (he:ex=.normal\/ex=.ret) (h:QM H (yS u c l) []):zi3 tb [] (uV ()) (yS u c l) ex env H:=⟨he,.inl ⟨[],rfl,rfl,h⟩⟩
theorem zla {tb:Tab} {u:Value} {c:RC} {l:List Ty} {t:Ty} {rs:List ResultVar} {env:Env} {H:HEnv} (hr:zar tb H env rs=some [yJ t]) (h:QM H (yS u c l) []):zi3 tb rs (tV t) (yS u c l) .ret env H:=⟨.inr rfl,.inl ⟨_,hr,rfl,h⟩⟩
theorem yx (c:RC) (l:List Ty) (hl:l.length<=1000):XC 175 [] c Qj tV l:=by
 intro u;refine zI zf Tryz.func175 rfl zws Tryz.ntmps175 zwy63 _ rfl (fun gB hw1=>?_);by_cases h:l.length < 1
 ·have hp:Qj l=.error 9:=by rw [Qj,if_pos h]
  repeat' (first|refine zo 2 3 rfl rfl rfl ?_|refine zD ([]) zi rfl rfl rfl tH (yu rfl 9) ?_|(refine shC ?_;first|refine zy rfl (zJ rfl rfl (zbz l 1 (.inr zwy62))) rfl rfl ?_|refine zq rfl (zJ rfl rfl (zbz l 1 (.inr zwy62))) rfl rfl ?_)|refine sK ?_|refine sC (fun _=>?_) (fun _=>?_)|fail)
  exact zF hp
 ·have hp:Qj l=.ok ((l.drop (l.length - 1)).headD default,l.take (l.length - 1)):=by rw [Qj,if_neg h]
  have hd:(l.drop (l.length - 1)).length=1:=by simp;omega
  obtain ⟨t,ht⟩:=List.length_eq_one_iff.1 hd;rw [ht] at hp;have cp:=zl6 l 1 hl zwy62 zwy62;rw [show (1:Int).toNat=1 from rfl,ht] at cp
  repeat' (first|(refine shC ?_;first|refine qC cp ?_|refine qC (zH rfl 0) ?_)|(refine shX ?_;first|refine zy rfl (zk zf rfl rfl rfl rfl rfl rfl zwy69 rfl) rfl rfl ?_|refine zq rfl (zk zf rfl rfl rfl rfl rfl rfl zwy69 rfl) rfl rfl ?_)|refine sK ?_|refine sC (fun _=>?_) (fun _=>?_)|fail)
  exact yc hp (zla rfl tH)
set_option maxHeartbeats 20000000
theorem YE (l:List Ty):Qj l=.error 9\/∃ t l',Qj l=.ok (t,l')/\l=l'++[t]:=by
 by_cases h:l.length < 1
 ·exact .inl (by rw [Qj,if_pos h])
 ·refine .inr ?_;have hd:(l.drop (l.length - 1)).length=1:=by simp;omega
  obtain ⟨t,ht⟩:=List.length_eq_one_iff.1 hd;refine ⟨t,l.take (l.length - 1),by rw [Qj,if_neg h,ht];rfl,?_⟩;rw [<-ht,List.take_append_drop]
theorem zja {l l':List Ty} {t:Ty} (h:Qj l=.ok (t,l')):l.length=l'.length + 1:=by
 rcases YE l with e|⟨t2,l2,e,e2⟩
 ·rw [e] at h;cases h
 ·rw [e] at h;cases h;rw [e2];simp
theorem zkI (sz:Nat) (es:List PV) (f:Bool):PTells (.slc sz es f) (.slc sz es false):=fun K w v h=>by
 cases h with
 | nil=>exact .nil sz false
 | emp _ _ a=>exact .emp sz false a
 | slc _ _ _ b o cap vss h0 h1 h2 h3 h4 h5 h6=>exact .slc sz es false b o cap vss h0 h1 zwy63 h3 h4 h5 h6
theorem ACall.tells {P:Program} {f:FuncId} {args args':List PV} {r:PV} (h:ACall P f args r) (ht:PTL args' args):ACall P f args' r :=
 ⟨h.stands,fun K w vs hl hv=>h.calls K w vs hl ⟨by rw [hv.1,ht.1],fun k c v hc hvv=>by
  have hlt:k < args'.length:=by rw [ht.1];exact (List.getElem?_eq_some_iff.1 hc).1
  exact ht.2 k _ c (List.getElem?_eq_getElem hlt) hc _ _ _ (hv.2 k _ v (List.getElem?_eq_getElem hlt) hvv)⟩⟩
abbrev tsV (ts:List Ty):AV:=.pv (.slc 4 (ts.map yJ) true)
theorem zX (c:RC) (ts l:List Ty) (hl:l.length<=200) (ht:ts.length<=200):XC 168 [tsV ts] c (qg c.m.max ts) uV l:=by
 intro u;refine zI zf Tryz.func168 rfl zws Tryz.ntmps168 zwy63 _ rfl (fun gB hw1=>?_);have htl:PTL [tys l,pi c.m.max,.slc 4 (ts.map yJ) true] [tys l,pi c.m.max,tys ts]:=qo (.refl _) (qo (.refl _) (qo (zkI _ _ _) zbr));by_cases h:((l.length:Int) + (ts.length:Int))<=c.m.max
 ·have hp:qg c.m.max ts l=.ok ((),l++ts):=by rw [qg,if_pos h]
  have cp:=(zqP l ts c.m.max hl ht h).tells htl
  repeat' (first|(refine shC ?_;first|refine qC cp ?_|refine qC (zH rfl 0) ?_)|refine sK ?_|refine sC (fun _=>?_) (fun _=>?_)|fail)
  exact yc hp (yE (.inl rfl) tH)
 ·have hp:qg c.m.max ts l=.error 9:=by rw [qg,if_neg h]
  have cp:=(zky l ts c.m.max hl ht zwy62).tells htl
  repeat' (first|refine zo 1 3 rfl rfl rfl ?_|refine zD ([]) zi rfl rfl rfl tH (yu rfl 9) ?_|(refine shC ?_;first|refine qC cp ?_)|refine sK ?_|refine sC (fun _=>?_) (fun _=>?_)|fail)
  exact zF hp
theorem zuL {K:KK} {w:World} {sz:Nat} {es:List PV} {f:Bool} {v:Value} (h:PRel K w (.slc sz es f) v):v.cells=#[v]/\v.oneCell'=true:=by
 cases h <;> exact ⟨rfl,rfl⟩
theorem zmP (c:RC) (l:List Ty):Tells (.agg ((yt c.g++(zhw c.m++(tys c.ar::(zc1 c.x++[tys l])))).map .pv)) (.agg ((yt c.g++(zhw c.m++(tys c.ar::zc1 c.x))).map .pv++[.any1])):=fun K w ρ H v h=>by
 cases h with
 | agg _ vs h1 h2 h3 =>
  refine .agg _ vs zwy98 h2 fun k a v ha hv=>?_
  have hk:k < 24:=by have:=(List.getElem?_eq_some_iff.1 ha).1;simpa using this
  by_cases h23:k=23
  ·subst h23;have:=h3 23 (.pv (tys l)) v rfl hv;have e:a=.any1:=by simpa using ha.symm
   subst e;cases this with
   | pv _ _ hp =>
    obtain ⟨q1,q2⟩:=zuL hp;exact .any1 _ q1 q2
  ·have e:((yt c.g++(zhw c.m++(tys c.ar::(zc1 c.x++[tys l])))).map AV.pv)[k]?=some a:=by
    rw [<-ha,show yt c.g++(zhw c.m++(tys c.ar::(zc1 c.x++[tys l])))=(yt c.g++(zhw c.m++(tys c.ar::zc1 c.x)))++[tys l] by simp,List.map_append,List.getElem?_append_left zwy64,List.getElem?_append_left zwy64]
   exact h3 k a v e hv
section
variable {P:Program} {n:Nat} {g:Base} {H:HEnv} {env:Env} {ops:List Oper}
theorem YA {QQ:QC} {id:Nat} (L k jc:Nat) (R:HEnv) (c:RC) (l l':List Ty) {oc:Oper} {tc:Nat} (rc:AV) (pan:Option Value) (hL:ops.length=L) (hok:XY ops k=true) (hm:P.follows .mixedOrders=true) (hB:Qo (zS k ops 0) ((zS k ops 0).take k)=true) (hT:Wp (zS k ops 0) k=true) (hk:Nat.ble k (zS k ops 0).length=true)
  (hsp:(zS k ops 0).take k=(zS k ops 0).take jc++oc::((zS k ops 0).take k).drop (jc + 1)) (hjl:Nat.ble jc (zS k ops 0).length=true) (hd:oc.dst=some tc) (htc:Nat.blt tc n=true)
  (hH:QM H ((0,Wy c l)::R) env) (hke:Xm ((0,zad c)::R) env=true) (hkk:qM ((0,zad c)::R) ((0,Wy c l')::R)=true)
  (hp:∀ v,pan=some v->QQ (.panic [{ v:=v,recovered:=false }]) [] [])
  (h:AD P n g ((0,zad c)::R) (zS k ops 0) (fun env1=>(guardE (zS k ops 0) env1 oc=some true/\EStep P g ((0,Wy c l)::R) ((0,Wy c l')::R) ((0,zad c)::R) oc env1 rc pan)/\AD P n g ((0,zad c)::R) (zS k ops 0) (fun env'=>pan=none->AOX P n g (zS k ops 0).toArray ((zS k ops 0).drop k) env' ((0,Wy c l')::R) QQ) (((zS k ops 0).take k).drop (jc + 1)) ((tc,rc)::env1)) ((zS k ops 0).take jc) env)
  (hnd:Zr ops=true:=by kernel_rfl) (hr:ZX ((0,zad c)::R) rc=true:=by rfl):AW P n g (.region id ops.toArray true) env H QQ :=
 znG L k jc ((0,Wy c l)::R) ((0,Wy c l')::R) ((0,zad c)::R) rc pan hL hok hm hB hT hk hsp hjl hd htc (fun _ _ _ hf=>zhI hf (zmP c l)) (fun _ _ _ hf=>zhI hf (zmP c l')) hkk hH hke hr hp h hnd
end
theorem za1 {α:Type} {g:Base} {f:FuncId} {args:List AV} {R:HEnv} {c:RC} {act:SM α} {val:α->AV} {l l':List Ty} {a:α} {o:Oper} {e:Env} {xs:Array Operand} {ts:Array TypeId} (h:XC f args c act val l) (he:act l=.ok (a,l'))
  (hop:o.op=.call { callee:=.value (.func f),args:=xs,argTypes:=ts }) (hargs:avs e xs.toList=some (.box 0 0::args)) (hk:qM ((0,zad c)::R) ((0,Wy c l)::R)=true) (hk2:qM ((0,zad c)::R) (R++VQ [0])=true) (hr:ZX ((0,zad c)::R) (val a)=true) (hchk:XU [(0,Wy c l)] [(0,Wy c l')] R [0] (.box 0 0::args) [] (val a)=true) :
  EStep Tryz.prog g ((0,Wy c l)::R) ((0,Wy c l')::R) ((0,zad c)::R) o e (val a) none :=
 zmK [(0,Wy c l)] [(0,Wy c l')] R [0] zi hop hargs (fun _ _ h=>h) hk hk2 hr hchk (h.ok he)
theorem zgj {α:Type} {g:Base} {f:FuncId} {args:List AV} {u:Value} {R:HEnv} {c:RC} {act:SM α} {val:α->AV} {l:List Ty} {H1:HEnv} {er:Int} {r:AV} {o:Oper} {e:Env} {xs:Array Operand} {ts:Array TypeId} (h:XC f args c act val l) (he:act l=.error er)
  (hop:o.op=.call { callee:=.value (.func f),args:=xs,argTypes:=ts }) (hargs:avs e xs.toList=some (.box 0 0::args)) (hfit:QM ((0,Wy c l)::R) (yS u c l) []) (hin:QW (yS u c l) (.box 0 0::args)=true) :
  EStep Tryz.prog g ((0,Wy c l)::R) H1 ((0,zad c)::R) o e r (some (flt er)) :=
 zrA (yS u c l) zi hop hargs hfit hin (h.bad he u)
theorem zwk53 {G:Prop} (h:G:=by repeat' (first|refine YA 9 8 5 (zhs u) c l l' (tV x) none rfl zws zws zws zws zws rfl zws rfl rfl tH rfl rfl (fun v hv=>by cases hv) ?_|refine ⟨⟨rfl,za1 cp hp rfl rfl rfl rfl rfl rfl⟩,?_⟩|refine zy rfl (aj (ps:=(yt c.g))) rfl rfl ?_|refine zq rfl (aj (ps:=(yt c.g))) rfl rfl ?_|intro _|(have:=b0;refine zD [] zi rfl rfl rfl tH (yu hf 10) ?_)|(have:=b1;refine Vy ?_)|(refine shC ?_;first|refine qC cf ?_|(have:=b1;refine qC (zH hf 10) ?_))|refine sK ?_|refine sC (fun _=>?_) (fun _=>?_)|exact zF hw|exact yc hw (yE (.inl rfl) tH)|fail)):G:=h
theorem qx (c:RC) (hF:Fm c.g) (t:Ty) (l:List Ty) (hl:l.length<=200):XC 169 [tV t] c (YG c.g t) uV l:=by
 intro u;refine zI zf Tryz.func169 rfl zws Tryz.ntmps169 zwy63 _ rfl (fun gB hw1=>?_);have cp:=yx c l zwy62;rcases YE l with hp|⟨x,l',hp,_⟩
 ·have hw:YG c.g t l=.error 9:=zfW hp
  repeat' (first|refine YA 9 8 5 (zhs u) c l l (tV t) (some (flt 9)) rfl zws zws zws zws zws rfl zws rfl rfl tH rfl rfl (fun v hv=>by cases hv;exact zF hw) ?_|refine ⟨⟨rfl,zgj (u:=u) cp hp rfl rfl tH rfl⟩,?_⟩|refine zy rfl (aj (ps:=(yt c.g))) rfl rfl ?_|refine zq rfl (aj (ps:=(yt c.g))) rfl rfl ?_|(intro h;cases h)|(refine shC ?_;first|refine qC (Wu c.g t t hF) ?_)|refine sK ?_|refine sC (fun _=>?_) (fun _=>?_)|fail)
 ·have cf:=Wu c.g x t hF;cases hf:zaa c.g x t
  ·have hw:YG c.g t l=.error 10:=by simp [YG,zA,hp,zO,hf]
   have b0:=();exact zwk53
  ·have hw:YG c.g t l=.ok ((),l'):=by simp [YG,zA,hp,zO,hf]
   have b1:=();exact zwk53
set_option maxHeartbeats 20000000
theorem zwk54 {G:Prop} (h:G:=by repeat' (first|(have:=b0;refine zo 1 1 rfl rfl rfl ?_)|(have:=b0;refine zD ((yS u c l)) zi rfl rfl rfl tH (c1.bad hp u) ?_)|(have:=b1;refine zo 1 3 rfl rfl rfl ?_)|(have:=b1;refine zD ((yS u c l1)) zi rfl rfl rfl tH (c2.bad hp2 u) ?_)|(have:=b1;refine zu ?_;first|(refine ay 0 (c1.ok hp) ?_))|(have:=b2;refine zo 2 7 rfl rfl rfl ?_)|(have:=b2;refine zD ([]) zi rfl rfl rfl tH (yu rfl 10) ?_)|(refine shC ?_;first|(have:=b3;refine qC cn ?_)|(have:=b4;refine qC (zH rfl 10) ?_))|(have:=b5;refine zu ?_;first|(refine ay 0 (c1.ok hp) ?_)|(refine ay 0 (c2.ok hp2) ?_))|refine sK ?_|refine sC (fun _=>?_) (fun _=>?_)|exact zF hw|exact yc hw (zla rfl tH)|fail)):G:=h
theorem YS (c:RC) (l:List Ty) (hl:l.length<=1000):XC 171 [] c ZJ tV l:=by
 intro u;refine zI zf Tryz.func171 rfl zws Tryz.ntmps171 zwy63 _ rfl (fun gB hw1=>?_);have c1:=yx c l hl;rcases YE l with hp|⟨b,l1,hp,e1⟩
 ·have hw:ZJ l=.error 9:=zfW hp;have b0:=();exact zwk54
 ·have hl1:l1.length<=1000:=by have:=zja hp;omega
  have c2:=yx c l1 hl1;rcases YE l1 with hp2|⟨a,l2,hp2,e2⟩
  ·have hw:ZJ l=.error 9:=by simp [ZJ,zA,hp,hp2]
   have b1:=();exact zwk54
  ·have cn:=zcc a;cases hab:tyB a b
   ·have hab':(a.kind==b.kind&&(a.index==b.index&&(a.dims==b.dims&&(a.ref==b.ref&&true))))=false:=hab;have hw:ZJ l=.error 10:=by simp [ZJ,zA,hp,hp2,zO,hab]
    have b2:=();have b5:=();exact zwk54
   ·have hab':(a.kind==b.kind&&(a.index==b.index&&(a.dims==b.dims&&(a.ref==b.ref&&true))))=true:=hab;cases hn:nuT a
    ·rw [hn] at cn;have hw:ZJ l=.error 10:=by simp [ZJ,zA,hp,hp2,zO,hab,hn]
     have b2:=();have b3:=();have b5:=();exact zwk54
    ·rw [hn] at cn;have hw:ZJ l=.ok (a,l2):=by simp [ZJ,zA,zG,hp,hp2,zO,hab,hn]
     have b3:=();have b4:=();have b5:=();exact zwk54
theorem zwk55 {G:Prop} (h:G:=by repeat' (first|(have:=b0;refine zo 1 1 rfl rfl rfl ?_)|(have:=b0;refine zD ((yS u c l)) zi rfl rfl rfl tH (c1.bad hp u) ?_)|(have:=b1;refine zo 2 2 rfl rfl rfl ?_)|(have:=b1;refine zD ([]) zi rfl rfl rfl tH (yu hn 10) ?_)|(refine shC ?_;first|(have:=b2;refine qC cn ?_)|(have:=b3;refine qC (zH hn 10) ?_))|(have:=b2;refine zu ?_;first|(refine ay 0 (c1.ok hp) ?_))|refine sK ?_|refine sC (fun _=>?_) (fun _=>?_)|exact zF hw|exact yc hw (zla rfl tH)|fail)):G:=h
theorem YP (c:RC) (l:List Ty) (hl:l.length<=1000):XC 173 [] c zdu tV l:=by
 intro u;refine zI zf Tryz.func173 rfl zws Tryz.ntmps173 zwy63 _ rfl (fun gB hw1=>?_);have c1:=yx c l hl;rcases YE l with hp|⟨t,l1,hp,e1⟩
 ·have hw:zdu l=.error 9:=zfW hp;have b0:=();exact zwk55
 ·have cn:=zcc t;cases hn:nuT t
  ·have hw:zdu l=.error 10:=by simp [zdu,zA,hp,zO,hn]
   have b1:=();have b2:=();exact zwk55
  ·have hw:zdu l=.ok (t,l1):=by simp [zdu,zA,zG,hp,zO,hn]
   have b2:=();have b3:=();exact zwk55
theorem zwk56 {G:Prop} (h:G:=by repeat' (first|(have:=b0;refine zo 0 1 rfl rfl rfl ?_)|(have:=b0;refine zD ((yS u c l)) zi rfl rfl rfl tH (c1.bad hp u) ?_)|(have:=b1;refine zo 0 3 rfl rfl rfl ?_)|(have:=b1;refine zD ((yS u c l1)) zi rfl rfl rfl tH (c2.bad hp2 u) ?_)|(have:=b1;refine zu ?_;first|(refine ay 0 (c1.ok hp) ?_))|(have:=b2;refine zo 1 15 rfl rfl rfl ?_)|(have:=b2;refine zD ([]) zi rfl rfl rfl tH (yu rfl 10) ?_)|(refine shC ?_;first|(have:=b3;refine qC cn ?_)|(have:=b4;refine qC co ?_)|(have:=b5;refine qC co2 ?_)|(have:=b6;refine qC (zH rfl 10) ?_))|(have:=b7;refine zu ?_;first|(refine ay 0 (c1.ok hp) ?_)|(refine ay 0 (c2.ok hp2) ?_))|refine sK ?_|refine sC (fun _=>?_) (fun _=>?_)|exact zF hw|exact yc hw (yE (.inl rfl) tH)|fail)):G:=h
theorem VZ (c:RC) (l:List Ty) (hl:l.length<=1000):XC 174 [] c Zy uV l:=by
 intro u;refine zI zf Tryz.func174 rfl zws Tryz.ntmps174 zwy63 _ rfl (fun gB hw1=>?_);have c1:=yx c l hl;rcases YE l with hp|⟨b,l1,hp,e1⟩
 ·have hw:Zy l=.error 9:=zfW hp;have b0:=();exact zwk56
 ·have hl1:l1.length<=1000:=by have:=zja hp;omega
  have c2:=yx c l1 hl1;rcases YE l1 with hp2|⟨a,l2,hp2,e2⟩
  ·have hw:Zy l=.error 9:=by simp [Zy,zA,hp,hp2]
   have b1:=();exact zwk56
  ·have cn:=zcc a;have co:=qY a;have co2:=qY b;cases hab:tyB a b
   ·have hab':(a.kind==b.kind&&(a.index==b.index&&(a.dims==b.dims&&(a.ref==b.ref&&true))))=false:=hab;cases ho:object a
    ·rw [ho] at co;have hw:Zy l=.error 10:=by simp [Zy,zA,hp,hp2,zO,hab,ho]
     have b2:=();have b4:=();have b7:=();exact zwk56
    ·rw [ho] at co;cases ho2:object b
     ·rw [ho2] at co2;have hw:Zy l=.error 10:=by simp [Zy,zA,hp,hp2,zO,hab,ho,ho2]
      have b2:=();have b4:=();have b5:=();have b7:=();exact zwk56
     ·rw [ho2] at co2;have hw:Zy l=.ok ((),l2):=by simp [Zy,zA,hp,hp2,zO,hab,ho,ho2]
      have b4:=();have b5:=();have b6:=();have b7:=();exact zwk56
   ·have hab':(a.kind==b.kind&&(a.index==b.index&&(a.dims==b.dims&&(a.ref==b.ref&&true))))=true:=hab;cases hn:nuT a
    ·rw [hn] at cn;cases ho:object a
     ·rw [ho] at co;have hw:Zy l=.error 10:=by simp [Zy,zA,hp,hp2,zO,hab,hn,ho]
      have b2:=();have b3:=();have b4:=();have b7:=();exact zwk56
     ·rw [ho] at co;cases ho2:object b
      ·rw [ho2] at co2;have hw:Zy l=.error 10:=by simp [Zy,zA,hp,hp2,zO,hab,hn,ho,ho2]
       have b2:=();have b3:=();have b4:=();have b5:=();have b7:=();exact zwk56
      ·rw [ho2] at co2;have hw:Zy l=.ok ((),l2):=by simp [Zy,zA,hp,hp2,zO,hab,hn,ho,ho2]
       have b3:=();have b4:=();have b5:=();have b6:=();have b7:=();exact zwk56
    ·rw [hn] at cn;have hw:Zy l=.ok ((),l2):=by simp [Zy,zA,hp,hp2,zO,hab,hn]
     have b3:=();have b6:=();have b7:=();exact zwk56
theorem zwk57 {G:Prop} (h:G:=by repeat' (first|(have:=b0;refine zo 1 3 rfl rfl rfl ?_)|(have:=b0;refine zD ([]) zi rfl rfl rfl tH (yu rfl 9) ?_)|(have:=b1;refine zo 2 7 rfl rfl rfl ?_)|(have:=b1;refine zD ([]) zi rfl rfl rfl tH (yu hf 10) ?_)|(have:=b2;refine zy rfl (aj (ps:=(yt c.g))) rfl rfl ?_)|(have:=b2;refine zq rfl (aj (ps:=(yt c.g))) rfl rfl ?_)|(refine shC ?_;first|(have:=b0;refine zy rfl (zJ rfl rfl (zbz l ((ls.map yJ).length:Int) (.inr zwy64))) rfl rfl ?_)|(have:=b0;refine zq rfl (zJ rfl rfl (zbz l ((ls.map yJ).length:Int) (.inr zwy64))) rfl rfl ?_)|(have:=b2;refine qC cp ?_)|(have:=b2;refine qC (zH rfl 0) ?_)|(have:=b3;refine qC (zH hf 10) ?_)|(have:=b2;refine qC cf ?_))|refine sK ?_|refine sC (fun _=>?_) (fun _=>?_)|exact zF hw|exact yc hw (yE (.inl rfl) tH)|fail)):G:=h
theorem Qc (c:RC) (hF:Fm c.g) (ls l:List Ty) (hl:l.length<=1000):XC 181 [.pv (tys ls)] c (ZG c.g ls) uV l:=by
 intro u;refine zI zf Tryz.func181 rfl zws Tryz.ntmps181 zwy63 _ rfl (fun gB hw1=>?_);by_cases h:l.length < ls.length
 ·have hw:ZG c.g ls l=.error 9:=by rw [ZG,if_pos h]
  have b0:=();exact zwk57
 ·have cp:=zl6 l ((ls.map yJ).length:Int) hl zwy62 zwy64;rw [show (((ls.map yJ).length:Nat):Int).toNat=ls.length by simp] at cp;have cf:=zh0 c.g (l.drop (l.length - ls.length)) ls hF;cases hf:zcx c.g (l.drop (l.length - ls.length)) ls
  ·have hw:ZG c.g ls l=.error 10:=by rw [ZG,if_neg h,hf];rfl
   have b1:=();have b2:=();exact zwk57
  ·have hw:ZG c.g ls l=.ok ((),l.take (l.length - ls.length)):=by rw [ZG,if_neg h,hf];rfl
   have b2:=();have b3:=();exact zwk57
theorem Zv (c:RC) (ls l:List Ty) (h0:0<=c.x.arg):XC 167 [.pv (tys ls)] c (zbc c.x ls) tV l:=by
 intro u;refine zI zf Tryz.func167 rfl zws Tryz.ntmps167 zwy63 _ rfl (fun gB hw1=>?_);by_cases h:c.x.arg < ls.length
 ·have hw:zbc c.x ls l=.ok (ls.getD c.x.arg.toNat default,l):=by simp [zbc,zA,zG,zO,h]
  have hlt:c.x.arg.toNat < ls.length:=by omega
  have he:(ls.map yJ)[c.x.arg.toNat]?=some (yJ (ls.getD c.x.arg.toNat default)):=by rw [zQ hlt];exact zT hlt
  repeat' (first|(refine shC ?_;first|refine zy rfl (zJ rfl rfl (zH zwy64 3)) rfl rfl ?_|refine zq rfl (zJ rfl rfl (zH zwy64 3)) rfl rfl ?_)|(refine shX ?_;first|refine zy rfl (ah h0 he) rfl rfl ?_|refine zq rfl (ah h0 he) rfl rfl ?_)|refine sK ?_|refine sC (fun _=>?_) (fun _=>?_)|fail)
  exact yc hw (zla rfl tH)
 ·have hw:zbc c.x ls l=.error 3:=by simp [zbc,zA,zO,h]
  repeat' (first|refine zo 1 8 rfl rfl rfl ?_|refine zD ([]) zi rfl rfl rfl tH (yu zwy64 3) ?_|refine sK ?_|refine sC (fun _=>?_) (fun _=>?_)|fail)
  exact zF hw
theorem zwk58 {G:Prop} (h:G:=by repeat' (first|(have:=b0;refine zo 2 4 rfl rfl rfl ?_)|(have:=b0;refine zD ((yS u c l)) zi rfl rfl rfl tH (cp.bad hp u) ?_)|(refine shC ?_;first|(have:=b1;refine zy rfl (zJ rfl rfl (zH zwy94 13)) rfl rfl ?_)|(have:=b1;refine zq rfl (zJ rfl rfl (zH zwy94 13)) rfl rfl ?_)|(have:=b1;refine qC cr ?_))|(have:=b2;refine zu ?_;first|(refine ay 0 (cp.ok hp) ?_))|(have:=b3;refine zo 1 3 rfl rfl rfl ?_)|(have:=b3;refine zD ([]) zi rfl rfl rfl tH (yu zwy94 13) ?_)|refine sK ?_|refine sC (fun _=>?_) (fun _=>?_)|exact zF hw|exact yc hw (yE (.inl rfl) tH)|fail)):G:=h
theorem zaD (c:RC) (t:Ty) (l:List Ty) (hl:l.length<=200):XC 170 [tV t] c (QN c.m.max t) uV l:=by
 intro u;refine zI zf Tryz.func170 rfl zws Tryz.ntmps170 zwy63 _ rfl (fun gB hw1=>?_);have cr:=Yl t;have cp:=zX c [rfT t] l hl zwy63;cases h:t.ref
 ·cases hp:qg c.m.max [rfT t] l with
  | error e =>
   have hw:QN c.m.max t l=.error e:=by simp [QN,zA,zO,h,hp]
   have b0:=();have b1:=();exact zwk58
  | ok p =>
   obtain ⟨⟨⟩,l'⟩:=p;have hw:QN c.m.max t l=.ok ((),l'):=by simp [QN,zA,zO,h,hp]
   have b1:=();have b2:=();exact zwk58
 ·have hw:QN c.m.max t l=.error 13:=by simp [QN,zA,zO,h]
  have b3:=();exact zwk58
theorem zwk59 {G:Prop} (h:G:=by repeat' (first|(have:=b0;refine zo 2 4 rfl rfl rfl ?_)|(have:=b0;refine zD ((yS u c l)) zi rfl rfl rfl tH (cp.bad hp u) ?_)|(have:=b1;refine zu ?_;first|(refine ay 0 (cp.ok hp) ?_))|refine sK ?_|refine sC (fun _=>?_) (fun _=>?_)|exact yc hw (yE (.inl rfl) tH)|exact zF hw|fail)):G:=h
theorem zbF (c:RC) (d:Me) (l:List Ty) (hl:l.length<=200):XC 182 [.pv (zY d)] c (YW c.m.max d) uV l:=by
 intro u;refine zI zf Tryz.func182 rfl zws Tryz.ntmps182 zwy63 _ rfl (fun gB hw1=>?_);have cp:=zX c [d.ret] l hl zwy63;cases h:(d.ret.kind != 1)
 ·have hw:YW c.m.max d l=.ok ((),l):=by simp [YW,h,zG]
  exact zwk59
 ·cases hp:qg c.m.max [d.ret] l with
  | error e =>
   have hw:YW c.m.max d l=.error e:=by simp [YW,h,hp]
   have b0:=();exact zwk59
  | ok p =>
   obtain ⟨⟨⟩,l'⟩:=p;have hw:YW c.m.max d l=.ok ((),l'):=by simp [YW,h,hp]
   have b1:=();exact zwk59
theorem zux {tb:Tab} {u:Value} {c:RC} {l:List Ty} {t:Ty} {p:PV} {rs:List ResultVar} {env:Env} {H:HEnv} (hr:zar tb H env rs=some [p]) (e:p=yJ t) (h:QM H (yS u c l) []):zi3 tb rs (tV t) (yS u c l) .ret env H:=⟨.inr rfl,.inl ⟨_,hr,by rw [e];rfl,h⟩⟩
theorem zwk60 {G:Prop} (h:G:=by repeat' (first|refine zy rfl (aj (ps:=(yU c.x.t))) rfl rfl ?_|refine zq rfl (aj (ps:=(yU c.x.t))) rfl rfl ?_|(refine shC ?_;first|(have:=b0;refine zy rfl (zJ rfl rfl (zH (by rw [hwr];simpa using h) 6)) rfl rfl ?_)|(have:=b0;refine zq rfl (zJ rfl rfl (zH (by rw [hwr];simpa using h) 6)) rfl rfl ?_))|(have:=b1;refine zo 3 3 rfl rfl rfl ?_)|(have:=b1;refine zD ([]) zi rfl rfl rfl tH (yu (by rw [hwr];simpa using h) 6) ?_)|refine sK ?_|refine sC (fun _=>?_) (fun _=>?_)|(have:=b0;exact yc hw (zux rfl (by simp only [yJ];congr 1;simp [hwr,AV.flat]) tH))|exact zF hw|fail)):G:=h
theorem ZA (c:RC) (l:List Ty) (h0:0<=c.x.t.dims) (h1:c.x.t.dims<=100):XC 185 [] c (Vg c.x) tV l:=by
 intro u;refine zI zf Tryz.func185 rfl zws Tryz.ntmps185 zwy63 _ rfl (fun gB hw1=>?_);have hwr:IntKind.i64.wrap (c.x.t.dims + 1)=c.x.t.dims + 1:=wrap_in zwy62 zwy62;by_cases h:c.x.t.dims + 1<=3
 ·have hw:Vg c.x l=.ok (⟨c.x.t.kind,c.x.t.index,c.x.t.dims + 1,c.x.t.ref⟩,l):=by simp [Vg,zA,zG,zO,h]
  have b0:=();exact zwk60
 ·have hw:Vg c.x l=.error 6:=by simp [Vg,zA,zO,h]
  have b1:=();exact zwk60
set_option maxHeartbeats 20000000
theorem zvT {tb:Tab} {u:Value} {c:RC} {l:List Ty} {d:Me} {rs:List ResultVar} {env:Env} {H:HEnv} (hr:zar tb H env rs=some [zY d]) (h:QM H (yS u c l) []):zi3 tb rs (.pv (zY d)) (yS u c l) .ret env H:=⟨.inr rfl,.inl ⟨_,hr,rfl,h⟩⟩
theorem zbw (c:RC) (l:List Ty) (h0:0<=c.x.arg) (h1:c.x.arg.toNat < c.g.methods.length):XC 179 [] c (pure (mAt c.g c.x.arg):SM Me) (fun d=>.pv (zY d)) l:=by
 intro u;refine zI zf Tryz.func179 rfl zws Tryz.ntmps179 zwy63 _ rfl (fun gB hw1=>?_);have he:(c.g.methods.map zY)[c.x.arg.toNat]?=some (zY (mAt c.g c.x.arg)):=by rw [mAt,zQ h1];exact zT h1
 repeat' (first|refine zZ 13 12 rfl zws zws zws zws zws ?_|(refine shX ?_;first|refine zy rfl (ah h0 he) rfl rfl ?_|refine zq rfl (ah h0 he) rfl rfl ?_)|refine sK ?_|refine sC (fun _=>?_) (fun _=>?_)|fail)
 exact yc (val:=fun d=>.pv (zY d)) (act:=(pure (mAt c.g c.x.arg):SM Me)) (a:=mAt c.g c.x.arg) (l':=l) rfl (zvT (d:=mAt c.g c.x.arg) (c:=c) (l:=l) rfl tH)
abbrev zwP (o:Int):Ty:=⟨5,o,0,false⟩
abbrev zwl (o:Int):Ty:=⟨6,o,0,false⟩
theorem zwk61 {G:Prop} (h:G:=by repeat' (first|(have:=b0;refine zo 1 1 rfl rfl rfl ?_)|(have:=b0;refine zD ((yS u c l)) zi rfl rfl rfl tH (c1.bad hp u) ?_)|(have:=b1;refine zy rfl (aj (ps:=(yt c.g))) rfl rfl ?_)|(have:=b1;refine zq rfl (aj (ps:=(yt c.g))) rfl rfl ?_)|(have:=b2;refine yZ 13 12 rfl zws zws zws zws zws ?_)|(have:=b3;refine zD ([]) zi rfl rfl rfl tH (yu rfl 10) ?_)|(have:=b4;refine zD ([]) zi rfl rfl rfl tH (yu hb 10) ?_)|(have:=b5;refine yZ 10 9 rfl zws zws zws zws zws ?_)|(have:=b5;refine zD ([]) zi rfl rfl rfl tH (yu hf 10) ?_)|(refine shC ?_;first|(have:=b1;refine qC ck ?_)|(have:=b6;refine qC cr ?_)|(have:=b7;refine qC (zH hb 10) ?_)|(have:=b8;refine qC (zH rfl 10) ?_)|(have:=b9;refine qC cf ?_)|(have:=b10;refine qC (zH hf 10) ?_))|(have:=b1;refine zu ?_;first|(refine ay 0 (c1.ok hp) ?_))|refine sK ?_|refine sC (fun _=>?_) (fun _=>?_)|exact zF hw|exact yc hw (yE (.inr rfl) tH)|exact yc hw (yE (.inl rfl) tH)|fail)):G:=h
theorem Qw (c:RC) (hF:Fm c.g) (f:Fd) (it:Bool) (l:List Ty) (hl:l.length<=1000):XC 183 [.pv (ZI f),.pv (pb it)] c (Zt c.g f it) uV l:=by
 intro u;refine zI zf Tryz.func183 rfl zws Tryz.ntmps183 zwy63 _ rfl (fun gB hw1=>?_);have c1:=yx c l hl;rcases YE l with hp|⟨t,l1,hp,e1⟩
 ·have hw:Zt c.g f it l=.error 9:=zfW hp;have b0:=();exact zwk61
 ·have ck:=QD c.g f.owner;by_cases hk:Yb c.g f.owner=1
  ·rw [hk] at ck;have cr:=Yl (zwl f.owner);cases ha:tyB t (rfT (zwl f.owner))
   ·have ha':(t.kind==6&&(t.index==f.owner&&(t.dims==0&&(t.ref==true&&true))))=false:=ha;cases it
    ·have hw:Zt c.g f false l=.error 10:=by simp [Zt,zA,hp,zO,hk,ha]
     have b1:=();have b2:=();have b3:=();have b6:=();exact zwk61
    ·cases hb:tyB t (zwl f.owner)
     ·have hb':(t.kind==6&&(t.index==f.owner&&(t.dims==0&&(t.ref==false&&true))))=false:=hb;have hw:Zt c.g f true l=.error 10:=by simp [Zt,zA,hp,zO,hk,ha,hb]
      have b1:=();have b2:=();have b4:=();have b6:=();exact zwk61
     ·have hb':(t.kind==6&&(t.index==f.owner&&(t.dims==0&&(t.ref==false&&true))))=true:=hb;have hw:Zt c.g f true l=.ok ((),l1):=by simp [Zt,zA,hp,zO,hk,ha,hb]
      have b1:=();have b6:=();have b7:=();exact zwk61
   ·have ha':(t.kind==6&&(t.index==f.owner&&(t.dims==0&&(t.ref==true&&true))))=true:=ha;have hw:Zt c.g f it l=.ok ((),l1):=by simp [Zt,zA,hp,zO,hk,ha]
    have b1:=();have b6:=();have b8:=();exact zwk61
  ·have hk':(Yb c.g f.owner==1)=false:=beq_eq_false_iff_ne.2 hk;have cf:=Wu c.g t (zwP f.owner) hF;cases hf:zaa c.g t (zwP f.owner)
   ·have hw:Zt c.g f it l=.error 10:=by simp [Zt,zA,hp,zO,hk,hf]
    have b1:=();have b5:=();have b9:=();exact zwk61
   ·have hw:Zt c.g f it l=.ok ((),l1):=by simp [Zt,zA,hp,zO,hk,hf]
    have b1:=();have b9:=();have b10:=();exact zwk61
def LeS {α:Type} (act:SM α):Prop:=∀ l a l',act l=.ok (a,l')->l'.length<=l.length
theorem WW {α β:Type} {x:SM α} {f:α->SM β} (hx:LeS x) (hf:∀ a,LeS (f a)):LeS (x >>= f):=fun l b l' h=>by
 rw [zA] at h;cases hxl:x l with
 | error e=>rw [hxl] at h;cases h
 | ok p =>
  obtain ⟨a,l1⟩:=p;rw [hxl] at h;exact Nat.le_trans (hf a l1 b l' h) (hx l a l1 hxl)
theorem zcr {α:Type} (a:α):LeS (pure a:SM α):=fun l b l' h=>by rw [zG] at h;cases h;exact Nat.le_refl _
theorem VF (b:Bool) (e:Int):LeS (zO b e):=fun l a l' h=>by
 unfold zO at h;split at h
 ·cases h;exact Nat.le_refl _
 ·cases h
theorem empty_le (e:Int):LeS (emptyS e):=fun l a l' h=>by
 unfold emptyS at h;split at h
 ·cases h;exact Nat.le_refl _
 ·cases h
theorem zbT:LeS Qj:=fun l a l' h=>by have:=zja h;omega
theorem zlB (g:Img) (t:Ty):LeS (YG g t):=WW zbT fun _=>VF _ _
theorem ziT (g:Img) (ls:List Ty):LeS (ZG g ls):=fun l a l' h=>by
 unfold ZG at h;split at h
 ·cases h
 ·split at h
  ·cases h;simp
  ·cases h
theorem XZ {l l':List Ty} {a:Ty} (h:Qj l=.ok (a,l')):l'.length<=l.length:=zbT l a l' h
theorem zba {x:Ins} {ls l l':List Ty} {a:Ty} (h:zbc x ls l=.ok (a,l')):l'.length<=l.length:=WW (VF _ _) (fun _=>zcr _) l a l' h
theorem zby {l l':List Ty} {a:Ty} (h:ZJ l=.ok (a,l')):l'.length<=l.length:=WW zbT (fun _=>WW zbT fun _=>WW (VF _ _) fun _=>zcr _) l a l' h
theorem zeU {l l':List Ty} {a:Ty} (h:zdu l=.ok (a,l')):l'.length<=l.length:=WW zbT (fun _=>WW (VF _ _) fun _=>zcr _) l a l' h
theorem zep {l l':List Ty} (h:Zy l=.ok ((),l')):l'.length<=l.length:=WW zbT (fun _=>WW zbT fun _=>VF _ _) l () l' h
theorem VX {g:Img} {t:Ty} {l l':List Ty} (h:YG g t l=.ok ((),l')):l'.length<=l.length:=zlB g t l () l' h
theorem Vj {g:Img} {ls:List Ty} {l l':List Ty} (h:ZG g ls l=.ok ((),l')):l'.length<=l.length:=ziT g ls l () l' h
theorem zcM {g:Img} {f:Fd} {it:Bool} {l l':List Ty} (h:Zt g f it l=.ok ((),l')):l'.length<=l.length:=WW zbT (fun _=>by split <;> exact VF _ _) l () l' h
theorem zb9 {x:Ins} {l l':List Ty} {a:Ty} (h:Vg x l=.ok (a,l')):l'.length<=l.length:=WW (VF _ _) (fun _=>zcr _) l a l' h
theorem XC.tells {α:Type} {f:FuncId} {c:RC} {act:SM α} {val:α->AV} {l:List Ty} {p p':PV} (h:XC f [.pv p] c act val l) (ht:PTells p' p):XC f [.pv p'] c act val l:=fun u=>by
 have key:∀ {K:KK} {w:World} {ρ:Nat->Value} {H:HEnv} {vs:List Value},Qd K w ρ H [.box 0 0,.pv p'] vs->Qd K w ρ H [.box 0 0,.pv p] vs:=fun hv=>⟨hv.1,fun k c v hc hvv=>by
  match k with
  | 0=>exact hv.2 0 c v hc hvv
  | 1 =>
   simp at hc;subst hc;have:=hv.2 1 (.pv p') v rfl hvv;cases this with|pv _ _ hp=>exact .pv _ _ (ht _ _ _ hp)
  | k + 2=>simp at hc⟩
 have hu:=h u;cases ho:zvl u c val (act l) with
 | ret r H' =>
  rw [ho] at hu;exact ⟨hu.stands,fun g K ρ w vs hw1 hf hv=>hu.calls g K ρ w vs hw1 hf (key hv)⟩
 | pan v =>
  rw [ho] at hu;exact ⟨hu.stands,fun g K ρ w vs hw1 hf hv=>hu.calls g K ρ w vs hw1 hf (key hv)⟩
theorem YB (c:RC) (hF:Fm c.g) (ls l:List Ty) (hl:l.length<=1000):XC 181 [tsV ls] c (ZG c.g ls) uV l:=(Qc c hF ls l hl).tells (zkI _ _ _)
abbrev zwn (c:RC):HE:=.cell (.agg ((yt c.g++(zhw c.m++(tys c.ar::(zc1 c.x++[.base (.slice none 0 0)])))).map .pv))
abbrev rHN (u:Value) (c:RC):HEnv:=(0,zwn c)::zhs u
def zoH (u:Value) (c:RC):Except Int (Unit × List Ty)->Out
 | .error e=>.pan (flt e)
 | .ok _=>.ret (.pv (.tup [])) (rHN u c)
theorem zfl {tb:Tab} {rs:List ResultVar} {u:Value} {c:RC} {act:SM Unit} {l:List Ty} {p:Unit × List Ty} {ex:Exit} {env:Env} {H:HEnv} (h:act l=.ok p) (hr:zi3 tb rs (.pv (.tup [])) (rHN u c) ex env H):zkS tb rs (zoH u c (act l)) ex env H:=by
 rw [h];exact hr
theorem zaT {tb:Tab} {rs:List ResultVar} {u:Value} {c:RC} {act:SM Unit} {l:List Ty} {e:Int} {env:Env} {H:HEnv} (h:act l=.error e):zkS tb rs (zoH u c (act l)) (.panic [{ v:=flt e,recovered:=false }]) env H:=by
 rw [h];rfl
theorem ziM {tb:Tab} {u:Value} {c:RC} {ex:Exit} {env:Env} {H:HEnv} (he:ex=.normal\/ex=.ret) (h:QM H (rHN u c) []):zi3 tb [] (.pv (.tup [])) (rHN u c) ex env H:=⟨he,.inl ⟨[],rfl,rfl,h⟩⟩
theorem ztW (c:RC):Tells (.agg ((yt c.g++(zhw c.m++(tys c.ar::(zc1 c.x++[.base (.slice none 0 0)])))).map .pv)) (.agg ((yt c.g++(zhw c.m++(tys c.ar::(zc1 c.x++[tys []])))).map .pv)):=fun K w ρ H v h=>by
 cases h with
 | agg _ vs h1 h2 h3 =>
  refine .agg _ vs zwy98 h2 fun k a v ha hv=>?_
  have hk:k < 24:=by have:=(List.getElem?_eq_some_iff.1 ha).1;simpa using this
  by_cases h23:k=23
  ·subst h23;have:=h3 23 (.pv (.base (.slice none 0 0))) v rfl hv;have e:a=.pv (tys []):=by simpa using ha.symm
   subst e;exact QX 4 false _ _ _ _ _ this
  ·have e1:∀ x:PV,yt c.g++(zhw c.m++(tys c.ar::(zc1 c.x++[x])))=(yt c.g++(zhw c.m++(tys c.ar::zc1 c.x)))++[x]:=fun x=>by simp
   rw [e1,List.map_append,List.getElem?_append_left zwy64] at ha;refine h3 k a v ?_ hv;rw [e1,List.map_append,List.getElem?_append_left zwy64];exact ha
theorem zhP {f:FuncId} {c:RC} {act:SM Unit} {l:List Ty} (hn:∀ p,act l=.ok p->p.2=[]) (h:∀ u,QF Tryz.prog f [.box 0 0] (yS u c l) (zoH u c (act l))):XC f [] c act uV l:=fun u=>by
 have hu:=h u;cases ho:act l with
 | error e=>rw [ho] at hu;exact hu
 | ok p =>
  rw [ho] at hu;have hp:=hn p ho;obtain ⟨⟨⟩,l'⟩:=p;simp only at hp;subst hp;exact ⟨hu.stands,fun g K ρ w vs hw1 hf hv=>(hu.calls g K ρ w vs hw1 hf hv).mono fun e w' ⟨v,K',ρ',e1,hf',hr⟩=>⟨v,K',ρ',e1,zhI hf' (ztW c),by
   cases hr with|pv _ _ hp=>exact .pv _ _ hp⟩⟩
set_option maxHeartbeats 20000000
theorem zuw (g:Img) (hF:Fm g) (m:Me) (ar:List Ty) (arg:Int) (t0:Ty) (l:List Ty) (hl:l.length<=100) (op:Int) (ho:op=13\/op=14\/op=15\/op=16\/op=17\/op=18\/op=19\/op=20\/op=25\/op=26\/op=27):XC 125 [] (⟨g,m,ar,⟨op,arg,t0⟩⟩:RC) (qF g m op) uV l:=by
 let c:RC:=⟨g,m,ar,⟨op,arg,t0⟩⟩
 rcases ho with rfl|rfl|rfl|rfl|rfl|rfl|rfl|rfl|rfl|rfl|rfl
 all_goals
  intro u;refine zI zf Tryz.func125 rfl zws Tryz.ntmps125 zwy63 _ rfl (fun gB hw1=>?_);cases hS1:(ZJ) l with
  | error e =>
   have hw:(qF g m c.x.op) l=.error e:=by simp [qF,c,zA,zG,hS1]
   repeat' (first|refine zo 12 2 rfl rfl rfl ?_|refine zD ((yS u c l)) zi rfl rfl rfl tH ((YS c _ zwy62).bad hS1 u) ?_|refine sK ?_|refine sC (fun _=>?_) (fun _=>?_)|fail)
   exact zF hw
  | ok p =>
   obtain ⟨t,l1⟩:=p;have hl1:l1.length<=100:=by have:=zby hS1;omega
   cases hS2:(qg m.max [t]) l1 with
   | error e =>
    have hw:(qF g m c.x.op) l=.error e:=by simp [qF,c,zA,zG,hS1,hS2]
    repeat' (first|refine zo 12 4 rfl rfl rfl ?_|refine zD ((yS u c l1)) zi rfl rfl rfl tH ((zX c [t] _ zwy62 zwy63).bad hS2 u) ?_|(refine zu ?_;first|(refine zx 0 zi rfl rfl ((YS c _ zwy62).ok hS1) rfl rfl rfl rfl rfl ?_))|refine sK ?_|refine sC (fun _=>?_) (fun _=>?_)|fail)
    exact zF hw
   | ok p =>
    obtain ⟨⟨⟩,l2⟩:=p;have hw:(qF g m c.x.op) l=.ok ((),l2):=by simp [qF,c,zA,zG,hS1,hS2]
    repeat' (first|(refine zu ?_;first|(refine zx 0 zi rfl rfl ((YS c _ zwy62).ok hS1) rfl rfl rfl rfl rfl ?_)|(refine zx 0 zi rfl rfl ((zX c [t] _ zwy62 zwy63).ok hS2) rfl rfl rfl rfl rfl ?_))|refine sK ?_|refine sC (fun _=>?_) (fun _=>?_)|fail)
    exact yc hw (yE (.inl rfl) tH)
theorem zwk62 {G:Prop} (h:G:=by repeat' (first|(have:=b0;refine zo 15 2 rfl rfl rfl ?_)|(have:=b0;refine zD ((yS u c l)) zi rfl rfl rfl tH ((qx c hF (kTy 2) _ zwy62).bad hS1 u) ?_)|(have:=b1;refine zo 16 2 rfl rfl rfl ?_)|(have:=b1;refine zD ((yS u c l1)) zi rfl rfl rfl tH ((YP c _ zwy62).bad hS2 u) ?_)|(have:=b2;refine zo 16 4 rfl rfl rfl ?_)|(have:=b2;refine zD ((yS u c l2)) zi rfl rfl rfl tH ((zX c [t] _ zwy62 zwy63).bad hS3 u) ?_)|(refine shC ?_;first|refine qC (zU 2) ?_)|(have:=b1;refine zu ?_;first|(refine zx 0 zi rfl rfl ((qx c hF (kTy 2) _ zwy62).ok hS1) rfl rfl rfl rfl rfl ?_))|(have:=b2;refine zu ?_;first|(refine zx 0 zi rfl rfl ((qx c hF (kTy 2) _ zwy62).ok hS1) rfl rfl rfl rfl rfl ?_)|(refine zx 0 zi rfl rfl ((YP c _ zwy62).ok hS2) rfl rfl rfl rfl rfl ?_))|(have:=b3;refine zu ?_;first|(refine zx 0 zi rfl rfl ((qx c hF (kTy 2) _ zwy62).ok hS1) rfl rfl rfl rfl rfl ?_)|(refine zx 0 zi rfl rfl ((YP c _ zwy62).ok hS2) rfl rfl rfl rfl rfl ?_)|(refine zx 0 zi rfl rfl ((zX c [t] _ zwy62 zwy63).ok hS3) rfl rfl rfl rfl rfl ?_))|refine sK ?_|refine sC (fun _=>?_) (fun _=>?_)|exact zF hw|exact yc hw (yE (.inl rfl) tH)|fail)):G:=h
theorem zu5 (g:Img) (hF:Fm g) (m:Me) (ar:List Ty) (arg:Int) (t0:Ty) (l:List Ty) (hl:l.length<=100) (op:Int) (ho:op=21\/op=22):XC 125 [] (⟨g,m,ar,⟨op,arg,t0⟩⟩:RC) (qF g m op) uV l:=by
 let c:RC:=⟨g,m,ar,⟨op,arg,t0⟩⟩
 rcases ho with rfl|rfl
 all_goals
  intro u;refine zI zf Tryz.func125 rfl zws Tryz.ntmps125 zwy63 _ rfl (fun gB hw1=>?_);cases hS1:(YG g (kTy 2)) l with
  | error e =>
   have hw:(qF g m c.x.op) l=.error e:=by simp [qF,c,zA,zG,hS1]
   have b0:=();exact zwk62
  | ok p =>
   obtain ⟨⟨⟩,l1⟩:=p;have hl1:l1.length<=100:=by have:=VX hS1;omega
   cases hS2:(zdu) l1 with
   | error e =>
    have hw:(qF g m c.x.op) l=.error e:=by simp [qF,c,zA,zG,hS1,hS2]
    have b1:=();exact zwk62
   | ok p =>
    obtain ⟨t,l2⟩:=p;have hl2:l2.length<=100:=by have:=zeU hS2;omega
    cases hS3:(qg m.max [t]) l2 with
    | error e =>
     have hw:(qF g m c.x.op) l=.error e:=by simp [qF,c,zA,zG,hS1,hS2,hS3]
     have b2:=();exact zwk62
    | ok p =>
     obtain ⟨⟨⟩,l3⟩:=p;have hw:(qF g m c.x.op) l=.ok ((),l3):=by simp [qF,c,zA,zG,hS1,hS2,hS3]
     have b3:=();exact zwk62
theorem zuJ (g:Img) (hF:Fm g) (m:Me) (ar:List Ty) (arg:Int) (t0:Ty) (l:List Ty) (hl:l.length<=100) (op:Int) (ho:op=23\/op=24):XC 125 [] (⟨g,m,ar,⟨op,arg,t0⟩⟩:RC) (qF g m op) uV l:=by
 let c:RC:=⟨g,m,ar,⟨op,arg,t0⟩⟩
 rcases ho with rfl|rfl
 all_goals
  intro u;refine zI zf Tryz.func125 rfl zws Tryz.ntmps125 zwy63 _ rfl (fun gB hw1=>?_);cases hS1:(zdu) l with
  | error e =>
   have hw:(qF g m c.x.op) l=.error e:=by simp [qF,c,zA,zG,hS1]
   repeat' (first|refine zo 19 2 rfl rfl rfl ?_|refine zD ((yS u c l)) zi rfl rfl rfl tH ((YP c _ zwy62).bad hS1 u) ?_|refine sK ?_|refine sC (fun _=>?_) (fun _=>?_)|fail)
   exact zF hw
  | ok p =>
   obtain ⟨t,l1⟩:=p;have hl1:l1.length<=100:=by have:=zeU hS1;omega
   cases hS2:(qg m.max [t]) l1 with
   | error e =>
    have hw:(qF g m c.x.op) l=.error e:=by simp [qF,c,zA,zG,hS1,hS2]
    repeat' (first|refine zo 19 4 rfl rfl rfl ?_|refine zD ((yS u c l1)) zi rfl rfl rfl tH ((zX c [t] _ zwy62 zwy63).bad hS2 u) ?_|(refine zu ?_;first|(refine zx 0 zi rfl rfl ((YP c _ zwy62).ok hS1) rfl rfl rfl rfl rfl ?_))|refine sK ?_|refine sC (fun _=>?_) (fun _=>?_)|fail)
    exact zF hw
   | ok p =>
    obtain ⟨⟨⟩,l2⟩:=p;have hw:(qF g m c.x.op) l=.ok ((),l2):=by simp [qF,c,zA,zG,hS1,hS2]
    repeat' (first|(refine zu ?_;first|(refine zx 0 zi rfl rfl ((YP c _ zwy62).ok hS1) rfl rfl rfl rfl rfl ?_)|(refine zx 0 zi rfl rfl ((zX c [t] _ zwy62 zwy63).ok hS2) rfl rfl rfl rfl rfl ?_))|refine sK ?_|refine sC (fun _=>?_) (fun _=>?_)|fail)
    exact yc hw (yE (.inl rfl) tH)
theorem zwk63 {G:Prop} (h:G:=by repeat' (first|(have:=b0;refine zo 22 1 rfl rfl rfl ?_)|(have:=b0;refine zD ((yS u c l)) zi rfl rfl rfl tH ((YP c _ zwy62).bad hS1 u) ?_)|(have:=b1;refine zo 23 3 rfl rfl rfl ?_)|(have:=b1;refine zD ((yS u c l1)) zi rfl rfl rfl tH ((zX c [kTy 2] _ zwy62 zwy63).bad hS2 u) ?_)|(refine shC ?_;first|refine qC (zU 2) ?_)|(have:=b1;refine zu ?_;first|(refine zx 0 zi rfl rfl ((YP c _ zwy62).ok hS1) rfl rfl rfl rfl rfl ?_))|(have:=b2;refine zu ?_;first|(refine zx 0 zi rfl rfl ((YP c _ zwy62).ok hS1) rfl rfl rfl rfl rfl ?_)|(refine zx 0 zi rfl rfl ((zX c [kTy 2] _ zwy62 zwy63).ok hS2) rfl rfl rfl rfl rfl ?_))|refine sK ?_|refine sC (fun _=>?_) (fun _=>?_)|exact zF hw|exact yc hw (yE (.inl rfl) tH)|fail)):G:=h
theorem zul (g:Img) (hF:Fm g) (m:Me) (ar:List Ty) (arg:Int) (t0:Ty) (l:List Ty) (hl:l.length<=100) (op:Int) (ho:op=28\/op=30):XC 125 [] (⟨g,m,ar,⟨op,arg,t0⟩⟩:RC) (qF g m op) uV l:=by
 let c:RC:=⟨g,m,ar,⟨op,arg,t0⟩⟩
 rcases ho with rfl|rfl
 all_goals
  intro u;refine zI zf Tryz.func125 rfl zws Tryz.ntmps125 zwy63 _ rfl (fun gB hw1=>?_);cases hS1:(zdu) l with
  | error e =>
   have hw:(qF g m c.x.op) l=.error e:=by simp [qF,c,zA,zG,hS1]
   have b0:=();exact zwk63
  | ok p =>
   obtain ⟨t,l1⟩:=p;have hl1:l1.length<=100:=by have:=zeU hS1;omega
   cases hS2:(qg m.max [kTy 2]) l1 with
   | error e =>
    have hw:(qF g m c.x.op) l=.error e:=by simp [qF,c,zA,zG,hS1,hS2]
    have b1:=();exact zwk63
   | ok p =>
    obtain ⟨⟨⟩,l2⟩:=p;have hw:(qF g m c.x.op) l=.ok ((),l2):=by simp [qF,c,zA,zG,hS1,hS2]
    have b2:=();exact zwk63
theorem zwk64 {G:Prop} (h:G:=by repeat' (first|(have:=b0;refine zo 25 1 rfl rfl rfl ?_)|(have:=b0;refine zD ((yS u ⟨g,m,ar,⟨29,arg,t0⟩⟩ l)) zi rfl rfl rfl tH ((YP ⟨g,m,ar,⟨29,arg,t0⟩⟩ _ zwy62).bad hS1 u) ?_)|(have:=b1;refine zo 26 3 rfl rfl rfl ?_)|(have:=b1;refine zD ((yS u ⟨g,m,ar,⟨29,arg,t0⟩⟩ l1)) zi rfl rfl rfl tH ((zX ⟨g,m,ar,⟨29,arg,t0⟩⟩ [kTy 3] _ zwy62 zwy63).bad hS2 u) ?_)|(refine shC ?_;first|refine qC (zU 3) ?_)|(have:=b1;refine zu ?_;first|(refine zx 0 zi rfl rfl ((YP ⟨g,m,ar,⟨29,arg,t0⟩⟩ _ zwy62).ok hS1) rfl rfl rfl rfl rfl ?_))|(have:=b2;refine zu ?_;first|(refine zx 0 zi rfl rfl ((YP ⟨g,m,ar,⟨29,arg,t0⟩⟩ _ zwy62).ok hS1) rfl rfl rfl rfl rfl ?_)|(refine zx 0 zi rfl rfl ((zX ⟨g,m,ar,⟨29,arg,t0⟩⟩ [kTy 3] _ zwy62 zwy63).ok hS2) rfl rfl rfl rfl rfl ?_))|refine sK ?_|refine sC (fun _=>?_) (fun _=>?_)|exact zF hw|exact yc hw (yE (.inl rfl) tH)|fail)):G:=h
theorem zu8 (g:Img) (hF:Fm g) (m:Me) (ar:List Ty) (arg:Int) (t0:Ty) (l:List Ty) (hl:l.length<=100):XC 125 [] (⟨g,m,ar,⟨29,arg,t0⟩⟩:RC) (qF g m 29) uV l:=by
 intro u;refine zI zf Tryz.func125 rfl zws Tryz.ntmps125 zwy63 _ rfl (fun gB hw1=>?_);cases hS1:(zdu) l with
 | error e =>
  have hw:(qF g m 29) l=.error e:=by simp [qF,zA,zG,hS1]
  have b0:=();exact zwk64
 | ok p =>
  obtain ⟨t,l1⟩:=p;have hl1:l1.length<=100:=by have:=zeU hS1;omega
  cases hS2:(qg m.max [kTy 3]) l1 with
  | error e =>
   have hw:(qF g m 29) l=.error e:=by simp [qF,zA,zG,hS1,hS2]
   have b1:=();exact zwk64
  | ok p =>
   obtain ⟨⟨⟩,l2⟩:=p;have hw:(qF g m 29) l=.ok ((),l2):=by simp [qF,zA,zG,hS1,hS2]
   have b2:=();exact zwk64
theorem zwk65 {G:Prop} (h:G:=by repeat' (first|(have:=b0;refine zo 28 1 rfl rfl rfl ?_)|(have:=b0;refine zD ((yS u ⟨g,m,ar,⟨31,arg,t0⟩⟩ l)) zi rfl rfl rfl tH ((VZ ⟨g,m,ar,⟨31,arg,t0⟩⟩ _ zwy62).bad hS1 u) ?_)|(have:=b1;refine zo 29 3 rfl rfl rfl ?_)|(have:=b1;refine zD ((yS u ⟨g,m,ar,⟨31,arg,t0⟩⟩ l1)) zi rfl rfl rfl tH ((zX ⟨g,m,ar,⟨31,arg,t0⟩⟩ [kTy 2] _ zwy62 zwy63).bad hS2 u) ?_)|(refine shC ?_;first|refine qC (zU 2) ?_)|(have:=b1;refine zu ?_;first|(refine zx 0 zi rfl rfl ((VZ ⟨g,m,ar,⟨31,arg,t0⟩⟩ _ zwy62).ok hS1) rfl rfl rfl rfl rfl ?_))|(have:=b2;refine zu ?_;first|(refine zx 0 zi rfl rfl ((VZ ⟨g,m,ar,⟨31,arg,t0⟩⟩ _ zwy62).ok hS1) rfl rfl rfl rfl rfl ?_)|(refine zx 0 zi rfl rfl ((zX ⟨g,m,ar,⟨31,arg,t0⟩⟩ [kTy 2] _ zwy62 zwy63).ok hS2) rfl rfl rfl rfl rfl ?_))|refine sK ?_|refine sC (fun _=>?_) (fun _=>?_)|exact zF hw|exact yc hw (yE (.inl rfl) tH)|fail)):G:=h
theorem zuR (g:Img) (hF:Fm g) (m:Me) (ar:List Ty) (arg:Int) (t0:Ty) (l:List Ty) (hl:l.length<=100):XC 125 [] (⟨g,m,ar,⟨31,arg,t0⟩⟩:RC) (qF g m 31) uV l:=by
 intro u;refine zI zf Tryz.func125 rfl zws Tryz.ntmps125 zwy63 _ rfl (fun gB hw1=>?_);cases hS1:(Zy) l with
 | error e =>
  have hw:(qF g m 31) l=.error e:=by simp [qF,zA,zG,hS1]
  have b0:=();exact zwk65
 | ok p =>
  obtain ⟨⟨⟩,l1⟩:=p;have hl1:l1.length<=100:=by have:=zep hS1;omega
  cases hS2:(qg m.max [kTy 2]) l1 with
  | error e =>
   have hw:(qF g m 31) l=.error e:=by simp [qF,zA,zG,hS1,hS2]
   have b1:=();exact zwk65
  | ok p =>
   obtain ⟨⟨⟩,l2⟩:=p;have hw:(qF g m 31) l=.ok ((),l2):=by simp [qF,zA,zG,hS1,hS2]
   have b2:=();exact zwk65
theorem zwk66 {G:Prop} (h:G:=by repeat' (first|(have:=b0;refine zo 32 1 rfl rfl rfl ?_)|(have:=b0;refine zD ((yS u c l)) zi rfl rfl rfl tH ((YS c _ zwy62).bad hS1 u) ?_)|(have:=b1;refine zo 33 3 rfl rfl rfl ?_)|(have:=b1;refine zD ((yS u c l1)) zi rfl rfl rfl tH ((zX c [kTy 2] _ zwy62 zwy63).bad hS2 u) ?_)|(refine shC ?_;first|refine qC (zU 2) ?_)|(have:=b1;refine zu ?_;first|(refine zx 0 zi rfl rfl ((YS c _ zwy62).ok hS1) rfl rfl rfl rfl rfl ?_))|(have:=b2;refine zu ?_;first|(refine zx 0 zi rfl rfl ((YS c _ zwy62).ok hS1) rfl rfl rfl rfl rfl ?_)|(refine zx 0 zi rfl rfl ((zX c [kTy 2] _ zwy62 zwy63).ok hS2) rfl rfl rfl rfl rfl ?_))|refine sK ?_|refine sC (fun _=>?_) (fun _=>?_)|exact zF hw|exact yc hw (yE (.inl rfl) tH)|fail)):G:=h
theorem zvt (g:Img) (hF:Fm g) (m:Me) (ar:List Ty) (arg:Int) (t0:Ty) (l:List Ty) (hl:l.length<=100) (op:Int) (ho:op=32\/op=33):XC 125 [] (⟨g,m,ar,⟨op,arg,t0⟩⟩:RC) (qF g m op) uV l:=by
 let c:RC:=⟨g,m,ar,⟨op,arg,t0⟩⟩
 rcases ho with rfl|rfl
 all_goals
  intro u;refine zI zf Tryz.func125 rfl zws Tryz.ntmps125 zwy63 _ rfl (fun gB hw1=>?_);cases hS1:(ZJ) l with
  | error e =>
   have hw:(qF g m c.x.op) l=.error e:=by simp [qF,c,zA,zG,hS1]
   have b0:=();exact zwk66
  | ok p =>
   obtain ⟨t,l1⟩:=p;have hl1:l1.length<=100:=by have:=zby hS1;omega
   cases hS2:(qg m.max [kTy 2]) l1 with
   | error e =>
    have hw:(qF g m c.x.op) l=.error e:=by simp [qF,c,zA,zG,hS1,hS2]
    have b1:=();exact zwk66
   | ok p =>
    obtain ⟨⟨⟩,l2⟩:=p;have hw:(qF g m c.x.op) l=.ok ((),l2):=by simp [qF,c,zA,zG,hS1,hS2]
    have b2:=();exact zwk66
def BdS {α:Type} (max:Int) (act:SM α):Prop:=∀ l a l',act l=.ok (a,l')->((l'.length:Int)<=max\/l'.length<=l.length)/\l'.length<=l.length + 1
theorem ze3 {α:Type} {max:Int} {act:SM α} (h:LeS act):BdS max act:=fun l a l' hx=>⟨.inr (h l a l' hx),by have:=h l a l' hx;omega⟩
theorem Xu {α β:Type} {max:Int} {x:SM α} {f:α->SM β} (hx:LeS x) (hf:∀ a,BdS max (f a)):BdS max (x >>= f):=fun l b l' h=>by
 rw [zA] at h;cases hxl:x l with
 | error e=>rw [hxl] at h;cases h
 | ok p =>
  obtain ⟨a,l1⟩:=p;rw [hxl] at h;have h1:=hf a l1 b l' h;have h2:=hx l a l1 hxl;exact ⟨h1.1.imp (fun h=>h) (fun h=>by omega),by omega⟩
theorem zic (max:Int) (t:Ty):BdS max (qg max [t]):=fun l a l' h=>by
 unfold qg at h;split at h
 ·rename_i hm;cases h;simp at hm ⊢;omega
 ·cases h
theorem zwq (max:Int):BdS max (do let t <-Qj;qg max [t,t]):=fun l a l' h=>by
 rcases YE l with e|⟨t,l1,e,e2⟩
 ·rw [zfW e] at h;cases h
 ·rw [zwX e] at h;unfold qg at h;split at h
  ·rename_i hm;cases h;subst e2;simp at hm ⊢;omega
  ·cases h
theorem ztj:LeS zcu:=fun l a l' h=>by cases h;simp
theorem zpf:LeS ZJ:=fun l a l' h=>zby h
theorem one_le:LeS zdu:=fun l a l' h=>zeU h
theorem zj2:LeS Zy:=fun l a l' h=>zep h
theorem zvp (x:Ins) (ls:List Ty):LeS (zbc x ls):=fun l a l' h=>zba h
theorem zjT (g:Img) (f:Fd) (it:Bool):LeS (Zt g f it):=fun l a l' h=>zcM h
theorem zuf (x:Ins):LeS (Vg x):=fun l a l' h=>zb9 h
theorem zoz (max:Int) (t:Ty):BdS max (QN max t):=Xu (VF _ _) fun _=>zic _ _
theorem zrG (max:Int) (c:Me):BdS max (YW max c):=by
 unfold YW;split
 ·exact zic _ _
 ·exact ze3 (zcr _)
theorem zwp {α:Type} {max:Int} {p:Prop} [Decidable p] {x y:SM α} (hx:BdS max x) (hy:BdS max y):BdS max (if p then x else y):=by split <;> assumption
theorem zvF (g:Img) (ar:List Ty) (m:Me) (x:Ins):BdS m.max (doS g ar m x):=by
 unfold doS Zb qF ZO qK yG Zc yK yD yA ZL yM
 try dsimp only
 repeat' (first|with_reducible exact zic _ _|with_reducible exact zwq _|with_reducible exact ze3 (zcr _)|with_reducible exact ze3 (VF _ _)|with_reducible exact ze3 (zlB _ _)|with_reducible exact ze3 (ziT _ _)|with_reducible exact ze3 (zjT _ _ _)|with_reducible exact ze3 zj2|with_reducible exact ze3 ztj|with_reducible exact zoz _ _|with_reducible exact zrG _ _|with_reducible exact ze3 zbT|with_reducible refine Xu (zcr _) fun _=>?_|with_reducible refine Xu (VF _ _) fun _=>?_|with_reducible refine Xu (zbT) fun _=>?_|with_reducible refine Xu (zlB _ _) fun _=>?_|with_reducible refine Xu (ziT _ _) fun _=>?_|with_reducible refine Xu (zpf) fun _=>?_|with_reducible refine Xu (one_le) fun _=>?_|with_reducible refine Xu (zj2) fun _=>?_|with_reducible refine Xu (zvp _ _) fun _=>?_|with_reducible refine Xu (zjT _ _ _) fun _=>?_|with_reducible refine Xu (zuf _) fun _=>?_|with_reducible refine Xu (empty_le _) fun _=>?_|with_reducible refine zwp ?_ ?_|split|dsimp only)
set_option maxHeartbeats 20000000
theorem zbf {P:Program} {t xt:TypeId} {k0:IntKind} {v:Value} {w:World} (hu:P.underlying t=some (.int k0)):(Instr.typeAssert (.iface t v) xt t true).run P w=.ok (.tuple #[v,.bool true]) w:=by
 simp [Instr.typeAssert,run_underlying hu]
theorem zaj {P:Program} {t xt:TypeId} {k0:IntKind} {z:Value} {w:World} (hu:P.underlying t=some (.int k0)) (hz:(zeroValue t).run P w=.ok z w):(Instr.typeAssert .nilIface xt t true).run P w=.ok (.tuple #[z,.bool false]) w:=by
 simp [Instr.typeAssert,run_underlying hu,hz]
abbrev rbH (o e:PV) (p1 p2:Value):HEnv:=[(1,.cell (.pv o)),(2,.cell (.pv e)),(2001,.pin (.box 1 0) p1),(2002,.pin (.box 2 0) p2)]
theorem zqT (p1 p2:Value) (e:Int):DCall Tryz.prog 86 (rbH (.base (.slice none 0 0)) (pi 0) p1 p2) [.box 1 0,.box 2 0] (.panicking [{ v:=flt e,recovered:=false }]) (.panicking [{ v:=flt e,recovered:=true }]) (rbH (.base (.slice none 0 0)) (pi e) p1 p2):=by
 refine WA Tryz.func86 rfl zws rfl (fun g K ρ w vs hds hf hv c₀ cs hu=>?_);obtain ⟨v1,v2,rfl⟩:=zmE hv.1;have r1:=hv.2 0 _ v1 rfl rfl;have r2:=hv.2 1 _ v2 rfl rfl;refine wpS_seq ?_;refine wpS_region ?_;have h1:=zbf (P:=Tryz.prog) (xt:=20) (v:=.int .i64 e) (w:=w) Tryz.underlying125;simp [wpOpsS,go_sem,recoverD,hu,Tryz.ntmps86,Exit.thenS,flt,h1];refine zfU (n:=11) (g:=g) (env:=[(0,.box 1 0),(1,.box 2 0),(2,.pv (pi e)),(3,.pv (pb true))]) (H:=rbH (.base (.slice none 0 0)) (pi 0) p1 p2) (QQ:=zrh (rbH (.base (.slice none 0 0)) (pi e) p1 p2)) ?_
  ⟨by simp,by rw [hds],K,ρ,hf,YD (v:=v1) zwy63 r1 (YD (v:=v2) zwy63 r2 (YD (v:=.int .i64 e) zwy63 (.pv _ _ (.base _ rfl)) (YD (v:=.bool true) zwy63 (.pv _ _ (.base _ rfl)) zcj)))⟩
  (fun ex a' w' env' H' hi hq=>⟨hq.1,hi.defers.trans hds,rfl,zgr hi hq.2⟩)
 repeat' (first|refine sK ?_|refine sC (fun _=>?_) (fun _=>?_)|fail)
 exact ⟨.inl rfl,tH⟩
theorem zpd (o e:PV) (p1 p2:Value):DCall Tryz.prog 86 (rbH o e p1 p2) [.box 1 0,.box 2 0] .returning .returning (rbH o e p1 p2):=by
 refine WA Tryz.func86 rfl zws rfl (fun g K ρ w vs hds hf hv c₀ cs hu=>?_);obtain ⟨v1,v2,rfl⟩:=zmE hv.1;refine wpS_seq ?_;refine wpS_region ?_;have hz:=ziE (P:=Tryz.prog) (w:=w) (z:=.int .i64 0) zf (ty:=125) rfl;have h1:=zaj (P:=Tryz.prog) (xt:=20) (w:=w) Tryz.underlying125 hz;simp [wpOpsS,go_sem,recoverD,hu,Tryz.ntmps86,Exit.thenS,h1];refine zfU (n:=11) (g:=g) (env:=[(3,.pv (pb false))]) (H:=rbH o e p1 p2) (QQ:=zrh (rbH o e p1 p2)) ?_
  ⟨by simp,by rw [hds],K,ρ,hf,YD (v:=.bool false) zwy63 (.pv _ _ (.base _ rfl)) zcj⟩
  (fun ex a' w' env' H' hi hq=>⟨hq.1,hi.defers.trans hds,by cases c₀;simp_all,zgr hi hq.2⟩)
 repeat' (first|refine sK ?_|refine sC (fun _=>?_) (fun _=>?_)|fail)
 exact ⟨.inl rfl,tH⟩
end Go.Cg
