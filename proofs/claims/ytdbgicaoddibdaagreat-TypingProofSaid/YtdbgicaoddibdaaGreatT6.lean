/- A part of the walks by abstract values: no statement of its own. -/
import Derived.Test.YtdbgicaoddibdaaGreatT4
import Derived.Test.YtdbgicaoddibdaaGreatT5
set_option linter.unusedVariables false
set_option linter.unusedSimpArgs false
namespace Go.Cg
structure Ty where
 kind:Int
 index:Int
 dims:Int
 ref:Bool
 deriving DecidableEq,Inhabited
structure TD where
 name:ByteArray
 flags:Int
 ext:Int
 faces:List Int
 deriving Inhabited
structure Fd where
 name:ByteArray
 owner:Int
 ty:Ty
 static:Bool
 deriving Inhabited
structure Ins where
 op:Int
 arg:Int
 t:Ty
 deriving Inhabited,DecidableEq
structure Cl where
 kind:Int
 tf:Int
 tt:Int
 hf:Int
 ht:Int
 filter:Int
 t:Ty
 deriving Inhabited,DecidableEq
structure Me where
 name:ByteArray
 owner:Int
 flags:Int
 params:List Ty
 ret:Ty
 locals:List Ty
 max:Int
 code:List Ins
 clauses:List Cl
 deriving Inhabited
structure Img where
 types:List TD
 fields:List Fd
 methods:List Me
 entry:Int
 deriving Inhabited
abbrev pi (n:Int):PV:=.base (.int .i64 n)
abbrev pb (b:Bool):PV:=.base (.bool b)
abbrev ps (s:ByteArray):PV:=.base (.string s)
def ints (l:List Int):PV:=.slc 1 (l.map pi) false
def yJ (t:Ty):PV:=.agg [pi t.kind,pi t.index,pi t.dims,pb t.ref]
def tys (l:List Ty):PV:=.slc 4 (l.map yJ) false
def ZB (t:TD):PV:=.agg [ps t.name,pi t.flags,pi t.ext,ints t.faces]
def Yo (f:Fd):PV:=.agg [ps f.name,pi f.owner,pi f.ty.kind,pi f.ty.index,pi f.ty.dims,pb f.ty.ref,pb f.static]
def qx (x:Ins):PV:=.agg [pi x.op,pi x.arg,pi x.t.kind,pi x.t.index,pi x.t.dims,pb x.t.ref]
def Zg (c:Cl):PV:=.agg [pi c.kind,pi c.tf,pi c.tt,pi c.hf,pi c.ht,pi c.filter,pi c.t.kind,pi c.t.index,pi c.t.dims,pb c.t.ref]
def yh (m:Me):PV:=.agg [ps m.name,pi m.owner,pi m.flags,tys m.params,pi m.ret.kind,pi m.ret.index,pi m.ret.dims,pb m.ret.ref,tys m.locals,pi m.max,.slc 6 (m.code.map qx) false,.slc 10 (m.clauses.map Zg) false]
def zO (g:Img):PV:=.agg [.slc 4 (g.types.map ZB) false,.slc 7 (g.fields.map Yo) false,.slc 12 (g.methods.map yh) false,pi g.entry]
theorem wrap_in {a:Int} (h1 : -9223372036854775808≤a) (h2:a≤9223372036854775807):IntKind.i64.wrap a=a:=by
 unfold IntKind.wrap;simp only [IntKind.bits,IntKind.signed];simp;split <;> omega
theorem ZF {env env':Env} {t:Nat} {k:IntKind} {a b:Int} (h:env.get t=some (.pv (.base (.int k a)))) (e:a=b) (hs:Sub env env'):Sub env ((t,.pv (.base (.int k b)))::env'):=yU (by rw [h,e]) hs
theorem Vm {P:Program} {n:Nat} {g:Base} {x y:Code} {env:Env} {H:HEnv} {QQ:QC} {t:Nat} {b:Bool} (hc:env.get t=some (.pv (.base (.bool b)))) (hb:b=true) (h:AW P n g x env H QQ):AW P n g (.cond (.tmp t) x y) env H QQ:=by subst hb;exact zbZ hc h
theorem Vs {P:Program} {n:Nat} {g:Base} {x y:Code} {env:Env} {H:HEnv} {QQ:QC} {t:Nat} {b:Bool} (hc:env.get t=some (.pv (.base (.bool b)))) (hb:b=false) (h:AW P n g y env H QQ):AW P n g (.cond (.tmp t) x y) env H QQ:=by subst hb;exact zbj hc h
theorem zfv {P:Program} {n:Nat} {g:Base} {ops l:List Oper} {Q:Env→HEnv→Prop} {o:Oper} {env:Env} {H:HEnv} {t:Nat} {b:Bool} (c:Bool) (_:Xn ops o=some t) (hb:env.get t=some (.pv (.base (.bool b)))) (hc:b=c)
  (h:AO P n g ops.toArray (o::l) ((t,.pv (.base (.bool c)))::env) H Q):AO P n g ops.toArray (o::l) env H Q:=⟨fun a w hi=>h.go a w (ziv hi hb hc)⟩
theorem zeG {P:Program} {n:Nat} {g:Base} {H:HEnv} {ops l:List Oper} {Q:Env→Prop} {o:Oper} {t:Nat} {env:Env} {b:Bool} (c:Bool) (_:Xn ops o=some t) (hb:env.get t=some (.pv (.base (.bool b)))) (hc:b=c)
  (h:AD P n g H ops Q (o::l) ((t,.pv (.base (.bool c)))::env)):AD P n g H ops Q (o::l) env:=by
 subst hc;refine .case _ _ _ _ hb (fun e=>?_) (fun e=>?_) <;> (subst e;exact h)
theorem zn {P:Program} {n:Nat} {g:Base} {ops:Array Oper} {rest:List Oper} {env:Env} {H:HEnv} {Q:Env→HEnv→Prop} {d:Option Tmp} {ty:TypeId} {po:String} {af:Array Edge} {gu:Option (Nat × Bool)} {f:Operand} {xs:Array Operand} {ts:Array TypeId} (h:AO P n g ops (⟨d,.call ⟨.value f,xs,ts⟩,ty,po,af,gu⟩::rest) env H Q):AO P n g ops (⟨d,.call ⟨.value f,xs,ts⟩,ty,po,af,gu⟩::rest) env H Q:=h
theorem zoJ {P:Program} {n:Nat} {g:Base} {ops rest:List Oper} {env:Env} {H:HEnv} {Q:Env→Prop} {d:Option Tmp} {ty:TypeId} {po:String} {af:Array Edge} {gu:Option (Nat × Bool)} {f:Operand} {xs:Array Operand} {ts:Array TypeId} (h:AD P n g H ops Q (⟨d,.call ⟨.value f,xs,ts⟩,ty,po,af,gu⟩::rest) env):AD P n g H ops Q (⟨d,.call ⟨.value f,xs,ts⟩,ty,po,af,gu⟩::rest) env:=h
theorem yC {P:Program} {n:Nat} {g:Base} {ops:Array Oper} {rest:List Oper} {env:Env} {H:HEnv} {Q:Env→HEnv→Prop} {d:Option Tmp} {ty:TypeId} {po:String} {af:Array Edge} {gu:Option (Nat × Bool)} {b:Builtin} {xs:Array Operand} {ts:Array TypeId} (h:AO P n g ops (⟨d,.call ⟨.builtin b,xs,ts⟩,ty,po,af,gu⟩::rest) env H Q):AO P n g ops (⟨d,.call ⟨.builtin b,xs,ts⟩,ty,po,af,gu⟩::rest) env H Q:=h
theorem zti {P:Program} {n:Nat} {g:Base} {ops:Array Oper} {rest:List Oper} {env:Env} {H:HEnv} {Q:Env→HEnv→Prop} {d:Option Tmp} {ty:TypeId} {po:String} {af:Array Edge} {gu:Option (Nat × Bool)} {u:TypeId} {x i:Operand} (h:AO P n g ops (⟨d,.indexAddr u x i,ty,po,af,gu⟩::rest) env H Q):AO P n g ops (⟨d,.indexAddr u x i,ty,po,af,gu⟩::rest) env H Q:=h
theorem zuv {P:Program} {n:Nat} {g:Base} {ops rest:List Oper} {env:Env} {H:HEnv} {Q:Env→Prop} {d:Option Tmp} {ty:TypeId} {po:String} {af:Array Edge} {gu:Option (Nat × Bool)} {u:TypeId} {x i:Operand} (h:AD P n g H ops Q (⟨d,.indexAddr u x i,ty,po,af,gu⟩::rest) env):AD P n g H ops Q (⟨d,.indexAddr u x i,ty,po,af,gu⟩::rest) env:=h
theorem zoh {P:Program} {n:Nat} {g:Base} {ops:Array Oper} {rest:List Oper} {env:Env} {H:HEnv} {Q:Env→HEnv→Prop} {d:Option Tmp} {ty:TypeId} {po:String} {af:Array Edge} {gu:Option (Nat × Bool)} {u:TypeId} {x i:Operand} (h:AO P n g ops (⟨d,.index u x i,ty,po,af,gu⟩::rest) env H Q):AO P n g ops (⟨d,.index u x i,ty,po,af,gu⟩::rest) env H Q:=h
theorem Yd {P:Program} {n:Nat} {g:Base} {ops:Array Oper} {rest:List Oper} {env:Env} {H:HEnv} {Q:Env→HEnv→Prop} {d:Option Tmp} {ty:TypeId} {po:String} {af:Array Edge} {gu:Option (Nat × Bool)} {u:TypeId} {x y:Operand} (h:AO P n g ops (⟨d,.store u x y,ty,po,af,gu⟩::rest) env H Q):AO P n g ops (⟨d,.store u x y,ty,po,af,gu⟩::rest) env H Q:=h
theorem zgZ {P:Program} {n:Nat} {g:Base} {ops:Array Oper} {rest:List Oper} {env:Env} {H:HEnv} {Q:Env→HEnv→Prop} {d:Option Tmp} {ty:TypeId} {po:String} {af:Array Edge} {gu:Option (Nat × Bool)} {u:TypeId} (h:AO P n g ops (⟨d,.alloc u,ty,po,af,gu⟩::rest) env H Q):AO P n g ops (⟨d,.alloc u,ty,po,af,gu⟩::rest) env H Q:=h
theorem Qx {P:Program} {n:Nat} {g:Base} {ops:Array Oper} {rest:List Oper} {env:Env} {H:HEnv} {Q:Env→HEnv→Prop} {d:Option Tmp} {ty:TypeId} {po:String} {af:Array Edge} {gu:Option (Nat × Bool)} {u:TypeId} {x:Operand} (h:AO P n g ops (⟨d,.box u x,ty,po,af,gu⟩::rest) env H Q):AO P n g ops (⟨d,.box u x,ty,po,af,gu⟩::rest) env H Q:=h
theorem zwr {P:Program} {n:Nat} {g:Base} {ops:Array Oper} {l:List Oper} {env:Env} {H:HEnv} {Q:Env→HEnv→Prop} (h:AO P n g ops l env H Q):AO P n g ops l env H Q:=h
theorem zwi {P:Program} {n:Nat} {g:Base} {ops l:List Oper} {env:Env} {H:HEnv} {Q:Env→Prop} (h:AD P n g H ops Q l env):AD P n g H ops Q l env:=h
theorem zib {P:Program} {n:Nat} {g:Base} {c:Operand} {x y:Code} {env:Env} {H:HEnv} {QQ:QC} (h:AW P n g (.cond c x y) env H QQ):AW P n g (.cond c x y) env H QQ:=h
theorem retq {tb:Tab} {rs:List ResultVar} {r:PV} {env:Env} {H:HEnv} {ps:List PV} (h:VN tb H env rs=some ps) (hr:zC ps=r):zrl tb rs r .ret env H:=⟨.inr rfl,env,.refl env,ps,h,hr⟩
theorem ay {tb:Tab} {rs:List ResultVar} {r:PV} {env:Env} {H:HEnv} {ps:List PV} (hr:zC ps=r) (h:VN tb H env rs=some ps:=by exact rfl):zrl tb rs r .ret env H:=retq h hr
theorem zbf {tb:Tab} {rs:List ResultVar} {r:PV} {env:Env} {H:HEnv} {ps:List PV} (h:VN tb H env rs=some ps) (hr:zC ps=r):zrl tb rs r .normal env H:=⟨.inl rfl,env,.refl env,ps,h,hr⟩
theorem zbl {tb:Tab} {rs:List ResultVar} {r:PV} {env:Env} {H:HEnv} {ps:List PV} {t:Nat} {a b:AV} (he:env.get t=some a) (ht:Tells a b) (h:VN tb H ((t,b)::env) rs=some ps) (hr:zC ps=r):zrl tb rs r .ret env H:=⟨.inr rfl,_,.one he ht,ps,h,hr⟩
theorem zu5 {P:Program} {n:Nat} {g:Base} {H:HEnv} {ops l:List Oper} {Q:Env→Prop} {o:Oper} {t:Nat} {env:Env} {b:Bool} (_:Xn ops o=some t) (hb:env.get t=some (.pv (.base (.bool b))))
  (h1:b=true→AD P n g H ops Q (o::l) ((t,.pv (.base (.bool true)))::env)) (h2:b=false→AD P n g H ops Q (o::l) ((t,.pv (.base (.bool false)))::env)):AD P n g H ops Q (o::l) env:=.case _ _ _ _ hb h1 h2
theorem Vo (a b:Ty):(a.kind==b.kind&&(a.index==b.index&&(a.dims==b.dims&&(a.ref==b.ref&&true))))=decide (a=b):=by
 obtain ⟨a1,a2,a3,a4⟩:=a;obtain ⟨b1,b2,b3,b4⟩:=b;simp [Ty.mk.injEq,Bool.beq_eq_decide_eq,←Bool.decide_and]
theorem sA {Q P:Prop} (k:Q) (h:Q→P:=by
  intro k;first
  | (refine Yd ?_;first|exact zn9 zf rfl rfl rfl rfl rfl rfl rfl rfl rfl k)
  | (refine zgZ ?_;first|exact ZC zf 0 rfl rfl rfl rfl rfl rfl rfl k|exact ZC zf 1 rfl rfl rfl rfl rfl rfl rfl k|exact ZC zf 2 rfl rfl rfl rfl rfl rfl rfl k|exact ZC zf 3 rfl rfl rfl rfl rfl rfl rfl k|exact ZC zf 4 rfl rfl rfl rfl rfl rfl rfl k|exact ZC zf 5 rfl rfl rfl rfl rfl rfl rfl k)
  | (refine zwr ?_;first|exact zqM zf rfl rfl rfl rfl k|exact zp5 k|exact zp9 rfl rfl rfl k|(refine zfv true rfl rfl ?_ k;(assumption))|(refine zfv false rfl rfl ?_ k;(assumption)))
  | (refine zwi ?_;first|exact zq rfl (zak zf rfl) rfl rfl k|exact AD.nil _ k|exact AD.skip _ _ _ _ rfl rfl rfl k|(refine zeG true rfl rfl ?_ k;(assumption))|(refine zeG false rfl rfl ?_ k;(assumption)))
  | exact ztz k|exact zki k|exact znd k
  | (refine zib ?_;first|exact zbZ rfl k|exact zbj rfl k|(refine Vm rfl ?_ k;(assumption))|(refine Vs rfl ?_ k;(assumption)))
  | exact zqu k|exact zqo k|exact zh5 k|exact zqp zws zws k|fail):P:=h k
theorem sK {Q P:Prop} (k:Q) (h:Q→P:=by
  intro k;first
  | (refine Yd ?_;first|exact zn9 zf rfl rfl rfl rfl rfl rfl rfl rfl rfl k)
  | (refine zgZ ?_;first|exact ZC zf 0 rfl rfl rfl rfl rfl rfl rfl k|exact ZC zf 1 rfl rfl rfl rfl rfl rfl rfl k|exact ZC zf 2 rfl rfl rfl rfl rfl rfl rfl k|exact ZC zf 3 rfl rfl rfl rfl rfl rfl rfl k|exact ZC zf 4 rfl rfl rfl rfl rfl rfl rfl k|exact ZC zf 5 rfl rfl rfl rfl rfl rfl rfl k)
  | (refine zwr ?_;first|exact zqM zf rfl rfl rfl rfl k|exact zp5 k|exact zp9 rfl rfl rfl k|(refine zfv true rfl rfl ?_ k;(first|assumption|(simp <;> omega)))|(refine zfv false rfl rfl ?_ k;(first|assumption|(simp <;> omega))))
  | (refine zwi ?_;first|exact zq rfl (zak zf rfl) rfl rfl k|exact AD.nil _ k|exact AD.skip _ _ _ _ rfl rfl rfl k|(refine zeG true rfl rfl ?_ k;(first|assumption|(simp <;> omega)))|(refine zeG false rfl rfl ?_ k;(first|assumption|(simp <;> omega))))
  | exact ztz k|exact zki k|exact znd k
  | (refine zib ?_;first|exact zbZ rfl k|exact zbj rfl k|(refine Vm rfl ?_ k;(first|assumption|(simp <;> omega)))|(refine Vs rfl ?_ k;(first|assumption|(simp <;> omega))))
  | exact zqu k|exact zqo k|exact zh5 k|exact zqp zws zws k|fail):P:=h k
theorem sC {P A B C D:Prop} (x:A→B) (y:C→D) (h:(A→B)→(C→D)→P:=by
  intro x y;first|exact zv8 rfl rfl x y|exact zu5 rfl rfl x y|exact zvX rfl x y|fail):P:=h x y
theorem shC {Q P:Prop} (k:Q) (h:Q→P:=by intro k;first|exact zn k|exact zoJ k|fail):P:=h k
theorem shX {Q P:Prop} (k:Q) (h:Q→P:=by intro k;first|exact zti k|exact zuv k|fail):P:=h k
theorem shI {Q P:Prop} (k:Q) (h:Q→P:=by intro k;first|exact zoh k|exact ad_sh_index k|fail):P:=h k
theorem qC {Q P C:Prop} (c:C) (k:Q) (h:C→Q→P:=by intro c k;first|exact zy rfl (zJ rfl rfl c) rfl rfl k|exact zq rfl (zJ rfl rfl c) rfl rfl k|fail):P:=h c k
theorem qV {Q P C:Prop} (c:C) (k:Q) (h:C→Q→P:=by intro c k;first|exact zy rfl (zqO rfl rfl rfl c) rfl rfl k|exact zq rfl (zqO rfl rfl rfl c) rfl rfl k|fail):P:=h c k
theorem qX {Q P E:Prop} (e:E) (k:Q) (h:E→Q→P:=by intro he k;first|exact zy rfl (zo zf rfl rfl rfl rfl rfl rfl zwy62 he) rfl rfl k|exact zq rfl (zo zf rfl rfl rfl rfl rfl rfl zwy62 he) rfl rfl k|fail):P:=h e k
theorem tS {P:Prop} (h:P:=by repeat (first|exact qh|refine yU rfl ?_|(refine ZF rfl ?_ ?_;· (first|(rw [wrap_in zwy62 zwy62] <;> omega)|(dsimp only;rw [wrap_in zwy62 zwy62] <;> omega)|(simp;done))))):P:=h
theorem tH {A:Prop} {α:Type} {x y:α} (h:A:=by repeat (first|exact zA|refine aB ?_)) (e:x=y:=by rfl):A∧x=y:=⟨h,e⟩
theorem tD {P:Prop} (h:P:=by dsimp only;omega):P:=h
end Go.Cg
namespace Go.Cg
open Go.Proofs
set_option maxHeartbeats 20000000
def object (t:Ty):Bool:=!t.ref&&(decide (0 < t.dims)||t.kind==4||t.kind==5||t.kind==7||t.kind==8)
theorem qQ (t:Ty):ACall Tryz.prog 27 [yJ t] (pb (object t)):=by
 refine zi zf Tryz.func27 rfl zws Tryz.ntmps27 zwy63 _ rfl (fun hw gB hgB=>?_)
 repeat' (first|refine sA ?_|refine sC (fun _=>?_) (fun _=>?_)|fail)
 all_goals (first|refine ay ?_|refine zbf rfl ?_)
 all_goals (first|(simp_all [zC,object];done)|(simp_all [zC,object];omega))
def there (g:Img) (t:Int):Bool:=decide (0≤t)&&decide (t < g.types.length)
theorem Qd (g:Img) (t:Int):ACall Tryz.prog 90 [zO g,pi t] (pb (there g t)):=by
 refine zi zf Tryz.func90 rfl zws Tryz.ntmps90 zwy63 _ rfl (fun hw gB hgB=>?_)
 repeat' (first|refine sA ?_|refine sC (fun _=>?_) (fun _=>?_)|fail)
 all_goals (first|refine ay ?_|refine zbf rfl ?_)
 all_goals (first|(simp_all [zC,there];done)|(simp_all [zC,there];omega))
def bit (f k:Int):Bool:=f.tdiv k % 2==1
def plain (t:Ty) (k:Int):Bool:=t.kind==k&&t.dims==0&&!t.ref
theorem QT (t:Ty) (k:Int):ACall Tryz.prog 72 [yJ t,pi k] (pb (plain t k)):=by
 refine zi zf Tryz.func72 rfl zws Tryz.ntmps72 zwy63 _ rfl (fun hw gB hgB=>?_)
 repeat' (first|refine sA ?_|refine sC (fun _=>?_) (fun _=>?_)|fail)
 all_goals (first|refine ay ?_|refine zbf rfl ?_)
 all_goals (first|(simp_all [zC,plain];done)|(simp_all [zC,plain];omega))
theorem zjy:ACall Tryz.prog 74 [] (yJ ⟨7,0,0,false⟩):=by
 refine zi zf Tryz.func74 rfl zws Tryz.ntmps74 zwy63 _ rfl (fun hw gB hgB=>?_)
 repeat' (first|refine sA ?_|refine sC (fun _=>?_) (fun _=>?_)|fail)
 exact retq rfl rfl
theorem zgH:ACall Tryz.prog 182 [] (yJ ⟨4,0,0,false⟩):=by
 refine zi zf Tryz.func182 rfl zws Tryz.ntmps182 zwy63 _ rfl (fun hw gB hgB=>?_)
 repeat' (first|refine sA ?_|refine sC (fun _=>?_) (fun _=>?_)|fail)
 exact retq rfl rfl
set_option maxHeartbeats 20000000
theorem ziG {l:List Int} (h:(ints l).lenOk):l.length≤9223372036854775807:=by
 simp [ints,PV.lenOk,maxLen] at h;exact h.1
theorem Qv {l:List Int} {k:Nat} (h:k < l.length):(l.map pi)[k]?=some (pi l[k]):=by simp [h]
theorem zdf {l:List Ty} {k:Nat} (h:k < l.length):(l.map yJ)[k]?=some (yJ l[k]):=by simp [h]
theorem zjD {α:Type} [DecidableEq α] {l:List α} {k:Nat} {n:α} (h:k < l.length) (hno:n∉l.take k) (hne:¬ l[k]=n):n∉l.take (k + 1):=by
 rw [List.take_succ_eq_append_getElem h];simp only [List.mem_append,List.mem_singleton,not_or];exact ⟨hno,fun e=>hne e.symm⟩
def idx (l:List Int) (v:Int):Int:=if v∈l then (l.findIdx (· == v):Nat) else -1
theorem zhQ (l:List Int) (n:Int):ACall Tryz.prog 156 [ints l,pi n] (pi (idx l n)):=by
 refine zi zf Tryz.func156 rfl zws Tryz.ntmps156 zwy63 _ rfl (fun hw gB hgB=>?_);have hl:=ziG hw.1
 repeat' (first|refine sA ?_|refine sC (fun _=>?_) (fun _=>?_)|fail)
 refine zW (fun k:Nat=>[(0,.pv (ints l)),(1,.pv (pi n)),(7,.pv (pi l.length)),(8,.pv (pi k))]) (fun _=>[]) (fun k=>k≤l.length∧n∉l.take k) (fun k=>l.length - k) 0 ⟨by simp,by simp⟩ zwy71 tH ?_;rintro k ⟨hk,hno⟩;by_cases hlt:k < l.length
 ·have he:=Qv hlt
  repeat' (first|(refine shX ?_;first|refine qX he ?_)|refine sK ?_|refine sC (fun _=>?_) (fun _=>?_)|fail)
  ·rename_i h;refine ay ?_;simp at h;have hm:n∈l:=by have:=List.getElem_mem hlt;rwa [←h] at this
   have hi:l.findIdx (· == n)=k:=by
    rw [List.findIdx_eq hlt];refine ⟨by simp [h],fun j hj=>?_⟩;simp only [beq_eq_false_iff_ne];intro e;refine hno ?_;rw [←e,List.mem_take_iff_getElem];exact ⟨j,by omega,rfl⟩
   simp [zC,idx,hm,hi]
  ·rename_i h;simp at h;exact ⟨k + 1,⟨by omega,zjD hlt hno (fun e=>h e.symm)⟩,tD,tS,tH⟩
 ·repeat' (first|refine sK ?_|refine sC (fun _=>?_) (fun _=>?_)|fail)
  refine ay ?_;have:n∉l:=by rw [List.take_of_length_le zwy62] at hno;exact hno
  simp [zC,idx,this]
theorem YE (l:List Int) (n:Int):ACall Tryz.prog 112 [ints l,pi n] (pb (decide (n∈l))):=by
 refine zi zf Tryz.func112 rfl zws Tryz.ntmps112 zwy63 _ rfl (fun hw gB hgB=>?_)
 repeat' (first|(refine shC ?_;first|refine qC (zhQ _ _) ?_)|refine sA ?_|refine sC (fun _=>?_) (fun _=>?_)|fail)
 refine ay ?_;by_cases h:n∈l <;> simp [zC,idx,h]
theorem zdz {l:List Ty} (h:(tys l).lenOk):l.length≤9223372036854775807:=by
 simp [tys,PV.lenOk,maxLen] at h;exact h.1
theorem zk7 {α:Type} {a b:List α} {k:Nat} (ha:k < a.length) (hb:k < b.length) (h:a.take k=b.take k) (e:a[k]=b[k]):a.take (k + 1)=b.take (k + 1):=by
 rw [List.take_succ_eq_append_getElem ha,List.take_succ_eq_append_getElem hb,h,e]
def ZY (t:Ty):Bool :=
 if decide (t.dims < 0)||decide (3 < t.dims)||decide (t.index < 0) then false
 else if t.kind==1 then t.dims==0&&!t.ref&&t.index==0
 else if t.kind==2||t.kind==3||t.kind==4 then t.index==0
 else if t.kind==5||t.kind==6 then decide (t.index < 32)
 else if t.kind==7 then decide (t.index≤7)
 else false
def Yc (t:Ty) (place:Int):Bool :=
 if !ZY t then false
 else if place==1 then t.kind != 1&&!t.ref
 else if place==2 then t.kind != 1
 else if place==3 then !t.ref
 else true
def zjT (t:Ty) (n:Int):Bool:=(t.kind != 5&&t.kind != 6)||decide (t.index < n)
def Vg (t:Ty) (p n:Int):Bool:=Yc t p&&zjT t n
end Go.Cg
