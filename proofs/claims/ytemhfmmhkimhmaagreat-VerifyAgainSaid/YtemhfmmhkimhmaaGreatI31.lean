/- A part of the walks by abstract values: no statement of its own. -/
import Derived.Test.YtemhfmmhkimhmaaGreatI12
import Derived.Test.YtemhfmmhkimhmaaGreatI7
import Derived.Test.YtemhfmmhkimhmaaGreatI15
import Derived.Test.YtemhfmmhkimhmaaGreatI10
import Derived.Test.YtemhfmmhkimhmaaGreatI23
import Derived.Test.YtemhfmmhkimhmaaGreatChecked
import Derived.Test.YtemhfmmhkimhmaaGreatI30
import Derived.Test.YtemhfmmhkimhmaaGreatI16
import Derived.Test.YtemhfmmhkimhmaaGreatI17
import Derived.Test.YtemhfmmhkimhmaaGreatI18
set_option linter.unusedVariables false
set_option linter.unusedSimpArgs false
namespace Go.Cg
open Go.RowKit
section
variable {P:Program} {tb:Tab} {n:Nat} {g:Base} {K K':KK} {w w':World} {ρ ρ':Nat->Value} {H H':HEnv} {env:Env} {a:Act} {ops:List Oper} {o:Oper} {rest:List Oper} {Q:Env->HEnv->Prop} {f:FuncId} {args:List AV} {r:AV}
theorem zsD {d:Tmp} {ars:List AV} (Hc Hc' R:HEnv) (env2:Env) {lone:Bool} (ps:List Nat) (hw1:lone=true->g.w1.heap.size=0) (hg:guardE ops env o=some true)
  (henter:∀ (K:KK) (ρ:Nat->Value) (a:Act) (w:World),FS g K ρ H w->EnvR K w ρ H env a.tmps->zaY P f->∃ vs:List Value,(execOp a.eval o).run P w=.ok (.enter f vs.toArray) w/\Qh K w ρ H ars vs) (hsub:HSub H (Hc++R)) (hs:Sub env env2) (hd:o.dst=some d) (hdt:Nat.blt d n=true)
  (hchk:Ql Hc Hc' R ps ars env2 r=true) (hc:∀ us,ACallM P f ars (Hc++Zc us ps) r (Hc'++Zc us ps) lone)
  (h:AO P n g ops.toArray rest ((d,r)::env2) (Hc'++R) Q):AO P n g ops.toArray (o::rest) env H Q:=by
 obtain ⟨hk0,hk6⟩:=zdE hchk;refine ⟨fun a w hinv=>?_⟩;have hw:=qx hinv hg;obtain ⟨h1,h2,K,ρ,hf,he⟩:=hinv;refine wpList_step fun KK hKK=>?_
 rw [if_pos hw];obtain ⟨vs,hrun,hall⟩:=henter K ρ a w hf he (hc ρ).stands;unfold Oper.wp;rw [hrun];simp only [Oper.upon];refine (zd6 Hc Hc' R ps hw1 hsub hk0 hc hf hall).mono fun e w' ⟨v,K',ρ2,e1,hf',hv,hlat,hps⟩=>?_
 subst e1;refine hKK _ _ (h.go _ _ ⟨Zy h1,put_defers h2,K',ρ2,hf',?_⟩);rw [hd];refine Yg h1 hdt (fun t av ht=>?_) hv;obtain ⟨u1,u2,u3⟩:=he t av (hs t av ht);exact ⟨u1,u2,(u3.refs (zb1 hk6 t av ht)).keeps hlat hps⟩
theorem zdm {t:Tmp} {xs:Array Operand} {ts:Array TypeId} {d:Tmp} {first cap ars:List AV} (Hc Hc' R:HEnv) (env2:Env) {lone:Bool} (ps:List Nat) (hw1:lone=true->g.w1.heap.size=0) (hg:guardE ops env o=some true)
  (hop:o.op=.call { callee:=.value (.tmp t),args:=xs,argTypes:=ts }) (ht:env.get t=some (.fn (.func f) first cap)) (hargs:avs env xs.toList=some ars) (hsub:HSub H (Hc++R)) (hs:Sub env env2) (hd:o.dst=some d) (hdt:Nat.blt d n=true)
  (hchk:Ql Hc Hc' R ps (first++ars++cap) env2 r=true) (hc:∀ us,ACallM P f (first++ars++cap) (Hc++Zc us ps) r (Hc'++Zc us ps) lone)
  (h:AO P n g ops.toArray rest ((d,r)::env2) (Hc'++R) Q):AO P n g ops.toArray (o::rest) env H Q :=
 zsD Hc Hc' R env2 ps hw1 hg (fun K ρ a w hf he hst=>by
  have hfn:=qO he (x:=.tmp t) ht;generalize hfv:a.eval (.tmp t)=fv at hfn;have hpa:=zbB (a:=a) he hargs;cases hfn with
  | fn _ _ _ vf vc f1 f2 f3 f4 =>
   refine ⟨vf++xs.toList.map a.eval++vc,?_,by have:=hpa.1;simp at this;simp [f1,f2,this],fun k c v hc hv=>?_⟩
   ·have e:(vf++xs.toList.map a.eval++vc).toArray=vf.toArray++xs.map a.eval++vc.toArray:=by
     rw [show xs.map a.eval=(xs.toList.map a.eval).toArray by rw [<-Array.toList_map,Array.toArray_toList]];simp
    rw [e];simp [execOp,hop,resolve,hfv,Deferred.ofValue,invoke,ZL hst]
   ·rw [List.append_assoc,List.getElem?_append] at hc hv;split at hc
    ·rename_i hl;rw [if_pos zwy62] at hv;exact f3 k c v hc hv
    ·rename_i hl;rw [if_neg zwy62,f1] at hv;rw [List.getElem?_append] at hc hv;have e:(xs.toList.map a.eval).length=ars.length:=hpa.1;split at hc
     ·rename_i hl2;rw [if_pos zwy62] at hv;exact hpa.2 _ c v hc hv
     ·rename_i hl2;rw [if_neg zwy62,e] at hv;exact f4 _ c v hc hv) hsub hs hd hdt hchk hc h
variable {listed:List Bool} {QQ:QC}
end
section
variable {P:Program} {n:Nat} {g:Base} {H:HEnv} {env:Env} {ops:List Oper} {o:Oper} {rest:List Oper} {f:FuncId} {QQ:QC}
theorem ziH {t:Tmp} {xs:Array Operand} {ts:Array TypeId} {first cap ars:List AV} {v:Value} (Hc R:HEnv) {lone:Bool} (hw1:lone=true->g.w1.heap.size=0) (hg:guardE ops env o=some true)
  (hop:o.op=.call { callee:=.value (.tmp t),args:=xs,argTypes:=ts }) (ht:env.get t=some (.fn (.func f) first cap)) (hargs:avs env xs.toList=some ars) (hsub:HSub H (Hc++R)) (hchk:zlw Hc R (first++ars++cap)=true) (hc:ACallPan P f (first++ars++cap) Hc v lone)
  (h:QQ (.panic [{ v:=v,recovered:=false }]) (zaD R env) R):AOX P n g ops.toArray (o::rest) env H QQ:=by
 refine ⟨fun a w hinv=>?_⟩;have hw:=qx hinv hg;obtain ⟨h1,h2,K,ρ,hf,he⟩:=hinv;refine wpList_step fun KK hKK=>?_
 rw [if_pos hw];have henter:∃ vs:List Value,(execOp a.eval o).run P w=.ok (.enter f vs.toArray) w/\Qh K w ρ H (first++ars++cap) vs:=by
  have hfn:=qO he (x:=.tmp t) ht;generalize hfv:a.eval (.tmp t)=fv at hfn;have hpa:=zbB (a:=a) he hargs;cases hfn with
  | fn _ _ _ vf vc f1 f2 f3 f4 =>
   refine ⟨vf++xs.toList.map a.eval++vc,?_,by have:=hpa.1;simp at this;simp [f1,f2,this],fun k c v hc hv=>?_⟩
   ·have e:(vf++xs.toList.map a.eval++vc).toArray=vf.toArray++xs.map a.eval++vc.toArray:=by
     rw [show xs.map a.eval=(xs.toList.map a.eval).toArray by rw [<-Array.toList_map,Array.toArray_toList]];simp
    rw [e];simp [execOp,hop,resolve,hfv,Deferred.ofValue,invoke,ZL hc.stands]
   ·rw [List.append_assoc,List.getElem?_append] at hc hv;split at hc
    ·rename_i hl;rw [if_pos zwy62] at hv;exact f3 k c v hc hv
    ·rename_i hl;rw [if_neg zwy62,f1] at hv;rw [List.getElem?_append] at hc hv;have e:(xs.toList.map a.eval).length=ars.length:=hpa.1;split at hc
     ·rename_i hl2;rw [if_pos zwy62] at hv;exact hpa.2 _ c v hc hv
     ·rename_i hl2;rw [if_neg zwy62,e] at hv;exact f4 _ c v hc hv
 obtain ⟨vs,hrun,hall⟩:=henter;unfold Oper.wp;rw [hrun];simp only [Oper.upon];refine (zkz Hc R hw1 hsub hchk hc hf hall).mono fun e w' ⟨e1,K',ρ2,hf',hlat,hps⟩=>?_
 subst e1;refine ⟨zaD R env,R,⟨h1,h2,K',ρ2,hf',fun t av ht=>?_⟩,.inr ⟨_,rfl⟩,h⟩;rw [zbu] at ht;cases hE:env.get t with
 | none=>simp [hE] at ht
 | some v0 =>
  obtain ⟨u,u1,u2⟩:=he t v0 hE;simp only [hE,Option.map_some,Option.some.injEq] at ht;subst ht;refine ⟨u,u1,?_⟩;split
  ·rename_i hr;exact (u2.refs hr).keeps hlat fun j hj=>⟨hj,hps j hj⟩
  ·exact .any u
end
end Go.Cg
namespace Go.Cg
open Go.RowKit Go.Proofs
def zm3 (n:Int):Prop:=(Lit.int .i64 n).wf=true
theorem zxC {H:Type} {enc:TypeId × Value->H} {w:World}:Rd enc Tryz.prog w 3 1 (fun ps=>∃ n,zm3 n/\ps=[.base (.int .i64 n)]):=WU
theorem zxx {n:Int} (h:zm3 n) : -9223372036854775808<=n/\n<=9223372036854775807:=by
 simp [zm3,Lit.wf,IntKind.has,IntKind.min,IntKind.max,IntKind.bits,IntKind.signed] at h;omega
theorem zrb {g:Img} (h:zqD g):∀ m∈g.methods,∀ x∈m.code,zda x:=fun m hm x hx=>by
 have:=((h.2.2.1 m hm).2.2.2.2.2.2.1 x hx).2.1;simp [Lit.wf,IntKind.has,IntKind.min,IntKind.max,IntKind.bits,IntKind.signed] at this;exact ⟨by omega,by omega⟩
end Go.Cg
namespace Go.Cg
open Go Go.Proofs
theorem zvd:laidOutB Tryz.checked.prog=true:=by kernel_rfl
theorem zvM:mapsRowed Tryz.checked.prog=true:=by kernel_rfl
theorem zup:Tryz.checked.prog.stopsHeard=true:=by kernel_rfl
theorem zt9:Tryz.checked.prog.mayEnter=true:=by kernel_rfl
theorem zt8:Tryz.checked.prog.liftsFinal=false:=by kernel_rfl
theorem zv9:Tryz.checked.prog.make=some .cut:=by kernel_rfl
end Go.Cg
namespace Go.Cg
open Go.Proofs
set_option maxHeartbeats 20000000
theorem zwk41 {G:Prop} (h:G:=by repeat' (first|(have:=b0;refine qK 10 8 7 rfl rfl zws zws zws zws zws ?_)|(have:=b0;refine zF ((yS u ⟨g,m,ar,⟨43,arg,t0⟩⟩ l)) zi rfl rfl rfl tH ((Qb ⟨g,m,ar,⟨43,arg,t0⟩⟩ hF (Qs g d) _ zwy62).bad hS3 u) ?_)|(have:=b1;refine zo 11 2 rfl rfl rfl ?_)|(have:=b1;refine zF ((yS u ⟨g,m,ar,⟨43,arg,t0⟩⟩ l3)) zi rfl rfl rfl tH ((zbK ⟨g,m,ar,⟨43,arg,t0⟩⟩ d _ zwy62).bad hS4 u) ?_)|(have:=b2;refine zZ 8 7 rfl zws zws zws zws zws ?_)|(have:=b3;refine zo 7 3 rfl rfl rfl ?_)|(have:=b3;refine zF ([]) zi rfl rfl rfl tH (yu zwy66 8) ?_)|refine zy rfl (aj (ps:=(yt g))) rfl rfl ?_|refine zq rfl (aj (ps:=(yt g))) rfl rfl ?_|(refine shC ?_;first|refine qC ca ?_|(have:=b4;refine zy rfl (zJ rfl rfl (zH zwy66 8)) rfl rfl ?_)|(have:=b4;refine zq rfl (zJ rfl rfl (zH zwy66 8)) rfl rfl ?_)|refine qC ck ?_|refine qC cA ?_)|(have:=b5;refine zu ?_;first|(refine ay 0 (cm.ok em) ?_))|(have:=b1;refine zu ?_;first|(refine zx 0 zi rfl rfl ((Qb ⟨g,m,ar,⟨43,arg,t0⟩⟩ hF (Qs g d) _ zwy62).ok hS3) rfl rfl rfl rfl rfl ?_)|(refine ay 0 (cm.ok em) ?_))|(have:=b6;refine zu ?_;first|(refine zx 0 zi rfl rfl ((Qb ⟨g,m,ar,⟨43,arg,t0⟩⟩ hF (Qs g d) _ zwy62).ok hS3) rfl rfl rfl rfl rfl ?_)|(refine zx 0 zi rfl rfl ((zbK ⟨g,m,ar,⟨43,arg,t0⟩⟩ d _ zwy62).ok hS4) rfl rfl rfl rfl rfl ?_)|(refine ay 0 (cm.ok em) ?_))|refine sK ?_|refine sC (fun _=>?_) (fun _=>?_)|exact zD hw|exact yc hw (yD (.inl rfl) tH)|fail)):G:=h
theorem zua (g:Img) (hF:Fm g) (m:Me) (ar:List Ty) (arg:Int) (t0:Ty) (l:List Ty) (hl:l.length<=100) (h0:0<=arg) (h1:arg.toNat < g.methods.length) (hp:(mAt g arg).params.length<=100) (hof:0<=(mAt g arg).owner) (hot:(mAt g arg).owner.toNat < g.types.length):XC 127 [] (⟨g,m,ar,⟨43,arg,t0⟩⟩:RC) (qJ g m ⟨43,arg,t0⟩) uV l:=by
 intro u;refine zI zf Tryz.func127 rfl zws Tryz.ntmps127 zwy63 _ rfl (fun gB hw1=>?_);have cm:XC 179 [] (⟨g,m,ar,⟨43,arg,t0⟩⟩:RC) (pure (mAt g arg):SM Me) (fun d=>.pv (zY d)) l:=zbI _ l h0 h1;have em:(pure (mAt g arg):SM Me) l=.ok (mAt g arg,l):=rfl;obtain ⟨d,hd⟩:∃ d,mAt g arg=d:=⟨_,rfl⟩
 rw [hd] at cm em hp hot hof;have ca:=Qn d 4;have cb:=Qn d 16;have cc:=Qn d 1;have ck:=QH g d.owner;have cA:=zb9 g d zwy62;cases hC1:(qQ d.flags 4)
 ·rw [hC1] at ca;cases hS3:(ZM g (Qs g d)) l with
  | error e =>
   have hw:(qJ g m ⟨43,arg,t0⟩) l=.error e:=by simp [qJ,hd,zB,zG,hC1,zN,emptyS,hS3]
   have b0:=();have b4:=();have b5:=();exact zwk41
  | ok p =>
   obtain ⟨⟨⟩,l3⟩:=p;have hl3:l3.length<=100:=by have:=Vr hS3;omega
   cases hS4:(YV m.max d) l3 with
   | error e =>
    have hw:(qJ g m ⟨43,arg,t0⟩) l=.error e:=by simp [qJ,hd,zB,zG,hC1,zN,emptyS,hS3,hS4]
    have b1:=();have b2:=();have b4:=();exact zwk41
   | ok p =>
    obtain ⟨⟨⟩,l4⟩:=p;have hw:(qJ g m ⟨43,arg,t0⟩) l=.ok ((),l4):=by simp [qJ,hd,zB,zG,hC1,zN,emptyS,hS3,hS4]
    have b2:=();have b4:=();have b6:=();exact zwk41
 ·rw [hC1] at ca;have hw:(qJ g m ⟨43,arg,t0⟩) l=.error 8:=by simp [qJ,hd,zB,zG,hC1,zN,emptyS]
  have b3:=();have b5:=();exact zwk41
theorem zwk42 {G:Prop} (h:G:=by repeat' (first|(have:=b0;refine zo 9 12 rfl rfl rfl ?_)|(have:=b1;refine zF ([]) zi rfl rfl rfl tH (yu zwy73 8) ?_)|(have:=b2;refine qK 10 8 7 rfl rfl zws zws zws zws zws ?_)|(have:=b2;refine zF ((yS u ⟨g,m,ar,⟨44,arg,t0⟩⟩ l)) zi rfl rfl rfl tH ((Qb ⟨g,m,ar,⟨44,arg,t0⟩⟩ hF (Qs g d) _ zwy62).bad hS5 u) ?_)|(have:=b3;refine zo 11 2 rfl rfl rfl ?_)|(have:=b3;refine zF ((yS u ⟨g,m,ar,⟨44,arg,t0⟩⟩ l5)) zi rfl rfl rfl tH ((zbK ⟨g,m,ar,⟨44,arg,t0⟩⟩ d _ zwy62).bad hS6 u) ?_)|(have:=b4;refine zZ 8 7 rfl zws zws zws zws zws ?_)|(have:=b5;refine zF ([]) zi rfl rfl rfl tH (yu zwy93 8) ?_)|(have:=b6;refine zF ([]) zi rfl rfl rfl tH (yu zwy66 8) ?_)|refine zy rfl (aj (ps:=(yt g))) rfl rfl ?_|refine zq rfl (aj (ps:=(yt g))) rfl rfl ?_|(refine shC ?_;first|refine qC cc ?_|(have:=b7;refine qC cb ?_)|(have:=b8;refine zy rfl (zJ rfl rfl (zH zwy73 8)) rfl rfl ?_)|(have:=b8;refine zq rfl (zJ rfl rfl (zH zwy73 8)) rfl rfl ?_)|refine qC ck ?_|refine qC cA ?_)|(have:=b9;refine zu ?_;first|(refine ay 0 (cm.ok em) ?_))|(have:=b3;refine zu ?_;first|(refine zx 0 zi rfl rfl ((Qb ⟨g,m,ar,⟨44,arg,t0⟩⟩ hF (Qs g d) _ zwy62).ok hS5) rfl rfl rfl rfl rfl ?_)|(refine ay 0 (cm.ok em) ?_))|(have:=b10;refine zu ?_;first|(refine zx 0 zi rfl rfl ((Qb ⟨g,m,ar,⟨44,arg,t0⟩⟩ hF (Qs g d) _ zwy62).ok hS5) rfl rfl rfl rfl rfl ?_)|(refine zx 0 zi rfl rfl ((zbK ⟨g,m,ar,⟨44,arg,t0⟩⟩ d _ zwy62).ok hS6) rfl rfl rfl rfl rfl ?_)|(refine ay 0 (cm.ok em) ?_))|refine sK ?_|refine sC (fun _=>?_) (fun _=>?_)|exact zD hw|exact yc hw (yD (.inl rfl) tH)|fail)):G:=h
theorem zt4 (g:Img) (hF:Fm g) (m:Me) (ar:List Ty) (arg:Int) (t0:Ty) (l:List Ty) (hl:l.length<=100) (h0:0<=arg) (h1:arg.toNat < g.methods.length) (hp:(mAt g arg).params.length<=100) (hof:0<=(mAt g arg).owner) (hot:(mAt g arg).owner.toNat < g.types.length):XC 127 [] (⟨g,m,ar,⟨44,arg,t0⟩⟩:RC) (qJ g m ⟨44,arg,t0⟩) uV l:=by
 intro u;refine zI zf Tryz.func127 rfl zws Tryz.ntmps127 zwy63 _ rfl (fun gB hw1=>?_);have cm:XC 179 [] (⟨g,m,ar,⟨44,arg,t0⟩⟩:RC) (pure (mAt g arg):SM Me) (fun d=>.pv (zY d)) l:=zbI _ l h0 h1;have em:(pure (mAt g arg):SM Me) l=.ok (mAt g arg,l):=rfl;obtain ⟨d,hd⟩:∃ d,mAt g arg=d:=⟨_,rfl⟩
 rw [hd] at cm em hp hot hof;have ca:=Qn d 4;have cb:=Qn d 16;have cc:=Qn d 1;have ck:=QH g d.owner;have cA:=zb9 g d zwy62;cases hC1:(qQ d.flags 1)
 ·rw [hC1] at cc;cases hC2:(qQ d.flags 16)
  ·rw [hC2] at cb;cases hC3:(Ye g d.owner != 1)
   ·skip;have hw:(qJ g m ⟨44,arg,t0⟩) l=.error 8:=by simp [qJ,hd,zB,zG,hC1,hC2,hC3,zN,emptyS]
    have b0:=();have b1:=();have b7:=();have b9:=();exact zwk42
   ·skip;cases hS5:(ZM g (Qs g d)) l with
    | error e =>
     have hw:(qJ g m ⟨44,arg,t0⟩) l=.error e:=by simp [qJ,hd,zB,zG,hC1,hC2,hC3,zN,emptyS,hS5]
     have b2:=();have b7:=();have b8:=();have b9:=();exact zwk42
    | ok p =>
     obtain ⟨⟨⟩,l5⟩:=p;have hl5:l5.length<=100:=by have:=Vr hS5;omega
     cases hS6:(YV m.max d) l5 with
     | error e =>
      have hw:(qJ g m ⟨44,arg,t0⟩) l=.error e:=by simp [qJ,hd,zB,zG,hC1,hC2,hC3,zN,emptyS,hS5,hS6]
      have b3:=();have b4:=();have b7:=();have b8:=();exact zwk42
     | ok p =>
      obtain ⟨⟨⟩,l6⟩:=p;have hw:(qJ g m ⟨44,arg,t0⟩) l=.ok ((),l6):=by simp [qJ,hd,zB,zG,hC1,hC2,hC3,zN,emptyS,hS5,hS6]
      have b4:=();have b7:=();have b8:=();have b10:=();exact zwk42
  ·rw [hC2] at cb;have hw:(qJ g m ⟨44,arg,t0⟩) l=.error 8:=by simp [qJ,hd,zB,zG,hC1,hC2,zN,emptyS]
   have b0:=();have b5:=();have b7:=();have b9:=();exact zwk42
 ·rw [hC1] at cc;have hw:(qJ g m ⟨44,arg,t0⟩) l=.error 8:=by simp [qJ,hd,zB,zG,hC1,zN,emptyS]
  have b0:=();have b6:=();have b9:=();exact zwk42
theorem zwk43 {G:Prop} (h:G:=by repeat' (first|(have:=b0;refine qc 17 16 rfl zws zws zws zws zws ?_)|(have:=b1;refine zF ([]) zi rfl rfl rfl tH (yu zwy66 8) ?_)|(have:=b2;refine zo 4 3 rfl rfl rfl ?_)|(have:=b2;refine zF ((yS u ⟨g,m,ar,⟨45,arg,t0⟩⟩ l)) zi rfl rfl rfl tH ((Qb ⟨g,m,ar,⟨45,arg,t0⟩⟩ hF d.params _ zwy62).bad hS7 u) ?_)|(have:=b3;refine zo 5 5 rfl rfl rfl ?_)|(have:=b3;refine zF ((yS u ⟨g,m,ar,⟨45,arg,t0⟩⟩ l7)) zi rfl rfl rfl tH ((zX ⟨g,m,ar,⟨45,arg,t0⟩⟩ [⟨5,d.owner,0,false⟩] _ zwy62 zwy63).bad hS8 u) ?_)|(have:=b4;refine zZ 17 16 rfl zws zws zws zws zws ?_)|(have:=b5;refine zF ([]) zi rfl rfl rfl tH (yu (by first|rfl|assumption|simp [hC1,hC4]) 8) ?_)|refine zy rfl (aj (ps:=(yt g))) rfl rfl ?_|refine zq rfl (aj (ps:=(yt g))) rfl rfl ?_|(refine shC ?_;first|refine qC cb ?_|(have:=b4;refine zy rfl (zJ rfl rfl (zH (by first|rfl|assumption|simp [hC1,hC4]) 8)) rfl rfl ?_)|(have:=b4;refine zq rfl (zJ rfl rfl (zH (by first|rfl|assumption|simp [hC1,hC4]) 8)) rfl rfl ?_)|refine qC ck ?_|refine qC cA ?_)|(refine shX ?_;first|(have:=b6;refine zy rfl (ah hof hte) rfl rfl ?_)|(have:=b6;refine zq rfl (ah hof hte) rfl rfl ?_))|(have:=b7;refine zu ?_;first|(refine ay 0 (cm.ok em) ?_))|(have:=b3;refine zu ?_;first|(refine zx 0 zi rfl rfl ((Qb ⟨g,m,ar,⟨45,arg,t0⟩⟩ hF d.params _ zwy62).ok hS7) rfl rfl rfl rfl rfl ?_)|(refine ay 0 (cm.ok em) ?_))|(have:=b8;refine zu ?_;first|(refine zx 0 zi rfl rfl ((Qb ⟨g,m,ar,⟨45,arg,t0⟩⟩ hF d.params _ zwy62).ok hS7) rfl rfl rfl rfl rfl ?_)|(refine zx 0 zi rfl rfl ((zX ⟨g,m,ar,⟨45,arg,t0⟩⟩ [⟨5,d.owner,0,false⟩] _ zwy62 zwy63).ok hS8) rfl rfl rfl rfl rfl ?_)|(refine ay 0 (cm.ok em) ?_))|refine sK ?_|refine sC (fun _=>?_) (fun _=>?_)|exact zD hw|exact yc hw (yD (.inr rfl) tH)|fail)):G:=h
theorem ztO (g:Img) (hF:Fm g) (m:Me) (ar:List Ty) (arg:Int) (t0:Ty) (l:List Ty) (hl:l.length<=100) (h0:0<=arg) (h1:arg.toNat < g.methods.length) (hp:(mAt g arg).params.length<=100) (hof:0<=(mAt g arg).owner) (hot:(mAt g arg).owner.toNat < g.types.length):XC 127 [] (⟨g,m,ar,⟨45,arg,t0⟩⟩:RC) (qJ g m ⟨45,arg,t0⟩) uV l:=by
 intro u;refine zI zf Tryz.func127 rfl zws Tryz.ntmps127 zwy63 _ rfl (fun gB hw1=>?_);have cm:XC 179 [] (⟨g,m,ar,⟨45,arg,t0⟩⟩:RC) (pure (mAt g arg):SM Me) (fun d=>.pv (zY d)) l:=zbI _ l h0 h1;have em:(pure (mAt g arg):SM Me) l=.ok (mAt g arg,l):=rfl;obtain ⟨d,hd⟩:∃ d,mAt g arg=d:=⟨_,rfl⟩
 rw [hd] at cm em hp hot hof;have ca:=Qn d 4;have cb:=Qn d 16;have cc:=Qn d 1;have ck:=QH g d.owner;have cA:=zb9 g d zwy62;cases hC1:(qQ d.flags 16)
 ·rw [hC1] at cb;have hw:(qJ g m ⟨45,arg,t0⟩) l=.error 8:=by simp [qJ,hd,zB,zG,hC1,zN,emptyS]
  have b0:=();have b1:=();have b7:=();exact zwk43
 ·rw [hC1] at cb;have hte:(g.types.map Zw)[d.owner.toNat]?=some (Zw (tAt g d.owner)):=by rw [tAt,zQ hot];exact zS hot
  cases hC4:(qQ (tAt g d.owner).flags 4)
  ·skip;have hC':(IntKind.i64.wrap ((BitVec.ofInt IntKind.i64.bits (tAt g d.owner).flags &&& BitVec.ofInt IntKind.i64.bits 4).toNat:Int)==0)=!false:=by rw [<-hC4,qQ,bne,Bool.not_not]
   cases hS7:(ZM g d.params) l with
   | error e =>
    have hw:(qJ g m ⟨45,arg,t0⟩) l=.error e:=by simp [qJ,hd,zB,zG,hC1,hC4,zN,emptyS,hS7]
    have b2:=();have b4:=();have b6:=();have b7:=();exact zwk43
   | ok p =>
    obtain ⟨⟨⟩,l7⟩:=p;have hl7:l7.length<=100:=by have:=Vr hS7;omega
    cases hS8:(qg m.max [⟨5,d.owner,0,false⟩]) l7 with
    | error e =>
     have hw:(qJ g m ⟨45,arg,t0⟩) l=.error e:=by simp [qJ,hd,zB,zG,hC1,hC4,zN,emptyS,hS7,hS8]
     have b3:=();have b4:=();have b6:=();exact zwk43
    | ok p =>
     obtain ⟨⟨⟩,l8⟩:=p;have hw:(qJ g m ⟨45,arg,t0⟩) l=.ok ((),l8):=by simp [qJ,hd,zB,zG,hC1,hC4,zN,emptyS,hS7,hS8]
     have b4:=();have b6:=();have b8:=();exact zwk43
  ·skip;have hC':(IntKind.i64.wrap ((BitVec.ofInt IntKind.i64.bits (tAt g d.owner).flags &&& BitVec.ofInt IntKind.i64.bits 4).toNat:Int)==0)=!true:=by rw [<-hC4,qQ,bne,Bool.not_not]
   have hw:(qJ g m ⟨45,arg,t0⟩) l=.error 8:=by simp [qJ,hd,zB,zG,hC1,hC4,zN,emptyS]
   have b0:=();have b5:=();have b6:=();have b7:=();exact zwk43
set_option maxHeartbeats 20000000
theorem zwk44 {G:Prop} (h:G:=by repeat' (first|(have:=b0;refine qc 6 5 rfl zws zws zws zws zws ?_)|(have:=b0;refine zF ((yS u ⟨g,m,ar,⟨55,arg,t0⟩⟩ l)) zi rfl rfl rfl tH ((Yx ⟨g,m,ar,⟨55,arg,t0⟩⟩ hF [rfT t0,t0] _ zwy62).bad hS1 u) ?_)|(have:=b1;refine zZ 6 5 rfl zws zws zws zws zws ?_)|refine zy rfl (aj (ps:=(yU t0))) rfl rfl ?_|refine zq rfl (aj (ps:=(yU t0))) rfl rfl ?_|(refine shC ?_;first|refine qC cr ?_)|(have:=b1;refine zu ?_;first|(refine zx 0 zi rfl rfl ((Yx ⟨g,m,ar,⟨55,arg,t0⟩⟩ hF [rfT t0,t0] _ zwy62).ok hS1) rfl rfl rfl rfl rfl ?_))|refine sK ?_|refine sC (fun _=>?_) (fun _=>?_)|exact zD hw|exact yc hw (yD (.inr rfl) tH)|fail)):G:=h
theorem zq4 (g:Img) (hF:Fm g) (m:Me) (ar:List Ty) (arg:Int) (t0:Ty) (l:List Ty) (hl:l.length<=100):XC 129 [] (⟨g,m,ar,⟨55,arg,t0⟩⟩:RC) (Ze g m ⟨55,arg,t0⟩) uV l:=by
 intro u;refine zI zf Tryz.func129 rfl zws Tryz.ntmps129 zwy63 _ rfl (fun gB hw1=>?_);have cr:=Yn t0;cases hS1:(ZM g [rfT t0,t0]) l with
 | error e =>
  have hw:(Ze g m ⟨55,arg,t0⟩) l=.error e:=by simp [Ze,zB,zG,hS1]
  have b0:=();exact zwk44
 | ok p =>
  obtain ⟨⟨⟩,l1⟩:=p;have hl1:l1.length<=100:=by have:=Vr hS1;omega
  have hw:(Ze g m ⟨55,arg,t0⟩) l=.ok ((),l1):=by simp [Ze,zB,zG,hS1]
  have b1:=();exact zwk44
theorem zwk45 {G:Prop} (h:G:=by repeat' (first|(have:=b0;refine zo 4 1 rfl rfl rfl ?_)|(have:=b0;refine zF ((yS u ⟨g,m,ar,⟨57,arg,t0⟩⟩ l)) zi rfl rfl rfl tH ((ZE ⟨g,m,ar,⟨57,arg,t0⟩⟩ _ h0 h1).bad hS1 u) ?_)|(have:=b1;refine zo 11 2 rfl rfl rfl ?_)|(have:=b1;refine zF ((yS u ⟨g,m,ar,⟨57,arg,t0⟩⟩ l1)) zi rfl rfl rfl tH ((qw ⟨g,m,ar,⟨57,arg,t0⟩⟩ hF (kTy 2) _ zwy62).bad hS2 u) ?_)|(have:=b2;refine zo 12 3 rfl rfl rfl ?_)|(have:=b2;refine zF ((yS u ⟨g,m,ar,⟨57,arg,t0⟩⟩ l2)) zi rfl rfl rfl tH ((zX ⟨g,m,ar,⟨57,arg,t0⟩⟩ [a] _ zwy62 zwy63).bad hS3 u) ?_)|refine zy rfl (aj (ps:=(yU t0))) rfl rfl ?_|refine zq rfl (aj (ps:=(yU t0))) rfl rfl ?_|(refine shC ?_;first|refine qC (zT 2) ?_)|(have:=b1;refine zu ?_;first|(refine zx 0 zi rfl rfl ((ZE ⟨g,m,ar,⟨57,arg,t0⟩⟩ _ h0 h1).ok hS1) rfl rfl rfl rfl rfl ?_))|(have:=b2;refine zu ?_;first|(refine zx 0 zi rfl rfl ((ZE ⟨g,m,ar,⟨57,arg,t0⟩⟩ _ h0 h1).ok hS1) rfl rfl rfl rfl rfl ?_)|(refine zx 0 zi rfl rfl ((qw ⟨g,m,ar,⟨57,arg,t0⟩⟩ hF (kTy 2) _ zwy62).ok hS2) rfl rfl rfl rfl rfl ?_))|(have:=b3;refine zu ?_;first|(refine zx 0 zi rfl rfl ((ZE ⟨g,m,ar,⟨57,arg,t0⟩⟩ _ h0 h1).ok hS1) rfl rfl rfl rfl rfl ?_)|(refine zx 0 zi rfl rfl ((qw ⟨g,m,ar,⟨57,arg,t0⟩⟩ hF (kTy 2) _ zwy62).ok hS2) rfl rfl rfl rfl rfl ?_)|(refine zx 0 zi rfl rfl ((zX ⟨g,m,ar,⟨57,arg,t0⟩⟩ [a] _ zwy62 zwy63).ok hS3) rfl rfl rfl rfl rfl ?_))|refine sK ?_|refine sC (fun _=>?_) (fun _=>?_)|exact zD hw|exact yc hw (yD (.inl rfl) tH)|fail)):G:=h
theorem zsr (g:Img) (hF:Fm g) (m:Me) (ar:List Ty) (arg:Int) (t0:Ty) (l:List Ty) (hl:l.length<=100) (h0:0<=t0.dims) (h1:t0.dims<=100):XC 130 [] (⟨g,m,ar,⟨57,arg,t0⟩⟩:RC) (yJ g m ⟨57,arg,t0⟩) uV l:=by
 intro u;refine zI zf Tryz.func130 rfl zws Tryz.ntmps130 zwy63 _ rfl (fun gB hw1=>?_);cases hS1:(Vk ⟨57,arg,t0⟩) l with
 | error e =>
  have hw:(yJ g m ⟨57,arg,t0⟩) l=.error e:=by simp [yJ,zB,zG,hS1]
  have b0:=();exact zwk45
 | ok p =>
  obtain ⟨a,l1⟩:=p;have hl1:l1.length<=100:=by have:=zcc hS1;omega
  cases hS2:(YK g (kTy 2)) l1 with
  | error e =>
   have hw:(yJ g m ⟨57,arg,t0⟩) l=.error e:=by simp [yJ,zB,zG,hS1,hS2]
   have b1:=();exact zwk45
  | ok p =>
   obtain ⟨⟨⟩,l2⟩:=p;have hl2:l2.length<=100:=by have:=VL hS2;omega
   cases hS3:(qg m.max [a]) l2 with
   | error e =>
    have hw:(yJ g m ⟨57,arg,t0⟩) l=.error e:=by simp [yJ,zB,zG,hS1,hS2,hS3]
    have b2:=();exact zwk45
   | ok p =>
    obtain ⟨⟨⟩,l3⟩:=p;have hw:(yJ g m ⟨57,arg,t0⟩) l=.ok ((),l3):=by simp [yJ,zB,zG,hS1,hS2,hS3]
    have b3:=();exact zwk45
theorem zwk46 {G:Prop} (h:G:=by repeat' (first|(have:=b0;refine zo 1 1 rfl rfl rfl ?_)|(have:=b0;refine zF ((yS u ⟨g,m,ar,⟨58,arg,t0⟩⟩ l)) zi rfl rfl rfl tH ((yw ⟨g,m,ar,⟨58,arg,t0⟩⟩ _ zwy62).bad hS1 u) ?_)|(have:=b1;refine zo 2 12 rfl rfl rfl ?_)|(have:=b2;refine zF ([]) zi rfl rfl rfl tH (yu zwy88 10) ?_)|(have:=b3;refine zF ([]) zi rfl rfl rfl tH (yu zwy118 10) ?_)|(have:=b4;refine zo 3 3 rfl rfl rfl ?_)|(have:=b5;refine zF ((yS u ⟨g,m,ar,⟨58,arg,t0⟩⟩ l1)) zi rfl rfl rfl tH ((zX ⟨g,m,ar,⟨58,arg,t0⟩⟩ [kTy 2] _ zwy62 zwy63).bad hS7 u) ?_)|(have:=b6;refine zF ((yS u ⟨g,m,ar,⟨58,arg,t0⟩⟩ l1)) zi rfl rfl rfl tH ((zX ⟨g,m,ar,⟨58,arg,t0⟩⟩ [kTy 2] _ zwy62 zwy63).bad hS6 u) ?_)|(refine shC ?_;first|(have:=b7;refine qC cx ?_)|(have:=b8;refine zy rfl (zJ rfl rfl (zH zwy118 10)) rfl rfl ?_)|(have:=b8;refine zq rfl (zJ rfl rfl (zH zwy118 10)) rfl rfl ?_)|(have:=b9;refine zy rfl (zJ rfl rfl (zH zwy92 10)) rfl rfl ?_)|(have:=b9;refine zq rfl (zJ rfl rfl (zH zwy92 10)) rfl rfl ?_)|refine qC (zT 2) ?_)|(have:=b10;refine zu ?_;first|(refine zx 0 zi rfl rfl ((yw ⟨g,m,ar,⟨58,arg,t0⟩⟩ _ zwy62).ok hS1) rfl rfl rfl rfl rfl ?_))|(have:=b11;refine zu ?_;first|(refine zx 0 zi rfl rfl ((yw ⟨g,m,ar,⟨58,arg,t0⟩⟩ _ zwy62).ok hS1) rfl rfl rfl rfl rfl ?_)|(refine zx 0 zi rfl rfl ((zX ⟨g,m,ar,⟨58,arg,t0⟩⟩ [kTy 2] _ zwy62 zwy63).ok hS7) rfl rfl rfl rfl rfl ?_))|(have:=b12;refine zu ?_;first|(refine zx 0 zi rfl rfl ((yw ⟨g,m,ar,⟨58,arg,t0⟩⟩ _ zwy62).ok hS1) rfl rfl rfl rfl rfl ?_)|(refine zx 0 zi rfl rfl ((zX ⟨g,m,ar,⟨58,arg,t0⟩⟩ [kTy 2] _ zwy62 zwy63).ok hS6) rfl rfl rfl rfl rfl ?_))|refine sK ?_|refine sC (fun _=>?_) (fun _=>?_)|exact zD hw|exact yc hw (yD (.inr rfl) tH)|fail)):G:=h
theorem zsc (g:Img) (hF:Fm g) (m:Me) (ar:List Ty) (arg:Int) (t0:Ty) (l:List Ty) (hl:l.length<=100):XC 130 [] (⟨g,m,ar,⟨58,arg,t0⟩⟩:RC) (yJ g m ⟨58,arg,t0⟩) uV l:=by
 intro u;refine zI zf Tryz.func130 rfl zws Tryz.ntmps130 zwy63 _ rfl (fun gB hw1=>?_);cases hS1:(Qp) l with
 | error e =>
  have hw:(yJ g m ⟨58,arg,t0⟩) l=.error e:=by simp [yJ,zB,zG,hS1]
  have b0:=();exact zwk46
 | ok p =>
  obtain ⟨t,l1⟩:=p;have hl1:l1.length<=100:=by have:=Wh hS1;omega
  have cx:=qY t;cases hC3:(object t)
  ·rw [hC3] at cx;have hw:(yJ g m ⟨58,arg,t0⟩) l=.error 10:=by simp [yJ,zB,zG,hS1,hC3,zN,emptyS]
   have b1:=();have b2:=();have b7:=();have b10:=();exact zwk46
  ·rw [hC3] at cx;cases hC4:(decide (0 < t.dims))
   ·skip;cases hC5:(t.kind==8)
    ·skip;have hw:(yJ g m ⟨58,arg,t0⟩) l=.error 10:=by simp [yJ,zB,zG,hS1,hC3,hC4,hC5,zN,emptyS]
     have b1:=();have b3:=();have b7:=();have b10:=();exact zwk46
    ·skip;cases hS7:(qg m.max [kTy 2]) l1 with
     | error e =>
      have hw:(yJ g m ⟨58,arg,t0⟩) l=.error e:=by simp [yJ,zB,zG,hS1,hC3,hC4,hC5,zN,emptyS,hS7]
      have b4:=();have b5:=();have b7:=();have b8:=();have b10:=();exact zwk46
     | ok p =>
      obtain ⟨⟨⟩,l7⟩:=p;have hw:(yJ g m ⟨58,arg,t0⟩) l=.ok ((),l7):=by simp [yJ,zB,zG,hS1,hC3,hC4,hC5,zN,emptyS,hS7]
      have b7:=();have b8:=();have b11:=();exact zwk46
   ·skip;cases hS6:(qg m.max [kTy 2]) l1 with
    | error e =>
     have hw:(yJ g m ⟨58,arg,t0⟩) l=.error e:=by simp [yJ,zB,zG,hS1,hC3,hC4,zN,emptyS,hS6]
     have b4:=();have b6:=();have b7:=();have b9:=();have b10:=();exact zwk46
    | ok p =>
     obtain ⟨⟨⟩,l6⟩:=p;have hw:(yJ g m ⟨58,arg,t0⟩) l=.ok ((),l6):=by simp [yJ,zB,zG,hS1,hC3,hC4,zN,emptyS,hS6]
     have b7:=();have b9:=();have b12:=();exact zwk46
theorem zwk47 {G:Prop} (h:G:=by repeat' (first|(have:=b0;refine zo 4 1 rfl rfl rfl ?_)|(have:=b0;refine zF ((yS u ⟨g,m,ar,⟨59,arg,t0⟩⟩ l)) zi rfl rfl rfl tH ((ZE ⟨g,m,ar,⟨59,arg,t0⟩⟩ _ h0 h1).bad hS1 u) ?_)|(have:=b1;refine qc 5 4 rfl zws zws zws zws zws ?_)|(have:=b1;refine zF ((yS u ⟨g,m,ar,⟨59,arg,t0⟩⟩ l1)) zi rfl rfl rfl tH ((Yx ⟨g,m,ar,⟨59,arg,t0⟩⟩ hF [a,kTy 2] _ zwy62).bad hS2 u) ?_)|(have:=b2;refine zo 8 7 rfl rfl rfl ?_)|(have:=b2;refine zF ((yS u ⟨g,m,ar,⟨59,arg,t0⟩⟩ l2)) zi rfl rfl rfl tH ((zX ⟨g,m,ar,⟨59,arg,t0⟩⟩ [t0] _ zwy62 zwy63).bad hS3 u) ?_)|(have:=b3;refine zZ 5 4 rfl zws zws zws zws zws ?_)|refine zy rfl (aj (ps:=(yU t0))) rfl rfl ?_|refine zq rfl (aj (ps:=(yU t0))) rfl rfl ?_|(refine shC ?_;first|refine qC (zT 2) ?_)|(have:=b1;refine zu ?_;first|(refine zx 0 zi rfl rfl ((ZE ⟨g,m,ar,⟨59,arg,t0⟩⟩ _ h0 h1).ok hS1) rfl rfl rfl rfl rfl ?_))|(have:=b2;refine zu ?_;first|(refine zx 0 zi rfl rfl ((ZE ⟨g,m,ar,⟨59,arg,t0⟩⟩ _ h0 h1).ok hS1) rfl rfl rfl rfl rfl ?_)|(refine zx 0 zi rfl rfl ((Yx ⟨g,m,ar,⟨59,arg,t0⟩⟩ hF [a,kTy 2] _ zwy62).ok hS2) rfl rfl rfl rfl rfl ?_))|(have:=b4;refine zu ?_;first|(refine zx 0 zi rfl rfl ((ZE ⟨g,m,ar,⟨59,arg,t0⟩⟩ _ h0 h1).ok hS1) rfl rfl rfl rfl rfl ?_)|(refine zx 0 zi rfl rfl ((Yx ⟨g,m,ar,⟨59,arg,t0⟩⟩ hF [a,kTy 2] _ zwy62).ok hS2) rfl rfl rfl rfl rfl ?_)|(refine zx 0 zi rfl rfl ((zX ⟨g,m,ar,⟨59,arg,t0⟩⟩ [t0] _ zwy62 zwy63).ok hS3) rfl rfl rfl rfl rfl ?_))|refine sK ?_|refine sC (fun _=>?_) (fun _=>?_)|exact zD hw|exact yc hw (yD (.inl rfl) tH)|fail)):G:=h
theorem zsi (g:Img) (hF:Fm g) (m:Me) (ar:List Ty) (arg:Int) (t0:Ty) (l:List Ty) (hl:l.length<=100) (h0:0<=t0.dims) (h1:t0.dims<=100):XC 130 [] (⟨g,m,ar,⟨59,arg,t0⟩⟩:RC) (yJ g m ⟨59,arg,t0⟩) uV l:=by
 intro u;refine zI zf Tryz.func130 rfl zws Tryz.ntmps130 zwy63 _ rfl (fun gB hw1=>?_);cases hS1:(Vk ⟨59,arg,t0⟩) l with
 | error e =>
  have hw:(yJ g m ⟨59,arg,t0⟩) l=.error e:=by simp [yJ,zB,zG,hS1]
  have b0:=();exact zwk47
 | ok p =>
  obtain ⟨a,l1⟩:=p;have hl1:l1.length<=100:=by have:=zcc hS1;omega
  cases hS2:(ZM g [a,kTy 2]) l1 with
  | error e =>
   have hw:(yJ g m ⟨59,arg,t0⟩) l=.error e:=by simp [yJ,zB,zG,hS1,hS2]
   have b1:=();exact zwk47
  | ok p =>
   obtain ⟨⟨⟩,l2⟩:=p;have hl2:l2.length<=100:=by have:=Vr hS2;omega
   cases hS3:(qg m.max [t0]) l2 with
   | error e =>
    have hw:(yJ g m ⟨59,arg,t0⟩) l=.error e:=by simp [yJ,zB,zG,hS1,hS2,hS3]
    have b2:=();have b3:=();exact zwk47
   | ok p =>
    obtain ⟨⟨⟩,l3⟩:=p;have hw:(yJ g m ⟨59,arg,t0⟩) l=.ok ((),l3):=by simp [yJ,zB,zG,hS1,hS2,hS3]
    have b3:=();have b4:=();exact zwk47
theorem zwk48 {G:Prop} (h:G:=by repeat' (first|(have:=b0;refine zo 4 1 rfl rfl rfl ?_)|(have:=b0;refine zF ((yS u ⟨g,m,ar,⟨60,arg,t0⟩⟩ l)) zi rfl rfl rfl tH ((ZE ⟨g,m,ar,⟨60,arg,t0⟩⟩ _ h0 h1).bad hS1 u) ?_)|(have:=b1;refine qc 10 9 rfl zws zws zws zws zws ?_)|(have:=b1;refine zF ((yS u ⟨g,m,ar,⟨60,arg,t0⟩⟩ l1)) zi rfl rfl rfl tH ((Yx ⟨g,m,ar,⟨60,arg,t0⟩⟩ hF [a,kTy 2,t0] _ zwy62).bad hS2 u) ?_)|(have:=b2;refine zZ 10 9 rfl zws zws zws zws zws ?_)|refine zy rfl (aj (ps:=(yU t0))) rfl rfl ?_|refine zq rfl (aj (ps:=(yU t0))) rfl rfl ?_|(refine shC ?_;first|refine qC (zT 2) ?_)|(have:=b1;refine zu ?_;first|(refine zx 0 zi rfl rfl ((ZE ⟨g,m,ar,⟨60,arg,t0⟩⟩ _ h0 h1).ok hS1) rfl rfl rfl rfl rfl ?_))|(have:=b2;refine zu ?_;first|(refine zx 0 zi rfl rfl ((ZE ⟨g,m,ar,⟨60,arg,t0⟩⟩ _ h0 h1).ok hS1) rfl rfl rfl rfl rfl ?_)|(refine zx 0 zi rfl rfl ((Yx ⟨g,m,ar,⟨60,arg,t0⟩⟩ hF [a,kTy 2,t0] _ zwy62).ok hS2) rfl rfl rfl rfl rfl ?_))|refine sK ?_|refine sC (fun _=>?_) (fun _=>?_)|exact zD hw|exact yc hw (yD (.inl rfl) tH)|fail)):G:=h
theorem zr9 (g:Img) (hF:Fm g) (m:Me) (ar:List Ty) (arg:Int) (t0:Ty) (l:List Ty) (hl:l.length<=100) (h0:0<=t0.dims) (h1:t0.dims<=100):XC 130 [] (⟨g,m,ar,⟨60,arg,t0⟩⟩:RC) (yJ g m ⟨60,arg,t0⟩) uV l:=by
 intro u;refine zI zf Tryz.func130 rfl zws Tryz.ntmps130 zwy63 _ rfl (fun gB hw1=>?_);cases hS1:(Vk ⟨60,arg,t0⟩) l with
 | error e =>
  have hw:(yJ g m ⟨60,arg,t0⟩) l=.error e:=by simp [yJ,zB,zG,hS1]
  have b0:=();exact zwk48
 | ok p =>
  obtain ⟨a,l1⟩:=p;have hl1:l1.length<=100:=by have:=zcc hS1;omega
  cases hS2:(ZM g [a,kTy 2,t0]) l1 with
  | error e =>
   have hw:(yJ g m ⟨60,arg,t0⟩) l=.error e:=by simp [yJ,zB,zG,hS1,hS2]
   have b1:=();exact zwk48
  | ok p =>
   obtain ⟨⟨⟩,l2⟩:=p;have hl2:l2.length<=100:=by have:=Vr hS2;omega
   have hw:(yJ g m ⟨60,arg,t0⟩) l=.ok ((),l2):=by simp [yJ,zB,zG,hS1,hS2]
   have b2:=();exact zwk48
theorem zwk49 {G:Prop} (h:G:=by repeat' (first|(have:=b0;refine zo 4 1 rfl rfl rfl ?_)|(have:=b0;refine zF ((yS u ⟨g,m,ar,⟨61,arg,t0⟩⟩ l)) zi rfl rfl rfl tH ((ZE ⟨g,m,ar,⟨61,arg,t0⟩⟩ _ h0 h1).bad hS1 u) ?_)|(have:=b1;refine qc 5 4 rfl zws zws zws zws zws ?_)|(have:=b1;refine zF ((yS u ⟨g,m,ar,⟨61,arg,t0⟩⟩ l1)) zi rfl rfl rfl tH ((Yx ⟨g,m,ar,⟨61,arg,t0⟩⟩ hF [a,kTy 2] _ zwy62).bad hS2 u) ?_)|(have:=b2;refine zo 9 8 rfl rfl rfl ?_)|(have:=b2;refine zF ((yS u ⟨g,m,ar,⟨61,arg,t0⟩⟩ l2)) zi rfl rfl rfl tH ((zX ⟨g,m,ar,⟨61,arg,t0⟩⟩ [rfT t0] _ zwy62 zwy63).bad hS3 u) ?_)|(have:=b3;refine zZ 5 4 rfl zws zws zws zws zws ?_)|refine zy rfl (aj (ps:=(yU t0))) rfl rfl ?_|refine zq rfl (aj (ps:=(yU t0))) rfl rfl ?_|(refine shC ?_;first|refine qC (zT 2) ?_|refine qC cr ?_)|(have:=b1;refine zu ?_;first|(refine zx 0 zi rfl rfl ((ZE ⟨g,m,ar,⟨61,arg,t0⟩⟩ _ h0 h1).ok hS1) rfl rfl rfl rfl rfl ?_))|(have:=b2;refine zu ?_;first|(refine zx 0 zi rfl rfl ((ZE ⟨g,m,ar,⟨61,arg,t0⟩⟩ _ h0 h1).ok hS1) rfl rfl rfl rfl rfl ?_)|(refine zx 0 zi rfl rfl ((Yx ⟨g,m,ar,⟨61,arg,t0⟩⟩ hF [a,kTy 2] _ zwy62).ok hS2) rfl rfl rfl rfl rfl ?_))|(have:=b4;refine zu ?_;first|(refine zx 0 zi rfl rfl ((ZE ⟨g,m,ar,⟨61,arg,t0⟩⟩ _ h0 h1).ok hS1) rfl rfl rfl rfl rfl ?_)|(refine zx 0 zi rfl rfl ((Yx ⟨g,m,ar,⟨61,arg,t0⟩⟩ hF [a,kTy 2] _ zwy62).ok hS2) rfl rfl rfl rfl rfl ?_)|(refine zx 0 zi rfl rfl ((zX ⟨g,m,ar,⟨61,arg,t0⟩⟩ [rfT t0] _ zwy62 zwy63).ok hS3) rfl rfl rfl rfl rfl ?_))|refine sK ?_|refine sC (fun _=>?_) (fun _=>?_)|exact zD hw|exact yc hw (yD (.inl rfl) tH)|fail)):G:=h
theorem zso (g:Img) (hF:Fm g) (m:Me) (ar:List Ty) (arg:Int) (t0:Ty) (l:List Ty) (hl:l.length<=100) (h0:0<=t0.dims) (h1:t0.dims<=100):XC 130 [] (⟨g,m,ar,⟨61,arg,t0⟩⟩:RC) (yJ g m ⟨61,arg,t0⟩) uV l:=by
 intro u;refine zI zf Tryz.func130 rfl zws Tryz.ntmps130 zwy63 _ rfl (fun gB hw1=>?_);have cr:=Yn t0;cases hS1:(Vk ⟨61,arg,t0⟩) l with
 | error e =>
  have hw:(yJ g m ⟨61,arg,t0⟩) l=.error e:=by simp [yJ,zB,zG,hS1]
  have b0:=();exact zwk49
 | ok p =>
  obtain ⟨a,l1⟩:=p;have hl1:l1.length<=100:=by have:=zcc hS1;omega
  cases hS2:(ZM g [a,kTy 2]) l1 with
  | error e =>
   have hw:(yJ g m ⟨61,arg,t0⟩) l=.error e:=by simp [yJ,zB,zG,hS1,hS2]
   have b1:=();exact zwk49
  | ok p =>
   obtain ⟨⟨⟩,l2⟩:=p;have hl2:l2.length<=100:=by have:=Vr hS2;omega
   cases hS3:(qg m.max [rfT t0]) l2 with
   | error e =>
    have hw:(yJ g m ⟨61,arg,t0⟩) l=.error e:=by simp [yJ,zB,zG,hS1,hS2,hS3]
    have b2:=();have b3:=();exact zwk49
   | ok p =>
    obtain ⟨⟨⟩,l3⟩:=p;have hw:(yJ g m ⟨61,arg,t0⟩) l=.ok ((),l3):=by simp [yJ,zB,zG,hS1,hS2,hS3]
    have b3:=();have b4:=();exact zwk49
set_option maxHeartbeats 20000000
theorem zxf (g:Img) (hF:Fm g) (m:Me) (ar:List Ty) (arg:Int) (t0:Ty) (l:List Ty) (hl:l.length<=100) (h0:0<=arg):XC 124 [] (⟨g,m,ar,⟨2,arg,t0⟩⟩:RC) (Zb g ar m ⟨2,arg,t0⟩) uV l:=by
 intro u;refine zI zf Tryz.func124 rfl zws Tryz.ntmps124 zwy63 _ rfl (fun gB hw1=>?_);cases hS1:(zbc ⟨2,arg,t0⟩ ar) l with
 | error e =>
  have hw:(Zb g ar m ⟨2,arg,t0⟩) l=.error e:=by simp [Zb,zB,zG,hS1]
  repeat' (first|refine zo 6 2 rfl rfl rfl ?_|refine zF ((yS u ⟨g,m,ar,⟨2,arg,t0⟩⟩ l)) zi rfl rfl rfl tH ((Zx ⟨g,m,ar,⟨2,arg,t0⟩⟩ ar _ h0).bad hS1 u) ?_|refine sK ?_|refine sC (fun _=>?_) (fun _=>?_)|fail)
  exact zD hw
 | ok p =>
  obtain ⟨t,l1⟩:=p;have hl1:l1.length<=100:=by have:=zbj hS1;omega
  cases hS2:(qg m.max [t]) l1 with
  | error e =>
   have hw:(Zb g ar m ⟨2,arg,t0⟩) l=.error e:=by simp [Zb,zB,zG,hS1,hS2]
   repeat' (first|refine zo 11 3 rfl rfl rfl ?_|refine zF ((yS u ⟨g,m,ar,⟨2,arg,t0⟩⟩ l1)) zi rfl rfl rfl tH ((zX ⟨g,m,ar,⟨2,arg,t0⟩⟩ [t] _ zwy62 zwy63).bad hS2 u) ?_|(refine zu ?_;first|(refine zx 0 zi rfl rfl ((Zx ⟨g,m,ar,⟨2,arg,t0⟩⟩ ar _ h0).ok hS1) rfl rfl rfl rfl rfl ?_))|refine sK ?_|refine sC (fun _=>?_) (fun _=>?_)|fail)
   exact zD hw
  | ok p =>
   obtain ⟨⟨⟩,l2⟩:=p;have hw:(Zb g ar m ⟨2,arg,t0⟩) l=.ok ((),l2):=by simp [Zb,zB,zG,hS1,hS2]
   repeat' (first|(refine zu ?_;first|(refine zx 0 zi rfl rfl ((Zx ⟨g,m,ar,⟨2,arg,t0⟩⟩ ar _ h0).ok hS1) rfl rfl rfl rfl rfl ?_)|(refine zx 0 zi rfl rfl ((zX ⟨g,m,ar,⟨2,arg,t0⟩⟩ [t] _ zwy62 zwy63).ok hS2) rfl rfl rfl rfl rfl ?_))|refine sK ?_|refine sC (fun _=>?_) (fun _=>?_)|fail)
   exact yc hw (yD (.inl rfl) tH)
theorem zw7 (g:Img) (hF:Fm g) (m:Me) (ar:List Ty) (arg:Int) (t0:Ty) (l:List Ty) (hl:l.length<=100) (h0:0<=arg):XC 124 [] (⟨g,m,ar,⟨3,arg,t0⟩⟩:RC) (Zb g ar m ⟨3,arg,t0⟩) uV l:=by
 intro u;refine zI zf Tryz.func124 rfl zws Tryz.ntmps124 zwy63 _ rfl (fun gB hw1=>?_);cases hS1:(zbc ⟨3,arg,t0⟩ ar) l with
 | error e =>
  have hw:(Zb g ar m ⟨3,arg,t0⟩) l=.error e:=by simp [Zb,zB,zG,hS1]
  repeat' (first|refine zo 6 2 rfl rfl rfl ?_|refine zF ((yS u ⟨g,m,ar,⟨3,arg,t0⟩⟩ l)) zi rfl rfl rfl tH ((Zx ⟨g,m,ar,⟨3,arg,t0⟩⟩ ar _ h0).bad hS1 u) ?_|refine sK ?_|refine sC (fun _=>?_) (fun _=>?_)|fail)
  exact zD hw
 | ok p =>
  obtain ⟨t,l1⟩:=p;have hl1:l1.length<=100:=by have:=zbj hS1;omega
  cases hS2:(YK g t) l1 with
  | error e =>
   have hw:(Zb g ar m ⟨3,arg,t0⟩) l=.error e:=by simp [Zb,zB,zG,hS1,hS2]
   repeat' (first|refine zo 14 2 rfl rfl rfl ?_|refine zF ((yS u ⟨g,m,ar,⟨3,arg,t0⟩⟩ l1)) zi rfl rfl rfl tH ((qw ⟨g,m,ar,⟨3,arg,t0⟩⟩ hF t _ zwy62).bad hS2 u) ?_|(refine zu ?_;first|(refine zx 0 zi rfl rfl ((Zx ⟨g,m,ar,⟨3,arg,t0⟩⟩ ar _ h0).ok hS1) rfl rfl rfl rfl rfl ?_))|refine sK ?_|refine sC (fun _=>?_) (fun _=>?_)|fail)
   exact zD hw
  | ok p =>
   obtain ⟨⟨⟩,l2⟩:=p;have hw:(Zb g ar m ⟨3,arg,t0⟩) l=.ok ((),l2):=by simp [Zb,zB,zG,hS1,hS2]
   repeat' (first|(refine zu ?_;first|(refine zx 0 zi rfl rfl ((Zx ⟨g,m,ar,⟨3,arg,t0⟩⟩ ar _ h0).ok hS1) rfl rfl rfl rfl rfl ?_)|(refine zx 0 zi rfl rfl ((qw ⟨g,m,ar,⟨3,arg,t0⟩⟩ hF t _ zwy62).ok hS2) rfl rfl rfl rfl rfl ?_))|refine sK ?_|refine sC (fun _=>?_) (fun _=>?_)|fail)
   exact yc hw (yD (.inl rfl) tH)
theorem zw0 (g:Img) (hF:Fm g) (m:Me) (ar:List Ty) (arg:Int) (t0:Ty) (l:List Ty) (hl:l.length<=100) (h0:0<=arg):XC 124 [] (⟨g,m,ar,⟨4,arg,t0⟩⟩:RC) (Zb g ar m ⟨4,arg,t0⟩) uV l:=by
 intro u;refine zI zf Tryz.func124 rfl zws Tryz.ntmps124 zwy63 _ rfl (fun gB hw1=>?_);cases hS1:(zbc ⟨4,arg,t0⟩ ar) l with
 | error e =>
  have hw:(Zb g ar m ⟨4,arg,t0⟩) l=.error e:=by simp [Zb,zB,zG,hS1]
  repeat' (first|refine zo 6 2 rfl rfl rfl ?_|refine zF ((yS u ⟨g,m,ar,⟨4,arg,t0⟩⟩ l)) zi rfl rfl rfl tH ((Zx ⟨g,m,ar,⟨4,arg,t0⟩⟩ ar _ h0).bad hS1 u) ?_|refine sK ?_|refine sC (fun _=>?_) (fun _=>?_)|fail)
  exact zD hw
 | ok p =>
  obtain ⟨t,l1⟩:=p;have hl1:l1.length<=100:=by have:=zbj hS1;omega
  cases hS2:(QV m.max t) l1 with
  | error e =>
   have hw:(Zb g ar m ⟨4,arg,t0⟩) l=.error e:=by simp [Zb,zB,zG,hS1,hS2]
   repeat' (first|refine zo 8 2 rfl rfl rfl ?_|refine zF ((yS u ⟨g,m,ar,⟨4,arg,t0⟩⟩ l1)) zi rfl rfl rfl tH ((zax ⟨g,m,ar,⟨4,arg,t0⟩⟩ t _ zwy62).bad hS2 u) ?_|(refine zu ?_;first|(refine zx 0 zi rfl rfl ((Zx ⟨g,m,ar,⟨4,arg,t0⟩⟩ ar _ h0).ok hS1) rfl rfl rfl rfl rfl ?_))|refine sK ?_|refine sC (fun _=>?_) (fun _=>?_)|fail)
   exact zD hw
  | ok p =>
   obtain ⟨⟨⟩,l2⟩:=p;have hw:(Zb g ar m ⟨4,arg,t0⟩) l=.ok ((),l2):=by simp [Zb,zB,zG,hS1,hS2]
   repeat' (first|(refine zu ?_;first|(refine zx 0 zi rfl rfl ((Zx ⟨g,m,ar,⟨4,arg,t0⟩⟩ ar _ h0).ok hS1) rfl rfl rfl rfl rfl ?_)|(refine zx 0 zi rfl rfl ((zax ⟨g,m,ar,⟨4,arg,t0⟩⟩ t _ zwy62).ok hS2) rfl rfl rfl rfl rfl ?_))|refine sK ?_|refine sC (fun _=>?_) (fun _=>?_)|fail)
   exact yc hw (yD (.inl rfl) tH)
theorem zw2 (g:Img) (hF:Fm g) (m:Me) (ar:List Ty) (arg:Int) (t0:Ty) (l:List Ty) (hl:l.length<=100) (h0:0<=arg):XC 124 [] (⟨g,m,ar,⟨5,arg,t0⟩⟩:RC) (Zb g ar m ⟨5,arg,t0⟩) uV l:=by
 intro u;refine zI zf Tryz.func124 rfl zws Tryz.ntmps124 zwy63 _ rfl (fun gB hw1=>?_);cases hS1:(zbc ⟨5,arg,t0⟩ m.locals) l with
 | error e =>
  have hw:(Zb g ar m ⟨5,arg,t0⟩) l=.error e:=by simp [Zb,zB,zG,hS1]
  repeat' (first|refine zo 6 2 rfl rfl rfl ?_|refine zF ((yS u ⟨g,m,ar,⟨5,arg,t0⟩⟩ l)) zi rfl rfl rfl tH ((Zx ⟨g,m,ar,⟨5,arg,t0⟩⟩ m.locals _ h0).bad hS1 u) ?_|refine sK ?_|refine sC (fun _=>?_) (fun _=>?_)|fail)
  exact zD hw
 | ok p =>
  obtain ⟨t,l1⟩:=p;have hl1:l1.length<=100:=by have:=zbj hS1;omega
  cases hS2:(qg m.max [t]) l1 with
  | error e =>
   have hw:(Zb g ar m ⟨5,arg,t0⟩) l=.error e:=by simp [Zb,zB,zG,hS1,hS2]
   repeat' (first|refine zo 11 3 rfl rfl rfl ?_|refine zF ((yS u ⟨g,m,ar,⟨5,arg,t0⟩⟩ l1)) zi rfl rfl rfl tH ((zX ⟨g,m,ar,⟨5,arg,t0⟩⟩ [t] _ zwy62 zwy63).bad hS2 u) ?_|(refine zu ?_;first|(refine zx 0 zi rfl rfl ((Zx ⟨g,m,ar,⟨5,arg,t0⟩⟩ m.locals _ h0).ok hS1) rfl rfl rfl rfl rfl ?_))|refine sK ?_|refine sC (fun _=>?_) (fun _=>?_)|fail)
   exact zD hw
  | ok p =>
   obtain ⟨⟨⟩,l2⟩:=p;have hw:(Zb g ar m ⟨5,arg,t0⟩) l=.ok ((),l2):=by simp [Zb,zB,zG,hS1,hS2]
   repeat' (first|(refine zu ?_;first|(refine zx 0 zi rfl rfl ((Zx ⟨g,m,ar,⟨5,arg,t0⟩⟩ m.locals _ h0).ok hS1) rfl rfl rfl rfl rfl ?_)|(refine zx 0 zi rfl rfl ((zX ⟨g,m,ar,⟨5,arg,t0⟩⟩ [t] _ zwy62 zwy63).ok hS2) rfl rfl rfl rfl rfl ?_))|refine sK ?_|refine sC (fun _=>?_) (fun _=>?_)|fail)
   exact yc hw (yD (.inl rfl) tH)
theorem zw9 (g:Img) (hF:Fm g) (m:Me) (ar:List Ty) (arg:Int) (t0:Ty) (l:List Ty) (hl:l.length<=100) (h0:0<=arg):XC 124 [] (⟨g,m,ar,⟨6,arg,t0⟩⟩:RC) (Zb g ar m ⟨6,arg,t0⟩) uV l:=by
 intro u;refine zI zf Tryz.func124 rfl zws Tryz.ntmps124 zwy63 _ rfl (fun gB hw1=>?_);cases hS1:(zbc ⟨6,arg,t0⟩ m.locals) l with
 | error e =>
  have hw:(Zb g ar m ⟨6,arg,t0⟩) l=.error e:=by simp [Zb,zB,zG,hS1]
  repeat' (first|refine zo 6 2 rfl rfl rfl ?_|refine zF ((yS u ⟨g,m,ar,⟨6,arg,t0⟩⟩ l)) zi rfl rfl rfl tH ((Zx ⟨g,m,ar,⟨6,arg,t0⟩⟩ m.locals _ h0).bad hS1 u) ?_|refine sK ?_|refine sC (fun _=>?_) (fun _=>?_)|fail)
  exact zD hw
 | ok p =>
  obtain ⟨t,l1⟩:=p;have hl1:l1.length<=100:=by have:=zbj hS1;omega
  cases hS2:(YK g t) l1 with
  | error e =>
   have hw:(Zb g ar m ⟨6,arg,t0⟩) l=.error e:=by simp [Zb,zB,zG,hS1,hS2]
   repeat' (first|refine zo 14 2 rfl rfl rfl ?_|refine zF ((yS u ⟨g,m,ar,⟨6,arg,t0⟩⟩ l1)) zi rfl rfl rfl tH ((qw ⟨g,m,ar,⟨6,arg,t0⟩⟩ hF t _ zwy62).bad hS2 u) ?_|(refine zu ?_;first|(refine zx 0 zi rfl rfl ((Zx ⟨g,m,ar,⟨6,arg,t0⟩⟩ m.locals _ h0).ok hS1) rfl rfl rfl rfl rfl ?_))|refine sK ?_|refine sC (fun _=>?_) (fun _=>?_)|fail)
   exact zD hw
  | ok p =>
   obtain ⟨⟨⟩,l2⟩:=p;have hw:(Zb g ar m ⟨6,arg,t0⟩) l=.ok ((),l2):=by simp [Zb,zB,zG,hS1,hS2]
   repeat' (first|(refine zu ?_;first|(refine zx 0 zi rfl rfl ((Zx ⟨g,m,ar,⟨6,arg,t0⟩⟩ m.locals _ h0).ok hS1) rfl rfl rfl rfl rfl ?_)|(refine zx 0 zi rfl rfl ((qw ⟨g,m,ar,⟨6,arg,t0⟩⟩ hF t _ zwy62).ok hS2) rfl rfl rfl rfl rfl ?_))|refine sK ?_|refine sC (fun _=>?_) (fun _=>?_)|fail)
   exact yc hw (yD (.inl rfl) tH)
theorem zwQ (g:Img) (hF:Fm g) (m:Me) (ar:List Ty) (arg:Int) (t0:Ty) (l:List Ty) (hl:l.length<=100) (h0:0<=arg):XC 124 [] (⟨g,m,ar,⟨7,arg,t0⟩⟩:RC) (Zb g ar m ⟨7,arg,t0⟩) uV l:=by
 intro u;refine zI zf Tryz.func124 rfl zws Tryz.ntmps124 zwy63 _ rfl (fun gB hw1=>?_);cases hS1:(zbc ⟨7,arg,t0⟩ m.locals) l with
 | error e =>
  have hw:(Zb g ar m ⟨7,arg,t0⟩) l=.error e:=by simp [Zb,zB,zG,hS1]
  repeat' (first|refine zo 6 2 rfl rfl rfl ?_|refine zF ((yS u ⟨g,m,ar,⟨7,arg,t0⟩⟩ l)) zi rfl rfl rfl tH ((Zx ⟨g,m,ar,⟨7,arg,t0⟩⟩ m.locals _ h0).bad hS1 u) ?_|refine sK ?_|refine sC (fun _=>?_) (fun _=>?_)|fail)
  exact zD hw
 | ok p =>
  obtain ⟨t,l1⟩:=p;have hl1:l1.length<=100:=by have:=zbj hS1;omega
  cases hS2:(QV m.max t) l1 with
  | error e =>
   have hw:(Zb g ar m ⟨7,arg,t0⟩) l=.error e:=by simp [Zb,zB,zG,hS1,hS2]
   repeat' (first|refine zo 8 2 rfl rfl rfl ?_|refine zF ((yS u ⟨g,m,ar,⟨7,arg,t0⟩⟩ l1)) zi rfl rfl rfl tH ((zax ⟨g,m,ar,⟨7,arg,t0⟩⟩ t _ zwy62).bad hS2 u) ?_|(refine zu ?_;first|(refine zx 0 zi rfl rfl ((Zx ⟨g,m,ar,⟨7,arg,t0⟩⟩ m.locals _ h0).ok hS1) rfl rfl rfl rfl rfl ?_))|refine sK ?_|refine sC (fun _=>?_) (fun _=>?_)|fail)
   exact zD hw
  | ok p =>
   obtain ⟨⟨⟩,l2⟩:=p;have hw:(Zb g ar m ⟨7,arg,t0⟩) l=.ok ((),l2):=by simp [Zb,zB,zG,hS1,hS2]
   repeat' (first|(refine zu ?_;first|(refine zx 0 zi rfl rfl ((Zx ⟨g,m,ar,⟨7,arg,t0⟩⟩ m.locals _ h0).ok hS1) rfl rfl rfl rfl rfl ?_)|(refine zx 0 zi rfl rfl ((zax ⟨g,m,ar,⟨7,arg,t0⟩⟩ t _ zwy62).ok hS2) rfl rfl rfl rfl rfl ?_))|refine sK ?_|refine sC (fun _=>?_) (fun _=>?_)|fail)
   exact yc hw (yD (.inl rfl) tH)
set_option maxHeartbeats 20000000
theorem ze9 {tb:Tab} {rs:List ResultVar} {i t:Nat} {H' H:HEnv} {env:Env} (hr:rs=[.tmp t]) (hg:env.get t=some (.own i)) (hf:Qx H H' [(t,.own i)]):zhu tb rs (.own i) H' .ret env H:=⟨.inr rfl,.inr ⟨t,hr,hg,hf⟩⟩
theorem zlM (l:List TD) (hl:l.length<=1000):ACallM Tryz.prog 40 [.pv (.slc 4 (l.map Zw) false)] [] (.own 10) [(10,.mrow 55 4 (l.map Zw))]:=by
 refine Zl zf Tryz.func40 rfl zws Tryz.ntmps40 zwy63 _ rfl (fun gB hw1=>?_)
 repeat' (first|refine zgG (t:=2) 10 55 4 zwy69 rfl rfl ?_|refine WB zf rfl rfl rfl rfl rfl rfl rfl (fun bb hbb=>?_)|refine zkd zf 10 rfl rfl rfl rfl rfl rfl rfl rfl rfl ?_|refine znr 10 rfl ?_|(refine yj ?_;first|refine YF zf rfl rfl rfl rfl rfl rfl rfl (by show _ * 56<=_;simp;omega) zwy64 rfl rfl ?_)|refine sA ?_|refine sC (fun _=>?_) (fun _=>?_)|fail)
 ·rename_i h;rw [hbb h];exact ze9 rfl rfl tH
 ·exact ze9 rfl rfl tH
theorem zk7 (l:List Me) (hl:l.length<=1000):ACallM Tryz.prog 42 [.pv (.slc 12 (l.map zY) false)] [] (.own 12) [(12,.mrow 36 12 (l.map zY))]:=by
 refine Zl zf Tryz.func42 rfl zws Tryz.ntmps42 zwy63 _ rfl (fun gB hw1=>?_)
 repeat' (first|refine zgG (t:=2) 12 36 12 zwy69 rfl rfl ?_|refine WB zf rfl rfl rfl rfl rfl rfl rfl (fun bb hbb=>?_)|refine zkd zf 12 rfl rfl rfl rfl rfl rfl rfl rfl rfl ?_|refine znr 12 rfl ?_|(refine yj ?_;first|refine YF zf rfl rfl rfl rfl rfl rfl rfl (by show _ * 168<=_;simp;omega) zwy64 rfl rfl ?_)|refine sA ?_|refine sC (fun _=>?_) (fun _=>?_)|fail)
 ·rename_i h;rw [hbb h];exact ze9 rfl rfl tH
 ·exact ze9 rfl rfl tH
theorem zlC (l:List Fd) (hl:l.length<=1000):ACall Tryz.prog 41 [.slc 7 (l.map ZI) false] (.slc 7 (l.map ZI) false):=by
 refine zh zf Tryz.func41 rfl zws Tryz.ntmps41 zwy63 _ rfl (fun hw gB hgB=>?_)
 repeat' (first|refine WB zf rfl rfl rfl rfl rfl rfl rfl (fun bb hbb=>?_)|refine zy rfl (WI zf rfl rfl rfl rfl rfl) rfl rfl ?_|(refine yj ?_;first|refine zy rfl (Qq zf rfl rfl (.inl rfl) rfl rfl (by show _ * 64<=_;simp;omega) zwy64) rfl rfl ?_)|refine sA ?_|refine sC (fun _=>?_) (fun _=>?_)|fail)
 ·rename_i h;have:l=[]:=by have:=hbb h;simpa using this
  subst this;exact zbV (t:=2) (ps:=[.slc 7 [] false]) rfl (QY 7 false) rfl rfl
 ·exact retq rfl rfl
theorem zld (l:List Int) (hl:l.length<=1000):ACall Tryz.prog 43 [.slc 1 (l.map pi) false] (.slc 1 (l.map pi) false):=by
 refine zh zf Tryz.func43 rfl zws Tryz.ntmps43 zwy63 _ rfl (fun hw gB hgB=>?_)
 repeat' (first|refine WB zf rfl rfl rfl rfl rfl rfl rfl (fun bb hbb=>?_)|refine zy rfl (WI zf rfl rfl rfl rfl rfl) rfl rfl ?_|(refine yj ?_;first|refine zy rfl (Qq zf rfl rfl (.inl rfl) rfl rfl zwy72 zwy64) rfl rfl ?_)|refine sA ?_|refine sC (fun _=>?_) (fun _=>?_)|fail)
 ·rename_i h;have:l=[]:=by have:=hbb h;simpa using this
  subst this;exact zbV (t:=2) (ps:=[.slc 1 [] false]) rfl (QY 1 false) rfl rfl
 ·exact retq rfl rfl
theorem zjG (l:List Ins) (hl:l.length<=1000):ACall Tryz.prog 45 [.slc 6 (l.map yM) false] (.slc 6 (l.map yM) false):=by
 refine zh zf Tryz.func45 rfl zws Tryz.ntmps45 zwy63 _ rfl (fun hw gB hgB=>?_)
 repeat' (first|refine WB zf rfl rfl rfl rfl rfl rfl rfl (fun bb hbb=>?_)|refine zy rfl (WI zf rfl rfl rfl rfl rfl) rfl rfl ?_|(refine yj ?_;first|refine zy rfl (Qq zf rfl rfl (.inl rfl) rfl rfl (by show _ * 48<=_;simp;omega) zwy64) rfl rfl ?_)|refine sA ?_|refine sC (fun _=>?_) (fun _=>?_)|fail)
 ·rename_i h;have:l=[]:=by have:=hbb h;simpa using this
  subst this;exact zbV (t:=2) (ps:=[.slc 6 [] false]) rfl (QY 6 false) rfl rfl
 ·exact retq rfl rfl
theorem zll (l:List Cl) (hl:l.length<=1000):ACall Tryz.prog 46 [.slc 10 (l.map qR) false] (.slc 10 (l.map qR) false):=by
 refine zh zf Tryz.func46 rfl zws Tryz.ntmps46 zwy63 _ rfl (fun hw gB hgB=>?_)
 repeat' (first|refine WB zf rfl rfl rfl rfl rfl rfl rfl (fun bb hbb=>?_)|refine zy rfl (WI zf rfl rfl rfl rfl rfl) rfl rfl ?_|(refine yj ?_;first|refine zy rfl (Qq zf rfl rfl (.inl rfl) rfl rfl (by show _ * 80<=_;simp;omega) zwy64) rfl rfl ?_)|refine sA ?_|refine sC (fun _=>?_) (fun _=>?_)|fail)
 ·rename_i h;have:l=[]:=by have:=hbb h;simpa using this
  subst this;exact zbV (t:=2) (ps:=[.slc 10 [] false]) rfl (QY 10 false) rfl rfl
 ·exact retq rfl rfl
abbrev zv7:PV:=.agg [.base (.slice none 0 0),.base (.slice none 0 0),.base (.slice none 0 0),pi 0]
abbrev oB (g:Img):HEnv:=[(1,.cell (.pv zv7)),(0,.cell (.pv (zK g)))]
abbrev mrT (g:Img):HE:=.mrow 55 4 (g.types.map Zw)
abbrev mrM (g:Img):HE:=.mrow 36 12 (g.methods.map zY)
abbrev oHs (g:Img):Nat->HEnv:=fun p=>match p with
 | 0=>oB g
 | 1=>(10,mrT g)::oB g
 | 2=>(10,mrT g)::oB g
 | _=>(12,mrM g)::(10,mrT g)::oB g
theorem zmR (g:Img):∀ q p,q<=p->p<=3->qB (oHs g q) (oHs g p)=true:=by
 intro q p h1 h2;have hp:p=0\/p=1\/p=2\/p=3:=by omega
 have hq:q=0\/q=1\/q=2\/q=3:=by omega
 rcases hp with rfl|rfl|rfl|rfl <;> rcases hq with rfl|rfl|rfl|rfl <;> first|rfl|omega
theorem zux (g:Img) {gB:Base}:∀ p,p<=3->∀ K ρ w,FS gB K ρ (oHs g p) w->FS gB K ρ (oB g) w:=by
 intro p hp K ρ w h;have hp:p=0\/p=1\/p=2\/p=3:=by omega
 rcases hp with rfl|rfl|rfl|rfl
 ·exact h
 ·exact h.narrow (e:=[]) tH
 ·exact h.narrow (e:=[]) tH
 ·exact h.narrow (e:=[]) tH
abbrev oL (g:Img):HEnv:=[(0,.cell (.agg [.own 10,.pv (.slc 7 (g.fields.map ZI) false),.own 12,.pv (pi g.entry)])),(1,.cell (.pv zv7)),(10,mrT g),(12,mrM g)]
abbrev oT (g:Img):HEnv:=[(0,.cell (.agg [.own 10,.pv (.slc 7 (g.fields.map ZI) false),.own 12,.pv (pi g.entry)])),(1,.cell (.pv zv7)),(10,mrT g),(12,.dead)]
abbrev oR (g:Img) (A:List PV):HEnv:=[(12,.mrow 36 12 A),(0,.cell (.agg [.own 10,.pv (.slc 7 (g.fields.map ZI) false),.own 12,.pv (pi g.entry)])),(1,.cell (.pv zv7)),(10,mrT g)]
structure OwnOk (g:Img):Prop where
 t:g.types.length<=1000
 f:g.fields.length<=1000
 m:g.methods.length<=1000
 tf:∀ td∈g.types,td.faces.length<=1000
 mm:∀ m∈g.methods,m.params.length<=1000/\m.locals.length<=1000/\m.code.length<=1000/\m.clauses.length<=1000
theorem VK {α:Type} {l:List α} {k:Nat} {x:α} (h:l[k]?=some x):l.set k x=l:=by
 obtain ⟨h1,h2⟩:=List.getElem?_eq_some_iff.1 h;rw [<-h2];exact List.set_getElem_self h1
set_option maxHeartbeats 8000000 in
theorem zsk (g:Img) (hg:OwnOk g):ACall Tryz.prog 20 [zK g] (zK g):=by
 obtain ⟨ht,hf,hm,htf,hmm⟩:=hg;refine zh zf Tryz.func20 rfl zws Tryz.ntmps20 zwy63 _ rfl (fun hw gB hgB=>?_)
 repeat' (first|refine zfk 15 10 [2,5,8] (oHs g) (oHs g) (oB g) none rfl zws zws zws zws zws zws rfl (zux g) rfl (zmR g) (fun q h=>zmR g q 3 h (Nat.le_refl 3)) tH rfl (fun v hv=>by cases hv) ?_|refine Yp 2 [2,5] (.own 10) rfl rfl rfl rfl rfl ?_|refine Yp 2 [2] (.pv (.slc 7 (g.fields.map ZI) false)) rfl rfl rfl rfl rfl ?_|refine Yp 2 [] (.own 12) rfl rfl rfl rfl rfl ?_|refine Qu ?_|refine ⟨⟨rfl,zfs [] [(10,mrT g)] (oB g) [] zi rfl rfl (fun _ _ h=>h) rfl rfl rfl rfl (fun us=>zlM _ ht),.inr zws⟩,?_⟩|refine ⟨⟨rfl,zng rfl rfl (fun _ _ _ h=>h.narrow (e:=[]) tH) (zlC _ hf),.inl rfl⟩,?_⟩|refine ⟨⟨rfl,zfs [] [(12,mrM g)] ((10,mrT g)::oB g) [] zi rfl rfl (fun _ _ h=>h) rfl rfl rfl rfl (fun us=>zk7 _ hm),.inr zws⟩,?_⟩|intro _|refine WR ?_|refine sM ?_|(refine Xy ?_;first|refine zau 0 rfl rfl rfl rfl rfl rfl ?_)|refine sK ?_|refine sC (fun _=>?_) (fun _=>?_)|fail)
 refine zL (fun k:Nat=>[(1,.box 0 0),(2,.box 1 0),(20,.pv (pi g.types.length)),(21,.pv (pi k))]) (fun _=>oL g) (fun k=>k<=g.types.length) (fun k=>g.types.length - k) 0 zwy62 zwy71 tH ?_;intro k hk;by_cases hlt:k < g.types.length
 ·have hp:(g.types.map Zw)[k]?=some (Zw g.types[k]):=by simp [hlt]
  have hkl:k < (g.types.map Zw).length:=by simpa using hlt
  have hfc:=htf _ (List.getElem_mem hlt)
  repeat' (first|refine zZ 13 10 rfl zws zws zws zws zws ?_|refine sM ?_|refine zy rfl (au (k:=k) (j:=3) hp) rfl rfl ?_|refine zq rfl (au (k:=k) (j:=3) hp) rfl rfl ?_|(refine shC ?_;first|refine qC (zld _ hfc) ?_)|(refine shX ?_;first|refine zy rfl (aA (k:=k) hkl) rfl rfl ?_|refine zq rfl (aA (k:=k) hkl) rfl rfl ?_)|(refine Yb ?_;first|refine XB (k:=k) (j:=3) zf rfl rfl rfl rfl rfl hp rfl rfl rfl rfl rfl ?_)|refine sK ?_|refine sC (fun _=>?_) (fun _=>?_)|fail)
  exact ⟨k + 1,hlt,tD,tS,⟨zA rfl (zA rfl (Zi rfl (VK hp) (aB zC))),rfl⟩⟩
 ·repeat' (first|refine sM ?_|refine sK ?_|refine sC (fun _=>?_) (fun _=>?_)|fail)
  refine zL (fun k:Nat=>[(1,.box 0 0),(2,.box 1 0),(39,.pv (pi g.methods.length)),(40,.pv (pi k))]) (fun _=>oL g) (fun k=>k<=g.methods.length) (fun k=>g.methods.length - k) 0 zwy62 zwy71 tH ?_;clear hlt hk;clear k;intro k hk;by_cases hlt:k < g.methods.length
  ·have hpA:(g.methods.map zY)[k]?=some (zY g.methods[k]):=by simp [hlt]
   have hkl:k < (g.methods.map zY).length:=by simpa using hlt
   have hpB:((g.methods.map zY).set k (zY g.methods[k]))[k]?=some (zY g.methods[k]):=by rw [VK hpA];exact hpA
   have hpC:(((g.methods.map zY).set k (zY g.methods[k])).set k (zY g.methods[k]))[k]?=some (zY g.methods[k]):=by rw [VK hpA];exact hpB
   have hpD:((((g.methods.map zY).set k (zY g.methods[k])).set k (zY g.methods[k])).set k (zY g.methods[k]))[k]?=some (zY g.methods[k]):=by rw [VK hpA];exact hpC
   have hpE:(((((g.methods.map zY).set k (zY g.methods[k])).set k (zY g.methods[k])).set k (zY g.methods[k])).set k (zY g.methods[k]))=g.methods.map zY:=by rw [VK hpA,VK hpA,VK hpA,VK hpA]
   obtain ⟨q1,q2,q3,q4⟩:=hmm _ (List.getElem_mem hlt)
   repeat' (first|refine Xw (id:=11) 18 18 [14,17] [[52,57]] (mkL [oL g,(12,(.mrow 36 12 ((g.methods.map zY).set k (zY g.methods[k]))))::oL g,(12,(.mrow 36 12 (((g.methods.map zY).set k (zY g.methods[k])).set k (zY g.methods[k]))))::(12,(.mrow 36 12 ((g.methods.map zY).set k (zY g.methods[k]))))::oL g]) (fun _=>oT g) (oT g) none rfl zws zws zws zws zws zws zws (fun p hp=>by obtain rfl:p=0:=(by simp at hp;omega);exact ⟨rfl,rfl⟩) rfl (zd0 (i:=12) rfl ⟨tH,tH,tH,trivial⟩) rfl (fun _ _ _ _=>rfl) (fun q h=>by have:q=0\/q=1\/q=2:=(by simp at h;omega);rcases this with rfl|rfl|rfl <;> rfl) tH rfl (fun v hv=>by cases hv) ?_|refine Xw (id:=12) 18 18 [14,17] [[68,73]] (mkL [oR g (((g.methods.map zY).set k (zY g.methods[k])).set k (zY g.methods[k])),(12,(.mrow 36 12 ((((g.methods.map zY).set k (zY g.methods[k])).set k (zY g.methods[k])).set k (zY g.methods[k]))))::oR g (((g.methods.map zY).set k (zY g.methods[k])).set k (zY g.methods[k])),(12,(.mrow 36 12 (((((g.methods.map zY).set k (zY g.methods[k])).set k (zY g.methods[k])).set k (zY g.methods[k])).set k (zY g.methods[k]))))::(12,(.mrow 36 12 ((((g.methods.map zY).set k (zY g.methods[k])).set k (zY g.methods[k])).set k (zY g.methods[k]))))::oR g (((g.methods.map zY).set k (zY g.methods[k])).set k (zY g.methods[k]))]) (fun _=>oT g) (oT g) none rfl zws zws zws zws zws zws zws (fun p hp=>by obtain rfl:p=0:=(by simp at hp;omega);exact ⟨rfl,rfl⟩) rfl (zd0 (i:=12) rfl ⟨tH,tH,tH,trivial⟩) rfl (fun _ _ _ _=>rfl) (fun q h=>by have:q=0\/q=1\/q=2:=(by simp at h;omega);rcases this with rfl|rfl|rfl <;> rfl) tH rfl (fun v hv=>by cases hv) ?_|refine zcs 0 1 [8,11] rfl rfl zws ?_|refine zcs 0 1 [3,6] rfl rfl zws ?_|refine zaW 5 [9,12] rfl rfl ?_|refine zaW 4 [4,7] rfl rfl ?_|refine zaW 3 [0,3] rfl rfl ?_|refine zaW 2 [0] rfl rfl ?_|refine Xk [2] (.pv (.tup [])) rfl rfl rfl ?_|refine Xk [] (.pv (.tup [])) rfl rfl rfl ?_|refine Qu ?_|intro _|refine WR ?_|refine ⟨⟨rfl,YC (k:=k) (j:=3) zf rfl rfl rfl rfl hpA rfl rfl rfl rfl,.inl rfl⟩,?_⟩|refine ⟨⟨rfl,YC (k:=k) (j:=8) zf rfl rfl rfl rfl hpB rfl rfl rfl rfl,.inl rfl⟩,?_⟩|refine ⟨⟨rfl,YC (k:=k) (j:=10) zf rfl rfl rfl rfl hpC rfl rfl rfl rfl,.inl rfl⟩,?_⟩|refine ⟨⟨rfl,YC (k:=k) (j:=11) zf rfl rfl rfl rfl hpD rfl rfl rfl rfl,.inl rfl⟩,?_⟩|refine sM ?_|refine zy rfl (au (k:=k) (j:=3) hpA) rfl rfl ?_|refine zq rfl (au (k:=k) (j:=3) hpA) rfl rfl ?_|refine zy rfl (au (k:=k) (j:=8) hpA) rfl rfl ?_|refine zq rfl (au (k:=k) (j:=8) hpA) rfl rfl ?_|refine zy rfl (au (k:=k) (j:=10) hpC) rfl rfl ?_|refine zq rfl (au (k:=k) (j:=10) hpC) rfl rfl ?_|refine zy rfl (au (k:=k) (j:=11) hpC) rfl rfl ?_|refine zq rfl (au (k:=k) (j:=11) hpC) rfl rfl ?_|(refine shC ?_;first|refine qC (zcw _ q1) ?_|refine qC (zcw _ q2) ?_|refine qC (zjG _ q3) ?_|refine qC (zll _ q4) ?_)|(refine shX ?_;first|refine zy rfl (aA (k:=k) hkl) rfl rfl ?_|refine zq rfl (aA (k:=k) hkl) rfl rfl ?_)|refine sK ?_|refine sC (fun _=>?_) (fun _=>?_)|fail)
   exact ⟨k + 1,hlt,tD,tS,⟨zA rfl (zA rfl (zA rfl (Zi rfl hpE zC))),rfl⟩⟩
  ·repeat' (first|refine Wv 10 rfl ?_|refine Wv 12 rfl ?_|refine sK ?_|refine sC (fun _=>?_) (fun _=>?_)|fail)
   exact retq rfl rfl
end Go.Cg
