/- A part of the walks by abstract values: no statement of its own. -/
import Derived.Test.YtdlokcmodgccnaaGreatF35
import Derived.Test.YtdlokcmodgccnaaGreatF22
import Derived.Test.YtdlokcmodgccnaaGreatF38
import Derived.Test.YtdlokcmodgccnaaGreatF19
import Derived.Test.YtdlokcmodgccnaaGreatF33
import Derived.Test.YtdlokcmodgccnaaGreatF30
import Derived.Test.YtdlokcmodgccnaaGreatF36
import Derived.Test.YtdlokcmodgccnaaGreatF27
import Derived.Test.YtdlokcmodgccnaaGreatF21
import Derived.Test.YtdlokcmodgccnaaGreatF25
set_option linter.unusedVariables false
set_option linter.unusedSimpArgs false
namespace Go.Cg
open Go.Proofs
set_option maxHeartbeats 1000000 in
theorem zjJ (g:Img):ACall Tryz.prog 21 [zq g] (pb ((yC g).2==0)):=by
 refine zf zh Tryz.func21 rfl (by kernel_rfl) Tryz.ntmps21 (by simp) _ rfl (fun hw gB hgB=>?_)
 repeat' (first|(refine shC ?_;first|refine qC (ziv g) ?_)|refine sK ?_|refine sC (fun _=>?_) (fun _=>?_)|fail)
 exact retq rfl rfl
theorem zoQ {g:Img}:∀ {l:List Nat},(stD g l).2=0→∀ i∈l,zqp g (i:Int)=false
 | [],_,i,hi=>by cases hi
 | j::l,h,i,hi=>by
  rw [stD] at h
  cases hb:zqp g (j:Int)
  ·rw [hb,if_neg (by simp)] at h
   rcases List.mem_cons.1 hi with rfl|hi
   ·exact hb
   ·exact zoQ h i hi
  ·rw [hb,if_pos rfl] at h;cases h
theorem zrT {g:Img} {W:Int→Bool}:∀ {l:List Nat},(stC g W l).2=0→(stD g (List.range g.types.length)).2=0
 | [],h=>h
 | j::l,h=>by
  rw [stC] at h
  split at h
  ·cases h
  ·exact zrT h
theorem zrr {g:Img}:∀ {l:List Nat},(stM g l).2=0→(stD g (List.range g.types.length)).2=0
 | [],h=>zrT h
 | j::l,h=>by
  rw [stM] at h
  split at h
  ·split at h
   ·exact zrr h
   ·cases h
  ·cases h
theorem Xr {g:Img} (h:(yC g).2=0):zcm g=true∧∀ t:Int,zB g t=3→methodsOf g t≠[]:=by
 unfold yC at h
 split at h
 ·rename_i hf
  refine ⟨hf,fun t hk=>?_⟩
  have hin:0≤t∧t < g.types.length:=by
   unfold zB at hk
   cases ht:typeAt g t with
   | none=>rw [ht] at hk;simp at hk
   | some td =>
    unfold typeAt at ht
    split at ht
    ·rename_i hh;have:=(List.getElem?_eq_some_iff.1 ht).1;omega
    ·cases ht
  have:=zoQ (zrr h) t.toNat (by rw [List.mem_range];omega)
  rw [show ((t.toNat:Nat):Int)=t by omega,zqp,hk] at this
  intro he
  rw [he] at this;cases this
 ·cases h
theorem opk:∀ n:Fin 76,1≤n.val→(2≤n.val→n.val≤7→zN (n.val:Int)=3∨zN (n.val:Int)=4)∧((n.val=43∨n.val=44∨n.val=45∨n.val=67)→zN (n.val:Int)=6)∧(48≤n.val→n.val≤53→zN (n.val:Int)=7):=by decide +kernel
theorem zuu {op:Int} (h1:1≤op) (h2:op≤75):(2≤op→op≤7→zN op=3∨zN op=4)∧((op=43∨op=44∨op=45∨op=67)→zN op=6)∧(48≤op→op≤53→zN op=7):=by
 have:=opk ⟨op.toNat,by omega⟩ (by show 1≤op.toNat;omega)
 simp only [show ((op.toNat:Nat):Int)=op by omega] at this
 exact ⟨fun a b=>this.1 (by omega) (by omega),fun a=>this.2.1 (by omega),fun a b=>this.2.2 (by omega) (by omega)⟩
theorem zpl {g:Img} {m:Me} {a:Int} (h:yV g m=true) (h0:0≤a) (h1:a.toNat < m.code.length):codeOk g m (zX m a)=true:=by
 simp only [yV,Zf,Bool.and_eq_true,List.all_eq_true] at h
 exact h.2.1.1.2 _ (by rw [zX,zx h1];exact List.getElem_mem h1)
theorem zrE {g:Img} (hc:(yC g).2=0) {m a:Int} (hm:mOk g m) (h0:0≤a) (h1:a.toNat < (mAt g m).code.length):XOk g (zX (mAt g m) a):=by
 obtain ⟨hf,hd⟩:=Xr hc
 have hF:=Xk hf
 have hcode:=zpl (YV hF.formed hm).formed h0 h1
 generalize zX (mAt g m) a=x at hcode ⊢
 rw [codeOk,Bool.and_eq_true] at hcode
 obtain ⟨e1,e2⟩:=hcode
 have e1:Qy x=0:=by simpa using e1
 unfold Qy at e1
 split at e1
 ·cases e1
 rename_i hop
 have b1:1≤x.op:=by omega
 have b2:x.op≤75:=by omega
 split at e1
 ·cases e1
 rename_i harg
 split at e1
 ·cases e1
 rename_i hty
 split at e1
 ·cases e1
 rename_i hwh
 obtain ⟨k1,k2,k3⟩:=zuu b1 b2
 have hmo:∀ i:Int,0≤i→i.toNat < g.methods.length→(mAt g i).params.length≤100∧0≤(mAt g i).owner∧(mAt g i).owner.toNat < g.types.length:=fun i i0 i1=>by
  have hM:=YV hF.formed (x:=i) ⟨i0,i1⟩
  have:=hM.small
  exact ⟨by omega,hM.o0,hM.o1⟩
 refine ⟨b1,b2,fun a1 a2=>?_,fun a1=>?_,fun a1 a2=>?_,fun _ _=>?_,fun i i0 i1=>(hmo i i0 i1).1,fun _ _ _ hk=>hd _ ?_⟩
 ·rcases k1 a1 a2 with e|e <;> rw [e] at harg <;> simp [zaK] at harg <;> omega
 ·rw [k2 a1] at harg e2
  simp [zaK] at harg e2
  exact ⟨by omega,by omega,hmo _ (by omega) (by omega)⟩
 ·rw [k3 a1 a2] at harg e2
  simp [zaK] at harg e2
  exact ⟨by omega,by omega⟩
 ·by_cases h8:zN x.op=8
  ·have hw:Ze x.t 1=true:=by
    cases hw:Ze x.t 1
    ·exact absurd ⟨h8,hw⟩ hwh
    ·rfl
   have hp:Zj x.t=true:=by
    unfold Ze at hw
    split at hw
    ·cases hw
    ·rename_i hp;simpa using hp
   have hd:0≤x.t.dims∧x.t.dims≤3:=by
    unfold Zj at hp
    split at hp
    ·cases hp
    ·rename_i hb
     simp at hb
     omega
   omega
  ·have ht:x.t=ty0:=Classical.byContradiction fun hne=>hty ⟨h8,hne⟩
   rw [ht];exact ⟨Int.le_refl 0,by show (0:Int)≤100;omega⟩
 ·rw [←zdW hF.formed];exact hk
theorem zpr {g:Img} (hf:zJ g=true) {m:Me} (h:m∈g.methods):MeOk g m:=by
 obtain ⟨i,hi,rfl⟩:=List.getElem_of_mem h
 have:=YV hf (x:=(i:Int)) (zkx hi)
 rwa [show mAt g (i:Int)=g.methods[i] by rw [mAt,show ((i:Int)).toNat=i by omega,zx hi]] at this
theorem zqQ {g:Img} (hf:zJ g=true):OwnOk g:=by
 obtain ⟨b1,b2,b3,_⟩:=zF hf
 refine ⟨by omega,by omega,by omega,fun td h=>?_,fun m h=>?_⟩
 ·have:=((zdc hf).faces td h).1;omega
 ·have:=(zpr hf h).small;omega
set_option maxHeartbeats 4000000 in
theorem zkN (g:Img) (hx:OkA g) (hc:(yC g).2=0):ACall Tryz.prog 24 [zq g] (.ptr (zq g) 0):=by
 have c1:=zcz g hx
 have c2:=zpq g (zqQ (Xk (Xr hc).1).formed)
 rw [show zeJ (yC g)=.tup [.agg [pi (yC g).1.1,pi (yC g).1.2],pi 0] by rw [zeJ,hc]] at c1
 refine zf zh Tryz.func24 rfl (by kernel_rfl) Tryz.ntmps24 (by simp) _ rfl (fun hw gB hgB=>?_)
 repeat' (first|(refine shC ?_;first|refine qC c1 ?_|refine qC c2 ?_)|refine sK ?_|refine sC (fun _=>?_) (fun _=>?_)|fail)
 exact retq rfl rfl
set_option maxHeartbeats 20000000
def WE (g:Img):Bool:=(yC g).2==0
def XA (g:Img) (m:Int):Bool:=decide (0≤m)&&decide (m < g.methods.length)&&decide (0 < (mAt g m).code.length)
theorem znn (g:Img) (hx:OkA g):ACall Tryz.prog 18 [zq g] (pb (WE g)):=by
 have c1:=zcz g hx
 rw [zeJ] at c1
 rw [WE]
 generalize (yC g).2=e at c1 ⊢
 refine zf zh Tryz.func18 rfl (by kernel_rfl) Tryz.ntmps18 (by simp) _ rfl (fun hw gB hgB=>?_)
 repeat' (first|(refine shC ?_;first|refine qC c1 ?_)|refine sK ?_|refine sC (fun _=>?_) (fun _=>?_)|fail)
 exact retq rfl rfl
theorem zgM {g:Img} {m:Me} (h:MeOk g m):ClOk m:=by
 have hs:=h.small
 refine ⟨hs.2.2.2.1,fun at_ x hx=>?_,by omega⟩
 have hr:=h.formed
 simp only [yV,Zf,Wq,Bool.and_eq_true,decide_eq_true_eq,beq_iff_eq] at hr
 obtain ⟨j,h1,h2,h3⟩:=XZ hx
 have hp:=zr2 hr.2.2 h1 h2
 simp only [YZ,Bool.and_eq_true,decide_eq_true_eq] at h3
 have hc:=zb8 h2
 exact ⟨by omega,by omega,by omega⟩
theorem ztK {g:Img} (hc:(yC g).2=0) {m:Int} (hm:mOk g m) (i:Nat) (hi:i < (mAt g m).code.length):ACall Tryz.prog 27 [Qs g (mAt g m),pi (i:Int)] (pi (Qu g (mAt g m) (i:Int))):=by
 have hF:=(Xk (Xr hc).1).formed
 have hM:=YV hF hm
 have hcl:=zgM hM
 have hs:=hM.small
 have h1:((i:Nat):Int).toNat < (mAt g m).code.length:=by omega
 refine zqd g (mAt g m) i (by omega) (by omega) (ztH g _ hcl i (by omega) h1) (zk4 g _ hcl i (by omega) h1) (zpY g _ hcl i (by omega) h1 fun _ hop=>?_)
 have hk:(i:Int) + 1 < ((mAt g m).code.length:Int):=by
  apply Classical.byContradiction
  intro hh
  rw [opV,decide_eq_true (show ((mAt g m).code.length:Int)≤(i:Int) + 1 by omega)] at hop
  simp at hop
 have hop2:(zX (mAt g m) ((i:Int) + 1)).op=43∨(zX (mAt g m) ((i:Int) + 1)).op=44:=by
  rw [opV,decide_eq_false (show ¬ ((mAt g m).code.length:Int)≤(i:Int) + 1 by omega),decide_eq_false (show ¬ (i:Int) + 1 < 0 by omega)] at hop
  exact hop
 have hm2:=(zrE hc hm (show 0≤(i:Int) + 1 by omega) (by omega)).m (by rcases hop2 with h|h <;> simp [h])
 exact ⟨⟨hm2.1,hm2.2.1⟩,hm2.2.2.1⟩
theorem zjv {g:Img} (hc:(yC g).2=0) {m:Int} (hm:mOk g m):ACall Tryz.prog 20 [Qs g (mAt g m)] (.tup [pi (Vm g (mAt g m)).1,pi (Vm g (mAt g m)).2]) :=
 zrt g _ (zgM (YV (Xk (Xr hc).1).formed hm)) fun i hi=>ztK hc hm i hi
def zfJ (g:Img) (m:Int):Int × Int:=if WE g&&XA g m then Vm g (mAt g m) else (0,17)
theorem zpu (g:Img) (hx:OkA g) (m:Int):ACall Tryz.prog 9 [zq g,pi m] (.tup [pi (zfJ g m).1,pi (zfJ g m).2]):=by
 have c1:=znn g hx
 have c2:ACall Tryz.prog 19 [zq g,pi m] (pb (XA g m)):=zh6 g m
 cases hwl:WE g
 ·rw [hwl] at c1
  refine zf zh Tryz.func9 rfl (by kernel_rfl) Tryz.ntmps9 (by simp) _ rfl (fun hw gB hgB=>?_)
  repeat' (first|(refine shC ?_;first|refine qC c1 ?_)|refine sK ?_|refine sC (fun _=>?_) (fun _=>?_)|fail)
  exact retq rfl (by simp [zi,zfJ,hwl])
 ·rw [hwl] at c1
  cases hk:XA g m
  ·rw [hk] at c2
   refine zf zh Tryz.func9 rfl (by kernel_rfl) Tryz.ntmps9 (by simp) _ rfl (fun hw gB hgB=>?_)
   repeat' (first|(refine shC ?_;first|refine qC c1 ?_|refine qC c2 ?_)|refine sK ?_|refine sC (fun _=>?_) (fun _=>?_)|fail)
   exact retq rfl (by simp [zi,zfJ,hwl,hk])
  ·rw [hk] at c2
   have hc:(yC g).2=0:=by simpa [WE] using hwl
   have hm:mOk g m:=by
    simp only [XA,Bool.and_eq_true,decide_eq_true_eq] at hk
    exact ⟨hk.1.1,by omega⟩
   have c3:=zjv hc hm
   have he:(g.methods.map zG)[m.toNat]?=some (zG (mAt g m)):=by rw [mAt,zx hm.2];exact zA hm.2
   have hF:zfJ g m=Vm g (mAt g m):=by rw [zfJ,hwl,hk];rfl
   rw [hF]
   refine zf zh Tryz.func9 rfl (by kernel_rfl) Tryz.ntmps9 (by simp) _ rfl (fun hw gB hgB=>?_)
   repeat' (first|(refine shC ?_;first|refine qC c1 ?_|refine qC c2 ?_|refine qC c3 ?_)|(refine shX ?_;first|refine zu rfl (zk zh rfl rfl rfl rfl rfl rfl hm.1 he) rfl rfl ?_|refine AD.step _ _ _ _ _ rfl (zk zh rfl rfl rfl rfl rfl rfl hm.1 he) rfl rfl ?_)|refine sK ?_|refine sC (fun _=>?_) (fun _=>?_)|fail)
   exact retq rfl rfl
def NzS {α:Type} (act:SM α):Prop:=∀ l e,act l=.error e→e≠0
theorem zsP {α β:Type} {x:SM α} {f:α→SM β} (hx:NzS x) (hf:∀ a,NzS (f a)):NzS (x >>= f):=fun l e h=>by
 rw [qx] at h
 cases hxl:x l with
 | error e'=>rw [hxl] at h;cases h;exact hx l e hxl
 | ok p=>rw [hxl] at h;exact hf p.1 p.2 e h
theorem ztj {α:Type} (a:α):NzS (pure a:SM α):=fun l e h=>by rw [ZT] at h;cases h
theorem zsY (b:Bool) {k:Int} (hk:k≠0):NzS (qW b k):=fun l e h=>by unfold qW at h;split at h <;> cases h;exact hk
theorem zul:NzS QI:=fun l e h=>by unfold QI at h;split at h <;> cases h;decide
theorem zsS (max:Int) (ts:List Ty):NzS (qK max ts):=fun l e h=>by unfold qK at h;split at h <;> cases h;decide
theorem zr7:NzS zeT:=fun l e h=>by cases h
theorem zrH {k:Int} (hk:k≠0):NzS (emptyS k):=fun l e h=>by unfold emptyS at h;split at h <;> cases h;exact hk
theorem zrb (g:Img) (ls:List Ty):NzS (zaI g ls):=fun l e h=>by
 unfold zaI at h
 split at h
 ·cases h;decide
 ·split at h <;> cases h;decide
theorem zuw {α:Type} {p:Prop} [Decidable p] {x y:SM α} (hx:NzS x) (hy:NzS y):NzS (if p then x else y):=by split <;> assumption
theorem zuI (g:Img) (ar:List Ty) (m:Me) (x:Ins):NzS (doS g ar m x):=by
 unfold doS zq5 zaZ zor zoy zkv zjH zjC zh7 zeQ QZ qZ
 dsimp only
 unfold zoL Xe zhK Zp znp zdP zev zcQ zj0
 repeat' (first|with_reducible exact zul|with_reducible exact zsS _ _|with_reducible exact ztj _|with_reducible exact zr7|with_reducible exact zsY _ (by decide)|with_reducible exact zrH (by decide)|with_reducible exact zrb _ _|with_reducible refine zsP ?_ fun _=>?_|with_reducible refine zuw ?_ ?_)
theorem zoM {g:Img} {m a:Int} {l:List Ty} {e:Int} (h:stepS g m a l=.error e):e≠0:=zuI _ _ _ _ l e h
theorem zod (g:Img) (hc:(yC g).2=0) {m a:Int} (hm:mOk g m) (h0:0≤a) (h1:a.toNat < (mAt g m).code.length) (hL:zg3 (zX (mAt g m) a)) (l:List Ty) (hl:l.length≤100) :
  ACall Tryz.prog 77 [.ptr (zq g) 0,pi m,pi a,tys l] (zrB (stepS g m a l)):=by
 have hf:=(Xk (Xr hc).1).formed
 have hM:=(YV hf hm).small
 have hb:=zF hf
 exact zqM g (zdc hf) (by omega) m a l hl hm (by omega) h0 h1 hL
end Go.Cg
