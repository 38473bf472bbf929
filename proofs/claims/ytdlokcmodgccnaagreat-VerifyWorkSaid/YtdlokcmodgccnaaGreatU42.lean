/- A part of the walks by abstract values: no statement of its own. -/
import Derived.Test.YtdlokcmodgccnaaGreatU39
import Derived.Test.YtdlokcmodgccnaaGreatU38
import Derived.Test.YtdlokcmodgccnaaGreatU40
import Derived.Test.YtdlokcmodgccnaaGreatU35
import Derived.Test.YtdlokcmodgccnaaGreatU22
set_option linter.unusedVariables false
set_option linter.unusedSimpArgs false
namespace Go.Cg
open Go.Proofs
theorem znI {g:Img}:∀ {l:List Nat},(stD g l).2=0→∀ i∈l,zqk g (i:Int)=false
 | [],_,i,hi=>by cases hi
 | j::l,h,i,hi=>by
  rw [stD] at h
  cases hb:zqk g (j:Int)
  ·rw [hb,if_neg (by simp)] at h
   rcases List.mem_cons.1 hi with rfl|hi
   ·exact hb
   ·exact znI h i hi
  ·rw [hb,if_pos rfl] at h;cases h
theorem zpZ {g:Img} {W:Int→Bool}:∀ {l:List Nat},(stC g W l).2=0→(stD g (List.range g.types.length)).2=0
 | [],h=>h
 | j::l,h=>by
  rw [stC] at h
  split at h
  ·cases h
  ·exact zpZ h
theorem zq3 {g:Img}:∀ {l:List Nat},(stM g l).2=0→(stD g (List.range g.types.length)).2=0
 | [],h=>zpZ h
 | j::l,h=>by
  rw [stM] at h
  split at h
  ·split at h
   ·exact zq3 h
   ·cases h
  ·cases h
theorem Wj {g:Img} (h:(Za g).2=0):zfc g=true∧∀ t:Int,yt g t=3→methodsOf g t≠[]:=by
 unfold Za at h
 split at h
 ·rename_i hf
  refine ⟨hf,fun t hk=>?_⟩
  have hin:0≤t∧t < g.types.length:=by
   unfold yt at hk
   cases ht:typeAt g t with
   | none=>rw [ht] at hk;simp at hk
   | some td =>
    unfold typeAt at ht
    split at ht
    ·rename_i hh;have:=(List.getElem?_eq_some_iff.1 ht).1;omega
    ·cases ht
  have:=znI (zq3 h) t.toNat (by rw [List.mem_range];omega)
  rw [show ((t.toNat:Nat):Int)=t by omega,zqk,hk] at this
  intro he
  rw [he] at this;cases this
 ·cases h
theorem opk:∀ n:Fin 76,1≤n.val→(2≤n.val→n.val≤7→yN (n.val:Int)=3∨yN (n.val:Int)=4)∧((n.val=43∨n.val=44∨n.val=45∨n.val=67)→yN (n.val:Int)=6)∧(48≤n.val→n.val≤53→yN (n.val:Int)=7):=by decide +kernel
theorem zsV {op:Int} (h1:1≤op) (h2:op≤75):(2≤op→op≤7→yN op=3∨yN op=4)∧((op=43∨op=44∨op=45∨op=67)→yN op=6)∧(48≤op→op≤53→yN op=7):=by
 have:=opk ⟨op.toNat,by omega⟩ (by show 1≤op.toNat;omega)
 simp only [show ((op.toNat:Nat):Int)=op by omega] at this
 exact ⟨fun a b=>this.1 (by omega) (by omega),fun a=>this.2.1 (by omega),fun a b=>this.2.2 (by omega) (by omega)⟩
theorem zrP {g:Img} {m:Me} {a:Int} (h:ZA g m=true) (h0:0≤a) (h1:a.toNat < m.code.length):codeOk g m (ql m a)=true:=by
 simp only [ZA,Vg,Bool.and_eq_true,List.all_eq_true] at h
 exact h.2.1.1.2 _ (by rw [ql,zQ h1];exact List.getElem_mem h1)
theorem zqy {g:Img} (hc:(Za g).2=0) {m a:Int} (hm:mOk g m) (h0:0≤a) (h1:a.toNat < (mAt g m).code.length):XOk g (ql (mAt g m) a):=by
 obtain ⟨hf,hd⟩:=Wj hc
 have hF:=Va hf
 have hcode:=zrP (QV hF.formed hm).formed h0 h1
 generalize ql (mAt g m) a=x at hcode ⊢
 rw [codeOk,Bool.and_eq_true] at hcode
 obtain ⟨e1,e2⟩:=hcode
 have e1:XK x=0:=by simpa using e1
 unfold XK at e1
 split at e1
 ·cases e1
 rename_i hop
 have b1:1≤x.op:=by omega
 have b2:x.op≤75:=by omega
 split at e1
 ·cases e1
 rename_i harg
 split at e1
 ·cases e1
 rename_i hty
 split at e1
 ·cases e1
 rename_i hwh
 obtain ⟨k1,k2,k3⟩:=zsV b1 b2
 have hmo:∀ i:Int,0≤i→i.toNat < g.methods.length→(mAt g i).params.length≤100∧0≤(mAt g i).owner∧(mAt g i).owner.toNat < g.types.length:=fun i i0 i1=>by
  have hM:=QV hF.formed (x:=i) ⟨i0,i1⟩
  have:=hM.small
  exact ⟨by omega,hM.o0,hM.o1⟩
 refine ⟨b1,b2,fun a1 a2=>?_,fun a1=>?_,fun a1 a2=>?_,fun _ _=>?_,fun i i0 i1=>(hmo i i0 i1).1,fun _ _ _ hk=>hd _ ?_⟩
 ·rcases k1 a1 a2 with e|e <;> rw [e] at harg <;> simp [zbW] at harg <;> omega
 ·rw [k2 a1] at harg e2
  simp [zbW] at harg e2
  exact ⟨by omega,by omega,hmo _ (by omega) (by omega)⟩
 ·rw [k3 a1 a2] at harg e2
  simp [zbW] at harg e2
  exact ⟨by omega,by omega⟩
 ·by_cases h8:yN x.op=8
  ·have hw:ZK x.t 1=true:=by
    cases hw:ZK x.t 1
    ·exact absurd ⟨h8,hw⟩ hwh
    ·rfl
   have hp:ZI x.t=true:=by
    unfold ZK at hw
    split at hw
    ·cases hw
    ·rename_i hp;simpa using hp
   have hd:0≤x.t.dims∧x.t.dims≤3:=by
    unfold ZI at hp
    split at hp
    ·cases hp
    ·rename_i hb
     simp at hb
     omega
   omega
  ·have ht:x.t=ty0:=Classical.byContradiction fun hne=>hty ⟨h8,hne⟩
   rw [ht];exact ⟨Int.le_refl 0,by show (0:Int)≤100;omega⟩
 ·rw [←zhM hF.formed];exact hk
theorem zoO {g:Img} (hf:yJ g=true) {m:Me} (h:m∈g.methods):MeOk g m:=by
 obtain ⟨i,hi,rfl⟩:=List.getElem_of_mem h
 have:=QV hf (x:=(i:Int)) (zmu hi)
 rwa [show mAt g (i:Int)=g.methods[i] by rw [mAt,show ((i:Int)).toNat=i by omega,zQ hi]] at this
theorem zqe {g:Img} (hf:yJ g=true):OwnOk g:=by
 obtain ⟨b1,b2,b3,_⟩:=yH hf
 refine ⟨by omega,by omega,by omega,fun td h=>?_,fun m h=>?_⟩
 ·have:=((zbO hf).faces td h).1;omega
 ·have:=(zoO hf h).small;omega
set_option maxHeartbeats 4000000 in
theorem ziX (g:Img) (hx:OkA g) (hc:(Za g).2=0):ACall Tryz.prog 24 [zT g] (.ptr (zT g) 0):=by
 have c1:=zfe g hx
 have c2:=zo2 g (zqe (Va (Wj hc).1).formed)
 rw [show zjE (Za g)=.tup [.agg [pi (Za g).1.1,pi (Za g).1.2],pi 0] by rw [zjE,hc]] at c1
 refine zi zf Tryz.func24 rfl (by kernel_rfl) Tryz.ntmps24 (by simp) _ rfl (fun hw gB hgB=>?_)
 repeat' (first|(refine shC ?_;first|refine qC c1 ?_|refine qC c2 ?_)|refine sK ?_|refine sC (fun _=>?_) (fun _=>?_)|fail)
 exact retq rfl rfl
def NzS {α:Type} (act:SM α):Prop:=∀ l e,act l=.error e→e≠0
theorem zrB {α β:Type} {x:SM α} {f:α→SM β} (hx:NzS x) (hf:∀ a,NzS (f a)):NzS (x >>= f):=fun l e h=>by
 rw [zu] at h
 cases hxl:x l with
 | error e'=>rw [hxl] at h;cases h;exact hx l e hxl
 | ok p=>rw [hxl] at h;exact hf p.1 p.2 e h
theorem zso {α:Type} (a:α):NzS (pure a:SM α):=fun l e h=>by rw [zC] at h;cases h
theorem zsu (b:Bool) {k:Int} (hk:k≠0):NzS (zJ b k):=fun l e h=>by unfold zJ at h;split at h <;> cases h;exact hk
theorem zts:NzS YC:=fun l e h=>by unfold YC at h;split at h <;> cases h;decide
theorem zrD (max:Int) (ts:List Ty):NzS (yV max ts):=fun l e h=>by unfold yV at h;split at h <;> cases h;decide
theorem zqI:NzS zbn:=fun l e h=>by cases h
theorem zp2 {k:Int} (hk:k≠0):NzS (emptyS k):=fun l e h=>by unfold emptyS at h;split at h <;> cases h;exact hk
theorem zqR (g:Img) (ls:List Ty):NzS (Zw g ls):=fun l e h=>by
 unfold Zw at h
 split at h
 ·cases h;decide
 ·split at h <;> cases h;decide
theorem zsZ {α:Type} {p:Prop} [Decidable p] {x y:SM α} (hx:NzS x) (hy:NzS y):NzS (if p then x else y):=by split <;> assumption
theorem zty (g:Img) (ar:List Ty) (m:Me) (x:Ins):NzS (doS g ar m x):=by
 unfold doS qP qA Zk qI yI qY yF yA yu Zm yL
 dsimp only
 unfold VE Yy YX Zg zbG Ze Qe Zh XG
 repeat' (first|with_reducible exact zts|with_reducible exact zrD _ _|with_reducible exact zso _|with_reducible exact zqI|with_reducible exact zsu _ (by decide)|with_reducible exact zp2 (by decide)|with_reducible exact zqR _ _|with_reducible refine zrB ?_ fun _=>?_|with_reducible refine zsZ ?_ ?_)
theorem znw {g:Img} {m a:Int} {l:List Ty} {e:Int} (h:stepS g m a l=.error e):e≠0:=zty _ _ _ _ l e h
theorem znh (g:Img) (hc:(Za g).2=0) {m a:Int} (hm:mOk g m) (h0:0≤a) (h1:a.toNat < (mAt g m).code.length) (l:List Ty) (hl:l.length≤100) :
  ACall Tryz.prog 77 [.ptr (zT g) 0,pi m,pi a,tys l] (zpK (stepS g m a l)):=by
 have hf:=(Va (Wj hc).1).formed
 have hM:=(QV hf hm).small
 have hb:=yH hf
 exact zoa g (zbO hf) (by omega) m a l hl hm (by omega) h0 h1 (zqy hc hm h0 h1)
def zfE (g:Img):Bool:=(Za g).2==0
def zge (g:Img) (m:Int):Bool:=decide (0≤m)&&decide (m < g.methods.length)&&decide (0 < (mAt g m).code.length)
theorem znZ {g:Img} {m:Me} (h:MeOk g m):ClOk m:=by
 have hs:=h.small
 refine ⟨hs.2.2.2.1,fun at_ x hx=>?_,by omega⟩
 have hr:=h.formed
 simp only [ZA,Vg,zdy,Bool.and_eq_true,decide_eq_true_eq,beq_iff_eq] at hr
 obtain ⟨j,h1,h2,h3⟩:=zeI hx
 have hp:=zj7 hr.2.2 h1 h2
 simp only [zcW,Bool.and_eq_true,decide_eq_true_eq] at h3
 have hc:=zqq h2
 exact ⟨by omega,by omega,by omega⟩
theorem zr3 {g:Img} (hc:(Za g).2=0) {m:Int} (hm:mOk g m) (i:Nat) (hi:i < (mAt g m).code.length):ACall Tryz.prog 27 [Qr g (mAt g m),pi (i:Int)] (pi (Wy g (mAt g m) (i:Int))):=by
 have hF:=(Va (Wj hc).1).formed
 have hM:=QV hF hm
 have hcl:=znZ hM
 have hs:=hM.small
 have h1:((i:Nat):Int).toNat < (mAt g m).code.length:=by omega
 refine zoJ g (mAt g m) i (by omega) (by omega) (zrC g _ hcl i (by omega) h1) (zkN g _ hcl i (by omega) h1) (zoy g _ hcl i (by omega) h1 fun _ hop=>?_)
 have hk:(i:Int) + 1 < ((mAt g m).code.length:Int):=by
  apply Classical.byContradiction
  intro hh
  rw [opV,decide_eq_true (show ((mAt g m).code.length:Int)≤(i:Int) + 1 by omega)] at hop
  simp at hop
 have hop2:(ql (mAt g m) ((i:Int) + 1)).op=43∨(ql (mAt g m) ((i:Int) + 1)).op=44:=by
  rw [opV,decide_eq_false (show ¬ ((mAt g m).code.length:Int)≤(i:Int) + 1 by omega),decide_eq_false (show ¬ (i:Int) + 1 < 0 by omega)] at hop
  exact hop
 have hm2:=(zqy hc hm (show 0≤(i:Int) + 1 by omega) (by omega)).m (by rcases hop2 with h|h <;> simp [h])
 exact ⟨⟨hm2.1,hm2.2.1⟩,hm2.2.2.1⟩
theorem zoI {g:Img} (hc:(Za g).2=0) {m:Int} (hm:mOk g m):ACall Tryz.prog 20 [Qr g (mAt g m)] (.tup [pi (zcH g (mAt g m)).1,pi (zcH g (mAt g m)).2]) :=
 zqZ g _ (znZ (QV (Va (Wj hc).1).formed hm)) fun i hi=>zr3 hc hm i hi
end Go.Cg
