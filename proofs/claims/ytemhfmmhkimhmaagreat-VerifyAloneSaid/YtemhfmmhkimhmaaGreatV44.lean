/- A part of the walks by abstract values: no statement of its own. -/
import Derived.Test.YtemhfmmhkimhmaaGreatV36
import Derived.Test.YtemhfmmhkimhmaaGreatV35
import Derived.Test.YtemhfmmhkimhmaaGreatV42
import Derived.Test.YtemhfmmhkimhmaaGreatV34
import Derived.Test.YtemhfmmhkimhmaaGreatV23
import Derived.Test.YtemhfmmhkimhmaaGreatV40
import Derived.Test.YtemhfmmhkimhmaaGreatV13
import Derived.Test.YtemhfmmhkimhmaaGreatV19
set_option linter.unusedVariables false
set_option linter.unusedSimpArgs false
namespace Go.Cg
open Go.Proofs
theorem zqd {g:Img}:∀ {l:List Nat},(stD g l).2=0->∀ i∈l,zkN g (i:Int)=false
 | [],_,i,hi=>by cases hi
 | j::l,h,i,hi=>by
  rw [stD] at h;cases hb:zkN g (j:Int)
  ·rw [hb,if_neg zwy63] at h;rcases List.mem_cons.1 hi with rfl|hi
   ·exact hb
   ·exact zqd h i hi
  ·rw [hb,if_pos rfl] at h;cases h
theorem zsn {g:Img} {W:Int->Bool}:∀ {l:List Nat},(stC g W l).2=0->(stD g (List.range g.types.length)).2=0
 | [],h=>h
 | j::l,h=>by
  rw [stC] at h;split at h
  ·cases h
  ·exact zsn h
theorem ztk {g:Img}:∀ {l:List Nat},(stM g l).2=0->(stD g (List.range g.types.length)).2=0
 | [],h=>zsn h
 | j::l,h=>by
  rw [stM] at h;split at h
  ·split at h
   ·exact ztk h
   ·cases h
  ·cases h
theorem zbm {g:Img} (h:(yX g).2=0):zbk g=true/\∀ t:Int,zV g t=3->methodsOf g t≠[]:=by
 unfold yX at h;split at h
 ·rename_i hf;refine ⟨hf,fun t hk=>?_⟩;have hin:0<=t/\t < g.types.length:=by
   unfold zV at hk;cases ht:typeAt g t with
   | none=>rw [ht] at hk;simp at hk
   | some td =>
    unfold typeAt at ht;split at ht
    ·rename_i hh;have:=(List.getElem?_eq_some_iff.1 ht).1;omega
    ·cases ht
  have:=zqd (ztk h) t.toNat (by rw [List.mem_range];omega);rw [show ((t.toNat:Nat):Int)=t by omega,zkN,hk] at this;intro he;rw [he] at this;cases this
 ·cases h
theorem opk:∀ n:Fin 76,1<=n.val->(2<=n.val->n.val<=7->yC (n.val:Int)=3\/yC (n.val:Int)=4)/\((n.val=43\/n.val=44\/n.val=45\/n.val=67)->yC (n.val:Int)=6)/\(48<=n.val->n.val<=53->yC (n.val:Int)=7):=by decide +kernel
theorem zv0 {op:Int} (h1:1<=op) (h2:op<=75):(2<=op->op<=7->yC op=3\/yC op=4)/\((op=43\/op=44\/op=45\/op=67)->yC op=6)/\(48<=op->op<=53->yC op=7):=by
 have:=opk ⟨op.toNat,by omega⟩ (by show 1<=op.toNat;omega);simp only [show ((op.toNat:Nat):Int)=op by omega] at this;exact ⟨fun a b=>this.1 zwy62 zwy62,fun a=>this.2.1 zwy62,fun a b=>this.2.2 zwy62 zwy62⟩
theorem zvc {g:Img} {m:Me} {a:Int} (h:yY g m=true) (h0:0<=a) (h1:a.toNat < m.code.length):codeOk g m (qy m a)=true:=by
 simp only [yY,Zz,Bool.and_eq_true,List.all_eq_true] at h;exact h.2.1.1.2 _ (by rw [qy,zQ h1];exact List.getElem_mem h1)
theorem zty {g:Img} (hc:(yX g).2=0) {m a:Int} (hm:mOk g m) (h0:0<=a) (h1:a.toNat < (mAt g m).code.length):XOk g (qy (mAt g m) a):=by
 obtain ⟨hf,hd⟩:=zbm hc;have hF:=zaw hf;have hcode:=zvc (XB hF.formed hm).formed h0 h1;generalize qy (mAt g m) a=x at hcode ⊢;rw [codeOk,Bool.and_eq_true] at hcode;obtain ⟨e1,e2⟩:=hcode;have e1:Xp x=0:=by simpa using e1
 unfold Xp at e1;split at e1
 ·cases e1
 rename_i hop;have b1:1<=x.op:=by omega
 have b2:x.op<=75:=by omega
 split at e1
 ·cases e1
 rename_i harg;split at e1
 ·cases e1
 rename_i hty;split at e1
 ·cases e1
 rename_i hwh;obtain ⟨k1,k2,k3⟩:=zv0 b1 b2;have hmo:∀ i:Int,0<=i->i.toNat < g.methods.length->(mAt g i).params.length<=100/\0<=(mAt g i).owner/\(mAt g i).owner.toNat < g.types.length:=fun i i0 i1=>by
  have hM:=XB hF.formed (x:=i) ⟨i0,i1⟩;have:=hM.small;exact ⟨by omega,hM.o0,hM.o1⟩
 refine ⟨b1,b2,fun a1 a2=>?_,fun a1=>?_,fun a1 a2=>?_,fun _ _=>?_,fun i i0 i1=>(hmo i i0 i1).1,fun _ _ _ hk=>hd _ ?_⟩
 ·rcases k1 a1 a2 with e|e <;> rw [e] at harg <;> simp [zaV] at harg <;> omega
 ·rw [k2 a1] at harg e2;simp [zaV] at harg e2;exact ⟨by omega,by omega,hmo _ zwy62 zwy62⟩
 ·rw [k3 a1 a2] at harg e2;simp [zaV] at harg e2;exact ⟨by omega,by omega⟩
 ·by_cases h8:yC x.op=8
  ·have hw:ZP x.t 1=true:=by
    cases hw:ZP x.t 1
    ·exact absurd ⟨h8,hw⟩ hwh
    ·rfl
   have hp:ZR x.t=true:=by
    unfold ZP at hw;split at hw
    ·cases hw
    ·rename_i hp;simpa using hp
   have hd:0<=x.t.dims/\x.t.dims<=3:=by
    unfold ZR at hp;split at hp
    ·cases hp
    ·rename_i hb;simp at hb;omega
   omega
  ·have ht:x.t=ty0:=Classical.byContradiction fun hne=>hty ⟨h8,hne⟩
   rw [ht];exact ⟨Int.le_refl 0,by show (0:Int)<=100;omega⟩
 ·rw [<-ziD hF.formed];exact hk
theorem zqQ {g:Img} (hf:yh g=true) {m:Me} (h:m∈g.methods):MeOk g m:=by
 obtain ⟨i,hi,rfl⟩:=List.getElem_of_mem h;have:=XB hf (x:=(i:Int)) (zk2 hi)
 rwa [show mAt g (i:Int)=g.methods[i] by rw [mAt,show ((i:Int)).toNat=i by omega,zQ hi]] at this
theorem zsR {g:Img} (hf:yh g=true):OwnOk g:=by
 obtain ⟨b1,b2,b3,_⟩:=yg hf;refine ⟨by omega,by omega,by omega,fun td h=>?_,fun m h=>?_⟩
 ·have:=((zc5 hf).faces td h).1;omega
 ·have:=(zqQ hf h).small;omega
set_option maxHeartbeats 4000000 in
theorem zlP (g:Img) (hx:OkA g) (hc:(yX g).2=0):ACall Tryz.prog 15 [zK g] (.ptr (zK g) 0):=by
 have c1:=zgA g hx;have c2:=zqw g (zsR (zaw (zbm hc).1).formed);rw [show zi0 (yX g)=.tup [.agg [pi (yX g).1.1,pi (yX g).1.2],pi 0] by rw [zi0,hc]] at c1;refine zh zf Tryz.func15 rfl zws Tryz.ntmps15 zwy63 _ rfl (fun hw gB hgB=>?_)
 repeat' (first|(refine shC ?_;first|refine qC c1 ?_|refine qC c2 ?_)|refine sK ?_|refine sC (fun _=>?_) (fun _=>?_)|fail)
 exact retq rfl rfl
def za7 (g:Img):Bool:=(yX g).2==0
def Vo (g:Img) (m:Int):Bool:=decide (0<=m)&&decide (m < g.methods.length)&&decide (0 < (mAt g m).code.length)
theorem zqk {g:Img} {m:Me} (h:MeOk g m):ClOk m:=by
 have hs:=h.small;refine ⟨hs.2.2.2.1,fun at_ x hx=>?_,by omega⟩;have hr:=h.formed;simp only [yY,Zz,WM,Bool.and_eq_true,decide_eq_true_eq,beq_iff_eq] at hr;obtain ⟨j,h1,h2,h3⟩:=zgz hx;have hp:=zmX hr.2.2 h1 h2;simp only [zeK,Bool.and_eq_true,decide_eq_true_eq] at h3;have hc:=ztV h2;exact ⟨by omega,by omega,by omega⟩
theorem zuW {g:Img} (hc:(yX g).2=0) {m:Int} (hm:mOk g m) (i:Nat) (hi:i < (mAt g m).code.length):ACall Tryz.prog 47 [Xw g (mAt g m),pi (i:Int)] (pi (XH g (mAt g m) (i:Int))):=by
 have hF:=(zaw (zbm hc).1).formed;have hM:=XB hF hm;have hcl:=zqk hM;have hs:=hM.small;have h1:((i:Nat):Int).toNat < (mAt g m).code.length:=by omega
 refine zrX g (mAt g m) i zwy62 zwy62 (zvb g _ hcl i zwy62 h1) (znr g _ hcl i zwy62 h1) (zrb g _ hcl i zwy62 h1 fun _ hop=>?_);have hk:(i:Int) + 1 < ((mAt g m).code.length:Int):=by
  apply Classical.byContradiction;intro hh;rw [opV,decide_eq_true (show ((mAt g m).code.length:Int)<=(i:Int) + 1 by omega)] at hop;simp at hop
 have hop2:(qy (mAt g m) ((i:Int) + 1)).op=43\/(qy (mAt g m) ((i:Int) + 1)).op=44:=by
  rw [opV,decide_eq_false (show ¬ ((mAt g m).code.length:Int)<=(i:Int) + 1 by omega),decide_eq_false (show ¬ (i:Int) + 1 < 0 by omega)] at hop;exact hop
 have hm2:=(zty hc hm (show 0<=(i:Int) + 1 by omega) zwy62).m (by rcases hop2 with h|h <;> simp [h]);exact ⟨⟨hm2.1,hm2.2.1⟩,hm2.2.2.1⟩
theorem zrM {g:Img} (hc:(yX g).2=0) {m:Int} (hm:mOk g m):ACall Tryz.prog 21 [Xw g (mAt g m)] (.tup [pi (zcw g (mAt g m)).1,pi (zcw g (mAt g m)).2]) :=
 zsS g _ (zqk (XB (zaw (zbm hc).1).formed hm)) fun i hi=>zuW hc hm i hi
section
variable {g:Img} {m:Me}
end
section
variable {g:Img} {m:Me}
end
end Go.Cg
