/- A part of the walks by abstract values: no statement of its own. -/
import Derived.Test.YtemhfmmhkimhmaaGreatI39
import Derived.Test.YtemhfmmhkimhmaaGreatI33
import Derived.Test.YtemhfmmhkimhmaaGreatI31
import Derived.Test.YtemhfmmhkimhmaaGreatI21
import Derived.Test.YtemhfmmhkimhmaaGreatI38
import Derived.Test.YtemhfmmhkimhmaaGreatI37
import Derived.Test.YtemhfmmhkimhmaaGreatI26
import Derived.Test.YtemhfmmhkimhmaaGreatI14
set_option linter.unusedVariables false
set_option linter.unusedSimpArgs false
namespace Go.Cg
open Go.Proofs
theorem zwk32 {G:Prop} (h:G:=by repeat' (first|(refine shC ?_;first|(have:=d0;refine qC c0 ?_)|(have:=d1;refine qC cf ?_)|(have:=d2;refine qC ct ?_)|(have:=d3;refine qC ck ?_)|(have:=d4;refine qC cw ?_)|(have:=d5;refine qC cm ?_))|(refine shX ?_;first|(have:=d6;refine qX he ?_))|refine sK ?_|refine sC (fun _=>?_) (fun _=>?_)|(have:=d0;exact retq rfl (by rw [yY,hfi];rfl))|(have:=d7;exact retq rfl zwy119)|exact ⟨k + 1,⟨hlt,hr⟩,tD,tS,tH⟩|fail)):G:=h
set_option maxHeartbeats 4000000 in
theorem zjQ (g:Img):ACall Tryz.prog 18 [zK g] (zi7 (yY g)):=by
 have c0:=zp8 g;refine zh zf Tryz.func18 rfl zws Tryz.ntmps18 zwy63 _ rfl (fun hw gB hgB=>?_);cases hfi:zaU g
 ·rw [hfi] at c0;have d0:=();exact zwk32
 ·rw [hfi] at c0;have hF:=zay hfi;obtain ⟨hgt,_,hgm,_⟩:=yg hF.formed;have hr0:yY g=stM g (List.range g.methods.length):=by rw [yY,hfi];rfl
  repeat' (first|(refine shC ?_;first|refine qC c0 ?_)|refine sK ?_|refine sC (fun _=>?_) (fun _=>?_)|fail)
  refine zL (fun k:Nat=>[(1,.pv (.ptr (zK g) 0)),(2,.box 0 0),(4,.pv (pi k))]) (fun _=>[(0,.cell (.pv (.agg [pi 0,pi 0])))])
   (fun k=>k<=g.methods.length/\yY g=stM g ((List.range g.methods.length).drop k)) (fun k=>g.methods.length - k) 0 ⟨by omega,hr0⟩ (tS) tH ?_
  rintro k ⟨hk,hr⟩;by_cases hlt:k < g.methods.length
  ·have he:=zuM hlt;have hM:=XA hF.formed (zlD hlt);have cf:=zhy g hF.formed _ hM;have ct:=zjO g _ hM;rw [Vp hlt,stM] at hr;cases hf:Va g (mAt g (k:Int))
   ·rw [hf] at cf hr;have d1:=();have d6:=();have d7:=();exact zwk32
   ·rw [hf] at cf hr;cases ht:YG g (mAt g (k:Int))
    ·rw [ht] at ct hr;have d1:=();have d2:=();have d6:=();have d7:=();exact zwk32
    ·rw [ht] at ct hr;have d1:=();have d2:=();have d6:=();exact zwk32
  ·have hk2:k=g.methods.length:=by omega
   subst hk2;rw [zaE,stM] at hr
   repeat' (first|refine sK ?_|refine sC (fun _=>?_) (fun _=>?_)|fail)
   refine zL (fun k:Nat=>[(1,.pv (.ptr (zK g) 0)),(2,.box 0 0),(5,.pv (pi k))]) (fun _=>[(0,.cell (.pv (.agg [pi 0,pi 0])))])
    (fun k=>k<=g.types.length/\yY g=stC g (fun t=>Qz g t (Qr g t) (Zr g t)) ((List.range g.types.length).drop k)) (fun k=>g.types.length - k) 0 ⟨by omega,hr⟩ (tS) tH ?_
   clear hr hk hlt;rintro k ⟨hk,hr⟩;by_cases hlt:k < g.types.length
   ·have he:=zuN hlt;have hfl:=zkF hF.formed hlt;have hz:=zq6 hfl.1 hfl.2;have ck:=Zq g (k:Int);rw [Vp hlt,stC,zsj] at hr;by_cases hk0:zW g (k:Int)=0
    ·have cw:=zjM g hF (k:Int) hk0;rw [hk0] at ck hr;cases hb:yR (g.types.getD ((k:Int)).toNat default).flags 4
     ·rw [hb] at hz hr;cases hw2:Qz g (k:Int) (Qr g (k:Int)) (Zr g (k:Int))
      ·rw [hw2] at cw hr;have d3:=();have d4:=();have d6:=();have d7:=();exact zwk32
      ·rw [hw2] at cw hr;have d3:=();have d4:=();have d6:=();exact zwk32
     ·rw [hb] at hz hr;have d3:=();have d6:=();exact zwk32
    ·have hkb:(zW g (k:Int)==0)=false:=by simp [hk0]
     rw [hkb] at hr;have d3:=();have d6:=();exact zwk32
   ·have hk2:k=g.types.length:=by omega
    subst hk2;rw [zaE,stC] at hr
    repeat' (first|refine sK ?_|refine sC (fun _=>?_) (fun _=>?_)|fail)
    refine zL (fun k:Nat=>[(1,.pv (.ptr (zK g) 0)),(2,.box 0 0),(6,.pv (pi k))]) (fun _=>[(0,.cell (.pv (.agg [pi 0,pi 0])))])
     (fun k=>k<=g.types.length/\yY g=stD g ((List.range g.types.length).drop k)) (fun k=>g.types.length - k) 0 ⟨by omega,hr⟩ (tS) tH ?_
    clear hr hk hlt;rintro k ⟨hk,hr⟩;by_cases hlt:k < g.types.length
    ·have ck:=Zq g (k:Int);have cm:=QW g (k:Int) zwy62;have hlz:=znJ (l:=methodsOf g (k:Int));rw [Vp hlt,stD,zkX] at hr;by_cases hk3:zW g (k:Int)=3
     ·rw [hk3] at ck hr;cases hb:(methodsOf g (k:Int)).length==0
      ·rw [hb] at hlz hr;have d3:=();have d5:=();exact zwk32
      ·rw [hb] at hlz hr;have d3:=();have d5:=();have d7:=();exact zwk32
     ·have hkb:(zW g (k:Int)==3)=false:=by simp [hk3]
      rw [hkb] at hr;have d3:=();exact zwk32
    ·have hk2:k=g.types.length:=by omega
     subst hk2;rw [zaE,stD,stE] at hr;by_cases h0:0<=g.entry
     ·have hen:=zmG hF.formed h0;have hem:=YM hen;have hM:=XA hF.formed hen;have b1:=zkD (mAt g g.entry);have b4:=zf8 (mAt g g.entry);have hmay:Xv (mAt g g.entry).ret 3 g.types.length=true:=by
       have:=hM.formed;simp only [yX,Bool.and_eq_true] at this;exact this.1.1.1.2
      have hnr:(mAt g g.entry).ret.ref=false:=by
       have hpl:=(zaK hmay).1;rw [Xv,Bool.and_eq_true,ZQ,hpl] at hmay;simpa using hmay.1
      have hl0:decide (0 < ((((mAt g g.entry).params.map yI).length:Nat):Int))=!((mAt g g.entry).params.length==0):=by
       rw [List.length_map,Bool.eq_iff_iff];simp only [decide_eq_true_eq,Bool.not_eq_true',beq_eq_false_iff_ne];omega
      rw [decide_eq_true h0,znK,zvC (zaK hmay).1 hnr] at hr;generalize yR (mAt g g.entry).flags 1=c1 at b1 hr;generalize yR (mAt g g.entry).flags 4=c4 at b4 hr
      repeat' (first|(refine shX ?_;first|refine zy rfl (ah h0 hem) rfl rfl ?_|refine zq rfl (ah h0 hem) rfl rfl ?_)|refine sK ?_|refine sC (fun _=>?_) (fun _=>?_)|fail)
      all_goals repeat' (first|(refine shC ?_;first|refine qC b1 ?_|refine qC b4 ?_)|refine sA ?_|refine sC (fun _=>?_) (fun _=>?_)|fail)
      all_goals (refine ak ?_;rw [hr];clear hr hr0;first|(rw [if_neg (by simp_all)];rfl)|(rw [if_pos (by simp_all)];rfl))
     ·rw [decide_eq_false h0] at hr;have d7:=();exact zwk32
set_option maxHeartbeats 1000000 in
theorem zlp (g:Img):ACall Tryz.prog 14 [zK g] (pb ((yY g).2==0)):=by
 refine zh zf Tryz.func14 rfl zws Tryz.ntmps14 zwy63 _ rfl (fun hw gB hgB=>?_)
 repeat' (first|(refine shC ?_;first|refine qC (zjQ g) ?_)|refine sK ?_|refine sC (fun _=>?_) (fun _=>?_)|fail)
 exact retq rfl rfl
theorem zqu {g:Img}:∀ {l:List Nat},(stD g l).2=0->∀ i∈l,zkX g (i:Int)=false
 | [],_,i,hi=>by cases hi
 | j::l,h,i,hi=>by
  rw [stD] at h;cases hb:zkX g (j:Int)
  ·rw [hb,if_neg zwy63] at h;rcases List.mem_cons.1 hi with rfl|hi
   ·exact hb
   ·exact zqu h i hi
  ·rw [hb,if_pos rfl] at h;cases h
theorem ztu {g:Img} {W:Int->Bool}:∀ {l:List Nat},(stC g W l).2=0->(stD g (List.range g.types.length)).2=0
 | [],h=>h
 | j::l,h=>by
  rw [stC] at h;split at h
  ·cases h
  ·exact ztu h
theorem ztX {g:Img}:∀ {l:List Nat},(stM g l).2=0->(stD g (List.range g.types.length)).2=0
 | [],h=>ztu h
 | j::l,h=>by
  rw [stM] at h;split at h
  ·split at h
   ·exact ztX h
   ·cases h
  ·cases h
theorem zbg {g:Img} (h:(yY g).2=0):zaU g=true/\∀ t:Int,zW g t=3->methodsOf g t≠[]:=by
 unfold yY at h;split at h
 ·rename_i hf;refine ⟨hf,fun t hk=>?_⟩;have hin:0<=t/\t < g.types.length:=by
   unfold zW at hk;cases ht:typeAt g t with
   | none=>rw [ht] at hk;simp at hk
   | some td =>
    unfold typeAt at ht;split at ht
    ·rename_i hh;have:=(List.getElem?_eq_some_iff.1 ht).1;omega
    ·cases ht
  have:=zqu (ztX h) t.toNat (by rw [List.mem_range];omega);rw [show ((t.toNat:Nat):Int)=t by omega,zkX,hk] at this;intro he;rw [he] at this;cases this
 ·cases h
theorem opk:∀ n:Fin 76,1<=n.val->(2<=n.val->n.val<=7->yB (n.val:Int)=3\/yB (n.val:Int)=4)/\((n.val=43\/n.val=44\/n.val=45\/n.val=67)->yB (n.val:Int)=6)/\(48<=n.val->n.val<=53->yB (n.val:Int)=7):=by decide +kernel
theorem zwH {op:Int} (h1:1<=op) (h2:op<=75):(2<=op->op<=7->yB op=3\/yB op=4)/\((op=43\/op=44\/op=45\/op=67)->yB op=6)/\(48<=op->op<=53->yB op=7):=by
 have:=opk ⟨op.toNat,by omega⟩ (by show 1<=op.toNat;omega);simp only [show ((op.toNat:Nat):Int)=op by omega] at this;exact ⟨fun a b=>this.1 zwy62 zwy62,fun a=>this.2.1 zwy62,fun a b=>this.2.2 zwy62 zwy62⟩
theorem zvE {g:Img} {m:Me} {a:Int} (h:yX g m=true) (h0:0<=a) (h1:a.toNat < m.code.length):codeOk g m (qj m a)=true:=by
 simp only [yX,Zv,Bool.and_eq_true,List.all_eq_true] at h;exact h.2.1.1.2 _ (by rw [qj,zQ h1];exact List.getElem_mem h1)
theorem ztn {g:Img} (hc:(yY g).2=0) {m a:Int} (hm:mOk g m) (h0:0<=a) (h1:a.toNat < (mAt g m).code.length):XOk g (qj (mAt g m) a):=by
 obtain ⟨hf,hd⟩:=zbg hc;have hF:=zay hf;have hcode:=zvE (XA hF.formed hm).formed h0 h1;generalize qj (mAt g m) a=x at hcode ⊢;rw [codeOk,Bool.and_eq_true] at hcode;obtain ⟨e1,e2⟩:=hcode;have e1:Xa x=0:=by simpa using e1
 unfold Xa at e1;split at e1
 ·cases e1
 rename_i hop;have b1:1<=x.op:=by omega
 have b2:x.op<=75:=by omega
 split at e1
 ·cases e1
 rename_i harg;split at e1
 ·cases e1
 rename_i hty;split at e1
 ·cases e1
 rename_i hwh;obtain ⟨k1,k2,k3⟩:=zwH b1 b2;have hmo:∀ i:Int,0<=i->i.toNat < g.methods.length->(mAt g i).params.length<=100/\0<=(mAt g i).owner/\(mAt g i).owner.toNat < g.types.length:=fun i i0 i1=>by
  have hM:=XA hF.formed (x:=i) ⟨i0,i1⟩;have:=hM.small;exact ⟨by omega,hM.o0,hM.o1⟩
 refine ⟨b1,b2,fun a1 a2=>?_,fun a1=>?_,fun a1 a2=>?_,fun _ _=>?_,fun i i0 i1=>(hmo i i0 i1).1,fun _ _ _ hk=>hd _ ?_⟩
 ·rcases k1 a1 a2 with e|e <;> rw [e] at harg <;> simp [zad] at harg <;> omega
 ·rw [k2 a1] at harg e2;simp [zad] at harg e2;exact ⟨by omega,by omega,hmo _ zwy62 zwy62⟩
 ·rw [k3 a1 a2] at harg e2;simp [zad] at harg e2;exact ⟨by omega,by omega⟩
 ·by_cases h8:yB x.op=8
  ·have hw:ZQ x.t 1=true:=by
    cases hw:ZQ x.t 1
    ·exact absurd ⟨h8,hw⟩ hwh
    ·rfl
   have hp:ZV x.t=true:=by
    unfold ZQ at hw;split at hw
    ·cases hw
    ·rename_i hp;simpa using hp
   have hd:0<=x.t.dims/\x.t.dims<=3:=by
    unfold ZV at hp;split at hp
    ·cases hp
    ·rename_i hb;simp at hb;omega
   omega
  ·have ht:x.t=ty0:=Classical.byContradiction fun hne=>hty ⟨h8,hne⟩
   rw [ht];exact ⟨Int.le_refl 0,by show (0:Int)<=100;omega⟩
 ·rw [<-ziX hF.formed];exact hk
theorem zrO {g:Img} (hf:yh g=true) {m:Me} (h:m∈g.methods):MeOk g m:=by
 obtain ⟨i,hi,rfl⟩:=List.getElem_of_mem h;have:=XA hf (x:=(i:Int)) (zlD hi)
 rwa [show mAt g (i:Int)=g.methods[i] by rw [mAt,show ((i:Int)).toNat=i by omega,zQ hi]] at this
theorem ztr {g:Img} (hf:yh g=true):OwnOk g:=by
 obtain ⟨b1,b2,b3,_⟩:=yg hf;refine ⟨by omega,by omega,by omega,fun td h=>?_,fun m h=>?_⟩
 ·have:=((zcV hf).faces td h).1;omega
 ·have:=(zrO hf h).small;omega
set_option maxHeartbeats 4000000 in
theorem zkS (g:Img) (hx:OkA g) (hc:(yY g).2=0):ACall Tryz.prog 15 [zK g] (.ptr (zK g) 0):=by
 have c1:=zhb g hx;have c2:=zsk g (ztr (zay (zbg hc).1).formed);rw [show zi7 (yY g)=.tup [.agg [pi (yY g).1.1,pi (yY g).1.2],pi 0] by rw [zi7,hc]] at c1;refine zh zf Tryz.func15 rfl zws Tryz.ntmps15 zwy63 _ rfl (fun hw gB hgB=>?_)
 repeat' (first|(refine shC ?_;first|refine qC c1 ?_|refine qC c2 ?_)|refine sK ?_|refine sC (fun _=>?_) (fun _=>?_)|fail)
 exact retq rfl rfl
def zbJ (g:Img):Bool:=(yY g).2==0
def zaj (g:Img) (m:Int):Bool:=decide (0<=m)&&decide (m < g.methods.length)&&decide (0 < (mAt g m).code.length)
theorem zqb {g:Img} {m:Me} (h:MeOk g m):ClOk m:=by
 have hs:=h.small;refine ⟨hs.2.2.2.1,fun at_ x hx=>?_,by omega⟩;have hr:=h.formed;simp only [yX,Zv,XZ,Bool.and_eq_true,decide_eq_true_eq,beq_iff_eq] at hr;obtain ⟨j,h1,h2,h3⟩:=zgf hx;have hp:=zjj hr.2.2 h1 h2;simp only [zd7,Bool.and_eq_true,decide_eq_true_eq] at h3;have hc:=zu0 h2;exact ⟨by omega,by omega,by omega⟩
theorem zva {g:Img} (hc:(yY g).2=0) {m:Int} (hm:mOk g m) (i:Nat) (hi:i < (mAt g m).code.length):ACall Tryz.prog 47 [Xr g (mAt g m),pi (i:Int)] (pi (YT g (mAt g m) (i:Int))):=by
 have hF:=(zay (zbg hc).1).formed;have hM:=XA hF hm;have hcl:=zqb hM;have hs:=hM.small;have h1:((i:Nat):Int).toNat < (mAt g m).code.length:=by omega
 refine zr3 g (mAt g m) i zwy62 zwy62 (zwe g _ hcl i zwy62 h1) (zmi g _ hcl i zwy62 h1) (zsI g _ hcl i zwy62 h1 fun _ hop=>?_);have hk:(i:Int) + 1 < ((mAt g m).code.length:Int):=by
  apply Classical.byContradiction;intro hh;rw [opV,decide_eq_true (show ((mAt g m).code.length:Int)<=(i:Int) + 1 by omega)] at hop;simp at hop
 have hop2:(qj (mAt g m) ((i:Int) + 1)).op=43\/(qj (mAt g m) ((i:Int) + 1)).op=44:=by
  rw [opV,decide_eq_false (show ¬ ((mAt g m).code.length:Int)<=(i:Int) + 1 by omega),decide_eq_false (show ¬ (i:Int) + 1 < 0 by omega)] at hop;exact hop
 have hm2:=(ztn hc hm (show 0<=(i:Int) + 1 by omega) zwy62).m (by rcases hop2 with h|h <;> simp [h]);exact ⟨⟨hm2.1,hm2.2.1⟩,hm2.2.2.1⟩
theorem zqU {g:Img} (hc:(yY g).2=0) {m:Int} (hm:mOk g m):ACall Tryz.prog 21 [Xr g (mAt g m)] (.tup [pi (zbf g (mAt g m)).1,pi (zbf g (mAt g m)).2]) :=
 zuV g _ (zqb (XA (zay (zbg hc).1).formed hm)) fun i hi=>zva hc hm i hi
section
variable {g:Img} {m:Me}
end
section
variable {g:Img} {m:Me}
end
end Go.Cg
