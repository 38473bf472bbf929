/- A part of the walks by abstract values: no statement of its own. -/
import Derived.Test.YtemhfmmhkimhmaaGreatI33
import Derived.Test.YtemhfmmhkimhmaaGreatI19
import Derived.Test.YtemhfmmhkimhmaaGreatI13
set_option linter.unusedVariables false
set_option linter.unusedSimpArgs false
namespace Go.Cg
open Go.Proofs
set_option maxHeartbeats 20000000
def WY (g:Img) (t m:Int):Int:=if Yk g m < 0 then m else (tbl g t).getD (Yk g m).toNat 0
def does (g:Img) (m k:Int):Bool:=Vy g k&&alk g k m
def zfp (g:Img) (t m:Int):Option Int:=((up g t).flatMap (methodsOf g)).find? (does g m)
def XM (g:Img) (t m:Int):Int:=match zfp g t m with|some k=>WY g t k|none => -1
def Qr (g:Img) (t m:Int):Int:=if zW g (Xf g m)==2&&Vy g m then XM g t m else WY g t m
theorem znZ {g:Img} (hW:Wl g):∀ (l:List Int) (t b:Int),up g t=l->b∈l->(tbl g b).length<=(tbl g t).length
 | [],t,b,h,hb=>by cases hb
 | x::l,t,b,h,hb=>by
  cases ht:typeAt g t with
  | none=>rw [up_nil ht] at h;cases h
  | some td =>
   rw [hW.up_cons ht] at h;simp only [List.cons.injEq] at h;obtain ⟨rfl,h⟩:=h;rcases List.mem_cons.1 hb with rfl|hb
   ·exact Nat.le_refl _
   ·have h1:=znZ hW l td.ext b h hb;have h2:=(VU g (methodsOf g t) (tbl g td.ext)).1;rw [zn1 hW ht];omega
theorem idx_range {l:List Int} {v:Int}:idx l v = -1\/(0<=idx l v/\(idx l v).toNat < l.length):=by
 rw [idx];split
 ·rename_i h;right;have:=List.findIdx_lt_length_of_exists (p:=(· == v)) ⟨v,h,by simp⟩;omega
 ·exact .inl rfl
theorem zlE {g:Img} (hW:Wl g) {t m:Int} (hb:zW g (Xf g m)=0->Xf g m∈up g t) (h:¬ Yk g m < 0):(Yk g m).toNat < (tbl g t).length:=by
 rw [Yk] at h ⊢;split at h
 ·rename_i hh;rw [if_pos hh];simp only [Bool.and_eq_true,beq_iff_eq] at hh;have h1:=znZ hW _ t _ rfl (hb hh.2);rcases idx_range (l:=tbl g (Xf g m)) (v:=m) with h2|h2
  ·omega
  ·omega
 ·omega
theorem VA {g:Img} {u k:Int} (h:k∈methodsOf g u):Xf g k=u:=by
 simp only [methodsOf,List.mem_filter,Bool.and_eq_true,beq_iff_eq] at h;exact h.2.2
theorem zwk37 {G:Prop} (h:G:=by repeat' (first|(refine shC ?_;first|refine qC c1 ?_|refine qC c2 ?_|refine qC c3 ?_|(have:=b0;refine qC c4 ?_))|(refine shX ?_;first|refine zy rfl (ah hm.1 hem) rfl rfl ?_|refine zq rfl (ah hm.1 hem) rfl rfl ?_|(have:=b0;refine qX he ?_))|refine sK ?_|refine sC (fun _=>?_) (fun _=>?_)|(have:=b1;exact retq rfl (by simp [zn,WY,hs]))|(have:=b0;exact retq rfl (by rw [WY,if_neg hs];rfl))|fail)):G:=h
theorem zpL (g:Img) (hF:Fine g) (t m:Int) (hm:mOk g m) (hn:(zW g (Xf g m)==2&&Vy g m)=false) (hb:zW g (Xf g m)=0->Xf g m∈up g t):ACall Tryz.prog 115 [zK g,pi t,pi m] (pi (WY g t m)):=by
 have hW:=zbm hF.well;have hem:=YM hm;have c1:=Yd g hF.formed (mAt g m).owner;have c2:=zwM hF hm;have c3:=zpX g hF m hm;have c4:=ziS g hF t;have hsi:=zlE hW hb;rw [Xf] at hn;refine zh zf Tryz.func115 rfl zws Tryz.ntmps115 zwy63 _ rfl (fun hw gB hgB=>?_);by_cases hk:zW g (mAt g m).owner=2
 ·rw [hk] at c1 hn;have hv:Vy g m=false:=by simpa using hn
  rw [hv] at c2;by_cases hs:Yk g m < 0
  ·have b1:=();exact zwk37
  ·have he:((tbl g t).map pi)[(Yk g m).toNat]?=some (pi ((tbl g t).getD (Yk g m).toNat 0)):=by rw [zQ (hsi hs)];exact Zp (hsi hs)
   have hd:decide (Yk g m < 0)=false:=decide_eq_false hs;have b0:=();exact zwk37
 ·have hkb:(zW g (mAt g m).owner==2)=false:=by simp [hk]
  by_cases hs:Yk g m < 0
  ·have b1:=();exact zwk37
  ·have he:((tbl g t).map pi)[(Yk g m).toNat]?=some (pi ((tbl g t).getD (Yk g m).toNat 0)):=by rw [zQ (hsi hs)];exact Zp (hsi hs)
   have hd:decide (Yk g m < 0)=false:=decide_eq_false hs;have b0:=();exact zwk37
theorem zkv {α:Type} {l:List α} {f:α->List Int} {i:Nat} (h:i < l.length):(l.drop i).flatMap f=f l[i]++(l.drop (i + 1)).flatMap f:=by
 rw [List.drop_eq_getElem_cons h,List.flatMap_cons]
theorem up0 {g:Img} (hW:Wl g) {t u k:Int} (hk:zW g t=0) (hu:u∈up g t) (h:k∈methodsOf g u):mOk g k/\(zW g (Xf g k)==2&&Vy g k)=false/\(zW g (Xf g k)=0->Xf g k∈up g t):=by
 have h1:=zmB hW _ t rfl hk _ hu;refine ⟨ql h,?_,fun _=>by rw [VA h];exact hu⟩;rw [VA h,h1];rfl
theorem zwk38 {G:Prop} (h:G:=by repeat' (first|(refine shC ?_;first|(have:=b0;refine qC c2 ?_)|(have:=b1;refine qC c3 ?_)|(have:=b2;refine qC (zpL g hF t k q1 q2 q3) ?_))|(refine shX ?_;first|(have:=b0;refine qX hek ?_)|(have:=b0;refine zy rfl (ah q1.1 hekm) rfl rfl ?_)|(have:=b0;refine zq rfl (ah q1.1 hekm) rfl rfl ?_)|(have:=b1;refine zy rfl (ah hm.1 hem) rfl rfl ?_)|(have:=b1;refine zq rfl (ah hm.1 hem) rfl rfl ?_))|refine sK ?_|refine sC (fun _=>?_) (fun _=>?_)|(have:=b3;exact retq rfl (by rw [XM,hr];rfl))|exact ⟨j + 1,⟨hjl,hr⟩,tD,tS,tH⟩|exact ⟨i + 1,⟨hlt,hr⟩,tD,tS,tH⟩|fail)):G:=h
theorem zsH (g:Img) (hF:Fine g) (t m:Int) (hm:mOk g m) (hk:zW g t=0):ACall Tryz.prog 77 [zK g,pi t,pi m] (pi (XM g t m)):=by
 have hW:=zbm hF.well;obtain ⟨hgt,_,hgm,_⟩:=yg hF.formed;have hem:=YM hm;have hui:=WS g t;have hul:=ZF _ _ hui.1 hui.2;refine zh zf Tryz.func77 rfl zws Tryz.ntmps77 zwy63 _ rfl (fun hw gB hgB=>?_)
 repeat' (first|(refine shC ?_;first|refine zy rfl (zJ rfl rfl (YZ g t zwy62)) rfl rfl ?_|refine zq rfl (zJ rfl rfl (YZ g t zwy62)) rfl rfl ?_)|refine sA ?_|refine sC (fun _=>?_) (fun _=>?_)|fail)
 refine zL (fun i:Nat=>[(1,.pv (pi t)),(2,.pv (pi m)),(3,.pv (.ptr (zK g) 0)),(13,.pv (ints (up g t))),(14,.pv (pi (up g t).length)),(15,.pv (pi i))]) (fun _=>[]) (fun i=>i<=(up g t).length/\zfp g t m=(((up g t).drop i).flatMap (methodsOf g)).find? (does g m)) (fun i=>(up g t).length - i) 0 ⟨by omega,rfl⟩ (tS) tH ?_;rintro i ⟨hi,hr⟩;by_cases hlt:i < (up g t).length
 ·obtain ⟨u,hu⟩:∃ u,u=(up g t)[i]:=⟨_,rfl⟩
  have hum:u∈up g t:=by rw [hu];exact List.getElem_mem hlt
  have heu:((up g t).map pi)[i]?=some (pi u):=by rw [hu];exact zS (f:=pi) hlt
  have c1:=Qe g u zwy62;have hml:=ZJ g u;rw [zkv hlt,<-hu] at hr
  repeat' (first|(refine shC ?_;first|refine qC c1 ?_)|(refine shX ?_;first|refine qX heu ?_)|refine sK ?_|refine sC (fun _=>?_) (fun _=>?_)|fail)
  refine zL (fun j:Nat=>[(1,.pv (pi t)),(2,.pv (pi m)),(3,.pv (.ptr (zK g) 0)),(13,.pv (ints (up g t))),(14,.pv (pi (up g t).length)),(15,.pv (pi i)),(21,.pv (ints (methodsOf g u))),(22,.pv (pi (methodsOf g u).length)),(23,.pv (pi j))]) (fun _=>[])
   (fun j=>j<=(methodsOf g u).length/\zfp g t m=((methodsOf g u).drop j++((up g t).drop (i + 1)).flatMap (methodsOf g)).find? (does g m)) (fun j=>(methodsOf g u).length - j) 0 ⟨by omega,hr⟩ (tS) tH ?_
  clear hr;rintro j ⟨hj,hr⟩;by_cases hjl:j < (methodsOf g u).length
  ·obtain ⟨k,hk2⟩:∃ k,k=(methodsOf g u)[j]:=⟨_,rfl⟩
   have hkm:k∈methodsOf g u:=by rw [hk2];exact List.getElem_mem hjl
   have hek:((methodsOf g u).map pi)[j]?=some (pi k):=by rw [hk2];exact zS (f:=pi) hjl
   obtain ⟨q1,q2,q3⟩:=up0 hW hk hum hkm;have hekm:=YM q1;have c2:=zwM hF q1;have c3:=zhk (mAt g k) (mAt g m);rw [zqz hF.formed q1 hm] at c3;rw [List.drop_eq_getElem_cons hjl,<-hk2,List.cons_append,List.find?_cons] at hr;cases hv:Vy g k
   ·rw [hv] at c2;rw [show does g m k=false by rw [does,hv];rfl] at hr;have b0:=();exact zwk38
   ·rw [hv] at c2;cases ha:alk g k m
    ·rw [ha] at c3;rw [show does g m k=false by rw [does,hv,ha];rfl] at hr;have b0:=();have b1:=();exact zwk38
    ·rw [ha] at c3;rw [show does g m k=true by rw [does,hv,ha];rfl] at hr;have b0:=();have b1:=();have b2:=();have b3:=();exact zwk38
  ·rw [List.drop_eq_nil_of_le zwy62,List.nil_append] at hr;exact zwk38
 ·rw [List.drop_eq_nil_of_le zwy62] at hr;have b3:=();exact zwk38
set_option maxHeartbeats 20000000
theorem zwk39 {G:Prop} (h:G:=by repeat' (first|refine zM 0 5 0 zf rfl zws zws zws rfl rfl rfl rfl rfl rfl rfl rfl rfl rfl rfl rfl rfl rfl (fun _=>rfl) rfl rfl rfl ?_|refine ⟨_,_,rfl,rfl,rfl,?_⟩|(refine shC ?_;first|refine qC c1 ?_|refine qC c2 ?_|refine qC c3 ?_|(have:=b0;refine qC c4 ?_))|(refine shX ?_;first|refine zy rfl (ah hm.1 hem) rfl rfl ?_|refine zq rfl (ah hm.1 hem) rfl rfl ?_|(have:=b0;refine qX he ?_))|refine sK ?_|refine sC (fun _=>?_) (fun _=>?_)|(have:=b1;exact retq rfl (by simp [zn,WY,hs]))|(have:=b0;exact retq rfl (by rw [WY,if_neg hs];rfl))|fail)):G:=h
theorem zgS (g:Img) (hF:Fine g) (t m:Int) (hm:mOk g m) (hn:(zW g (Xf g m)==2&&Vy g m)=false) (hb:zW g (Xf g m)=0->Xf g m∈up g t):ACall Tryz.prog 63 [zK g,pi t,pi m] (pi (WY g t m)):=by
 have hW:=zbm hF.well;have hem:=YM hm;have c1:=Zq g (mAt g m).owner;have c2:=zaF (mAt g m);rw [show yR (mAt g m).flags 2=Vy g m from rfl] at c2;have c3:=zpN g hF m hm;have c4:=zet g hF _ t (Nat.le_refl _);have hsi:=zlE hW hb;rw [Xf] at hn;refine zh zf Tryz.func63 rfl zws Tryz.ntmps63 zwy63 _ rfl (fun hw gB hgB=>?_);by_cases hk:zW g (mAt g m).owner=2
 ·rw [hk] at c1 hn;have hv:Vy g m=false:=by simpa using hn
  rw [hv] at c2;by_cases hs:Yk g m < 0
  ·have b1:=();exact zwk39
  ·have he:((tbl g t).map pi)[(Yk g m).toNat]?=some (pi ((tbl g t).getD (Yk g m).toNat 0)):=by rw [zQ (hsi hs)];exact Zp (hsi hs)
   have hd:decide (Yk g m < 0)=false:=decide_eq_false hs;have b0:=();exact zwk39
 ·have hkb:(zW g (mAt g m).owner==2)=false:=by simp [hk]
  by_cases hs:Yk g m < 0
  ·have b1:=();exact zwk39
  ·have he:((tbl g t).map pi)[(Yk g m).toNat]?=some (pi ((tbl g t).getD (Yk g m).toNat 0)):=by rw [zQ (hsi hs)];exact Zp (hsi hs)
   have hd:decide (Yk g m < 0)=false:=decide_eq_false hs;have b0:=();exact zwk39
theorem zwk40 {G:Prop} (h:G:=by repeat' (first|(refine shC ?_;first|(have:=b0;refine qC c4 ?_)|(have:=b1;refine qC c5 ?_)|(have:=b2;refine qC (zgS g hF t k q1 q2 q3) ?_))|(refine shX ?_;first|(have:=b0;refine qX hek ?_)|(have:=b0;refine zy rfl (ah q1.1 hekm) rfl rfl ?_)|(have:=b0;refine zq rfl (ah q1.1 hekm) rfl rfl ?_))|refine sK ?_|refine sC (fun _=>?_) (fun _=>?_)|(have:=b3;exact retq rfl (by rw [XM,hr];rfl))|exact ⟨j + 1,⟨hjl,hr⟩,tD,tS,tH⟩|exact ⟨i + 1,⟨hlt,hr⟩,tD,tS,tH⟩|fail)):G:=h
theorem zpe (g:Img) (hF:Fine g) (t m:Int) (hm:mOk g m) (hk:zW g t=0) (hb:zW g (Xf g m)=0->Xf g m∈up g t):ACall Tryz.prog 63 [zK g,pi t,pi m] (pi (Qr g t m)):=by
 cases hc:(zW g (Xf g m)==2&&Vy g m)
 ·rw [show Qr g t m=WY g t m by rw [Qr,hc];rfl];exact zgS g hF t m hm hc hb
 ·have hW:=zbm hF.well;obtain ⟨hgt,_,hgm,_⟩:=yg hF.formed;have hui:=WS g t;have hul:=ZF _ _ hui.1 hui.2;have hem:=YM hm;have c1:=Zq g (mAt g m).owner;have c2:=zaF (mAt g m);rw [show yR (mAt g m).flags 2=Vy g m from rfl] at c2;rw [show Qr g t m=XM g t m by rw [Qr,hc];rfl];rw [Bool.and_eq_true,Xf,beq_iff_eq] at hc;rw [hc.1] at c1;rw [hc.2] at c2;refine zh zf Tryz.func63 rfl zws Tryz.ntmps63 zwy63 _ rfl (fun hw gB hgB=>?_)
  repeat' (first|refine zM 0 5 0 zf rfl zws zws zws rfl rfl rfl rfl rfl rfl rfl rfl rfl rfl rfl rfl rfl rfl (fun _=>rfl) rfl rfl rfl ?_|refine ⟨_,_,rfl,rfl,rfl,?_⟩|(refine shC ?_;first|refine qC c1 ?_|refine qC c2 ?_|refine zy rfl (zJ rfl rfl (za3 g t zwy62)) rfl rfl ?_|refine zq rfl (zJ rfl rfl (za3 g t zwy62)) rfl rfl ?_)|(refine shX ?_;first|refine zy rfl (ah hm.1 hem) rfl rfl ?_|refine zq rfl (ah hm.1 hem) rfl rfl ?_)|refine sK ?_|refine sC (fun _=>?_) (fun _=>?_)|fail)
  refine zL (fun i:Nat=>[(1,.pv (pi t)),(3,.pv (.ptr (zK g) 0)),(7,.box 0 0),(8,.pv (ints (up g t))),(9,.pv (pi i))]) (fun _=>[(0,.cell (.pv (zY (mAt g m))))]) (fun i=>i<=(up g t).length/\zfp g t m=(((up g t).drop i).flatMap (methodsOf g)).find? (does g m)) (fun i=>(up g t).length - i) 0 ⟨by omega,rfl⟩ (tS) tH ?_;rintro i ⟨hi,hr⟩;by_cases hlt:i < (up g t).length
  ·obtain ⟨u,hu⟩:∃ u,u=(up g t)[i]:=⟨_,rfl⟩
   have hum:u∈up g t:=by rw [hu];exact List.getElem_mem hlt
   have heu:((up g t).map pi)[i]?=some (pi u):=by rw [hu];exact zS (f:=pi) hlt
   have c3:=QW g u zwy62;have hml:=ZJ g u;rw [zkv hlt,<-hu] at hr
   repeat' (first|(refine shC ?_;first|refine qC c3 ?_)|(refine shX ?_;first|refine qX heu ?_)|refine sK ?_|refine sC (fun _=>?_) (fun _=>?_)|fail)
   refine zL (fun j:Nat=>[(1,.pv (pi t)),(3,.pv (.ptr (zK g) 0)),(7,.box 0 0),(8,.pv (ints (up g t))),(9,.pv (pi i)),(10,.pv (ints (methodsOf g u))),(11,.pv (pi j))]) (fun _=>[(0,.cell (.pv (zY (mAt g m))))])
    (fun j=>j<=(methodsOf g u).length/\zfp g t m=((methodsOf g u).drop j++((up g t).drop (i + 1)).flatMap (methodsOf g)).find? (does g m)) (fun j=>(methodsOf g u).length - j) 0 ⟨by omega,hr⟩ (tS) tH ?_
   clear hr;rintro j ⟨hj,hr⟩;by_cases hjl:j < (methodsOf g u).length
   ·obtain ⟨k,hk2⟩:∃ k,k=(methodsOf g u)[j]:=⟨_,rfl⟩
    have hkm:k∈methodsOf g u:=by rw [hk2];exact List.getElem_mem hjl
    have hek:((methodsOf g u).map pi)[j]?=some (pi k):=by rw [hk2];exact zS (f:=pi) hjl
    obtain ⟨q1,q2,q3⟩:=up0 hW hk hum hkm;have hekm:=YM q1;have c4:=zaF (mAt g k);rw [show yR (mAt g k).flags 2=Vy g k from rfl] at c4;have c5:=zg7 (mAt g k) (mAt g m);rw [show zbN (mAt g k) (mAt g m)=alk g k m from rfl] at c5;rw [List.drop_eq_getElem_cons hjl,<-hk2,List.cons_append,List.find?_cons] at hr;cases hv:Vy g k
    ·rw [hv] at c4;rw [show does g m k=false by rw [does,hv];rfl] at hr;have b0:=();exact zwk40
    ·rw [hv] at c4;cases ha:alk g k m
     ·rw [ha] at c5;rw [show does g m k=false by rw [does,hv,ha];rfl] at hr;have b0:=();have b1:=();exact zwk40
     ·rw [ha] at c5;rw [show does g m k=true by rw [does,hv,ha];rfl] at hr;have b0:=();have b1:=();have b2:=();have b3:=();exact zwk40
   ·rw [List.drop_eq_nil_of_le zwy62,List.nil_append] at hr;exact zwk40
  ·rw [List.drop_eq_nil_of_le zwy62] at hr;have b3:=();exact zwk40
def za7 (m:Me):Bool:=m.code.length==0&&m.locals.length==0&&m.clauses.length==0&&m.max==0
def ziR (k:Int) (b1 b2 b4 b8 b16 rv f16 em nc:Bool):Bool:=!(b16&&(k != 0||rv||f16))&&!(b2&&(b1||k==1))&&!((b4||b8)&&!b2)&&(if b4 then em else nc)
def zms (k:Int) (b4 m1 ab:Bool):Bool:=if k==2 then b4 else if k==3 then b4&&m1 else !b4||ab
def QT (k:Int) (b1 b2 b4 b8 b16 rv f16 em nc m1 ab:Bool):Bool :=
 !(b16&&(k != 0||rv||f16))&&!(b2&&(b1||k==1))&&!(!b2&&(b4||b8))&&!(b4&&!em)&&!(!b4&&(!nc||decide (2<=k)))&&!(k==3&&!m1)&&(!b4||decide (2<=k)||ab)
theorem ztv (b1 b2 b4 b8 b16 rv f16 em nc m1 ab:Bool) {k:Int} (hk:k=0\/k=1\/k=2\/k=3):(ziR k b1 b2 b4 b8 b16 rv f16 em nc&&zms k b4 m1 ab)=QT k b1 b2 b4 b8 b16 rv f16 em nc m1 ab:=by
 simp only [ziR,zms,QT];generalize (b16&&(k != 0||rv||f16))=x;generalize (b2&&(b1||k==1))=y;rcases hk with rfl|rfl|rfl|rfl <;> cases x <;> cases y <;> cases b2 <;> cases b4 <;> cases b8 <;> cases em <;> cases nc <;> cases m1 <;> cases ab <;> rfl
def zqF (g:Img) (m:Me):Bool:=ziR (zW g m.owner) (yR m.flags 1) (yR m.flags 2) (yR m.flags 4) (yR m.flags 8) (yR m.flags 16) (m.ret.kind != 1) (m.flags != 16) (za7 m) (decide (0 < m.code.length))
def zk4 (g:Img) (m:Me):Bool:=zms (zW g m.owner) (yR m.flags 4) ((methodsOf g m.owner).length==1) (yR (g.types.getD m.owner.toNat default).flags 4)
def Va (g:Img) (m:Me):Bool:=QT (zW g m.owner) (yR m.flags 1) (yR m.flags 2) (yR m.flags 4) (yR m.flags 8) (yR m.flags 16) (m.ret.kind != 1) (m.flags != 16) (za7 m) (decide (0 < m.code.length)) ((methodsOf g m.owner).length==1) (yR (g.types.getD m.owner.toNat default).flags 4)
structure MeOk (g:Img) (m:Me):Prop where
 f0:0<=m.flags
 f1:m.flags<=31
 o0:0<=m.owner
 o1:m.owner.toNat < g.types.length
 formed:yX g m=true
theorem XA {g:Img} (hf:yh g=true) {x:Int} (h:mOk g x):MeOk g (mAt g x):=by
 have h1:=zaL hf h;have h2:=zbZ hf h.2;simp only [yh,Bool.and_eq_true,List.all_eq_true] at hf;have:=hf.2 x.toNat (by simpa using h.2);rw [zaX] at this;simp only [Bool.and_eq_true,decide_eq_true_eq] at this;have e:g.methods.getD x.toNat default=mAt g x:=rfl;rw [e] at this h2;obtain ⟨⟨⟨t1,t2⟩,_⟩,_⟩:=this;exact ⟨h1.1,h1.2,t1,by omega,h2⟩
theorem MeOk.kind {g:Img} {m:Me} (h:MeOk g m):zW g m.owner=0\/zW g m.owner=1\/zW g m.owner=2\/zW g m.owner=3:=by
 have h1:=zdA g m.owner;obtain ⟨td,htd⟩:=Yv (g:=g) (t:=m.owner) ⟨h.o0,by have:=h.o1;have:=h.o0;omega⟩;have h2:zW g m.owner=WZ td.flags:=by rw [zW,htd]
 have h3:=zg5 td.flags;omega
theorem zwj {g:Img} {m:Me} (h:MeOk g m):(zqF g m&&zk4 g m)=Va g m:=ztv _ _ _ _ _ _ _ _ _ _ _ h.kind
theorem MeOk.small {g:Img} {m:Me} (h:MeOk g m):m.code.length<=160/\m.locals.length<=12/\m.params.length<=6/\m.clauses.length<=6/\0<=m.max/\m.max<=12:=by
 have:=h.formed;simp only [yX,Zv,XZ,Bool.and_eq_true,decide_eq_true_eq] at this;obtain ⟨⟨⟨⟨⟨⟨⟨⟨⟨⟨_,_⟩,_⟩,h3⟩,h4⟩,h5⟩,h6⟩,_⟩,_⟩,_⟩,⟨⟨h7,_⟩,_⟩,h8⟩:=this;refine ⟨by omega,by omega,by omega,?_,h3,h4⟩;by_cases hc:6 < m.clauses.length
 ·rw [Zu,if_pos hc] at h8;simp at h8
 ·omega
theorem zrm {m:Me} (h1:m.code.length<=160) (h2:m.locals.length<=12) (h3:m.clauses.length<=6) (h4:0<=m.max) (h5:m.max<=12) :
  (IntKind.i64.wrap (IntKind.i64.wrap (IntKind.i64.wrap ((((m.code.map yM).length:Nat):Int) + (((m.locals.map yI).length:Nat):Int)) + (((m.clauses.map qR).length:Nat):Int)) + m.max)==0)=za7 m:=by
 simp only [List.length_map];rw [wrap_in (a:=(m.code.length:Int) + (m.locals.length:Int)) zwy62 zwy62,wrap_in (a:=(m.code.length:Int) + (m.locals.length:Int) + (m.clauses.length:Int)) zwy62 zwy62,wrap_in zwy62 zwy62,za7,Bool.eq_iff_iff];simp only [beq_iff_eq,Bool.and_eq_true];omega
theorem zw8 {g:Img} {m:Me} (h:MeOk g m):ACall Tryz.prog 65 [zY m,pi 1] (pb (yR m.flags 1))/\ACall Tryz.prog 65 [zY m,pi 2] (pb (yR m.flags 2))/\ACall Tryz.prog 65 [zY m,pi 4] (pb (yR m.flags 4))/\ACall Tryz.prog 65 [zY m,pi 8] (pb (yR m.flags 8))/\ACall Tryz.prog 65 [zY m,pi 16] (pb (yR m.flags 16)):=by
 obtain ⟨e1,e2,e4,e8,e16⟩:=zck h.f0 h.f1;exact ⟨e1 ▸ XO m 1,e2 ▸ XO m 2,e4 ▸ XO m 4,e8 ▸ XO m 8,e16 ▸ XO m 16⟩
set_option maxHeartbeats 4000000 in
theorem zjP (g:Img) (hf:yh g=true) (m:Me) (h:MeOk g m):ACall Tryz.prog 33 [zK g,zY m] (pb (zqF g m)):=by
 obtain ⟨h1,h2,h4,h8,h16⟩:=zw8 h;have ck:=Yd g hf m.owner;have hk:=h.kind;obtain ⟨s1,s2,_,s4,s5,s6⟩:=h.small;have he:=zrm s1 s2 s4 s5 s6;refine zh zf Tryz.func33 rfl zws Tryz.ntmps33 zwy63 _ rfl (fun hw gB hgB=>?_);rw [zqF];generalize yR m.flags 1=b1 at h1 ⊢;generalize yR m.flags 2=b2 at h2 ⊢;generalize yR m.flags 4=b4 at h4 ⊢;generalize yR m.flags 8=b8 at h8 ⊢;generalize yR m.flags 16=b16 at h16 ⊢;generalize za7 m=em at he ⊢;rcases hk with hk|hk|hk|hk <;> rw [hk] at ck ⊢ <;> clear hk
 all_goals repeat' (first|(refine shC ?_;first|refine qC ck ?_|refine qC h1 ?_|refine qC h2 ?_|refine qC h4 ?_|refine qC h8 ?_|refine qC h16 ?_)|refine sA ?_|refine sC (fun _=>?_) (fun _=>?_)|fail)
 all_goals (refine ak ?_;first|(simp_all [zn,ziR];done)|(rename_i hx;simp_all [zn,ziR];omega)|(trace_state))
set_option maxHeartbeats 20000000
theorem zmI {g:Img} {m:Me} (h:MeOk g m):(g.types.map Zw)[m.owner.toNat]?=some (Zw (g.types.getD m.owner.toNat default)):=by
 rw [zQ h.o1];exact Zp h.o1
theorem zny {g:Img} (hf:yh g=true) {t:Int} (h0:0<=t) (h1:t.toNat < g.types.length):0<=(g.types.getD t.toNat default).flags/\(g.types.getD t.toNat default).flags<=31:=by
 have:typeAt g t=some (g.types.getD t.toNat default):=by
  rw [typeAt,if_pos h0,zQ h1];exact List.getElem?_eq_getElem h1
 have:=zaG hf this;exact ⟨this.1,this.2.1⟩
theorem zon (g:Img) (hf:yh g=true) (m:Me) (h:MeOk g m):ACall Tryz.prog 34 [zK g,zY m] (pb (zk4 g m)):=by
 obtain ⟨h1,h2,h4,h8,h16⟩:=zw8 h;have ck:=Yd g hf m.owner;have hk:=h.kind;have hgm:g.methods.length<=64:=(yg hf).2.2.1;have cm:=Qe g m.owner zwy62;have hml:=ZJ g m.owner;have hto:=zmI h;have hfl:=zny hf h.o0 h.o1;have hfe:qQ (g.types.getD m.owner.toNat default).flags 4=yR (g.types.getD m.owner.toNat default).flags 4:=(zck hfl.1 hfl.2).2.2.1;have hms:(((((methodsOf g m.owner).map pi).length:Nat):Int)==1)=((methodsOf g m.owner).length==1):=by
  rw [List.length_map,Bool.eq_iff_iff];simp only [beq_iff_eq];omega
 refine zh zf Tryz.func34 rfl zws Tryz.ntmps34 zwy63 _ rfl (fun hw gB hgB=>?_);rw [zk4];generalize yR m.flags 4=b4 at h4 ⊢;rw [<-hfe,qQ];rcases hk with hk|hk|hk|hk <;> rw [hk] at ck ⊢ <;> clear hk
 all_goals repeat' (first|(refine shC ?_;first|refine qC ck ?_|refine qC h4 ?_|refine qC cm ?_)|(refine shX ?_;first|refine zy rfl (ah h.o0 hto) rfl rfl ?_|refine zq rfl (ah h.o0 hto) rfl rfl ?_)|refine sA ?_|refine sC (fun _=>?_) (fun _=>?_)|fail)
 all_goals (refine ak ?_;first|(simp_all [zn,zms];done)|(simp_all [zn,zms];omega))
def ztS (QQ:QC):QC
 | .normal,_,_=>False
 | e,env,H=>QQ e env H
theorem zdH {P:Program} {n:Nat} {g:Base} {x y:Code} {env:Env} {H:HEnv} {QQ:QC} (h1:AW P n g x env H (ztS QQ)):AW P n g (.seq x y) env H QQ :=
 zlP (h1.mono fun e env' H' hq=>by
  cases e <;> first
   | exact hq.elim
   | exact hq)
theorem zwk25 {G:Prop} (h:G:=by repeat' (first|(refine shC ?_;first|(have:=d0;refine qC ck ?_))|refine sA ?_|refine sC (fun _=>?_) (fun _=>?_)|exact ⟨tS,tH⟩|fail)):G:=h
theorem zhy (g:Img) (hf:yh g=true) (m:Me) (h:MeOk g m):ACall Tryz.prog 26 [zK g,zY m] (pb (Va g m)):=by
 have h1:=zkD m;have h2:=zaF m;have h4:=zf8 m;have h8:=zku m;have h16:=zpr m;have ck:=Zq g m.owner;have hgm:g.methods.length<=64:=(yg hf).2.2.1;obtain ⟨s1,s2,_,s4,s5,s6⟩:=h.small;have cm:=QW g m.owner zwy62;have hml:=ZJ g m.owner;have hto:=zmI h;have hms:(((((methodsOf g m.owner).map pi).length:Nat):Int)==1)=((methodsOf g m.owner).length==1):=by
  rw [List.length_map,Bool.eq_iff_iff];simp only [beq_iff_eq];omega
 have he:za7 m=(!(decide (0 < (((m.code.map yM).length:Nat):Int))||decide (0 < (((m.locals.map yI).length:Nat):Int))||decide (0 < (((m.clauses.map qR).length:Nat):Int))||decide (0 < m.max))):=by
  rw [za7,Bool.eq_iff_iff];simp only [List.length_map,Bool.and_eq_true,beq_iff_eq,Bool.not_eq_true',Bool.or_eq_false_iff,decide_eq_false_iff_not];omega
 have hc:decide (0 < m.code.length)=!((((m.code.map yM).length:Nat):Int)==0):=by
  rw [List.length_map,Bool.eq_iff_iff];simp only [decide_eq_true_eq,Bool.not_eq_true',beq_eq_false_iff_ne];omega
 refine zh zf Tryz.func26 rfl zws Tryz.ntmps26 zwy63 _ rfl (fun hw gB hgB=>?_);rw [Va];generalize yR m.flags 1=b1 at h1 ⊢;generalize yR m.flags 2=b2 at h2 ⊢;generalize yR m.flags 4=b4 at h4 ⊢;generalize yR m.flags 8=b8 at h8 ⊢;generalize yR m.flags 16=b16 at h16 ⊢;generalize hab:yR (g.types.getD m.owner.toNat default).flags 4=ab;rw [yR] at hab;generalize za7 m=em at he ⊢;generalize decide (0 < m.code.length)=nc at hc ⊢;generalize hm1:((methodsOf g m.owner).length==1)=m1 at hms ⊢;generalize zW g m.owner=k at ck ⊢;refine Xo [(2,.pv (.ptr (zK g) 0)),(3,.pv (.ptr (zY m) 0))] [] ?_ ?_
 ·exact zwk25
 refine Xo [(2,.pv (.ptr (zK g) 0)),(3,.pv (.ptr (zY m) 0)),(5,.pv (pi k))] [] ?_ ?_
 ·have d0:=();exact zwk25
 cases hA:(b16&&(k != 0||(m.ret.kind != 1)||(m.flags != 16)))
 ·refine Xo [(2,.pv (.ptr (zK g) 0)),(3,.pv (.ptr (zY m) 0)),(5,.pv (pi k))] [] ?_ ?_
  ·clear he hc hms hm1
   repeat' (first|(refine shC ?_;first|refine qC h16 ?_)|refine sA ?_|refine sC (fun _=>?_) (fun _=>?_)|fail)
   all_goals first|exact ⟨tS,tH⟩|(exfalso;simp_all;done)
  cases hB:(b2&&(b1||k==1))
  ·refine Xo [(2,.pv (.ptr (zK g) 0)),(3,.pv (.ptr (zY m) 0)),(5,.pv (pi k))] [] ?_ ?_
   ·clear he hc hms hm1
    repeat' (first|(refine shC ?_;first|refine qC h1 ?_|refine qC h2 ?_)|refine sA ?_|refine sC (fun _=>?_) (fun _=>?_)|fail)
    all_goals first|exact ⟨tS,tH⟩|(exfalso;simp_all;done)
   cases hC:(!b2&&(b4||b8))
   ·refine Xo [(2,.pv (.ptr (zK g) 0)),(3,.pv (.ptr (zY m) 0)),(5,.pv (pi k))] [] ?_ ?_
    ·clear he hc hms hm1
     repeat' (first|(refine shC ?_;first|refine qC h2 ?_|refine qC h4 ?_|refine qC h8 ?_)|refine sA ?_|refine sC (fun _=>?_) (fun _=>?_)|fail)
     all_goals first|exact ⟨tS,tH⟩|(exfalso;simp_all;done)
    cases hD:(b4&&!em)
    ·refine Xo [(2,.pv (.ptr (zK g) 0)),(3,.pv (.ptr (zY m) 0)),(5,.pv (pi k))] [] ?_ ?_
     ·clear hc hms hm1 hA hB hC
      repeat' (first|(refine shC ?_;first|refine qC h4 ?_)|refine sA ?_|refine sC (fun _=>?_) (fun _=>?_)|fail)
      all_goals first|exact ⟨tS,tH⟩|(exfalso;simp_all;done)
     cases hE:(!b4&&(!nc||decide (2<=k)))
     ·refine Xo [(2,.pv (.ptr (zK g) 0)),(3,.pv (.ptr (zY m) 0)),(5,.pv (pi k))] [] ?_ ?_
      ·clear he hms hm1 hA hB hC hD
       repeat' (first|(refine shC ?_;first|refine qC h4 ?_)|refine sA ?_|refine sC (fun _=>?_) (fun _=>?_)|fail)
       all_goals first|exact ⟨tS,tH⟩|(exfalso;simp_all;done)
      cases hG:(k==3&&!m1)
      ·refine Xo [(2,.pv (.ptr (zK g) 0)),(3,.pv (.ptr (zY m) 0)),(5,.pv (pi k))] [] ?_ ?_
       ·clear he hc hA hB hC hD hE hm1
        repeat' (first|(refine shC ?_;first|refine qC cm ?_)|refine sA ?_|refine sC (fun _=>?_) (fun _=>?_)|fail)
        all_goals first|exact ⟨tS,tH⟩|(exfalso;simp_all;done)
       rw [QT,hA,hB,hC,hD,hE,hG];clear hA hB hC hD hE hG he hc hms hm1
       repeat' (first|(refine shC ?_;first|refine qC h4 ?_)|(refine shX ?_;first|refine zy rfl (ah h.o0 hto) rfl rfl ?_|refine zq rfl (ah h.o0 hto) rfl rfl ?_)|refine sA ?_|refine sC (fun _=>?_) (fun _=>?_)|fail)
       all_goals (refine ak ?_;first|(simp_all [zn];done)|(simp_all [zn];intros;omega))
      ·have hv:QT k b1 b2 b4 b8 b16 (m.ret.kind != 1) (m.flags != 16) em nc m1 ab=false:=by rw [QT,hG];simp
       rw [hv];refine zdH ?_;clear he hc hA hB hC hD hE hm1 hv
       repeat' (first|(refine shC ?_;first|refine qC cm ?_)|refine sA ?_|refine sC (fun _=>?_) (fun _=>?_)|fail)
       all_goals first|exact retq rfl rfl|(exfalso;simp_all;done)
     ·have hv:QT k b1 b2 b4 b8 b16 (m.ret.kind != 1) (m.flags != 16) em nc m1 ab=false:=by rw [QT,hE];simp
      rw [hv];refine zdH ?_;clear he hms hm1 hA hB hC hD hv
      repeat' (first|(refine shC ?_;first|refine qC h4 ?_)|refine sA ?_|refine sC (fun _=>?_) (fun _=>?_)|fail)
      all_goals first|exact retq rfl rfl|(exfalso;simp_all;done)
    ·have hv:QT k b1 b2 b4 b8 b16 (m.ret.kind != 1) (m.flags != 16) em nc m1 ab=false:=by rw [QT,hD];simp
     rw [hv];refine zdH ?_;clear hc hms hm1 hA hB hC hv
     repeat' (first|(refine shC ?_;first|refine qC h4 ?_)|refine sA ?_|refine sC (fun _=>?_) (fun _=>?_)|fail)
     all_goals first|exact retq rfl rfl|(exfalso;simp_all;done)
   ·have hv:QT k b1 b2 b4 b8 b16 (m.ret.kind != 1) (m.flags != 16) em nc m1 ab=false:=by rw [QT,hC];simp
    rw [hv];refine zdH ?_;clear he hc hms hm1 hA hB hv
    repeat' (first|(refine shC ?_;first|refine qC h2 ?_|refine qC h4 ?_|refine qC h8 ?_)|refine sA ?_|refine sC (fun _=>?_) (fun _=>?_)|fail)
    all_goals first|exact retq rfl rfl|(exfalso;simp_all;done)
  ·have hv:QT k b1 b2 b4 b8 b16 (m.ret.kind != 1) (m.flags != 16) em nc m1 ab=false:=by rw [QT,hB];simp
   rw [hv];refine zdH ?_;clear he hc hms hm1 hA hv
   repeat' (first|(refine shC ?_;first|refine qC h1 ?_|refine qC h2 ?_)|refine sA ?_|refine sC (fun _=>?_) (fun _=>?_)|fail)
   all_goals first|exact retq rfl rfl|(exfalso;simp_all;done)
 ·have hv:QT k b1 b2 b4 b8 b16 (m.ret.kind != 1) (m.flags != 16) em nc m1 ab=false:=by rw [QT,hA];simp
  rw [hv];refine zdH ?_;clear he hc hms hm1 hv
  repeat' (first|(refine shC ?_;first|refine qC h16 ?_)|refine sA ?_|refine sC (fun _=>?_) (fun _=>?_)|fail)
  all_goals first|exact retq rfl rfl|(exfalso;simp_all;done)
set_option maxHeartbeats 20000000
theorem zsp (g:Img) (hf:yh g=true) (t:Ty):ACall Tryz.prog 70 [zK g,yI t] (pb (zjW g t)):=by
 have ck:=Yd g hf t.index;refine zh zf Tryz.func70 rfl zws Tryz.ntmps70 zwy63 _ rfl (fun hw gB hgB=>?_);rw [zjW];generalize zW g t.index=k at ck ⊢
 repeat' (first|(refine shC ?_;first|refine qC ck ?_)|refine sA ?_|refine sC (fun _=>?_) (fun _=>?_)|fail)
 all_goals (refine ak ?_;simp_all [zn])
theorem zna (g:Img) (hf:yh g=true) (t:Ty):ACall Tryz.prog 69 ([]++[yI t]++[.ptr (zK g) 0]) (pb (!zjW g t)):=by
 show ACall Tryz.prog 69 [yI t,.ptr (zK g) 0] (pb (!zjW g t))
 refine zh zf Tryz.func69 rfl zws Tryz.ntmps69 zwy63 _ rfl (fun hw gB hgB=>?_)
 repeat' (first|(refine shC ?_;first|refine qC (zsp g hf t) ?_)|refine sA ?_|refine sC (fun _=>?_) (fun _=>?_)|fail)
 exact retq rfl rfl
def XL (a b c:List Ty):Nat->Int
 | 0=>0
 | 1=>a.length
 | 2=>a.length + b.length
 | _=>a.length + b.length + c.length
def zfc (a b c:List Ty):Nat->List Ty
 | 0=>[]
 | 1=>a
 | 2=>a++b
 | _=>a++b++c
theorem zwk26 {G:Prop} (h:G:=by repeat' (first|(have:=b0;refine zy rfl (zef zf rfl (by first|omega|(simp [XL] <;> omega)) (by first|omega|(simp [XL] <;> omega))) rfl rfl ?_)|(refine shX ?_;first|(have:=b0;refine zy rfl (zk zf rfl rfl rfl rfl rfl rfl zwy69 rfl) rfl rfl ?_)|(have:=b0;refine zq rfl (zk zf rfl rfl rfl rfl rfl rfl zwy69 rfl) rfl rfl ?_))|(have:=b1;refine yj ?_;first|refine yV zf rfl rfl rfl rfl rfl rfl rfl (by show _ * 32<=_;simp [zfc];omega) (by simp [zfc];omega) rfl rfl ?_)|refine sK ?_|refine sC (fun _=>?_) (fun _=>?_)|(have:=b2;exact ⟨1,by omega,tD,by repeat (first|exact yO|refine yA rfl ?_|(refine qW rfl ?_ ?_;· (first|(simp [XL];done)|(simp [XL];omega)|omega))),tH⟩)|(have:=b3;exact ⟨2,by omega,tD,by repeat (first|exact yO|refine yA rfl ?_|(refine qW rfl ?_ ?_;· (first|(simp [XL];done)|(simp [XL];omega)|omega))),tH⟩)|(have:=b4;exact ⟨3,by omega,tD,by repeat (first|exact yO|refine yA rfl ?_|(refine qW rfl ?_ ?_;· (first|(simp [XL];done)|(simp [XL];omega)|omega))),tH⟩)|(have:=b5;exact ⟨1,by omega,tD,by repeat (first|exact yO|refine yA rfl ?_|(refine qW rfl ?_ ?_;· omega)),⟨aB zC,rfl⟩⟩)|(have:=b6;exact ⟨2,by omega,tD,by repeat (first|exact yO|refine yA rfl ?_|(refine qW rfl ?_ ?_;· omega)),⟨zA (by show some (HE.row 32 4 (_++_))=_;simp [zfc]) zC,rfl⟩⟩)|(have:=b7;exact ⟨3,by omega,tD,by repeat (first|exact yO|refine yA rfl ?_|(refine qW rfl ?_ ?_;· omega)),⟨zA (by show some (HE.row 32 4 (_++_))=_;simp [zfc]) zC,rfl⟩⟩)|exact ⟨.inr rfl,0,rfl,rfl⟩|fail)):G:=h
theorem zkP (a b c:List Ty) (ha:a.length<=100) (hb:b.length<=100) (hc:c.length<=100):ACallR Tryz.prog 66 [.slc 1 [tys a,tys b,tys c] true] 32 4 ((a++b++c).map yI):=by
 refine zeV Tryz.func66 rfl zws Tryz.ntmps66 zwy63 rfl (fun hw gB hgB=>?_)
 repeat' (first|refine sK ?_|refine sC (fun _=>?_) (fun _=>?_)|fail)
 refine zL (fun k:Nat=>[(0,.pv (.slc 1 [tys a,tys b,tys c] true)),(9,.pv (.slc 1 [tys a,tys b,tys c] true)),(10,.pv (pi 3)),(11,.pv (pi k)),(3,.pv (pi (XL a b c k)))]) (fun _=>[]) (fun k=>k<=3) (fun k=>3 - k) 0 zwy62 (tS) tH ?_;intro k hk;have hk3:k=0\/k=1\/k=2\/k=3:=by omega
 rcases hk3 with rfl|rfl|rfl|rfl
 ·have b0:=();have b2:=();exact zwk26
 ·have b0:=();have b3:=();exact zwk26
 ·have b0:=();have b4:=();exact zwk26
 ·repeat' (first|(refine zu ?_;first|refine zdj 0 rfl rfl rfl (zko _ (by simp [XL];omega) (by simp [XL];omega)) zwy69 rfl rfl rfl ?_)|refine sK ?_|refine sC (fun _=>?_) (fun _=>?_)|fail)
  refine zL (fun k:Nat=>[(6,.own 0),(25,.pv (.slc 1 [tys a,tys b,tys c] true)),(26,.pv (pi 3)),(27,.pv (pi k))]) (fun k=>[(0,.row 32 4 ((zfc a b c k).map yI))]) (fun k=>k<=3) (fun k=>3 - k) 0 zwy62 (tS) tH ?_;intro k hk;have hk3:k=0\/k=1\/k=2\/k=3:=by omega
  rcases hk3 with rfl|rfl|rfl|rfl
  ·have b0:=();have b1:=();have b5:=();exact zwk26
  ·have b0:=();have b1:=();have b6:=();exact zwk26
  ·have b0:=();have b1:=();have b7:=();exact zwk26
  ·exact zwk26
theorem zj8 {α β:Type} {l:List α} {p:α->Bool} {f:α->β} {k:Nat} (h:k < l.length):(((l.take (k + 1)).filter p).map f)=((l.take k).filter p).map f++(if p l[k] then [f l[k]] else []):=by
 rw [List.take_succ_eq_append_getElem h,List.filter_append,List.map_append];cases hp:p l[k] <;> simp [hp]
set_option maxHeartbeats 20000000
theorem zkc {g:Img} {m:Me} (h:MeOk g m) {x:Ins} (hx:x∈m.code):1<=x.op/\x.op<=75:=by
 have:=h.formed;simp only [yX,Zv,Bool.and_eq_true,List.all_eq_true,codeOk] at this;have:=(this.2.1.1.2 x hx).1;exact zkC (by simpa using this)
def isT (x:Ins):Bool:=yB x.op==8
def isC (c:Cl):Bool:=c.kind==1
def zkE (m:Me):List Ty:=m.params++m.locals++[m.ret]
theorem zrg (m:Me):zdo m=zkE m++(m.code.filter isT).map (·.t)++(m.clauses.filter isC).map (·.t):=rfl
theorem zwk27 {G:Prop} (h:G:=by repeat' (first|(refine shC ?_;first|(have:=b0;refine qC co ?_)|(have:=b1;refine qC cu ?_))|(refine shX ?_;first|(have:=b2;refine qX he ?_))|(have:=b3;refine yj ?_;first|refine yV zf rfl rfl rfl rfl rfl rfl rfl (by show _ * 32<=_;simp only [List.length_map,List.length_append,List.length_cons,List.length_nil];omega) (by simp only [List.length_map,List.length_append,List.length_cons,List.length_nil];omega) rfl rfl ?_)|refine sK ?_|refine sC (fun _=>?_) (fun _=>?_)|(have:=b4;exact ⟨k + 1,hlt,tD,tS,⟨qH rfl (by rw [hn]) zC,rfl⟩⟩)|(have:=b3;exact ⟨k + 1,hlt,tD,tS,⟨qH rfl (by rw [hn];simp;rfl) zC,rfl⟩⟩)|(have:=b1;exact retq rfl (by simp [zn]))|fail)):G:=h
theorem zni (g:Img) (hf:yh g=true) (m:Me) (h:MeOk g m):ACall Tryz.prog 35 [zK g,zY m] (pb (YG g m)):=by
 obtain ⟨s1,s2,s3,s4,s5,s6⟩:=h.small;have hc3:=zkP m.params m.locals [m.ret] zwy62 zwy62 zwy63;have ht:PTells (.slc 4 [yI m.ret] true) (tys [m.ret]):=ziZ (zbW (qF (.refl _) (qF (.refl _) (qF (.refl _) (qF (.refl _) zcx)))) zfx);have hh:(zkE m).length<=19:=by simp [zkE];omega
 have cu:=Qk (zdo m) (fun t=>!zjW g t) 69 [] [.ptr (zK g) 0] (fun t _=>zna g hf t);rw [<-List.not_all_eq_any_not,zuO h.formed] at cu;refine zh zf Tryz.func35 rfl zws Tryz.ntmps35 zwy63 _ rfl (fun hw gB hgB=>?_)
 repeat' (first|refine zfe 18 ht rfl ?_|(refine zu ?_;first|refine zdj 5 rfl rfl rfl hc3 zwy69 rfl rfl rfl ?_)|refine sK ?_|refine sC (fun _=>?_) (fun _=>?_)|fail)
 refine zL (fun k:Nat=>[(2,.pv (.ptr (zK g) 0)),(3,.pv (.ptr (zY m) 0)),(5,.own 5),(22,.pv (.slc 6 (m.code.map yM) false)),(23,.pv (pi m.code.length)),(24,.pv (pi k))])
  (fun k=>[(5,.row 32 4 ((zkE m++((m.code.take k).filter isT).map (·.t)).map yI))]) (fun k=>k<=m.code.length) (fun k=>m.code.length - k) 0 zwy62
  zwy71 ⟨qH rfl (by simp [zkE]) zC,rfl⟩ ?_
 rintro k hk;by_cases hlt:k < m.code.length
 ·have he:=zS (f:=yM) hlt;obtain ⟨o1,o2⟩:=zkc h (List.getElem_mem hlt);have co:=ze7 m.code[k].op o1 o2;rw [(zlW _ o1 o2).2] at co;have hsl:((m.code.take k).filter isT).length<=160:=by
   have:=List.length_filter_le isT (m.code.take k);rw [List.length_take] at this;omega
  have hn:=zj8 (p:=isT) (f:=(·.t)) hlt;cases hop:yB m.code[k].op==8
  ·rw [show isT m.code[k]=false from hop,if_neg zwy63,List.append_nil] at hn;have b0:=();have b2:=();have b4:=();exact zwk27
  ·rw [show isT m.code[k]=true from hop,if_pos rfl] at hn;have b0:=();have b2:=();have b3:=();exact zwk27
 ·have hk2:k=m.code.length:=by omega
  subst hk2;have hsl:(m.code.filter isT).length<=160:=by
   have:=List.length_filter_le isT m.code;omega
  rw [List.take_length]
  repeat' (first|refine sK ?_|refine sC (fun _=>?_) (fun _=>?_)|fail)
  refine zL (fun k:Nat=>[(2,.pv (.ptr (zK g) 0)),(5,.own 5),(44,.pv (.slc 10 (m.clauses.map qR) false)),(45,.pv (pi m.clauses.length)),(46,.pv (pi k))])
   (fun k=>[(5,.row 32 4 ((zkE m++(m.code.filter isT).map (·.t)++((m.clauses.take k).filter isC).map (·.t)).map yI))]) (fun k=>k<=m.clauses.length) (fun k=>m.clauses.length - k) 0 zwy62
   zwy71 ⟨qH rfl zwy63 zC,rfl⟩ ?_
  clear hk hlt;rintro k hk;by_cases hlt:k < m.clauses.length
  ·have he:=zS (f:=qR) hlt;have hsl2:((m.clauses.take k).filter isC).length<=6:=by
    have:=List.length_filter_le isC (m.clauses.take k);rw [List.length_take] at this;omega
   have hn:=zj8 (p:=isC) (f:=(·.t)) hlt;cases hop:m.clauses[k].kind==1
   ·rw [show isC m.clauses[k]=false from hop,if_neg zwy63,List.append_nil] at hn;have b2:=();have b4:=();exact zwk27
   ·rw [show isC m.clauses[k]=true from hop,if_pos rfl] at hn;have b2:=();have b3:=();exact zwk27
  ·have hk2:k=m.clauses.length:=by omega
   subst hk2;rw [List.take_length,<-zrg];have b1:=();exact zwk27
theorem zwk28 {G:Prop} (h:G:=by repeat' (first|(refine shC ?_;first|(have:=b0;refine qC cr ?_)|(have:=b1;refine qC co ?_)|(have:=b2;refine qC c1 ?_))|(refine shX ?_;first|(have:=b3;refine qX he ?_))|refine sK ?_|refine sC (fun _=>?_) (fun _=>?_)|(have:=b0;exact retq rfl (by simp [zn,YG,hr]))|(have:=b4;exact retq rfl (by rw [hv];simp [zn]))|(have:=b5;exact ⟨k + 1,⟨hlt,by rw [hv];simp⟩,tD,tS,tH⟩)|(have:=b6;exact retq rfl (by rw [hv];rfl))|fail)):G:=h
theorem zjO (g:Img) (m:Me) (h:MeOk g m):ACall Tryz.prog 27 [zK g,zY m] (pb (YG g m)):=by
 obtain ⟨s1,s2,s3,s4,s5,s6⟩:=h.small;have cr:=Vl g m.ret;refine zh zf Tryz.func27 rfl zws Tryz.ntmps27 zwy63 _ rfl (fun hw gB hgB=>?_);cases hr:qE g m.ret
 ·rw [hr] at cr;have b0:=();exact zwk28
 ·rw [hr] at cr
  repeat' (first|(refine shC ?_;first|refine qC cr ?_)|refine sK ?_|refine sC (fun _=>?_) (fun _=>?_)|fail)
  refine zL (fun k:Nat=>[(2,.pv (.ptr (zK g) 0)),(3,.pv (.ptr (zY m) 0)),(5,.pv (pi k))]) (fun _=>[])
   (fun k=>k<=m.params.length/\YG g m=((m.params.drop k).all (qE g)&&m.locals.all (qE g)&&m.code.all (fun x=>yB x.op != 8||qE g x.t)&&m.clauses.all (fun c=>c.kind != 1||qE g c.t))) (fun k=>m.params.length - k) 0 ⟨by omega,by simp [YG,hr]⟩ (tS) tH ?_
  rintro k ⟨hk,hv⟩;by_cases hlt:k < m.params.length
  ·have he:=zS (f:=yI) hlt;have c1:=Vl g m.params[k];rw [YJ hlt] at hv;cases hu:qE g m.params[k]
   ·rw [hu] at c1 hv;have b2:=();have b3:=();have b4:=();exact zwk28
   ·rw [hu] at c1 hv;have b2:=();have b3:=();have b5:=();exact zwk28
  ·rw [drop_end zwy62] at hv
   repeat' (first|refine sK ?_|refine sC (fun _=>?_) (fun _=>?_)|fail)
   refine zL (fun k:Nat=>[(2,.pv (.ptr (zK g) 0)),(3,.pv (.ptr (zY m) 0)),(6,.pv (pi k))]) (fun _=>[])
    (fun k=>k<=m.locals.length/\YG g m=((m.locals.drop k).all (qE g)&&m.code.all (fun x=>yB x.op != 8||qE g x.t)&&m.clauses.all (fun c=>c.kind != 1||qE g c.t))) (fun k=>m.locals.length - k) 0 ⟨by omega,by rw [hv];simp⟩ (tS) tH ?_
   clear hk hv hlt;rintro k ⟨hk,hv⟩;by_cases hlt:k < m.locals.length
   ·have he:=zS (f:=yI) hlt;have c1:=Vl g m.locals[k];rw [YJ hlt] at hv;cases hu:qE g m.locals[k]
    ·rw [hu] at c1 hv;have b2:=();have b3:=();have b4:=();exact zwk28
    ·rw [hu] at c1 hv;have b2:=();have b3:=();have b5:=();exact zwk28
   ·rw [drop_end zwy62] at hv
    repeat' (first|refine sK ?_|refine sC (fun _=>?_) (fun _=>?_)|fail)
    refine zL (fun k:Nat=>[(2,.pv (.ptr (zK g) 0)),(3,.pv (.ptr (zY m) 0)),(7,.pv (pi k))]) (fun _=>[])
     (fun k=>k<=m.code.length/\YG g m=((m.code.drop k).all (fun x=>yB x.op != 8||qE g x.t)&&m.clauses.all (fun c=>c.kind != 1||qE g c.t))) (fun k=>m.code.length - k) 0 ⟨by omega,by rw [hv];simp⟩ (tS) tH ?_
    clear hk hv hlt;rintro k ⟨hk,hv⟩;by_cases hlt:k < m.code.length
    ·have he:=zS (f:=yM) hlt;obtain ⟨o1,o2⟩:=zkc h (List.getElem_mem hlt);have co:=zhQ m.code[k].op o1 o2;have c1:=Vl g m.code[k].t;rw [YJ hlt] at hv;cases hop:yB m.code[k].op==8
     ·rw [show (yB m.code[k].op != 8)=true by rw [bne,hop];rfl] at hv;have b1:=();have b3:=();have b5:=();exact zwk28
     ·rw [show (yB m.code[k].op != 8)=false by rw [bne,hop];rfl] at hv;cases hu:qE g m.code[k].t
      ·rw [hu] at c1 hv;have b1:=();have b2:=();have b3:=();have b4:=();exact zwk28
      ·rw [hu] at c1 hv;have b1:=();have b2:=();have b3:=();have b5:=();exact zwk28
    ·rw [drop_end zwy62] at hv
     repeat' (first|refine sK ?_|refine sC (fun _=>?_) (fun _=>?_)|fail)
     refine zL (fun k:Nat=>[(2,.pv (.ptr (zK g) 0)),(3,.pv (.ptr (zY m) 0)),(10,.pv (pi k))]) (fun _=>[])
      (fun k=>k<=m.clauses.length/\YG g m=(m.clauses.drop k).all (fun c=>c.kind != 1||qE g c.t)) (fun k=>m.clauses.length - k) 0 ⟨by omega,by rw [hv];simp⟩ (tS) tH ?_
     clear hk hv hlt;rintro k ⟨hk,hv⟩;by_cases hlt:k < m.clauses.length
     ·have he:=zS (f:=qR) hlt;have c1:=Vl g m.clauses[k].t;rw [YJ hlt] at hv;cases hop:m.clauses[k].kind==1
      ·rw [show (m.clauses[k].kind != 1)=true by rw [bne,hop];rfl] at hv;have b3:=();have b5:=();exact zwk28
      ·rw [show (m.clauses[k].kind != 1)=false by rw [bne,hop];rfl] at hv;cases hu:qE g m.clauses[k].t
       ·rw [hu] at c1 hv;have b2:=();have b3:=();have b4:=();exact zwk28
       ·rw [hu] at c1 hv;have b2:=();have b3:=();have b5:=();exact zwk28
     ·rw [drop_end zwy62] at hv;have b6:=();exact zwk28
set_option maxHeartbeats 20000000
def Qi (g:Img) (m:Int):Bool:=decide (m < 0)||yR (mAt g m).flags 4
def Qz (g:Img) (t:Int) (what:Int->Int) (fs:List Int):Bool:=!(tbl g t).any (Qi g)&&!fs.any fun f=>(methodsOf g f).any fun m=>Qi g (what m)
def okI (g:Img) (m:Int):Prop:=m < 0\/mOk g m
theorem zha (g:Img) (hF:Fine g) (m:Int) (hm:okI g m):ACall Tryz.prog 73 ([]++[pi m]++[.ptr (zK g) 0]) (pb (Qi g m)):=by
 show ACall Tryz.prog 73 [pi m,.ptr (zK g) 0] (pb (Qi g m))
 refine zh zf Tryz.func73 rfl zws Tryz.ntmps73 zwy63 _ rfl (fun hw gB hgB=>?_);by_cases h0:m < 0
 ·repeat' (first|refine sK ?_|refine sC (fun _=>?_) (fun _=>?_)|fail)
  exact retq rfl (by rw [Qi,decide_eq_true h0];rfl)
 ·have hm2:mOk g m:=hm.resolve_left h0;have hem:=YM hm2;have h:=zaL hF.formed hm2;have c:=XO (mAt g m) 4;rw [(zck h.1 h.2).2.2.1] at c;have hd:decide (m < 0)=false:=decide_eq_false h0
  repeat' (first|(refine shC ?_;first|refine qC c ?_)|(refine shX ?_;first|refine zy rfl (ah hm2.1 hem) rfl rfl ?_|refine zq rfl (ah hm2.1 hem) rfl rfl ?_)|refine sK ?_|refine sC (fun _=>?_) (fun _=>?_)|fail)
  exact retq rfl (by rw [Qi,hd];rfl)
theorem zi6 (g:Img) (m:Int) (hm:okI g m):ACall Tryz.prog 61 [zK g,pi m] (pb (Qi g m)):=by
 refine zh zf Tryz.func61 rfl zws Tryz.ntmps61 zwy63 _ rfl (fun hw gB hgB=>?_);by_cases h0:m < 0
 ·repeat' (first|refine sK ?_|refine sC (fun _=>?_) (fun _=>?_)|fail)
  exact retq rfl (by rw [Qi,decide_eq_true h0];rfl)
 ·have hm2:mOk g m:=hm.resolve_left h0;have hem:=YM hm2;have hd:decide (m < 0)=false:=decide_eq_false h0
  repeat' (first|(refine shC ?_;first|refine qC (zf8 _) ?_)|(refine shX ?_;first|refine zy rfl (ah hm2.1 hem) rfl rfl ?_|refine zq rfl (ah hm2.1 hem) rfl rfl ?_)|refine sK ?_|refine sC (fun _=>?_) (fun _=>?_)|fail)
  exact retq rfl (by rw [Qi,hd];rfl)
theorem zmz {g:Img} (hW:Wl g) {t m:Int} (hm:mOk g m) (hb:zW g (Xf g m)=0->Xf g m∈up g t):mOk g (WY g t m):=by
 rw [WY];split
 ·exact hm
 ·rename_i h;have:=zlE hW hb h;rw [zQ this];exact zhM (List.getElem_mem this)
theorem zmr {g:Img} (hW:Wl g) {t m:Int} (hk:zW g t=0):okI g (XM g t m):=by
 rw [XM];cases h:zfp g t m with
 | none=>exact .inl (by show (-1:Int) < 0;omega)
 | some k =>
  have:=List.mem_of_find?_eq_some h;obtain ⟨u,hu,hku⟩:=List.mem_flatMap.1 this;obtain ⟨q1,q2,q3⟩:=up0 hW hk hu hku;exact .inr (zmz hW q1 q3)
theorem zt2 {g:Img} (hW:Wl g) {t m:Int} (hm:mOk g m) (hk:zW g t=0) (hb:zW g (Xf g m)=0->Xf g m∈up g t):okI g (Qr g t m):=by
 rw [Qr];split
 ·exact zmr hW hk
 ·exact .inr (zmz hW hm hb)
theorem zrY {g:Img} (hF:Fm g) (t:Int):(Yw g t).length<=g.types.length:=by
 have:=(ziz hF t).2.len;rw [Yw,sortL];simpa using this
theorem zwk29 {G:Prop} (h:G:=by repeat' (first|(refine shC ?_;first|(have:=b0;refine qC cf ?_)|(have:=b0;refine qV (cv) ?_)|(have:=b1;refine qC c1 ?_)|(have:=b1;refine qC c2 ?_))|(refine shX ?_;first|(have:=b0;refine qX hem ?_))|refine sK ?_|refine sC (fun _=>?_) (fun _=>?_)|(have:=b2;exact retq rfl zwy119)|exact ⟨j + 1,⟨hjl,hr⟩,tD,tS,tH⟩|exact ⟨i + 1,⟨hlt,hr⟩,tD,tS,tH⟩|exact retq rfl rfl|fail)):G:=h
theorem zm7 (g:Img) (hF:Fine g) (t:Int) (hk:zW g t=0):ACall Tryz.prog 37 [zK g,pi t] (pb (Qz g t (XM g t) (Yw g t))):=by
 have hW:=zbm hF.well;obtain ⟨hgt,_,hgm,_⟩:=yg hF.formed;have c1:=ziS g hF t;have c2:=Wq (tbl g t) (Qi g) 73 [] [.ptr (zK g) 0] (fun x hx=>zha g hF x (.inr (zhM hx)));have c3:=zhj g t (zcV hF.formed);have hfpl:=zrY (zcV hF.formed) t;refine zh zf Tryz.func37 rfl zws Tryz.ntmps37 zwy63 _ rfl (fun hw gB hgB=>?_);rw [Qz];cases ho:(tbl g t).any (Qi g)
 ·rw [ho] at c2
  repeat' (first|(refine shC ?_;first|refine qC c1 ?_|refine qC c2 ?_|refine qC c3 ?_)|refine sK ?_|refine sC (fun _=>?_) (fun _=>?_)|fail)
  refine zL (fun i:Nat=>[(1,.pv (pi t)),(2,.pv (.ptr (zK g) 0)),(5,.pv (.fn (.func 73) [] [.ptr (zK g) 0])),(18,.pv (ints (Yw g t))),(19,.pv (pi (Yw g t).length)),(20,.pv (pi i))]) (fun _=>[])
   (fun i=>i<=(Yw g t).length/\((Yw g t).any fun f=>(methodsOf g f).any fun m=>Qi g (XM g t m))=((Yw g t).drop i).any fun f=>(methodsOf g f).any fun m=>Qi g (XM g t m)) (fun i=>(Yw g t).length - i) 0 ⟨by omega,rfl⟩
   zwy71 tH ?_
  rintro i ⟨hi,hr⟩;by_cases hlt:i < (Yw g t).length
  ·obtain ⟨f,hf⟩:∃ f,f=(Yw g t)[i]:=⟨_,rfl⟩
   have hef:((Yw g t).map pi)[i]?=some (pi f):=by rw [hf];exact zS (f:=pi) hlt
   have cm:=Qe g f zwy62;have hml:=ZJ g f;rw [VW hlt,<-hf] at hr
   repeat' (first|(refine shC ?_;first|refine qC cm ?_)|(refine shX ?_;first|refine qX hef ?_)|refine sK ?_|refine sC (fun _=>?_) (fun _=>?_)|fail)
   refine zL (fun j:Nat=>[(1,.pv (pi t)),(2,.pv (.ptr (zK g) 0)),(5,.pv (.fn (.func 73) [] [.ptr (zK g) 0])),(18,.pv (ints (Yw g t))),(19,.pv (pi (Yw g t).length)),(20,.pv (pi i)),(26,.pv (ints (methodsOf g f))),(27,.pv (pi (methodsOf g f).length)),(28,.pv (pi j))]) (fun _=>[])
    (fun j=>j<=(methodsOf g f).length/\((Yw g t).any fun f=>(methodsOf g f).any fun m=>Qi g (XM g t m))=((((methodsOf g f).drop j).any fun m=>Qi g (XM g t m))||((Yw g t).drop (i + 1)).any fun f=>(methodsOf g f).any fun m=>Qi g (XM g t m))) (fun j=>(methodsOf g f).length - j) 0 ⟨by omega,hr⟩
    zwy71 tH ?_
   clear hr;rintro j ⟨hj,hr⟩;by_cases hjl:j < (methodsOf g f).length
   ·obtain ⟨m,hm⟩:∃ m,m=(methodsOf g f)[j]:=⟨_,rfl⟩
    have hem:((methodsOf g f).map pi)[j]?=some (pi m):=by rw [hm];exact zS (f:=pi) hjl
    have hmk:mOk g m:=by rw [hm];exact ql (List.getElem_mem hjl)
    have cf:=zsH g hF t m hmk hk;have cv:=zha g hF (XM g t m) (zmr hW hk);rw [VW hjl,<-hm] at hr;cases hop:Qi g (XM g t m)
    ·rw [hop] at cv hr;have b0:=();exact zwk29
    ·rw [hop] at cv hr;have b0:=();have b2:=();exact zwk29
   ·rw [drop_end zwy62] at hr;exact zwk29
  ·rw [drop_end zwy62] at hr;have b2:=();exact zwk29
 ·rw [ho] at c2;have b1:=();exact zwk29
theorem zwk30 {G:Prop} (h:G:=by repeat' (first|(refine shC ?_;first|(have:=b0;refine qC co ?_)|(have:=b1;refine qC cd ?_)|(have:=b1;refine qC cv ?_))|(refine shX ?_;first|(have:=b0;refine qX he ?_)|(have:=b1;refine qX hem ?_))|refine sK ?_|refine sC (fun _=>?_) (fun _=>?_)|(have:=b2;exact retq rfl zwy119)|exact ⟨i + 1,⟨hlt,hr⟩,tD,tS,tH⟩|exact ⟨j + 1,⟨hjl,hr⟩,tD,tS,tH⟩|fail)):G:=h
theorem zjM (g:Img) (hF:Fine g) (t:Int) (hk:zW g t=0):ACall Tryz.prog 29 [zK g,pi t] (pb (Qz g t (Qr g t) (Zr g t))):=by
 have hW:=zbm hF.well;have hFm:=zcV hF.formed;obtain ⟨hgt,_,hgm,hgf⟩:=yg hF.formed;have c1:=zet g hF _ t (Nat.le_refl _);have c3:=zgU g t zwy62 (fun td h=>by have:=(YB (hgf td h)).2.2.2.2.1;omega);refine zh zf Tryz.func29 rfl zws Tryz.ntmps29 zwy63 _ rfl (fun hw gB hgB=>?_);rw [Qz];obtain ⟨N,hN⟩:∃ N,N=(Zr g t).any fun f=>(methodsOf g f).any fun m=>Qi g (Qr g t m):=⟨_,rfl⟩
 rw [<-hN]
 repeat' (first|(refine shC ?_;first|refine qC c1 ?_)|refine sK ?_|refine sC (fun _=>?_) (fun _=>?_)|fail)
 refine zL (fun i:Nat=>[(1,.pv (pi t)),(2,.pv (.ptr (zK g) 0)),(5,.pv (ints (tbl g t))),(6,.pv (pi i))]) (fun _=>[]) (fun i=>i<=(tbl g t).length/\(tbl g t).any (Qi g)=((tbl g t).drop i).any (Qi g)) (fun i=>(tbl g t).length - i) 0 ⟨by omega,rfl⟩ (tS) tH ?_;have htl:=zlr hF t;rintro i ⟨hi,hr⟩;by_cases hlt:i < (tbl g t).length
 ·have he:((tbl g t).map pi)[i]?=some (pi (tbl g t)[i]):=zS (f:=pi) hlt;have co:=zi6 g (tbl g t)[i] (.inr (zhM (List.getElem_mem hlt)));rw [VW hlt] at hr;cases ho:Qi g (tbl g t)[i]
  ·rw [ho] at co hr;have b0:=();exact zwk30
  ·rw [ho] at co hr;have b0:=();have b2:=();exact zwk30
 ·rw [drop_end zwy62] at hr;rw [hr];clear hr
  repeat' (first|(refine shC ?_;first|refine qC c3 ?_)|refine sK ?_|refine sC (fun _=>?_) (fun _=>?_)|fail)
  refine zL (fun i:Nat=>[(1,.pv (pi t)),(2,.pv (.ptr (zK g) 0)),(7,.pv (ints (Zr g t))),(8,.pv (pi i))]) (fun _=>[])
   (fun i=>i<=(Zr g t).length/\N=((Zr g t).drop i).any fun f=>(methodsOf g f).any fun m=>Qi g (Qr g t m)) (fun i=>(Zr g t).length - i) 0 ⟨by omega,hN⟩ (tS) tH ?_
  have hfl:(Zr g t).length<=1000:=by
   have:(Zr g t).length<=(nums g.types.length).length:=List.length_filter_le _ _;simp [nums] at this;omega
  rintro i ⟨hi,hr⟩;by_cases hlt:i < (Zr g t).length
  ·obtain ⟨f,hf⟩:∃ f,f=(Zr g t)[i]:=⟨_,rfl⟩
   have hfk:zW g f=2:=hW.rf_kind ((zes hFm).1 (by rw [hf];exact List.getElem_mem hlt));have hef:((Zr g t).map pi)[i]?=some (pi f):=by rw [hf];exact zS (f:=pi) hlt
   have cm:=QW g f zwy62;have hml:=ZJ g f;rw [VW hlt,<-hf] at hr
   repeat' (first|(refine shC ?_;first|refine qC cm ?_)|(refine shX ?_;first|refine qX hef ?_)|refine sK ?_|refine sC (fun _=>?_) (fun _=>?_)|fail)
   refine zL (fun j:Nat=>[(1,.pv (pi t)),(2,.pv (.ptr (zK g) 0)),(7,.pv (ints (Zr g t))),(8,.pv (pi i)),(9,.pv (ints (methodsOf g f))),(10,.pv (pi j))]) (fun _=>[])
    (fun j=>j<=(methodsOf g f).length/\N=((((methodsOf g f).drop j).any fun m=>Qi g (Qr g t m))||((Zr g t).drop (i + 1)).any fun f=>(methodsOf g f).any fun m=>Qi g (Qr g t m))) (fun j=>(methodsOf g f).length - j) 0 ⟨by omega,hr⟩ (tS) tH ?_
   clear hr;rintro j ⟨hj,hr⟩;by_cases hjl:j < (methodsOf g f).length
   ·obtain ⟨m,hm⟩:∃ m,m=(methodsOf g f)[j]:=⟨_,rfl⟩
    have hmf:m∈methodsOf g f:=by rw [hm];exact List.getElem_mem hjl
    have hem:((methodsOf g f).map pi)[j]?=some (pi m):=by rw [hm];exact zS (f:=pi) hjl
    have hmk:mOk g m:=ql hmf;have hb:zW g (Xf g m)=0->Xf g m∈up g t:=fun h=>by rw [VA hmf,hfk] at h;omega
    have cd:=zpe g hF t m hmk hk hb;have cv:=zi6 g (Qr g t m) (zt2 hW hmk hk hb);rw [VW hjl,<-hm] at hr;cases hop:Qi g (Qr g t m)
    ·rw [hop] at cv hr;have b1:=();exact zwk30
    ·rw [hop] at cv hr;have b1:=();have b2:=();exact zwk30
   ·rw [drop_end zwy62] at hr;exact zwk30
  ·rw [drop_end zwy62] at hr;have b2:=();exact zwk30
def zvm (t:Ty):Bool:=decide (t=⟨1,0,0,false⟩)||decide (t=⟨2,0,0,false⟩)||decide (t=⟨3,0,0,false⟩)
def znK (m:Me):Bool:=yR m.flags 1&&!yR m.flags 4&&m.params.length==0&&zvm m.ret
theorem zvC {t:Ty} (hp:ZV t=true) (hr:t.ref=false):zvm t=(t.dims==0&&decide (1<=t.kind)&&decide (t.kind<=3)):=by
 obtain ⟨k,i,d,r⟩:=t;simp only at hr;subst hr;rw [Bool.eq_iff_iff];simp only [zvm,Ty.mk.injEq,Bool.or_eq_true,decide_eq_true_eq,Bool.and_eq_true,beq_iff_eq,and_true];constructor
 ·omega
 ·rintro ⟨⟨h1,h2⟩,h3⟩;have hk:k=1\/k=2\/k=3:=by omega
  rcases hk with rfl|rfl|rfl <;> simp_all [ZV]
set_option maxHeartbeats 1000000 in
theorem zlb (g:Img) (m:Me) (h:MeOk g m):ACall Tryz.prog 39 [zY m] (pb (znK m)):=by
 obtain ⟨h1,_,h4,_,_⟩:=zw8 h;have e1:=XQ m.ret ⟨1,0,0,false⟩;have e2:=XQ m.ret ⟨2,0,0,false⟩;have e3:=XQ m.ret ⟨3,0,0,false⟩;have hl:((((m.params.map yI).length:Nat):Int)==0)=(m.params.length==0):=by
  rw [List.length_map,Bool.eq_iff_iff];simp only [beq_iff_eq];omega
 refine zh zf Tryz.func39 rfl zws Tryz.ntmps39 zwy63 _ rfl (fun hw gB hgB=>?_);rw [znK,zvm,<-e1,<-e2,<-e3];generalize yR m.flags 1=b1 at h1 ⊢;generalize yR m.flags 4=b4 at h4 ⊢;clear e1 e2 e3
 repeat' (first|(refine shC ?_;first|refine qC h1 ?_|refine qC h4 ?_)|refine sA ?_|refine sC (fun _=>?_) (fun _=>?_)|fail)
 all_goals (refine ak ?_;first|(simp_all [zn];done)|(simp_all [zn];intro hh;rcases hh with ⟨a1,a2,a3,a4⟩|⟨a1,a2,a3,a4⟩ <;> simp_all))
abbrev zf6:=(Int × Int) × Int
def zi7 (r:zf6):PV:=.tup [.agg [pi r.1.1,pi r.1.2],pi r.2]
def stE (g:Img):zf6:=if decide (0<=g.entry)&&!znK (mAt g g.entry) then ((1,g.entry),11) else ((0,0),0)
def zkX (g:Img) (t:Int):Bool:=zW g t==3&&(methodsOf g t).length==0
def zsj (g:Img) (W:Int->Bool) (t:Int):Bool:=zW g t==0&&!yR (g.types.getD t.toNat default).flags 4&&!W t
def stD (g:Img):List Nat->zf6
 | []=>stE g
 | t::ts=>if zkX g (t:Int) then ((0,(t:Int)),8) else stD g ts
def stC (g:Img) (W:Int->Bool):List Nat->zf6
 | []=>stD g (List.range g.types.length)
 | t::ts=>if zsj g W (t:Int) then ((0,(t:Int)),18) else stC g W ts
def stM (g:Img):List Nat->zf6
 | []=>stC g (fun t=>Qz g t (Qr g t) (Zr g t)) (List.range g.types.length)
 | i::is=>if Va g (mAt g (i:Int)) then (if YG g (mAt g (i:Int)) then stM g is else ((1,(i:Int)),10)) else ((1,(i:Int)),8)
def yY (g:Img):zf6:=if zaU g then stM g (List.range g.methods.length) else ((0,0),17)
theorem Vp {n k:Nat} (h:k < n):(List.range n).drop k=k::(List.range n).drop (k + 1):=by
 rw [List.drop_eq_getElem_cons zwy102];simp
theorem zaE (n:Nat):(List.range n).drop n=[]:=List.drop_eq_nil_of_le zwy63
theorem zej {l l':List Int} {p q:Int->Bool} (h:∀ x,x∈l↔x∈l') (hp:∀ x∈l,p x=q x):l.any p=l'.any q:=by
 rw [Bool.eq_iff_iff,List.any_eq_true,List.any_eq_true];constructor
 ·rintro ⟨x,hx,hpx⟩;exact ⟨x,(h x).1 hx,by rw [<-hp x hx];exact hpx⟩
 ·rintro ⟨x,hx,hpx⟩;exact ⟨x,(h x).2 hx,by rw [hp x ((h x).2 hx)];exact hpx⟩
theorem zq0 {k:Int} {b1 b2 b4 b8 b16 rv f16 em nc m1 ab:Bool} (h:QT k b1 b2 b4 b8 b16 rv f16 em nc m1 ab=true) (hk:k=2):b2=true:=by
 subst hk;cases b2
 ·cases b4
  ·simp [QT] at h
  ·simp [QT] at h
 ·rfl
theorem ztk {g:Img} (hF:Fine g) (hm:∀ i,i < g.methods.length->Va g (mAt g (i:Int))=true) (t:Int):Qz g t (XM g t) (Yw g t)=Qz g t (Qr g t) (Zr g t):=by
 have hFm:=zcV hF.formed;have hW:=zbm hF.well;rw [Qz,Qz];congr 2;refine zej (fun f=>by rw [ziN hFm,zes hFm]) fun f hf=>?_
 refine zej (fun m=>Iff.rfl) fun m hmm=>?_
 have hk:zW g (Xf g m)=2:=by rw [VA hmm];exact hW.rf_kind ((ziN hFm).1 hf)
 have hmo:=ql hmm;have h1:=hm m.toNat hmo.2;rw [Int.toNat_of_nonneg hmo.1] at h1;have hv:Vy g m=true:=zq0 h1 hk;rw [Qr,hk,hv];rfl
theorem zlD {g:Img} {k:Nat} (h:k < g.methods.length):mOk g (k:Int):=⟨by omega,by simpa using h⟩
theorem zuM {g:Img} {k:Nat} (h:k < g.methods.length):(g.methods.map zY)[((k:Int)).toNat]?=some (zY (mAt g (k:Int))):=YM (zlD h)
theorem zuN {g:Img} {k:Nat} (h:k < g.types.length):(g.types.map Zw)[((k:Int)).toNat]?=some (Zw (g.types.getD ((k:Int)).toNat default)):=by
 have h':((k:Int)).toNat < g.types.length:=by simpa using h
 rw [zQ h'];exact Zp h'
theorem zmG {g:Img} (hf:yh g=true) (h:0<=g.entry):mOk g g.entry:=by
 simp only [yh,Bool.and_eq_true,decide_eq_true_eq] at hf;exact ⟨h,by omega⟩
theorem zrQ {f:Int} (h0:0<=f) (h1:f<=31):(IntKind.i64.wrap ((BitVec.ofInt IntKind.i64.bits f &&& BitVec.ofInt IntKind.i64.bits 4).toNat:Int)==0)=!yR f 4:=by
 rw [<-(zck h0 h1).2.2.1,qQ,bne,Bool.not_not]
theorem ztq:∀ a:Fin 32,((IntKind.i64.wrap ((a.val:Int).tdiv 4)).tmod 2==0)=!yR (a.val:Int) 4:=by decide +kernel
theorem zq6 {f:Int} (h0:0<=f) (h1:f<=31):((IntKind.i64.wrap (f.tdiv 4)).tmod 2==0)=!yR f 4:=by
 have:=ztq ⟨f.toNat,by omega⟩;simpa only [Int.toNat_of_nonneg h0] using this
theorem zkF {g:Img} (hf:yh g=true) {k:Nat} (h:k < g.types.length):0<=(g.types.getD ((k:Int)).toNat default).flags/\(g.types.getD ((k:Int)).toNat default).flags<=31:=zny hf zwy62 zwy102
theorem znJ {l:List Int}:((((l.map pi).length:Nat):Int)==0)=(l.length==0):=by
 rw [List.length_map,Bool.eq_iff_iff];simp only [beq_iff_eq];omega
theorem zwk31 {G:Prop} (h:G:=by repeat' (first|(refine shC ?_;first|(have:=b0;refine qC c0 ?_)|(have:=b1;refine qC cf ?_)|(have:=b2;refine qC co ?_)|(have:=b3;refine qC ct ?_)|(have:=b4;refine qC ck ?_)|(have:=b5;refine qC cw ?_)|(have:=b6;refine qC cm ?_)|(have:=b7;refine qC cb ?_))|(refine shX ?_;first|(have:=b8;refine qX he ?_)|(have:=b7;refine zy rfl (ah h0 hem) rfl rfl ?_)|(have:=b7;refine zq rfl (ah h0 hem) rfl rfl ?_))|refine sK ?_|refine sC (fun _=>?_) (fun _=>?_)|(have:=b0;exact retq rfl (by rw [yY,hfi];rfl))|(have:=b9;exact retq rfl zwy119)|exact ⟨k + 1,⟨hlt,hr⟩,tD,tS,tH⟩|fail)):G:=h
set_option maxHeartbeats 4000000 in
theorem zhb (g:Img) (hx:OkA g):ACall Tryz.prog 19 [zK g] (zi7 (yY g)):=by
 have c0:=zoS g hx;refine zh zf Tryz.func19 rfl zws Tryz.ntmps19 zwy63 _ rfl (fun hw gB hgB=>?_);cases hfi:zaU g
 ·rw [hfi] at c0;have b0:=();exact zwk31
 ·rw [hfi] at c0;have hF:=zay hfi;obtain ⟨hgt,_,hgm,_⟩:=yg hF.formed;have hr0:yY g=stM g (List.range g.methods.length):=by rw [yY,hfi];rfl
  repeat' (first|(refine shC ?_;first|refine qC c0 ?_)|refine sK ?_|refine sC (fun _=>?_) (fun _=>?_)|fail)
  refine zL (fun k:Nat=>[(1,.pv (.ptr (zK g) 0)),(2,.box 0 0),(14,.pv (.slc 12 (g.methods.map zY) false)),(15,.pv (pi g.methods.length)),(16,.pv (pi k))]) (fun _=>[(0,.cell (.pv (.agg [pi 0,pi 0])))])
   (fun k=>k<=g.methods.length/\yY g=stM g ((List.range g.methods.length).drop k)/\∀ i,i < k->Va g (mAt g (i:Int))=true) (fun k=>g.methods.length - k) 0 ⟨by omega,hr0,fun i h=>by omega⟩ zwy71 tH ?_
  rintro k ⟨hk,hr,hall⟩;by_cases hlt:k < g.methods.length
  ·have he:=zuM hlt;have hM:=XA hF.formed (zlD hlt);have cf:=zjP g hF.formed _ hM;have co:=zon g hF.formed _ hM;have ct:=zni g hF.formed _ hM;have hfe:=zwj hM;rw [Vp hlt,stM] at hr;cases hf:zqF g (mAt g (k:Int))
   ·rw [hf] at cf hfe;rw [<-hfe] at hr;have b1:=();have b8:=();have b9:=();exact zwk31
   ·rw [hf] at cf hfe;cases ho:zk4 g (mAt g (k:Int))
    ·rw [ho] at co hfe;rw [<-hfe] at hr;have b1:=();have b2:=();have b8:=();have b9:=();exact zwk31
    ·rw [ho] at co hfe;have hfR:Va g (mAt g (k:Int))=true:=hfe.symm;rw [hfR,if_pos rfl] at hr;cases ht:YG g (mAt g (k:Int))
     ·rw [ht] at ct hr;have b1:=();have b2:=();have b3:=();have b8:=();have b9:=();exact zwk31
     ·rw [ht] at ct hr
      repeat' (first|(refine shC ?_;first|refine qC cf ?_|refine qC co ?_|refine qC ct ?_)|(refine shX ?_;first|refine qX he ?_)|refine sK ?_|refine sC (fun _=>?_) (fun _=>?_)|fail)
      exact ⟨k + 1,⟨hlt,hr,fun i hi=>by
       by_cases e:i=k
       ·subst e;exact hfR
       ·exact hall i zwy62⟩,tD,tS,tH⟩
  ·have hk2:k=g.methods.length:=by omega
   subst hk2;rw [zaE,stM] at hr;have hwe:=fun t=>ztk hF hall t
   clear hall
   repeat' (first|refine sK ?_|refine sC (fun _=>?_) (fun _=>?_)|fail)
   refine zL (fun k:Nat=>[(1,.pv (.ptr (zK g) 0)),(2,.box 0 0),(43,.pv (.slc 4 (g.types.map Zw) false)),(44,.pv (pi g.types.length)),(45,.pv (pi k))]) (fun _=>[(0,.cell (.pv (.agg [pi 0,pi 0])))])
    (fun k=>k<=g.types.length/\yY g=stC g (fun t=>Qz g t (Qr g t) (Zr g t)) ((List.range g.types.length).drop k)) (fun k=>g.types.length - k) 0 ⟨by omega,hr⟩ zwy71 tH ?_
   clear hr hk hlt;rintro k ⟨hk,hr⟩;by_cases hlt:k < g.types.length
   ·have he:=zuN hlt;have hfl:=zkF hF.formed hlt;have hz:=zrQ hfl.1 hfl.2;have ck:=Yd g hF.formed (k:Int);rw [Vp hlt,stC,zsj] at hr;by_cases hk0:zW g (k:Int)=0
    ·have cw:=zm7 g hF (k:Int) hk0;rw [hwe] at cw;rw [hk0] at ck hr;cases hb:yR (g.types.getD ((k:Int)).toNat default).flags 4
     ·rw [hb] at hz hr;cases hw2:Qz g (k:Int) (Qr g (k:Int)) (Zr g (k:Int))
      ·rw [hw2] at cw hr;have b4:=();have b5:=();have b8:=();have b9:=();exact zwk31
      ·rw [hw2] at cw hr;have b4:=();have b5:=();have b8:=();exact zwk31
     ·rw [hb] at hz hr;have b4:=();have b8:=();exact zwk31
    ·have hkb:(zW g (k:Int)==0)=false:=by simp [hk0]
     rw [hkb] at hr;have b4:=();have b8:=();exact zwk31
   ·have hk2:k=g.types.length:=by omega
    subst hk2;rw [zaE,stC] at hr
    repeat' (first|refine sK ?_|refine sC (fun _=>?_) (fun _=>?_)|fail)
    refine zL (fun k:Nat=>[(1,.pv (.ptr (zK g) 0)),(2,.box 0 0),(71,.pv (pi g.types.length)),(72,.pv (pi k))]) (fun _=>[(0,.cell (.pv (.agg [pi 0,pi 0])))])
     (fun k=>k<=g.types.length/\yY g=stD g ((List.range g.types.length).drop k)) (fun k=>g.types.length - k) 0 ⟨by omega,hr⟩ zwy71 tH ?_
    clear hr hk hlt;rintro k ⟨hk,hr⟩;by_cases hlt:k < g.types.length
    ·have ck:=Yd g hF.formed (k:Int);have cm:=Qe g (k:Int) zwy62;have hlz:=znJ (l:=methodsOf g (k:Int));rw [Vp hlt,stD,zkX] at hr;by_cases hk3:zW g (k:Int)=3
     ·rw [hk3] at ck hr;cases hb:(methodsOf g (k:Int)).length==0
      ·rw [hb] at hlz hr;have b4:=();have b6:=();exact zwk31
      ·rw [hb] at hlz hr;have b4:=();have b6:=();have b9:=();exact zwk31
     ·have hkb:(zW g (k:Int)==3)=false:=by simp [hk3]
      rw [hkb] at hr;have b4:=();exact zwk31
    ·have hk2:k=g.types.length:=by omega
     subst hk2;rw [zaE,stD,stE] at hr;by_cases h0:0<=g.entry
     ·have hen:=zmG hF.formed h0;have hem:=YM hen;have cb:=zlb g _ (XA hF.formed hen);rw [decide_eq_true h0] at hr;cases hb:znK (mAt g g.entry)
      ·rw [hb] at cb hr;have b7:=();have b9:=();exact zwk31
      ·rw [hb] at cb hr;have b7:=();have b9:=();exact zwk31
     ·rw [decide_eq_false h0] at hr;have b9:=();exact zwk31
end Go.Cg
