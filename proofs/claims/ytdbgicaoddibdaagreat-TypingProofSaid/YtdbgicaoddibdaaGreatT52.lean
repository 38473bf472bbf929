/- A part of the walks by abstract values: no statement of its own. -/
import Derived.Test.YtdbgicaoddibdaaGreatT51
import Derived.Test.YtdbgicaoddibdaaGreatT48
import Derived.Test.YtdbgicaoddibdaaGreatT20
import Derived.Test.YtdbgicaoddibdaaGreatT16
set_option linter.unusedVariables false
set_option linter.unusedSimpArgs false
namespace Go.Cg
open Go.Proofs
def zuV (r:Except (Int × Int) VS):PV:=match r with
 | .ok s=>.tup [.agg [.slc 1 (s.st.map tys) false,pi s.wk],pi 0,pi 0]
 | .error e=>.tup [.agg [.base (.slice none 0 0),pi 0],pi e.1,pi e.2]
theorem zqz {g:Img} {m:Me} (h:MeOk g m):∀ c∈m.clauses,zw1 m.code.length c:=by
 intro c hm;have hr:=h.formed;simp only [ZT,zac,zfp,Bool.and_eq_true,beq_iff_eq] at hr;have h2:=zvF hr.2.2 hm;obtain ⟨j,hj,rfl⟩:=List.getElem_of_mem hm;have ha:=(zfL hr.2.2).1 j hj;rw [zT hj] at ha;have hk:=zcN ha;have e3:=hk.h0;exact ⟨⟨e3,h2.1⟩,fun hf=>⟨by have:=hk.f hf;omega,h2.2 hf⟩⟩
abbrev mkB (g:Img) (m:Me):HEnv:=[(1,.cell (.pv (Xe g m))),(0,.cell (.pv (.agg [.base (.slice none 0 0),pi 0])))]
abbrev mkS (n:Nat):Nat × HE:=(11,.mrow 47 1 (List.replicate n (.base (.slice none 0 0))))
abbrev mkK (n:Nat):Nat × HE:=(12,.mrow 4 1 (List.replicate n (pb false)))
theorem zkW (n:Nat):PCL (List.replicate n (.base (.slice none 0 0))) ((List.replicate n []).map tys):=by
 refine ⟨by simp,fun k c d hc hd=>?_⟩;rw [List.map_replicate] at hd;obtain rfl:=List.eq_of_mem_replicate (List.mem_of_getElem? hc);obtain rfl:=List.eq_of_mem_replicate (List.mem_of_getElem? hd);exact ql (Qz 4 false) XR
theorem zj1 {g:Img} {m:Me} (h:(zbH g m).2=0) {i:Nat} (hi:i < m.code.length):onV m i=0:=by
 unfold zbH at h;split at h
 ·rename_i j hj;have:=List.find?_some hj;simp at this;exact absurd h this
 ·rename_i hj;rw [List.find?_eq_none] at hj;have:=hj i (List.mem_range.2 hi);simp only [bne_iff_ne,ne_eq,Decidable.not_not] at this;unfold Vq at this;apply Classical.byContradiction;intro hn;rw [if_pos (by simpa using hn)] at this;exact hn this
theorem ztP {g:Img} {k i:Int} {n:Nat} {s s':VS} (h:LenV n s) (ht:zeU g k i s=.ok s'):LenV n s':=by
 unfold zeU at ht;split at ht
 ·cases ht
 ·unfold zgU at ht;split at ht
  ·cases ht
  ·rename_i s1 h1;have k1:LenV n s1:=by
    split at h1
    ·exact zdv (show LenV n { s with kn:=s.kn.set i.toNat true,wk:=s.wk + 1 } from ⟨h.st,by simp [h.kn]⟩) h1
    ·cases h1;exact ⟨h.st,by simp [h.kn]⟩
   split at ht
   ·exact zdv k1 ht
   ·cases ht;exact k1
theorem zwf {g:Img} {m:Me} {i t:Int} {l:List Ty} {s:VS} {e:Int} (ht:toV g m i t l s=.error e):e≠0:=by
 unfold toV at ht;split at ht
 ·cases ht;decide
 ·split at ht
  ·split at ht
   ·cases ht
   ·cases ht;decide
  ·split at ht
   ·cases ht
   ·split at ht
    ·cases ht
    ·rename_i h;cases ht;simpa using h
theorem zus {g:Img} {k i:Int} {s:VS} {e:Int} (ht:zeU g k i s=.error e):e≠0:=by
 unfold zeU at ht;split at ht
 ·rename_i h;cases ht;exact zqs h
 ·unfold zgU at ht;split at ht
  ·rename_i h1;cases ht;split at h1
   ·exact zwf h1
   ·cases h1
  ·split at ht
   ·exact zwf ht
   ·cases ht
set_option maxHeartbeats 8000000 in
theorem zkM {g:Img} (hc:(qG g).2=0) {k:Int} (hm:mOk g k) (hcode:0 < (mAt g k).code.length):ACall Tryz.prog 13 [zO g,pi k,.ptr (zO g) 0] (zuV (QB g k)):=by
 have hF:=(Xc (Qo hc).1).formed;have hM:=Xb hF hm;have hs:=hM.small;have cf:=zkx hc hm;have he:(g.methods.map yh)[k.toNat]?=some (yh (mAt g k)):=by rw [mAt,zT hm.2];exact zY hm.2
 have hk0:=hm.1;by_cases ha:(zbH g (mAt g k)).2=0
 ·have e0:((zbH g (mAt g k)).2 != 0)=false:=by simp [ha]
  have hV:QB g k=goV g k (mAt g k).code.length 0 (WA (mAt g k)):=by rw [QB,e0,if_neg zwy63]
  rw [hV];obtain ⟨n,hn⟩:∃ n,n=(mAt g k).code.length:=⟨_,rfl⟩
  have hnl:(((((mAt g k).code.map qx).length:Nat):Int))=((n:Nat):Int):=by rw [List.length_map,hn]
  have hs0:LenV n ⟨List.replicate n [],List.replicate n false,0⟩:=⟨by simp,by simp⟩
  have hcl:∀ c∈(mAt g k).clauses,zw1 n c:=by rw [hn];exact zqz hM
  have hst:WA (mAt g k)=(mAt g k).clauses.foldl YK (qo 0 [] ⟨List.replicate n [],List.replicate n false,0⟩):=by rw [WA,←hn]
  have hso:=ziU (mAt g k);rw [←hn] at hso;rw [←hn];refine zi zf Tryz.func13 rfl zws Tryz.ntmps13 zwy63 _ rfl (fun hw gB hgB=>?_)
  repeat' (first|refine zN 1 7 0 zf rfl zws zws zws rfl rfl rfl rfl rfl rfl rfl rfl rfl rfl rfl rfl rfl rfl (fun _=>rfl) rfl rfl rfl ?_|refine ⟨_,_,rfl,rfl,rfl,?_⟩|refine zy rfl (aj (ps:=(zfj g (mAt g k)))) rfl rfl ?_|refine zq rfl (aj (ps:=(zfj g (mAt g k)))) rfl rfl ?_|refine zeA (id:=6) rfl ?_|(refine shC ?_;first|refine qC cf ?_)|(refine shX ?_;first|refine zy rfl (ah hk0 he) rfl rfl ?_|refine zq rfl (ah hk0 he) rfl rfl ?_)|refine sA ?_|fail)
  refine zbu 4 7 [0,1,2,3,4,5,6,7,8,9,10] [0,1,2,3,4,5,6,7,8,9,10] [0,1,2,6,7,3,4,5,8,9,10] [0,1,2,5,6,7,3,4,8,9,10] rfl zws zws (zbu 5 7 [0,1,2,3,4,5,6,7,8,9,10] [0,1,2,3,4,5,6,7,8,9,10] [0,1,2,3,4,6,7,5,8,9,10] [0,1,2,3,4,7,5,6,8,9,10] rfl zws zws (zfs zws ?_) (zfs zws ?_)) (zfs zws ?_)
  focus
   refine zdr 11 8 [4,5,7] [] (mkL [mkB g (mAt g k),mkS n::mkB g (mAt g k),mkS n::mkB g (mAt g k),mkK n::mkS n::mkB g (mAt g k)]) (mkL [mkB g (mAt g k),mkS n::mkB g (mAt g k),mkS n::mkB g (mAt g k),mkK n::mkS n::mkB g (mAt g k)]) (mkB g (mAt g k)) none rfl zws zws zws zws zws zws (fun p hp=>by simp at hp) rfl (zaE rfl ⟨tH,tH,tH,tH,trivial⟩) rfl (YO rfl rfl) (fun q h=>YO rfl rfl q 3 h (Nat.le_refl 3)) tH rfl (fun v hv=>by cases hv) ?_
   repeat' (first|refine Yp 4 [0,2] (.own 11) rfl rfl rfl rfl rfl ?_|refine Yp 0 [1] (.agg [.own 11,.pv (pi 0)]) rfl rfl rfl rfl rfl ?_|refine Yp 1 [] (.own 12) rfl rfl rfl rfl rfl ?_|refine ⟨⟨rfl,XK (m:=n) (sz:=1) zf 11 rfl rfl rfl rfl hnl rfl rfl (by show 24 * _≤_;omega) zwy90 rfl rfl rfl,.inr zws⟩,?_⟩|refine ⟨⟨rfl,XK (m:=n) (sz:=1) zf 12 rfl rfl rfl rfl hnl rfl rfl (by show 1 * _≤_;omega) zwy90 rfl rfl rfl,.inr zws⟩,?_⟩|refine ⟨⟨rfl,ziw (zax zf rfl ⟨_,rfl⟩ rfl rfl rfl rfl rfl rfl),.inr zws⟩,?_⟩|refine ZV ?_|intro _|refine QL ?_|refine zy rfl (zax zf rfl ⟨_,rfl⟩ rfl rfl rfl rfl rfl rfl) rfl rfl ?_|refine zy rfl (aj (ps:=(zfj g (mAt g k)))) rfl rfl ?_|refine zq rfl (aj (ps:=(zfj g (mAt g k)))) rfl rfl ?_|refine zfK (es:=List.replicate n (.base (.slice none 0 0))) 11 rfl (zkW n) ?_|refine zkY (es:=List.replicate n (pb false)) 12 rfl (List.map_replicate ..).symm ?_|(refine Qx ?_;first|refine WX 10 rfl rfl rfl rfl rfl rfl ?_)|(refine zn ?_;first|(refine yD (rnH g (mAt g k) k ⟨List.replicate n [],List.replicate n false,0⟩) (rnH g (mAt g k) k (qo 0 [] ⟨List.replicate n [],List.replicate n false,0⟩)) [(0,.cell (.pv (.agg [.base (.slice none 0 0),pi 0])))] [(6,.box 0 0),(12,.pv (pi (((mAt g k).code.map qx).length:Nat))),(13,.box 10 0)] [10] zh rfl rfl rfl ?_ tS rfl rfl rfl (fun us=>QI g (mAt g k) k hs0 0 ⟨Int.le_refl 0,by show (0:Int).toNat < n;omega⟩ [] _ (Qz 4 false) us) ?_;· (repeat (first|exact zA|refine aB ?_)))|(refine yD (rnH g (mAt g k) k (qo 0 [] ⟨List.replicate n [],List.replicate n false,0⟩)) (rnH g (mAt g k) k ((mAt g k).clauses.foldl YK (qo 0 [] ⟨List.replicate n [],List.replicate n false,0⟩))) [(0,.cell (.pv (.agg [.base (.slice none 0 0),pi 0])))] [(6,.box 0 0),(12,.pv (pi (((mAt g k).code.map qx).length:Nat))),(13,.box 10 0)] [10] zh rfl rfl rfl ?_ tS rfl rfl rfl (fun us=>zbe g (mAt g k) k _ (Qg hs0 0 []) hcl zwy62 us) ?_;· (repeat (first|exact zA|refine aB ?_))))|refine sK ?_|refine sC (fun _=>?_) (fun _=>?_)|fail)
  rotate_left
  focus
   refine zdr 11 8 [4,6,7] [] (mkL [mkB g (mAt g k),mkS n::mkB g (mAt g k),mkK n::mkS n::mkB g (mAt g k),mkK n::mkS n::mkB g (mAt g k)]) (mkL [mkB g (mAt g k),mkS n::mkB g (mAt g k),mkK n::mkS n::mkB g (mAt g k),mkK n::mkS n::mkB g (mAt g k)]) (mkB g (mAt g k)) none rfl zws zws zws zws zws zws (fun p hp=>by simp at hp) rfl (zaE rfl ⟨tH,tH,tH,tH,trivial⟩) rfl (YO rfl rfl) (fun q h=>YO rfl rfl q 3 h (Nat.le_refl 3)) tH rfl (fun v hv=>by cases hv) ?_
   repeat' (first|refine Yp 4 [1,2] (.own 11) rfl rfl rfl rfl rfl ?_|refine Yp 1 [0] (.own 12) rfl rfl rfl rfl rfl ?_|refine Yp 0 [] (.agg [.own 11,.pv (pi 0)]) rfl rfl rfl rfl rfl ?_|refine ⟨⟨rfl,XK (m:=n) (sz:=1) zf 11 rfl rfl rfl rfl hnl rfl rfl (by show 24 * _≤_;omega) zwy90 rfl rfl rfl,.inr zws⟩,?_⟩|refine ⟨⟨rfl,XK (m:=n) (sz:=1) zf 12 rfl rfl rfl rfl hnl rfl rfl (by show 1 * _≤_;omega) zwy90 rfl rfl rfl,.inr zws⟩,?_⟩|refine ⟨⟨rfl,ziw (zax zf rfl ⟨_,rfl⟩ rfl rfl rfl rfl rfl rfl),.inr zws⟩,?_⟩|refine ZV ?_|intro _|refine QL ?_|refine zy rfl (zax zf rfl ⟨_,rfl⟩ rfl rfl rfl rfl rfl rfl) rfl rfl ?_|refine zy rfl (aj (ps:=(zfj g (mAt g k)))) rfl rfl ?_|refine zq rfl (aj (ps:=(zfj g (mAt g k)))) rfl rfl ?_|refine zfK (es:=List.replicate n (.base (.slice none 0 0))) 11 rfl (zkW n) ?_|refine zkY (es:=List.replicate n (pb false)) 12 rfl (List.map_replicate ..).symm ?_|(refine Qx ?_;first|refine WX 10 rfl rfl rfl rfl rfl rfl ?_)|(refine zn ?_;first|(refine yD (rnH g (mAt g k) k ⟨List.replicate n [],List.replicate n false,0⟩) (rnH g (mAt g k) k (qo 0 [] ⟨List.replicate n [],List.replicate n false,0⟩)) [(0,.cell (.pv (.agg [.base (.slice none 0 0),pi 0])))] [(6,.box 0 0),(12,.pv (pi (((mAt g k).code.map qx).length:Nat))),(13,.box 10 0)] [10] zh rfl rfl rfl ?_ tS rfl rfl rfl (fun us=>QI g (mAt g k) k hs0 0 ⟨Int.le_refl 0,by show (0:Int).toNat < n;omega⟩ [] _ (Qz 4 false) us) ?_;· (repeat (first|exact zA|refine aB ?_)))|(refine yD (rnH g (mAt g k) k (qo 0 [] ⟨List.replicate n [],List.replicate n false,0⟩)) (rnH g (mAt g k) k ((mAt g k).clauses.foldl YK (qo 0 [] ⟨List.replicate n [],List.replicate n false,0⟩))) [(0,.cell (.pv (.agg [.base (.slice none 0 0),pi 0])))] [(6,.box 0 0),(12,.pv (pi (((mAt g k).code.map qx).length:Nat))),(13,.box 10 0)] [10] zh rfl rfl rfl ?_ tS rfl rfl rfl (fun us=>zbe g (mAt g k) k _ (Qg hs0 0 []) hcl zwy62 us) ?_;· (repeat (first|exact zA|refine aB ?_))))|refine sK ?_|refine sC (fun _=>?_) (fun _=>?_)|fail)
  rotate_left
  focus
   refine zdr 11 8 [4,6,7] [] (mkL [mkB g (mAt g k),mkK n::mkB g (mAt g k),mkS n::mkK n::mkB g (mAt g k),mkS n::mkK n::mkB g (mAt g k)]) (mkL [mkB g (mAt g k),mkK n::mkB g (mAt g k),mkS n::mkK n::mkB g (mAt g k),mkS n::mkK n::mkB g (mAt g k)]) (mkB g (mAt g k)) none rfl zws zws zws zws zws zws (fun p hp=>by simp at hp) rfl (zaE rfl ⟨tH,tH,tH,tH,trivial⟩) rfl (YO rfl rfl) (fun q h=>YO rfl rfl q 3 h (Nat.le_refl 3)) tH rfl (fun v hv=>by cases hv) ?_
   repeat' (first|refine Yp 4 [1,2] (.own 12) rfl rfl rfl rfl rfl ?_|refine Yp 1 [0] (.own 11) rfl rfl rfl rfl rfl ?_|refine Yp 0 [] (.agg [.own 11,.pv (pi 0)]) rfl rfl rfl rfl rfl ?_|refine ⟨⟨rfl,XK (m:=n) (sz:=1) zf 11 rfl rfl rfl rfl hnl rfl rfl (by show 24 * _≤_;omega) zwy90 rfl rfl rfl,.inr zws⟩,?_⟩|refine ⟨⟨rfl,XK (m:=n) (sz:=1) zf 12 rfl rfl rfl rfl hnl rfl rfl (by show 1 * _≤_;omega) zwy90 rfl rfl rfl,.inr zws⟩,?_⟩|refine ⟨⟨rfl,ziw (zax zf rfl ⟨_,rfl⟩ rfl rfl rfl rfl rfl rfl),.inr zws⟩,?_⟩|refine ZV ?_|intro _|refine QL ?_|refine zy rfl (zax zf rfl ⟨_,rfl⟩ rfl rfl rfl rfl rfl rfl) rfl rfl ?_|refine zy rfl (aj (ps:=(zfj g (mAt g k)))) rfl rfl ?_|refine zq rfl (aj (ps:=(zfj g (mAt g k)))) rfl rfl ?_|refine zfK (es:=List.replicate n (.base (.slice none 0 0))) 11 rfl (zkW n) ?_|refine zkY (es:=List.replicate n (pb false)) 12 rfl (List.map_replicate ..).symm ?_|(refine Qx ?_;first|refine WX 10 rfl rfl rfl rfl rfl rfl ?_)|(refine zn ?_;first|(refine yD (rnH g (mAt g k) k ⟨List.replicate n [],List.replicate n false,0⟩) (rnH g (mAt g k) k (qo 0 [] ⟨List.replicate n [],List.replicate n false,0⟩)) [(0,.cell (.pv (.agg [.base (.slice none 0 0),pi 0])))] [(6,.box 0 0),(12,.pv (pi (((mAt g k).code.map qx).length:Nat))),(13,.box 10 0)] [10] zh rfl rfl rfl ?_ tS rfl rfl rfl (fun us=>QI g (mAt g k) k hs0 0 ⟨Int.le_refl 0,by show (0:Int).toNat < n;omega⟩ [] _ (Qz 4 false) us) ?_;· (repeat (first|exact zA|refine aB ?_)))|(refine yD (rnH g (mAt g k) k (qo 0 [] ⟨List.replicate n [],List.replicate n false,0⟩)) (rnH g (mAt g k) k ((mAt g k).clauses.foldl YK (qo 0 [] ⟨List.replicate n [],List.replicate n false,0⟩))) [(0,.cell (.pv (.agg [.base (.slice none 0 0),pi 0])))] [(6,.box 0 0),(12,.pv (pi (((mAt g k).code.map qx).length:Nat))),(13,.box 10 0)] [10] zh rfl rfl rfl ?_ tS rfl rfl rfl (fun us=>zbe g (mAt g k) k _ (Qg hs0 0 []) hcl zwy62 us) ?_;· (repeat (first|exact zA|refine aB ?_))))|refine sK ?_|refine sC (fun _=>?_) (fun _=>?_)|fail)
  rotate_left
  all_goals
   refine zW (fun x:Nat × VS=>[(6,.box 0 0),(13,.box 10 0),(51,.pv (pi (((mAt g k).code.map qx).length:Nat))),(52,.pv (pi x.1))]) (fun x=>rnH g (mAt g k) k x.2++[(0,.cell (.pv (.agg [.base (.slice none 0 0),pi 0])))]) (fun x=>x.1≤n∧goV g k (n - x.1) x.1 x.2=goV g k n 0 (WA (mAt g k))∧LenV n x.2∧OkV n x.2∧0≤x.2.wk∧x.2.wk≤27 * (x.1:Int)) (fun x=>n - x.1) (0,(mAt g k).clauses.foldl YK (qo 0 [] ⟨List.replicate n [],List.replicate n false,0⟩))
    ⟨by omega,by rw [←hst];rfl,zee _ (Qg hs0 0 []),by rw [←hst];exact hso.1,by rw [←hst,hso.2];exact Int.le_refl 0,by rw [←hst,hso.2];exact Int.le_refl 0⟩ tS tH ?_
   rintro ⟨i,s⟩ ⟨hin,hgo,hl,hok,w0,w1⟩;dsimp only at hin hgo hl hok w0 w1 ⊢;by_cases hlt:i < n
   ·have hd:decide (((i:Nat):Int) < (((mAt g k).code.map qx).length:Nat))=true:=decide_eq_true (by rw [hnl];omega);have c1:=fun us=>zuI hc hm (s:=s) (by rw [←hn];exact hl) (by rw [←hn];exact hok) ⟨w0,by omega⟩ i zwy62 (zj1 ha zwy62) us
    rw [show n - i=(n - (i + 1)) + 1 by omega,goV] at hgo;cases hr:zeU g k i s with
    | ok s' =>
     rw [hr] at hgo;have ho:=zui hs.2.2.2.2.2 hok hr
     repeat' (first|(refine zn ?_;first|(refine yD (rnH g (mAt g k) k s) (rnH g (mAt g k) k s') [(0,.cell (.pv (.agg [.base (.slice none 0 0),pi 0])))] [(6,.box 0 0),(13,.box 10 0),(51,.pv (pi (((mAt g k).code.map qx).length:Nat))),(52,.pv (pi i))] [10] zh rfl rfl rfl ?_ tS rfl rfl rfl (fun us=>by have h:=c1 us;rw [hr] at h;exact h) ?_;· (repeat (first|exact zA|refine aB ?_))))|refine sK ?_|refine sC (fun _=>?_) (fun _=>?_)|fail)
     exact ⟨(i + 1,s'),⟨hlt,hgo,ztP hl hr,ho.1,by have:=ho.2.1;show 0≤s'.wk;omega,by have:=ho.2.2;show s'.wk≤27 * ((i + 1:Nat):Int);omega⟩,tD,tS,tH⟩
    | error e =>
     rw [hr] at hgo;have hnz:(e != 0)=true:=by simpa using zus hr
     repeat' (first|(refine zn ?_;first|(refine yD (rnH g (mAt g k) k s) ([]) [(0,.cell (.pv (.agg [.base (.slice none 0 0),pi 0])))] [(6,.box 0 0),(14,.pv (pi i))] [] zh rfl rfl rfl ?_ tS rfl rfl rfl (fun _=>zm3 [10] rfl fun us=>by have h:=c1 us;rw [hr] at h;exact h) ?_;· (repeat (first|exact zA|refine aB ?_))))|refine sK ?_|refine sC (fun _=>?_) (fun _=>?_)|fail)
     exact retq rfl (by rw [←hgo];rfl)
   ·have hd:decide (((i:Nat):Int) < (((mAt g k).code.map qx).length:Nat))=false:=decide_eq_false (by rw [hnl];omega);have hgo2:goV g k n 0 (WA (mAt g k))=.ok s:=by rw [←hgo,show n - i=0 by omega];rfl
    repeat' (first|refine WG 11 rfl ?_|refine zix 10 11 18 rfl rfl rfl ?_|refine zy rfl (aj (ps:=[.slc 1 (s.st.map tys) false,pi s.wk])) rfl rfl ?_|refine zq rfl (aj (ps:=[.slc 1 (s.st.map tys) false,pi s.wk])) rfl rfl ?_|refine sK ?_|refine sC (fun _=>?_) (fun _=>?_)|fail)
    exact retq rfl (by rw [hgo2];rfl)
 ·have e0:((zbH g (mAt g k)).2 != 0)=true:=by simpa using ha
  have hV:QB g k=.error (zbH g (mAt g k)):=by rw [QB,e0,if_pos rfl]
  rw [hV];refine zi zf Tryz.func13 rfl zws Tryz.ntmps13 zwy63 _ rfl (fun hw gB hgB=>?_)
  repeat' (first|refine zN 1 7 0 zf rfl zws zws zws rfl rfl rfl rfl rfl rfl rfl rfl rfl rfl rfl rfl rfl rfl (fun _=>rfl) rfl rfl rfl ?_|refine ⟨_,_,rfl,rfl,rfl,?_⟩|refine zy rfl (aj (ps:=(zfj g (mAt g k)))) rfl rfl ?_|refine zq rfl (aj (ps:=(zfj g (mAt g k)))) rfl rfl ?_|(refine shC ?_;first|refine qC cf ?_)|(refine shX ?_;first|refine zy rfl (ah hk0 he) rfl rfl ?_|refine zq rfl (ah hk0 he) rfl rfl ?_)|refine sK ?_|refine sC (fun _=>?_) (fun _=>?_)|fail)
  exact retq rfl rfl
set_option maxHeartbeats 20000000
theorem zn3 (g:Img) (hx:OkA g) (hc:((qG g).2==0)=false):ACall Tryz.prog 11 [zO g] (.base (.pointer none)):=by
 have c1:=zcX g hx;rw [zja] at c1;have hc2:((qG g).2 != 0)=true:=by rw [bne,hc];rfl
 generalize (qG g).2=e at c1 hc hc2;refine zi zf Tryz.func11 rfl zws Tryz.ntmps11 zwy63 _ rfl (fun hw gB hgB=>?_)
 repeat' (first|(refine shC ?_;first|refine qC c1 ?_)|refine sK ?_|refine sC (fun _=>?_) (fun _=>?_)|fail)
 exact retq rfl rfl
def VJ (g:Img) (m:Int):Except (Int × Int) VS:=if VL g&&zbd g m then QB g m else .error (0,17)
theorem zwk21 {G:Prop} (h:G:=by repeat' (first|(have:=b0;refine zy rfl (Va (b:=true) rfl Tryz.underlying53 rfl rfl) rfl rfl ?_)|(have:=b0;refine zq rfl (Va (b:=true) rfl Tryz.underlying53 rfl rfl) rfl rfl ?_)|(have:=b1;refine zy rfl (Va (b:=false) rfl Tryz.underlying53 rfl rfl) rfl rfl ?_)|(have:=b1;refine zq rfl (Va (b:=false) rfl Tryz.underlying53 rfl rfl) rfl rfl ?_)|(refine shC ?_;first|refine qC c1 ?_|(have:=b1;refine qC c2 ?_)|(have:=b2;refine qC c3 ?_))|refine sK ?_|refine sC (fun _=>?_) (fun _=>?_)|exact retq rfl rfl|fail)):G:=h
theorem zm2 (g:Img) (hx:OkA g) (m:Int):ACall Tryz.prog 6 [zO g,pi m] (zuV (VJ g m)):=by
 have c2:ACall Tryz.prog 12 [zO g,pi m] (pb (zbd g m)):=zhY g m;cases hwl:VL g
 ·have hV:VJ g m=.error (0,17):=by rw [VJ,hwl];rfl
  have c1:=zn3 g hx hwl;rw [hV];refine zi zf Tryz.func6 rfl zws Tryz.ntmps6 zwy63 _ rfl (fun hw gB hgB=>?_);have b0:=();exact zwk21
 ·have hc:(qG g).2=0:=by simpa [VL] using hwl
  have c1:=zbW g hx hc;cases hk:zbd g m
  ·rw [hk] at c2;have hV:VJ g m=.error (0,17):=by rw [VJ,hwl,hk];rfl
   rw [hV];refine zi zf Tryz.func6 rfl zws Tryz.ntmps6 zwy63 _ rfl (fun hw gB hgB=>?_);have b1:=();exact zwk21
  ·rw [hk] at c2;have hV:VJ g m=QB g m:=by rw [VJ,hwl,hk];rfl
   have hk2:=hk;simp only [zbd,Bool.and_eq_true,decide_eq_true_eq] at hk2;have hm:mOk g m:=⟨hk2.1.1,by omega⟩
   have c3:=zkM hc hm hk2.2;rw [hV];generalize QB g m=r at c3 ⊢;cases r with
   | ok s =>
    refine zi zf Tryz.func6 rfl zws Tryz.ntmps6 zwy63 _ rfl (fun hw gB hgB=>?_);have b1:=();have b2:=();exact zwk21
   | error e =>
    refine zi zf Tryz.func6 rfl zws Tryz.ntmps6 zwy63 _ rfl (fun hw gB hgB=>?_);have b1:=();have b2:=();exact zwk21
end Go.Cg
