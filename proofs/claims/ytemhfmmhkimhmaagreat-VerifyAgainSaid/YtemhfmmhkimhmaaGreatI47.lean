/- A part of the walks by abstract values: no statement of its own. -/
import Derived.Test.YtemhfmmhkimhmaaGreatI41
import Derived.Test.YtemhfmmhkimhmaaGreatI46
import Derived.Test.YtemhfmmhkimhmaaGreatI44
import Derived.Test.YtemhfmmhkimhmaaGreatI12
import Derived.Test.YtemhfmmhkimhmaaGreatI32
import Derived.Test.YtemhfmmhkimhmaaGreatI18
import Derived.Test.YtemhfmmhkimhmaaGreatI16
set_option linter.unusedVariables false
set_option linter.unusedSimpArgs false
namespace Go.Cg
open Go.Proofs
abbrev sts (l:List (List Ty)):PV:=.slc 1 (l.map tys) false
theorem zwg {l:List (List Ty)} (h:(sts l).lenOk):l.length<=9223372036854775807:=by
 simp [sts,PV.lenOk,maxLen] at h;exact h.1
set_option maxHeartbeats 1000000 in
theorem zlO (l:List (List Ty)):ACall Tryz.prog 10 [sts l,sts l] (pb true):=by
 refine zh zf Tryz.func10 rfl zws Tryz.ntmps10 zwy63 _ rfl (fun hw gB hgB=>?_);have hll:l.length<=9223372036854775807:=zwg hw.1
 repeat' (first|refine sK ?_|refine sC (fun _=>?_) (fun _=>?_)|fail)
 refine zL (fun k:Nat=>[(0,.pv (sts l)),(1,.pv (sts l)),(5,.pv (pi k))]) (fun _=>[]) (fun k=>k<=l.length) (fun k=>l.length - k) 0 (Nat.zero_le _) (tS) tH ?_;rintro k hk;by_cases hlt:k < l.length
 ·have he:(l.map tys)[k]?=some (tys l[k]):=by rw [List.getElem?_map,List.getElem?_eq_getElem hlt];rfl
  have hd:decide ((k:Int) < (((l.map tys).length:Nat):Int))=true:=decide_eq_true zwy107;have c1:=zaR l[k] l[k];rw [decide_eq_true rfl] at c1
  repeat' (first|(refine shC ?_;first|refine qC c1 ?_)|(refine shX ?_;first|refine qX he ?_)|refine sK ?_|refine sC (fun _=>?_) (fun _=>?_)|fail)
  exact ⟨k + 1,hlt,tD,tS,tH⟩
 ·have hd:decide ((k:Int) < (((l.map tys).length:Nat):Int))=false:=decide_eq_false zwy107
  repeat' (first|refine sK ?_|refine sC (fun _=>?_) (fun _=>?_)|fail)
  exact retq rfl rfl
abbrev zxM (m:Me) (c d:PV):PV:=.agg [ps m.name,pi m.owner,pi m.flags,tys m.params,pi m.ret.kind,pi m.ret.index,pi m.ret.dims,pb m.ret.ref,tys m.locals,pi m.max,c,d]
abbrev zeh (m:Me) (u:Value):PV:=zxM m (.base u) (.slc 10 (m.clauses.map qR) false)
def cpX (g:Img) (k0:Nat) (x:Me) (k:Nat):Option Value->HEnv
 | none=>[(12,.mrow 36 12 ((g.methods.take k).map zY))]
 | some u=>[(12,.mrow 36 12 (((g.methods.take k).map zY).set k0 (zeh x u))),(13,.mrow 45 6 (x.code.map yM)),(14,.pin (.own 13) u)]
abbrev cpA (g:Img) (k0:Nat) (x:Me) (u:Value):HEnv:=[(10,.row 55 4 (g.types.map Zw)),(11,.row 82 7 (g.fields.map ZI)),(12,.mrow 36 12 ((g.methods.map zY).set k0 (zeh x u))),(13,.mrow 45 6 (x.code.map yM)),(14,.pin (.own 13) u)]
theorem zvU {α β:Type} {f:α->β} {l:List α} {k:Nat} {p:β} (h:k < l.length):(l.take k).map f++[p]=((l.take (k + 1)).map f).set k p:=by
 have hl:((l.take k).map f).length=k:=by rw [List.length_map,List.length_take];omega
 rw [<-VI h,List.set_append,if_neg zwy62,hl,Nat.sub_self];rfl
theorem zsP {α β:Type} {f:α->β} {l:List α} {k k0:Nat} {p:β} (h:k < l.length) (h0:k0 < k):((l.take k).map f).set k0 p++[f l[k]]=((l.take (k + 1)).map f).set k0 p:=by
 have hl:((l.take k).map f).length=k:=by rw [List.length_map,List.length_take];omega
 rw [<-VI h,List.set_append,if_pos zwy62]
set_option maxHeartbeats 4000000 in
theorem zlu (g:Img) (hl:Vb g=false) (k0:Nat) (hk0:k0 < g.methods.length) (hn0:0 < (g.methods[k0]).code.length):ACallU Tryz.prog 9 [.pv (zK g)] [] (fun _:Value=>cpR g) (fun u=>cpA g k0 g.methods[k0] u):=by
 refine zjV zf Tryz.func9 rfl zws Tryz.ntmps9 zwy63 rfl (fun gB hw1=>?_);simp only [Vb,Bool.or_eq_false_iff,Bool.not_eq_false',decide_eq_true_eq] at hl;obtain ⟨⟨⟨⟨hl1,hl2⟩,hl3⟩,hl4⟩,hl5⟩:=hl;have ht:∀ t∈g.types,t.faces.length<=20:=fun t h=>by
  have:=List.any_eq_false.1 hl4 t h;simp only [zdF,Bool.or_eq_true,Bool.not_eq_true',decide_eq_false_iff_not,not_or,Decidable.not_not] at this;omega
 have hm:∀ m∈g.methods,m.params.length<=30/\m.locals.length<=30/\m.code.length<=200/\m.clauses.length<=20:=fun m h=>by
  have:=List.any_eq_false.1 hl5 m h;simp only [zc2,Bool.or_eq_true,Bool.not_eq_true',decide_eq_false_iff_not,not_or,Decidable.not_not] at this;omega
 obtain ⟨x,hx⟩:∃ x,x=g.methods[k0]:=⟨_,rfl⟩
 rw [<-hx] at hn0 ⊢
 repeat' (first|refine sK ?_|refine sC (fun _=>?_) (fun _=>?_)|fail)
 refine zb4 1 10 0 55 4 zwy69 rfl rfl rfl rfl ?_;refine zb4 1 11 1 82 7 zwy69 rfl rfl rfl rfl ?_;refine zbE 1 12 2 36 12 zwy69 rfl rfl rfl rfl ?_;refine zL (fun k:Nat=>[(1,.pv (.ptr (zK g) 0)),(2,.box 0 0),(3,.box 1 0),(4,.pv (pi k))])
  (fun k=>[(0,.cell (.pv (.agg [.base (.slice none 0 0),.base (.slice none 0 0),.base (.slice none 0 0),pi 0]))),(1,.cell (.agg [.own 10,.own 11,.own 12,.pv (pi g.entry)])),(10,.row 55 4 ((g.types.take k).map Zw)),(11,.row 82 7 []),(12,.mrow 36 12 [])])
  (fun k=>k<=g.types.length) (fun k=>g.types.length - k) 0 zwy63 (tS) tH ?_
 rintro k hk;by_cases hlt:k < g.types.length
 ·have he:=zS (f:=Zw) hlt;have hf:=ht _ (List.getElem_mem hlt);have hkl:((g.types.take k).map Zw).length=k:=by rw [List.length_map,List.length_take];omega
  repeat' (first|(refine shX ?_;first|refine qX he ?_)|(refine yj ?_;first|refine zy rfl (Qq zf rfl rfl (.inr ⟨rfl,rfl⟩) rfl rfl zwy72 zwy64) rfl rfl ?_|refine yV zf rfl rfl rfl rfl rfl rfl rfl (by show _ * 56<=_;rw [hkl];simp;omega) (by rw [hkl];simp;omega) rfl rfl ?_)|refine sK ?_|refine sC (fun _=>?_) (fun _=>?_)|fail)
  all_goals exact ⟨k + 1,hlt,tD,tS,⟨zA rfl (zA rfl (qH rfl (VI hlt) (zA rfl (aB zC)))),rfl⟩⟩
 ·obtain rfl:k=g.types.length:=by omega
  rw [List.take_length]
  repeat' (first|(refine yj ?_;first|refine yV zf rfl rfl rfl rfl rfl rfl rfl (by show _ * 64<=_;simp;omega) zwy64 rfl rfl ?_)|refine sK ?_|refine sC (fun _=>?_) (fun _=>?_)|fail)
  refine zL (fun p:Nat × Option Value=>[(1,.pv (.ptr (zK g) 0)),(2,.box 0 0),(3,.box 1 0),(7,.pv (pi p.1))])
   (fun p=>[(0,.cell (.pv (.agg [.base (.slice none 0 0),.base (.slice none 0 0),.base (.slice none 0 0),pi 0]))),(1,.cell (.agg [.own 10,.own 11,.own 12,.pv (pi g.entry)])),(10,.row 55 4 (g.types.map Zw)),(11,.row 82 7 (g.fields.map ZI))]++cpX g k0 x p.1 p.2)
   (fun p=>p.1<=g.methods.length/\p.2.isSome=decide (k0 < p.1)) (fun p=>g.methods.length - p.1) (0,none) ⟨Nat.zero_le _,rfl⟩ (tS) ⟨zA rfl (zA rfl (zA rfl (qH rfl zwy63 (aB zC)))),rfl⟩ ?_
  clear hk hlt;rintro ⟨k,o⟩ ⟨hk,ho⟩;dsimp only at hk ho ⊢;by_cases hlt:k < g.methods.length
  ·have he:=zS (f:=zY) hlt;obtain ⟨hf1,hf2,hf3,hf4⟩:=hm _ (List.getElem_mem hlt);have hkl:((g.methods.take k).map zY).length=k:=by rw [List.length_map,List.length_take];omega
   cases o with
   | none =>
    have hkk:¬ k0 < k:=by simpa using ho
    by_cases hek:k=k0
    ·subst hek;rw [<-hx] at he hf1 hf2 hf3 hf4;have hnc:0 < (x.code.map yM).length:=by rw [List.length_map];exact hn0
     unfold cpX
     repeat' (first|refine zmo 2 10 14 rfl rfl rfl rfl (fun u=>?_)|(refine shX ?_;first|refine qX he ?_)|(refine yj ?_;first|refine ziq (e:=45) 13 zf rfl rfl rfl (.inr ⟨rfl,rfl⟩) rfl hnc rfl (bnd 200 zwy64 zwy69) zwy64 rfl rfl rfl ?_|refine zy rfl (Qq zf rfl rfl (.inr ⟨rfl,rfl⟩) rfl rfl (bnd 200 zwy64 zwy69) zwy64) rfl rfl ?_|refine YF zf rfl rfl rfl rfl rfl rfl rfl (by show _ * 168<=_;rw [hkl];simp;omega) (by rw [hkl];simp;omega) rfl rfl ?_)|refine sK ?_|refine sC (fun _=>?_) (fun _=>?_)|fail)
     exact ⟨(k + 1,some u),⟨hlt,by simp⟩,tD,tS,⟨zA rfl (zA rfl (zA rfl (zA rfl (Zi rfl (zvU hlt) (zA rfl (aB zC)))))),rfl⟩⟩
    ·unfold cpX
     repeat' (first|(refine shX ?_;first|refine qX he ?_)|(refine yj ?_;first|refine zy rfl (Qq zf rfl rfl (.inr ⟨rfl,rfl⟩) rfl rfl (bnd 200 zwy64 zwy69) zwy64) rfl rfl ?_|refine YF zf rfl rfl rfl rfl rfl rfl rfl (by show _ * 168<=_;rw [hkl];simp;omega) (by rw [hkl];simp;omega) rfl rfl ?_)|refine sK ?_|refine sC (fun _=>?_) (fun _=>?_)|fail)
     all_goals exact ⟨(k + 1,none),⟨hlt,by simp;omega⟩,tD,tS,⟨zA rfl (zA rfl (zA rfl (zA rfl (Zi rfl (VI hlt) zC)))),rfl⟩⟩
   | some u =>
    have hkk:k0 < k:=by simpa using ho.symm
    have hkl2:(((g.methods.take k).map zY).set k0 (zeh x u)).length=k:=by rw [List.length_set,hkl]
    unfold cpX
    repeat' (first|(refine shX ?_;first|refine qX he ?_)|(refine yj ?_;first|refine zy rfl (Qq zf rfl rfl (.inr ⟨rfl,rfl⟩) rfl rfl (bnd 200 zwy64 zwy69) zwy64) rfl rfl ?_|refine YF zf rfl rfl rfl rfl rfl rfl rfl (by show _ * 168<=_;rw [hkl2];simp;omega) (by rw [hkl2];simp;omega) rfl rfl ?_)|refine sK ?_|refine sC (fun _=>?_) (fun _=>?_)|fail)
    all_goals exact ⟨(k + 1,some u),⟨hlt,by simp;omega⟩,tD,tS,⟨zA rfl (zA rfl (zA rfl (zA rfl (Zi rfl (zsP hlt hkk) (zA rfl (aB zC)))))),rfl⟩⟩
  ·obtain rfl:k=g.methods.length:=by omega
   cases o with
   | none=>exact absurd ho zwy64
   | some u =>
    unfold cpX;rw [List.take_length]
    repeat' (first|refine sK ?_|refine sC (fun _=>?_) (fun _=>?_)|fail)
    exact ⟨u,.inr rfl,0,0,_,rfl,rfl,rfl,⟨by repeat (first|exact zC|refine aB ?_),rfl⟩⟩
abbrev zmK (op n:Int):PV:=.agg [pi op,pi n,pi 0,pi 0,pi 0,pb false]
abbrev vgH (g:Img) (s:VS) (k:Nat) (x:Me) (C:HE) (u:Value):HEnv:=[(0,.cell (.pv (.agg [.slc 1 (s.st.map tys) false,pi s.wk]))),(1,.cell (cpR g)),(10,.row 55 4 (g.types.map Zw)),(11,.row 82 7 (g.fields.map ZI)),(12,.mrow 36 12 ((g.methods.map zY).set k (zeh x u))),(13,C),(14,.pin (.own 13) u)]
theorem zuZ {g:Img} {k:Nat} {x:Me} {u:Value} {K:KK} {w:World} (h:PRel K w (.slc 6 ((yL x).code.map yM) false) u) :
  ztF K w ((g.methods.map zY).set k (zeh x u)) ((g.methods.set k (yL x)).map zY):=by
 refine ⟨by simp,fun i a b ha hb=>?_⟩;rw [List.map_set] at hb;rw [List.getElem?_set] at ha hb;by_cases e:k=i
 ·rw [if_pos e] at ha hb;split at ha
  ·rw [if_pos (by assumption)] at hb;simp only [Option.some.injEq] at ha hb;subst ha hb;refine ⟨rfl,fun j p q v h1 h2 hp=>?_⟩
   match j with
   | 0|1|2|3|4|5|6|7|8|9|11=>rw [show p=q from Option.some.inj (h1.symm.trans h2)] at hp;exact hp
   | 10 =>
    obtain rfl:PV.base u=p:=Option.some.inj h1;obtain rfl:PV.slc 6 ((yL x).code.map yM) false=q:=Option.some.inj h2;cases hp;exact h
   | j + 12=>cases h1
  ·cases ha
 ·rw [if_neg e] at ha hb;rw [ha,Option.some.injEq] at hb;subst hb;exact ⟨rfl,fun j p q v h1 h2 hp=>by rw [h1,Option.some.injEq] at h2;subst h2;exact hp⟩
theorem zuw {g:Img} (hx:OkA g) (k:Nat) (hk:k < g.methods.length) (hn:(g.methods[k]).code.length<=150):OkA (Xu g k (yL g.methods[k])):=by
 intro m' hm x hx';rw [Xu] at hm;rcases List.mem_or_eq_of_mem_set hm with h|h
 ·exact hx m' h x hx'
 ·subst h;simp only [yL,List.mem_append,List.mem_cons,List.not_mem_nil,or_false] at hx';rcases hx' with h|rfl|rfl
  ·exact hx _ (List.getElem_mem hk) x h
  ·simp [zda]
  ·simp only [zda];omega
theorem zwk83 {G:Prop} (h:G:=by repeat' (first|(have:=b0;refine ziT rfl hd ?_)|(have:=b1;refine zfr rfl hd ?_)|(have:=b2;refine zq rfl (ZG (xs:=s'.st) (f:=tys) 0 C.length zf rfl rfl rfl rfl rfl rfl rfl (Nat.zero_le _) hst2) rfl rfl ?_)|(refine shC ?_;first|(have:=b3;refine qC WL ?_)|(have:=b3;refine qC c1 ?_)|(have:=b4;refine qC c2 ?_)|(have:=b1;refine qC c4 ?_)|(have:=b2;refine qC c6 ?_)|(have:=b2;refine qC c7 ?_))|(refine shX ?_;first|(have:=b5;refine qX hp0 ?_)|(have:=b2;refine qX he1 ?_)|(have:=b2;refine zy rfl (ah hi2 he2) rfl rfl ?_)|(have:=b2;refine zq rfl (ah hi2 he2) rfl rfl ?_))|refine sK ?_|refine sC (fun _=>?_) (fun _=>?_)|exact retq rfl rfl|fail)):G:=h
set_option maxHeartbeats 1000000 in
theorem zgD (g:Img) (hx:OkA g) (m:Int):ACall Tryz.prog 3 [zK g,pi m] (pb true):=by
 have c1:=zlv g;have c2:=zlo g m;cases hv:zfU g
 ·rw [hv] at c1;cases h1:(zbJ g&&zaj g m)
  ·rw [h1] at c2;refine zh zf Tryz.func3 rfl zws Tryz.ntmps3 zwy63 _ rfl (fun hw gB hgB=>?_);have b3:=();have b4:=();exact zwk83
  ·rw [h1] at c2;have hlg:Vb g=false:=by
    cases hl:Vb g
    ·rfl
    ·simp [zfU,hl] at hv
   simp only [Bool.and_eq_true] at h1;obtain ⟨hw,hm⟩:=h1;have hc:(yY g).2=0:=by simpa [zbJ] using hw
   simp only [zaj,Bool.and_eq_true,decide_eq_true_eq] at hm;obtain ⟨⟨hm0,hm1⟩,hm2⟩:=hm;obtain ⟨k,rfl⟩:∃ k:Nat,m=(k:Int):=⟨m.toNat,by omega⟩
   have hk:k < g.methods.length:=by omega
   have hxm:mAt g k=g.methods[k]:=by rw [mAt,show ((k:Nat):Int).toNat=k from rfl,zQ hk]
   have hp0:(g.methods.map zY)[k]?=some (zY g.methods[k]):=zS hk;by_cases h150:150 < ((g.methods[k]).code.length:Int)
   ·have hd:decide ((150:Int) < ((((g.methods[k]).code.map yM).length:Nat):Int))=true:=decide_eq_true (by rw [List.length_map];exact h150);refine zh zf Tryz.func3 rfl zws Tryz.ntmps3 zwy63 _ rfl (fun hw gB hgB=>?_);have b0:=();have b3:=();have b4:=();have b5:=();exact zwk83
   ·have hd:decide ((150:Int) < ((((g.methods[k]).code.map yM).length:Nat):Int))=false:=decide_eq_false (by rw [List.length_map];exact h150);have c4:=zbL g hx k;have hV1:VR g k=QD g k:=by rw [VR,if_pos];simp [zbJ,zaj,hc,hm1,hm2]
    rw [hV1] at c4;cases hr:QD g k with
    | error e =>
     rw [hr] at c4;have hnz:(e.2 != 0)=true:=by simpa using zwf (hV1.trans hr)
     refine zh zf Tryz.func3 rfl zws Tryz.ntmps3 zwy63 _ rfl (fun hw gB hgB=>?_);have b1:=();have b3:=();have b4:=();have b5:=();exact zwk83
    | ok s =>
     rw [hr] at c4;obtain ⟨a1,a2,s',a3,a4,a5⟩:=zop hc hm0 hk hm2 (by rw [hxm];omega) hr;rw [hxm] at a1 a2 a3 a5 hm2;have c6:=zbL (Xu g k (yL g.methods[k])) (zuw hx k hk zwy62) k;have hV2:VR (Xu g k (yL g.methods[k])) k=.ok s':=by
      rw [VR,if_pos,a3];have e1:(Xu g k (yL g.methods[k])).methods.length=g.methods.length:=by simp [Xu]
      simp only [zbJ,zaj,a1,a2,e1,Bool.and_eq_true,decide_eq_true_eq];exact ⟨rfl,⟨hm0,hm1⟩,by simp [yL]⟩
     rw [hV2] at c6;have cC:=fun us:Nat->Value=>zlu g hlg k hk hm2
     obtain ⟨x,hxx⟩:∃ x,x=g.methods[k]:=⟨_,rfl⟩
     rw [<-hxx] at a5 c6 cC hd hp0 hm2 h150;have hl1:∀ u,k < ((g.methods.map zY).set k (zeh x u)).length:=fun u=>by rw [List.length_set,List.length_map];exact hk
     have hp1:∀ u,((g.methods.map zY).set k (zeh x u))[k]?=some (zeh x u):=fun u=>List.getElem?_set_self (by rw [List.length_map];exact hk)
     have hcl:(x.code.map yM).length=x.code.length:=List.length_map ..;have hCD:x.code.map yM++[zmK 1 0,zmK 34 (((x.code.map yM).length:Nat):Int)]=(yL x).code.map yM:=by simp [yL,yM,ty0]
     have q1:((((s'.st.map tys).length:Nat):Int)==IntKind.i64.wrap ((((x.code.map yM).length:Nat):Int) + 2))=true:=by
      rw [wrap_in zwy62 zwy62,List.length_map,a4,hcl];simp [a5]
     have e7:(s'.st.take (x.code.map yM).length).drop 0=s.st:=by rw [List.drop_zero,a4,hcl,<-a5,List.take_left]
     have c7:=zlO s.st;have c7:ACall Tryz.prog 10 [.slc 1 (((s'.st.take (x.code.map yM).length).drop 0).map tys) false,sts s.st] (pb true):=by rw [e7];exact c7
     have he1:(s'.st.map tys)[((((x.code.map yM).length:Nat):Int)).toNat]?=some (tys []):=by
      rw [Int.toNat_natCast,List.getElem?_map,a4,hcl,List.getElem?_append_right zwy62,a5,Nat.sub_self];rfl
     have hw2:IntKind.i64.wrap ((((x.code.map yM).length:Nat):Int) + 1)=((x.code.length + 1:Nat):Int):=by rw [hcl,wrap_in zwy62 zwy62];omega
     have he2:(s'.st.map tys)[(IntKind.i64.wrap ((((x.code.map yM).length:Nat):Int) + 1)).toNat]?=some (tys []):=by
      rw [hw2,Int.toNat_natCast,List.getElem?_map,a4,List.getElem?_append_right zwy62,a5,show x.code.length + 1 - x.code.length=1 by omega];rfl
     have hi2:0<=IntKind.i64.wrap ((((x.code.map yM).length:Nat):Int) + 1):=by rw [hw2];omega
     have hst2:(x.code.map yM).length<=s'.st.length:=by rw [hcl,a4];simp;omega
     have hC:(x.code.map yM).length<=150:=by omega
     refine zh zf Tryz.func3 rfl zws Tryz.ntmps3 zwy63 _ rfl (fun hw gB hgB=>?_)
     repeat' (first|refine zfr rfl hd ?_|refine zy rfl (au (k:=k) (j:=10) (hp1 u)) rfl rfl ?_|refine zq rfl (au (k:=k) (j:=10) (hp1 u)) rfl rfl ?_|refine sM ?_|refine zy rfl (zvT 49 14 rfl rfl (zoG zf rfl rfl rfl rfl)) rfl rfl ?_|refine zrt 10 [(1,.pv (pi k)),(5,.box 0 0),(8,.box 1 0),(9,.pv (pi (((x.code.map yM).length:Nat):Int)))] (vgH g s k x (.mrow 45 6 (x.code.map yM)) u) rfl rfl tS tH ?_|(refine shC ?_;first|refine qC WL ?_|refine qC c1 ?_|refine qC c2 ?_|refine qC c4 ?_)|(refine shX ?_;first|refine qX hp0 ?_|refine zy rfl (aA (k:=k) (hl1 u)) rfl rfl ?_|refine zq rfl (aA (k:=k) (hl1 u)) rfl rfl ?_)|(refine zu ?_;first|refine zoq [] (fun u=>cpA g k x u) [(0,.cell (.pv (.agg [.slc 1 (s.st.map tys) false,pi s.wk])))] [(1,.pv (pi k)),(5,.box 0 0)] [] (fun e=>by cases e) rfl rfl rfl zwy67 tS rfl rfl (fun _=>rfl) cC (fun u=>?_))|refine sK ?_|refine sC (fun _=>?_) (fun _=>?_)|fail)
     refine zkA zws ?_;generalize hCC:x.code.map yM=C at *;refine zcE 17 14 [13] [] (mkL [vgH g s k x (.mrow 45 6 C) u,(15,.mrow 45 6 (C++[zmK 1 0,zmK 34 ((C.length:Nat):Int)]))::(13,.dead)::vgH g s k x (.mrow 45 6 C) u]) (mkL [vgH g s k x .dead u,(15,.dead)::vgH g s k x .dead u]) (vgH g s k x .dead u) none rfl zws zws zws zws zws zws (fun p hp=>by simp at hp) rfl (zd0 (i:=13) rfl ⟨tH,tH,trivial⟩) rfl (YU rfl rfl) (fun q h=>by have:q=0\/q=1:=(by simp at h;omega);rcases this with rfl|rfl <;> rfl) tH rfl (fun v hv=>by cases hv) ?_
     repeat' (first|refine Yp 13 [] (.own 15) rfl rfl rfl rfl rfl ?_|refine ⟨⟨rfl,zl3 (zlx 59 14 rfl rfl rfl (zjb (es:=C) (xs:=[zmK 1 0,zmK 34 ((C.length:Nat):Int)]) zf 15 rfl rfl rfl rfl rfl rfl rfl (bnd 200 (by show C.length + 2<=200;omega) zwy69) (by show C.length + 2<=_;omega))) rfl rfl,.inr zws⟩,?_⟩|refine Qu ?_|intro _|refine WR ?_|refine zsB 64 16 rfl rfl rfl (fun u2=>?_)|refine zy rfl (au (k:=k) (j:=10) (hp1 u)) rfl rfl ?_|refine zq rfl (au (k:=k) (j:=10) (hp1 u)) rfl rfl ?_|refine sM ?_|refine zh2 (es:=C++[zmK 1 0,zmK 34 ((C.length:Nat):Int)]) 15 rfl hCD ?_|refine Wv (es:=(yL x).code.map yM) 15 rfl ?_|refine zmk (es:=(yL x).code.map yM) 15 16 rfl rfl ?_|refine zp5 (es:=((g.methods.map zY).set k (zeh x u)).set k (zeh x u2)) (ds:=(g.methods.set k (yL x)).map zY) (p:=.slc 6 ((yL x).code.map yM) false) (u:=u2) 12 16 rfl rfl (fun K w h=>by rw [List.set_set];exact zuZ h) ?_|refine Wv (es:=(g.methods.set k (yL x)).map zY) 12 rfl ?_|(refine shX ?_;first|refine zy rfl (aA (k:=k) (hl1 u)) rfl rfl ?_|refine zq rfl (aA (k:=k) (hl1 u)) rfl rfl ?_)|(refine Yb ?_;first|refine XB (k:=k) (j:=10) zf rfl rfl rfl rfl rfl (hp1 u) rfl rfl rfl rfl rfl ?_)|refine sK ?_|refine sC (fun _=>?_) (fun _=>?_)|fail)
     rw [show Xu g (k:Int) (yL x)={ g with methods:=g.methods.set k (yL x) } from rfl] at c6;have b2:=();exact zwk83
 ·rw [hv] at c1;refine zh zf Tryz.func3 rfl zws Tryz.ntmps3 zwy63 _ rfl (fun hw gB hgB=>?_);have b3:=();exact zwk83
end Go.Cg
