/- A part of the walks by abstract values: no statement of its own. -/
import Derived.Test.YtmgdpkcmbnlklaaGreatA17
import Derived.Test.YtmgdpkcmbnlklaaGreatA7
import Derived.Test.YtmgdpkcmbnlklaaGreatA9
import Derived.Test.YtmgdpkcmbnlklaaGreatA11
import Derived.Test.YtmgdpkcmbnlklaaGreatA8
import Derived.Test.YtmgdpkcmbnlklaaGreatA12
set_option linter.unusedVariables false
set_option linter.unusedSimpArgs false
namespace Go.Cg
open Go.Proofs
set_option maxHeartbeats 20000000
def u8s (l:List Int):PV:=.slc 1 (l.map fun n=>.base (.int .u8 n)) false
theorem zj7 (n:Int) (h0:0≤n) (h1:n≤128):ACall Tryz.prog 160 [pi n] (pi (if n < 128 then 1 else 2)):=by
 refine zf zk Tryz.func160 rfl (by kernel_rfl) Tryz.ntmps160 (by simp) _ rfl (fun hw gB hgB=>?_)
 by_cases h:n < 128
 ·repeat' (first|refine sK ?_|refine sC (fun _=>?_) (fun _=>?_)|fail)
  exact retq rfl (by simp [zl,h])
 ·repeat' (first|refine sK ?_|refine sC (fun _=>?_) (fun _=>?_)|fail)
  exact retq rfl (by simp [zl,h])
theorem zjW (r:Int) (h0:1≤r) (h1:r≤32):ACall Tryz.prog 139 [pi 0,pi r] (.tup [pi (4 * r),pi 0]):=by
 refine zf zk Tryz.func139 rfl (by kernel_rfl) Tryz.ntmps139 (by simp) _ rfl (fun hw gB hgB=>?_)
 have hfin:∀ n:Fin 33,IntKind.i64.wrap ((BitVec.ofInt IntKind.i64.bits (IntKind.i64.wrap ((n.val:Int) * 2 ^ (min (Int.toNat 2) IntKind.i64.bits))) ||| BitVec.ofInt IntKind.i64.bits 0).toNat:Int)=4 * (n.val:Int):=by decide +kernel
 have hr:=hfin ⟨r.toNat,by omega⟩
 simp only [Int.toNat_of_nonneg (show 0≤r by omega)] at hr
 repeat' (first|refine zy rfl (zmb rfl rfl rfl (by decide)) rfl rfl ?_|refine sK ?_|refine sC (fun _=>?_) (fun _=>?_)|fail)
 exact retq rfl (by simp only [zl,hr])
theorem zcy (l:List Int) (hne:l≠[]) (hb:l.length≤100000):ACallR Tryz.prog 161 [u8s l] 5 1 (l.map fun n=>.base (.int .u8 n)):=by
 refine za4 (t:=2) Tryz.func161 rfl (by kernel_rfl) Tryz.ntmps161 (by simp) rfl (fun hw gB hgB=>?_)
 repeat' (first|refine zg1 zk rfl rfl rfl rfl rfl rfl rfl (fun bb hbb=>?_)|refine zy rfl (zg7 zk rfl rfl rfl rfl rfl) rfl rfl ?_|(refine yC ?_;first|refine YM 0 zk rfl rfl rfl (.inl rfl) rfl (by have:=List.length_pos_iff.2 hne;simpa using this) rfl (by show _ * 1≤_;simp;omega) (by simp;omega) rfl rfl rfl ?_)|refine sA ?_|refine sC (fun _=>?_) (fun _=>?_)|fail)
 ·rename_i hx
  exact (hne (by simpa using hbb hx)).elim
 ·exact ⟨.inr rfl,0,rfl,rfl⟩
def byteOf (X i:Int):Int:=IntKind.u8.wrap (X.fdiv (2 ^ (min (IntKind.i64.wrap (8 * i)).toNat IntKind.u32.bits)))
def bytesOf (X:Int) (k:Nat):List Int:=(List.range k).map fun m=>byteOf X ((k:Int) - 1 - (m:Nat))
abbrev u8c (n:Int):PV:=.base (.int .u8 n)
theorem zbl {X:Int} {k m:Nat} (h:m < k):(bytesOf X k).take (m + 1)=(bytesOf X k).take m++[byteOf X ((k:Int) - 1 - (m:Nat))]:=by
 have hl:m < (bytesOf X k).length:=by simpa [bytesOf] using h
 rw [List.take_succ_eq_append_getElem hl]
 simp [bytesOf]
theorem zcv {X:Int} {k:Nat}:(bytesOf X k).take k=bytesOf X k:=List.take_of_length_le (by simp [bytesOf])
theorem ze9 (l:List Int) (hne:l≠[]) (hb:l.length≤1000) (n:Int) (h0:0≤n) (h1:n≤128):∃ bs:List Int,ACall Tryz.prog 140 [u8s l,pi n] (.tup [u8s (l++bs),pi 0]):=by
 have c1:=zj7 n h0 (by omega)
 by_cases hn:n < 128
 ·rw [if_pos hn] at c1
  obtain ⟨X,hX⟩:∃ X,IntKind.u32.wrap ((BitVec.ofInt IntKind.u32.bits (IntKind.u32.wrap n) ||| BitVec.ofInt IntKind.u32.bits 0).toNat:Int)=X:=⟨_,rfl⟩
  refine ⟨bytesOf X 1,?_⟩
  refine zf zk Tryz.func140 rfl (by kernel_rfl) Tryz.ntmps140 (by simp) _ rfl (fun hw gB hgB=>?_)
  repeat' (first|refine zy rfl (zcI [(2,.int .u32 32768),(4,.int .u32 3221225472)] zk rfl rfl rfl rfl rfl rfl rfl) rfl rfl ?_|refine zy rfl (zhi 1 zk rfl rfl rfl rfl rfl rfl rfl rfl) rfl rfl ?_|refine zgw 0 rfl rfl rfl (zcy l hne (by omega)) (by decide) rfl rfl rfl ?_|(refine shC ?_;first|refine qC c1 ?_)|refine sK ?_|refine sC (fun _=>?_) (fun _=>?_)|fail)
  refine zI (fun m:Nat=>[(7,.pv (.base (.int .u32 X))),(8,.own 0),(9,.pv (pi (((1:Nat):Int) - 1 - (m:Nat))))]) (fun m=>[(0,.row 5 1 ((l++(bytesOf X 1).take m).map u8c))]) (fun m=>m≤1) (fun m=>1 - m) 0 (by omega) (by repeat (first|exact qO|refine qE rfl ?_|(refine Xl rfl ?_ ?_;· first|exact hX|rfl))) ⟨Zv rfl (by simp) zi,rfl⟩ ?_
  rintro m hm
  by_cases hlt:m < 1
  ·have hs0:0≤IntKind.i64.wrap (8 * (((1:Nat):Int) - 1 - (m:Nat))):=by rw [wrap_in (by omega) (by omega)];omega
   repeat' (first|refine zy rfl (zmn rfl rfl rfl hs0) rfl rfl ?_|(refine yC ?_;first|refine qw zk rfl rfl rfl rfl rfl rfl rfl (by show _ * 1≤_;simp [bytesOf];omega) (by simp [bytesOf];omega) rfl rfl ?_)|refine sK ?_|refine sC (fun _=>?_) (fun _=>?_)|fail)
   exact ⟨m + 1,hlt,tD,by repeat (first|exact qO|refine qE rfl ?_|(refine Xl rfl ?_ ?_;· (rw [wrap_in (by omega) (by omega)];omega))),⟨Zv rfl (by rw [zbl hlt];simp [byteOf]) zi,rfl⟩⟩
  ·have:m=1:=by omega
   subst this
   repeat' (first|refine sK ?_|refine sC (fun _=>?_) (fun _=>?_)|fail)
   exact retq rfl (by rw [zcv];rfl)
 ·rw [if_neg hn] at c1
  obtain rfl:n=128:=by omega
  obtain ⟨X,hX⟩:∃ X,IntKind.u32.wrap ((BitVec.ofInt IntKind.u32.bits (IntKind.u32.wrap 128) ||| BitVec.ofInt IntKind.u32.bits 32768).toNat:Int)=X:=⟨_,rfl⟩
  refine ⟨bytesOf X 2,?_⟩
  refine zf zk Tryz.func140 rfl (by kernel_rfl) Tryz.ntmps140 (by simp) _ rfl (fun hw gB hgB=>?_)
  repeat' (first|refine zy rfl (zcI [(2,.int .u32 32768),(4,.int .u32 3221225472)] zk rfl rfl rfl rfl rfl rfl rfl) rfl rfl ?_|refine zy rfl (zhi 2 zk rfl rfl rfl rfl rfl rfl rfl rfl) rfl rfl ?_|refine zgw 0 rfl rfl rfl (zcy l hne (by omega)) (by decide) rfl rfl rfl ?_|(refine shC ?_;first|refine qC c1 ?_)|refine sK ?_|refine sC (fun _=>?_) (fun _=>?_)|fail)
  refine zI (fun m:Nat=>[(7,.pv (.base (.int .u32 X))),(8,.own 0),(9,.pv (pi (((2:Nat):Int) - 1 - (m:Nat))))]) (fun m=>[(0,.row 5 1 ((l++(bytesOf X 2).take m).map u8c))]) (fun m=>m≤2) (fun m=>2 - m) 0 (by omega) (by repeat (first|exact qO|refine qE rfl ?_|(refine Xl rfl ?_ ?_;· first|exact hX|rfl))) ⟨Zv rfl (by simp) zi,rfl⟩ ?_
  rintro m hm
  by_cases hlt:m < 2
  ·have hs0:0≤IntKind.i64.wrap (8 * (((2:Nat):Int) - 1 - (m:Nat))):=by rw [wrap_in (by omega) (by omega)];omega
   have hge:decide (0≤((2:Nat):Int) - 1 - (m:Nat))=true:=by simp;omega
   repeat' (first|refine zy rfl (zmn rfl rfl rfl hs0) rfl rfl ?_|(refine yC ?_;first|refine qw zk rfl rfl rfl rfl rfl rfl rfl (by show _ * 1≤_;simp [bytesOf];omega) (by simp [bytesOf];omega) rfl rfl ?_)|refine sK ?_|refine sC (fun _=>?_) (fun _=>?_)|fail)
   exact ⟨m + 1,hlt,tD,by repeat (first|exact qO|refine qE rfl ?_|(refine Xl rfl ?_ ?_;· (rw [wrap_in (by omega) (by omega)];omega))),⟨Zv rfl (by rw [zbl hlt];simp [byteOf]) zi,rfl⟩⟩
  ·have:m=2:=by omega
   subst this
   repeat' (first|refine sK ?_|refine sC (fun _=>?_) (fun _=>?_)|fail)
   exact retq rfl (by rw [zcv];rfl)
set_option maxHeartbeats 20000000
abbrev zga (l:List Int):PV:=.slc 1 (l.map fun n=>.base (.int .u8 n)) true
theorem zb1 (k b i d:Int) (hk:k=2∧b=8∨k=3∧b=10∨k=4∧b=28) (hd:d=0∨d=1∨d=2∨d=3):ACall Tryz.prog 118 [zga [6],yZ ⟨k,i,d,false⟩] (u8s (6::(List.replicate d.toNat 29++[b]))):=by
 have c1:=WZ 29 d (by omega) (by omega)
 rcases hd with rfl|rfl|rfl|rfl
 all_goals rcases hk with ⟨rfl,rfl⟩|⟨rfl,rfl⟩|⟨rfl,rfl⟩
 all_goals
  refine zf zk Tryz.func118 rfl (by kernel_rfl) Tryz.ntmps118 (by simp) _ rfl (fun hw gB hgB=>?_)
  repeat' (first|(refine shC ?_;first|refine qC c1 ?_)|(refine yC ?_;first|refine zy rfl (zbY zk rfl rfl rfl rfl rfl) rfl rfl ?_|refine qw zk rfl rfl rfl rfl rfl rfl rfl (by show _ * 1≤_;simp [List.replicate]) (by simp [List.replicate]) rfl rfl ?_|refine YM 0 zk rfl rfl rfl (.inl rfl) rfl (by simp [List.replicate]) rfl (by show _ * 1≤_;simp [List.replicate]) (by simp [List.replicate]) rfl rfl rfl ?_)|refine sA ?_|refine sC (fun _=>?_) (fun _=>?_)|fail)
  exact retq rfl rfl
theorem zjS (i d:Int) (hi0:0≤i) (hi1:i≤7) (hd:d=0∨d=1∨d=2∨d=3):∃ bs:List Int,ACall Tryz.prog 118 [zga [6],yZ ⟨7,i,d,false⟩] (u8s bs):=by
 have c1:=WZ 29 d (by omega) (by omega)
 obtain ⟨bs,cp⟩:=ze9 (6::(List.replicate d.toNat 29++[19])) (by simp) (by simp;omega) i hi0 (by omega)
 refine ⟨6::(List.replicate d.toNat 29++[19])++bs,?_⟩
 have hneg:decide (i < 0)=false:=by simp;omega
 rcases hd with rfl|rfl|rfl|rfl
 all_goals
  refine zf zk Tryz.func118 rfl (by kernel_rfl) Tryz.ntmps118 (by simp) _ rfl (fun hw gB hgB=>?_)
  repeat' (first|(refine shC ?_;first|refine qC c1 ?_|refine qC cp ?_)|(refine yC ?_;first|refine zy rfl (zbY zk rfl rfl rfl rfl rfl) rfl rfl ?_|refine qw zk rfl rfl rfl rfl rfl rfl rfl (by show _ * 1≤_;simp [List.replicate]) (by simp [List.replicate]) rfl rfl ?_|refine YM 0 zk rfl rfl rfl (.inl rfl) rfl (by simp [List.replicate]) rfl (by show _ * 1≤_;simp [List.replicate]) (by simp [List.replicate]) rfl rfl rfl ?_)|refine sK ?_|refine sC (fun _=>?_) (fun _=>?_)|fail)
  exact retq rfl rfl
theorem zfa (k b i d:Int) (hk:k=5∧b=18∨k=6∧b=17) (hi0:0≤i) (hi1:i≤31) (hd:d=0∨d=1∨d=2∨d=3):∃ bs:List Int,ACall Tryz.prog 118 [zga [6],yZ ⟨k,i,d,false⟩] (u8s bs):=by
 have c1:=WZ 29 d (by omega) (by omega)
 obtain ⟨bs,cp⟩:=ze9 (6::(List.replicate d.toNat 29++[b])) (by simp) (by simp;omega) (4 * (i + 1)) (by omega) (by omega)
 have hw:IntKind.i64.wrap (i + 1)=i + 1:=wrap_in (by omega) (by omega)
 have cc:=zjW (i + 1) (by omega) (by omega)
 rw [←hw] at cc
 have hneg:decide (4 * IntKind.i64.wrap (i + 1) < 0)=false:=by rw [hw];simp;omega
 rw [show 4 * (i + 1)=4 * IntKind.i64.wrap (i + 1) by rw [hw]] at cp
 refine ⟨6::(List.replicate d.toNat 29++[b])++bs,?_⟩
 rcases hd with rfl|rfl|rfl|rfl
 all_goals rcases hk with ⟨rfl,rfl⟩|⟨rfl,rfl⟩
 all_goals
  refine zf zk Tryz.func118 rfl (by kernel_rfl) Tryz.ntmps118 (by simp) _ rfl (fun hw gB hgB=>?_)
  repeat' (first|(refine shC ?_;first|refine qC c1 ?_|refine qC cp ?_|refine qC cc ?_)|(refine yC ?_;first|refine zy rfl (zbY zk rfl rfl rfl rfl rfl) rfl rfl ?_|refine qw zk rfl rfl rfl rfl rfl rfl rfl (by show _ * 1≤_;simp [List.replicate]) (by simp [List.replicate]) rfl rfl ?_|refine YM 0 zk rfl rfl rfl (.inl rfl) rfl (by simp [List.replicate]) rfl (by show _ * 1≤_;simp [List.replicate]) (by simp [List.replicate]) rfl rfl rfl ?_)|refine sK ?_|refine sC (fun _=>?_) (fun _=>?_)|fail)
  exact retq rfl rfl
set_option maxHeartbeats 20000000
theorem zkf (t:Ty) (h:Zw t 1=true):∃ bs:List Int,ACall Tryz.prog 118 [zga [6],yZ t] (u8s bs):=by
 obtain ⟨k,i,d,r⟩:=t
 have hr:r=false:=by
  cases r with
  | false=>rfl
  | true=>simp [Zw] at h
 subst hr
 have hp:Yy ⟨k,i,d,false⟩=true∧k≠1:=by
  simp only [Zw] at h
  cases hp:Yy ⟨k,i,d,false⟩ with
  | false=>rw [hp] at h;simp at h
  | true=>rw [hp] at h;simp at h;exact ⟨rfl,h⟩
 obtain ⟨hp,hk1⟩:=hp
 simp only [Yy] at hp
 split at hp
 ·simp at hp
 ·rename_i hb
  simp at hb
  have hd:d=0∨d=1∨d=2∨d=3:=by omega
  by_cases h2:k=2
  ·exact ⟨_,zb1 k 8 i d (.inl ⟨h2,rfl⟩) hd⟩
  ·by_cases h3:k=3
   ·exact ⟨_,zb1 k 10 i d (.inr (.inl ⟨h3,rfl⟩)) hd⟩
   ·by_cases h4:k=4
    ·exact ⟨_,zb1 k 28 i d (.inr (.inr ⟨h4,rfl⟩)) hd⟩
    ·by_cases h5:k=5
     ·exact zfa k 18 i d (.inl ⟨h5,rfl⟩) (by omega) (by simp [h5] at hp;omega) hd
     ·by_cases h6:k=6
      ·exact zfa k 17 i d (.inr ⟨h6,rfl⟩) (by omega) (by simp [h6] at hp;omega) hd
      ·by_cases h7:k=7
       ·subst h7
        exact zjS i d (by omega) (by simp at hp;omega) hd
       ·simp [hk1,h2,h3,h4,h5,h6,h7] at hp
theorem zbA (t:Ty) (h:Zw t 1=false):ACall Tryz.prog 102 [yZ t] (.tup [.base (.slice none 0 0),pi 17]):=by
 refine zf zk Tryz.func102 rfl (by kernel_rfl) Tryz.ntmps102 (by simp) _ rfl (fun hw gB hgB=>?_)
 have c1:=zcL t
 rw [h] at c1
 repeat' (first|(refine shC ?_;first|refine qC c1 ?_)|refine sA ?_|refine sC (fun _=>?_) (fun _=>?_)|fail)
 exact retq rfl rfl
theorem zeF (t:Ty) (h:Zw t 1=true):∃ bs:List Int,ACall Tryz.prog 102 [yZ t] (.tup [u8s bs,pi 0]):=by
 obtain ⟨bs,cp⟩:=zkf t h
 refine ⟨bs,?_⟩
 refine zf zk Tryz.func102 rfl (by kernel_rfl) Tryz.ntmps102 (by simp) _ rfl (fun hw gB hgB=>?_)
 have c1:=zcL t
 rw [h] at c1
 repeat' (first|(refine shC ?_;first|refine qC c1 ?_|refine qC cp ?_)|refine sA ?_|refine sC (fun _=>?_) (fun _=>?_)|fail)
 exact retq rfl rfl
theorem Vr (t:Ty) (n:Int):ACall Tryz.prog 92 [yZ t,pi n] (pb (Qv t 1 n)):=by
 refine zf zk Tryz.func92 rfl (by kernel_rfl) Tryz.ntmps92 (by simp) _ rfl (fun hw gB hgB=>?_)
 cases h:Zw t 1
 ·repeat' (first|(refine shC ?_;first|refine qC (zbA t h) ?_|refine qC (XQ t n) ?_)|refine sA ?_|refine sC (fun _=>?_) (fun _=>?_)|fail)
  all_goals (refine retq rfl ?_;simp_all [zl,Qv];done)
 ·obtain ⟨bs,cp⟩:=zeF t h
  repeat' (first|(refine shC ?_;first|refine qC cp ?_|refine qC (XQ t n) ?_)|refine sA ?_|refine sC (fun _=>?_) (fun _=>?_)|fail)
  all_goals (refine retq rfl ?_;simp_all [zl,Qv];done)
theorem zgn (c:Cl) (g:Img):ACall Tryz.prog 113 [QY c,pi (g.types.length:Nat)] (pb (YT g c)):=by
 refine zf zk Tryz.func113 rfl (by kernel_rfl) Tryz.ntmps113 (by simp) _ rfl (fun hw gB hgB=>?_)
 by_cases hk:c.kind=1
 ·have hb:(c.kind != 1)=false:=by simp [hk]
  repeat' (first|(refine shC ?_;first|refine qC (Vr _ _) ?_)|refine sK ?_|refine sC (fun _=>?_) (fun _=>?_)|fail)
  exact retq rfl (by simp [zl,YT,hk])
 ·have hb:(c.kind != 1)=true:=by simp [hk]
  repeat' (first|(refine shC ?_;first|refine qC (Vr _ _) ?_)|refine sK ?_|refine sC (fun _=>?_) (fun _=>?_)|fail)
  have h1:(c.kind==1)=false:=by simp [hk]
  exact retq rfl (by simp only [zl,YT,h1,hb,zbb];simp)
set_option maxHeartbeats 20000000
def zhf (l:List Ty) (p:Ty→Bool):Int:=if l.any p then ((l.findIdx p:Nat):Int) else -1
theorem zbJ (l:List Ty) (p:Ty→Bool) (f:FuncId) (first cap:List PV) (hp:∀ x∈l,ACall Tryz.prog f (first++[yZ x]++cap) (pb (p x))):ACall Tryz.prog 119 [.slc 4 (l.map yZ) false,.fn (.func f) first cap] (pi (zhf l p)):=by
 refine zf zk Tryz.func119 rfl (by kernel_rfl) Tryz.ntmps119 (by simp) _ rfl (fun hw gB hgB=>?_)
 have hl:l.length≤9223372036854775807:=by have:=hw.1;simp [PV.lenOk,lensOk,maxLen] at this;exact this.1
 repeat' (first|refine sA ?_|refine sC (fun _=>?_) (fun _=>?_)|fail)
 refine zI (fun k:Nat=>[(0,.pv (.slc 4 (l.map yZ) false)),(1,.pv (.fn (.func f) first cap)),(7,.pv (pi l.length)),(8,.pv (pi k))]) (fun _=>[]) (fun k=>k≤l.length∧∀ j (h:j < k) (h2:j < l.length),p l[j]=false) (fun k=>l.length - k) 0 ⟨by omega,fun j h=>by omega⟩ (tS) tH ?_
 rintro k ⟨hk,hno⟩
 by_cases hlt:k < l.length
 ·have he:=qQ (f:=yZ) hlt
  have c1:=hp _ (List.getElem_mem hlt)
  cases hpx:p l[k]
  ·rw [hpx] at c1
   repeat' (first|(refine shC ?_;first|refine qV (c1) ?_)|(refine shX ?_;first|refine qX he ?_)|refine sK ?_|refine sC (fun _=>?_) (fun _=>?_)|fail)
   exact ⟨k + 1,⟨hlt,fun j hj h2=>by
    by_cases e:j=k
    ·subst e;exact hpx
    ·exact hno j (by omega) h2⟩,tD,tS,tH⟩
  ·rw [hpx] at c1
   have hi:l.findIdx p=k:=by
    rw [List.findIdx_eq hlt]
    exact ⟨hpx,fun j hj=>hno j hj (by omega)⟩
   have ha:l.any p=true:=List.any_eq_true.2 ⟨_,List.getElem_mem hlt,hpx⟩
   repeat' (first|(refine shC ?_;first|refine qV (c1) ?_)|(refine shX ?_;first|refine qX he ?_)|refine sK ?_|refine sC (fun _=>?_) (fun _=>?_)|fail)
   exact retq rfl (by simp [zl,zhf,ha,hi])
 ·have ha:l.any p=false:=by
   rw [List.any_eq_false]
   intro x hx
   obtain ⟨j,hj,rfl⟩:=List.getElem_of_mem hx
   simp [hno j (by omega) hj]
  repeat' (first|refine sK ?_|refine sC (fun _=>?_) (fun _=>?_)|fail)
  exact retq rfl (by simp [zl,zhf,ha])
theorem Qi (l:List Ty) (p:Ty→Bool) (f:FuncId) (first cap:List PV) (hp:∀ x∈l,ACall Tryz.prog f (first++[yZ x]++cap) (pb (p x))):ACall Tryz.prog 107 [.slc 4 (l.map yZ) false,.fn (.func f) first cap] (pb (l.any p)):=by
 refine zf zk Tryz.func107 rfl (by kernel_rfl) Tryz.ntmps107 (by simp) _ rfl (fun hw gB hgB=>?_)
 have c1:=zbJ l p f first cap hp
 repeat' (first|(refine shC ?_;first|refine qC c1 ?_)|refine sA ?_|refine sC (fun _=>?_) (fun _=>?_)|fail)
 refine retq rfl ?_
 have:decide (0≤zhf l p)=l.any p:=by
  unfold zhf
  cases h:l.any p <;> simp
 simp [zl,this]
def zdE (l:List Ins) (p:Ins→Bool):Int:=if l.any p then ((l.findIdx p:Nat):Int) else -1
theorem za2 (l:List Ins) (p:Ins→Bool) (f:FuncId) (first cap:List PV) (hp:∀ x∈l,ACall Tryz.prog f (first++[YU x]++cap) (pb (p x))):ACall Tryz.prog 120 [.slc 6 (l.map YU) false,.fn (.func f) first cap] (pi (zdE l p)):=by
 refine zf zk Tryz.func120 rfl (by kernel_rfl) Tryz.ntmps120 (by simp) _ rfl (fun hw gB hgB=>?_)
 have hl:l.length≤9223372036854775807:=by have:=hw.1;simp [PV.lenOk,lensOk,maxLen] at this;exact this.1
 repeat' (first|refine sA ?_|refine sC (fun _=>?_) (fun _=>?_)|fail)
 refine zI (fun k:Nat=>[(0,.pv (.slc 6 (l.map YU) false)),(1,.pv (.fn (.func f) first cap)),(7,.pv (pi l.length)),(8,.pv (pi k))]) (fun _=>[]) (fun k=>k≤l.length∧∀ j (h:j < k) (h2:j < l.length),p l[j]=false) (fun k=>l.length - k) 0 ⟨by omega,fun j h=>by omega⟩ (tS) tH ?_
 rintro k ⟨hk,hno⟩
 by_cases hlt:k < l.length
 ·have he:=qQ (f:=YU) hlt
  have c1:=hp _ (List.getElem_mem hlt)
  cases hpx:p l[k]
  ·rw [hpx] at c1
   repeat' (first|(refine shC ?_;first|refine qV (c1) ?_)|(refine shX ?_;first|refine qX he ?_)|refine sK ?_|refine sC (fun _=>?_) (fun _=>?_)|fail)
   exact ⟨k + 1,⟨hlt,fun j hj h2=>by
    by_cases e:j=k
    ·subst e;exact hpx
    ·exact hno j (by omega) h2⟩,tD,tS,tH⟩
  ·rw [hpx] at c1
   have hi:l.findIdx p=k:=by
    rw [List.findIdx_eq hlt]
    exact ⟨hpx,fun j hj=>hno j hj (by omega)⟩
   have ha:l.any p=true:=List.any_eq_true.2 ⟨_,List.getElem_mem hlt,hpx⟩
   repeat' (first|(refine shC ?_;first|refine qV (c1) ?_)|(refine shX ?_;first|refine qX he ?_)|refine sK ?_|refine sC (fun _=>?_) (fun _=>?_)|fail)
   exact retq rfl (by simp [zl,zdE,ha,hi])
 ·have ha:l.any p=false:=by
   rw [List.any_eq_false]
   intro x hx
   obtain ⟨j,hj,rfl⟩:=List.getElem_of_mem hx
   simp [hno j (by omega) hj]
  repeat' (first|refine sK ?_|refine sC (fun _=>?_) (fun _=>?_)|fail)
  exact retq rfl (by simp [zl,zdE,ha])
theorem Vz (l:List Ins) (p:Ins→Bool) (f:FuncId) (first cap:List PV) (hp:∀ x∈l,ACall Tryz.prog f (first++[YU x]++cap) (pb (p x))):ACall Tryz.prog 108 [.slc 6 (l.map YU) false,.fn (.func f) first cap] (pb (l.any p)):=by
 refine zf zk Tryz.func108 rfl (by kernel_rfl) Tryz.ntmps108 (by simp) _ rfl (fun hw gB hgB=>?_)
 have c1:=za2 l p f first cap hp
 repeat' (first|(refine shC ?_;first|refine qC c1 ?_)|refine sA ?_|refine sC (fun _=>?_) (fun _=>?_)|fail)
 refine retq rfl ?_
 have:decide (0≤zdE l p)=l.any p:=by
  unfold zdE
  cases h:l.any p <;> simp
 simp [zl,this]
def zgL (l:List Cl) (p:Cl→Bool):Int:=if l.any p then ((l.findIdx p:Nat):Int) else -1
theorem zbZ (l:List Cl) (p:Cl→Bool) (f:FuncId) (first cap:List PV) (hp:∀ x∈l,ACall Tryz.prog f (first++[QY x]++cap) (pb (p x))):ACall Tryz.prog 123 [.slc 10 (l.map QY) false,.fn (.func f) first cap] (pi (zgL l p)):=by
 refine zf zk Tryz.func123 rfl (by kernel_rfl) Tryz.ntmps123 (by simp) _ rfl (fun hw gB hgB=>?_)
 have hl:l.length≤9223372036854775807:=by have:=hw.1;simp [PV.lenOk,lensOk,maxLen] at this;exact this.1
 repeat' (first|refine sA ?_|refine sC (fun _=>?_) (fun _=>?_)|fail)
 refine zI (fun k:Nat=>[(0,.pv (.slc 10 (l.map QY) false)),(1,.pv (.fn (.func f) first cap)),(7,.pv (pi l.length)),(8,.pv (pi k))]) (fun _=>[]) (fun k=>k≤l.length∧∀ j (h:j < k) (h2:j < l.length),p l[j]=false) (fun k=>l.length - k) 0 ⟨by omega,fun j h=>by omega⟩ (tS) tH ?_
 rintro k ⟨hk,hno⟩
 by_cases hlt:k < l.length
 ·have he:=qQ (f:=QY) hlt
  have c1:=hp _ (List.getElem_mem hlt)
  cases hpx:p l[k]
  ·rw [hpx] at c1
   repeat' (first|(refine shC ?_;first|refine qV (c1) ?_)|(refine shX ?_;first|refine qX he ?_)|refine sK ?_|refine sC (fun _=>?_) (fun _=>?_)|fail)
   exact ⟨k + 1,⟨hlt,fun j hj h2=>by
    by_cases e:j=k
    ·subst e;exact hpx
    ·exact hno j (by omega) h2⟩,tD,tS,tH⟩
  ·rw [hpx] at c1
   have hi:l.findIdx p=k:=by
    rw [List.findIdx_eq hlt]
    exact ⟨hpx,fun j hj=>hno j hj (by omega)⟩
   have ha:l.any p=true:=List.any_eq_true.2 ⟨_,List.getElem_mem hlt,hpx⟩
   repeat' (first|(refine shC ?_;first|refine qV (c1) ?_)|(refine shX ?_;first|refine qX he ?_)|refine sK ?_|refine sC (fun _=>?_) (fun _=>?_)|fail)
   exact retq rfl (by simp [zl,zgL,ha,hi])
 ·have ha:l.any p=false:=by
   rw [List.any_eq_false]
   intro x hx
   obtain ⟨j,hj,rfl⟩:=List.getElem_of_mem hx
   simp [hno j (by omega) hj]
  repeat' (first|refine sK ?_|refine sC (fun _=>?_) (fun _=>?_)|fail)
  exact retq rfl (by simp [zl,zgL,ha])
theorem zae (l:List Cl) (p:Cl→Bool) (f:FuncId) (first cap:List PV) (hp:∀ x∈l,ACall Tryz.prog f (first++[QY x]++cap) (pb (p x))):ACall Tryz.prog 111 [.slc 10 (l.map QY) false,.fn (.func f) first cap] (pb (l.any p)):=by
 refine zf zk Tryz.func111 rfl (by kernel_rfl) Tryz.ntmps111 (by simp) _ rfl (fun hw gB hgB=>?_)
 have c1:=zbZ l p f first cap hp
 repeat' (first|(refine shC ?_;first|refine qC c1 ?_)|refine sA ?_|refine sC (fun _=>?_) (fun _=>?_)|fail)
 refine retq rfl ?_
 have:decide (0≤zgL l p)=l.any p:=by
  unfold zgL
  cases h:l.any p <;> simp
 simp [zl,this]
theorem zaS (t:Ty) (n:Int):ACall Tryz.prog 104 [yZ t,.ptr (pi n) 0] (pb (!Qv t 2 n)):=by
 refine zf zk Tryz.func104 rfl (by kernel_rfl) Tryz.ntmps104 (by simp) _ rfl (fun hw gB hgB=>?_)
 repeat' (first|(refine shC ?_;first|refine qC (zgu t n) ?_)|refine sA ?_|refine sC (fun _=>?_) (fun _=>?_)|fail)
 exact retq rfl rfl
theorem zfT (x:Ins) (g:Img) (m:Me) (hx:za9 x):ACall Tryz.prog 109 [YU x,.ptr (zO g) 0,.ptr (YG m) 0] (pb (!codeOk g m x)):=by
 refine zf zk Tryz.func109 rfl (by kernel_rfl) Tryz.ntmps109 (by simp) _ rfl (fun hw gB hgB=>?_)
 have c1:=zib x g m hx
 rw [show m.code.length=(m.code.map YU).length by simp] at c1
 repeat' (first|(refine shC ?_;first|refine qC c1 ?_)|refine sA ?_|refine sC (fun _=>?_) (fun _=>?_)|fail)
 exact retq rfl rfl
theorem zf0 (c:Cl) (g:Img):ACall Tryz.prog 112 [QY c,.ptr (pi (g.types.length:Nat)) 0] (pb (!YT g c)):=by
 refine zf zk Tryz.func112 rfl (by kernel_rfl) Tryz.ntmps112 (by simp) _ rfl (fun hw gB hgB=>?_)
 repeat' (first|(refine shC ?_;first|refine qC (zgn c g) ?_)|refine sA ?_|refine sC (fun _=>?_) (fun _=>?_)|fail)
 exact retq rfl rfl
set_option maxHeartbeats 4000000 in
theorem zgf (m:Me) (g:Img) (hx:∀ x∈m.code,za9 x):ACall Tryz.prog 93 [YG m,zO g] (pb (Qw g m)):=by
 refine zf zk Tryz.func93 rfl (by kernel_rfl) Tryz.ntmps93 (by simp) _ rfl (fun hw gB hgB=>?_)
 have cP:=Qi m.params (fun t=>!Qv t 2 ((g.types.map ZE).length:Nat)) 104 [] [.ptr (pi ((g.types.map ZE).length:Nat)) 0] (fun t _=>zaS t _)
 have cL:=Qi m.locals (fun t=>!Qv t 2 ((g.types.map ZE).length:Nat)) 104 [] [.ptr (pi ((g.types.map ZE).length:Nat)) 0] (fun t _=>zaS t _)
 have cC:=Vz m.code (fun x=>!codeOk g m x) 109 [] [.ptr (zO g) 0,.ptr (YG m) 0] (fun x h=>zfT x g m (hx x h))
 have cK:=zae m.clauses (fun c=>!YT g c) 112 [] [.ptr (pi ((g.types.map ZE).length:Nat)) 0] (fun c _=>by have:=zf0 c g;rwa [show g.types.length=(g.types.map ZE).length by simp] at this)
 have cR:=zge ((m.code.map YU).length:Nat) m.clauses
 rw [←List.not_all_eq_any_not] at cP cL cC cK
 have hfm:Qw g m=(XR m.name&&decide (0≤m.flags)&&decide (m.flags≤31)&&decide (0≤m.max)&&decide (m.max≤12)&&decide ((((m.params.map yZ).length:Nat):Int)≤6)&&decide ((((m.locals.map yZ).length:Nat):Int)≤12)&&Qv m.ret 3 ((g.types.map ZE).length:Nat)
   && (m.params.all fun t=>Qv t 2 ((g.types.map ZE).length:Nat))&&(m.locals.all fun t=>Qv t 2 ((g.types.map ZE).length:Nat))&&(decide ((((m.code.map YU).length:Nat):Int)≤160)&&m.code.all (codeOk g m)&&m.clauses.all (YT g)&&((Ql ((m.code.map YU).length:Nat) m.clauses).2==0))):=by
  simp only [Qw,zjn,zjq,List.length_map]
 generalize (m.params.all fun t=>Qv t 2 ((g.types.map ZE).length:Nat))=bP at cP hfm
 generalize (m.locals.all fun t=>Qv t 2 ((g.types.map ZE).length:Nat))=bL at cL hfm
 generalize m.code.all (codeOk g m)=bC at cC hfm
 generalize m.clauses.all (YT g)=bK at cK hfm
 repeat' (first|refine XF (t:=5) rfl rfl rfl ?_|(refine shC ?_;first|refine qC (zas _) ?_|refine qC (zfR m.ret _) ?_|refine qC cP ?_|refine qC cL ?_|refine qC cC ?_|refine qC cK ?_|refine qC cR ?_)|refine sA ?_|refine sC (fun _=>?_) (fun _=>?_)|fail)
 all_goals (refine retq rfl ?_;rw [hfm];first|(simp_all [zl];done)|(simp_all [zl];omega))
set_option maxHeartbeats 20000000
def zaQ (g:Img) (k:Nat):Int:=if k=0 then 0 else (g.fields.getD (k - 1) default).owner
def zaU (g:Img):Bool:=(List.range g.fields.length).all (zdM g)&&decide (((g.fields.map YA).length:Nat)≤(64:Int))
theorem ziL {g:Img} {k:Nat} (h:k < g.fields.length):zaQ g (k + 1)=g.fields[k].owner:=by
 rw [zaQ,if_neg (by omega),Nat.add_sub_cancel,zZ h]
theorem ziT {g:Img} {k:Nat} (h:k < g.fields.length) (hl:0≤zaQ g k):zdM g k=(XR g.fields[k].name&&!decide (g.fields[k].owner < zaQ g k)&&!decide ((((g.types.map ZE).length:Nat):Int)≤g.fields[k].owner)&&Qv g.fields[k].ty 1 ((g.types.map ZE).length:Nat)):=by
 rw [zdM]
 simp only [zZ h,List.length_map]
 generalize XR g.fields[k].name=bf
 generalize Qv g.fields[k].ty 1 g.types.length=bm
 unfold zaQ at hl ⊢
 by_cases hk:k=0
 ·subst hk
  rw [Bool.eq_iff_iff];simp
 ·have e:(k==0)=false:=by simp [hk]
  rw [if_neg hk] at hl ⊢
  rw [e,Bool.eq_iff_iff]
  simp only [List.getD_eq_getElem?_getD] at hl ⊢
  simp
  intro _
  constructor
  ·rintro ⟨⟨⟨a,b⟩,c⟩,d⟩;exact ⟨⟨a,d⟩,c⟩
  ·rintro ⟨⟨a,d⟩,c⟩;exact ⟨⟨⟨a,by omega⟩,c⟩,d⟩
theorem zf9 (g:Img):ACall Tryz.prog 73 [zO g] (pb (zaU g)):=by
 refine zf zk Tryz.func73 rfl (by kernel_rfl) Tryz.ntmps73 (by simp) _ rfl (fun hw gB hgB=>?_)
 have hlen:=(zi4 hw.1).2.1
 repeat' (first|refine sA ?_|refine sC (fun _=>?_) (fun _=>?_)|fail)
 refine zI (fun k:Nat=>[(1,.pv (.ptr (zO g) 0)),(3,.pv (pi (zaQ g k))),(7,.pv (.slc 7 (g.fields.map YA) false)),(8,.pv (pi g.fields.length)),(9,.pv (pi k))]) (fun _=>[]) (fun k=>k≤g.fields.length∧0≤zaQ g k∧zaU g=(((List.range g.fields.length).drop k).all (zdM g)&&decide (((g.fields.map YA).length:Nat)≤(64:Int)))) (fun k=>g.fields.length - k) 0 ⟨by omega,by simp [zaQ],rfl⟩ (tS) tH ?_
 rintro k ⟨hk,hl0,hr⟩
 by_cases hlt:k < g.fields.length
 ·have he:=qQ (f:=YA) hlt
  have hls:=ziL hlt
  rw [Yt hlt,ziT hlt hl0] at hr
  generalize g.fields[k]=f at he hr hls
  generalize hL:zaQ g k=L at hr hl0
  repeat' (first|(refine shC ?_;first|refine qC (zas _) ?_|refine qC (Vr _ _) ?_)|(refine shX ?_;first|refine qX he ?_)|refine sK ?_|refine sC (fun _=>?_) (fun _=>?_)|fail)
  all_goals first
   | (refine retq rfl ?_;rw [hr];simp_all [zl];done)
   | (refine ⟨k + 1,⟨hlt,by rw [hls];simp_all;omega,by rw [hr,Bool.eq_iff_iff];simp_all⟩,tD,by repeat (first|exact qO|refine qE rfl ?_|(refine Xl rfl ?_ ?_;· (first|exact hls.symm|(rw [wrap_in (by omega) (by omega)] <;> omega)))),tH⟩)
 ·rw [drop_end (by simp;omega)] at hr
  repeat' (first|refine sK ?_|refine sC (fun _=>?_) (fun _=>?_)|fail)
  exact retq rfl (by rw [hr];simp [zl])
def za7 (g:Img) (k:Nat):Int:=if k=0 then 0 else (g.methods.getD (k - 1) default).owner
def WU (g:Img):Bool:=(List.range g.methods.length).all (zfk g)&&decide (((g.methods.map YG).length:Nat)≤(64:Int))
theorem ziI {g:Img} {k:Nat} (h:k < g.methods.length):za7 g (k + 1)=g.methods[k].owner:=by
 rw [za7,if_neg (by omega),Nat.add_sub_cancel,zZ h]
theorem zio {g:Img} {k:Nat} (h:k < g.methods.length) (hl:0≤za7 g k):zfk g k=(!decide (g.methods[k].owner < za7 g k)&&!decide ((((g.types.map ZE).length:Nat):Int)≤g.methods[k].owner)&&Qw g g.methods[k]):=by
 rw [zfk]
 simp only [zZ h,List.length_map]
 generalize Qw g g.methods[k]=bm
 unfold za7 at hl ⊢
 by_cases hk:k=0
 ·subst hk
  rw [Bool.eq_iff_iff];simp
 ·have e:(k==0)=false:=by simp [hk]
  rw [if_neg hk] at hl ⊢
  rw [e,Bool.eq_iff_iff]
  simp only [List.getD_eq_getElem?_getD] at hl ⊢
  simp
  intro _
  constructor
  ·rintro ⟨⟨a,b⟩,d⟩;exact ⟨d,b⟩
  ·rintro ⟨d,c⟩;exact ⟨⟨by omega,c⟩,d⟩
theorem zeB (g:Img) (hx:∀ m∈g.methods,∀ x∈m.code,za9 x):ACall Tryz.prog 74 [zO g] (pb (WU g)):=by
 refine zf zk Tryz.func74 rfl (by kernel_rfl) Tryz.ntmps74 (by simp) _ rfl (fun hw gB hgB=>?_)
 have hlen:=(zi4 hw.1).2.2
 repeat' (first|refine sA ?_|refine sC (fun _=>?_) (fun _=>?_)|fail)
 refine zI (fun k:Nat=>[(1,.pv (.ptr (zO g) 0)),(3,.pv (pi (za7 g k))),(7,.pv (.slc 12 (g.methods.map YG) false)),(8,.pv (pi g.methods.length)),(9,.pv (pi k))]) (fun _=>[]) (fun k=>k≤g.methods.length∧0≤za7 g k∧WU g=(((List.range g.methods.length).drop k).all (zfk g)&&decide (((g.methods.map YG).length:Nat)≤(64:Int)))) (fun k=>g.methods.length - k) 0 ⟨by omega,by simp [za7],rfl⟩ (tS) tH ?_
 rintro k ⟨hk,hl0,hr⟩
 by_cases hlt:k < g.methods.length
 ·have he:=qQ (f:=YG) hlt
  have hls:=ziI hlt
  have cm:=zgf g.methods[k] g (hx _ (List.getElem_mem hlt))
  rw [Yt hlt,zio hlt hl0] at hr
  generalize g.methods[k]=f at he hr hls cm
  generalize hL:za7 g k=L at hr hl0
  repeat' (first|(refine shC ?_;first|refine qC cm ?_)|(refine shX ?_;first|refine qX he ?_)|refine sK ?_|refine sC (fun _=>?_) (fun _=>?_)|fail)
  all_goals first
   | (refine retq rfl ?_;rw [hr];simp_all [zl];done)
   | (refine ⟨k + 1,⟨hlt,by rw [hls];simp_all;omega,by rw [hr,Bool.eq_iff_iff];simp_all⟩,tD,by repeat (first|exact qO|refine qE rfl ?_|(refine Xl rfl ?_ ?_;· (first|exact hls.symm|(rw [wrap_in (by omega) (by omega)] <;> omega)))),tH⟩)
 ·rw [drop_end (by simp;omega)] at hr
  repeat' (first|refine sK ?_|refine sC (fun _=>?_) (fun _=>?_)|fail)
  exact retq rfl (by rw [hr];simp [zl])
theorem zfG (g:Img) (hx:∀ m∈g.methods,∀ x∈m.code,za9 x):ACall Tryz.prog 62 [zO g] (pb (zW g)):=by
 refine zf zk Tryz.func62 rfl (by kernel_rfl) Tryz.ntmps62 (by simp) _ rfl (fun hw gB hgB=>?_)
 have c1:=zh7 g
 have c2:=zf9 g
 have c3:=zeB g hx
 have hfm:zW g=(YZ g&&zaU g&&WU g&&decide (-1≤g.entry)&&decide (g.entry < ((g.methods.map YG).length:Nat))):=by
  rw [zW,YZ,zaU,WU,Bool.eq_iff_iff]
  simp only [List.length_map,Bool.and_eq_true]
  constructor <;> (intro h;simp only [h,and_self])
 generalize YZ g=b1 at c1 hfm
 generalize zaU g=b2 at c2 hfm
 generalize WU g=b3 at c3 hfm
 repeat' (first|(refine shC ?_;first|refine qC c1 ?_|refine qC c2 ?_|refine qC c3 ?_)|refine sA ?_|refine sC (fun _=>?_) (fun _=>?_)|fail)
 all_goals (refine retq rfl ?_;rw [hfm];first|(simp_all [zl];done)|(simp_all [zl];omega))
end Go.Cg
