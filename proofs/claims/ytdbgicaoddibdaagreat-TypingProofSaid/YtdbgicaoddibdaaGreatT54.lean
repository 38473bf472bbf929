/- A part of the walks by abstract values: no statement of its own. -/
import Derived.Test.YtdbgicaoddibdaaGreatT52
import Derived.Test.YtdbgicaoddibdaaGreatT22
import Derived.Test.YtdbgicaoddibdaaGreatT14
import Derived.Test.YtdbgicaoddibdaaGreatT53
import Derived.Test.YtdbgicaoddibdaaGreatT43
import Derived.Test.YtdbgicaoddibdaaGreatT48
import Derived.Test.YtdbgicaoddibdaaGreatT33
import Derived.Test.YtdbgicaoddibdaaGreatT27
set_option linter.unusedVariables false
set_option linter.unusedSimpArgs false
namespace Go.Cg
open Go.Proofs
abbrev zkd:List Ins:=[⟨8,0,⟨0,0,0,false⟩⟩,⟨46,0,⟨0,0,0,false⟩⟩]
abbrev zwo:List Ins:=[⟨13,0,⟨0,0,0,false⟩⟩,⟨46,0,⟨0,0,0,false⟩⟩]
abbrev meE (c:List Ins):Me:=⟨⟨#[109]⟩,0,1,[],⟨2,0,0,false⟩,[],2,c,[]⟩
abbrev gE (c:List Ins):Img:=⟨[⟨⟨#[65]⟩,0,-1,[]⟩],[],[meE c],-1⟩
abbrev zxJ (q:PV):PV:=.agg [.slc 4 [wTD 65 (-1)] true,.base (.slice none 0 0),.slc 12 [.agg [.base (.string ⟨#[109]⟩),pi 0,pi 1,.base (.slice none 0 0),pi 2,pi 0,pi 0,pb false,.base (.slice none 0 0),pi 2,q,.base (.slice none 0 0)]] true,pi (-1)]
theorem zpm (x y:Ins):PTells (zxJ (.slc 6 [qx x,qx y] true)) (zO (gE [x,y])) :=
 zw5 (ql (zdT (Xq (zr7 65 (-1)) zcg)) (ql (Qz 7 false) (ql (zdT (Xq
  (ql (.refl _) (ql (.refl _) (ql (.refl _) (ql (Qz 4 false) (ql (.refl _) (ql (.refl _) (ql (.refl _) (ql (.refl _) (ql (Qz 4 false) (ql (.refl _)
   (ql (zdT (Xq (zhJ _) (Xq (zhJ _) zcg))) (ql (Qz 10 false) XR))))))))))))
  zcg)) (ql (.refl _) XR))))
theorem ziF {c:List Ins} (h:c=zkd∨c=zwo):(qG (gE c)).2=0:=by
 have h1:Qu (gE c)=true:=by rcases h with rfl|rfl <;> decide +kernel
 have h2:Yz (gE c)=true:=by rcases h with rfl|rfl <;> decide +kernel
 have h3:∀ j,j < (gE c).types.length→Xv (gE c) j=false:=by
  intro j hj;have:j=0:=by have:(gE c).types.length=1:=rfl;omega
  subst this;rcases h with rfl|rfl <;> decide +kernel
 rw [qG,show zgW (gE c)=true by rw [zgW,zjo h1 h2 h3];rfl];show (stM (gE c) (List.range (gE c).methods.length)).2=0
 rcases h with rfl|rfl <;> decide +kernel
theorem okE {c:List Ins} (h:c=zkd∨c=zwo):OkA (gE c):=by
 intro m hm x hx;have hm2:m=meE c:=by simpa [gE] using hm
 rw [hm2] at hx;have hx2:x∈c:=hx;rcases h with rfl|rfl <;> simp at hx2 <;> rcases hx2 with rfl|rfl <;> exact ⟨by decide,by decide⟩
theorem zxr:VJ (gE zkd) 0=.ok ⟨[[],[⟨2,0,0,false⟩]],[true,true],4⟩:=by
 rw [VJ,show VL (gE zkd)=true by rw [VL,ziF (.inl rfl)];rfl];rfl
theorem zrM {g:Img} {k:Int} {e:Int × Int} (h:QB g k=.error e):e.2≠0:=by
 unfold QB at h;split at h
 ·rename_i h1;cases h;simpa using h1
 ·have key:∀ (f i:Nat) (s:VS),goV g k f i s=.error e→e.2≠0:=by
   intro f;induction f with
   | zero=>intro i s h;cases h
   | succ f ih =>
    intro i s h;rw [goV] at h;split at h
    ·rename_i h1;cases h;exact zus h1
    ·exact ih _ _ h
  exact key _ _ _ h
theorem zvS {g:Img} {k:Int} {e:Int × Int} (h:VJ g k=.error e):e.2≠0:=by
 unfold VJ at h;split at h
 ·exact zrM h
 ·cases h;decide
theorem zv3 {g:Img} {k:Int} {s:VS} (h:VJ g k=.ok s):(qG g).2=0∧mOk g k∧0 < (mAt g k).code.length∧QB g k=.ok s:=by
 unfold VJ at h;split at h
 ·rename_i h1;simp only [Bool.and_eq_true,VL,zbd,beq_iff_eq,decide_eq_true_eq] at h1;exact ⟨h1.1,⟨h1.2.1.1,by omega⟩,h1.2.2,h⟩
 ·cases h
theorem zjb (g:Img) (hx:OkA g) {k:Int} {s:VS} (h:VJ g k=.ok s):ACall Tryz.prog 7 [zO g,pi k,sts s.st] (.tup [pi 0,pi 0]):=by
 unfold VJ at h;split at h
 ·rename_i hwc;simp only [Bool.and_eq_true] at hwc;obtain ⟨hwl,hcd⟩:=hwc;have hc:(qG g).2=0:=by simpa [VL] using hwl
  have hF:=(Xc (Qo hc).1).formed;have hcd2:=hcd;simp only [zbd,Bool.and_eq_true,decide_eq_true_eq] at hcd2;have hm:mOk g k:=⟨hcd2.1.1,by omega⟩
  have hM:=Xb hF hm;have hmx:(mAt g k).max≤12:=hM.small.2.2.2.2.2;have hok:=zqZ hmx h;unfold QB at h;split at h
  ·cases h
  ·rename_i ha;have ha:(zbH g (mAt g k)).2=0:=by simpa using ha
   have hfl:zbI g k=((zbH g (mAt g k)).1,0):=by
    rw [zbI,hwl,hcd];exact Prod.ext rfl ha
   have hst:=go_ok hmx (mAt g k).code.length 0 (ziU (mAt g k)).1 h;have hon:∀ i:Nat,i < (mAt g k).code.length→onV (mAt g k) i=0:=fun i hi=>zj1 ha hi
   have hr:∀ i:Nat,i < (mAt g k).code.length→∀ t∈Vr (mAt g k) i,0≤t∧t.toNat < (mAt g k).code.length:=by
    intro i hi t ht;rcases List.mem_append.1 ht with ht|ht
    ·cases hn:Qr (YN (mAt g k) i)
     ·rw [hn] at ht;cases ht
     ·rw [hn] at ht;obtain rfl:=List.mem_singleton.1 ht;have h0:=hon i hi;unfold onV at h0;rw [hn] at h0;by_cases h1:(i:Int) + 1 < ((mAt g k).code.length:Int)
      ·omega
      ·simp [h1] at h0
    ·cases hn:ZU (YN (mAt g k) i)
     ·rw [hn] at ht;cases ht
     ·rw [hn] at ht;obtain rfl:=List.mem_singleton.1 ht;exact zkh hM.formed zwy62 hn
   have hp:∀ e∈zaq (mAt g k),0≤e.1:=by
    intro e he;rcases List.mem_cons.1 he with rfl|he
    ·exact Int.le_refl 0
    ·obtain ⟨c,hc1,hc2⟩:=List.mem_flatMap.1 he;have hcl:=zqz hM c hc1;unfold QX at hc2;split at hc2
     ·obtain rfl:=List.mem_singleton.1 hc2;exact hcl.1.1
     ·split at hc2
      ·rename_i h2;rcases List.mem_cons.1 hc2 with rfl|hc2
       ·exact hcl.1.1
       ·obtain rfl:=List.mem_singleton.1 hc2;exact (hcl.2 (by simpa using h2)).1
      ·obtain rfl:=List.mem_singleton.1 hc2;exact hcl.1.1
   have hR:=zhv (zfg (Xc (Qo hc).1).well) hp (fun i hi _=>hr i hi) hon h;exact zp1 g hx hc hm hfl s.st hok.1 (fun x hx2=>by have:=hst.1.st x hx2;omega) ⟨hR.given,hR.steps⟩ hr
 ·cases h
abbrev gA:Img:=gE zkd
abbrev mA:Me:=meE zkd
abbrev zbz:Ty:=⟨2,0,0,false⟩
abbrev rxO (u:Value):HEnv:=[(0,.cell (.pv (yh mA))),(1,.cell (.agg [.own 70])),(2,.cell (.pv (.base u))),(3,.cell (.fn (.func 17) [] [.box 2 0])),(4,.cell (.agg [.own 71])),(12,.pin (.box 10 0) u)]
abbrev rxB (u:Value) (es ds:List PV):HEnv:=rxO u++(H0q++[(70,.mrow 47 1 es),(71,.mrow 4 1 ds)])
def rxH (u:Value) (es ds:List PV) (i:Nat) (b d:PV):Nat→HEnv
 | 0=>rxB u es ds
 | 1=>(70,.mrow 47 1 (es.set i b))::rxB u es ds
 | _=>(71,.mrow 4 1 (ds.set i d))::(70,.mrow 47 1 (es.set i b))::rxB u es ds
abbrev rxT (u:Value):HEnv:=rxO u++(H0q++[(70,.dead),(71,.dead)])
theorem zmg (u:Value) (es ds:List PV) (i:Nat) (b d:PV):∀ p,p < 3→qg (rxH u es ds i b d p) (rxT u)=true∧qg (rxT u) (rxH u es ds i b d p)=true:=by
 intro p h;have hp:p=0∨p=1∨p=2:=by omega
 rcases hp with rfl|rfl|rfl <;> exact ⟨rfl,rfl⟩
theorem zne (u:Value) (es ds:List PV) (i:Nat) (b d:PV) {gB:Base}:∀ p,p≤2→∀ K ρ w,FS gB K ρ (rxH u es ds i b d p) w→FS gB K ρ (rxT u) w:=by
 intro p h K ρ w hf;have hp:p=0∨p=1∨p=2:=by omega
 rcases hp with rfl|rfl|rfl <;> exact ((hf.kill 70).kill 71).narrow (e:=[]) tH
abbrev rwE:Env:=[(3,.pv (.ptr (zO gA) 0)),(5,.pv (.ptr (sts [[],[]]) 0)),(10,.box 0 0),(16,.box 1 0),(17,.box 2 0),(18,.box 3 0),(19,.box 4 0),(116,.pv (.fn (.func 44) [] [.ptr (yh mA) 0]))]
abbrev rwR:HEnv:=[(0,.cell (.pv (yh mA))),(1,.cell (.agg [.own 70])),(3,.cell (.fn (.func 17) [] [.box 2 0])),(4,.cell (.agg [.own 71])),(70,.mrow 47 1 [tys [zbz],zcc]),(71,.mrow 4 1 [pb true,pb false])]
abbrev rwH (u:Value):List (zrx mA)→HEnv
 | []=>rxO u++(HQ [(1,0,9)]++[(70,.mrow 47 1 [tys [zbz],zcc]),(71,.mrow 4 1 [pb true,pb false])])
 | _=>rxO u++(HQ [(0,1,14),(1,0,9)]++[(70,.mrow 47 1 [tys [zbz],zcc]),(71,.mrow 4 1 [pb true,pb false])])
theorem zwm {P:Program} {n:Nat} {g:Base} {c:Code} {env:Env} {H:HEnv} {QQ:QC} (i:Nat) (x:HE) (_:H.get i=some x) (k:AW P n g c env H QQ):AW P n g c env H QQ:=k
set_option maxHeartbeats 8000000 in
theorem zro:ACall Tryz.prog 7 [zO gA,pi 0,sts [[],[]]] (.tup [pi 0,pi 14]):=by
 have hx:OkA gA:=okE (.inl rfl);have hc:(qG gA).2=0:=ziF (.inl rfl);have hF:=(Xc (Qo hc).1).formed;have hm:mOk gA 0:=⟨by decide,by decide⟩
 have hfl:zbI gA 0=(0,0):=by
  rw [zbI,show VL gA=true by rw [VL,hc];rfl];decide +kernel
 have c1:=zfT gA hx 0;rw [hfl] at c1;have cN:=zbW gA hx hc;have cF:=XE gA [] [] (VH hF);rw [show Zl gA [] []=true from rfl] at cF;have cF2:=XE gA [zbz] [] (VH hF);rw [show Zl gA [zbz] []=false from rfl] at cF2;have s0:=zbR gA hc hm (a:=0) (by decide) (by decide) [] (by decide);have s1:=zbR gA hc hm (a:=1) (by decide) (by decide) [] (by decide);rw [show stepS gA 0 0 []=.ok ((),[zbz]) from rfl] at s0;rw [show stepS gA 0 1 []=.error 9 from rfl] at s1;refine zaa zf Tryz.func7 rfl (by kernel_rfl) Tryz.ntmps7 (by simp) _ rfl (fun hw gB hgB hbg=>?_);refine yZ ?_
 repeat' (first|refine sK ?_|refine sC (fun _=>?_) (fun _=>?_)|fail)
 refine yZ ?_
 repeat' (first|(refine shC ?_;first|refine qC c1 ?_)|refine sK ?_|refine sC (fun _=>?_) (fun _=>?_)|fail)
 refine yZ ?_
 repeat' (first|(refine shX ?_;first|refine zy rfl (zo zf rfl rfl rfl rfl rfl rfl (by decide) rfl) rfl rfl ?_|refine zq rfl (zo zf rfl rfl rfl rfl rfl rfl (by decide) rfl) rfl rfl ?_)|refine sK ?_|refine sC (fun _=>?_) (fun _=>?_)|fail)
 refine yZ ?_
 repeat' (first|refine sK ?_|refine sC (fun _=>?_) (fun _=>?_)|fail)
 refine yZ ?_
 repeat' (first|refine zeD [] (fun us=>gvH (gvE mA.clauses) us) [(0,.cell (.pv (yh mA)))] [(1,.pv (pi 0)),(3,.pv (.ptr (zO gA) 0)),(5,.pv (.ptr (sts [[],[]]) 0)),(10,.box 0 0)] [] (fun _=>hgB) rfl rfl rfl tHZ tS rfl rfl (fun _=>rfl) (fun _=>zeu _ (by decide)) (fun us=>?_)|refine sK ?_|refine sC (fun _=>?_) (fun _=>?_)|fail)
 refine yZ ?_;refine zlz (φ:=∃ u0,us=[u0]∧Zm u0=true) (fun K ρ w hf=>?_) (fun hus=>?_)
 ·have hp:=Xz (j:=61) hf rfl;obtain ⟨u0,rfl⟩:=List.length_eq_one_iff.1 (show us.length=1 from zlV hp);exact ⟨u0,rfl,zcB (zgx hp (p:=tys []) (i:=0) rfl rfl)⟩
 obtain ⟨u0,rfl,hub⟩:=hus;have h2:Zk 0 (((gvE mA.clauses).map Prod.fst).zip [u0]) 0=some (0,u0):=rfl;have h3:Zk 1 (((gvE mA.clauses).map Prod.fst).zip [u0]) 0=none:=rfl
 repeat' (first|refine XL 3 ?_|refine zcV ?_|refine zpV 13 (u:=u0) rfl (fun K ρ w hf=>zgx (Xz (j:=61) hf rfl) (p:=tys []) (i:=0) rfl rfl) ?_|refine zy rfl (zjC h2 hub zf rfl rfl rfl rfl rfl rfl rfl rfl) rfl rfl ?_|refine zy rfl (zlW h3 zf rfl rfl rfl rfl rfl rfl rfl rfl) rfl rfl ?_|(refine shC ?_;first|refine qC cF ?_)|(refine shX ?_;first|refine zy rfl (zo zf rfl rfl rfl rfl rfl rfl (by decide) rfl) rfl rfl ?_|refine zq rfl (zo zf rfl rfl rfl rfl rfl rfl (by decide) rfl) rfl rfl ?_)|refine sK ?_|refine sC (fun _=>?_) (fun _=>?_)|fail)
 refine yZ ?_
 repeat' (first|(refine shC ?_;first|refine qC cN ?_)|refine sK ?_|refine sC (fun _=>?_) (fun _=>?_)|fail)
 refine yZ ?_
 repeat' (first|refine ze8 (m:=2) (sz:=1) zf 70 rfl rfl rfl rfl rfl rfl rfl rfl (by decide) (by decide) rfl rfl rfl ?_|refine sK ?_|refine sC (fun _=>?_) (fun _=>?_)|fail)
 refine yZ ?_
 repeat' (first|refine zy rfl (QH zf rfl rfl rfl rfl rfl) rfl rfl ?_|refine zj9 78 12 rfl rfl (fun u=>?_)|(refine Qx ?_;first|refine WX 10 rfl rfl rfl rfl rfl rfl ?_)|refine sK ?_|refine sC (fun _=>?_) (fun _=>?_)|fail)
 refine yZ ?_
 repeat' (first|refine sK ?_|refine sC (fun _=>?_) (fun _=>?_)|fail)
 refine yZ ?_
 repeat' (first|refine ze8 (m:=2) (sz:=1) zf 71 rfl rfl rfl rfl rfl rfl rfl rfl (by decide) (by decide) rfl rfl rfl ?_|refine sK ?_|refine sC (fun _=>?_) (fun _=>?_)|fail)
 refine yZ ?_;refine zbN 1 70 rfl rfl (zbN 4 71 rfl rfl ?_);refine zkO [(1,.pv (pi 0)),(3,.pv (.ptr (zO gA) 0)),(5,.pv (.ptr (sts [[],[]]) 0)),(10,.box 0 0),(15,.pv (.ptr (zO gA) 0)),(16,.box 1 0),(17,.box 2 0),(18,.box 3 0),(19,.box 4 0)] (rxB _ [zcc,zcc] [pb false,pb false]) tS ⟨tHZ,rfl⟩ ?_
 repeat' (first|refine XL 3 ?_|refine zcV ?_|refine zwm 70 (.mrow 47 1 [zcc,zcc]) rfl (Zr (id:=24) 11 11 [8,10] [[106],[107]] (rxH u [zcc,zcc] [pb false,pb false] 0 (tys [zbz]) (pb true)) (fun _=>rxT u) (rxT u) none rfl (by kernel_rfl) (by kernel_rfl) (by kernel_rfl) (by kernel_rfl) (by kernel_rfl) (by kernel_rfl) (by kernel_rfl) (fun p hp=>zmg u _ _ 0 _ _ p (by simp at hp;omega)) rfl (fun p hp=>zne u _ _ 0 _ _ p hp) rfl (fun _ _ _ _=>rfl) (fun _ _=>rfl) tH rfl (fun v hv=>by cases hv) ?_)|refine zwm 70 (.mrow 47 1 [tys [zbz],zcc]) rfl (Zr (id:=24) 11 11 [8,10] [[106],[107]] (rxH u [tys [zbz],zcc] [pb true,pb false] 1 (zcc) (pb false)) (fun _=>rxT u) (rxT u) none rfl (by kernel_rfl) (by kernel_rfl) (by kernel_rfl) (by kernel_rfl) (by kernel_rfl) (by kernel_rfl) (by kernel_rfl) (fun p hp=>zmg u _ _ 1 _ _ p (by simp at hp;omega)) rfl (fun p hp=>zne u _ _ 1 _ _ p hp) rfl (fun _ _ _ _=>rfl) (fun _ _=>rfl) tH rfl (fun v hv=>by cases hv) ?_)|refine QF 0 1 [0,2] rfl rfl (by kernel_rfl) ?_|refine Qp 7 [1,3] rfl rfl ?_|refine Zt [1] (.pv (.tup [])) rfl rfl rfl ?_|refine QF 1 1 [0] rfl rfl (by kernel_rfl) ?_|refine Zt [] (.pv (.tup [])) rfl rfl rfl ?_|refine ZV ?_|refine ⟨⟨rfl,qB (es:=[zcc,zcc]) (k:=0) (j:=0) zf rfl rfl rfl rfl rfl rfl rfl rfl rfl,.inl rfl⟩,?_⟩|refine ⟨⟨rfl,qB (es:=[pb false,pb false]) (k:=0) (j:=0) zf rfl rfl rfl rfl rfl rfl rfl rfl rfl,.inl rfl⟩,?_⟩|refine ⟨⟨rfl,qB (es:=[tys [zbz],zcc]) (k:=1) (j:=0) zf rfl rfl rfl rfl rfl rfl rfl rfl rfl,.inl rfl⟩,?_⟩|refine ⟨⟨rfl,qB (es:=[pb true,pb false]) (k:=1) (j:=0) zf rfl rfl rfl rfl rfl rfl rfl rfl rfl,.inl rfl⟩,?_⟩|intro _|refine QL ?_|(refine shC ?_;first|refine qC s0 ?_|refine qC s1 ?_)|(refine shX ?_;first|refine zy rfl (zo zf rfl rfl rfl rfl rfl rfl (by decide) rfl) rfl rfl ?_|refine zq rfl (zo zf rfl rfl rfl rfl rfl rfl (by decide) rfl) rfl rfl ?_|refine zy rfl (zK (k:=0) zf rfl rfl rfl rfl rfl rfl rfl rfl (Nat.zero_lt_succ 1)) rfl rfl ?_|refine zq rfl (zK (k:=0) zf rfl rfl rfl rfl rfl rfl rfl rfl (Nat.zero_lt_succ 1)) rfl rfl ?_|refine zy rfl (zK (k:=1) zf rfl rfl rfl rfl rfl rfl rfl rfl (Nat.lt_succ_self 1)) rfl rfl ?_|refine zq rfl (zK (k:=1) zf rfl rfl rfl rfl rfl rfl rfl rfl (Nat.lt_succ_self 1)) rfl rfl ?_)|(refine zn ?_;first|refine zaF (tlH u++(H0q++qP u)) (tlH u++(HQ [(1,0,9)]++qP u)) [(0,.cell (.pv (yh mA))),(1,.cell (.agg [.own 70])),(3,.cell (.fn (.func 17) [] [.box 2 0])),(4,.cell (.agg [.own 71])),(70,.mrow 47 1 [tys [zbz],zcc]),(71,.mrow 4 1 [pb true,pb false])] [(1,.pv (pi 0)),(3,.pv (.ptr (zO gA) 0)),(5,.pv (.ptr (sts [[],[]]) 0)),(10,.box 0 0),(15,.pv (.ptr (zO gA) 0)),(16,.box 1 0),(17,.box 2 0),(18,.box 3 0),(19,.box 4 0),(84,.pv (pi 2)),(85,.pv (pi 1))] [2] zh rfl rfl rfl rfl tHZ tS rfl rfl rfl (fun us=>zoZ 1 9 u us) ?_)|refine sK ?_|refine sC (fun _=>?_) (fun _=>?_)|fail)
 have cO:=zcS mA;refine zfb ?_;refine yZ ?_
 repeat' (first|(refine shC ?_;first|refine qC cO ?_)|refine sK ?_|refine sC (fun _=>?_) (fun _=>?_)|fail)
 refine zc9 ?_;obtain ⟨x0,hx0⟩:=List.length_eq_one_iff.1 (show (zeS mA).length=1 by rw [List.length_attach];decide +kernel);have hit:AIterS Tryz.prog 44 [.ptr (yh mA) 0] (fun x:zrx mA=>encI x.1) [x0]:=by rw [←hx0];exact zcY mA (by decide)
 have hwt:Yr mA mA.code.length=[(0,1)]:=by decide +kernel
 have cE:=zfh mA 0 1;rw [show XA mA 0 1=false from rfl] at cE;refine ziJ (fun x=>.int .i64 x.1.1) (fun x=>.int .i64 x.1.2) hit rwE (rwH u) 100 hgB hbg (fun _=>rfl) (fun _=>rfl) (fun _=>rfl) rfl tS rfl rfl rfl (by decide) ⟨tHZ,rfl⟩ (fun pre=>by cases pre <;> rfl) (fun pre=>by cases pre <;> rfl) rfl (.inl (by simp)) rfl ?_ ?_
 ·rintro g2 us2 pre ⟨⟨a,b⟩,hx2⟩ hlen;obtain rfl:pre=[]:=List.eq_nil_of_length_eq_zero (by simpa using hlen);rw [hwt] at hx2;obtain ⟨rfl,rfl⟩:a=0∧b=1:=by simpa using hx2
  dsimp only
  repeat' (first|refine zy rfl (zM (k:=0) (j:=0) zf rfl rfl rfl rfl rfl rfl) rfl rfl ?_|refine zq rfl (zM (k:=0) (j:=0) zf rfl rfl rfl rfl rfl rfl) rfl rfl ?_|(refine shC ?_;first|refine qC cE ?_|refine qC cF2 ?_)|(refine shX ?_;first|refine zy rfl (zo zf rfl rfl rfl rfl rfl rfl (by decide) rfl) rfl rfl ?_|refine zq rfl (zo zf rfl rfl rfl rfl rfl rfl (by decide) rfl) rfl rfl ?_|refine zy rfl (zK (k:=0) zf rfl rfl rfl rfl rfl rfl rfl rfl (Nat.zero_lt_succ 1)) rfl rfl ?_|refine zq rfl (zK (k:=0) zf rfl rfl rfl rfl rfl rfl rfl rfl (Nat.zero_lt_succ 1)) rfl rfl ?_)|(refine zn ?_;first|refine zaF (tlH u++(HQ [(1,0,9)]++qP u)) (tlH u++(HQ [(0,1,14),(1,0,9)]++qP u)) (rwR++yQ us2 100 rwE) [] [2] zh rfl rfl rfl rfl tHZ tS rfl rfl rfl (fun us=>zpv (1,0,9) 0 14 u rfl us) ?_)|refine sK ?_|refine sC (fun _=>?_) (fun _=>?_)|fail)
  exact ⟨tHZ,rfl⟩
 ·intro g3
  repeat' (first|refine zq7 156 12 rfl rfl ?_|(refine zn ?_;first|(refine XV (HQ [(0,1,14),(1,0,9)]) ([]) ([]) ([]) zh rfl rfl rfl ?_ rfl rfl rfl (fun _=>zl1 (0,1,14) (1,0,9)) ?_;· (repeat (first|exact zA|refine zx rfl ?_))))|refine sK ?_|refine sC (fun _=>?_) (fun _=>?_)|fail)
  exact ⟨rfl,retq rfl rfl⟩
set_option maxHeartbeats 20000000
theorem zsQ:ACall Tryz.prog 29 [zO gA,yJ zbz] (pb false):=by
 refine zi zf Tryz.func29 rfl (by kernel_rfl) Tryz.ntmps29 (by simp) _ rfl (fun hw gB hgB=>?_)
 repeat' (first|refine sK ?_|refine sC (fun _=>?_) (fun _=>?_)|fail)
 exact retq rfl rfl
theorem znL:ACall Tryz.prog 28 [yJ zbz,.ptr (zO gA) 0] (pb false):=by
 refine zi zf Tryz.func28 rfl (by kernel_rfl) Tryz.ntmps28 (by simp) _ rfl (fun hw gB hgB=>?_)
 repeat' (first|(refine shC ?_;first|refine qC zsQ ?_)|refine sK ?_|refine sC (fun _=>?_) (fun _=>?_)|fail)
 exact retq rfl rfl
abbrev sgE:Env:=[(3,.pv (.ptr (zO gA) 0)),(5,.pv (.ptr (sts [[],[zbz]]) 0)),(6,.box 0 0),(10,.own 60),(11,.box 2 0),(49,.pv (.fn (.func 44) [] [.ptr (yh mA) 0]))]
abbrev sgH (u0:Value):List (zrx mA)→HEnv
 | []=>[(0,.cell (.pv (pb false))),(2,.cell (.own 71)),(71,.mrow 4 1 [pb false,pb false])]++gvH (gvE mA.clauses) [u0]
 | _=>[(0,.cell (.pv (pb false))),(2,.cell (.own 71)),(71,.mrow 4 1 [pb false,pb true])]++gvH (gvE mA.clauses) [u0]
theorem zty {P:Program} {n:Nat} {g:Base} {env:Env} {H:HEnv} {QQ:QC} {id:Nat} {ops:Array Oper} {d:Bool} {y:Code} (id' t:Nat) (_:id=id') (_:(env.get t).isSome=true) (env2:Env) (H2:HEnv) (hs:Sub env env2) (hH:Yj H H2 env2) (k:AW P n g (.seq (.region id ops d) y) env2 H2 QQ):AW P n g (.seq (.region id ops d) y) env H QQ:=zkO env2 H2 hs hH k
theorem zsB:ACall Tryz.prog 9 [zO gA,pi 0,sts [[],[zbz]]] (pb true):=by
 have hx:OkA gA:=okE (.inl rfl);have hc:(qG gA).2=0:=ziF (.inl rfl);have hfl:zbI gA 0=(0,0):=by
  rw [zbI,show VL gA=true by rw [VL,hc];rfl];decide +kernel
 have c1:=zfT gA hx 0;rw [hfl] at c1;have cO:=zcS mA;have f0:=Zw [] (fun _=>false) 28 [] [.ptr (zO gA) 0] (fun x hx=>by cases hx);have f1:=Zw [zbz] (fun _=>false) 28 [] [.ptr (zO gA) 0] (fun x hx=>by obtain rfl:=List.mem_singleton.1 hx;exact znL);obtain ⟨x0,hx0⟩:=List.length_eq_one_iff.1 (show (zeS mA).length=1 by rw [List.length_attach];decide +kernel);have hit:AIterS Tryz.prog 44 [.ptr (yh mA) 0] (fun x:zrx mA=>encI x.1) [x0]:=by rw [←hx0];exact zcY mA (by decide)
 have hwt:Yr mA mA.code.length=[(0,1)]:=by decide +kernel
 refine zaa zf Tryz.func9 rfl (by kernel_rfl) Tryz.ntmps9 (by simp) _ rfl (fun hw gB hgB hbg=>?_);refine yZ ?_
 repeat' (first|refine sK ?_|refine sC (fun _=>?_) (fun _=>?_)|fail)
 refine yZ ?_
 repeat' (first|(refine shC ?_;first|refine qC c1 ?_)|(refine shX ?_;first|refine zy rfl (zo zf rfl rfl rfl rfl rfl rfl (by decide) rfl) rfl rfl ?_|refine zq rfl (zo zf rfl rfl rfl rfl rfl rfl (by decide) rfl) rfl rfl ?_)|refine sK ?_|refine sC (fun _=>?_) (fun _=>?_)|fail)
 refine yZ ?_
 repeat' (first|(refine shX ?_;first|refine zy rfl (zo zf rfl rfl rfl rfl rfl rfl (by decide) rfl) rfl rfl ?_|refine zq rfl (zo zf rfl rfl rfl rfl rfl rfl (by decide) rfl) rfl rfl ?_)|refine sK ?_|refine sC (fun _=>?_) (fun _=>?_)|fail)
 refine yZ ?_
 repeat' (first|refine zeD [] (fun us=>gvH (gvE mA.clauses) us) [(0,.cell (.pv (pb false))),(1,.cell (.pv (yh mA)))] [(3,.pv (.ptr (zO gA) 0)),(5,.pv (.ptr (sts [[],[zbz]]) 0)),(6,.box 0 0),(9,.box 1 0)] [] (fun _=>hgB) rfl rfl rfl tHZ tS rfl rfl (fun _=>rfl) (fun _=>zeu _ (by decide)) (fun us=>?_)|refine sK ?_|refine sC (fun _=>?_) (fun _=>?_)|fail)
 refine yZ ?_;refine zlz (φ:=∃ u0,us=[u0]∧Zm u0=true) (fun K ρ w hf=>?_) (fun hus=>?_)
 ·have hp:=Xz (j:=61) hf rfl;obtain ⟨u0,rfl⟩:=List.length_eq_one_iff.1 (show us.length=1 from zlV hp);exact ⟨u0,rfl,zcB (zgx hp (p:=tys []) (i:=0) rfl rfl)⟩
 obtain ⟨u0,rfl,hub⟩:=hus;have h2:Zk 0 (((gvE mA.clauses).map Prod.fst).zip [u0]) 0=some (0,u0):=rfl;have h3:Zk 1 (((gvE mA.clauses).map Prod.fst).zip [u0]) 0=none:=rfl
 repeat' (first|refine ze8 (m:=2) (sz:=1) zf 71 rfl rfl rfl rfl rfl rfl rfl rfl (by decide) (by decide) rfl rfl rfl ?_|refine sK ?_|refine sC (fun _=>?_) (fun _=>?_)|fail)
 refine zfb ?_;refine yZ ?_
 repeat' (first|(refine shC ?_;first|refine qC cO ?_)|refine sK ?_|refine sC (fun _=>?_) (fun _=>?_)|fail)
 refine zc9 ?_;refine zgT (fun x=>.int .i64 x.1.1) (fun x=>.int .i64 x.1.2) hit sgE (sgH u0) 100 hgB hbg (fun _=>rfl) (fun _=>rfl) (fun _=>rfl) rfl tS rfl rfl rfl (by decide) ⟨tHZ,rfl⟩ (fun pre=>by cases pre <;> rfl) (fun pre i X hi=>?_) rfl (.inl (by simp)) rfl ?_ ?_
 ·have hi6:i=60:=by
   refine Classical.byContradiction fun hne=>?_
   cases pre <;> simp [sgH,gvH,HEnv.get_cons] at hi <;> (repeat' split at hi) <;> simp_all [HEnv.get_nil]
  subst hi6;exact ⟨⟨10,rfl⟩,_,rfl⟩
 ·rintro g2 us2 pre ⟨⟨a,b⟩,hx2⟩ hlen;obtain rfl:pre=[]:=List.eq_nil_of_length_eq_zero (by simpa using hlen);rw [hwt] at hx2;obtain ⟨rfl,rfl⟩:a=0∧b=1:=by simpa using hx2
  dsimp only
  repeat' (first|(refine shX ?_;first|refine zy rfl (zK (k:=1) zf rfl rfl rfl rfl rfl rfl rfl rfl (Nat.lt_succ_self 1)) rfl rfl ?_|refine zq rfl (zK (k:=1) zf rfl rfl rfl rfl rfl rfl rfl rfl (Nat.lt_succ_self 1)) rfl rfl ?_)|(refine Yd ?_;first|refine XP (k:=1) (j:=0) zf rfl rfl rfl rfl rfl rfl rfl rfl rfl rfl rfl ?_)|refine sK ?_|refine sC (fun _=>?_) (fun _=>?_)|fail)
  exact ⟨tHZ,rfl⟩
 ·intro g3;refine zkO sgE (sgH u0 [x0]) tS ⟨tHZ,rfl⟩ ?_
  repeat' (first|refine zty 23 66 rfl rfl [(6,.box 0 0)] [(0,.cell (.pv (pb false)))] tS ⟨tHZ,rfl⟩ ?_|refine XL 3 ?_|refine zcV ?_|refine zy rfl (zM (k:=0) (j:=0) zf rfl rfl rfl rfl rfl rfl) rfl rfl ?_|refine zq rfl (zM (k:=0) (j:=0) zf rfl rfl rfl rfl rfl rfl) rfl rfl ?_|refine zy rfl (zM (k:=1) (j:=0) zf rfl rfl rfl rfl rfl rfl) rfl rfl ?_|refine zq rfl (zM (k:=1) (j:=0) zf rfl rfl rfl rfl rfl rfl) rfl rfl ?_|refine zpV 15 (u:=u0) rfl (fun K ρ w hf=>zgx (Xz (j:=61) hf rfl) (p:=tys []) (i:=0) rfl rfl) ?_|refine zy rfl (zjC h2 hub zf rfl rfl rfl rfl rfl rfl rfl rfl) rfl rfl ?_|refine zy rfl (zlW h3 zf rfl rfl rfl rfl rfl rfl rfl rfl) rfl rfl ?_|(refine shC ?_;first|refine qC f0 ?_|refine qC f1 ?_)|(refine shX ?_;first|refine zy rfl (zo zf rfl rfl rfl rfl rfl rfl (by decide) rfl) rfl rfl ?_|refine zq rfl (zo zf rfl rfl rfl rfl rfl rfl (by decide) rfl) rfl rfl ?_|refine zy rfl (zK (k:=0) zf rfl rfl rfl rfl rfl rfl rfl rfl (Nat.zero_lt_succ 1)) rfl rfl ?_|refine zq rfl (zK (k:=0) zf rfl rfl rfl rfl rfl rfl rfl rfl (Nat.zero_lt_succ 1)) rfl rfl ?_|refine zy rfl (zK (k:=1) zf rfl rfl rfl rfl rfl rfl rfl rfl (Nat.lt_succ_self 1)) rfl rfl ?_|refine zq rfl (zK (k:=1) zf rfl rfl rfl rfl rfl rfl rfl rfl (Nat.lt_succ_self 1)) rfl rfl ?_)|refine sK ?_|refine sC (fun _=>?_) (fun _=>?_)|fail)
  exact ⟨rfl,retq rfl rfl⟩
set_option maxHeartbeats 20000000
theorem zjz:PTells (.slc 1 [.base (.slice none 0 0),.slc 4 [yJ zbz] true] true) (sts [[],[zbz]]) :=
 zdT (Xq (ql (Qz 4 false) XR) (Xq (ql (zqE zbz) XR) zcg))
theorem zou:PTells (.slc 1 [.base (.slice none 0 0),.base (.slice none 0 0)] true) (sts [[],[]]) :=
 zdT (Xq (ql (Qz 4 false) XR) (Xq (ql (Qz 4 false) XR) zcg))
theorem zl3:ACall Tryz.prog 4 [] (pb true):=by
 have cA:=zjb gA (okE (.inl rfl)) zxr;have cB:=zro;have cS:=zsB;have hi:=zpm ⟨8,0,⟨0,0,0,false⟩⟩ ⟨46,0,⟨0,0,0,false⟩⟩;refine zi zf Tryz.func4 rfl zws Tryz.ntmps4 zwy63 _ rfl (fun hw gB hgB=>?_)
 repeat' (first|refine Qq 18 hi rfl ?_|refine Qq 26 hi rfl ?_|refine Qq 42 hi rfl ?_|refine Qq 21 zjz rfl ?_|refine Qq 27 zou rfl ?_|refine Qq 45 zjz rfl ?_|(refine shC ?_;first|refine qC cA ?_|refine qC cB ?_|refine qC cS ?_)|refine sK ?_|refine sC (fun _=>?_) (fun _=>?_)|fail)
 exact retq rfl rfl
def zhL (g:Img):Bool:=za9 g||decide (24 < (g.methods.length:Int))
theorem zwk74 {G:Prop} (h:G:=by repeat' (first|(have:=b0;refine Qq 15 (Qz 1 false) rfl ?_)|(have:=b0;refine Qq 19 (Qz 1 false) rfl ?_)|(have:=b0;refine XL 1 ?_)|(have:=b0;refine zcV ?_)|(refine shC ?_;first|refine qC c1 ?_)|refine sK ?_|refine sC (fun _=>?_) (fun _=>?_)|(have:=b1;exact retq rfl (by simp [zC,zhL,hl]))|exact retq rfl rfl|fail)):G:=h
theorem zlg (g:Img):ACall Tryz.prog 5 [zO g,.base (.slice none 0 0)] (pb (zhL g)):=by
 have c1:=zrq g;cases hl:za9 g
 ·rw [hl] at c1;have hh:zhL g=decide (24 < (((g.methods.map yh).length:Nat):Int)):=by rw [zhL,hl,List.length_map];rfl
  rw [hh];generalize hd:decide (24 < (((g.methods.map yh).length:Nat):Int))=d;cases d
  ·refine zi zf Tryz.func5 rfl zws Tryz.ntmps5 zwy63 _ rfl (fun hw gB hgB=>?_);have b0:=();exact zwk74
  ·refine zi zf Tryz.func5 rfl zws Tryz.ntmps5 zwy63 _ rfl (fun hw gB hgB=>?_);have b0:=();exact zwk74
 ·rw [hl] at c1;refine zi zf Tryz.func5 rfl zws Tryz.ntmps5 zwy63 _ rfl (fun hw gB hgB=>?_);have b1:=();exact zwk74
theorem zwk75 {G:Prop} (h:G:=by repeat' (first|(have:=b0;refine Qq 24 (Qz 1 false) rfl ?_)|(refine shC ?_;first|refine qC c0 ?_|refine qC c1 ?_|(have:=b1;refine qC c2 ?_)|(have:=b2;refine qC c3 ?_)|(have:=b2;refine qC c4 ?_))|refine sK ?_|refine sC (fun _=>?_) (fun _=>?_)|exact retq rfl rfl|fail)):G:=h
theorem zfZ (g:Img) (hx:OkA g) (m:Int):ACall Tryz.prog 3 [zO g,pi m] (pb true):=by
 have c0:=zl3;have c1:=zlg g;have c2:=zm2 g hx m;cases hv:zhL g
 ·rw [hv] at c1;cases hr:VJ g m with
  | error e =>
   rw [hr] at c2;have hnz:(e.2 != 0)=true:=by simpa using zvS hr
   refine zi zf Tryz.func3 rfl zws Tryz.ntmps3 zwy63 _ rfl (fun hw gB hgB=>?_);have b0:=();have b1:=();exact zwk75
  | ok s =>
   rw [hr] at c2;have c3:=zjb g hx hr;have c4:=zpQ g s.st s.st (VH (Xc (Qo (zv3 hr).1).1).formed);rw [zpE] at c4;refine zi zf Tryz.func3 rfl zws Tryz.ntmps3 zwy63 _ rfl (fun hw gB hgB=>?_);have b1:=();have b2:=();exact zwk75
 ·rw [hv] at c1;refine zi zf Tryz.func3 rfl zws Tryz.ntmps3 zwy63 _ rfl (fun hw gB hgB=>?_);exact zwk75
end Go.Cg
