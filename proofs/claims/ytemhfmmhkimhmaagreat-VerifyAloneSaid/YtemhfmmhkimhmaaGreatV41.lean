/- A part of the walks by abstract values: no statement of its own. -/
import Derived.Test.YtemhfmmhkimhmaaGreatV28
import Derived.Test.YtemhfmmhkimhmaaGreatV37
import Derived.Test.YtemhfmmhkimhmaaGreatV23
set_option linter.unusedVariables false
set_option linter.unusedSimpArgs false
namespace Go.Cg
set_option linter.unusedSectionVars false
open Go.Proofs
structure OutEq (g h:Img):Prop where
 t:h.types=g.types
 f:h.fields=g.fields
 e:h.entry=g.entry
 n:h.methods.length=g.methods.length
 m1:∀ a:Int,(mAt h a).name=(mAt g a).name
 m2:∀ a:Int,(mAt h a).owner=(mAt g a).owner
 m3:∀ a:Int,(mAt h a).flags=(mAt g a).flags
 m4:∀ a:Int,(mAt h a).params=(mAt g a).params
 m5:∀ a:Int,(mAt h a).ret=(mAt g a).ret
 m6:∀ a:Int,(mAt h a).locals=(mAt g a).locals
section
variable {g h:Img} (H:OutEq g h)
include H
theorem zb5:typeAt h=typeAt g:=by funext t;unfold typeAt;rw [H.t]
theorem WU:zV h=zV g:=by funext t;unfold zV;rw [zb5 H]
theorem zdP:Yb h=Yb g:=by funext t;unfold Yb;rw [zb5 H]
theorem zlb:there h=there g:=by funext t;unfold there;rw [H.t]
theorem zjW:yP h=yP g:=by funext t;unfold yP;rw [zb5 H]
theorem zrp:Xb h=Xb g:=by funext t;unfold Xb;rw [zb5 H]
theorem ztg:∀ (n:Nat) (t:Int) (out:List Int),zaI h n t out=zaI g n t out
 | 0,_,_=>rfl
 | n + 1,t,out=>by
  rw [zaI,zaI,zb5 H];split
  ·split
   ·rfl
   ·exact ztg n _ _
  ·rfl
theorem zlV:up h=up g:=by funext t;unfold up;rw [H.t,ztg H]
theorem zv5:zaH h=zaH g:=by funext a b;unfold zaH;rw [zlb H]
theorem zjN:Xx h=Xx g:=by funext a b;unfold Xx;rw [zjW H,zv5 H]
theorem zwc:zmx h=zmx g:=by funext a;unfold zmx;rw [zlV H,zjN H]
theorem zp1:∀ (n i:Nat) (met:List Int),zeb h n i met=zeb g n i met
 | 0,_,_=>rfl
 | n + 1,i,met=>by
  rw [zeb,zeb,zjN H];split
  ·exact zp1 n _ _
  ·rfl
theorem zv3:zju h=zju g:=by funext a;unfold zju;rw [H.t,zp1 H,zwc H]
theorem zoc:Zo h=Zo g:=by funext a;unfold Zo;rw [H.t,zv3 H]
theorem zem:fieldsOf h=fieldsOf g:=by funext a;unfold fieldsOf;rw [H.f,zlb H]
theorem Xq:methodsOf h=methodsOf g:=by
 funext a;show (nums h.methods.length).filter (fun i=>there h a&&(mAt h i).owner==a)=(nums g.methods.length).filter (fun i=>there g a&&(mAt g i).owner==a)
 rw [H.n,zlb H];simp only [H.m2]
theorem zsY:zaX h=zaX g:=by funext a;unfold zaX;rw [H.f,WU H]
theorem zkm:partsOf h=partsOf g:=by funext a;unfold partsOf;rw [H.f,zem H,zsY H]
theorem zph:zb4 h=zb4 g:=by funext a b;unfold zb4;rw [zkm H]
theorem znh:∀ (n i:Nat) (met:List Int),Vz h n i met=Vz g n i met
 | 0,_,_=>rfl
 | n + 1,i,met=>by
  rw [Vz,Vz,zph H];split
  ·exact znh n _ _
  ·rfl
theorem zvW:zia h=zia g:=by funext a;unfold zia;rw [H.t,H.f,znh H,zkm H]
theorem zuh:zam h=zam g:=by
 funext a;unfold zam;rw [zem H,WU H,zvW H];have:zcs h=zcs g:=by funext k i;unfold zcs;rw [H.f]
 rw [this]
theorem zsX:QE h=QE g:=by
 funext t td;unfold QE WH Vk;have:VB h=VB g:=by funext l i;unfold VB;rw [WU H]
 rw [this,WU H,zrp H,zlV H,zb5 H,zoc H]
theorem zsq:Vl h=Vl g:=by
 funext t td;unfold Vl;have e1:Xt h=Xt g:=by funext a b c;unfold Xt;rw [H.t]
 have e2:Xr h=Xr g:=by funext a b c;unfold Xr fName;rw [H.f]
 have e3:YF h=YF g:=by
  funext l i k;show (!((mAt h (l.getD i 0)).name.toList==(mAt h (l.getD k 0)).name.toList&&XV (mAt h (l.getD i 0)) (mAt h (l.getD k 0))))=(!((mAt g (l.getD i 0)).name.toList==(mAt g (l.getD k 0)).name.toList&&XV (mAt g (l.getD i 0)) (mAt g (l.getD k 0))))
  simp only [XV,H.m1,H.m3,H.m4,H.m5]
 rw [e1,e2,e3,H.t,zem H,Xq H]
theorem zrC:Zi h=Zi g:=by funext t;unfold Zi;rw [H.t,zsX H,zsq H,zuh H]
theorem zsU (hg:yh g=true) (hh:yh h=true):QG h=QG g:=by unfold QG;rw [hg,hh,H.t,zrC H]
theorem ztM:ZV h=ZV g:=by funext t;unfold ZV;rw [H.f]
theorem zng:∀ (n:Nat) (t:Ty),Xa h n t=Xa g n t
 | 0,_=>rfl
 | n + 1,t=>by
  rw [Xa,Xa,ztM H];have:(fun f:Fd=>Xa h n f.ty)=fun f=>Xa g n f.ty:=by funext f;exact zng n _
  rw [this]
theorem znH:Zw h=Zw g:=by funext t;unfold Zw;rw [H.t,zng H]
theorem zvR:objT h=objT g:=by
 funext t;unfold objT;have:fcs h=fcs g:=by funext l;unfold fcs;rw [znH H]
 rw [zlV H,ztM H,this]
theorem zpW:qE h=qE g:=by funext t;unfold qE;rw [WU H]
theorem zqG (hg:yh g=true) (hh:yh h=true):YK h=YK g:=by
 unfold YK Yz;have:Yr h=Yr g:=by funext t;unfold Yr;rw [WU H,znH H,zvR H]
 rw [zsU H hg hh,zpW H,this,H.t,H.f]
theorem zsQ:Ym h=Ym g:=by funext t;unfold Ym;rw [H.t,zjW H,zlV H]
theorem zfc:zaa h=zaa g:=by
 have:Vw h=Vw g:=by funext a b;unfold Vw;rw [zlV H,zsQ H]
 funext a b;unfold zaa;rw [this]
theorem zlM:Vs h=Vs g:=by funext m;unfold Vs;rw [H.m3]
theorem zvG:alk h=alk g:=by funext a b;unfold alk zbV XV;simp only [H.m1,H.m3,H.m4,H.m5]
theorem ztU:tbl h=tbl g:=by
 have e1:Yp h=Yp g:=by
  have:fresh h=fresh g:=by funext m;unfold fresh;rw [H.m3]
  funext o m;unfold Yp;rw [zlM H,zvG H,this]
 have e2:ZE h=ZE g:=by funext o m;unfold ZE;rw [e1]
 have e3:zhn h=zhn g:=by funext l;unfold zhn;rw [e2,Xq H]
 funext t;unfold tbl;rw [e3,zlV H]
theorem zvd:Qe h=Qe g:=by funext m;unfold Qe;rw [H.m3]
theorem zst:Xc h=Xc g:=by funext m;unfold Xc;rw [H.m2]
theorem zur:Yh h=Yh g:=by funext m;unfold Yh;rw [zlM H,WU H,zst H,ztU H]
theorem zp5:Va h=Va g:=by funext t m;unfold Va;rw [zur H,ztU H]
theorem zuT:Ql h=Ql g:=by
 have e1:does h=does g:=by funext a b;unfold does;rw [zlM H,zvG H]
 have e2:zeW h=zeW g:=by funext a b;unfold zeW;rw [zlV H,Xq H,e1]
 have e3:XL h=XL g:=by funext a b;unfold XL;rw [e2,zp5 H]
 funext t m;unfold Ql;rw [WU H,zst H,zlM H,e3,zp5 H]
theorem ztX:QI h=QI g:=by funext t w fs;unfold QI;rw [ztU H,zvd H,Xq H]
theorem zwB:stE h=stE g:=by
 have:zl1 (mAt h h.entry)=zl1 (mAt g g.entry):=by rw [H.e];simp only [zl1,H.m3,H.m4,H.m5]
 unfold stE;rw [this,H.e]
theorem zvH:∀ l,stD h l=stD g l
 | []=>zwB H
 | t::l=>by
  have:zkN h=zkN g:=by funext a;unfold zkN;rw [WU H,Xq H]
  rw [stD,stD,this,zvH l]
theorem zvD (W:Int->Bool):∀ l,stC h W l=stC g W l
 | []=>by rw [stC,stC,H.t,zvH H]
 | t::l=>by
  have:zrg h=zrg g:=by funext w a;unfold zrg;rw [WU H,H.t]
  rw [stC,stC,this,zvD W l]
theorem zvk (m:Me):WZ h m=WZ g m:=by unfold WZ;rw [WU H,Xq H,H.t]
theorem ztB (m:Me):YJ h m=YJ g m:=by unfold YJ;rw [zpW H]
theorem zva (m:Me):Qr h m=Qr g m:=by unfold Qr;rw [zdP H]
theorem zoh (a:Int):Qr h (mAt h a)=Qr g (mAt g a):=by unfold Qr;rw [zdP H,H.m2,H.m3,H.m4]
theorem zmi:zcx h=zcx g:=by funext a b;unfold zcx;rw [zfc H]
theorem zlm:YG h=YG g:=by funext t;unfold YG;rw [zfc H]
theorem zmw:ZG h=ZG g:=by funext t l;unfold ZG;rw [zmi H]
theorem zqX:Zt h=Zt g:=by funext f b;unfold Zt;rw [zdP H,zfc H]
theorem zqx (k:Int) (a:Int):YW k (mAt h a)=YW k (mAt g a):=by unfold YW;rw [H.m5]
theorem zwC:fAt h=fAt g:=by funext a;unfold fAt;rw [H.f]
theorem zwH:tAt h=tAt g:=by funext a;unfold tAt;rw [H.t]
theorem zwZ (ar:List Ty) (m:Me) (x:Ins):doS h ar m x=doS g ar m x:=by
 have e1:qK h m x=qK g m x:=by
  unfold qK;dsimp only;simp only [zmw H,zoh H,zqx H,zdP H,zwH H,H.m2,H.m3,H.m4]
 have e2:yA h m x=yA g m x:=by
  unfold yA;dsimp only;simp only [zdP H,Xq H,zfc H,H.n,H.m2,H.m3,H.m4,H.m5]
 have e3:yM h m x=yM g m x:=by unfold yM;simp only [zlm H,H.m3]
 have e4:yG h m x=yG g m x:=by unfold yG;dsimp only;simp only [zlm H,zqX H,zwC H]
 unfold doS;rw [e1,e2,e3,e4];unfold Zb qF Zc yK yD ZL;simp only [zlm H,zmw H]
end
end Go.Cg
namespace Go.Cg
open Go.Proofs
def Vq (g:Img) (o:Int) (m:Me):Img:={ g with methods:=g.methods.set o.toNat m }
structure LooksM (x m:Me):Prop where
 m1:m.name=x.name
 m2:m.owner=x.owner
 m3:m.flags=x.flags
 m4:m.params=x.params
 m5:m.ret=x.ret
 m6:m.locals=x.locals
theorem zhM {g:Img} {o:Int} {m:Me} (ho:o.toNat < g.methods.length) (a:Int):mAt (Vq g o m) a=if a.toNat=o.toNat then m else mAt g a:=by
 unfold mAt Vq;simp only [List.getD_eq_getElem?_getD,List.getElem?_set];by_cases h:o.toNat=a.toNat
 ·rw [if_pos h,if_pos h.symm,if_pos zwy62];rfl
 ·rw [if_neg h,if_neg (fun e=>h e.symm)]
theorem ziA {g:Img} {o:Int} {m:Me} (ho:o.toNat < g.methods.length) (hl:LooksM (mAt g o) m):OutEq g (Vq g o m):=by
 have key:∀ {α:Type} (p:Me->α),p m=p (mAt g o)->∀ a,p (mAt (Vq g o m) a)=p (mAt g a):=by
  intro α p hp a;rw [zhM ho];split
  ·rename_i h;have:mAt g a=mAt g o:=by unfold mAt;rw [h]
   rw [this,hp]
  ·rfl
 exact ⟨rfl,rfl,rfl,by simp [Vq],key _ hl.m1,key _ hl.m2,key _ hl.m3,key _ hl.m4,key _ hl.m5,key _ hl.m6⟩
theorem zmO {g h:Img} (ht:h.types.length=g.types.length) (hf:h.fields.length=g.fields.length) (hn:h.methods.length=g.methods.length) (m:Me):yY h m=yY g m:=by
 have e1:codeOk h m=codeOk g m:=by funext x;unfold codeOk;rw [ht,hf,hn]
 have e2:Zl h=Zl g:=by funext c;unfold Zl;rw [ht]
 unfold yY Zz;rw [e1,e2,ht]
theorem znD {g:Img} {o:Int} {m:Me} (hg:yh g=true) (ho:o.toNat < g.methods.length) (hl:LooksM (mAt g o) m) (hm:yY g m=true):yh (Vq g o m)=true:=by
 have H:=ziA ho hl;have hmt:∀ i:Nat,zbl g i=true->zbl (Vq g o m) i=true:=by
  intro i hi;have own:∀ k:Nat,((Vq g o m).methods.getD k default).owner=(g.methods.getD k default).owner:=fun k=>H.m2 (k:Int)
  simp only [zbl,Bool.and_eq_true] at hi ⊢;rw [own i,own (i - 1),H.t];refine ⟨hi.1,?_⟩;rw [zmO (by rw [H.t]) (by rw [H.f]) H.n];have e:(Vq g o m).methods.getD i default=if i=o.toNat then m else mAt g (i:Int):=zhM ho (i:Int)
  rw [e];split
  ·exact hm
  ·exact hi.2
 have hfl:zcV (Vq g o m)=zcV g:=by funext i;unfold zcV;rw [H.f,H.t]
 unfold yh at hg ⊢;rw [H.t,H.f,H.e,H.n,hfl];simp only [Bool.and_eq_true,List.all_eq_true,List.mem_range] at hg ⊢;exact ⟨hg.1,fun i hi=>hmt i (hg.2 i hi)⟩
theorem zgp (g:Img):∀ l:List Nat,(stM g l).2=0↔(∀ i∈l,WZ g (mAt g (i:Int))=true/\YJ g (mAt g (i:Int))=true)/\(stC g (fun t=>QI g t (Ql g t) (Zo g t)) (List.range g.types.length)).2=0
 | []=>by rw [stM];simp
 | i::l=>by
  rw [stM];cases h1:WZ g (mAt g (i:Int))
  ·simp [h1]
  ·cases h2:YJ g (mAt g (i:Int))
   ·simp [h1,h2]
   ·rw [if_pos rfl,if_pos rfl,zgp g l];constructor
    ·rintro ⟨a,b⟩;refine ⟨fun j hj=>?_,b⟩;rcases List.mem_cons.1 hj with rfl|hj
     ·exact ⟨h1,h2⟩
     ·exact a j hj
    ·rintro ⟨a,b⟩;exact ⟨fun j hj=>a j (List.mem_cons_of_mem _ hj),b⟩
theorem zbP {g:Img} (h:(yX g).2=0):zbk g=true/\(stM g (List.range g.methods.length)).2=0:=by
 unfold yX at h;split at h
 ·rename_i h1;exact ⟨h1,h⟩
 ·simp at h
theorem zdy {g:Img} (h:zbk g=true):yh g=true:=by
 cases hf:yh g with
 | true=>rfl
 | false=>simp [zbk,YK,Yz,QG,hf] at h
theorem zqS {g:Img} {o:Int} {m:Me} (hc:(yX g).2=0) (h0:0<=o) (ho:o.toNat < g.methods.length) (hl:LooksM (mAt g o) m) (hm:yY g m=true) (hfl:WZ g m=true) (hty:YJ g m=true):(yX (Vq g o m)).2=0:=by
 obtain ⟨h1,h2⟩:=zbP hc;have H:=ziA ho hl;have hg:=zdy h1;have hh:=znD hg ho hl hm;have e1:zbk (Vq g o m)=true:=by unfold zbk at h1 ⊢;rw [zqG H hg hh];exact h1
 have e2:(stM (Vq g o m) (List.range (Vq g o m).methods.length)).2=0:=by
  rw [zgp] at h2 ⊢;refine ⟨fun i hi=>?_,?_⟩
  ·rw [zvk H,ztB H,zhM ho];split
   ·exact ⟨hfl,hty⟩
   ·exact h2.1 i (by rw [H.n] at hi;exact hi)
  ·rw [zvD H,H.t];have:(fun t=>QI (Vq g o m) t (Ql (Vq g o m) t) (Zo (Vq g o m) t))=fun t=>QI g t (Ql g t) (Zo g t):=by
    funext t;rw [ztX H,zuT H,zoc H]
   rw [this];exact h2.2
 unfold yX;rw [e1,if_pos rfl];exact e2
end Go.Cg
namespace Go.Cg
set_option linter.unusedSectionVars false
open Go.Proofs
section
variable {g h:Img} (H:OutEq g h)
include H
theorem ztN:QK h=QK g:=by
 funext a b;unfold QK;first
  | rfl
  | (unfold ze7 zf8;rw [zfc H,zlV H,zdP H])
theorem zso:∀ (a b out:List Ty),zer h a b out=zer g a b out
 | x::a,y::b,out=>by
  rw [zer,zer,ztN H];split
  ·rfl
  ·exact zso a b _
 | [],[],_=>rfl
 | [],_::_,_=>rfl
 | _::_,[],_=>rfl
theorem zrK:Yn h=Yn g:=by funext a b;unfold Yn;rw [zso H]
theorem zuC (m:Me) (i:Int):tailV h m i=tailV g m i:=by unfold tailV WC;rw [zoh H,H.m5]
theorem zp6 (m:Me) (i:Int):XH h m i=XH g m i:=by unfold XH;rw [zuC H]
theorem zwh (m:Me):zcw h m=zcw g m:=by
 unfold zcw;have:(fun i:Nat=>XH h m i != 0)=fun i:Nat=>XH g m i != 0:=by funext i;rw [zp6 H]
 rw [this];split
 ·rw [zp6 H]
 ·rfl
theorem zwK (m:Me) (i to:Int) (l:List Ty) (s:VS):toV h m i to l s=toV g m i to l s:=by unfold toV;rw [zmi H,zrK H]
theorem zuP (m:Me) (i:Int) (l:List Ty) (s:VS):zd5 h m i l s=zd5 g m i l s:=by unfold zd5;simp only [zwK H]
theorem zv2 {k:Int} (hk:mAt h k=mAt g k) (i:Int) (s:VS):zej h k i s=zej g k i s:=by
 unfold zej stepS;rw [hk,zva H,zwZ H];split
 ·rfl
 ·rw [zuP H]
theorem zvE {k:Int} (hk:mAt h k=mAt g k):∀ (f i:Nat) (s:VS),goV h k f i s=goV g k f i s
 | 0,_,_=>rfl
 | f + 1,i,s=>by
  rw [goV,goV,zv2 H hk];split
  ·rfl
  ·exact zvE hk f _ _
theorem zqD {k:Int} (hk:mAt h k=mAt g k):Qh h k=Qh g k:=by unfold Qh;rw [hk,zwh H,zvE H hk]
end
def zlF:List Ins:=[⟨13,0,ty0⟩,⟨46,0,ty0⟩]
def Qk (m:Me):Me:={ m with code:=zlF,clauses:=[] }
theorem zg0 (m:Me):LooksM m (Qk m):=⟨rfl,rfl,rfl,rfl,rfl,rfl⟩
theorem zkO {g:Img} {m:Me} (h:yY g m=true):yY g (Qk m)=true:=by
 unfold yY Zz at h ⊢;simp only [Bool.and_eq_true,decide_eq_true_eq] at h ⊢;refine ⟨h.1,?_⟩;refine ⟨⟨⟨(show (((2:Nat):Int)<=160) by decide),?_⟩,rfl⟩,(show WM ((2:Nat):Int) []=true by decide)⟩;simp only [Qk,zlF,List.all_cons,List.all_nil,Bool.and_true,Bool.and_eq_true];constructor <;> rfl
theorem zpr {g:Img} {m:Me} (hn:0 < m.code.length) (h:WZ g m=true):WZ g (Qk m)=true:=by
 have e1:za9 (Qk m)=za9 m:=by
  have:(m.code.length==0)=false:=by rw [beq_eq_false_iff_ne];omega
  unfold za9;rw [this];rfl
 have e2:decide (0 < (Qk m).code.length)=decide (0 < m.code.length):=by rw [decide_eq_true hn];rfl
 unfold WZ at h ⊢;rw [e1,e2];exact h
theorem znt {g:Img} {m:Me} (h:YJ g m=true):YJ g (Qk m)=true:=by
 unfold YJ at h ⊢;simp only [Bool.and_eq_true] at h ⊢;refine ⟨⟨h.1.1,?_⟩,rfl⟩;simp only [Qk,zlF,List.all_cons,List.all_nil,Bool.and_true,Bool.and_eq_true];constructor <;> rfl
theorem zpI {g:Img} (hc:(yX g).2=0) {o:Int} (h0:0<=o) (ho:o.toNat < g.methods.length):WZ g (mAt g o)=true/\YJ g (mAt g o)=true:=by
 have h1:=(zbP hc).2;rw [zgp] at h1;have:=h1.1 o.toNat (List.mem_range.2 ho)
 rwa [show ((o.toNat:Nat):Int)=o by omega] at this
theorem zoQ {g:Img} (hc:(yX g).2=0) {k o:Int} (hk0:0<=k) (h0:0<=o) (ho:o.toNat < g.methods.length) (hko:o≠k) (hn:0 < (mAt g o).code.length) :
  (yX (Vq g o (Qk (mAt g o)))).2=0/\mAt (Vq g o (Qk (mAt g o))) k=mAt g k/\Qh (Vq g o (Qk (mAt g o))) k=Qh g k:=by
 have hf:yY g (mAt g o)=true:=zcg (zdy (zbP hc).1) ho;obtain ⟨f1,f2⟩:=zpI hc h0 ho;have e:mAt (Vq g o (Qk (mAt g o))) k=mAt g k:=by rw [zhM ho,if_neg zwy62]
 exact ⟨zqS hc h0 ho (zg0 _) (zkO hf) (zpr hn f1) (znt f2),e,zqD (ziA ho (zg0 _)) e⟩
end Go.Cg
namespace Go.Cg
open Go.Proofs
theorem zuD {n:Nat} {l:List Cl} (hc:(YM n l).2=0) {c:Cl} (hm:c∈l):c.hf.toNat < n/\(c.kind=2->c.filter.toNat < n):=by
 obtain ⟨j,hj,rfl⟩:=List.getElem_of_mem hm;have e:l.getD j default=l[j]:=zQ hj;have ha:=(zfR hc).1 j hj;have hok:=zc7 ha;have k2:=zmX hc hj (y:=⟨j,2,(l.getD j default).hf,(l.getD j default).ht⟩) (by unfold yL;simp);rw [e] at hok k2;have e1:=hok.h;have e2:=hok.h0;simp only at k2;refine ⟨by omega,fun hk=>?_⟩;have:=hok.f hk;omega
theorem zru:∀ k:Fin 76,1<=k.val->zao (ofI (k.val:Int)).2.2=true->yC (k.val:Int)=5:=by decide
theorem zjl {m:Me} {i:Int} (h:zao (zal m i)=true):yC (qy m i).op=5:=by
 unfold zal at h;split at h
 ·rename_i h1;simp only [Bool.and_eq_true,decide_eq_true_eq] at h1;have:=zru ⟨(qy m i).op.toNat,by omega⟩ (by simp only;omega);simp only [Int.toNat_of_nonneg (show 0<=(qy m i).op by omega)] at this;exact this h
 ·simp [zao] at h
theorem zr5 {g:Img} {m:Me} (hf:yY g m=true) {i:Int} (hi:i.toNat < m.code.length) (h:zao (zal m i)=true):0<=(qy m i).arg/\(qy m i).arg.toNat < m.code.length:=by
 have h5:=zjl h;unfold yY Zz at hf;simp only [Bool.and_eq_true] at hf;have hx:=List.all_eq_true.1 hf.2.1.1.2 (qy m i) (by unfold qy;rw [zQ hi];exact List.getElem_mem hi);unfold codeOk at hx;rw [h5] at hx;simp only [Bool.and_eq_true,beq_self_eq_true,if_true,decide_eq_true_eq,beq_iff_eq] at hx;have h0:0<=(qy m i).arg:=by
  have:=hx.1;unfold Xp at this;rw [h5] at this;split at this
  ·simp at this
  ·split at this
   ·simp at this
   ·rename_i h2;simp [zaV] at h2;omega
 have:=hx.2;exact ⟨h0,by omega⟩
end Go.Cg
