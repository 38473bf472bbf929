/- A part of the walks by abstract values: no statement of its own. -/
import Derived.Test.YtemhfmmhkimhmaaGreatI32
import Derived.Test.YtemhfmmhkimhmaaGreatI39
import Derived.Test.YtemhfmmhkimhmaaGreatI26
set_option linter.unusedVariables false
set_option linter.unusedSimpArgs false
namespace Go.Cg
set_option linter.unusedSectionVars false
open Go.Proofs
structure OutEq (g h:Img):Prop where
 t:h.types=g.types
 f:h.fields=g.fields
 e:h.entry=g.entry
 n:h.methods.length=g.methods.length
 m1:∀ a:Int,(mAt h a).name=(mAt g a).name
 m2:∀ a:Int,(mAt h a).owner=(mAt g a).owner
 m3:∀ a:Int,(mAt h a).flags=(mAt g a).flags
 m4:∀ a:Int,(mAt h a).params=(mAt g a).params
 m5:∀ a:Int,(mAt h a).ret=(mAt g a).ret
 m6:∀ a:Int,(mAt h a).locals=(mAt g a).locals
section
variable {g h:Img} (H:OutEq g h)
include H
theorem zb8:typeAt h=typeAt g:=by funext t;unfold typeAt;rw [H.t]
theorem WC:zW h=zW g:=by funext t;unfold zW;rw [zb8 H]
theorem zdR:Ye h=Ye g:=by funext t;unfold Ye;rw [zb8 H]
theorem zkN:there h=there g:=by funext t;unfold there;rw [H.t]
theorem zkH:yP h=yP g:=by funext t;unfold yP;rw [zb8 H]
theorem zsq:Xc h=Xc g:=by funext t;unfold Xc;rw [zb8 H]
theorem zuX:∀ (n:Nat) (t:Int) (out:List Int),zar h n t out=zar g n t out
 | 0,_,_=>rfl
 | n + 1,t,out=>by
  rw [zar,zar,zb8 H];split
  ·split
   ·rfl
   ·exact zuX n _ _
  ·rfl
theorem zov:up h=up g:=by funext t;unfold up;rw [H.t,zuX H]
theorem zw4:zav h=zav g:=by funext a b;unfold zav;rw [zkN H]
theorem zj0:XF h=XF g:=by funext a b;unfold XF;rw [zkH H,zw4 H]
theorem zwL:znA h=znA g:=by funext a;unfold znA;rw [zov H,zj0 H]
theorem zqn:∀ (n i:Nat) (met:List Int),zed h n i met=zed g n i met
 | 0,_,_=>rfl
 | n + 1,i,met=>by
  rw [zed,zed,zj0 H];split
  ·exact zqn n _ _
  ·rfl
theorem zwP:zjy h=zjy g:=by funext a;unfold zjy;rw [H.t,zqn H,zwL H]
theorem zmm:Zr h=Zr g:=by funext a;unfold Zr;rw [H.t,zwP H]
theorem zex:fieldsOf h=fieldsOf g:=by funext a;unfold fieldsOf;rw [H.f,zkN H]
theorem Xg:methodsOf h=methodsOf g:=by
 funext a;show (nums h.methods.length).filter (fun i=>there h a&&(mAt h i).owner==a)=(nums g.methods.length).filter (fun i=>there g a&&(mAt g i).owner==a)
 rw [H.n,zkN H];simp only [H.m2]
theorem ztR:za6 h=za6 g:=by funext a;unfold za6;rw [H.f,WC H]
theorem zj5:partsOf h=partsOf g:=by funext a;unfold partsOf;rw [H.f,zex H,ztR H]
theorem zo1:zcb h=zcb g:=by funext a b;unfold zcb;rw [zj5 H]
theorem zmy:∀ (n i:Nat) (met:List Int),Vg h n i met=Vg g n i met
 | 0,_,_=>rfl
 | n + 1,i,met=>by
  rw [Vg,Vg,zo1 H];split
  ·exact zmy n _ _
  ·rfl
theorem zwF:zjx h=zjx g:=by funext a;unfold zjx;rw [H.t,H.f,zmy H,zj5 H]
theorem ztL:zac h=zac g:=by
 funext a;unfold zac;rw [zex H,WC H,zwF H];have:zcm h=zcm g:=by funext k i;unfold zcm;rw [H.f]
 rw [this]
theorem zuh:QI h=QI g:=by
 funext t td;unfold QI WH Vt;have:Vz h=Vz g:=by funext l i;unfold Vz;rw [WC H]
 rw [this,WC H,zsq H,zov H,zb8 H,zmm H]
theorem ztg:Vw h=Vw g:=by
 funext t td;unfold Vw;have e1:XI h=XI g:=by funext a b c;unfold XI;rw [H.t]
 have e2:XD h=XD g:=by funext a b c;unfold XD fName;rw [H.f]
 have e3:YH h=YH g:=by
  funext l i k;show (!((mAt h (l.getD i 0)).name.toList==(mAt h (l.getD k 0)).name.toList&&Wj (mAt h (l.getD i 0)) (mAt h (l.getD k 0))))=(!((mAt g (l.getD i 0)).name.toList==(mAt g (l.getD k 0)).name.toList&&Wj (mAt g (l.getD i 0)) (mAt g (l.getD k 0))))
  simp only [Wj,H.m1,H.m3,H.m4,H.m5]
 rw [e1,e2,e3,H.t,zex H,Xg H]
theorem zsG:Zn h=Zn g:=by funext t;unfold Zn;rw [H.t,zuh H,ztg H,ztL H]
theorem ztm (hg:yh g=true) (hh:yh h=true):QF h=QF g:=by unfold QF;rw [hg,hh,H.t,zsG H]
theorem zsY:Ya h=Ya g:=by funext t;unfold Ya;rw [H.f]
theorem zmj:∀ (n:Nat) (t:Ty),QZ h n t=QZ g n t
 | 0,_=>rfl
 | n + 1,t=>by
  rw [QZ,QZ,zsY H];have:(fun f:Fd=>QZ h n f.ty)=fun f=>QZ g n f.ty:=by funext f;exact zmj n _
  rw [this]
theorem zmV:ZA h=ZA g:=by funext t;unfold ZA;rw [H.t,zmj H]
theorem zxg:objT h=objT g:=by
 funext t;unfold objT;have:fcs h=fcs g:=by funext l;unfold fcs;rw [zmV H]
 rw [zov H,zsY H,this]
theorem zqh:qE h=qE g:=by funext t;unfold qE;rw [WC H]
theorem zsL (hg:yh g=true) (hh:yh h=true):YN h=YN g:=by
 unfold YN Yz;have:Yr h=Yr g:=by funext t;unfold Yr;rw [WC H,zmV H,zxg H]
 rw [ztm H hg hh,zqh H,this,H.t,H.f]
theorem ztQ:Yw h=Yw g:=by funext t;unfold Yw;rw [H.t,zkH H,zov H]
theorem zfd:zab h=zab g:=by
 have:Vm h=Vm g:=by funext a b;unfold Vm;rw [zov H,ztQ H]
 funext a b;unfold zab;rw [this]
theorem zkU:Vy h=Vy g:=by funext m;unfold Vy;rw [H.m3]
theorem zwr:alk h=alk g:=by funext a b;unfold alk zbN Wj;simp only [H.m1,H.m3,H.m4,H.m5]
theorem zug:tbl h=tbl g:=by
 have e1:Yo h=Yo g:=by
  have:fresh h=fresh g:=by funext m;unfold fresh;rw [H.m3]
  funext o m;unfold Yo;rw [zkU H,zwr H,this]
 have e2:ZH h=ZH g:=by funext o m;unfold ZH;rw [e1]
 have e3:zhn h=zhn g:=by funext l;unfold zhn;rw [e2,Xg H]
 funext t;unfold tbl;rw [e3,zov H]
theorem zvJ:Qi h=Qi g:=by funext m;unfold Qi;rw [H.m3]
theorem zuy:Xf h=Xf g:=by funext m;unfold Xf;rw [H.m2]
theorem zvW:Yk h=Yk g:=by funext m;unfold Yk;rw [zkU H,WC H,zuy H,zug H]
theorem zqq:WY h=WY g:=by funext t m;unfold WY;rw [zvW H,zug H]
theorem zvr:Qr h=Qr g:=by
 have e1:does h=does g:=by funext a b;unfold does;rw [zkU H,zwr H]
 have e2:zfp h=zfp g:=by funext a b;unfold zfp;rw [zov H,Xg H,e1]
 have e3:XM h=XM g:=by funext a b;unfold XM;rw [e2,zqq H]
 funext t m;unfold Qr;rw [WC H,zuy H,zkU H,e3,zqq H]
theorem zuK:Qz h=Qz g:=by funext t w fs;unfold Qz;rw [zug H,zvJ H,Xg H]
theorem zxq:stE h=stE g:=by
 have:znK (mAt h h.entry)=znK (mAt g g.entry):=by rw [H.e];simp only [znK,H.m3,H.m4,H.m5]
 unfold stE;rw [this,H.e]
theorem zwx:∀ l,stD h l=stD g l
 | []=>zxq H
 | t::l=>by
  have:zkX h=zkX g:=by funext a;unfold zkX;rw [WC H,Xg H]
  rw [stD,stD,this,zwx l]
theorem zww (W:Int->Bool):∀ l,stC h W l=stC g W l
 | []=>by rw [stC,stC,H.t,zwx H]
 | t::l=>by
  have:zsj h=zsj g:=by funext w a;unfold zsj;rw [WC H,H.t]
  rw [stC,stC,this,zww W l]
theorem zvh (m:Me):Va h m=Va g m:=by unfold Va;rw [WC H,Xg H,H.t]
theorem zuz (m:Me):YG h m=YG g m:=by unfold YG;rw [zqh H]
theorem zvG (m:Me):Qs h m=Qs g m:=by unfold Qs;rw [zdR H]
theorem zm0 (a:Int):Qs h (mAt h a)=Qs g (mAt g a):=by unfold Qs;rw [zdR H,H.m2,H.m3,H.m4]
theorem zoj:zcu h=zcu g:=by funext a b;unfold zcu;rw [zfd H]
theorem zlN:YK h=YK g:=by funext t;unfold YK;rw [zfd H]
theorem zot:ZM h=ZM g:=by funext t l;unfold ZM;rw [zoj H]
theorem zru:Zt h=Zt g:=by funext f b;unfold Zt;rw [zdR H,zfd H]
theorem zrB (k:Int) (a:Int):YV k (mAt h a)=YV k (mAt g a):=by unfold YV;rw [H.m5]
theorem zxP:fAt h=fAt g:=by funext a;unfold fAt;rw [H.f]
theorem zxA:tAt h=tAt g:=by funext a;unfold tAt;rw [H.t]
theorem zxn (ar:List Ty) (m:Me) (x:Ins):doS h ar m x=doS g ar m x:=by
 have e1:qJ h m x=qJ g m x:=by
  unfold qJ;dsimp only;simp only [zot H,zm0 H,zrB H,zdR H,zxA H,H.m2,H.m3,H.m4]
 have e2:yx h m x=yx g m x:=by
  unfold yx;dsimp only;simp only [zdR H,Xg H,zfd H,H.n,H.m2,H.m3,H.m4,H.m5]
 have e3:yN h m x=yN g m x:=by unfold yN;simp only [zlN H,H.m3]
 have e4:yG h m x=yG g m x:=by unfold yG;dsimp only;simp only [zlN H,zru H,zxP H]
 unfold doS;rw [e1,e2,e3,e4];unfold Zb qG Ze yJ yC ZP;simp only [zlN H,zot H]
end
end Go.Cg
namespace Go.Cg
open Go.Proofs
def Xu (g:Img) (o:Int) (m:Me):Img:={ g with methods:=g.methods.set o.toNat m }
structure LooksM (x m:Me):Prop where
 m1:m.name=x.name
 m2:m.owner=x.owner
 m3:m.flags=x.flags
 m4:m.params=x.params
 m5:m.ret=x.ret
 m6:m.locals=x.locals
theorem zhL {g:Img} {o:Int} {m:Me} (ho:o.toNat < g.methods.length) (a:Int):mAt (Xu g o m) a=if a.toNat=o.toNat then m else mAt g a:=by
 unfold mAt Xu;simp only [List.getD_eq_getElem?_getD,List.getElem?_set];by_cases h:o.toNat=a.toNat
 ·rw [if_pos h,if_pos h.symm,if_pos zwy62];rfl
 ·rw [if_neg h,if_neg (fun e=>h e.symm)]
theorem zh7 {g:Img} {o:Int} {m:Me} (ho:o.toNat < g.methods.length) (hl:LooksM (mAt g o) m):OutEq g (Xu g o m):=by
 have key:∀ {α:Type} (p:Me->α),p m=p (mAt g o)->∀ a,p (mAt (Xu g o m) a)=p (mAt g a):=by
  intro α p hp a;rw [zhL ho];split
  ·rename_i h;have:mAt g a=mAt g o:=by unfold mAt;rw [h]
   rw [this,hp]
  ·rfl
 exact ⟨rfl,rfl,rfl,by simp [Xu],key _ hl.m1,key _ hl.m2,key _ hl.m3,key _ hl.m4,key _ hl.m5,key _ hl.m6⟩
theorem zmt {g h:Img} (ht:h.types.length=g.types.length) (hf:h.fields.length=g.fields.length) (hn:h.methods.length=g.methods.length) (m:Me):yX h m=yX g m:=by
 have e1:codeOk h m=codeOk g m:=by funext x;unfold codeOk;rw [ht,hf,hn]
 have e2:Zo h=Zo g:=by funext c;unfold Zo;rw [ht]
 unfold yX Zv;rw [e1,e2,ht]
theorem zou {g:Img} {o:Int} {m:Me} (hg:yh g=true) (ho:o.toNat < g.methods.length) (hl:LooksM (mAt g o) m) (hm:yX g m=true):yh (Xu g o m)=true:=by
 have H:=zh7 ho hl;have hmt:∀ i:Nat,zaX g i=true->zaX (Xu g o m) i=true:=by
  intro i hi;have own:∀ k:Nat,((Xu g o m).methods.getD k default).owner=(g.methods.getD k default).owner:=fun k=>H.m2 (k:Int)
  simp only [zaX,Bool.and_eq_true] at hi ⊢;rw [own i,own (i - 1),H.t];refine ⟨hi.1,?_⟩;rw [zmt (by rw [H.t]) (by rw [H.f]) H.n];have e:(Xu g o m).methods.getD i default=if i=o.toNat then m else mAt g (i:Int):=zhL ho (i:Int)
  rw [e];split
  ·exact hm
  ·exact hi.2
 have hfl:zcU (Xu g o m)=zcU g:=by funext i;unfold zcU;rw [H.f,H.t]
 unfold yh at hg ⊢;rw [H.t,H.f,H.e,H.n,hfl];simp only [Bool.and_eq_true,List.all_eq_true,List.mem_range] at hg ⊢;exact ⟨hg.1,fun i hi=>hmt i (hg.2 i hi)⟩
theorem zfX (g:Img):∀ l:List Nat,(stM g l).2=0↔(∀ i∈l,Va g (mAt g (i:Int))=true/\YG g (mAt g (i:Int))=true)/\(stC g (fun t=>Qz g t (Qr g t) (Zr g t)) (List.range g.types.length)).2=0
 | []=>by rw [stM];simp
 | i::l=>by
  rw [stM];cases h1:Va g (mAt g (i:Int))
  ·simp [h1]
  ·cases h2:YG g (mAt g (i:Int))
   ·simp [h1,h2]
   ·rw [if_pos rfl,if_pos rfl,zfX g l];constructor
    ·rintro ⟨a,b⟩;refine ⟨fun j hj=>?_,b⟩;rcases List.mem_cons.1 hj with rfl|hj
     ·exact ⟨h1,h2⟩
     ·exact a j hj
    ·rintro ⟨a,b⟩;exact ⟨fun j hj=>a j (List.mem_cons_of_mem _ hj),b⟩
theorem zbT {g:Img} (h:(yY g).2=0):zaU g=true/\(stM g (List.range g.methods.length)).2=0:=by
 unfold yY at h;split at h
 ·rename_i h1;exact ⟨h1,h⟩
 ·simp at h
theorem zdc {g:Img} (h:zaU g=true):yh g=true:=by
 cases hf:yh g with
 | true=>rfl
 | false=>simp [zaU,YN,Yz,QF,hf] at h
theorem zsN {g:Img} {o:Int} {m:Me} (hc:(yY g).2=0) (h0:0<=o) (ho:o.toNat < g.methods.length) (hl:LooksM (mAt g o) m) (hm:yX g m=true) (hfl:Va g m=true) (hty:YG g m=true):(yY (Xu g o m)).2=0:=by
 obtain ⟨h1,h2⟩:=zbT hc;have H:=zh7 ho hl;have hg:=zdc h1;have hh:=zou hg ho hl hm;have e1:zaU (Xu g o m)=true:=by unfold zaU at h1 ⊢;rw [zsL H hg hh];exact h1
 have e2:(stM (Xu g o m) (List.range (Xu g o m).methods.length)).2=0:=by
  rw [zfX] at h2 ⊢;refine ⟨fun i hi=>?_,?_⟩
  ·rw [zvh H,zuz H,zhL ho];split
   ·exact ⟨hfl,hty⟩
   ·exact h2.1 i (by rw [H.n] at hi;exact hi)
  ·rw [zww H,H.t];have:(fun t=>Qz (Xu g o m) t (Qr (Xu g o m) t) (Zr (Xu g o m) t))=fun t=>Qz g t (Qr g t) (Zr g t):=by
    funext t;rw [zuK H,zvr H,zmm H]
   rw [this];exact h2.2
 unfold yY;rw [e1,if_pos rfl];exact e2
end Go.Cg
namespace Go.Cg
set_option linter.unusedSectionVars false
open Go.Proofs
section
variable {g h:Img} (H:OutEq g h)
include H
theorem ztd:QK h=QK g:=by
 funext a b;unfold QK;first
  | rfl
  | (unfold zfC zgn;rw [zfd H,zov H,zdR H])
theorem zsZ:∀ (a b out:List Ty),zeq h a b out=zeq g a b out
 | x::a,y::b,out=>by
  rw [zeq,zeq,ztd H];split
  ·rfl
  ·exact zsZ a b _
 | [],[],_=>rfl
 | [],_::_,_=>rfl
 | _::_,[],_=>rfl
theorem zrJ:Yt h=Yt g:=by funext a b;unfold Yt;rw [zsZ H]
theorem zvB (m:Me) (i:Int):tailV h m i=tailV g m i:=by unfold tailV Xd;rw [zm0 H,H.m5]
theorem zxs (m:Me) (i to:Int) (l:List Ty) (s:VS):toV h m i to l s=toV g m i to l s:=by unfold toV;rw [zoj H,zrJ H]
end
theorem zpY {g:Img} (hc:(yY g).2=0) {o:Int} (h0:0<=o) (ho:o.toNat < g.methods.length):Va g (mAt g o)=true/\YG g (mAt g o)=true:=by
 have h1:=(zbT hc).2;rw [zfX] at h1;have:=h1.1 o.toNat (List.mem_range.2 ho)
 rwa [show ((o.toNat:Nat):Int)=o by omega] at this
end Go.Cg
namespace Go.Cg
open Go.Proofs
def yL (m:Me):Me:={ m with code:=m.code++[⟨1,0,ty0⟩,⟨34,m.code.length,ty0⟩] }
theorem zi5 (m:Me):LooksM m (yL m):=⟨rfl,rfl,rfl,rfl,rfl,rfl⟩
theorem za4 {m:Me} {i:Int} (hi:i.toNat < m.code.length):qj (yL m) i=qj m i:=by
 unfold qj yL;rw [List.getD_eq_getElem?_getD,List.getElem?_append_left hi,<-List.getD_eq_getElem?_getD]
theorem zdT (m:Me):qj (yL m) (m.code.length:Int)=⟨1,0,ty0⟩:=by
 unfold qj yL;rw [List.getD_eq_getElem?_getD,List.getElem?_append_right zwy62];simp
theorem zaO (m:Me):qj (yL m) ((m.code.length:Int) + 1)=⟨34,m.code.length,ty0⟩:=by
 unfold qj yL;rw [List.getD_eq_getElem?_getD,List.getElem?_append_right zwy62];rw [show ((m.code.length:Int) + 1).toNat - m.code.length=1 by omega];rfl
theorem YI (m:Me):(yL m).code.length=m.code.length + 2:=by simp [yL]
theorem zoQ {n n':Int} (h:n<=n') {c:Cl} (hc:Qg n c=0):Qg n' c=0:=by
 unfold Qg at hc ⊢;split at hc
 ·simp at hc
 ·rename_i h1;simp only [WJ,zbi,Bool.or_eq_true,decide_eq_true_eq,Bool.not_eq_true',Bool.and_eq_false_iff,decide_eq_false_iff_not,not_or,Decidable.not_not] at h1;rw [if_neg]
  ·exact hc
  ·simp only [WJ,zbi,Bool.or_eq_true,decide_eq_true_eq,Bool.not_eq_true',Bool.and_eq_false_iff,decide_eq_false_iff_not];omega
theorem zpJ {n n':Int} (h:n<=n') {l:List Cl} (hc:(Zu n l).2=0):(Zu n' l).2=0:=by
 have h6:¬ 6 < l.length:=fun h6=>by simp [Zu,h6] at hc
 obtain ⟨h1,h2⟩:=zdV hc;have:∀ j,j < l.length->Qj n' l j=0:=fun j hj=>by
  have hb:QB l j j=false:=by
   simp only [QB,List.any_eq_false,List.mem_range,Bool.not_eq_true',Bool.not_eq_false];exact fun k hk=>h2 k j hj hk
  rw [Qj,zoQ h (h1 j hj),hb];rfl
 rw [zeM h6 this]
theorem zmh {g:Img} {m:Me} (h:yX g m=true) (hn:m.code.length<=150):yX g (yL m)=true:=by
 unfold yX Zv at h ⊢;simp only [Bool.and_eq_true,decide_eq_true_eq] at h ⊢;obtain ⟨h1,⟨⟨_,h3⟩,h4⟩,h5⟩:=h;refine ⟨h1,⟨⟨by rw [YI];omega,?_⟩,h4⟩,?_⟩
 ·rw [List.all_eq_true] at h3 ⊢;intro x hx;have hx':x∈m.code\/x=⟨1,0,ty0⟩\/x=⟨34,m.code.length,ty0⟩:=by simpa [yL] using hx
  rcases hx' with hx'|rfl|rfl
  ·have:=h3 x hx';unfold codeOk at this ⊢;rw [Bool.and_eq_true] at this ⊢;refine ⟨this.1,?_⟩;have h2:=this.2;split
   ·rename_i h6;rw [if_pos h6] at h2;rw [YI];simp only [decide_eq_true_eq] at h2 ⊢;omega
   ·rename_i h6;rw [if_neg h6] at h2;exact h2
  ·rfl
  ·unfold codeOk;rw [Bool.and_eq_true];refine ⟨?_,?_⟩
   ·have e:yB 34=5:=by decide
    simp only [Xa,e,beq_iff_eq];rw [if_neg zwy62,if_neg (by simp [zad];omega),if_neg zwy63,if_neg zwy63]
   ·have e:yB 34=5:=by decide
    simp only [e,YI];simp;omega
 ·unfold XZ at h5 ⊢;rw [beq_iff_eq] at h5 ⊢;exact zpJ (by rw [YI];omega) h5
theorem zqW {g:Img} {m:Me} (hn:0 < m.code.length) (h:Va g m=true):Va g (yL m)=true:=by
 have e1:za7 (yL m)=za7 m:=by
  have e2:(m.code.length==0)=false:=by rw [beq_eq_false_iff_ne];omega
  have e3:((yL m).code.length==0)=false:=by rw [beq_eq_false_iff_ne,YI];omega
  unfold za7;rw [e2,e3];rfl
 have e2:decide (0 < (yL m).code.length)=decide (0 < m.code.length):=by rw [decide_eq_true hn,YI,decide_eq_true zwy62]
 unfold Va at h ⊢;rw [e1,e2];exact h
theorem zo0 {g:Img} {m:Me} (h:YG g m=true):YG g (yL m)=true:=by
 unfold YG at h ⊢;simp only [Bool.and_eq_true] at h ⊢;refine ⟨⟨h.1.1,?_⟩,h.2⟩;have:=h.1.2;simp only [yL,List.all_append,List.all_cons,List.all_nil,Bool.and_true,Bool.and_eq_true];exact ⟨this,rfl,rfl⟩
theorem zj1 {n:Int} {l:List Cl} (hc:(Zu n l).2=0) {i:Int} (hi:n<=i):qL l i=[]:=by
 cases h:qL l i with
 | nil=>rfl
 | cons y r =>
  obtain ⟨j,h1,h2,h3⟩:=zeE (show y∈qL l i by rw [h];simp);have:=(zjj hc h1 h2).1;simp only [zd7,Bool.and_eq_true,decide_eq_true_eq] at h3;omega
theorem zm4 {n:Int} {l:List Cl} (hc:(Zu n l).2=0) {i j:Int} (hi:n<=i) (hj:n<=j):zc3 l i j=true:=by
 unfold zc3 zjN;rw [zj1 hc hi,zj1 hc hj];rfl
theorem zhJ {m:Me} {i:Int} (hi:i < m.code.length):opV (yL m) i=opV m i:=by
 unfold opV;by_cases h0:i < 0
 ·simp [h0]
 ·rw [decide_eq_false h0,decide_eq_false (show ¬ ((yL m).code.length:Int)<=i by rw [YI];omega),decide_eq_false (show ¬ (m.code.length:Int)<=i by omega),za4 zwy62]
theorem zw6 {m:Me} {i:Int} (hi:(m.code.length:Int)<=i):opV m i=0:=by unfold opV;simp [hi]
theorem zvb {m:Me} {i:Int} (h0:0<=i) (hi:i < m.code.length) (h:onV m i=0):onV (yL m) i=0:=by
 have e:Qw (yL m) i=Qw m i:=by unfold Qw;rw [za4 zwy62]
 unfold onV at h ⊢;rw [e,za4 zwy62,YI];split at h
 ·simp at h
 ·rename_i h1;rw [if_neg]
  ·exact h
  ·simp only [Bool.and_eq_true,Bool.not_eq_true',decide_eq_false_iff_not,not_and,Decidable.not_not] at h1 ⊢;intro hn;have:=h1 hn;omega
theorem zrA {g h:Img} (H:OutEq g h) {m:Me} {i:Int} (h0:0<=i) (hi:i < m.code.length) (hl:YT g m i=0):YT h (yL m) i=0:=by
 have e0:=zhJ hi;unfold YT at hl ⊢;split at hl
 ·rename_i h1;rw [hl] at h1;simp at h1
 ·rename_i h1;have h1':onV m i=0:=by simpa using h1
  rw [zvb h0 hi h1'];split at hl
  ·rename_i h2;rw [hl] at h2;simp at h2
  ·rename_i h2;have h2':Zf m i=0:=by simpa using h2
   have e2:Zf (yL m) i=Zf m i:=by unfold Zf;rw [e0];rfl
   rw [e2,h2'];split at hl
   ·rename_i h3;rw [hl] at h3;simp at h3
   ·rename_i h3;have h3':tailV g m i=0:=by simpa using h3
    have e3:tailV h (yL m) i=0:=by
     rw [zvB H];unfold tailV at h3' ⊢;rw [e0];split
     ·rfl
     ·rename_i h4;rw [if_neg h4] at h3';split at h3'
      ·simp at h3'
      ·rename_i h5;have h6:i + 2 < m.code.length:=by
        rcases Int.lt_or_le (i + 2) m.code.length with h|h
        ·exact h
        ·rw [zw6 h] at h5;simp at h5
       have e4:Xd g (yL m) i=Xd g m i:=by unfold Xd;rw [za4 zwy62]
       rw [zhJ (show i + 1 < m.code.length by omega),zhJ h6,e4];have e5:(yL m).clauses=m.clauses:=rfl;have e6:(yL m).ret=m.ret:=rfl;rw [e5,e6,if_neg h5];exact h3'
    have e4:QJ (yL m) i=QJ m i:=by unfold QJ;rw [e0,zhJ zwy62]
    rw [e3,e4,hl];rfl
theorem zuA {g h:Img} (H:OutEq g h) {m:Me} (hn:0 < m.code.length) (hc:(Zu m.code.length m.clauses).2=0) (ha:(zbf g m).2=0):(zbf h (yL m)).2=0:=by
 have hno:∀ i:Nat,i < m.code.length->YT g m i=0:=by
  intro i hi;unfold zbf at ha;split at ha
  ·rename_i j hj;have:=List.find?_some hj;simp only [bne_iff_ne,ne_eq] at this;exact absurd ha this
  ·rename_i hf;have:=List.find?_eq_none.1 hf i (List.mem_range.2 hi);simpa using this
 have hb:zcn m=true:=by
  unfold zbf at ha;split at ha
  ·rename_i j hj;have:=List.find?_some hj;simp only [bne_iff_ne,ne_eq] at this;exact absurd ha this
  ·split at ha
   ·assumption
   ·simp at ha
 have k0:YT h (yL m) (m.code.length:Int)=0:=by
  have w:Qw (yL m) (m.code.length:Int)=0:=by unfold Qw;rw [zdT];rfl
  have o:opV (yL m) (m.code.length:Int)=1:=by
   unfold opV;rw [zdT,YI,decide_eq_false zwy62,decide_eq_false zwy62];rfl
  have e1:onV (yL m) (m.code.length:Int)=0:=by
   have hp:zc3 (yL m).clauses (m.code.length:Int) ((m.code.length:Int) + 1)=true:=zm4 hc zwy62 zwy62;unfold onV;rw [w,YI,hp,decide_eq_true zwy62];rfl
  have e2:Zf (yL m) (m.code.length:Int)=0:=by unfold Zf;rw [o];rfl
  have e3:tailV h (yL m) (m.code.length:Int)=0:=by unfold tailV;rw [o];rfl
  have e4:QJ (yL m) (m.code.length:Int)=0:=by unfold QJ;rw [o];rfl
  unfold YT;rw [e1,e2,e3,e4];rfl
 have k1:YT h (yL m) ((m.code.length:Int) + 1)=0:=by
  have w:Qw (yL m) ((m.code.length:Int) + 1)=1:=by unfold Qw;rw [zaO];rfl
  have o:opV (yL m) ((m.code.length:Int) + 1)=34:=by
   unfold opV;rw [zaO,YI,decide_eq_false zwy62,decide_eq_false zwy62];rfl
  have e1:onV (yL m) ((m.code.length:Int) + 1)=0:=by
   have hp:zc3 (yL m).clauses ((m.code.length:Int) + 1) (m.code.length:Int)=true:=zm4 hc zwy62 zwy62;unfold onV;rw [w,zaO];simp only;rw [hp];rfl
  have e2:Zf (yL m) ((m.code.length:Int) + 1)=0:=by unfold Zf;rw [o];rfl
  have e3:tailV h (yL m) ((m.code.length:Int) + 1)=0:=by unfold tailV;rw [o];rfl
  have e4:QJ (yL m) ((m.code.length:Int) + 1)=0:=by unfold QJ;rw [o];rfl
  unfold YT;rw [e1,e2,e3,e4];rfl
 have hall:(List.range (yL m).code.length).find? (fun i:Nat=>YT h (yL m) i != 0)=none:=by
  rw [List.find?_eq_none];intro i hi;have hi:=List.mem_range.1 hi;rw [YI] at hi;have:YT h (yL m) (i:Int)=0:=by
   by_cases h1:i < m.code.length
   ·exact zrA H zwy62 zwy62 (hno i h1)
   ·by_cases h2:i=m.code.length
    ·rw [h2];exact k0
    ·rw [show (i:Int)=(m.code.length:Int) + 1 by omega];exact k1
  rw [this];simp
 have hb':zcn (yL m)=true:=hb;unfold zbf;rw [hall];simp only;rw [hb'];rfl
structure MoreS (n:Nat) (s s':VS):Prop where
 l1:s.st.length=n
 l2:s.kn.length=n
 st:s'.st=s.st++[[],[]]
 kn:s'.kn=s.kn++[false,false]
 wk:s'.wk=s.wk
theorem Vd {n:Nat} {s s':VS} (h:MoreS n s s') {i:Int} (hi:i.toNat < n) (l:List Ty):MoreS n (qo i l s) (qo i l s'):=by
 refine ⟨by simp [qo,h.l1],by simp [qo,h.l2],?_,?_,h.wk⟩
 ·simp only [qo,h.st];rw [List.set_append_left _ _ (by rw [h.l1];exact hi)]
 ·simp only [qo,h.kn];rw [List.set_append_left _ _ (by rw [h.l2];exact hi)]
theorem zqs {n:Nat} {s s':VS} (h:MoreS n s s') {i:Int} (hi:i.toNat < n):Xe s' i=Xe s i:=by
 unfold Xe;rw [h.st,List.getD_eq_getElem?_getD,List.getElem?_append_left (by rw [h.l1];exact hi),<-List.getD_eq_getElem?_getD]
theorem zwk {n:Nat} {s s':VS} (h:MoreS n s s') {i:Int} (hi:i.toNat < n):s'.kn.getD i.toNat false=s.kn.getD i.toNat false:=by
 rw [h.kn,List.getD_eq_getElem?_getD,List.getElem?_append_left (by rw [h.l2];exact hi),<-List.getD_eq_getElem?_getD]
theorem zqw {n:Nat} {l:List Cl} (hc:(Zu n l).2=0) {c:Cl} (hm:c∈l):c.hf.toNat < n/\(c.kind=2->c.filter.toNat < n):=by
 obtain ⟨j,hj,rfl⟩:=List.getElem_of_mem hm;have e:l.getD j default=l[j]:=zQ hj;have ha:=(zdV hc).1 j hj;have hok:=zc7 ha;have k2:=zjj hc hj (y:=⟨j,2,(l.getD j default).hf,(l.getD j default).ht⟩) (by unfold yK;simp);rw [e] at hok k2;have e1:=hok.h;have e2:=hok.h0;simp only at k2;refine ⟨by omega,fun hk=>?_⟩;have:=hok.f hk;omega
theorem zsJ {n:Nat} {s s':VS} (h:MoreS n s s') {c:Cl} (h1:c.hf.toNat < n) (h2:c.kind=2->c.filter.toNat < n):MoreS n (YO s c) (YO s' c):=by
 unfold YO;by_cases k1:(c.kind==1)=true
 ·rw [if_pos k1,if_pos k1];exact Vd h h1 _
 ·rw [if_neg k1,if_neg k1];by_cases k2:(c.kind==2)=true
  ·rw [if_pos k2,if_pos k2];exact Vd (Vd h h1 _) (h2 (by simpa using k2)) _
  ·rw [if_neg k2,if_neg k2];exact Vd h h1 _
theorem ziY {n:Nat}:∀ (l:List Cl) {s s':VS},(∀ c∈l,c.hf.toNat < n/\(c.kind=2->c.filter.toNat < n))->MoreS n s s'->MoreS n (l.foldl YO s) (l.foldl YO s')
 | [],_,_,_,h=>h
 | c::l,_,_,hl,h=>ziY l (fun d hd=>hl d (List.mem_cons_of_mem _ hd)) (zsJ h (hl c zwy63).1 (hl c zwy63).2)
theorem zoH {m:Me} (hn:0 < m.code.length) (hc:(Zu m.code.length m.clauses).2=0):MoreS m.code.length (zbd m) (zbd (yL m)):=by
 refine ziY m.clauses (fun c hm=>zqw hc hm) (Vd (s:=⟨List.replicate m.code.length [],List.replicate m.code.length false,0⟩) (s':=⟨List.replicate (yL m).code.length [],List.replicate (yL m).code.length false,0⟩) ⟨List.length_replicate,List.length_replicate,?_,?_,rfl⟩ (i:=0) hn [])
 ·simp only [YI];rw [List.replicate_succ',List.replicate_succ',List.append_assoc];rfl
 ·simp only [YI];rw [List.replicate_succ',List.replicate_succ',List.append_assoc];rfl
theorem zqk {g h:Img} (H:OutEq g h) {m:Me} {n:Nat} {s s' s1:VS} (hs:MoreS n s s') {i to:Int} (ht:to.toNat < n) {l:List Ty} (h1:toV g m i to l s=.ok s1):∃ s1',toV h (yL m) i to l s'=.ok s1'/\MoreS n s1 s1':=by
 rw [zxs H];have e:zdO (yL m) i to=zdO m i to:=rfl;unfold toV at h1 ⊢;rw [e,zqs hs ht,zwk hs ht,hs.wk];split at h1
 ·cases h1
 ·rename_i k1;rw [if_neg k1];split at h1
  ·rename_i k2;rw [if_pos k2];split at h1
   ·rename_i k3;rw [if_pos k3];cases h1;exact ⟨_,rfl,hs.l1,hs.l2,hs.st,hs.kn,rfl⟩
   ·cases h1
  ·rename_i k2;rw [if_neg k2];split at h1
   ·rename_i k3;rw [if_pos k3];cases h1;exact ⟨_,rfl,Vd (s:={ s with wk:=s.wk + (1 + l.length) }) (s':={ s' with wk:=s.wk + (1 + l.length) }) ⟨hs.l1,hs.l2,hs.st,hs.kn,rfl⟩ ht l⟩
   ·rename_i k3;rw [if_neg k3];split at h1
    ·rename_i k4;rw [if_pos k4];cases h1;refine ⟨_,rfl,by simp [hs.l1],hs.l2,?_,hs.kn,rfl⟩;simp only [hs.st];rw [List.set_append_left _ _ (by rw [hs.l1];exact ht)]
    ·cases h1
theorem zrd:∀ k:Fin 76,1<=k.val->Vh (ofI (k.val:Int)).2.2=true->yB (k.val:Int)=5:=by decide
theorem zjI {m:Me} {i:Int} (h:Vh (Qw m i)=true):yB (qj m i).op=5:=by
 unfold Qw at h;split at h
 ·rename_i h1;simp only [Bool.and_eq_true,decide_eq_true_eq] at h1;have:=zrd ⟨(qj m i).op.toNat,by omega⟩ (by simp only;omega);simp only [Int.toNat_of_nonneg (show 0<=(qj m i).op by omega)] at this;exact this h
 ·simp [Vh] at h
theorem zj4 {g:Img} {m:Me} (hf:yX g m=true) {i:Int} (hi:i.toNat < m.code.length) (h:Vh (Qw m i)=true):0<=(qj m i).arg/\(qj m i).arg.toNat < m.code.length:=by
 have h5:=zjI h;unfold yX Zv at hf;simp only [Bool.and_eq_true] at hf;have hx:=List.all_eq_true.1 hf.2.1.1.2 (qj m i) (by unfold qj;rw [zQ hi];exact List.getElem_mem hi);unfold codeOk at hx;rw [h5] at hx;simp only [Bool.and_eq_true,beq_self_eq_true,if_true,decide_eq_true_eq,beq_iff_eq] at hx;have h0:0<=(qj m i).arg:=by
  have:=hx.1;unfold Xa at this;rw [h5] at this;split at this
  ·simp at this
  ·split at this
   ·simp at this
   ·rename_i h2;simp [zad] at h2;omega
 have:=hx.2;exact ⟨h0,by omega⟩
theorem zs4 {g h:Img} (H:OutEq g h) {k:Int} (hk:mAt h k=yL (mAt g k)) (hf:yX g (mAt g k)=true) {s s' s1:VS} {i:Nat} (hi:i < (mAt g k).code.length) (hon:onV (mAt g k) i=0) (hs:MoreS (mAt g k).code.length s s') (h1:zch g k i s=.ok s1):∃ s1',zch h k i s'=.ok s1'/\MoreS (mAt g k).code.length s1 s1':=by
 have hit:((i:Int)).toNat < (mAt g k).code.length:=by omega
 have e1:stepS h k i (Xe s' i)=stepS g k i (Xe s i):=by
  rw [zqs hs hit];unfold stepS;rw [hk,za4 hit,zvG H,zxn H];rfl
 unfold zch at h1 ⊢;rw [e1,hk];split at h1
 ·cases h1
 ·rename_i p hp;have ew:Qw (yL (mAt g k)) i=Qw (mAt g k) i:=by unfold Qw;rw [za4 hit]
  have hs0:MoreS (mAt g k).code.length { s with kn:=s.kn.set ((i:Int)).toNat true,wk:=s.wk + 1 } { s' with kn:=s'.kn.set ((i:Int)).toNat true,wk:=s'.wk + 1 }:=by
   refine ⟨hs.l1,by simp [hs.l2],hs.st,?_,by simp [hs.wk]⟩;simp only [hs.kn];rw [List.set_append_left _ _ (by rw [hs.l2];exact hit)]
  unfold zec at h1 ⊢;rw [ew,za4 hit];split at h1
  ·cases h1
  ·rename_i s2 h2;have k2:∃ s2',(if zb2 (Qw (mAt g k) i) then toV h (yL (mAt g k)) i (i + 1) p.2 { s' with kn:=s'.kn.set ((i:Int)).toNat true,wk:=s'.wk + 1 } else .ok { s' with kn:=s'.kn.set ((i:Int)).toNat true,wk:=s'.wk + 1 })=.ok s2'/\MoreS (mAt g k).code.length s2 s2':=by
    split at h2
    ·rename_i hnx;rw [if_pos hnx];refine zqk H hs0 ?_ h2;unfold onV at hon;rw [hnx] at hon;split at hon
     ·simp at hon
     ·rename_i hlt;simp at hlt;omega
    ·rename_i hnx;rw [if_neg hnx];cases h2;exact ⟨_,rfl,hs0⟩
   obtain ⟨s2',e2,hs2⟩:=k2;rw [e2];simp only;split at h1
   ·rename_i hpl;rw [if_pos hpl];exact zqk H hs2 (zj4 hf hit hpl).2 h1
   ·rename_i hpl;rw [if_neg hpl];cases h1;exact ⟨_,rfl,hs2⟩
theorem zqr (g:Img) (k:Int):∀ (a b i:Nat) (s:VS),goV g k (a + b) i s=(match goV g k a i s with|.error e=>.error e|.ok s'=>goV g k b (i + a) s')
 | 0,b,i,s=>by simp [goV]
 | a + 1,b,i,s=>by
  rw [show a + 1 + b=(a + b) + 1 by omega,goV,goV];cases zch g k i s with
  | error e=>rfl
  | ok s' =>
   simp only;rw [zqr g k a b (i + 1) s',show i + 1 + a=i + (a + 1) by omega]
theorem znQ {g h:Img} (H:OutEq g h) {k:Int} (hk:mAt h k=yL (mAt g k)) (hf:yX g (mAt g k)=true) (hon:∀ i:Nat,i < (mAt g k).code.length->onV (mAt g k) i=0):∀ (f i:Nat) {s s' s1:VS},i + f<=(mAt g k).code.length->MoreS (mAt g k).code.length s s'->goV g k f i s=.ok s1->∃ s1',goV h k f i s'=.ok s1'/\MoreS (mAt g k).code.length s1 s1'
 | 0,i,s,s',s1,_,hs,h1=>by cases h1;exact ⟨_,rfl,hs⟩
 | f + 1,i,s,s',s1,hi,hs,h1=>by
  rw [goV] at h1 ⊢;split at h1
  ·cases h1
  ·rename_i s2 h2;obtain ⟨s2',e2,hs2⟩:=zs4 H hk hf (show i < (mAt g k).code.length by omega) (hon i zwy62) hs h2;rw [e2];exact znQ H hk hf hon f (i + 1) zwy62 hs2 h1
theorem zop {g:Img} (hc:(yY g).2=0) {k:Int} (h0:0<=k) (hk:k.toNat < g.methods.length) (hn:0 < (mAt g k).code.length) (hn2:(mAt g k).code.length<=150) {s:VS} (hs:QD g k=.ok s) :
  (yY (Xu g k (yL (mAt g k)))).2=0/\mAt (Xu g k (yL (mAt g k))) k=yL (mAt g k)/\∃ s',QD (Xu g k (yL (mAt g k))) k=.ok s'/\s'.st=s.st++[[],[]]/\s.st.length=(mAt g k).code.length:=by
 have hf:yX g (mAt g k)=true:=zbZ (zdc (zbT hc).1) hk;have hr:(Zu (mAt g k).code.length (mAt g k).clauses).2=0:=by
  have:=hf;unfold yX Zv XZ at this;simp only [Bool.and_eq_true,beq_iff_eq] at this;exact this.2.2
 obtain ⟨f1,f2⟩:=zpY hc h0 hk;have H:=zh7 hk (zi5 (mAt g k));have e:mAt (Xu g k (yL (mAt g k))) k=yL (mAt g k):=by rw [zhL hk,if_pos rfl]
 refine ⟨zsN hc h0 hk (zi5 _) (zmh hf hn2) (zqW hn f1) (zo0 f2),e,?_⟩;unfold QD at hs ⊢;split at hs
 ·cases hs
 ·rename_i ha;have ha':(zbf g (mAt g k)).2=0:=by simpa using ha
  have hon:∀ i:Nat,i < (mAt g k).code.length->onV (mAt g k) i=0:=by
   intro i hi;have hl:YT g (mAt g k) i=0:=by
    unfold zbf at ha';split at ha'
    ·rename_i j hj;have:=List.find?_some hj;simp only [bne_iff_ne,ne_eq] at this;exact absurd ha' this
    ·rename_i hff;have:=List.find?_eq_none.1 hff i (List.mem_range.2 hi);simpa using this
   unfold YT at hl;split at hl
   ·rename_i h1;rw [hl] at h1;simp at h1
   ·rename_i h1;simpa using h1
  rw [e,zuA H hn hr ha',if_neg zwy63,YI,zqr];obtain ⟨s',e1,hs1⟩:=znQ H e hf hon (mAt g k).code.length 0 zwy62 (zoH hn hr) hs;rw [e1];simp only [Nat.zero_add];have hA:Xe s' ((mAt g k).code.length:Int)=[]:=by
   unfold Xe;rw [hs1.st,List.getD_eq_getElem?_getD,List.getElem?_append_right (by rw [hs1.l1];omega)];simp [hs1.l1]
  have hkn1:∀ b:Bool,(s'.kn.set (mAt g k).code.length b).getD ((mAt g k).code.length + 1) false=false:=by
   intro b;rw [hs1.kn,List.getD_eq_getElem?_getD,List.getElem?_set_ne zwy62,List.getElem?_append_right (by rw [hs1.l2];omega),hs1.l2];simp
  have w0:Qw (yL (mAt g k)) (((mAt g k).code.length:Nat):Int)=0:=by unfold Qw;rw [zdT];rfl
  have w1:Qw (yL (mAt g k)) ((((mAt g k).code.length + 1:Nat):Nat):Int)=1:=by
   have:((((mAt g k).code.length + 1:Nat):Nat):Int)=((mAt g k).code.length:Int) + 1:=by omega
   unfold Qw;rw [this,zaO];rfl
  have s0:zch (Xu g k (yL (mAt g k))) k (((mAt g k).code.length:Nat):Int) s'=.ok (qo (((mAt g k).code.length:Int) + 1) [] { s' with kn:=s'.kn.set (mAt g k).code.length true,wk:=s'.wk + 1 + 1 }):=by
   have e2:stepS (Xu g k (yL (mAt g k))) k (((mAt g k).code.length:Nat):Int) (Xe s' (((mAt g k).code.length:Nat):Int))=.ok ((),[]):=by
    rw [hA];unfold stepS;rw [e,zdT];rfl
   have k1:(s'.kn.set (((mAt g k).code.length:Nat):Int).toNat true).getD (((mAt g k).code.length:Int) + 1).toNat false=false:=by
    rw [Int.toNat_natCast,show (((mAt g k).code.length:Int) + 1).toNat=(mAt g k).code.length + 1 by omega];exact hkn1 true
   have t1:toV (Xu g k (yL (mAt g k))) (yL (mAt g k)) (((mAt g k).code.length:Nat):Int) (((mAt g k).code.length:Int) + 1) [] { s' with kn:=s'.kn.set (((mAt g k).code.length:Nat):Int).toNat true,wk:=s'.wk + 1 }=.ok (qo (((mAt g k).code.length:Int) + 1) [] { s' with kn:=s'.kn.set (mAt g k).code.length true,wk:=s'.wk + 1 + 1 }):=by
    unfold toV;simp only [k1,List.isEmpty_nil,Bool.true_or,Bool.not_true,Bool.false_eq_true,if_false,Bool.not_false,if_true];rw [if_neg zwy64];simp [Int.toNat_natCast]
   unfold zch;rw [e2,e];simp only [zec,w0];rw [if_pos (show zb2 0=true from rfl),t1];rfl
  have s1:∃ s2,zch (Xu g k (yL (mAt g k))) k (((mAt g k).code.length + 1:Nat):Int) (qo (((mAt g k).code.length:Int) + 1) [] { s' with kn:=s'.kn.set (mAt g k).code.length true,wk:=s'.wk + 1 + 1 })=.ok s2/\s2.st=s.st++[[],[]]:=by
   have hst:(s.st++[[],[]]).set ((mAt g k).code.length + 1) []=s.st++[[],[]]:=by
    rw [List.set_append_right _ _ (by rw [hs1.l1];omega),hs1.l1];simp
   have e0:((((mAt g k).code.length + 1:Nat):Nat):Int)=((mAt g k).code.length:Int) + 1:=by omega
   have hB:∀ (kn:List Bool) (wk:Int) (j:Int),j=((mAt g k).code.length:Int)\/j=((mAt g k).code.length:Int) + 1->Xe ⟨s.st++[[],[]],kn,wk⟩ j=[]:=by
    intro kn wk j hj;unfold Xe;simp only;rw [List.getD_eq_getElem?_getD,List.getElem?_append_right (by rw [hs1.l1];omega),hs1.l1];rcases hj with rfl|rfl
    ·simp
    ·rw [show (((mAt g k).code.length:Int) + 1).toNat - (mAt g k).code.length=1 by omega];rfl
   have eb:qo (((mAt g k).code.length:Int) + 1) [] { s' with kn:=s'.kn.set (mAt g k).code.length true,wk:=s'.wk + 1 + 1 }=⟨s.st++[[],[]],(s'.kn.set (mAt g k).code.length true).set ((mAt g k).code.length + 1) true,s'.wk + 1 + 1⟩:=by
    unfold qo;simp only [hs1.st];rw [show (((mAt g k).code.length:Int) + 1).toNat=(mAt g k).code.length + 1 by omega,hst]
   rw [eb];have e2:stepS (Xu g k (yL (mAt g k))) k (((mAt g k).code.length + 1:Nat):Int) (Xe ⟨s.st++[[],[]],(s'.kn.set (mAt g k).code.length true).set ((mAt g k).code.length + 1) true,s'.wk + 1 + 1⟩ (((mAt g k).code.length + 1:Nat):Int))=.ok ((),[]):=by
    rw [hB _ _ _ (.inr e0)];unfold stepS;rw [e,e0,zaO];rfl
   have t2:∀ (kn:List Bool) (wk:Int),∃ s2,toV (Xu g k (yL (mAt g k))) (yL (mAt g k)) (((mAt g k).code.length:Int) + 1) ((mAt g k).code.length:Int) [] ⟨s.st++[[],[]],kn,wk⟩=.ok s2/\s2.st=s.st++[[],[]]:=by
    intro kn wk;unfold toV;simp only [List.isEmpty_nil,Bool.true_or,Bool.not_true,Bool.false_eq_true,if_false];rw [if_pos zwy64,hB _ _ _ (.inl rfl)];exact ⟨_,rfl,rfl⟩
   unfold zch;rw [e2,e];simp only [zec,w1];rw [if_neg (show ¬ zb2 1=true by decide)];simp only;rw [if_pos (show Vh 1=true from rfl),e0,zaO];exact t2 _ _
  obtain ⟨s2,e3,e4⟩:=s1;refine ⟨s2,?_,e4,hs1.l1⟩;rw [goV,s0];simp only;rw [goV,e3];rfl
end Go.Cg
