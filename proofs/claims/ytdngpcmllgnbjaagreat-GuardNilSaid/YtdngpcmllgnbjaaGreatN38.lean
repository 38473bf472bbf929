/- A part of the walks by abstract values: no statement of its own. -/
import Derived.Test.YtdngpcmllgnbjaaGreatN37
import Derived.Test.YtdngpcmllgnbjaaGreatN31
import Derived.Test.YtdngpcmllgnbjaaGreatN7
import Derived.Test.YtdngpcmllgnbjaaGreatN29
import Derived.Test.YtdngpcmllgnbjaaGreatN6
import Derived.Test.YtdngpcmllgnbjaaGreatN25
import Derived.Test.YtdngpcmllgnbjaaGreatN34
import Derived.Test.YtdngpcmllgnbjaaGreatN36
import Derived.Test.YtdngpcmllgnbjaaGreatN16
import Derived.Test.YtdngpcmllgnbjaaGreatN35
import Derived.Test.YtdngpcmllgnbjaaGreatN19
import Derived.Test.YtdngpcmllgnbjaaGreatN13
set_option linter.unusedVariables false
set_option linter.unusedSimpArgs false
namespace Go.Cg
open Go.Proofs
set_option maxHeartbeats 20000000
abbrev Yp:List Ins:=[⟨13,0,⟨0,0,0,false⟩⟩]
abbrev Zd:List Ins:=[⟨8,7,⟨0,0,0,false⟩⟩,⟨46,0,⟨0,0,0,false⟩⟩]
abbrev meG (c:List Ins):Me:=⟨⟨#[109]⟩,0,1,[],⟨2,0,0,false⟩,[],1,c,[]⟩
abbrev oneG (c:List Ins):Img:=⟨[⟨⟨#[65]⟩,0,-1,[]⟩],[],[meG c],0⟩
theorem zjn {c:List Ins} (h:c=Yp∨c=Zd):(ZL (oneG c)).2=0:=by
 have h1:ZE (oneG c)=true:=by rcases h with rfl|rfl <;> decide +kernel
 have h2:Zb (oneG c)=true:=by rcases h with rfl|rfl <;> decide +kernel
 have h3:∀ j,j < (oneG c).types.length→ZW (oneG c) j=false:=by
  intro j hj
  have:j=0:=by have:(oneG c).types.length=1:=rfl;omega
  subst this;rcases h with rfl|rfl <;> decide +kernel
 rw [ZL,show YM (oneG c)=true by rw [YM,zbX h1 h2 h3];rfl]
 show (stM (oneG c) (List.range (oneG c).methods.length)).2=0
 rcases h with rfl|rfl <;> decide +kernel
theorem znk {c:List Ins} (h:c=Yp∨c=Zd):YM (oneG c)=true:=by
 have h1:ZE (oneG c)=true:=by rcases h with rfl|rfl <;> decide +kernel
 have h2:Zb (oneG c)=true:=by rcases h with rfl|rfl <;> decide +kernel
 have h3:∀ j,j < (oneG c).types.length→ZW (oneG c) j=false:=by
  intro j hj
  have:j=0:=by have:(oneG c).types.length=1:=rfl;omega
  subst this;rcases h with rfl|rfl <;> decide +kernel
 rw [YM,zbX h1 h2 h3];rfl
theorem okG {c:List Ins} (h:c=Yp∨c=Zd):OkA (oneG c):=by
 intro m hm x hx
 have hm2:m=meG c:=by simpa [oneG] using hm
 rw [hm2] at hx
 have hx2:x∈c:=hx
 rcases h with rfl|rfl <;> simp at hx2 <;> first|(rcases hx2 with rfl|rfl <;> exact ⟨by decide,by decide⟩)|(subst hx2;exact ⟨by decide,by decide⟩)
theorem zjK {c:List Ins} (h:c=Yp∨c=Zd):qI (oneG c)=[]:=by
 rw [qI,znk h];rfl
section
variable (g:Img) (lim:Int) (shp o1 o2:List PV) (fa hp us:Int) (ws tg:List PV) (X8 X13:Obj→Prop)
theorem Xu (o1 o2:List PV) (fa hp fr us:Int) (ws:List PV) (v8:Value):ACall Tryz.prog 89 [.ptr (yR o1 o2 fa hp fr us ws v8) 0] (.base (.int .u64 fr)):=by
 refine zf zh Tryz.func89 rfl (by kernel_rfl) Tryz.ntmps89 (by simp) _ rfl (fun hw gB hgB=>?_)
 repeat' (first|refine zq rfl (yK (b:=false) rfl Tryz.underlying103 rfl rfl) rfl rfl ?_|refine AD.step _ _ _ _ _ rfl (yK (b:=false) rfl Tryz.underlying103 rfl rfl) rfl rfl ?_|refine sA ?_|refine sC (fun _=>?_) (fun _=>?_)|fail)
 exact retq rfl rfl
abbrev zoV:List Nat:=[10,0,7,8,11,13]
theorem zjv (c:List Ins) (h:c=Yp∨c=Zd) (ht:tg.length=16397) (vs:Nat→Value) :
  ACallU Tryz.prog 94 [.box 10 0,.pv (pi 0),.pv zC,.pv (.base (.int .u64 0))] (bH (oneG c) 2 shp o1 o2 fa hp 13 us ws tg X8 X13 [] 0 zC++zD vs zoV) (fun _:Value=>.pv (pb true))
   (fun u=>mH (oneG c) 2 shp o1 o2 fa hp 13 us ws (zb3 tg 13) X8 X13 0 0 13 (.pv zC) u++zD vs zoV):=by
 have cA:=zgs (oneG c) (meG c) (by show ([]:List Ty).length≤1000;simp)
 have eA:zlx (Wj (Qe (oneG c) (meG c).owner) (yY (meG c).flags 1) (meG c).owner) (meG c).params=[]:=by rcases h with rfl|rfl <;> rfl
 rw [eA] at cA
 have hem:((oneG c).methods.map zM)[(0:Int).toNat]?=some (zM (meG c)):=rfl
 have cc:=fun vs=>zdC (oneG c) 2 shp o1 o2 fa hp 13 us ws tg X8 X13 13 [] (by decide) (by decide) (by show 13 + 256≤_;omega) vs
 refine zb5 zh Tryz.func94 rfl (by kernel_rfl) Tryz.ntmps94 (by simp) _ rfl (fun gB hw1=>?_)
 repeat' (first|refine sM ?_|refine zdu 20 (v:=.pv _) rfl (zmS _) ?_|refine zq (r:=.pv (.base (.int .u64 13))) rfl (yx (args:=fun ρ=>[.ptr (yR o1 o2 fa hp 13 us ws (ρ 8)) 0]) rfl (fun _=>rfl) (fun ρ=>Xu o1 o2 fa hp 13 us ws (ρ 8))) rfl rfl ?_|refine AD.step _ _ _ (.pv (.base (.int .u64 13))) _ rfl (yx (args:=fun ρ=>[.ptr (yR o1 o2 fa hp 13 us ws (ρ 8)) 0]) rfl (fun _=>rfl) (fun ρ=>Xu o1 o2 fa hp 13 us ws (ρ 8))) rfl rfl ?_|refine yP 18 15 rfl (by kernel_rfl) (by kernel_rfl) (by kernel_rfl) (by kernel_rfl) (by kernel_rfl) ?_|refine zq rfl (ZT (ps:=[.slc 4 ((oneG c).types.map qx) false,.slc 7 ((oneG c).fields.map Zc) false,.slc 12 ((oneG c).methods.map zM) false,pi (oneG c).entry]) zh rfl rfl rfl rfl rfl) rfl rfl ?_|refine AD.step _ _ _ _ _ rfl (ZT (ps:=[.slc 4 ((oneG c).types.map qx) false,.slc 7 ((oneG c).fields.map Zc) false,.slc 12 ((oneG c).methods.map zM) false,pi (oneG c).entry]) zh rfl rfl rfl rfl rfl) rfl rfl ?_|refine AD.step _ _ _ _ _ rfl (zaZ zh rfl rfl rfl rfl rfl) rfl rfl ?_|refine Xy 1 ?_|refine zdi ?_|refine zgl 127 120 rfl rfl (fun uu=>?_)|(refine shC ?_;first|refine qC cA ?_)|(refine shX ?_;first|refine zq rfl (zn zh rfl rfl rfl rfl rfl rfl (Int.le_refl 0) hem) rfl rfl ?_|refine AD.step _ _ _ _ _ rfl (zn zh rfl rfl rfl rfl rfl rfl (Int.le_refl 0) hem) rfl rfl ?_)|(refine Zt ?_;first|refine YP 20 rfl rfl rfl rfl rfl rfl ?_)|(refine zQ ?_;first|(refine yO (bH (oneG c) 2 shp o1 o2 fa hp 13 us ws tg X8 X13 [] 0 zC) (bH (oneG c) 2 shp o1 o2 fa hp 13 us ws (zb3 tg 13) X8 X13 [] 0 zC) ((20,.cell (frC 0 0 13 (.pv zC)))::zD vs zoV) (allB) yc rfl rfl rfl ?_ rfl rfl rfl cc ?_;· (repeat (first|exact zk|refine zi rfl ?_))))|(refine zI ?_;first|refine Qs zh rfl rfl rfl rfl rfl rfl rfl (by show _ * 8≤_;simp) (by simp) rfl rfl ?_)|refine sK ?_|refine sC (fun _=>?_) (fun _=>?_)|fail)
 exact ⟨uu,.inr rfl,.inl ⟨[pb true],rfl,rfl,⟨by repeat (first|exact zk|refine zi rfl ?_),rfl⟩⟩⟩
end
abbrev VZ:PV:=.agg [pi 5,pi 2]
abbrev shG:PV:=.agg [.slc 1 [] false,.slc 1 [] false,pi 0]
abbrev ObG (c:List Ins):List PV:=(zak (oneG c) (oneG c).types.length).map tys
abbrev KdG (c:List Ins):List PV:=(Qu (oneG c) (oneG c).types.length).map pi
abbrev XG (c:List Ins):Obj→Prop:=TMap (WZ (oneG c) (oneG c).types.length)
abbrev zai:Type:={ l:List PV // l.length=16397 }
abbrev zf9 (c:List Ins) (W:List Int):HEnv:=gH (oneG c) W 1 8 13 0
theorem znv {c:List Ins} (h:c=Yp∨c=Zd):ACallM Tryz.prog 86 [.pv (zu (oneG c)),.pv (pi 5)] [] (.box 0 0) (zf9 c (wsG 1 16397 7)) true:=by
 have h1:=zmx (oneG c) (okG h) (znk h) 5 (by decide) (by decide)
 rw [zjK h] at h1
 exact h1
abbrev mcN (c:List Ins) (tg fr:AV) (shp:PV):AV :=
 .agg [.pv (.slc 4 ((oneG c).types.map qx) false),.pv (.slc 7 ((oneG c).fields.map Zc) false),.pv (.slc 12 ((oneG c).methods.map zM) false),.pv (pi (oneG c).entry),.box 0 0,tg,.pv (pi 2),fr,.pv zC,.pv zC,
  .pv (pi 0),.pv (pi 0),.pv (pi 0),.pv (pi 0),.pv (pb false),.pv zC,.pv shp,.pv zC,.own 13]
abbrev nN (c:List Ins) (W:List Int) (tg fr:AV) (shp:PV):HEnv:=(10,.cell (mcN c tg fr shp))::(13,.obj (TMap []))::zf9 c W
set_option maxHeartbeats 4000000 in
theorem zgn (c:List Ins) (h:c=Yp∨c=Zd) :
  ACallU Tryz.prog 43 [.pv (zu (oneG c)),.pv VZ,.pv zC] [] (fun v:Value × Value × zai=>.pv (.tup [.base v.2.1,pi 0]))
   (fun v=>mH (oneG c) 2 [shG] (ObG c) (KdG c) 1 8 13 0 ((wsG 1 16397 7).map u64) v.2.2.1 (XG c) (TMap []) 0 0 13 (.pv zC) v.1++[(121,.pin (.box 10 0) v.2.1)]) true:=by
 have c0:=zdQ (oneG c) (okG h)
 have cN:=znv h
 obtain ⟨a,b,e0⟩:∃ a b,zkm (ZL (oneG c))=.tup [.agg [pi a,pi b],pi 0]:=⟨(ZL (oneG c)).1.1,(ZL (oneG c)).1.2,by rw [zkm,zjn h]⟩
 rw [e0] at c0
 obtain ⟨W,hW⟩:∃ W,W=wsG 1 16397 7:=⟨_,rfl⟩
 rw [←hW] at cN ⊢
 have hd4:decide ((4096:Int) < 5)=false:=rfl
 have cO:=zmj (oneG c) ⟨by show 1≤1000;decide,by show 0≤1000;decide,by show 1≤1000;decide,by simp,by rcases h with rfl|rfl <;> simp⟩
 have hm0:mOk (oneG c) 0:=⟨Int.le_refl 0,by show (0:Int).toNat < 1;decide⟩
 have cS:ACall Tryz.prog 88 [zu (oneG c),pi 0] (.tup [shG,pi 0]):=by
  have h1:=zky (oneG c) (okG h) 0 (zjn h) (zbh (znk h)) hm0 (by intro t ht;rcases h with rfl|rfl <;> cases ht) (by intro t ht;rcases h with rfl|rfl <;> cases ht)
  rcases h with rfl|rfl <;> exact h1
 have c1:=zbm (oneG c) (okG h)
 rw [zjK h] at c1
 obtain ⟨N,hN⟩:∃ N:Nat,N=16397:=⟨_,rfl⟩
 have hmi:IntKind.u64.wrap (13 + 16384)=((N:Nat):Int):=by rw [hN];rfl
 refine zb5 zh Tryz.func43 rfl (by kernel_rfl) Tryz.ntmps43 (by simp) _ rfl (fun gB hw1=>?_)
 repeat' (first|refine zgP 6 [(2,.pv zC),(3,.pv (.ptr (zu (oneG c)) 0)),(4,.pv (.ptr VZ 0))] [] rfl rfl tS tH ?_|(refine shC ?_;first|refine qC c0 ?_)|refine sK ?_|refine sC (fun _=>?_) (fun _=>?_)|fail)
 refine XA 5 10 [0,1,2,3,4,5,6,7,8,9,10,11,12,13] [0,1,2,3,4,5,6,7,8,9,10,11,12,13] [0,1,2,3,4,10,5,6,7,8,9,11,12,13] [0,1,2,3,4,6,7,8,9,10,5,11,12,13] rfl (by kernel_rfl) (by kernel_rfl) (zbr (by kernel_rfl) ?_) (zbr (by kernel_rfl) ?_)
 focus
  refine VE 14 11 [5,10] [] (mkL [[],zf9 c W,(13,.obj (TMap []))::zf9 c W]) (mkL [[],zf9 c W,(13,.obj (TMap []))::zf9 c W]) [] none rfl (by kernel_rfl) (by kernel_rfl) (by kernel_rfl) (by kernel_rfl) (by kernel_rfl) (by kernel_rfl) (fun p hp=>by simp at hp) rfl (XY rfl ⟨tH,tH,tH,trivial⟩) rfl (Zy rfl rfl) (fun q h=>Zy rfl rfl q 2 h (Nat.le_refl 2)) tH rfl (fun v hv=>by cases hv) ?_
  repeat' (first|refine Ya 5 [4] (.box 0 0) rfl rfl rfl rfl rfl ?_|refine Ya 4 [] (.own 13) rfl rfl rfl rfl rfl ?_|refine ⟨⟨rfl,Xr [] (zf9 c W) [] [] hw1 rfl rfl (fun _ _ h=>h) rfl rfl rfl rfl (fun _=>cN),.inr (by kernel_rfl)⟩,?_⟩|refine ⟨⟨rfl,zam 13 rfl rfl,.inr (by kernel_rfl)⟩,?_⟩|refine Yx ?_|intro _|refine Xd ?_|refine zq rfl (zaF zh rfl ⟨_,rfl⟩ rfl rfl rfl rfl rfl rfl) rfl rfl ?_|(refine shC ?_;first|refine qC cO ?_|refine qC zfy ?_)|(refine Zt ?_;first|refine YP 10 rfl rfl rfl rfl rfl rfl ?_)|refine sK ?_|refine sC (fun _=>?_) (fun _=>?_)|fail)
 rotate_left
 focus
  refine VE 14 11 [5,6] [] (mkL [[],[(13,.obj (TMap []))],zf9 c W++[(13,.obj (TMap []))]]) (mkL [[],[(13,.obj (TMap []))],zf9 c W++[(13,.obj (TMap []))]]) [] none rfl (by kernel_rfl) (by kernel_rfl) (by kernel_rfl) (by kernel_rfl) (by kernel_rfl) (by kernel_rfl) (fun p hp=>by simp at hp) rfl (XY rfl ⟨tH,tH,tH,trivial⟩) rfl (Zy rfl rfl) (fun q h=>Zy rfl rfl q 2 h (Nat.le_refl 2)) tH rfl (fun v hv=>by cases hv) ?_
  repeat' (first|refine Ya 5 [0] (.own 13) rfl rfl rfl rfl rfl ?_|refine Ya 0 [] (.box 0 0) rfl rfl rfl rfl rfl ?_|refine ⟨⟨rfl,zam 13 rfl rfl,.inr (by kernel_rfl)⟩,?_⟩|refine ⟨⟨rfl,Xr [] (zf9 c W) [(13,.obj (TMap []))] [] hw1 rfl rfl (fun _ _ h=>h) rfl rfl rfl rfl (fun _=>cN),.inr (by kernel_rfl)⟩,?_⟩|refine Yx ?_|intro _|refine Xd ?_|refine zq rfl (zaF zh rfl ⟨_,rfl⟩ rfl rfl rfl rfl rfl rfl) rfl rfl ?_|(refine shC ?_;first|refine qC cO ?_|refine qC zfy ?_)|(refine Zt ?_;first|refine YP 10 rfl rfl rfl rfl rfl rfl ?_)|refine sK ?_|refine sC (fun _=>?_) (fun _=>?_)|fail)
 rotate_left
 all_goals
  refine zlD [(3,.pv (.ptr (zu (oneG c)) 0)),(10,.box 10 0),(63,.pv (pi 0)),(64,.pv (pi 0))] (nN c W (.pv zC) (.pv zC) zC) tS tH ?_
  repeat' (first|refine Wv 10 12 7 112 1 (by decide) rfl rfl rfl rfl ?_|refine Xy 2 ?_|refine zdi ?_|refine yP 11 10 rfl (by kernel_rfl) (by kernel_rfl) (by kernel_rfl) (by kernel_rfl) (by kernel_rfl) ?_|refine AD.step _ _ _ _ _ rfl (YA zh rfl rfl (.inr ⟨rfl,rfl⟩) rfl rfl (by show _ * 56≤_;simp) (by simp)) rfl rfl ?_|refine zq (r:=.pv (.base (.int .u64 13))) rfl (yx (args:=fun ρ=>[.ptr (yR (ObG c) (KdG c) 1 8 13 0 (W.map u64) (ρ 8)) 0]) rfl (fun _=>rfl) (fun ρ=>Xu (ObG c) (KdG c) 1 8 13 0 (W.map u64) (ρ 8))) rfl rfl ?_|refine AD.step _ _ _ (.pv (.base (.int .u64 13))) _ rfl (yx (args:=fun ρ=>[.ptr (yR (ObG c) (KdG c) 1 8 13 0 (W.map u64) (ρ 8)) 0]) rfl (fun _=>rfl) (fun ρ=>Xu (ObG c) (KdG c) 1 8 13 0 (W.map u64) (ρ 8))) rfl rfl ?_|(refine shC ?_;first|refine qC cS ?_)|refine sK ?_|refine sC (fun _=>?_) (fun _=>?_)|fail)
  repeat' (first|refine ziB (m:=N) (sz:=4) zh 11 rfl rfl rfl rfl rfl hmi rfl rfl (by show 32 * _≤_;omega) (by simp [maxLen];omega) rfl rfl rfl ?_|(refine shC ?_;first|refine qC c1 ?_)|refine sK ?_|refine sC (fun _=>?_) (fun _=>?_)|fail)
  refine Xy 1 ?_
  refine zdi ?_
  repeat' (first|refine sK ?_|refine sC (fun _=>?_) (fun _=>?_)|fail)
  refine zA (fun x:Nat × { l:List PV // l.length=N∧∀ p∈l,p.cells.length=4 }=>[(3,.pv (.ptr (zu (oneG c)) 0)),(10,.box 10 0),(17,.pv (pi ((x.1 + 1:Nat):Int)))])
   (fun x=>bH (oneG c) 2 [shG] (ObG c) (KdG c) 1 8 13 0 (W.map u64) x.2.1 (XG c) (TMap []) [] 0 zC) (fun x=>x.1≤7) (fun x=>7 - x.1) (0,⟨List.replicate N (.agg [pi 0,pi 0,pi 0,pb false]),by simp,fun p hp=>by rw [List.eq_of_mem_replicate hp];rfl⟩) (by omega) tS tH ?_
  rintro ⟨j,tg,htg,hp4⟩ hj
  dsimp only at hj ⊢
  by_cases hlt:j < 7
  ·have hil:j + 1 < tg.length:=by omega
   have hpp:tg[j + 1]?=some (tg[j + 1]'hil):=List.getElem?_eq_getElem hil
   have hst:zbE (tg[j + 1]'hil) 0 (tb.size 44) (yA (kTg 1))=some (yA (kTg 1)):=by
    have h4:=hp4 _ (List.getElem_mem hil)
    unfold zbE
    rw [if_pos ⟨rfl,by rw [h4];decide⟩,if_pos ⟨rfl,h4⟩]
   have hix:(1:Int) + ((j + 1:Nat):Int) - 1=((j + 1:Nat):Int):=by omega
   have hd7:decide (((j + 1:Nat):Int)≤7)=true:=decide_eq_true (by omega)
   repeat' (first|refine yP 13 12 rfl (by kernel_rfl) (by kernel_rfl) (by kernel_rfl) (by kernel_rfl) (by kernel_rfl) ?_|refine zq (r:=.pv (u64 _)) rfl (zed (args:=fun ρ=>[.ptr (gPV (oneG c) W (ρ 8) 1 8 13 0) 0,pi ((j + 1:Nat):Int)]) rfl (fun _=>rfl) (fun ρ=>WB (oneG c) W (ρ 8) 1 8 13 0 ((j + 1:Nat):Int) (by omega) (by omega) (by omega) (by omega))) rfl rfl ?_|refine AD.step _ _ _ (.pv (u64 _)) _ rfl (zed (args:=fun ρ=>[.ptr (gPV (oneG c) W (ρ 8) 1 8 13 0) 0,pi ((j + 1:Nat):Int)]) rfl (fun _=>rfl) (fun ρ=>WB (oneG c) W (ρ 8) 1 8 13 0 ((j + 1:Nat):Int) (by omega) (by omega) (by omega) (by omega))) rfl rfl ?_|(refine shC ?_;first|refine qC (VN 1) ?_)|(refine shX ?_;first|refine zq rfl (yw (k:=j + 1) zh rfl rfl rfl rfl rfl rfl rfl hix hil) rfl rfl ?_|refine AD.step _ _ _ _ _ rfl (yw (k:=j + 1) zh rfl rfl rfl rfl rfl rfl rfl hix hil) rfl rfl ?_)|(refine Yh ?_;first|refine Vb (k:=j + 1) (j:=0) zh rfl rfl rfl rfl rfl hpp rfl rfl hst rfl rfl ?_)|refine sK ?_|refine sC (fun _=>?_) (fun _=>?_)|fail)
   exact ⟨(j + 1,⟨tg.set (j + 1) (yA (kTg 1)),by simpa using htg,fun p hp=>(List.mem_or_eq_of_mem_set hp).elim (hp4 p) (fun e=>by rw [e];rfl)⟩),hlt,tD,zmT,tH⟩
  ·have hj2:j=7:=by omega
   subst hj2
   repeat' (first|refine sK ?_|refine sC (fun _=>?_) (fun _=>?_)|fail)
   refine zeG (bH (oneG c) 2 [shG] (ObG c) (KdG c) 1 8 13 0 (W.map u64) tg (XG c) (TMap []) [] 0 zC) (fun u=>mH (oneG c) 2 [shG] (ObG c) (KdG c) 1 8 13 0 (W.map u64) (zb3 tg 13) (XG c) (TMap []) 0 0 13 (.pv zC) u) [] [(10,.box 10 0)] zoV yc rfl rfl rfl zju tS rfl rfl (fun _=>rfl) (fun us=>zjv [shG] (ObG c) (KdG c) 1 8 0 (W.map u64) tg (XG c) (TMap []) c h (by rw [htg,hN]) us) (fun uu=>?_)
   repeat' (first|refine zgl 151 121 rfl rfl (fun u2=>?_)|refine sK ?_|refine sC (fun _=>?_) (fun _=>?_)|fail)
   exact ⟨(uu,u2,⟨zb3 tg 13,by rw [zop (by omega)];rw [htg,hN]⟩),.inr rfl,.inl ⟨[.base u2,pi 0],rfl,rfl,⟨by repeat (first|exact zk|refine zi rfl ?_),rfl⟩⟩⟩
set_option maxHeartbeats 20000000
section
variable (c:List Ins) (W:List Int) (tg:List PV) (u:Value) (X8 X13:Obj→Prop)
abbrev m0 (c:List Ins) (W:List Int) (tg:List PV) (u:Value):HEnv:=mH (oneG c) 2 [shG] (ObG c) (KdG c) 1 8 13 0 (W.map u64) tg (XG c) (TMap []) 0 0 13 (.pv zC) u
abbrev m1 (W:List Int) (tg:List PV) (u:Value):HEnv:=mH (oneG Zd) 2 [shG] (ObG Zd) (KdG Zd) 1 8 13 0 (W.map u64) tg (XG Zd) (TMap []) 0 1 13 (.pv (.slc 5 [Za (kTg 2) [.base (.int .u64 (IntKind.u64.wrap 7))] true] false)) u
theorem zoK (vs:Nat→Value):ACallM Tryz.prog 13 [.box 10 0,.pv (pi 5)] (m0 Yp W tg u++zD vs [10]) (.pv (pi 1)) (eH 3 zC++zD vs [10]):=by
 have c1:=fun vs=>zmb (oneG Yp) 2 [shG] (ObG Yp) (KdG Yp) 1 8 13 0 (W.map u64) tg (XG Yp) (TMap []) 0 0 13 u 0 ⟨0,0,0,false⟩ (by decide) (by decide) (by decide) rfl vs
 have c2:=fun vs=>zgB 3 zC rfl vs
 refine zJ zh Tryz.func13 rfl (by kernel_rfl) Tryz.ntmps13 (by simp) _ rfl (fun gB hw1=>?_)
 repeat' (first|refine Xy 2 ?_|refine zdi ?_|(refine zQ ?_;first|(refine yO (m0 Yp W tg u) (eH 3 zC) (zD vs [10]) ([10]) yc rfl rfl rfl ?_ rfl rfl rfl c1 ?_;· (repeat (first|exact zk|refine zi rfl ?_)))|(refine yO (eH 3 zC) (eH 3 zC) (zD vs [10]) ([10]) yc rfl rfl rfl ?_ rfl rfl rfl c2 ?_;· (repeat (first|exact zk|refine zi rfl ?_))))|refine sK ?_|refine sC (fun _=>?_) (fun _=>?_)|fail)
 exact ⟨.inr rfl,.inl ⟨[pi 1],rfl,rfl,⟨by repeat (first|exact zk|refine zi rfl ?_),rfl⟩⟩⟩
theorem zpb (ht:tg.length=16397) (vs:Nat→Value):ACallM Tryz.prog 13 [.box 10 0,.pv (pi 5)] (m0 Zd W tg u++zD vs [10]) (.pv (pi 2)) (eH 1 (.slc 1 [.base (.int .u64 (IntKind.u64.wrap 7))] false)++zD vs [10]):=by
 have c1:=fun vs=>zmL (oneG Zd) 2 [shG] (ObG Zd) (KdG Zd) 1 8 13 0 (W.map u64) tg (XG Zd) (TMap []) 0 0 13 u 7 ⟨0,0,0,false⟩ 1 rfl (by decide) (by decide) (by decide) (by decide) (by decide) (by decide) rfl rfl vs
 have c2:=fun vs=>zmA (oneG Zd) 2 [shG] (ObG Zd) (KdG Zd) 1 8 13 0 (W.map u64) tg (XG Zd) (TMap []) 0 1 13 u 0 ⟨0,0,0,false⟩ [.base (.int .u64 (IntKind.u64.wrap 7))] true (by decide) (by decide) rfl rfl (by decide) (by decide) (by show 13 + 256≤_;omega) (by decide) rfl vs
 have c3:=fun vs=>zgB 1 (.slc 1 [.base (.int .u64 (IntKind.u64.wrap 7))] false) rfl vs
 refine zJ zh Tryz.func13 rfl (by kernel_rfl) Tryz.ntmps13 (by simp) _ rfl (fun gB hw1=>?_)
 repeat' (first|refine Xy 3 ?_|refine zdi ?_|(refine zQ ?_;first|(refine yO (m0 Zd W tg u) (m1 W tg u) (zD vs [10]) (yX) yc rfl rfl rfl ?_ rfl rfl rfl c1 ?_;· (repeat (first|exact zk|refine zi rfl ?_)))|(refine yO (m1 W tg u) (eH 1 (.slc 1 [.base (.int .u64 (IntKind.u64.wrap 7))] false)) (zD vs [10]) ([10]) yc rfl rfl rfl ?_ rfl rfl rfl c2 ?_;· (repeat (first|exact zk|refine zi rfl ?_)))|(refine yO (eH 1 (.slc 1 [.base (.int .u64 (IntKind.u64.wrap 7))] false)) (eH 1 (.slc 1 [.base (.int .u64 (IntKind.u64.wrap 7))] false)) (zD vs [10]) ([10]) yc rfl rfl rfl ?_ rfl rfl rfl c3 ?_;· (repeat (first|exact zk|refine zi rfl ?_))))|refine sK ?_|refine sC (fun _=>?_) (fun _=>?_)|fail)
 exact ⟨.inr rfl,.inl ⟨[pi 2],rfl,rfl,⟨by repeat (first|exact zk|refine zi rfl ?_),rfl⟩⟩⟩
theorem zg4 (vs:Nat→Value):ACallM Tryz.prog 16 [.box 10 0] (eH 3 zC++zD vs [10]) (.pv (zaQ 3 zC)) (eH 3 zC++zD vs [10]):=by
 have c1:=zk1
 refine zJ zh Tryz.func16 rfl (by kernel_rfl) Tryz.ntmps16 (by simp) _ rfl (fun gB hw1=>?_)
 repeat' (first|refine zq rfl (yK (b:=false) rfl Tryz.underlying40 rfl rfl) rfl rfl ?_|refine AD.step _ _ _ _ _ rfl (yK (b:=false) rfl Tryz.underlying40 rfl rfl) rfl rfl ?_|refine zq rfl (ZT (ps:=[pi 3,pi 0,pi 0,pi 0,pb false,zC]) zh rfl rfl rfl rfl rfl) rfl rfl ?_|refine AD.step _ _ _ _ _ rfl (ZT (ps:=[pi 3,pi 0,pi 0,pi 0,pb false,zC]) zh rfl rfl rfl rfl rfl) rfl rfl ?_|(refine shC ?_;first|refine qC c1 ?_)|refine sK ?_|refine sC (fun _=>?_) (fun _=>?_)|fail)
 exact ⟨.inr rfl,.inl ⟨[zaQ 3 zC],rfl,rfl,⟨by repeat (first|exact zk|refine zi rfl ?_),rfl⟩⟩⟩
theorem ziV (vs:Nat→Value):ACallM Tryz.prog 16 [.box 10 0] (eH 1 (.slc 1 [.base (.int .u64 (IntKind.u64.wrap 7))] false)++zD vs [10]) (.pv (zaQ 1 (.slc 1 [.base (.int .u64 (IntKind.u64.wrap 7))] false))) (eH 1 (.slc 1 [.base (.int .u64 (IntKind.u64.wrap 7))] false)++zD vs [10]):=by
 have c1:=zjY [IntKind.u64.wrap 7] (by decide)
 refine zJ zh Tryz.func16 rfl (by kernel_rfl) Tryz.ntmps16 (by simp) _ rfl (fun gB hw1=>?_)
 repeat' (first|refine zq rfl (yK (b:=false) rfl Tryz.underlying40 rfl rfl) rfl rfl ?_|refine AD.step _ _ _ _ _ rfl (yK (b:=false) rfl Tryz.underlying40 rfl rfl) rfl rfl ?_|refine zq rfl (ZT (ps:=[pi 1,pi 0,pi 0,pi 0,pb false,.slc 1 [.base (.int .u64 (IntKind.u64.wrap 7))] false]) zh rfl rfl rfl rfl rfl) rfl rfl ?_|refine AD.step _ _ _ _ _ rfl (ZT (ps:=[pi 1,pi 0,pi 0,pi 0,pb false,.slc 1 [.base (.int .u64 (IntKind.u64.wrap 7))] false]) zh rfl rfl rfl rfl rfl) rfl rfl ?_|(refine shC ?_;first|refine qC c1 ?_)|refine sK ?_|refine sC (fun _=>?_) (fun _=>?_)|fail)
 exact ⟨.inr rfl,.inl ⟨[zaQ 1 (.slc 1 [.base (.int .u64 (IntKind.u64.wrap 7))] false)],rfl,rfl,⟨by repeat (first|exact zk|refine zi rfl ?_),rfl⟩⟩⟩
end
set_option maxHeartbeats 20000000
abbrev zoI (q:PV):PV:=.agg [.slc 4 [wTD 65 (-1)] true,.base (.slice none 0 0),.slc 12 [.agg [.base (.string ⟨#[109]⟩),pi 0,pi 1,.base (.slice none 0 0),pi 2,pi 0,pi 0,pb false,.base (.slice none 0 0),pi 1,q,.base (.slice none 0 0)]] true,pi 0]
theorem zfO (l:List PV):ACall Tryz.prog 44 [.slc 6 l true] (zoI (.slc 6 l true)):=by
 refine zf zh Tryz.func44 rfl (by kernel_rfl) Tryz.ntmps44 (by simp) _ rfl (fun hw gB hgB=>?_)
 repeat' (first|refine sK ?_|refine sC (fun _=>?_) (fun _=>?_)|fail)
 exact retq rfl rfl
theorem zd9:∀ l:List PV,PTL l l
 | []=>Qz
 | _::l=>zy (.refl _) (zd9 l)
theorem zk6 (x:Ins):PTells (zoI (.slc 6 [yT x] true)) (zu (oneG [x])) :=
 zev (zy (zbt (QU (zgj 65 (-1)) VA)) (zy (YH 7 false) (zy (zbt (QU
  (zy (.refl _) (zy (.refl _) (zy (.refl _) (zy (YH 4 false) (zy (.refl _) (zy (.refl _) (zy (.refl _) (zy (.refl _) (zy (YH 4 false) (zy (.refl _)
   (zy (zbt (QU (zd9 _) VA)) (zy (YH 10 false) Qz))))))))))))
  VA)) (zy (.refl _) Qz))))
theorem zkw (x y:Ins):PTells (zoI (.slc 6 [yT x,yT y] true)) (zu (oneG [x,y])) :=
 zev (zy (zbt (QU (zgj 65 (-1)) VA)) (zy (YH 7 false) (zy (zbt (QU
  (zy (.refl _) (zy (.refl _) (zy (.refl _) (zy (YH 4 false) (zy (.refl _) (zy (.refl _) (zy (.refl _) (zy (.refl _) (zy (YH 4 false) (zy (.refl _)
   (zy (zbt (QU (zd9 _) (QU (zd9 _) VA))) (zy (YH 10 false) Qz))))))))))))
  VA)) (zy (.refl _) Qz))))
abbrev p7:PV:=.base (.int .u64 (IntKind.u64.wrap 7))
instance:Inhabited zai:=⟨⟨List.replicate 16397 zC,List.length_replicate⟩⟩
abbrev xM (W:List Int) (v:Value × Value × zai):HEnv:=[(210,.cell (.agg [.pv (.slc 4 ((oneG Yp).types.map qx) false),.pv (.slc 7 ((oneG Yp).fields.map Zc) false),.pv (.slc 12 ((oneG Yp).methods.map zM) false),.pv (pi (oneG Yp).entry),.box 200 0,.own 211,.pv (pi 2),.own 212,.pv zC,.pv zC,.pv (pi 0),.pv (pi 0),.pv (pi 0),.pv (pi 0),.pv (pb false),.pv zC,.pv (.slc 3 [shG] false),.pv zC,.own 213])),(212,.mrow 112 1 [.base v.1]),(220,.cell (.agg [.pv (pi 0),.pv (pi 0),.pv (.base (.int .u64 13)),.pv zC,.pv (.base (.int .u64 0)),.pv (pb false),.pv zC,.pv (.base (.int .u64 0)),.pv (.base (.int .u64 0)),.pv (.base (.int .u64 0)),.pv (.base (.int .u64 0)),.pv (.base (.int .u64 0)),.pv (.base (.int .u64 0)),.pv (.base (.pointer none))])),(320,.pin (.box 220 0) v.1),(200,.cell (.agg [.own 207,.pv (.slc 1 (ObG Yp) false),.pv (.slc 1 (KdG Yp) false),.own 208,.pv (.base (.int .u64 1)),.pv (.base (.int .u64 8)),.pv (.base (.int .u64 13)),.pv (pi 0)])),(207,.mrow 102 1 (W.map u64)),(208,.obj (XG Yp)),(211,.mrow 44 4 v.2.2.1),(213,.obj (TMap []))]
abbrev yM (W:List Int) (v:Value × Value × zai):HEnv:=[(410,.cell (.agg [.pv (.slc 4 ((oneG Zd).types.map qx) false),.pv (.slc 7 ((oneG Zd).fields.map Zc) false),.pv (.slc 12 ((oneG Zd).methods.map zM) false),.pv (pi (oneG Zd).entry),.box 400 0,.own 411,.pv (pi 2),.own 412,.pv zC,.pv zC,.pv (pi 0),.pv (pi 0),.pv (pi 0),.pv (pi 0),.pv (pb false),.pv zC,.pv (.slc 3 [shG] false),.pv zC,.own 413])),(412,.mrow 112 1 [.base v.1]),(420,.cell (.agg [.pv (pi 0),.pv (pi 0),.pv (.base (.int .u64 13)),.pv zC,.pv (.base (.int .u64 0)),.pv (pb false),.pv zC,.pv (.base (.int .u64 0)),.pv (.base (.int .u64 0)),.pv (.base (.int .u64 0)),.pv (.base (.int .u64 0)),.pv (.base (.int .u64 0)),.pv (.base (.int .u64 0)),.pv (.base (.pointer none))])),(520,.pin (.box 420 0) v.1),(400,.cell (.agg [.own 407,.pv (.slc 1 (ObG Zd) false),.pv (.slc 1 (KdG Zd) false),.own 408,.pv (.base (.int .u64 1)),.pv (.base (.int .u64 8)),.pv (.base (.int .u64 13)),.pv (pi 0)])),(407,.mrow 102 1 (W.map u64)),(408,.obj (XG Zd)),(411,.mrow 44 4 v.2.2.1),(413,.obj (TMap []))]
abbrev eK (i:Nat) (ek:Int) (ew:PV):HEnv:=[(i,.cell (.agg [.any,.any,.any,.any,.any,.any,.any,.any,.any,.any,.pv (pi ek),.pv (pi 0),.pv (pi 0),.pv (pi 0),.pv (pb false),.pv ew,.any,.any,.any]))]
abbrev xH (W:List Int) (v:Value × Value × zai):HEnv:=xM W v++[(321,.pin (.box 210 0) v.2.1)]
abbrev yH (W:List Int) (v:Value × Value × zai):HEnv:=yM W v++[(521,.pin (.box 410 0) v.2.1)]
theorem zhN:ACallM Tryz.prog 11 [] [] (.pv (pb true)) [] true:=by
 have cX:=zgn Yp (.inl rfl)
 have cY:=zgn Zd (.inr rfl)
 generalize wsG 1 16397 7=W at cX cY
 have o1:=zfO [yT ⟨13,0,⟨0,0,0,false⟩⟩]
 have o2:=zfO [yT ⟨8,7,⟨0,0,0,false⟩⟩,yT ⟨46,0,⟨0,0,0,false⟩⟩]
 have nX:ACallU Tryz.prog 43 [.pv (zu (oneG Yp)),.pv VZ,.pv zC] [] (fun v:Value × Value × zai=>.pv (.tup [.base v.2.1,pi 0])) (fun v=>xH W v) true:=ACallU.shift 200 cX
 have nY:ACallU Tryz.prog 43 [.pv (zu (oneG Zd)),.pv VZ,.pv zC] [] (fun v:Value × Value × zai=>.pv (.tup [.base v.2.1,pi 0])) (fun v=>yH W v) true:=ACallU.shift 400 cY
 have rX:∀ (v:Value × Value × zai) us,ACallM Tryz.prog 13 [.box 210 0,.pv (pi 5)] (xM W v++zD us [210]) (.pv (pi 1)) (eK 210 3 zC++zD us [210]) :=
  fun v us=>ACallM.shift 200 (zoK W v.2.2.1 v.1 (fun i=>us (i + 200)))
 have rY:∀ (v:Value × Value × zai) us,ACallM Tryz.prog 13 [.box 410 0,.pv (pi 5)] (yM W v++zD us [410]) (.pv (pi 2)) (eK 410 1 (.slc 1 [p7] false)++zD us [410]) :=
  fun v us=>ACallM.shift 400 (zpb W v.2.2.1 v.1 v.2.2.2 (fun i=>us (i + 400)))
 have qX:∀ us,ACallM Tryz.prog 16 [.box 210 0] (eK 210 3 zC++zD us [210]) (.pv (zaQ 3 zC)) (eK 210 3 zC++zD us [210]) :=
  fun us=>ACallM.shift 200 (zg4 (fun i=>us (i + 200)))
 have qY:∀ us,ACallM Tryz.prog 16 [.box 410 0] (eK 410 1 (.slc 1 [p7] false)++zD us [410]) (.pv (zaQ 1 (.slc 1 [p7] false))) (eK 410 1 (.slc 1 [p7] false)++zD us [410]) :=
  fun us=>ACallM.shift 400 (ziV (fun i=>us (i + 400)))
 have cs:=Qq 1 [IntKind.u64.wrap 7] (by decide)
 refine zJ zh Tryz.func11 rfl (by kernel_rfl) Tryz.ntmps11 (by simp) _ rfl (fun gB hw1=>?_)
 repeat' (first|refine zlQ 2 (fun v:Value × Value × zai=>[(0,.pv (pb false)),(1,.box 0 0),(2,.pv (.base v.2.1)),(3,.pv (pi 0))]) (fun v=>((0,.cell (.pv VZ))::xH W v)) [(0,.pv (pb false)),(1,.box 0 0)] [(0,.cell (.pv VZ))] rfl rfl tS tH ?_ ?_|refine sK ?_|refine sC (fun _=>?_) (fun _=>?_)|fail)
 focus
  refine XA 6 7 [0,1,2,3,4,5,6,7,8,9] [0,1,2,3,4,5,6,7,8,9] [0,1,2,3,4,5,7,6,8,9] [0,1,2,3,4,5,7,6,8,9] rfl (by kernel_rfl) (by kernel_rfl) (XA 7 8 [0,1,2,3,4,5,6,7,8,9] [0,1,2,3,4,5,6,7,8,9] [0,1,2,3,4,5,6,8,7,9] [0,1,2,3,4,5,6,8,7,9] rfl (by kernel_rfl) (by kernel_rfl) (zbr (by kernel_rfl) ?_) (zbr (by kernel_rfl) ?_)) (zbr (by kernel_rfl) ?_)
  all_goals
   refine VE 10 4 [2] [] (mkL [[(0,.cell (.pv VZ))],[(0,.cell (.pv VZ))]]) (mkL [[(0,.cell (.pv VZ))],[(0,.cell (.pv VZ))]]) [(0,.cell (.pv VZ))] none rfl (by kernel_rfl) (by kernel_rfl) (by kernel_rfl) (by kernel_rfl) (by kernel_rfl) (by kernel_rfl) (fun p hp=>by simp at hp) rfl (XY rfl ⟨tH,tH,trivial⟩) rfl (Zy rfl rfl) (fun q h=>Zy rfl rfl q 1 h (Nat.le_refl 1)) tH rfl (fun v hv=>by cases hv) ?_
   repeat' (first|refine Ya 2 [] (.pv (zoI (.slc 6 [yT ⟨13,0,⟨0,0,0,false⟩⟩] true))) rfl rfl rfl rfl rfl ?_|refine ⟨⟨rfl,zaI rfl rfl (fun _ _ _ h=>h.narrow (e:=[]) tH) o1,.inl rfl⟩,?_⟩|refine Yx ?_|intro _|refine Xd ?_|refine QB 10 (zk6 ⟨13,0,⟨0,0,0,false⟩⟩) rfl ?_|refine zeG [] (fun v=>xH W v) [(0,.cell (.pv VZ))] [(0,.pv (pb false)),(1,.box 0 0)] [] hw1 rfl rfl rfl zju tS rfl rfl (fun _=>rfl) (fun _=>nX) (fun v=>?_)|refine sK ?_|refine sC (fun _=>?_) (fun _=>?_)|fail)
  all_goals exact ⟨rfl,v,tS,tH⟩
 intro v
 repeat' (first|refine zlQ 3 (fun v2:Value × Value × zai=>[(2,.pv (.base v.2.1)),(3,.pv (pi 0)),(4,.pv (.base v2.2.1)),(5,.pv (pi 0))]) (fun v2=>xH W v++yH W v2) [(0,.pv (pb false)),(1,.box 0 0),(2,.pv (.base v.2.1)),(3,.pv (pi 0))] ((0,.cell (.pv VZ))::xH W v) rfl rfl tS tH ?_ ?_|refine sK ?_|refine sC (fun _=>?_) (fun _=>?_)|fail)
 focus
  refine XA 7 8 [0,1,2,3,4,5,6,7,8,9,10] [0,1,2,3,4,5,6,7,8,9,10] [0,1,2,3,4,5,6,8,7,9,10] [0,1,2,3,4,5,6,8,7,9,10] rfl (by kernel_rfl) (by kernel_rfl) (XA 8 9 [0,1,2,3,4,5,6,7,8,9,10] [0,1,2,3,4,5,6,7,8,9,10] [0,1,2,3,4,5,6,7,9,8,10] [0,1,2,3,4,5,6,7,9,8,10] rfl (by kernel_rfl) (by kernel_rfl) (zbr (by kernel_rfl) ?_) (zbr (by kernel_rfl) ?_)) (zbr (by kernel_rfl) ?_)
  all_goals
   refine VE 11 5 [3] [] (mkL [((0,.cell (.pv VZ))::xH W v),((0,.cell (.pv VZ))::xH W v)]) (mkL [((0,.cell (.pv VZ))::xH W v),((0,.cell (.pv VZ))::xH W v)]) ((0,.cell (.pv VZ))::xH W v) none rfl (by kernel_rfl) (by kernel_rfl) (by kernel_rfl) (by kernel_rfl) (by kernel_rfl) (by kernel_rfl) (fun p hp=>by simp at hp) rfl (XY rfl ⟨tH,tH,trivial⟩) rfl (Zy rfl rfl) (fun q h=>Zy rfl rfl q 1 h (Nat.le_refl 1)) tH rfl (fun v hv=>by cases hv) ?_
   repeat' (first|refine Ya 3 [] (.pv (zoI (.slc 6 [yT ⟨8,7,⟨0,0,0,false⟩⟩,yT ⟨46,0,⟨0,0,0,false⟩⟩] true))) rfl rfl rfl rfl rfl ?_|refine ⟨⟨rfl,zaI rfl rfl (fun _ _ _ h=>h.narrow (e:=[]) tH) o2,.inl rfl⟩,?_⟩|refine Yx ?_|intro _|refine Xd ?_|refine QB 19 (zkw ⟨8,7,⟨0,0,0,false⟩⟩ ⟨46,0,⟨0,0,0,false⟩⟩) rfl ?_|refine zeG [] (fun v2=>yH W v2) ((0,.cell (.pv VZ))::xH W v) [(0,.pv (pb false)),(1,.box 0 0),(2,.pv (.base v.2.1)),(3,.pv (pi 0))] [] hw1 rfl rfl rfl zju tS rfl rfl (fun _=>rfl) (fun _=>nY) (fun v2=>?_)|refine sK ?_|refine sC (fun _=>?_) (fun _=>?_)|fail)
  all_goals exact ⟨rfl,v2,tS,tH⟩
 intro v2
 repeat' (first|refine QI 27 321 rfl rfl ?_|refine QI 32 321 rfl rfl ?_|refine QI 42 521 rfl rfl ?_|refine QI 47 521 rfl rfl ?_|refine QB 50 (zev (zy (.refl _) (zy (.refl _) (zy (.refl _) (zy (.refl _) (zy (.refl _) (zy (zlt 1 [p7] true) Qz))))))) rfl ?_|(refine shC ?_;first|refine qC cs ?_)|(refine zQ ?_;first|(refine yO (xM W v) (eK 210 3 zC) ((321,.pin (.box 210 0) v.2.1)::yH W v2) ([210]) yc rfl rfl rfl ?_ rfl rfl rfl (rX v) ?_;· (repeat (first|exact zk|refine zi rfl ?_)))|(refine yO (eK 210 3 zC) (eK 210 3 zC) ((321,.pin (.box 210 0) v.2.1)::yH W v2) ([210]) yc rfl rfl rfl ?_ rfl rfl rfl qX ?_;· (repeat (first|exact zk|refine zi rfl ?_)))|(refine yO (yM W v2) (eK 410 1 (.slc 1 [p7] false)) ((521,.pin (.box 410 0) v2.2.1)::(321,.pin (.box 210 0) v.2.1)::eK 210 3 zC) ([410]) yc rfl rfl rfl ?_ rfl rfl rfl (rY v2) ?_;· (repeat (first|exact zk|refine zi rfl ?_)))|(refine yO (eK 410 1 (.slc 1 [p7] false)) (eK 410 1 (.slc 1 [p7] false)) ((521,.pin (.box 410 0) v2.2.1)::(321,.pin (.box 210 0) v.2.1)::eK 210 3 zC) ([410]) yc rfl rfl rfl ?_ rfl rfl rfl qY ?_;· (repeat (first|exact zk|refine zi rfl ?_))))|refine sK ?_|refine sC (fun _=>?_) (fun _=>?_)|fail)
 exact ⟨.inr rfl,.inl ⟨[pb true],rfl,rfl,⟨by repeat (first|exact zk|refine zi rfl ?_),rfl⟩⟩⟩
theorem zfd:PTells (zaQ 0 zaz) (zaQ 0 (.slc 1 (([]:List Int).map u64) false)):=zev (zy (.refl _) (zy (.refl _) (zy (.refl _) (zy (.refl _) (zy (.refl _) (zy (YH 1 false) Qz))))))
theorem zdR:PTells zot zns:=zev (zy (YH 4 false) (zy (YH 1 false) (zy (YH 1 false) (zy (YH 1 false) (zy (.refl _) (zy (.refl _) (zy (.refl _) (zy (.refl _) (zy (.refl _) (zy (YH 1 false) Qz))))))))))
theorem zf0 (n:Int):ACall Tryz.prog 4 [.base (.int .i8 n)] (pb true):=by
 have c1:=zgx
 have c2:=zoj (IntKind.i64.wrap n)
 have c3:=zkH
 have c4:=zg9
 have c5:=Qq 0 [] (by decide)
 have c6:=znH
 have c7:=zm8
 have c8:=zhj
 refine zf zh Tryz.func4 rfl (by kernel_rfl) Tryz.ntmps4 (by simp) _ rfl (fun hw gB hgB=>?_)
 repeat' (first|refine QB 24 zfd rfl ?_|refine QB 25 zfd rfl ?_|refine QB 36 zdR rfl ?_|refine QB 37 zdR rfl ?_|(refine shC ?_;first|refine qC c1 ?_|refine qC c2 ?_|refine qC c3 ?_|refine qC c4 ?_|refine qC c5 ?_|refine qC c6 ?_|refine qC c7 ?_|refine qC c8 ?_)|(refine zQ ?_;first|refine yO [] [] [] [] (fun _=>hgB.1) rfl rfl rfl zju rfl rfl rfl (fun _=>zhN) ?_)|refine sK ?_|refine sC (fun _=>?_) (fun _=>?_)|fail)
 exact retq rfl rfl
end Go.Cg
