/- A part of the walks by abstract values: no statement of its own. -/
import Derived.Test.YtdlokcmodgccnaaGreatF18
import Derived.Test.YtdlokcmodgccnaaGreatF17
import Derived.Test.YtdlokcmodgccnaaGreatF8
set_option linter.unusedVariables false
set_option linter.unusedSimpArgs false
namespace Go.Cg
open Go.Proofs
set_option maxHeartbeats 20000000
def Yo (k:Int) (st:Bool) (o:Int):Ty × Bool:=if k < 0||st then (ty0,false) else if k==1 then (⟨6,o,0,true⟩,true) else (⟨5,o,0,false⟩,true)
theorem zpy (g:Img) (m:Me):ACall Tryz.prog 138 [zq g,zG m] (.tup [yK (Yo (YU g m.owner) (qB m.flags 1) m.owner).1,pb (Yo (YU g m.owner) (qB m.flags 1) m.owner).2]):=by
 refine zf zh Tryz.func138 rfl (by kernel_rfl) Tryz.ntmps138 (by simp) _ rfl (fun hw gB hgB=>?_)
 repeat' (first|(refine shC ?_;first|refine qC (zdr _ _) ?_)|refine sA ?_|refine sC (fun _=>?_) (fun _=>?_)|fail)
 ·rename_i h1
  have hs:Yo (YU g m.owner) (qB m.flags 1) m.owner=(ty0,false):=by simp_all [Yo]
  rw [hs];exact retq rfl rfl
 ·rename_i h1 h2
  have h3:(qB m.flags 1)=true:=h2
  have hs:Yo (YU g m.owner) (qB m.flags 1) m.owner=(ty0,false):=by simp [Yo,h3]
  rw [hs];exact retq rfl rfl
 ·rename_i h1 h2 h4
  have h3:(qB m.flags 1)=false:=h2
  have hs:Yo (YU g m.owner) (qB m.flags 1) m.owner=(⟨6,m.owner,0,true⟩,true):=by rw [Yo,h3];simp_all
  rw [hs];exact retq rfl rfl
 ·rename_i h1 h2 h4
  have h3:(qB m.flags 1)=false:=h2
  have hs:Yo (YU g m.owner) (qB m.flags 1) m.owner=(⟨5,m.owner,0,false⟩,true):=by rw [Yo,h3];simp_all
  rw [hs];exact retq rfl rfl
theorem zos (g:Img) (m:Me):ACall Tryz.prog 114 [zq g,zG m] (.tup [yK (Yo (zB g m.owner) (m.flags.tmod 2 != 0) m.owner).1,pb (Yo (zB g m.owner) (m.flags.tmod 2 != 0) m.owner).2]):=by
 refine zf zh Tryz.func114 rfl (by kernel_rfl) Tryz.ntmps114 (by simp) _ rfl (fun hw gB hgB=>?_)
 repeat' (first|(refine shC ?_;first|refine qC (qh _ _) ?_)|refine sA ?_|refine sC (fun _=>?_) (fun _=>?_)|fail)
 ·rename_i h1
  have hs:Yo (zB g m.owner) (m.flags.tmod 2 != 0) m.owner=(ty0,false):=by simp_all [Yo]
  rw [hs];exact retq rfl rfl
 ·rename_i h1 h2
  have h3:(m.flags.tmod 2 != 0)=true:=h2
  have hs:Yo (zB g m.owner) (m.flags.tmod 2 != 0) m.owner=(ty0,false):=by simp [Yo,h3]
  rw [hs];exact retq rfl rfl
 ·rename_i h1 h2 h4
  have h3:(m.flags.tmod 2 != 0)=false:=h2
  have hs:Yo (zB g m.owner) (m.flags.tmod 2 != 0) m.owner=(⟨6,m.owner,0,true⟩,true):=by rw [Yo,h3];simp_all
  rw [hs];exact retq rfl rfl
 ·rename_i h1 h2 h4
  have h3:(m.flags.tmod 2 != 0)=false:=h2
  have hs:Yo (zB g m.owner) (m.flags.tmod 2 != 0) m.owner=(⟨5,m.owner,0,false⟩,true):=by rw [Yo,h3];simp_all
  rw [hs];exact retq rfl rfl
def zln (x:Ty × Bool) (l:List Ty):List Ty:=(if x.2 then [x.1] else [])++l
theorem zjq (g:Img) (m:Me) (hp:m.params.length≤1000):ACall Tryz.prog 100 [zq g,zG m] (tys (zln (Yo (YU g m.owner) (qB m.flags 1) m.owner) m.params)):=by
 refine zf zh Tryz.func100 rfl (by kernel_rfl) Tryz.ntmps100 (by simp) _ rfl (fun hw gB hgB=>?_)
 have c1:=zpy g m
 generalize Yo (YU g m.owner) (qB m.flags 1) m.owner=x at c1 ⊢
 obtain ⟨t,b⟩:=x
 cases b
 ·repeat' (first|refine yS (t:=5) 0 42 4 (by decide) rfl rfl ?_|(refine shC ?_;first|refine qC c1 ?_)|(refine zI ?_;first|refine yc zh rfl rfl rfl rfl rfl rfl rfl (by show _ * 32≤_;simp;omega) (by simp;omega) rfl rfl ?_)|refine sA ?_|refine sC (fun _=>?_) (fun _=>?_)|fail)
  exact retq rfl rfl
 ·repeat' (first|refine yS (t:=5) 0 42 4 (by decide) rfl rfl ?_|(refine shC ?_;first|refine qC c1 ?_)|(refine zI ?_;first|refine yc zh rfl rfl rfl rfl rfl rfl rfl (by show _ * 32≤_;simp;try omega) (by simp;try omega) rfl rfl ?_)|refine sA ?_|refine sC (fun _=>?_) (fun _=>?_)|fail)
  exact retq rfl rfl
theorem znF (g:Img) (m:Me) (hp:m.params.length≤1000):ACall Tryz.prog 68 [zq g,zG m] (tys (zln (Yo (zB g m.owner) (m.flags.tmod 2 != 0) m.owner) m.params)):=by
 refine zf zh Tryz.func68 rfl (by kernel_rfl) Tryz.ntmps68 (by simp) _ rfl (fun hw gB hgB=>?_)
 have c1:=zos g m
 generalize Yo (zB g m.owner) (m.flags.tmod 2 != 0) m.owner=x at c1 ⊢
 obtain ⟨t,b⟩:=x
 cases b
 ·repeat' (first|refine yS (t:=5) 0 42 4 (by decide) rfl rfl ?_|(refine shC ?_;first|refine qC c1 ?_)|(refine zI ?_;first|refine yc zh rfl rfl rfl rfl rfl rfl rfl (by show _ * 32≤_;simp;omega) (by simp;omega) rfl rfl ?_)|refine sA ?_|refine sC (fun _=>?_) (fun _=>?_)|fail)
  exact retq rfl rfl
 ·repeat' (first|refine yS (t:=5) 0 42 4 (by decide) rfl rfl ?_|(refine shC ?_;first|refine qC c1 ?_)|(refine zI ?_;first|refine yc zh rfl rfl rfl rfl rfl rfl rfl (by show _ * 32≤_;simp;try omega) (by simp;try omega) rfl rfl ?_)|refine sA ?_|refine sC (fun _=>?_) (fun _=>?_)|fail)
  exact retq rfl rfl
theorem zso {n:Int}:qB n 1=(n.tmod 2 != 0):=by
 have h1:(BitVec.ofInt 64 n &&& BitVec.ofInt 64 1).toNat=(n % 2).toNat:=by
  rw [BitVec.toNat_and]
  have:(BitVec.ofInt 64 1).toNat=1:=by decide
  rw [this,Nat.and_one_is_mod,BitVec.toNat_ofInt]
  omega
 have h2:n.tmod 2=0↔n % 2=0:=by
  constructor
  ·intro h;have:=Int.dvd_of_tmod_eq_zero h;omega
  ·intro h;exact Int.tmod_eq_zero_of_dvd (by omega)
 have h3:qB n 1=(IntKind.i64.wrap (((n % 2).toNat:Nat):Int) != 0):=by
  unfold qB
  have:(BitVec.ofInt IntKind.i64.bits n &&& BitVec.ofInt IntKind.i64.bits 1).toNat=(n % 2).toNat:=h1
  rw [this]
 rw [h3,wrap_in (by omega) (by omega)]
 by_cases h:n % 2=0
 ·simp [h,h2.2 h]
 ·have:¬ n.tmod 2=0:=fun e=>h (h2.1 e)
  have h5:((n % 2).toNat:Int)≠0:=by omega
  rw [show ((((n % 2).toNat:Nat):Int) != 0)=true from bne_iff_ne.2 h5,show (n.tmod 2 != 0)=true from bne_iff_ne.2 this]
theorem zpA:∀ n:Fin 32,zgc (n.val:Int)=XF (n.val:Int):=by decide +kernel
theorem zin {f:Int} (h0:0≤f) (h1:f≤31):zgc f=XF f:=by
 have:=zpA ⟨f.toNat,by omega⟩
 simpa [Int.toNat_of_nonneg h0] using this
theorem ZI {g:Img} (h:ZU g=true):zJ g=true:=by
 cases hf:zJ g with
 | true=>rfl
 | false=>simp [ZU,QV,hf] at h
theorem zdW {g:Img} (h:zJ g=true) (t:Int):YU g t=zB g t:=by
 unfold YU zB
 cases ht:typeAt g t with
 | none=>rfl
 | some td =>
  have hm:td∈g.types:=by
   unfold typeAt at ht
   split at ht
   ·exact List.mem_of_getElem? ht
   ·cases ht
  obtain ⟨h1,h2,_⟩:=ZH ((zF h).2.2.2 td hm)
  exact zin h1 h2
set_option maxHeartbeats 20000000
theorem YM (g:Img) (t:Int) (hg:g.types.length≤1000):ACall Tryz.prog 129 [zq g,pi t] (ints (up g t)):=by
 refine zf zh Tryz.func129 rfl (by kernel_rfl) Tryz.ntmps129 (by simp) _ rfl (fun hw gB hgB=>?_)
 repeat' (first|refine sA ?_|refine sC (fun _=>?_) (fun _=>?_)|fail)
 refine yS (t:=5) 0 3 1 (by decide) rfl rfl ?_
 refine zo (fun x:Int × List Int=>[(1,.pv (pi x.1)),(2,.pv (.ptr (zq g) 0)),(5,.own 0)]) (fun x=>[(0,.row 3 1 (x.2.map pi))]) (UpInv g t) (fun x=>g.types.length + 1 - x.2.length) (t,[]) ⟨rfl,by simp,by simp⟩ (tS) ⟨zn rfl zl,rfl⟩ ?_
 rintro ⟨t',out⟩ hi
 have hlen:=hi.len
 simp only at hlen
 cases ht:typeAt g t' with
 | none =>
  have hth:there g t'=false:=by
   cases hh:there g t' with
   | false=>rfl
   | true=>obtain ⟨td,h⟩:=(Zu g t').1 hh;rw [ht] at h;cases h
  have c1:ACall Tryz.prog 88 [zq g,pi t'] (pb false):=by rw [←hth];exact YE g t'
  repeat' (first|(refine shC ?_;first|refine qC c1 ?_)|refine sK ?_|refine sC (fun _=>?_) (fun _=>?_)|fail)
  exact retq rfl (by rw [←hi.stop (.inl ht)];rfl)
 | some td =>
  have hth:there g t'=true:=(Zu g t').2 ⟨td,ht⟩
  have c1:ACall Tryz.prog 88 [zq g,pi t'] (pb true):=by rw [←hth];exact YE g t'
  obtain ⟨h0,he⟩:=yQ ht
  by_cases hm:t'∈out
  ·have c2:ACall Tryz.prog 175 [ints out,pi t'] (pb true):=by have:=YP out t';rwa [decide_eq_true hm] at this
   repeat' (first|(refine shC ?_;first|refine qC c1 ?_|refine qC c2 ?_)|refine sK ?_|refine sC (fun _=>?_) (fun _=>?_)|fail)
   exact retq rfl (by rw [←hi.stop (.inr hm)];rfl)
  ·have c2:ACall Tryz.prog 175 [ints out,pi t'] (pb false):=by have:=YP out t';rwa [decide_eq_false hm] at this
   have hnx:=hi.next ht hm
   repeat' (first|(refine shC ?_;first|refine qC c1 ?_|refine qC c2 ?_)|(refine shX ?_;first|refine zu rfl (zk zh rfl rfl rfl rfl rfl rfl h0 he) rfl rfl ?_|refine AD.step _ _ _ _ _ rfl (zk zh rfl rfl rfl rfl rfl rfl h0 he) rfl rfl ?_)|(refine zI ?_;first|refine yc zh rfl rfl rfl rfl rfl rfl rfl (by show _ * 8≤_;simp;omega) (by simp;omega) rfl rfl ?_)|refine sK ?_|refine sC (fun _=>?_) (fun _=>?_)|fail)
   refine ⟨(td.ext,out++[t']),hnx,by simp;omega,tS,⟨yX rfl (by simp) zl,rfl⟩⟩
theorem zfV (l:List Int) (hb:l.length≤100000):ACall Tryz.prog 72 [ints l] (ints l):=by
 refine zf zh Tryz.func72 rfl (by kernel_rfl) Tryz.ntmps72 (by simp) _ rfl (fun hw gB hgB=>?_)
 repeat' (first|refine Xx zh rfl rfl rfl rfl rfl rfl rfl (fun bb hbb=>?_)|refine zu rfl (Xl zh rfl rfl rfl rfl rfl) rfl rfl ?_|(refine zI ?_;first|refine zu rfl (XB zh rfl rfl (.inl rfl) rfl rfl (by show _ * 8≤_;simp;omega) (by simp;omega)) rfl rfl ?_)|refine sA ?_|refine sC (fun _=>?_) (fun _=>?_)|fail)
 ·rename_i h
  have:l=[]:=by have:=hbb h;simpa using this
  subst this
  exact zcA (t:=2) (ps:=[ints []]) rfl (Xb 1 false) rfl rfl
 ·exact retq rfl rfl
def zc6 (l:List Int) (p:Int→Bool):Int:=if l.any p then ((l.findIdx p:Nat):Int) else -1
theorem zad (l:List Int) (p:Int→Bool) (f:FuncId) (first cap:List PV) (hp:∀ x∈l,ACall Tryz.prog f (first++[pi x]++cap) (pb (p x))):ACall Tryz.prog 127 [ints l,.fn (.func f) first cap] (pi (zc6 l p)):=by
 refine zf zh Tryz.func127 rfl (by kernel_rfl) Tryz.ntmps127 (by simp) _ rfl (fun hw gB hgB=>?_)
 have hl:=zcv hw.1
 repeat' (first|refine sA ?_|refine sC (fun _=>?_) (fun _=>?_)|fail)
 refine zo (fun k:Nat=>[(0,.pv (ints l)),(1,.pv (.fn (.func f) first cap)),(7,.pv (pi l.length)),(8,.pv (pi k))]) (fun _=>[]) (fun k=>k≤l.length∧∀ j (h:j < k) (h2:j < l.length),p l[j]=false) (fun k=>l.length - k) 0 ⟨by omega,fun j h=>by omega⟩ (tS) tH ?_
 rintro k ⟨hk,hno⟩
 by_cases hlt:k < l.length
 ·have he:=yT hlt
  have c1:=hp _ (List.getElem_mem hlt)
  cases hpx:p l[k]
  ·rw [hpx] at c1
   repeat' (first|(refine shC ?_;first|refine qV (c1) ?_)|(refine shX ?_;first|refine qX he ?_)|refine sK ?_|refine sC (fun _=>?_) (fun _=>?_)|fail)
   exact ⟨k + 1,⟨hlt,fun j hj h2=>by
    by_cases e:j=k
    ·subst e;exact hpx
    ·exact hno j (by omega) h2⟩,tD,tS,tH⟩
  ·rw [hpx] at c1
   have hi:l.findIdx p=k:=by
    rw [List.findIdx_eq hlt]
    exact ⟨hpx,fun j hj=>hno j hj (by omega)⟩
   have ha:l.any p=true:=List.any_eq_true.2 ⟨_,List.getElem_mem hlt,hpx⟩
   repeat' (first|(refine shC ?_;first|refine qV (c1) ?_)|(refine shX ?_;first|refine qX he ?_)|refine sK ?_|refine sC (fun _=>?_) (fun _=>?_)|fail)
   exact retq rfl (by simp [zi,zc6,ha,hi])
 ·have ha:l.any p=false:=by
   rw [List.any_eq_false]
   intro x hx
   obtain ⟨j,hj,rfl⟩:=List.getElem_of_mem hx
   simp [hno j (by omega) hj]
  repeat' (first|refine sK ?_|refine sC (fun _=>?_) (fun _=>?_)|fail)
  exact retq rfl (by simp [zi,zc6,ha])
theorem zei (l:List Int) (f:FuncId) (first cap:List PV) (hp:∀ x∈l,ACall Tryz.prog f (first++[pi x]++cap) (pb false)):ACall Tryz.prog 178 [ints l,.fn (.func f) first cap] (ints l):=by
 refine zf zh Tryz.func178 rfl (by kernel_rfl) Tryz.ntmps178 (by simp) _ rfl (fun hw gB hgB=>?_)
 have c1:=zad l (fun _=>false) f first cap hp
 rw [show zc6 l (fun _=>false) = -1 by simp [zc6]] at c1
 repeat' (first|(refine shC ?_;first|refine qC c1 ?_)|refine sA ?_|refine sC (fun _=>?_) (fun _=>?_)|fail)
 exact retq rfl rfl
theorem zmd (g:Img) (x:Int):ACall Tryz.prog 179 [pi x,.ptr (zq g) 0] (pb (!there g x)):=by
 refine zf zh Tryz.func179 rfl (by kernel_rfl) Tryz.ntmps179 (by simp) _ rfl (fun hw gB hgB=>?_)
 repeat' (first|(refine shC ?_;first|refine qC (YE g x) ?_)|refine sA ?_|refine sC (fun _=>?_) (fun _=>?_)|fail)
 all_goals first|(refine retq rfl ?_;first|(simp only [zi,BL,List.length_map] at *;simp only [*,BL,List.length_map];done)|(simp_all [zi];done)|(simp_all [zi];omega)|(simp_all [zi];intros;omega))|(refine ZA rfl ?_;first|(simp only [zi,BL,List.length_map] at *;simp only [*,BL,List.length_map];done)|(simp_all [zi];done)|(simp_all [zi];omega)|(simp_all [zi];intros;omega))|skip
theorem WH (g:Img) (t:Int) (hfc:(yg g t).length≤1000) (hin:∀ f∈yg g t,there g f=true):ACall Tryz.prog 131 [zq g,pi t] (ints (yg g t)):=by
 refine zf zh Tryz.func131 rfl (by kernel_rfl) Tryz.ntmps131 (by simp) _ rfl (fun hw gB hgB=>?_)
 cases ht:typeAt g t with
 | none =>
  have hth:there g t=false:=by
   cases hh:there g t with
   | false=>rfl
   | true=>obtain ⟨td,h⟩:=(Zu g t).1 hh;rw [ht] at h;cases h
  have c1:ACall Tryz.prog 88 [zq g,pi t] (pb false):=by rw [←hth];exact YE g t
  repeat' (first|(refine shC ?_;first|refine qC c1 ?_)|refine sK ?_|refine sC (fun _=>?_) (fun _=>?_)|fail)
  rw [yg,ht]
  exact zcA (t:=4) (ps:=[ints []]) rfl (Xb 1 false) rfl rfl
 | some td =>
  have hth:there g t=true:=(Zu g t).2 ⟨td,ht⟩
  have c1:ACall Tryz.prog 88 [zq g,pi t] (pb true):=by rw [←hth];exact YE g t
  obtain ⟨h0,he⟩:=yQ ht
  have hfa:yg g t=td.faces:=by rw [yg,ht]
  rw [hfa] at hin hfc ⊢
  have c2:=zei td.faces 179 [] [.ptr (zq g) 0] (fun x hx=>by have:=zmd g x;rw [hin x hx] at this;exact this)
  repeat' (first|(refine shC ?_;first|refine qC c1 ?_|refine zu rfl (qw rfl rfl (zfV _ (by omega))) rfl rfl ?_|refine AD.step _ _ _ _ _ rfl (qw rfl rfl (zfV _ (by omega))) rfl rfl ?_|refine qC c2 ?_)|(refine shX ?_;first|refine zu rfl (zk zh rfl rfl rfl rfl rfl rfl h0 he) rfl rfl ?_|refine AD.step _ _ _ _ _ rfl (zk zh rfl rfl rfl rfl rfl rfl h0 he) rfl rfl ?_)|refine sK ?_|refine sC (fun _=>?_) (fun _=>?_)|fail)
  exact retq rfl rfl
theorem zmc (g:Img) (t:Int) (hfc:(yg g t).length≤1000) (hin:∀ f∈yg g t,there g f=true):ACall Tryz.prog 133 [pi t,.ptr (zq g) 0] (ints (yg g t)):=by
 refine zf zh Tryz.func133 rfl (by kernel_rfl) Tryz.ntmps133 (by simp) _ rfl (fun hw gB hgB=>?_)
 repeat' (first|(refine shC ?_;first|refine qC (WH g t hfc hin) ?_)|refine sA ?_|refine sC (fun _=>?_) (fun _=>?_)|fail)
 exact retq rfl rfl
set_option maxHeartbeats 20000000
abbrev hR (met:List Int):HEnv:=[(0,.cell (.own 2)),(1,.cell (.own 3)),(2,.obj (MapSet Tryz.prog 3 3 met)),(3,.row 3 1 (met.map pi))]
structure GOk (G:HEnv):Prop where
 kill:Xv 3 G=G
 ids:∀ i h,HEnv.get G i=some h→4≤i
 inn:∀ met,hIn (hR met++G) G=true
theorem zr9 {met:List Int} {G:HEnv} {i:Nat} (h:4≤i):HEnv.get (hR met++G) i=HEnv.get G i:=by
 rw [get_append]
 have:HEnv.get (hR met) i=none:=by
  simp only [hR,HEnv.get_cons,HEnv.get_nil]
  rw [if_neg (by omega),if_neg (by omega),if_neg (by omega),if_neg (by omega)]
 rw [this]
theorem GOk.killHE {G:HEnv} (hG:GOk G) {i:Nat} {h:HE} (hg:HEnv.get G i=some h):Cg.killHE 3 h=h:=by
 have:=Yp 3 G i
 rw [hG.kill,hg] at this
 simpa using this.symm
theorem zoJ {H:HEnv} {met:List Int} {G:HEnv} {env':Env} (hG:GOk G) (h0:H.get 0=some (.cell (.own 2))) (h1:H.get 1=some (.cell (.own 3))) (h2:H.get 2=some (.obj (MapSet Tryz.prog 3 3 met))) (h3:H.get 3=some (.row 3 1 (met.map pi)))
  (hr:∀ i h,4≤i→HEnv.get G i=some h→H.get i=some h) (he:Qv (hR met++G) env'=true):Qa H (hR met++G) env':=by
 refine ⟨fun i h hi=>?_,?_⟩
 ·by_cases h4:4≤i
  ·rw [zr9 h4] at hi;exact hr i h h4 hi
  ·have:i=0∨i=1∨i=2∨i=3:=by omega
   rw [get_append] at hi
   rcases this with rfl|rfl|rfl|rfl
   ·rw [h0];exact hi
   ·rw [h1];exact hi
   ·rw [h2];exact hi
   ·rw [h3];exact hi
 ·rw [he,Bool.true_and]
  show (true&&(true&&hIn (hR met++G) G))=true
  rw [hG.inn];rfl
theorem zj9 {i:Nat} (h:HE) (met:List Int) (G:HEnv) (h4:4≤i) (hg:HEnv.get G i=some h):HEnv.get (hR met++G) i=some h:=by rw [zr9 h4];exact hg
theorem zsr {x:Int} (h:0≤x∧x < 100000):(Lit.int .i64 x).wf=true:=by
 simp [Lit.wf,IntKind.has,IntKind.min,IntKind.max,IntKind.bits,IntKind.signed];omega
theorem zlQ (l met:List Int) (G:HEnv) (hG:GOk G) (hx:∀ x∈l,0≤x∧x < 100000) (hlen:met.length + l.length≤100000) :
  ACallH Tryz.prog 180 [.pv (ints l),.box 0 0,.box 1 0] (hR met++G) (hR (l.foldl ZM met)++G):=by
 refine zkk Tryz.func180 rfl (by kernel_rfl) Tryz.ntmps180 (by simp) rfl (fun gB hgB=>?_)
 repeat' (first|refine sA ?_|refine sC (fun _=>?_) (fun _=>?_)|fail)
 refine zo (fun x:Nat × List Int=>[(1,.box 0 0),(2,.box 1 0),(6,.pv (ints l)),(7,.pv (pi l.length)),(8,.pv (pi x.1))]) (fun x=>hR x.2++G)
  (fun x=>x.1≤l.length∧x.2.length≤met.length + x.1∧(l.drop x.1).foldl ZM x.2=l.foldl ZM met) (fun x=>l.length - x.1) (0,met) ⟨by simp,by simp,rfl⟩ (tS) (zoJ hG rfl rfl rfl rfl (fun i h h4 hg=>zj9 h met G h4 hg) rfl) ?_
 rintro ⟨k,m⟩ ⟨hk,hml,hr⟩
 simp only at hk hml hr
 by_cases hlt:k < l.length
 ·have he:=yT hlt
  rw [QW hlt] at hr
  have hwf:=zsr (hx _ (List.getElem_mem hlt))
  by_cases hm:l[k]∈m
  ·rw [show ZM m l[k]=m by simp [ZM,hm]] at hr
   repeat' (first|refine zu rfl (ziU (c:=1) (if_pos hm) zh rfl rfl rfl rfl rfl rfl rfl rfl hwf) rfl rfl ?_|(refine shX ?_;first|refine qX he ?_)|refine sK ?_|refine sC (fun _=>?_) (fun _=>?_)|fail)
   refine ⟨(k + 1,m),⟨hlt,by simp;omega,hr⟩,tD,tS,zoJ hG rfl rfl rfl rfl (fun i h h4 hg=>zj9 h m G h4 hg) rfl⟩
  ·rw [show ZM m l[k]=m++[l[k]] by simp [ZM,hm]] at hr
   repeat' (first|refine zu rfl (ziU (c:=0) (if_neg hm) zh rfl rfl rfl rfl rfl rfl rfl rfl hwf) rfl rfl ?_|refine zjZ hgB.1 zh rfl rfl rfl rfl rfl rfl rfl rfl rfl hwf (by simp [maxLen];omega) rfl ?_|(refine shX ?_;first|refine qX he ?_)|(refine zI ?_;first|refine yc zh rfl rfl rfl rfl rfl rfl rfl (by show _ * 8≤_;simp;omega) (by simp;omega) rfl rfl ?_)|refine sK ?_|refine sC (fun _=>?_) (fun _=>?_)|fail)
   refine ⟨(k + 1,m++[l[k]]),⟨hlt,by simp;omega,hr⟩,tD,tS,zoJ hG rfl rfl rfl (by show some (HE.row 3 1 _)=_;simp) (fun i h h4 hg=>?_) rfl⟩
   rw [HEnv.get_cons,if_neg (by omega),HEnv.get_cons,if_neg (by omega),Yp,HEnv.get_cons,if_neg (by omega),zr9 h4,hg]
   simp [hG.killHE hg]
 ·rw [drop_end (by omega)] at hr
  simp only [List.foldl_nil] at hr
  subst hr
  repeat' (first|refine sK ?_|refine sC (fun _=>?_) (fun _=>?_)|fail)
  exact ⟨.inl rfl,zoJ hG rfl rfl rfl rfl (fun i h h4 hg=>zj9 h _ G h4 hg) rfl⟩
def QM (step:Int→List Int):Nat→Nat→List Int→List Int
 | 0,_,met=>met
 | n + 1,i,met=>match met[i]? with|some u=>QM step n (i + 1) ((step u).foldl ZM met)|none=>met
def QU (N:Nat) (step:Int→List Int) (l:List Int):List Int:=QM step (N + 1) 0 (l.foldl ZM [])
def NInv (N:Nat) (met:List Int):Prop:=met.Nodup∧∀ y∈met,0≤y∧y < N
theorem NInv.len {N:Nat} {met:List Int} (h:NInv N met):met.length≤N:=qR _ _ h.1 h.2
theorem NInv.add {N:Nat} {met:List Int} (h:NInv N met) {x:Int} (hx:0≤x∧x < N):NInv N (ZM met x):=by
 unfold ZM
 split
 ·exact h
 ·rename_i hn
  refine ⟨?_,?_⟩
  ·rw [List.nodup_append];simp [h.1];intro b hb e;subst e;exact hn hb
  ·intro y hy
   simp only [List.mem_append,List.mem_singleton] at hy
   rcases hy with hy|rfl
   ·exact h.2 y hy
   ·exact hx
theorem NInv.fold {N:Nat}:∀ (l:List Int) {met:List Int},NInv N met→(∀ x∈l,0≤x∧x < N)→NInv N (l.foldl ZM met)
 | [],_,h,_=>h
 | f::l,_,h,hl=>NInv.fold l (h.add (hl f (by simp))) fun x hx=>hl x (by simp [hx])
theorem zdf:∀ (l met:List Int),met.length≤(l.foldl ZM met).length
 | [],met=>Nat.le_refl _
 | x::l,met=>by
  refine Nat.le_trans ?_ (zdf l (ZM met x))
  unfold ZM;split <;> simp
theorem zlI {us:Nat→Value} {env2:Env} (h1:Xv 3 (yY us 100 env2)=yY us 100 env2) (h2:∀ met,hIn (hR met++yY us 100 env2) (yY us 100 env2)=true):GOk (yY us 100 env2) :=
 ⟨h1,fun i h hg=>by have:=(VY hg).1;omega,h2⟩
theorem zdi (N:Nat) (hN:N≤1000) (l:List Int) (step:Int→List Int) (f:FuncId) (first cap:List PV) (hl:∀ x∈l,0≤x∧x < N) (hll:l.length≤10000)
  (hs:∀ x:Int,0≤x→x < (N:Int)→ACall Tryz.prog f (first++[pi x]++cap) (ints (step x))) (hst:∀ x:Int,0≤x→x < (N:Int)→(step x).length≤10000∧∀ y∈step x,0≤y∧y < N) :
  ACall Tryz.prog 132 [ints l,.fn (.func f) first cap] (ints (sortL (QU N step l))):=by
 refine zf zh Tryz.func132 rfl (by kernel_rfl) Tryz.ntmps132 (by simp) _ rfl (fun hw gB hgB=>?_)
 have hm0:NInv N (l.foldl ZM []):=NInv.fold l ⟨by simp,by simp⟩ hl
 repeat' (first|refine zn5 (kt:=3) (et:=3) 2 rfl rfl rfl rfl rfl ?_|refine zgr 1 3 3 1 (by decide) rfl rfl ?_|refine sA ?_|refine sC (fun _=>?_) (fun _=>?_)|fail)
 refine zsX [(0,.pv (ints l)),(1,.pv (.fn (.func f) first cap)),(5,.box 0 0),(6,.box 1 0),(7,.fn (.func 180) [] [.box 0 0,.box 1 0]),(11,.fn (.func 180) [] [.box 0 0,.box 1 0]),(12,.pv (ints l))] (hR []) (tS)
  ⟨by repeat (first|exact zl|refine zn rfl ?_),rfl⟩ ?_
 refine zk1 [(1,.pv (.fn (.func f) first cap)),(5,.box 0 0),(6,.box 1 0),(7,.fn (.func 180) [] [.box 0 0,.box 1 0])] (hR (l.foldl ZM [])) 100 hgB rfl rfl rfl rfl (tS) rfl rfl rfl rfl rfl rfl
  (fun us=>zlQ l [] _ (zlI rfl (fun _=>rfl)) (fun x hx=>by have:=hl x hx;omega) (by simp;omega)) ?_
 repeat' (first|refine sA ?_|refine sC (fun _=>?_) (fun _=>?_)|fail)
 refine zo (fun x:Nat × List Int=>[(1,.pv (.fn (.func f) first cap)),(5,.box 0 0),(6,.box 1 0),(7,.fn (.func 180) [] [.box 0 0,.box 1 0]),(8,.pv (pi x.1))]) (fun x=>hR x.2)
  (fun x=>x.1≤x.2.length∧NInv N x.2∧QM step (N + 1 - x.1) x.1 x.2=QU N step l) (fun x=>N + 1 - x.1) (0,l.foldl ZM []) ⟨by simp,hm0,rfl⟩ (tS) ⟨by repeat (first|exact zl|refine zn rfl ?_),rfl⟩ ?_
 rintro ⟨i,met⟩ ⟨hi,hmi,hr⟩
 simp only at hi hmi hr
 have hml:=hmi.len
 rw [show N + 1 - i=(N - i) + 1 by omega,QM] at hr
 by_cases hlt:i < met.length
 ·have heU:=yT hlt
  rw [List.getElem?_eq_getElem hlt] at hr
  simp only at hr
  obtain ⟨hu0,hu1⟩:=hmi.2 _ (List.getElem_mem hlt)
  obtain ⟨hs1,hs2⟩:=hst _ hu0 hu1
  have c1:=hs _ hu0 hu1
  repeat' (first|(refine shC ?_;first|refine qV (c1) ?_)|(refine shX ?_;first|refine qX heU ?_)|refine sK ?_|refine sC (fun _=>?_) (fun _=>?_)|fail)
  refine zk1 [(1,.pv (.fn (.func f) first cap)),(5,.box 0 0),(6,.box 1 0),(7,.fn (.func 180) [] [.box 0 0,.box 1 0]),(8,.pv (pi i))] (hR ((step met[i]).foldl ZM met)) 100 hgB rfl rfl rfl rfl (tS) rfl rfl rfl rfl rfl rfl
   (fun us=>zlQ _ met _ (zlI rfl (fun _=>rfl)) (fun x hx=>by have:=hs2 x hx;omega) (by omega)) ?_
  repeat' (first|refine sK ?_|refine sC (fun _=>?_) (fun _=>?_)|fail)
  have hmi2:=NInv.fold _ hmi hs2
  refine ⟨(i + 1,(step met[i]).foldl ZM met),⟨?_,hmi2,?_⟩,by simp only;omega,tS,⟨by repeat (first|exact zl|refine zn rfl ?_),rfl⟩⟩
  ·have:=zdf (step met[i]) met
   simp only;omega
  ·simp only
   rw [show N + 1 - (i + 1)=N - i by omega];exact hr
 ·rw [List.getElem?_eq_none (by omega)] at hr
  simp only at hr
  subst hr
  repeat' (first|refine ztz [(6,.box 1 0)] hgB rfl rfl ⟨Tryz.f181,Tryz.func181,rfl,by kernel_rfl⟩ rfl rfl (by simp only;omega) (tS) rfl rfl rfl rfl ?_|refine sK ?_|refine sC (fun _=>?_) (fun _=>?_)|fail)
  exact retq rfl rfl
end Go.Cg
