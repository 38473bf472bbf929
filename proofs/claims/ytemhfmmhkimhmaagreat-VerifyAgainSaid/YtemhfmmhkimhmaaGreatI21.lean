/- A part of the walks by abstract values: no statement of its own. -/
import Derived.Test.YtemhfmmhkimhmaaGreatI20
import Derived.Test.YtemhfmmhkimhmaaGreatI19
import Derived.Test.YtemhfmmhkimhmaaGreatI13
set_option linter.unusedVariables false
set_option linter.unusedSimpArgs false
namespace Go.Cg
open Go.Proofs
set_option maxHeartbeats 20000000
def zao (k:Int) (st:Bool) (o:Int):Ty × Bool:=if k < 0||st then (ty0,false) else if k==1 then (⟨6,o,0,true⟩,true) else (⟨5,o,0,false⟩,true)
theorem zkj (g:Img) (m:Me):ACall Tryz.prog 123 [zK g,zY m] (.tup [yI (zao (Ye g m.owner) (qQ m.flags 1) m.owner).1,pb (zao (Ye g m.owner) (qQ m.flags 1) m.owner).2]):=by
 refine zh zf Tryz.func123 rfl zws Tryz.ntmps123 zwy63 _ rfl (fun hw gB hgB=>?_)
 repeat' (first|(refine shC ?_;first|refine qC (QH _ _) ?_)|refine sA ?_|refine sC (fun _=>?_) (fun _=>?_)|fail)
 ·rename_i h1;have hs:zao (Ye g m.owner) (qQ m.flags 1) m.owner=(ty0,false):=by simp_all [zao]
  rw [hs];exact retq rfl rfl
 ·rename_i h1 h2;have h3:(qQ m.flags 1)=true:=h2;have hs:zao (Ye g m.owner) (qQ m.flags 1) m.owner=(ty0,false):=by simp [zao,h3]
  rw [hs];exact retq rfl rfl
 ·rename_i h1 h2 h4;have h3:(qQ m.flags 1)=false:=h2;have hs:zao (Ye g m.owner) (qQ m.flags 1) m.owner=(⟨6,m.owner,0,true⟩,true):=by rw [zao,h3];simp_all
  rw [hs];exact retq rfl rfl
 ·rename_i h1 h2 h4;have h3:(qQ m.flags 1)=false:=h2;have hs:zao (Ye g m.owner) (qQ m.flags 1) m.owner=(⟨5,m.owner,0,false⟩,true):=by rw [zao,h3];simp_all
  rw [hs];exact retq rfl rfl
def zwm (x:Ty × Bool) (l:List Ty):List Ty:=(if x.2 then [x.1] else [])++l
theorem zwk1 {G:Prop} (h:G:=by repeat' (first|refine Za (t:=5) 0 32 4 zwy69 rfl rfl ?_|(refine shC ?_;first|refine qC c1 ?_)|(have:=b0;refine yj ?_;first|refine yV zf rfl rfl rfl rfl rfl rfl rfl zwy106 zwy64 rfl rfl ?_)|(have:=b1;refine yj ?_;first|refine yV zf rfl rfl rfl rfl rfl rfl rfl (by show _ * 32<=_;simp;try omega) (by simp;try omega) rfl rfl ?_)|refine sA ?_|refine sC (fun _=>?_) (fun _=>?_)|exact retq rfl rfl|fail)):G:=h
theorem zb9 (g:Img) (m:Me) (hp:m.params.length<=1000):ACall Tryz.prog 87 [zK g,zY m] (tys (zwm (zao (Ye g m.owner) (qQ m.flags 1) m.owner) m.params)):=by
 refine zh zf Tryz.func87 rfl zws Tryz.ntmps87 zwy63 _ rfl (fun hw gB hgB=>?_);have c1:=zkj g m;generalize zao (Ye g m.owner) (qQ m.flags 1) m.owner=x at c1 ⊢;obtain ⟨t,b⟩:=x;cases b
 ·have b0:=();exact zwk1
 ·have b1:=();exact zwk1
theorem zqT:∀ n:Fin 32,zgQ (n.val:Int)=WZ (n.val:Int):=by decide +kernel
theorem zjn {f:Int} (h0:0<=f) (h1:f<=31):zgQ f=WZ f:=by
 have:=zqT ⟨f.toNat,by omega⟩;simpa [Int.toNat_of_nonneg h0] using this
theorem YA {g:Img} (h:Yz g=true):yh g=true:=by
 cases hf:yh g with
 | true=>rfl
 | false=>simp [Yz,QF,hf] at h
theorem ziX {g:Img} (h:yh g=true) (t:Int):Ye g t=zW g t:=by
 unfold Ye zW;cases ht:typeAt g t with
 | none=>rfl
 | some td =>
  have hm:td∈g.types:=by
   unfold typeAt at ht;split at ht
   ·exact List.mem_of_getElem? ht
   ·cases ht
  obtain ⟨h1,h2,_⟩:=YB ((yg h).2.2.2 td hm);exact zjn h1 h2
set_option maxHeartbeats 20000000
theorem YZ (g:Img) (t:Int) (hg:g.types.length<=1000):ACall Tryz.prog 109 [zK g,pi t] (ints (up g t)):=by
 refine zh zf Tryz.func109 rfl zws Tryz.ntmps109 zwy63 _ rfl (fun hw gB hgB=>?_)
 repeat' (first|refine sA ?_|refine sC (fun _=>?_) (fun _=>?_)|fail)
 refine Za (t:=5) 0 3 1 zwy69 rfl rfl ?_;refine zL (fun x:Int × List Int=>[(1,.pv (pi x.1)),(2,.pv (.ptr (zK g) 0)),(5,.own 0)]) (fun x=>[(0,.row 3 1 (x.2.map pi))]) (UpInv g t) (fun x=>g.types.length + 1 - x.2.length) (t,[]) ⟨rfl,by simp,by simp⟩ (tS) ⟨aB zC,rfl⟩ ?_;rintro ⟨t',out⟩ hi;have hlen:=hi.len;simp only at hlen;cases ht:typeAt g t' with
 | none =>
  have hth:there g t'=false:=by
   cases hh:there g t' with
   | false=>rfl
   | true=>obtain ⟨td,h⟩:=(Yf g t').1 hh;rw [ht] at h;cases h
  have c1:ACall Tryz.prog 71 [zK g,pi t'] (pb false):=by rw [<-hth];exact QL g t'
  repeat' (first|(refine shC ?_;first|refine qC c1 ?_)|refine sK ?_|refine sC (fun _=>?_) (fun _=>?_)|fail)
  exact retq rfl (by rw [<-hi.stop (.inl ht)];rfl)
 | some td =>
  have hth:there g t'=true:=(Yf g t').2 ⟨td,ht⟩;have c1:ACall Tryz.prog 71 [zK g,pi t'] (pb true):=by rw [<-hth];exact QL g t'
  obtain ⟨h0,he⟩:=qN ht;by_cases hm:t'∈out
  ·have c2:ACall Tryz.prog 150 [ints out,pi t'] (pb true):=by have:=Qc out t';rwa [decide_eq_true hm] at this
   repeat' (first|(refine shC ?_;first|refine qC c1 ?_|refine qC c2 ?_)|refine sK ?_|refine sC (fun _=>?_) (fun _=>?_)|fail)
   exact retq rfl (by rw [<-hi.stop (.inr hm)];rfl)
  ·have c2:ACall Tryz.prog 150 [ints out,pi t'] (pb false):=by have:=Qc out t';rwa [decide_eq_false hm] at this
   have hnx:=hi.next ht hm
   repeat' (first|(refine shC ?_;first|refine qC c1 ?_|refine qC c2 ?_)|(refine shX ?_;first|refine zy rfl (ah h0 he) rfl rfl ?_|refine zq rfl (ah h0 he) rfl rfl ?_)|(refine yj ?_;first|refine yV zf rfl rfl rfl rfl rfl rfl rfl zwy72 zwy64 rfl rfl ?_)|refine sK ?_|refine sC (fun _=>?_) (fun _=>?_)|fail)
   refine ⟨(td.ext,out++[t']),hnx,by simp;omega,tS,⟨qH rfl zwy63 zC,rfl⟩⟩
theorem zhl (l:List Int) (hb:l.length<=100000):ACall Tryz.prog 43 [ints l] (ints l):=by
 refine zh zf Tryz.func43 rfl zws Tryz.ntmps43 zwy63 _ rfl (fun hw gB hgB=>?_)
 repeat' (first|refine WB zf rfl rfl rfl rfl rfl rfl rfl (fun bb hbb=>?_)|refine zy rfl (WI zf rfl rfl rfl rfl rfl) rfl rfl ?_|(refine yj ?_;first|refine zy rfl (Qq zf rfl rfl (.inl rfl) rfl rfl zwy72 zwy64) rfl rfl ?_)|refine sA ?_|refine sC (fun _=>?_) (fun _=>?_)|fail)
 ·rename_i h;have:l=[]:=by have:=hbb h;simpa using this
  subst this;exact zbV (t:=2) (ps:=[ints []]) rfl (QY 1 false) rfl rfl
 ·exact retq rfl rfl
def zd8 (l:List Int) (p:Int->Bool):Int:=if l.any p then ((l.findIdx p:Nat):Int) else -1
theorem za2 (l:List Int) (p:Int->Bool) (f:FuncId) (first cap:List PV) (hp:∀ x∈l,ACall Tryz.prog f (first++[pi x]++cap) (pb (p x))):ACall Tryz.prog 107 [ints l,.fn (.func f) first cap] (pi (zd8 l p)):=by
 refine zh zf Tryz.func107 rfl zws Tryz.ntmps107 zwy63 _ rfl (fun hw gB hgB=>?_);have hl:=zdk hw.1
 repeat' (first|refine sA ?_|refine sC (fun _=>?_) (fun _=>?_)|fail)
 refine zL (fun k:Nat=>[(0,.pv (ints l)),(1,.pv (.fn (.func f) first cap)),(7,.pv (pi l.length)),(8,.pv (pi k))]) (fun _=>[]) (fun k=>k<=l.length/\∀ j (h:j < k) (h2:j < l.length),p l[j]=false) (fun k=>l.length - k) 0 ⟨by omega,fun j h=>by omega⟩ (tS) tH ?_;rintro k ⟨hk,hno⟩;by_cases hlt:k < l.length
 ·have he:=qI hlt;have c1:=hp _ (List.getElem_mem hlt);cases hpx:p l[k]
  ·rw [hpx] at c1
   repeat' (first|(refine shC ?_;first|refine qV (c1) ?_)|(refine shX ?_;first|refine qX he ?_)|refine sK ?_|refine sC (fun _=>?_) (fun _=>?_)|fail)
   exact ⟨k + 1,⟨hlt,fun j hj h2=>by
    by_cases e:j=k
    ·subst e;exact hpx
    ·exact hno j zwy62 h2⟩,tD,tS,tH⟩
  ·rw [hpx] at c1;have hi:l.findIdx p=k:=by
    rw [List.findIdx_eq hlt];exact ⟨hpx,fun j hj=>hno j hj zwy62⟩
   have ha:l.any p=true:=List.any_eq_true.2 ⟨_,List.getElem_mem hlt,hpx⟩
   repeat' (first|(refine shC ?_;first|refine qV (c1) ?_)|(refine shX ?_;first|refine qX he ?_)|refine sK ?_|refine sC (fun _=>?_) (fun _=>?_)|fail)
   exact retq rfl (by simp [zn,zd8,ha,hi])
 ·have ha:l.any p=false:=by
   rw [List.any_eq_false];intro x hx;obtain ⟨j,hj,rfl⟩:=List.getElem_of_mem hx;simp [hno j zwy62 hj]
  repeat' (first|refine sK ?_|refine sC (fun _=>?_) (fun _=>?_)|fail)
  exact retq rfl (by simp [zn,zd8,ha])
theorem zfj (l:List Int) (f:FuncId) (first cap:List PV) (hp:∀ x∈l,ACall Tryz.prog f (first++[pi x]++cap) (pb false)):ACall Tryz.prog 153 [ints l,.fn (.func f) first cap] (ints l):=by
 refine zh zf Tryz.func153 rfl zws Tryz.ntmps153 zwy63 _ rfl (fun hw gB hgB=>?_);have c1:=za2 l (fun _=>false) f first cap hp
 rw [show zd8 l (fun _=>false) = -1 by simp [zd8]] at c1
 repeat' (first|(refine shC ?_;first|refine qC c1 ?_)|refine sA ?_|refine sC (fun _=>?_) (fun _=>?_)|fail)
 exact retq rfl rfl
theorem zn7 (g:Img) (x:Int):ACall Tryz.prog 154 [pi x,.ptr (zK g) 0] (pb (!there g x)):=by
 refine zh zf Tryz.func154 rfl zws Tryz.ntmps154 zwy63 _ rfl (fun hw gB hgB=>?_)
 repeat' (first|(refine shC ?_;first|refine qC (QL g x) ?_)|refine sA ?_|refine sC (fun _=>?_) (fun _=>?_)|fail)
 all_goals first|(refine ak ?_;first|(simp only [zn,BL,List.length_map] at *;simp only [*,BL,List.length_map];done)|(simp_all [zn];done)|(simp_all [zn];omega)|(simp_all [zn];intros;omega))|(refine Yi rfl ?_;first|(simp only [zn,BL,List.length_map] at *;simp only [*,BL,List.length_map];done)|(simp_all [zn];done)|(simp_all [zn];omega)|(simp_all [zn];intros;omega))|skip
theorem VY (g:Img) (t:Int) (hfc:(yP g t).length<=1000) (hin:∀ f∈yP g t,there g f=true):ACall Tryz.prog 111 [zK g,pi t] (ints (yP g t)):=by
 refine zh zf Tryz.func111 rfl zws Tryz.ntmps111 zwy63 _ rfl (fun hw gB hgB=>?_);cases ht:typeAt g t with
 | none =>
  have hth:there g t=false:=by
   cases hh:there g t with
   | false=>rfl
   | true=>obtain ⟨td,h⟩:=(Yf g t).1 hh;rw [ht] at h;cases h
  have c1:ACall Tryz.prog 71 [zK g,pi t] (pb false):=by rw [<-hth];exact QL g t
  repeat' (first|(refine shC ?_;first|refine qC c1 ?_)|refine sK ?_|refine sC (fun _=>?_) (fun _=>?_)|fail)
  rw [yP,ht];exact zbV (t:=4) (ps:=[ints []]) rfl (QY 1 false) rfl rfl
 | some td =>
  have hth:there g t=true:=(Yf g t).2 ⟨td,ht⟩;have c1:ACall Tryz.prog 71 [zK g,pi t] (pb true):=by rw [<-hth];exact QL g t
  obtain ⟨h0,he⟩:=qN ht;have hfa:yP g t=td.faces:=by rw [yP,ht]
  rw [hfa] at hin hfc ⊢;have c2:=zfj td.faces 154 [] [.ptr (zK g) 0] (fun x hx=>by have:=zn7 g x;rw [hin x hx] at this;exact this)
  repeat' (first|(refine shC ?_;first|refine qC c1 ?_|refine zy rfl (zJ rfl rfl (zhl _ zwy62)) rfl rfl ?_|refine zq rfl (zJ rfl rfl (zhl _ zwy62)) rfl rfl ?_|refine qC c2 ?_)|(refine shX ?_;first|refine zy rfl (ah h0 he) rfl rfl ?_|refine zq rfl (ah h0 he) rfl rfl ?_)|refine sK ?_|refine sC (fun _=>?_) (fun _=>?_)|fail)
  exact retq rfl rfl
theorem zmN (g:Img) (t:Int) (hfc:(yP g t).length<=1000) (hin:∀ f∈yP g t,there g f=true):ACall Tryz.prog 113 [pi t,.ptr (zK g) 0] (ints (yP g t)):=by
 refine zh zf Tryz.func113 rfl zws Tryz.ntmps113 zwy63 _ rfl (fun hw gB hgB=>?_)
 repeat' (first|(refine shC ?_;first|refine qC (VY g t hfc hin) ?_)|refine sA ?_|refine sC (fun _=>?_) (fun _=>?_)|fail)
 exact retq rfl rfl
set_option maxHeartbeats 20000000
abbrev hR (met:List Int):HEnv:=[(0,.cell (.own 2)),(1,.cell (.own 3)),(2,.obj (MapSet Tryz.prog 3 3 met)),(3,.row 3 1 (met.map pi))]
structure GOk (G:HEnv):Prop where
 kill:zb5 3 G=G
 ids:∀ i h,HEnv.get G i=some h->4<=i
 inn:∀ met,hIn (hR met++G) G=true
theorem ztD {met:List Int} {G:HEnv} {i:Nat} (h:4<=i):HEnv.get (hR met++G) i=HEnv.get G i:=by
 rw [get_append];have:HEnv.get (hR met) i=none:=by
  simp only [hR,HEnv.get_cons,HEnv.get_nil];rw [if_neg zwy62,if_neg zwy62,if_neg zwy62,if_neg zwy62]
 rw [this]
theorem GOk.killHE {G:HEnv} (hG:GOk G) {i:Nat} {h:HE} (hg:HEnv.get G i=some h):Cg.killHE 3 h=h:=by
 have:=zci 3 G i;rw [hG.kill,hg] at this;simpa using this.symm
theorem zqL {H:HEnv} {met:List Int} {G:HEnv} {env':Env} (hG:GOk G) (h0:H.get 0=some (.cell (.own 2))) (h1:H.get 1=some (.cell (.own 3))) (h2:H.get 2=some (.obj (MapSet Tryz.prog 3 3 met))) (h3:H.get 3=some (.row 3 1 (met.map pi)))
  (hr:∀ i h,4<=i->HEnv.get G i=some h->H.get i=some h) (he:Xi (hR met++G) env'=true):Qx H (hR met++G) env':=by
 refine ⟨fun i h hi=>?_,?_⟩
 ·by_cases h4:4<=i
  ·rw [ztD h4] at hi;exact hr i h h4 hi
  ·have:i=0\/i=1\/i=2\/i=3:=by omega
   rw [get_append] at hi;rcases this with rfl|rfl|rfl|rfl
   ·rw [h0];exact hi
   ·rw [h1];exact hi
   ·rw [h2];exact hi
   ·rw [h3];exact hi
 ·rw [he,Bool.true_and];show (true&&(true&&hIn (hR met++G) G))=true
  rw [hG.inn];rfl
theorem zl5 {i:Nat} (h:HE) (met:List Int) (G:HEnv) (h4:4<=i) (hg:HEnv.get G i=some h):HEnv.get (hR met++G) i=some h:=by rw [ztD h4];exact hg
theorem ztC {x:Int} (h:0<=x/\x < 100000):(Lit.int .i64 x).wf=true:=by
 simp [Lit.wf,IntKind.has,IntKind.min,IntKind.max,IntKind.bits,IntKind.signed];omega
theorem znx (l met:List Int) (G:HEnv) (hG:GOk G) (hx:∀ x∈l,0<=x/\x < 100000) (hlen:met.length + l.length<=100000) :
  ACallH Tryz.prog 155 [.pv (ints l),.box 0 0,.box 1 0] (hR met++G) (hR (l.foldl YE met)++G):=by
 refine zlh Tryz.func155 rfl zws Tryz.ntmps155 zwy63 rfl (fun gB hgB=>?_)
 repeat' (first|refine sA ?_|refine sC (fun _=>?_) (fun _=>?_)|fail)
 refine zL (fun x:Nat × List Int=>[(1,.box 0 0),(2,.box 1 0),(6,.pv (ints l)),(7,.pv (pi l.length)),(8,.pv (pi x.1))]) (fun x=>hR x.2++G)
  (fun x=>x.1<=l.length/\x.2.length<=met.length + x.1/\(l.drop x.1).foldl YE x.2=l.foldl YE met) (fun x=>l.length - x.1) (0,met) ⟨by simp,by simp,rfl⟩ (tS) (zqL hG rfl rfl rfl rfl (fun i h h4 hg=>zl5 h met G h4 hg) rfl) ?_
 rintro ⟨k,m⟩ ⟨hk,hml,hr⟩;simp only at hk hml hr;by_cases hlt:k < l.length
 ·have he:=qI hlt;rw [Wp hlt] at hr;have hwf:=ztC (hx _ (List.getElem_mem hlt));by_cases hm:l[k]∈m
  ·rw [show YE m l[k]=m by simp [YE,hm]] at hr
   repeat' (first|refine zy rfl (zks (c:=1) (if_pos hm) zf rfl rfl rfl rfl rfl rfl rfl rfl hwf) rfl rfl ?_|(refine shX ?_;first|refine qX he ?_)|refine sK ?_|refine sC (fun _=>?_) (fun _=>?_)|fail)
   refine ⟨(k + 1,m),⟨hlt,by simp;omega,hr⟩,tD,tS,zqL hG rfl rfl rfl rfl (fun i h h4 hg=>zl5 h m G h4 hg) rfl⟩
  ·rw [show YE m l[k]=m++[l[k]] by simp [YE,hm]] at hr
   repeat' (first|refine zy rfl (zks (c:=0) (if_neg hm) zf rfl rfl rfl rfl rfl rfl rfl rfl hwf) rfl rfl ?_|refine zkT hgB.1 zf rfl rfl rfl rfl rfl rfl rfl rfl rfl hwf zwy100 rfl ?_|(refine shX ?_;first|refine qX he ?_)|(refine yj ?_;first|refine yV zf rfl rfl rfl rfl rfl rfl rfl zwy72 zwy64 rfl rfl ?_)|refine sK ?_|refine sC (fun _=>?_) (fun _=>?_)|fail)
   refine ⟨(k + 1,m++[l[k]]),⟨hlt,by simp;omega,hr⟩,tD,tS,zqL hG rfl rfl rfl (by show some (HE.row 3 1 _)=_;simp) (fun i h h4 hg=>?_) rfl⟩;rw [HEnv.get_cons,if_neg zwy62,HEnv.get_cons,if_neg zwy62,zci,HEnv.get_cons,if_neg zwy62,ztD h4,hg];simp [hG.killHE hg]
 ·rw [drop_end zwy62] at hr;simp only [List.foldl_nil] at hr;subst hr
  repeat' (first|refine sK ?_|refine sC (fun _=>?_) (fun _=>?_)|fail)
  exact ⟨.inl rfl,zqL hG rfl rfl rfl rfl (fun i h h4 hg=>zl5 h _ G h4 hg) rfl⟩
def XU (step:Int->List Int):Nat->Nat->List Int->List Int
 | 0,_,met=>met
 | n + 1,i,met=>match met[i]? with|some u=>XU step n (i + 1) ((step u).foldl YE met)|none=>met
def Wn (N:Nat) (step:Int->List Int) (l:List Int):List Int:=XU step (N + 1) 0 (l.foldl YE [])
def NInv (N:Nat) (met:List Int):Prop:=met.Nodup/\∀ y∈met,0<=y/\y < N
theorem NInv.len {N:Nat} {met:List Int} (h:NInv N met):met.length<=N:=ZF _ _ h.1 h.2
theorem NInv.add {N:Nat} {met:List Int} (h:NInv N met) {x:Int} (hx:0<=x/\x < N):NInv N (YE met x):=by
 unfold YE;split
 ·exact h
 ·rename_i hn;refine ⟨?_,?_⟩
  ·rw [List.nodup_append];simp [h.1];intro b hb e;subst e;exact hn hb
  ·intro y hy;simp only [List.mem_append,List.mem_singleton] at hy;rcases hy with hy|rfl
   ·exact h.2 y hy
   ·exact hx
theorem NInv.fold {N:Nat}:∀ (l:List Int) {met:List Int},NInv N met->(∀ x∈l,0<=x/\x < N)->NInv N (l.foldl YE met)
 | [],_,h,_=>h
 | f::l,_,h,hl=>NInv.fold l (h.add (hl f zwy63)) fun x hx=>hl x (by simp [hx])
theorem zek:∀ (l met:List Int),met.length<=(l.foldl YE met).length
 | [],met=>Nat.le_refl _
 | x::l,met=>by
  refine Nat.le_trans ?_ (zek l (YE met x));unfold YE;split <;> simp
theorem zmJ {us:Nat->Value} {env2:Env} (h1:zb5 3 (qP us 100 env2)=qP us 100 env2) (h2:∀ met,hIn (hR met++qP us 100 env2) (qP us 100 env2)=true):GOk (qP us 100 env2) :=
 ⟨h1,fun i h hg=>by have:=(zbh hg).1;omega,h2⟩
theorem zeA (N:Nat) (hN:N<=1000) (l:List Int) (step:Int->List Int) (f:FuncId) (first cap:List PV) (hl:∀ x∈l,0<=x/\x < N) (hll:l.length<=10000)
  (hs:∀ x:Int,0<=x->x < (N:Int)->ACall Tryz.prog f (first++[pi x]++cap) (ints (step x))) (hst:∀ x:Int,0<=x->x < (N:Int)->(step x).length<=10000/\∀ y∈step x,0<=y/\y < N) :
  ACall Tryz.prog 112 [ints l,.fn (.func f) first cap] (ints (sortL (Wn N step l))):=by
 refine zh zf Tryz.func112 rfl zws Tryz.ntmps112 zwy63 _ rfl (fun hw gB hgB=>?_);have hm0:NInv N (l.foldl YE []):=NInv.fold l ⟨by simp,by simp⟩ hl
 repeat' (first|refine zpA (kt:=3) (et:=3) 2 rfl rfl rfl rfl rfl ?_|refine zhF 1 3 3 1 zwy69 rfl rfl ?_|refine sA ?_|refine sC (fun _=>?_) (fun _=>?_)|fail)
 refine zv1 [(0,.pv (ints l)),(1,.pv (.fn (.func f) first cap)),(5,.box 0 0),(6,.box 1 0),(7,.fn (.func 155) [] [.box 0 0,.box 1 0]),(11,.fn (.func 155) [] [.box 0 0,.box 1 0]),(12,.pv (ints l))] (hR []) (tS)
  ⟨by repeat (first|exact zC|refine aB ?_),rfl⟩ ?_
 refine znF [(1,.pv (.fn (.func f) first cap)),(5,.box 0 0),(6,.box 1 0),(7,.fn (.func 155) [] [.box 0 0,.box 1 0])] (hR (l.foldl YE [])) 100 hgB rfl rfl rfl rfl (tS) rfl rfl rfl rfl rfl rfl
  (fun us=>znx l [] _ (zmJ rfl (fun _=>rfl)) (fun x hx=>by have:=hl x hx;omega) zwy64) ?_
 repeat' (first|refine sA ?_|refine sC (fun _=>?_) (fun _=>?_)|fail)
 refine zL (fun x:Nat × List Int=>[(1,.pv (.fn (.func f) first cap)),(5,.box 0 0),(6,.box 1 0),(7,.fn (.func 155) [] [.box 0 0,.box 1 0]),(8,.pv (pi x.1))]) (fun x=>hR x.2)
  (fun x=>x.1<=x.2.length/\NInv N x.2/\XU step (N + 1 - x.1) x.1 x.2=Wn N step l) (fun x=>N + 1 - x.1) (0,l.foldl YE []) ⟨by simp,hm0,rfl⟩ (tS) ⟨by repeat (first|exact zC|refine aB ?_),rfl⟩ ?_
 rintro ⟨i,met⟩ ⟨hi,hmi,hr⟩;simp only at hi hmi hr;have hml:=hmi.len;rw [show N + 1 - i=(N - i) + 1 by omega,XU] at hr;by_cases hlt:i < met.length
 ·have heU:=qI hlt;rw [List.getElem?_eq_getElem hlt] at hr;simp only at hr;obtain ⟨hu0,hu1⟩:=hmi.2 _ (List.getElem_mem hlt);obtain ⟨hs1,hs2⟩:=hst _ hu0 hu1;have c1:=hs _ hu0 hu1
  repeat' (first|(refine shC ?_;first|refine qV (c1) ?_)|(refine shX ?_;first|refine qX heU ?_)|refine sK ?_|refine sC (fun _=>?_) (fun _=>?_)|fail)
  refine znF [(1,.pv (.fn (.func f) first cap)),(5,.box 0 0),(6,.box 1 0),(7,.fn (.func 155) [] [.box 0 0,.box 1 0]),(8,.pv (pi i))] (hR ((step met[i]).foldl YE met)) 100 hgB rfl rfl rfl rfl (tS) rfl rfl rfl rfl rfl rfl
   (fun us=>znx _ met _ (zmJ rfl (fun _=>rfl)) (fun x hx=>by have:=hs2 x hx;omega) zwy62) ?_
  repeat' (first|refine sK ?_|refine sC (fun _=>?_) (fun _=>?_)|fail)
  have hmi2:=NInv.fold _ hmi hs2;refine ⟨(i + 1,(step met[i]).foldl YE met),⟨?_,hmi2,?_⟩,by simp only;omega,tS,⟨by repeat (first|exact zC|refine aB ?_),rfl⟩⟩
  ·have:=zek (step met[i]) met;simp only;omega
  ·simp only;rw [show N + 1 - (i + 1)=N - i by omega];exact hr
 ·rw [List.getElem?_eq_none zwy62] at hr;simp only at hr;subst hr
  repeat' (first|refine zvP [(6,.box 1 0)] hgB rfl rfl ⟨Tryz.f156,Tryz.func156,rfl,by kernel_rfl⟩ rfl rfl (by simp only;omega) (tS) rfl rfl rfl rfl ?_|refine sK ?_|refine sC (fun _=>?_) (fun _=>?_)|fail)
  exact retq rfl rfl
end Go.Cg
