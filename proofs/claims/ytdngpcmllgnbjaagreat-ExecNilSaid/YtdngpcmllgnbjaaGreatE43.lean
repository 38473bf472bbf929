/- A part of the walks by abstract values: no statement of its own. -/
import Derived.Test.YtdngpcmllgnbjaaGreatE36
import Derived.Test.YtdngpcmllgnbjaaGreatE21
import Derived.Test.YtdngpcmllgnbjaaGreatE41
import Derived.Test.YtdngpcmllgnbjaaGreatE18
import Derived.Test.YtdngpcmllgnbjaaGreatE40
import Derived.Test.YtdngpcmllgnbjaaGreatE30
import Derived.Test.YtdngpcmllgnbjaaGreatE42
import Derived.Test.YtdngpcmllgnbjaaGreatE34
import Derived.Test.YtdngpcmllgnbjaaGreatE23
set_option linter.unusedVariables false
set_option linter.unusedSimpArgs false
namespace Go.Cg
open Go.Proofs
def cwT (g:Img) (t:Ty):Nat:=(yV g t).length
def shS (g:Img):Nat→List Ty→Nat
 | s,[]=>s
 | s,t::l=>shS g (s + cwT g t) l
def shO (g:Img):Nat→List Ty→List Int
 | _,[]=>[]
 | s,t::l=>(s:Int)::shO g (s + cwT g t) l
theorem zgP (g:Img) (t:Ty):∀ (l:List Ty) (s:Nat),shS g s (l++[t])=shS g s l + cwT g t
 | [],s=>rfl
 | u::l,s=>by rw [List.cons_append,shS,shS,zgP g t l]
theorem zgR (g:Img) (t:Ty):∀ (l:List Ty) (s:Nat),shO g s (l++[t])=shO g s l++[(shS g s l:Int)]
 | [],s=>rfl
 | u::l,s=>by rw [List.cons_append,shO,shO,zgR g t l,shS];rfl
theorem zjK (g:Img):∀ (l:List Ty) (s:Nat),(shO g s l).length=l.length
 | [],_=>rfl
 | u::l,s=>by rw [shO,List.length_cons,List.length_cons,zjK g l]
theorem zj9 (g:Img):∀ (l:List Ty) (s:Nat),(∀ t∈l,cwT g t≤8)→shS g s l≤s + 8 * l.length
 | [],s,_=>by simp [shS]
 | u::l,s,h=>by
  have h1:=zj9 g l (s + cwT g u) fun t ht=>h t (by simp [ht])
  have h2:=h u (by simp)
  rw [shS,List.length_cons];omega
theorem take_snoc' {l:List Ty} {k:Nat} (h:k < l.length):l.take (k + 1)=l.take k++[l[k]]:=List.take_succ_eq_append_getElem h
def zoO (g:Img) (m:Me):List Ty:=zpc (Vo (zF g m.owner) (m.flags.tmod 2 != 0) m.owner) m.params
abbrev sbH (a b:List Int) (w:Nat):HEnv:=[(2,.cell (.agg [.own 5,.own 6,.pv (pi w)])),(5,.row 3 1 (a.map pi)),(6,.row 3 1 (b.map pi))]
set_option maxHeartbeats 2000000 in
theorem zfR (g:Img) (hx:OkA g) (t:Ty) (a b:List Int) (w:Nat) (hw:w≤10000) (hc:(cellsA g t).length≤10000) (us:Nat→Value) :
  ACallM Tryz.prog 174 ([]++[.pv (yK t)]++[.box 2 0,.pv (.ptr (zx g) 0)]) (sbH a b w++zJ us [2,5,6]) (.pv (pi w)) (sbH a b (w + (cellsA g t).length)++zJ us [2,5,6]):=by
 show ACallM Tryz.prog 174 [.pv (yK t),.box 2 0,.pv (.ptr (zx g) 0)] (sbH a b w++zJ us [2,5,6]) (.pv (pi w)) (sbH a b (w + (cellsA g t).length)++zJ us [2,5,6])
 have e:IntKind.i64.wrap ((w:Int) + ((cellsA g t).length:Nat))=((w + (cellsA g t).length:Nat):Int):=by rw [wrap_in (by omega) (by omega)];omega
 refine zC zh Tryz.func174 rfl (by kernel_rfl) Tryz.ntmps174 (by simp) _ rfl (fun gB hw1=>?_)
 repeat' (first|refine yG 8 7 rfl (by kernel_rfl) (by kernel_rfl) (by kernel_rfl) (by kernel_rfl) (by kernel_rfl) ?_|(refine shC ?_;first|refine qC (zhJ g hx t) ?_)|refine sK ?_|refine sC (fun _=>?_) (fun _=>?_)|fail)
 exact ⟨.inr rfl,.inl ⟨_,rfl,rfl,⟨zi (by rw [←e];rfl) (by repeat (first|exact zk|refine zi rfl ?_)),rfl⟩⟩⟩
theorem zi9 {env:Env}:Sub env env:=fun _ _ h=>h
abbrev zvS (a b:List Int) (w:Int):PV:=.agg [ints a,ints b,pi w]
abbrev z83:HE:=.cell (.pv (.agg [zu1,zu1,pi 0]))
set_option maxHeartbeats 8000000 in
theorem zn3 (g:Img) (hx:OkA g) (m:Int) (hc:(yZ g).2=0) (hF:Fine g) (hm:mOk g m) (hua:∀ t∈zoO g (mAt g m),Zd g t=true) (hul:∀ t∈(mAt g m).locals,Zd g t=true) :
  ACall Tryz.prog 88 [zx g,pi m] (.tup [zvS (shO g 0 (zoO g (mAt g m))) (shO g (shS g 0 (zoO g (mAt g m))) (mAt g m).locals) ((shS g (shS g 0 (zoO g (mAt g m))) (mAt g m).locals:Nat):Int),pi 0]):=by
 have hOk:=Xg hF.formed hm
 have hsm:=hOk.small
 have c1:=zbC g hx
 have hfi:Qi g=true:=by
  cases h:Qi g
  ·rw [yZ,h] at hc;simp at hc
  ·rfl
 have hca:∀ t,Zd g t=true→cellsA g t=yV g t:=fun t ht=>by rw [cellsA,hfi,ht];rfl
 have cA:=zco g (mAt g m) (by omega)
 rw [zcb hF.formed,zrm] at cA
 obtain ⟨al,hal⟩:∃ al,al=zoO g (mAt g m):=⟨_,rfl⟩
 obtain ⟨ll,hll⟩:∃ ll,ll=(mAt g m).locals:=⟨_,rfl⟩
 have hall:al.length≤7:=by
  rw [hal,zoO,zpc,List.length_append]
  split <;> simp <;> omega
 have hlll:ll.length≤12:=by rw [hll];exact hsm.2.1
 rw [←hal] at hua
 rw [←hll] at hul
 change ACall _ _ _ (tys (zoO g (mAt g m))) at cA
 rw [←hal] at cA ⊢
 rw [←hll]
 have hwa:∀ t∈al,cwT g t≤8:=fun t ht=>hF.used_le (hua t ht)
 have hwl:∀ t∈ll,cwT g t≤8:=fun t ht=>hF.used_le (hul t ht)
 obtain ⟨s1,hs1⟩:∃ s1,s1=shS g 0 al:=⟨_,rfl⟩
 have hs1b:s1≤56:=by have:=zj9 g al 0 hwa;omega
 have he:=Xf hm
 have hd1:decide (m < 0)=false:=decide_eq_false (by have:=hm.1;omega)
 have hd2:decide ((((g.methods.map zG).length:Nat):Int)≤m)=false:=decide_eq_false (by rw [List.length_map];have:=hm.1;have:=hm.2;omega)
 have hce:((yZ g).2 != 0)=false:=by rw [hc];rfl
 refine zf zh Tryz.func88 rfl (by kernel_rfl) Tryz.ntmps88 (by simp) _ rfl (fun hw gB hgB=>?_)
 repeat' (first|refine Zz 2 5 0 3 1 (by decide) rfl rfl rfl rfl ?_|refine Zz 2 6 1 3 1 (by decide) rfl rfl rfl rfl ?_|(refine shC ?_;first|refine qC c1 ?_|refine qC cA ?_)|(refine shX ?_;first|refine zo rfl (zl zh rfl rfl rfl rfl rfl rfl hm.1 he) rfl rfl ?_|refine AD.step _ _ _ _ _ rfl (zl zh rfl rfl rfl rfl rfl rfl hm.1 he) rfl rfl ?_)|refine sK ?_|refine sC (fun _=>?_) (fun _=>?_)|fail)
 refine zB (fun k:Nat=>[(1,.pv (pi m)),(2,.pv (.ptr (zx g) 0)),(4,.box 0 0),(8,.box 2 0),(9,.fn (.func 174) [] [.box 2 0,.pv (.ptr (zx g) 0)]),(40,.pv (tys al)),(41,.pv (pi al.length)),(42,.pv (pi k))])
  (fun k=>(0,z83)::sbH (shO g 0 (al.take k)) [] (shS g 0 (al.take k))) (fun k=>k≤al.length) (fun k=>al.length - k) 0 (by omega) tSU ⟨by repeat (first|exact zk|refine zi rfl ?_),rfl⟩ ?_
 rintro k hk
 by_cases hlt:k < al.length
 ·have hdk:decide ((k:Int) < (al.length:Int))=true:=decide_eq_true (by omega)
  have hex:(al.map yK)[k]?=some (yK al[k]):=by rw [List.getElem?_map,List.getElem?_eq_getElem hlt];rfl
  obtain ⟨t,ht⟩:∃ t,t=al[k]:=⟨_,rfl⟩
  have htk:=take_snoc' hlt
  rw [←ht] at hex htk
  have hut:t∈al:=by rw [ht];exact List.getElem_mem hlt
  have hb:=zj9 g (al.take k) 0 fun t ht=>hwa t (List.mem_of_mem_take ht)
  have hbl:(al.take k).length≤7:=by simp;omega
  have hW:shS g 0 (al.take k) + (cellsA g t).length=shS g 0 (al.take (k + 1)):=by rw [htk,zgP,hca t (hua t hut)];rfl
  have hO:(shO g 0 (al.take k)).map pi++[pi ((shS g 0 (al.take k):Nat):Int)]=(shO g 0 (al.take (k + 1))).map pi:=by rw [htk,zgR,List.map_append];rfl
  have cS:=fun us=>zfR g hx t (shO g 0 (al.take k)) [] (shS g 0 (al.take k)) (by omega) (by rw [hca t (hua t hut)];have:=hwa t hut;simp only [cwT] at this;omega) us
  rw [hW] at cS
  have hlen:((shO g 0 (al.take k)).map pi).length=(al.take k).length:=by rw [List.length_map,zjK]
  repeat' (first|refine zfY (by kernel_rfl) ?_|refine zrX rfl ?_|refine zuz (by kernel_rfl) rfl ?_|refine at_end rfl|refine zpn rfl ?_|refine zo3 rfl ?_ ?_|(refine shX ?_;first|refine qX hex ?_)|(refine zy ?_;first|(refine zii (sbH (shO g 0 (al.take k)) [] (shS g 0 (al.take k))) (sbH (shO g 0 (al.take k)) [] (shS g 0 (al.take (k + 1)))) [(0,z83),(1,.cell (.pv (yK t)))] _ [2,5,6] zaU rfl rfl rfl rfl ?_ zi9 rfl rfl rfl cS ?_;· (repeat (first|exact zk|refine zi rfl ?_))))|(refine zL ?_;first|refine zX zh rfl rfl rfl rfl rfl rfl rfl (by show _ * 8≤_;rw [hlen];simp only [List.length_cons,List.length_nil];omega) (by rw [hlen];simp only [List.length_cons,List.length_nil];omega) rfl rfl ?_)|refine sK ?_|refine sC (fun _=>?_) (fun _=>?_)|fail)
  all_goals exact ⟨k + 1,hlt,tD,tSU,⟨by repeat (first|exact zk|refine zi rfl ?_|refine qw rfl hO ?_),rfl⟩⟩
 ·have hk2:k=al.length:=by omega
  subst hk2
  have hdk:decide ((al.length:Int) < (al.length:Int))=false:=decide_eq_false (by omega)
  rw [List.take_length,←hs1]
  repeat' (first|(refine shX ?_;first|refine zo rfl (zl zh rfl rfl rfl rfl rfl rfl hm.1 he) rfl rfl ?_|refine AD.step _ _ _ _ _ rfl (zl zh rfl rfl rfl rfl rfl rfl hm.1 he) rfl rfl ?_)|refine sK ?_|refine sC (fun _=>?_) (fun _=>?_)|fail)
  refine zB (fun k:Nat=>[(2,.pv (.ptr (zx g) 0)),(4,.box 0 0),(8,.box 2 0),(9,.fn (.func 174) [] [.box 2 0,.pv (.ptr (zx g) 0)]),(60,.pv (tys ll)),(61,.pv (pi ll.length)),(62,.pv (pi k))])
   (fun k=>(0,z83)::sbH (shO g 0 al) (shO g s1 (ll.take k)) (shS g s1 (ll.take k))) (fun k=>k≤ll.length) (fun k=>ll.length - k) 0 (by omega) (by rw [hll];exact tSU) ⟨by repeat (first|exact zk|refine zi rfl ?_),rfl⟩ ?_
  rintro k hk
  by_cases hlt:k < ll.length
  ·have hdk:decide ((k:Int) < (ll.length:Int))=true:=decide_eq_true (by omega)
   have hex:(ll.map yK)[k]?=some (yK ll[k]):=by rw [List.getElem?_map,List.getElem?_eq_getElem hlt];rfl
   obtain ⟨t,ht⟩:∃ t,t=ll[k]:=⟨_,rfl⟩
   have htk:=take_snoc' hlt
   rw [←ht] at hex htk
   have hut:t∈ll:=by rw [ht];exact List.getElem_mem hlt
   have hb:=zj9 g (ll.take k) s1 fun t ht=>hwl t (List.mem_of_mem_take ht)
   have hbl:(ll.take k).length≤12:=by simp;omega
   have hW:shS g s1 (ll.take k) + (cellsA g t).length=shS g s1 (ll.take (k + 1)):=by rw [htk,zgP,hca t (hul t hut)];rfl
   have hO:(shO g s1 (ll.take k)).map pi++[pi ((shS g s1 (ll.take k):Nat):Int)]=(shO g s1 (ll.take (k + 1))).map pi:=by rw [htk,zgR,List.map_append];rfl
   have cS:=fun us=>zfR g hx t (shO g 0 al) (shO g s1 (ll.take k)) (shS g s1 (ll.take k)) (by omega) (by rw [hca t (hul t hut)];have:=hwl t hut;simp only [cwT] at this;omega) us
   rw [hW] at cS
   have hlen:((shO g s1 (ll.take k)).map pi).length=(ll.take k).length:=by rw [List.length_map,zjK]
   repeat' (first|refine zfY (by kernel_rfl) ?_|refine zrX rfl ?_|refine zuz (by kernel_rfl) rfl ?_|refine at_end rfl|refine zpn rfl ?_|refine zo3 rfl ?_ ?_|(refine shX ?_;first|refine qX hex ?_)|(refine zy ?_;first|(refine zii (sbH (shO g 0 al) (shO g s1 (ll.take k)) (shS g s1 (ll.take k))) (sbH (shO g 0 al) (shO g s1 (ll.take k)) (shS g s1 (ll.take (k + 1)))) [(0,z83),(1,.cell (.pv (yK t)))] _ [2,5,6] zaU rfl rfl rfl rfl ?_ zi9 rfl rfl rfl cS ?_;· (repeat (first|exact zk|refine zi rfl ?_))))|(refine zL ?_;first|refine zX zh rfl rfl rfl rfl rfl rfl rfl (by show _ * 8≤_;rw [hlen];simp only [List.length_cons,List.length_nil];omega) (by rw [hlen];simp only [List.length_cons,List.length_nil];omega) rfl rfl ?_)|refine sK ?_|refine sC (fun _=>?_) (fun _=>?_)|fail)
   all_goals exact ⟨k + 1,hlt,tD,tSU,⟨by repeat (first|exact zk|refine zi rfl ?_|refine qw rfl hO ?_),rfl⟩⟩
  ·have hk2:k=ll.length:=by omega
   subst hk2
   have hdk:decide ((ll.length:Int) < (ll.length:Int))=false:=decide_eq_false (by omega)
   rw [List.take_length]
   repeat' (first|refine sK ?_|refine sC (fun _=>?_) (fun _=>?_)|fail)
   exact retq rfl rfl
theorem zo4 {g:Img}:∀ {l:List Nat},(stD g l).2=0→∀ i∈l,zr5 g (i:Int)=false
 | [],_,i,hi=>by cases hi
 | j::l,h,i,hi=>by
  rw [stD] at h
  cases hb:zr5 g (j:Int)
  ·rw [hb,if_neg (by simp)] at h
   rcases List.mem_cons.1 hi with rfl|hi
   ·exact hb
   ·exact zo4 h i hi
  ·rw [hb,if_pos rfl] at h;cases h
theorem zsF {g:Img} {W:Int→Bool}:∀ {l:List Nat},(stC g W l).2=0→(stD g (List.range g.types.length)).2=0
 | [],h=>h
 | j::l,h=>by
  rw [stC] at h
  split at h
  ·cases h
  ·exact zsF h
theorem zss {g:Img}:∀ {l:List Nat},(stM g l).2=0→(stD g (List.range g.types.length)).2=0
 | [],h=>zsF h
 | j::l,h=>by
  rw [stM] at h
  split at h
  ·split at h
   ·exact zss h
   ·cases h
  ·cases h
theorem Vg {g:Img} (h:(yZ g).2=0):Qi g=true∧∀ t:Int,zF g t=3→methodsOf g t≠[]:=by
 unfold yZ at h
 split at h
 ·rename_i hf
  refine ⟨hf,fun t hk=>?_⟩
  have hin:0≤t∧t < g.types.length:=by
   unfold zF at hk
   cases ht:typeAt g t with
   | none=>rw [ht] at hk;simp at hk
   | some td =>
    unfold typeAt at ht
    split at ht
    ·rename_i hh;have:=(List.getElem?_eq_some_iff.1 ht).1;omega
    ·cases ht
  have:=zo4 (zss h) t.toNat (by rw [List.mem_range];omega)
  rw [show ((t.toNat:Nat):Int)=t by omega,zr5,hk] at this
  intro he
  rw [he] at this;cases this
 ·cases h
theorem opk:∀ n:Fin 76,1≤n.val→(2≤n.val→n.val≤7→yj (n.val:Int)=3∨yj (n.val:Int)=4)∧((n.val=43∨n.val=44∨n.val=45∨n.val=67)→yj (n.val:Int)=6)∧(48≤n.val→n.val≤53→yj (n.val:Int)=7):=by decide +kernel
theorem zu8 {op:Int} (h1:1≤op) (h2:op≤75):(2≤op→op≤7→yj op=3∨yj op=4)∧((op=43∨op=44∨op=45∨op=67)→yj op=6)∧(48≤op→op≤53→yj op=7):=by
 have:=opk ⟨op.toNat,by omega⟩ (by show 1≤op.toNat;omega)
 simp only [show ((op.toNat:Nat):Int)=op by omega] at this
 exact ⟨fun a b=>this.1 (by omega) (by omega),fun a=>this.2.1 (by omega),fun a b=>this.2.2 (by omega) (by omega)⟩
theorem ztA {g:Img} {m:Me} {a:Int} (h:ZU g m=true) (h0:0≤a) (h1:a.toNat < m.code.length):codeOk g m (yO m a)=true:=by
 simp only [ZU,za5,Bool.and_eq_true,List.all_eq_true] at h
 exact h.2.1.1.2 _ (by rw [yO,zM h1];exact List.getElem_mem h1)
theorem zvd {g:Img} (hc:(yZ g).2=0) {m a:Int} (hm:mOk g m) (h0:0≤a) (h1:a.toNat < (mAt g m).code.length):XOk g (yO (mAt g m) a):=by
 obtain ⟨hf,hd⟩:=Vg hc
 have hF:=YT hf
 have hcode:=ztA (Xg hF.formed hm).formed h0 h1
 generalize yO (mAt g m) a=x at hcode ⊢
 rw [codeOk,Bool.and_eq_true] at hcode
 obtain ⟨e1,e2⟩:=hcode
 have e1:Wp x=0:=by simpa using e1
 unfold Wp at e1
 split at e1
 ·cases e1
 rename_i hop
 have b1:1≤x.op:=by omega
 have b2:x.op≤75:=by omega
 split at e1
 ·cases e1
 rename_i harg
 split at e1
 ·cases e1
 rename_i hty
 split at e1
 ·cases e1
 rename_i hwh
 obtain ⟨k1,k2,k3⟩:=zu8 b1 b2
 have hmo:∀ i:Int,0≤i→i.toNat < g.methods.length→(mAt g i).params.length≤100∧0≤(mAt g i).owner∧(mAt g i).owner.toNat < g.types.length:=fun i i0 i1=>by
  have hM:=Xg hF.formed (x:=i) ⟨i0,i1⟩
  have:=hM.small
  exact ⟨by omega,hM.o0,hM.o1⟩
 refine ⟨b1,b2,fun a1 a2=>?_,fun a1=>?_,fun a1 a2=>?_,fun _ _=>?_,fun i i0 i1=>(hmo i i0 i1).1,fun _ _ _ hk=>hd _ ?_⟩
 ·rcases k1 a1 a2 with e|e <;> rw [e] at harg <;> simp [zde] at harg <;> omega
 ·rw [k2 a1] at harg e2
  simp [zde] at harg e2
  exact ⟨by omega,by omega,hmo _ (by omega) (by omega)⟩
 ·rw [k3 a1 a2] at harg e2
  simp [zde] at harg e2
  exact ⟨by omega,by omega⟩
 ·by_cases h8:yj x.op=8
  ·have hw:Zx x.t 1=true:=by
    cases hw:Zx x.t 1
    ·exact absurd ⟨h8,hw⟩ hwh
    ·rfl
   have hp:Zv x.t=true:=by
    unfold Zx at hw
    split at hw
    ·cases hw
    ·rename_i hp;simpa using hp
   have hd:0≤x.t.dims∧x.t.dims≤3:=by
    unfold Zv at hp
    split at hp
    ·cases hp
    ·rename_i hb
     simp at hb
     omega
   omega
  ·have ht:x.t=ty0:=Classical.byContradiction fun hne=>hty ⟨h8,hne⟩
   rw [ht];exact ⟨Int.le_refl 0,by show (0:Int)≤100;omega⟩
 ·rw [←zcb hF.formed];exact hk
theorem zpY {g:Img} (hf:zV g=true) {m:Me} (h:m∈g.methods):MeOk g m:=by
 obtain ⟨i,hi,rfl⟩:=List.getElem_of_mem h
 have:=Xg hf (x:=(i:Int)) (zoN hi)
 rwa [show mAt g (i:Int)=g.methods[i] by rw [mAt,show ((i:Int)).toNat=i by omega,zM hi]] at this
theorem zrM {g:Img} (hf:zV g=true):OwnOk g:=by
 obtain ⟨b1,b2,b3,_⟩:=zI hf
 refine ⟨by omega,by omega,by omega,fun td h=>?_,fun m h=>?_⟩
 ·have:=((zeG hf).faces td h).1;omega
 ·have:=(zpY hf h).small;omega
set_option maxHeartbeats 4000000 in
theorem zd8 (g:Img) (hx:OkA g) (hc:(yZ g).2=0):ACall Tryz.prog 28 [zx g] (.ptr (zx g) 0):=by
 have c1:=zbC g hx
 have c2:=zqO g (zrM (YT (Vg hc).1).formed)
 rw [show zjG (yZ g)=.tup [.agg [pi (yZ g).1.1,pi (yZ g).1.2],pi 0] by rw [zjG,hc]] at c1
 refine zf zh Tryz.func28 rfl (by kernel_rfl) Tryz.ntmps28 (by simp) _ rfl (fun hw gB hgB=>?_)
 repeat' (first|(refine shC ?_;first|refine qC c1 ?_|refine qC c2 ?_)|refine sK ?_|refine sC (fun _=>?_) (fun _=>?_)|fail)
 exact retq rfl rfl
def zg2 (g:Img):Bool:=(yZ g).2==0
def zeK (g:Img) (m:Int):Bool:=decide (0≤m)&&decide (m < g.methods.length)&&decide (0 < (mAt g m).code.length)
theorem zpL {g:Img} {m:Me} (h:MeOk g m):ClOk m:=by
 have hs:=h.small
 refine ⟨hs.2.2.2.1,fun at_ x hx=>?_,by omega⟩
 have hr:=h.formed
 simp only [ZU,za5,zgt,Bool.and_eq_true,decide_eq_true_eq,beq_iff_eq] at hr
 obtain ⟨j,h1,h2,h3⟩:=zeY hx
 have hp:=zsA hr.2.2 h1 h2
 simp only [zdd,Bool.and_eq_true,decide_eq_true_eq] at h3
 have hc:=zsy h2
 exact ⟨by omega,by omega,by omega⟩
theorem ztJ {g:Img} (hc:(yZ g).2=0) {m:Int} (hm:mOk g m) (i:Nat) (hi:i < (mAt g m).code.length):ACall Tryz.prog 141 [YR g (mAt g m),pi (i:Int)] (pi (XT g (mAt g m) (i:Int))):=by
 have hF:=(YT (Vg hc).1).formed
 have hM:=Xg hF hm
 have hcl:=zpL hM
 have hs:=hM.small
 have h1:((i:Nat):Int).toNat < (mAt g m).code.length:=by omega
 refine zqD g (mAt g m) i (by omega) (by omega) (ztE g _ hcl i (by omega) h1) (zni g _ hcl i (by omega) h1) (zqk g _ hcl i (by omega) h1 fun _ hop=>?_)
 have hk:(i:Int) + 1 < ((mAt g m).code.length:Int):=by
  apply Classical.byContradiction
  intro hh
  rw [opV,decide_eq_true (show ((mAt g m).code.length:Int)≤(i:Int) + 1 by omega)] at hop
  simp at hop
 have hop2:(yO (mAt g m) ((i:Int) + 1)).op=43∨(yO (mAt g m) ((i:Int) + 1)).op=44:=by
  rw [opV,decide_eq_false (show ¬ ((mAt g m).code.length:Int)≤(i:Int) + 1 by omega),decide_eq_false (show ¬ (i:Int) + 1 < 0 by omega)] at hop
  exact hop
 have hm2:=(zvd hc hm (show 0≤(i:Int) + 1 by omega) (by omega)).m (by rcases hop2 with h|h <;> simp [h])
 exact ⟨⟨hm2.1,hm2.2.1⟩,hm2.2.2.1⟩
theorem zq1 {g:Img} (hc:(yZ g).2=0) {m:Int} (hm:mOk g m):ACall Tryz.prog 68 [YR g (mAt g m)] (.tup [pi (zcL g (mAt g m)).1,pi (zcL g (mAt g m)).2]) :=
 zs3 g _ (zpL (Xg (YT (Vg hc).1).formed hm)) fun i hi=>ztJ hc hm i hi
end Go.Cg
