/- A part of the walks by abstract values: no statement of its own. -/
import Derived.Test.YtdngpcmllgnbjaaGreatN34
import Derived.Test.YtdngpcmllgnbjaaGreatN15
import Derived.Test.YtdngpcmllgnbjaaGreatN33
import Derived.Test.YtdngpcmllgnbjaaGreatN16
set_option linter.unusedVariables false
set_option linter.unusedSimpArgs false
namespace Go.Cg
open Go.Proofs
def cwT (g:Img) (t:Ty):Nat:=(yL g t).length
def shS (g:Img):Nat→List Ty→Nat
 | s,[]=>s
 | s,t::l=>shS g (s + cwT g t) l
def shO (g:Img):Nat→List Ty→List Int
 | _,[]=>[]
 | s,t::l=>(s:Int)::shO g (s + cwT g t) l
theorem zfh (g:Img) (t:Ty):∀ (l:List Ty) (s:Nat),shS g s (l++[t])=shS g s l + cwT g t
 | [],s=>rfl
 | u::l,s=>by rw [List.cons_append,shS,shS,zfh g t l]
theorem zeL (g:Img) (t:Ty):∀ (l:List Ty) (s:Nat),shO g s (l++[t])=shO g s l++[(shS g s l:Int)]
 | [],s=>rfl
 | u::l,s=>by rw [List.cons_append,shO,shO,zeL g t l,shS];rfl
theorem zhi (g:Img):∀ (l:List Ty) (s:Nat),(shO g s l).length=l.length
 | [],_=>rfl
 | u::l,s=>by rw [shO,List.length_cons,List.length_cons,zhi g l]
theorem zhS (g:Img):∀ (l:List Ty) (s:Nat),(∀ t∈l,cwT g t≤8)→shS g s l≤s + 8 * l.length
 | [],s,_=>by simp [shS]
 | u::l,s,h=>by
  have h1:=zhS g l (s + cwT g u) fun t ht=>h t (by simp [ht])
  have h2:=h u (by simp)
  rw [shS,List.length_cons];omega
theorem take_snoc' {l:List Ty} {k:Nat} (h:k < l.length):l.take (k + 1)=l.take k++[l[k]]:=List.take_succ_eq_append_getElem h
def zkq (g:Img) (m:Me):List Ty:=zlx (Wj (zB g m.owner) (m.flags.tmod 2 != 0) m.owner) m.params
abbrev sbH (a b:List Int) (w:Nat):HEnv:=[(2,.cell (.agg [.own 5,.own 6,.pv (pi w)])),(5,.row 3 1 (a.map pi)),(6,.row 3 1 (b.map pi))]
set_option maxHeartbeats 2000000 in
theorem zdB (g:Img) (hx:OkA g) (t:Ty) (a b:List Int) (w:Nat) (hw:w≤10000) (hc:(cellsA g t).length≤10000) (us:Nat→Value) :
  ACallM Tryz.prog 174 ([]++[.pv (yA t)]++[.box 2 0,.pv (.ptr (zu g) 0)]) (sbH a b w++zD us [2,5,6]) (.pv (pi w)) (sbH a b (w + (cellsA g t).length)++zD us [2,5,6]):=by
 show ACallM Tryz.prog 174 [.pv (yA t),.box 2 0,.pv (.ptr (zu g) 0)] (sbH a b w++zD us [2,5,6]) (.pv (pi w)) (sbH a b (w + (cellsA g t).length)++zD us [2,5,6])
 have e:IntKind.i64.wrap ((w:Int) + ((cellsA g t).length:Nat))=((w + (cellsA g t).length:Nat):Int):=by rw [wrap_in (by omega) (by omega)];omega
 refine zJ zh Tryz.func174 rfl (by kernel_rfl) Tryz.ntmps174 (by simp) _ rfl (fun gB hw1=>?_)
 repeat' (first|refine yP 8 7 rfl (by kernel_rfl) (by kernel_rfl) (by kernel_rfl) (by kernel_rfl) (by kernel_rfl) ?_|(refine shC ?_;first|refine qC (zep g hx t) ?_)|refine sK ?_|refine sC (fun _=>?_) (fun _=>?_)|fail)
 exact ⟨.inr rfl,.inl ⟨_,rfl,rfl,⟨zi (by rw [←e];rfl) (by repeat (first|exact zk|refine zi rfl ?_)),rfl⟩⟩⟩
theorem zgH {env:Env}:Sub env env:=fun _ _ h=>h
abbrev zqC (a b:List Int) (w:Int):PV:=.agg [ints a,ints b,pi w]
abbrev z83:HE:=.cell (.pv (.agg [zpQ,zpQ,pi 0]))
set_option maxHeartbeats 8000000 in
theorem zky (g:Img) (hx:OkA g) (m:Int) (hc:(ZL g).2=0) (hF:Fine g) (hm:mOk g m) (hua:∀ t∈zkq g (mAt g m),qA g t=true) (hul:∀ t∈(mAt g m).locals,qA g t=true) :
  ACall Tryz.prog 88 [zu g,pi m] (.tup [zqC (shO g 0 (zkq g (mAt g m))) (shO g (shS g 0 (zkq g (mAt g m))) (mAt g m).locals) ((shS g (shS g 0 (zkq g (mAt g m))) (mAt g m).locals:Nat):Int),pi 0]):=by
 have hOk:=zhX hF.formed hm
 have hsm:=hOk.small
 have c1:=zdQ g hx
 have hfi:YM g=true:=by
  cases h:YM g
  ·rw [ZL,h] at hc;simp at hc
  ·rfl
 have hca:∀ t,qA g t=true→cellsA g t=yL g t:=fun t ht=>by rw [cellsA,hfi,ht];rfl
 have cA:=zgs g (mAt g m) (by omega)
 rw [zb4 hF.formed,zof] at cA
 obtain ⟨al,hal⟩:∃ al,al=zkq g (mAt g m):=⟨_,rfl⟩
 obtain ⟨ll,hll⟩:∃ ll,ll=(mAt g m).locals:=⟨_,rfl⟩
 have hall:al.length≤7:=by
  rw [hal,zkq,zlx,List.length_append]
  split <;> simp <;> omega
 have hlll:ll.length≤12:=by rw [hll];exact hsm.2.1
 rw [←hal] at hua
 rw [←hll] at hul
 change ACall _ _ _ (tys (zkq g (mAt g m))) at cA
 rw [←hal] at cA ⊢
 rw [←hll]
 have hwa:∀ t∈al,cwT g t≤8:=fun t ht=>hF.used_le (hua t ht)
 have hwl:∀ t∈ll,cwT g t≤8:=fun t ht=>hF.used_le (hul t ht)
 obtain ⟨s1,hs1⟩:∃ s1,s1=shS g 0 al:=⟨_,rfl⟩
 have hs1b:s1≤56:=by have:=zhS g al 0 hwa;omega
 have he:=YR hm
 have hd1:decide (m < 0)=false:=decide_eq_false (by have:=hm.1;omega)
 have hd2:decide ((((g.methods.map zM).length:Nat):Int)≤m)=false:=decide_eq_false (by rw [List.length_map];have:=hm.1;have:=hm.2;omega)
 have hce:((ZL g).2 != 0)=false:=by rw [hc];rfl
 refine zf zh Tryz.func88 rfl (by kernel_rfl) Tryz.ntmps88 (by simp) _ rfl (fun hw gB hgB=>?_)
 repeat' (first|refine Yn 2 5 0 3 1 (by decide) rfl rfl rfl rfl ?_|refine Yn 2 6 1 3 1 (by decide) rfl rfl rfl rfl ?_|(refine shC ?_;first|refine qC c1 ?_|refine qC cA ?_)|(refine shX ?_;first|refine zq rfl (zn zh rfl rfl rfl rfl rfl rfl hm.1 he) rfl rfl ?_|refine AD.step _ _ _ _ _ rfl (zn zh rfl rfl rfl rfl rfl rfl hm.1 he) rfl rfl ?_)|refine sK ?_|refine sC (fun _=>?_) (fun _=>?_)|fail)
 refine zA (fun k:Nat=>[(1,.pv (pi m)),(2,.pv (.ptr (zu g) 0)),(4,.box 0 0),(8,.box 2 0),(9,.fn (.func 174) [] [.box 2 0,.pv (.ptr (zu g) 0)]),(40,.pv (tys al)),(41,.pv (pi al.length)),(42,.pv (pi k))])
  (fun k=>(0,z83)::sbH (shO g 0 (al.take k)) [] (shS g 0 (al.take k))) (fun k=>k≤al.length) (fun k=>al.length - k) 0 (by omega) tSU ⟨by repeat (first|exact zk|refine zi rfl ?_),rfl⟩ ?_
 rintro k hk
 by_cases hlt:k < al.length
 ·have hdk:decide ((k:Int) < (al.length:Int))=true:=decide_eq_true (by omega)
  have hex:(al.map yA)[k]?=some (yA al[k]):=by rw [List.getElem?_map,List.getElem?_eq_getElem hlt];rfl
  obtain ⟨t,ht⟩:∃ t,t=al[k]:=⟨_,rfl⟩
  have htk:=take_snoc' hlt
  rw [←ht] at hex htk
  have hut:t∈al:=by rw [ht];exact List.getElem_mem hlt
  have hb:=zhS g (al.take k) 0 fun t ht=>hwa t (List.mem_of_mem_take ht)
  have hbl:(al.take k).length≤7:=by simp;omega
  have hW:shS g 0 (al.take k) + (cellsA g t).length=shS g 0 (al.take (k + 1)):=by rw [htk,zfh,hca t (hua t hut)];rfl
  have hO:(shO g 0 (al.take k)).map pi++[pi ((shS g 0 (al.take k):Nat):Int)]=(shO g 0 (al.take (k + 1))).map pi:=by rw [htk,zeL,List.map_append];rfl
  have cS:=fun us=>zdB g hx t (shO g 0 (al.take k)) [] (shS g 0 (al.take k)) (by omega) (by rw [hca t (hua t hut)];have:=hwa t hut;simp only [cwT] at this;omega) us
  rw [hW] at cS
  have hlen:((shO g 0 (al.take k)).map pi).length=(al.take k).length:=by rw [List.length_map,zhi]
  repeat' (first|refine zdP (by kernel_rfl) ?_|refine znx rfl ?_|refine zpC (by kernel_rfl) rfl ?_|refine at_end rfl|refine zlp rfl ?_|refine zlm rfl ?_ ?_|(refine shX ?_;first|refine qX hex ?_)|(refine zQ ?_;first|(refine zie (sbH (shO g 0 (al.take k)) [] (shS g 0 (al.take k))) (sbH (shO g 0 (al.take k)) [] (shS g 0 (al.take (k + 1)))) [(0,z83),(1,.cell (.pv (yA t)))] _ [2,5,6] zlP rfl rfl rfl rfl ?_ zgH rfl rfl rfl cS ?_;· (repeat (first|exact zk|refine zi rfl ?_))))|(refine zI ?_;first|refine yg zh rfl rfl rfl rfl rfl rfl rfl (by show _ * 8≤_;rw [hlen];simp only [List.length_cons,List.length_nil];omega) (by rw [hlen];simp only [List.length_cons,List.length_nil];omega) rfl rfl ?_)|refine sK ?_|refine sC (fun _=>?_) (fun _=>?_)|fail)
  all_goals exact ⟨k + 1,hlt,tD,tSU,⟨by repeat (first|exact zk|refine zi rfl ?_|refine yS rfl hO ?_),rfl⟩⟩
 ·have hk2:k=al.length:=by omega
  subst hk2
  have hdk:decide ((al.length:Int) < (al.length:Int))=false:=decide_eq_false (by omega)
  rw [List.take_length,←hs1]
  repeat' (first|(refine shX ?_;first|refine zq rfl (zn zh rfl rfl rfl rfl rfl rfl hm.1 he) rfl rfl ?_|refine AD.step _ _ _ _ _ rfl (zn zh rfl rfl rfl rfl rfl rfl hm.1 he) rfl rfl ?_)|refine sK ?_|refine sC (fun _=>?_) (fun _=>?_)|fail)
  refine zA (fun k:Nat=>[(2,.pv (.ptr (zu g) 0)),(4,.box 0 0),(8,.box 2 0),(9,.fn (.func 174) [] [.box 2 0,.pv (.ptr (zu g) 0)]),(60,.pv (tys ll)),(61,.pv (pi ll.length)),(62,.pv (pi k))])
   (fun k=>(0,z83)::sbH (shO g 0 al) (shO g s1 (ll.take k)) (shS g s1 (ll.take k))) (fun k=>k≤ll.length) (fun k=>ll.length - k) 0 (by omega) (by rw [hll];exact tSU) ⟨by repeat (first|exact zk|refine zi rfl ?_),rfl⟩ ?_
  rintro k hk
  by_cases hlt:k < ll.length
  ·have hdk:decide ((k:Int) < (ll.length:Int))=true:=decide_eq_true (by omega)
   have hex:(ll.map yA)[k]?=some (yA ll[k]):=by rw [List.getElem?_map,List.getElem?_eq_getElem hlt];rfl
   obtain ⟨t,ht⟩:∃ t,t=ll[k]:=⟨_,rfl⟩
   have htk:=take_snoc' hlt
   rw [←ht] at hex htk
   have hut:t∈ll:=by rw [ht];exact List.getElem_mem hlt
   have hb:=zhS g (ll.take k) s1 fun t ht=>hwl t (List.mem_of_mem_take ht)
   have hbl:(ll.take k).length≤12:=by simp;omega
   have hW:shS g s1 (ll.take k) + (cellsA g t).length=shS g s1 (ll.take (k + 1)):=by rw [htk,zfh,hca t (hul t hut)];rfl
   have hO:(shO g s1 (ll.take k)).map pi++[pi ((shS g s1 (ll.take k):Nat):Int)]=(shO g s1 (ll.take (k + 1))).map pi:=by rw [htk,zeL,List.map_append];rfl
   have cS:=fun us=>zdB g hx t (shO g 0 al) (shO g s1 (ll.take k)) (shS g s1 (ll.take k)) (by omega) (by rw [hca t (hul t hut)];have:=hwl t hut;simp only [cwT] at this;omega) us
   rw [hW] at cS
   have hlen:((shO g s1 (ll.take k)).map pi).length=(ll.take k).length:=by rw [List.length_map,zhi]
   repeat' (first|refine zdP (by kernel_rfl) ?_|refine znx rfl ?_|refine zpC (by kernel_rfl) rfl ?_|refine at_end rfl|refine zlp rfl ?_|refine zlm rfl ?_ ?_|(refine shX ?_;first|refine qX hex ?_)|(refine zQ ?_;first|(refine zie (sbH (shO g 0 al) (shO g s1 (ll.take k)) (shS g s1 (ll.take k))) (sbH (shO g 0 al) (shO g s1 (ll.take k)) (shS g s1 (ll.take (k + 1)))) [(0,z83),(1,.cell (.pv (yA t)))] _ [2,5,6] zlP rfl rfl rfl rfl ?_ zgH rfl rfl rfl cS ?_;· (repeat (first|exact zk|refine zi rfl ?_))))|(refine zI ?_;first|refine yg zh rfl rfl rfl rfl rfl rfl rfl (by show _ * 8≤_;rw [hlen];simp only [List.length_cons,List.length_nil];omega) (by rw [hlen];simp only [List.length_cons,List.length_nil];omega) rfl rfl ?_)|refine sK ?_|refine sC (fun _=>?_) (fun _=>?_)|fail)
   all_goals exact ⟨k + 1,hlt,tD,tSU,⟨by repeat (first|exact zk|refine zi rfl ?_|refine yS rfl hO ?_),rfl⟩⟩
  ·have hk2:k=ll.length:=by omega
   subst hk2
   have hdk:decide ((ll.length:Int) < (ll.length:Int))=false:=decide_eq_false (by omega)
   rw [List.take_length]
   repeat' (first|refine sK ?_|refine sC (fun _=>?_) (fun _=>?_)|fail)
   exact retq rfl rfl
end Go.Cg
