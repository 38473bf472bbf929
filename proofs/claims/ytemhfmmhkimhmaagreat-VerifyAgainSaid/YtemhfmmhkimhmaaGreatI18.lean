/- A part of the walks by abstract values: no statement of its own. -/
import Derived.Test.YtemhfmmhkimhmaaGreatI16
import Derived.Test.YtemhfmmhkimhmaaGreatI13
import Derived.Test.YtemhfmmhkimhmaaGreatI17
set_option linter.unusedVariables false
set_option linter.unusedSimpArgs false
namespace Go.Cg
open Go.RowKit
section
variable {P:Program} {tb:Tab} {g:Base} {K:KK} {w:World} {ρ:Nat->Value} {H:HEnv} {env:Env} {a:Act} {o:Oper}
theorem zcN (htb:yZ P tb) {ty:Nat} {x y:Operand} {i off:Nat} {c v r:AV} (hop:o.op=.store ty x y) (hx:env.val x=some (.box i off)) (hi:H.get i=some (.cell c)) (hy:env.val y=some v) (hr:zeP tb H ty c off v=some r) (hk:tb.known ty=true) (hn:zgq H c=true) :
  EStepN P g H ((i,.cell r)::H) H ((i,.cell r)::H) o env (.pv (.tup [])) none:=by
 refine ⟨fun K ρ a w hf hv=>.inr ⟨rfl,?_⟩⟩;obtain ⟨w',hrun,hf',hlat⟩:=zkg (a:=a) htb hop hi hr hk hn hf (hv x zwy68 _ hx) (hv y zwy68 _ hy);exact ⟨undef,w',K,ρ,.inr ⟨hrun,rfl⟩,hf',hlat,fun _ _=>rfl,zdN⟩
theorem WG (htb:yZ P tb) {ty:Nat} (i:Nat) (hop:o.op=.alloc ty) {z:Value} (hz:tb.zero ty=some z) {za:AV} (hza:zer z=some za) (hi:H.get i=none):EStepN P g H ((i,.cell za)::H) H ((i,.cell za)::H) o env (.box i 0) none:=by
 refine ⟨fun K ρ a w hf hv=>.inr ⟨rfl,?_⟩⟩;obtain ⟨v,w',hrun,hev,hf',hr⟩:=zjY (a:=a) htb i hop hz hza hi hf;exact ⟨v,w',K,_,.inl hrun,hf',hev.later hf.lt,fun j hj=>(Zg hi (.cell za) v j hj).2,hr⟩
end
section
variable {P:Program} {n:Nat} {g:Base} {H:HEnv} {env:Env} {o:Oper} {c:Code} {QQ:QC} {r:AV}
theorem ziF (h:QStep P g H o env r):EStepN P g H H H H o env r none:=by
 refine ⟨fun K ρ a w hf hv=>?_⟩;have hq:=h.go K ρ a w hf hv;generalize hr:(execOp a.eval o).run P w=res at hq;unfold zjB at hq;split at hq
 ·obtain ⟨K',h1,h2⟩:=hq;exact .inr ⟨rfl,_,_,K',ρ,.inl rfl,hf.evo h1,h1.later hf.lt,fun _ _=>rfl,h2⟩
 ·obtain ⟨rfl,hc⟩:=hq;exact .inl ⟨_,_,rfl,hc.mono fun e w' ⟨v,K',h1,h2,h3⟩=>⟨v,K',ρ,h1,hf.evo h2,h2.later hf.lt,fun _ _=>rfl,h3⟩⟩
 ·exact hq.elim
theorem zvQ {es ds:List PV} (h:PCL es ds) {i:Nat} {d:PV} (hd:ds[i]?=some d):∃ e,es[i]?=some e/\PTL e.cells d.cells:=by
 have:i < es.length:=by rw [h.1];exact (List.getElem?_eq_some_iff.1 hd).1
 exact ⟨_,List.getElem?_eq_getElem this,h.2 i _ d (List.getElem?_eq_getElem this) hd⟩
theorem zm5 {K:KK} {w:World} {sz:Nat} {es ds:List PV} {xs:List Value} (h:PCL es ds) (hc:CellsRel K w sz es xs):CellsRel K w sz ds xs:=fun i d hd=>by
 obtain ⟨e,he,hp⟩:=zvQ h hd;obtain ⟨c1,c2⟩:=hc i e he;refine ⟨by rw [<-hp.1];exact c1,fun k c hk=>?_⟩;have hk':k < e.cells.length:=by rw [hp.1];exact (List.getElem?_eq_some_iff.1 hk).1
 obtain ⟨v,v1,v2,v3⟩:=c2 k _ (List.getElem?_eq_getElem hk');exact ⟨v,v1,v2,hp.2 k _ c (List.getElem?_eq_getElem hk') hk K w v v3⟩
theorem zgd (i:Nat) {t sz:Nat} {es ds:List PV} (hi:H.get i=some (.mrow t sz es)) (e:PCL es ds) (k:AW P n g c env ((i,.mrow t sz ds)::H) QQ):AW P n g c env H QQ:=by
 refine ⟨fun a w hinv=>?_⟩;obtain ⟨g1,g2,K,ρ,hf,he⟩:=hinv;have hget:∀ m hh,HEnv.get ((i,.mrow t sz ds)::H) m=some hh->(m=i/\hh=.mrow t sz ds)\/H.get m=some hh:=by
  intro m hh hm;rw [HEnv.get_cons] at hm;split at hm
  ·rename_i e;subst e;simp only [Option.some.injEq] at hm;exact .inl ⟨rfl,hm.symm⟩
  ·exact .inr hm
 have hold:∀ m hh,HEnv.get ((i,.mrow t sz ds)::H) m=some hh->hh.live=true->∃ h2,H.get m=some h2/\h2.live=true:=fun m hh hm hl=>by
  rcases hget m hh hm with ⟨rfl,rfl⟩|h
  ·exact ⟨_,hi,rfl⟩
  ·exact ⟨_,h,hl⟩
 have hkk:∀ m,(H.get m).isSome=true->(HEnv.get ((i,.mrow t sz ds)::H) m).isSome=true/\ρ m=ρ m:=fun m hm=>⟨by
  rw [HEnv.get_cons];split <;> first|rfl|exact hm,rfl⟩
 refine k.go a w ⟨g1,g2,K,ρ,⟨hf.below,hf.old,hf.new,hf.lt,hf.others,hf.pt,fun m hh bb hm hl hb=>?_,fun m hh hm=>?_,fun m m' hh hh' bb hmm hm hm' l1 l2 b1 b2=>?_⟩,he.keeps (.refl K w) hkk⟩
 ·obtain ⟨h2,q1,q2⟩:=hold m hh hm hl;exact hf.away m h2 bb q1 q2 hb
 ·rcases hget m hh hm with ⟨rfl,rfl⟩|h
  ·obtain ⟨xs,q1,q2,q3,q4⟩:=hf.heap.ok m _ hi;exact ⟨xs,by rw [<-e.1];exact q1,q2,zm5 e q3,q4⟩
  ·exact (hf.heap.ok m hh h).keeps (.refl hf.lt) hf.lt hkk
 ·obtain ⟨h2,q1,q2⟩:=hold m hh hm l1;obtain ⟨h3,q3,q4⟩:=hold m' hh' hm' l2;exact hf.heap.apart m m' h2 h3 bb hmm q1 q3 q2 q4 b1 b2
end
theorem zn9 {P:Program} {f:FuncId} {args:List AV} {H H':HEnv} {r:AV} {lone:Bool} (ps:List Nat) (hps:(ps.all fun i=>(H.get i).isSome)=true) (h:∀ us,ACallM P f args (H++Zc us ps) r H' lone):ACallM P f args H r H' lone:=by
 refine ⟨(h fun _=>undef).stands,fun g K ρ w vs hw1 hf hv=>?_⟩;have hkk:∀ j,(H.get j).isSome=true->(HEnv.get (H++Zc ρ ps) j).isSome=true/\ρ j=ρ j:=fun j hj=>⟨ZX j hj,rfl⟩
 have hget:∀ i x,HEnv.get (H++Zc ρ ps) i=some x->H.get i=some x\/(i - 1000∈ps/\x=.pin (.own (i - 1000)) (ρ (i - 1000))):=fun i x hx=>by
  rw [get_append] at hx;cases hh:H.get i with
  | some y=>rw [hh] at hx;exact .inl hx
  | none=>rw [hh] at hx;exact .inr (zfh hx).2
 have hl:∀ i x,HEnv.get (H++Zc ρ ps) i=some x->x.live=true->H.get i=some x:=fun i x hx hlv=>by
  rcases hget i x hx with h|⟨_,rfl⟩
  ·exact h
  ·simp [HE.live] at hlv
 refine (h ρ).calls g K ρ w vs hw1 ⟨hf.below,hf.old,hf.new,hf.lt,hf.others,hf.pt,fun i x b hi hlv hb=>hf.away i x b (hl i x hi hlv) hlv hb,fun i x hi=>?_,fun i j x y b hij hi hj l1 l2 b1 b2=>hf.heap.apart i j x y b hij (hl i x hi l1) (hl j y hj l2) l1 l2 b1 b2⟩ ⟨hv.1,fun k c v hc hvv=>(hv.2 k c v hc hvv).keeps (.refl K w) hkk⟩;rcases hget i x hi with h|⟨h1,rfl⟩
 ·exact (hf.heap.ok i x h).keeps (.refl hf.lt) hf.lt hkk
 ·exact .own _ (ZX _ (List.all_eq_true.1 hps _ h1))
theorem FS.kill {g:Base} {K:KK} {ρ:Nat->Value} {H:HEnv} {w:World} (i:Nat) (hf:FS g K ρ H w):FS g K ρ ((i,.dead)::H) w:=by
 have hold:∀ j x,HEnv.get ((i,HE.dead)::H) j=some x->x.live=true->H.get j=some x:=fun j x hj hl=>by
  rw [HEnv.get_cons] at hj;split at hj
  ·simp only [Option.some.injEq] at hj;subst hj;cases hl
  ·exact hj
 have hk:∀ j,(H.get j).isSome=true->(HEnv.get ((i,HE.dead)::H) j).isSome=true/\ρ j=ρ j:=fun j hj=>⟨by
  rw [HEnv.get_cons];split <;> first|rfl|exact hj,rfl⟩
 refine ⟨hf.below,hf.old,hf.new,hf.lt,hf.others,hf.pt,fun j x b hj hl hb=>hf.away j x b (hold j x hj hl) hl hb,fun j x hj=>?_,fun j j' x x' b hjj hj hj' hl hl' hb hb'=>hf.heap.apart j j' x x' b hjj (hold j x hj hl) (hold j' x' hj' hl') hl hl' hb hb'⟩;rw [HEnv.get_cons] at hj;split at hj
 ·simp only [Option.some.injEq] at hj;subst hj;trivial
 ·exact (hf.heap.ok j x hj).keeps (.refl hf.lt) hf.lt hk
def mkL (l:List HEnv) (p:Nat):HEnv:=l.getD p []
def zxH (a:HEnv):List HEnv->Prop
 | []=>True
 | x::l=>Qx x a []/\zxH a l
def keysL:List HEnv->Bool
 | []=>true
 | x::l=>qB x x&&l.all (fun y=>qB x y)&&keysL l
theorem zaP {g:Base} {a:HEnv}:∀ {l:List HEnv} {n:Nat},l.length=n + 1->zxH a l->∀ p,p<=n->∀ K ρ w,FS g K ρ (mkL l p) w->FS g K ρ a w
 | [],n,hl,_,p,hp,K,ρ,w,hf=>by simp at hl
 | x::l,n,hl,h,0,hp,K,ρ,w,hf=>hf.narrow h.1
 | x::l,n,hl,h,p + 1,hp,K,ρ,w,hf=>by
  cases n with
  | zero=>omega
  | succ n=>exact zaP (l:=l) (n:=n) zwy116 h.2 p zwy62 K ρ w hf
def zxo (i:Nat) (a:HEnv):List HEnv->Prop
 | []=>True
 | x::l=>Qx ((i,.dead)::x) a []/\zxo i a l
theorem zd0 {g:Base} {i:Nat} {a:HEnv}:∀ {l:List HEnv} {n:Nat},l.length=n + 1->zxo i a l->∀ p,p<=n->∀ K ρ w,FS g K ρ (mkL l p) w->FS g K ρ a w
 | [],n,hl,_,p,hp,K,ρ,w,hf=>by simp at hl
 | x::l,n,hl,h,0,hp,K,ρ,w,hf=>(hf.kill i).narrow h.1
 | x::l,n,hl,h,p + 1,hp,K,ρ,w,hf=>by
  cases n with
  | zero=>omega
  | succ n=>exact zd0 (l:=l) (n:=n) zwy116 h.2 p zwy62 K ρ w hf
theorem YU:∀ {l:List HEnv} {n:Nat},l.length=n + 1->keysL l=true->∀ q p,q<=p->p<=n->qB (mkL l q) (mkL l p)=true
 | [],n,hl,_,q,p,_,_=>by simp at hl
 | x::l,n,hl,h,0,0,_,_=>by simp only [keysL,Bool.and_eq_true] at h;exact h.1.1
 | x::l,n,hl,h,0,p + 1,_,hp=>by
  simp only [keysL,Bool.and_eq_true,List.all_eq_true] at h;have hlt:p < l.length:=by simp at hl;omega
  show qB x (l.getD p [])=true
  rw [List.getD_eq_getElem?_getD,List.getElem?_eq_getElem hlt];exact h.1.2 _ (List.getElem_mem hlt)
 | x::l,n,hl,h,q + 1,0,hq,_=>by omega
 | x::l,n,hl,h,q + 1,p + 1,hq,hp=>by
  simp only [keysL,Bool.and_eq_true] at h;cases n with
  | zero=>omega
  | succ n=>exact YU (l:=l) (n:=n) zwy116 h.2 q p zwy62 zwy62
section
variable {P:Program} {tb:Tab} {n:Nat} {g:Base} {H:HEnv} {env:Env} {ops:List Oper}
theorem zwo {α:Type} [Inhabited α] {φ:Env->α->Prop} {l:List Oper} {e:Env} (h:AD P n g H ops (fun e=>∃ x,φ e x) l e):∃ x,AD P n g H ops (fun e=>φ e x) l e:=by
 induction h with
 | nil e h=>obtain ⟨x,h⟩:=h;exact ⟨x,.nil e h⟩
 | step o rest e r t h1 h2 h3 h4 _ ih=>obtain ⟨x,h⟩:=ih;exact ⟨x,.step o rest e r t h1 h2 h3 h4 h⟩
 | skip o rest e t h1 h2 h3 _ ih=>obtain ⟨x,h⟩:=ih;exact ⟨x,.skip o rest e t h1 h2 h3 h⟩
 | case l e t b h1 _ _ i1 i2 =>
  cases b
  ·obtain ⟨x,h⟩:=i2 rfl;exact ⟨x,.case l e t false h1 (fun h=>by cases h) (fun _=>h)⟩
  ·obtain ⟨x,h⟩:=i1 rfl;exact ⟨x,.case l e t true h1 (fun _=>h) (fun h=>by cases h)⟩
theorem Vf:zU ops.length ops 0=ops:=by
 apply List.ext_getElem?;intro j;rw [Vs];cases h:ops[j]? with
 | none=>rfl
 | some o =>
  have:=(List.getElem?_eq_some_iff.1 h).1;simp only [Option.map_some,zfz];rw [if_neg zwy62]
theorem zlj {QQ:QC} {id:Nat} (E:List Nat) (ET:List (List Nat)) (Hs Nm:Nat->HEnv) (Ht:HEnv) (pan:Option Value) (hm:P.follows .mixedOrders=true) (hB:QN ops ops=true) (hch:ZT ops E=true) (hET:zeW ops E ET=true) (hkp:∀ p,p < ET.length->qB (Hs p) Ht=true/\qB Ht (Hs p)=true) (hne:E.isEmpty=false)
  (hw:∀ p,p<=E.length->∀ K ρ w,FS g K ρ (Hs p) w->FS g K ρ Ht w) (hN0:Nm 0=Ht) (hmono:∀ q p,q<=p->p<=E.length->qB (Nm q) (Nm p)=true) (hkeys:∀ q,q<=E.length->qB (Nm q) (Hs E.length)=true) (hH:Qx H (Hs 0) env) (hke:Xi Ht env=true)
  (hp:∀ v,pan=some v->QQ (.panic [{ v:=v,recovered:=false }]) [] [])
  (h:Vj P n g Ht Hs ET ops (fun env'=>pan=none->QQ .normal env' (Hs E.length)) (fun p oc ec rc=>EStepN P g (Hs p) (Hs (p + 1)) (Nm p) (Nm (p + 1)) oc ec rc (if p + 1=E.length then pan else none)/\(Zz Ht rc=true\/ops.zipIdx.all (fun x=>E.contains x.2||match oc.dst with|some tc=>!(readsOf ops x.1).contains tc|none=>true)=true)) E ops env)
  (hnd:ZB ops=true:=by kernel_rfl):AW P n g (.region id ops.toArray true) env H QQ:=by
 have ht:ops.take ops.length=ops:=List.take_length;have hdr:ops.drop ops.length=[]:=List.drop_length;refine Xw ops.length ops.length E ET Hs Nm Ht pan rfl ?_ hm (by rw [Vf,ht];exact hB) (by rw [Vf];unfold XJ;rw [show ops.zipIdx.drop ops.length=[] from List.drop_of_length_le (by simp)];rfl) (by rw [Vf];simp) (by rw [Vf,ht];exact hch) (by rw [Vf,ht];exact hET) hkp hne hw hN0 hmono hkeys hH hke hp ?_ hnd
 ·unfold Xz;rw [List.all_eq_true];intro j hj;rw [Bool.or_eq_true];exact .inl (Nat.ble_eq_true_of_le (List.mem_range.1 hj))
 ·rw [Vf,ht,hdr];obtain ⟨s,hs⟩:=h;exact ⟨⟨s.r,s.e,s.last,s.lenr,s.lene,s.ok,s.src,fun hpn=>zwc (s.fin hpn)⟩,hs⟩
theorem zuU {i:Nat} {v:AV} (h:hIn H H=true) (hn:H.get i=none):Qx ((i,.cell v)::H) H []:=by
 refine ⟨fun j x hj=>?_,by simp [Xi,h]⟩;rw [HEnv.get_cons,if_neg]
 ·exact hj
 ·rintro rfl;rw [hn] at hj;cases hj
theorem zM {QQ:QC} {id:Nat} (i ja d:Nat) {ta tx:Nat} {oa os:Oper} {ty:TypeId} {z:Value} {za:AV} (htb:yZ P tb) (hm:P.follows .mixedOrders=true) (hB:QN ops ops=true) (hch:ZT ops [ja,d + 1 + ja]=true)
  (hrd:ops.zipIdx.all (fun x=>[ja,d + 1 + ja].contains x.2||!(readsOf ops x.1).contains ta)=true)
  (hsa:ops=ops.take ja++oa::ops.drop (ja + 1)) (hja:Nat.ble ja ops.length=true) (hopa:oa.op=.alloc ty) (hda:oa.dst=some ta) (hta:Nat.blt ta n=true) (hga:oa.guard=none)
  (hss:ops.drop (ja + 1)=(ops.drop (ja + 1)).take d++os::(ops.drop (ja + 1)).drop (d + 1)) (hjs:Nat.ble d (ops.drop (ja + 1)).length=true) (hops:os.op=.store ty (.tmp ta) (.tmp tx)) (hds:os.dst=none) (hgs:os.guard=none)
  (hz:tb.zero ty=some z) (hza:zer z=some za) (hk:tb.known ty=true) (hn:∀ H:HEnv,zgq H za=true) (hi:H.get i=none) (hI:hIn H H=true) (he:Xi H env=true)
  (h:AD P n g H ops (fun e1=>AD P n g H ops (fun e2=>∃ v r,e2.get ta=some (.box i 0)/\e2.get tx=some v/\zeP tb ((i,.cell za)::H) ty za 0 v=some r/\AD P n g H ops (fun e3=>QQ .normal e3 ((i,.cell r)::(i,.cell za)::H)) ((ops.drop (ja + 1)).drop (d + 1)) e2) ((ops.drop (ja + 1)).take d) ((ta,.box i 0)::e1)) (ops.take ja) env)
  (hnd:ZB ops=true:=by kernel_rfl):AW P n g (.region id ops.toArray true) env H QQ:=by
 have h':AD P n g H ops (fun e1=>∃ r,AD P n g H ops (fun e2=>∃ v,e2.get ta=some (.box i 0)/\e2.get tx=some v/\zeP tb ((i,.cell za)::H) ty za 0 v=some r/\AD P n g H ops (fun e3=>QQ .normal e3 ((i,.cell r)::(i,.cell za)::H)) ((ops.drop (ja + 1)).drop (d + 1)) e2) ((ops.drop (ja + 1)).take d) ((ta,.box i 0)::e1)) (ops.take ja) env :=
  Xx (fun e1 h1=>zwo (Xx (fun e2 ⟨v,r,x⟩=>⟨r,v,x⟩) h1)) h
 obtain ⟨r,hr⟩:=zwo h';refine zlj [ja,d + 1 + ja] [] (mkL [H,(i,.cell za)::H,(i,.cell r)::(i,.cell za)::H]) (mkL [H,(i,.cell za)::H,(i,.cell r)::(i,.cell za)::H]) H none hm hB hch rfl (fun p hp=>by simp at hp) rfl
  (zaP rfl ⟨⟨fun _ _ h=>h,by rw [hI];rfl⟩,zuU hI hi,⟨fun j x hj=>?_,by rw [hI];rfl⟩,trivial⟩) rfl (YU rfl ?_) (fun q h=>YU rfl ?_ q 2 h (Nat.le_refl 2)) ⟨fun _ _ h=>h,show (Xi H env&&hIn H H)=true by rw [hI,he];rfl⟩ he (fun v hv=>by cases hv) ?_ hnd
 ·have hne:¬ i=j:=by rintro rfl;rw [hi] at hj;cases hj
  rw [HEnv.get_cons,if_neg hne,HEnv.get_cons,if_neg hne];exact hj
 ·have h1:=qZ H [];have h2:=fun y:Nat × HE=>qZ H [y]
  have h3:=fun y z:Nat × HE=>qZ H [y,z]
  have h4:=fun y:Nat × HE=>qZ (y::H) []
  have h5:=fun y z:Nat × HE=>qZ (z::H) [y]
  have h6:=fun y z:Nat × HE=>qZ (y::z::H) []
  simp only [List.nil_append,List.cons_append] at h1 h2 h3 h4 h5 h6;simp [keysL,h1,h2,h3,h4,h5,h6]
 ·have h1:=qZ H [];have h2:=fun y:Nat × HE=>qZ H [y]
  have h3:=fun y z:Nat × HE=>qZ H [y,z]
  have h4:=fun y:Nat × HE=>qZ (y::H) []
  have h5:=fun y z:Nat × HE=>qZ (z::H) [y]
  have h6:=fun y z:Nat × HE=>qZ (y::z::H) []
  simp only [List.nil_append,List.cons_append] at h1 h2 h3 h4 h5 h6;simp [keysL,h1,h2,h3,h4,h5,h6]
 ·refine Yp ja [d] (.box i 0) hsa hja zwy63 hda hta ?_;refine Xx (fun e1 h1=>⟨⟨by simp [guardE,hga],WG htb i hopa hz hza hi,.inr (by rw [hda];exact hrd)⟩,?_⟩) hr;obtain hd:(ops.drop (ja + 1)).drop d=os::(ops.drop (ja + 1)).drop (d + 1):=List.append_cancel_left ((List.take_append_drop d _).trans hss);refine zaW d [0] hjs zwy63 (Xx (fun e2 ⟨v,q1,q2,q3,q4⟩=>?_) h1);refine Xk [] (.pv (.tup [])) (by rw [hd];rfl) rfl hds ⟨⟨by simp [guardE,hgs],zcN htb hops q1 (show HEnv.get ((i,.cell za)::H) i=some (.cell za) by rw [HEnv.get_cons,if_pos rfl]) q2 q3 hk (hn _),.inl rfl⟩,?_⟩;rw [hd];exact Qu (Xx (fun e3 h3 _=>h3) q4)
end
def ztF (K:KK) (w:World) (es ds:List PV):Prop:=es.length=ds.length/\∀ (k:Nat) (c d:PV),es[k]?=some c->ds[k]?=some d->c.cells.length=d.cells.length/\∀ (j:Nat) (a b:PV) (v:Value),c.cells[j]?=some a->d.cells[j]?=some b->PRel K w a v->PRel K w b v
theorem cells_at {K:KK} {w:World} {sz:Nat} {es ds:List PV} {xs:List Value} (h:ztF K w es ds) (hc:CellsRel K w sz es xs):CellsRel K w sz ds xs:=fun i d hd=>by
 have hlt:=(List.getElem?_eq_some_iff.1 hd).1;obtain ⟨y,he⟩:∃ y,es[i]?=some y:=⟨_,List.getElem?_eq_getElem (by rw [h.1];exact hlt)⟩
 obtain ⟨p1,p2⟩:=h.2 i y d he hd;obtain ⟨c1,c2⟩:=hc i _ he;refine ⟨by rw [<-p1];exact c1,fun k c hk=>?_⟩;have hk':k < y.cells.length:=by rw [p1];exact (List.getElem?_eq_some_iff.1 hk).1
 obtain ⟨v,v1,v2,v3⟩:=c2 k _ (List.getElem?_eq_getElem hk');exact ⟨v,v1,v2,p2 k _ c v (List.getElem?_eq_getElem hk') hk v3⟩
section
variable {P:Program} {n:Nat} {g:Base} {H:HEnv} {env:Env} {c:Code} {QQ:QC}
theorem zp5 (i jp:Nat) {t sz:Nat} {es ds:List PV} {p:PV} {u:Value} (hi:H.get i=some (.mrow t sz es)) (hj:H.get jp=some (.pin (.pv p) u)) (e0:∀ K w,PRel K w p u->ztF K w es ds) (k:AW P n g c env ((i,.mrow t sz ds)::H) QQ):AW P n g c env H QQ:=by
 refine ⟨fun a w hinv=>?_⟩;obtain ⟨g1,g2,K,ρ,hf,he⟩:=hinv;have e:=e0 K w (zvS hf hj);have hget:∀ m hh,HEnv.get ((i,.mrow t sz ds)::H) m=some hh->(m=i/\hh=.mrow t sz ds)\/H.get m=some hh:=by
  intro m hh hm;rw [HEnv.get_cons] at hm;split at hm
  ·rename_i e;subst e;simp only [Option.some.injEq] at hm;exact .inl ⟨rfl,hm.symm⟩
  ·exact .inr hm
 have hold:∀ m hh,HEnv.get ((i,.mrow t sz ds)::H) m=some hh->hh.live=true->∃ h2,H.get m=some h2/\h2.live=true:=fun m hh hm hl=>by
  rcases hget m hh hm with ⟨rfl,rfl⟩|h
  ·exact ⟨_,hi,rfl⟩
  ·exact ⟨_,h,hl⟩
 have hkk:∀ m,(H.get m).isSome=true->(HEnv.get ((i,.mrow t sz ds)::H) m).isSome=true/\ρ m=ρ m:=fun m hm=>⟨by
  rw [HEnv.get_cons];split <;> first|rfl|exact hm,rfl⟩
 refine k.go a w ⟨g1,g2,K,ρ,⟨hf.below,hf.old,hf.new,hf.lt,hf.others,hf.pt,fun m hh bb hm hl hb=>?_,fun m hh hm=>?_,fun m m' hh hh' bb hmm hm hm' l1 l2 b1 b2=>?_⟩,he.keeps (.refl K w) hkk⟩
 ·obtain ⟨h2,q1,q2⟩:=hold m hh hm hl;exact hf.away m h2 bb q1 q2 hb
 ·rcases hget m hh hm with ⟨rfl,rfl⟩|h
  ·obtain ⟨xs,q1,q2,q3,q4⟩:=hf.heap.ok m _ hi;exact ⟨xs,by rw [<-e.1];exact q1,q2,cells_at e q3,q4⟩
  ·exact (hf.heap.ok m hh h).keeps (.refl hf.lt) hf.lt hkk
 ·obtain ⟨h2,q1,q2⟩:=hold m hh hm l1;obtain ⟨h3,q3,q4⟩:=hold m' hh' hm' l2;exact hf.heap.apart m m' h2 h3 bb hmm q1 q3 q2 q4 b1 b2
end
end Go.Cg
