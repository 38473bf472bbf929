/- A part of the walks by abstract values: no statement of its own. -/
import Derived.Test.YtdbgicaoddibdaaGreatT16
import Derived.Test.YtdbgicaoddibdaaGreatT12
import Derived.Test.YtdbgicaoddibdaaGreatT15
import Derived.Test.YtdbgicaoddibdaaGreatT5
import Derived.Test.YtdbgicaoddibdaaGreatT7
import Derived.Shelf.RegionOpenPlain
import Derived.WalkKit
import Derived.Lib.Walk
import Derived.Lib.SliceRun
import Derived.Lib.AppendZerosOnto
import Derived.Test.YtdbgicaoddibdaaGreatT6
import Derived.Test.YtdbgicaoddibdaaGreatT11
set_option linter.unusedVariables false
set_option linter.unusedSimpArgs false
namespace Go.Cg
section
variable {P:Program} {n:Nat} {g:Base} {H:HEnv} {env:Env} {QQ:QC} {Q:Env→HEnv→Prop} {k:Code} {ops l:List Oper}
theorem zlz {φ:Prop} (h:∀ K ρ w,FS g K ρ H w→φ) (q:φ→AW P n g k env H QQ):AW P n g k env H QQ :=
 ⟨fun a w hi=>by obtain ⟨_,_,K,ρ,hf,_⟩:=id hi;exact (q (h K ρ w hf)).go a w hi⟩
theorem zvd {a:Act} {w:World} {t:Nat} {p:PV} {u:Value} (ht:env.get t=some (.pv (.base u))) (hp:∀ K ρ w,FS g K ρ H w→PRel K w p u) (hi:Inv n g env H a w):Inv n g ((t,.pv p)::env) H a w:=by
 obtain ⟨g1,g2,K,ρ,hf,he⟩:=hi;refine ⟨g1,g2,K,ρ,hf,fun t' av hg=>?_⟩;rw [Env.get_cons] at hg;split at hg
 ·rename_i e1;subst e1;simp only [Option.some.injEq] at hg;subst hg;obtain ⟨v,v1,v2⟩:=he _ _ ht;cases v2 with
  | pv _ _ hv=>cases hv;exact ⟨u,v1,.pv _ _ (hp K ρ w hf)⟩
 ·exact he t' av hg
theorem zpV (t:Nat) {p:PV} {u:Value} (ht:env.get t=some (.pv (.base u))) (hp:∀ K ρ w,FS g K ρ H w→PRel K w p u) (q:AW P n g k ((t,.pv p)::env) H QQ):AW P n g k env H QQ:=⟨fun a w hi=>q.go a w (zvd ht hp hi)⟩
end
end Go.Cg
namespace Go.Cg
open Go.RowKit
section
variable {P:Program} {tb:Tab} {g:Base} {K:KK} {w:World} {ρ:Nat→Value} {H:HEnv} {env:Env} {a:Act} {o:Oper}
theorem zb6 (htb:yR P tb) {ty:Nat} {x y:Operand} {i off:Nat} {c v r:AV} (hop:o.op=.store ty x y) (hx:env.val x=some (.box i off)) (hi:H.get i=some (.cell c)) (hy:env.val y=some v) (hr:zeq tb H ty c off v=some r) (hk:tb.known ty=true) (hn:zgo H c=true) :
  EStepN P g H ((i,.cell r)::H) H ((i,.cell r)::H) o env (.pv (.tup [])) none:=by
 refine ⟨fun K ρ a w hf hv=>.inr ⟨rfl,?_⟩⟩;obtain ⟨w',hrun,hf',hlat⟩:=zkl (a:=a) htb hop hi hr hk hn hf (hv x zwy69 _ hx) (hv y zwy69 _ hy);exact ⟨undef,w',K,ρ,.inr ⟨hrun,rfl⟩,hf',hlat,fun _ _=>rfl,zbG⟩
theorem Wn (htb:yR P tb) {ty:Nat} (i:Nat) (hop:o.op=.alloc ty) {z:Value} (hz:tb.zero ty=some z) {za:AV} (hza:zdZ z=some za) (hi:H.get i=none):EStepN P g H ((i,.cell za)::H) H ((i,.cell za)::H) o env (.box i 0) none:=by
 refine ⟨fun K ρ a w hf hv=>.inr ⟨rfl,?_⟩⟩;obtain ⟨v,w',hrun,hev,hf',hr⟩:=zkj (a:=a) htb i hop hz hza hi hf;exact ⟨v,w',K,_,.inl hrun,hf',hev.later hf.lt,fun j hj=>(Za hi (.cell za) v j hj).2,hr⟩
end
section
variable {P:Program} {n:Nat} {g:Base} {H:HEnv} {env:Env} {o:Oper} {c:Code} {QQ:QC} {r:AV}
theorem ziw (h:QStep P g H o env r):EStepN P g H H H H o env r none:=by
 refine ⟨fun K ρ a w hf hv=>?_⟩;have hq:=h.go K ρ a w hf hv;generalize hr:(execOp a.eval o).run P w=res at hq;unfold zjI at hq;split at hq
 ·obtain ⟨K',h1,h2⟩:=hq;exact .inr ⟨rfl,_,_,K',ρ,.inl rfl,hf.evo h1,h1.later hf.lt,fun _ _=>rfl,h2⟩
 ·obtain ⟨rfl,hc⟩:=hq;exact .inl ⟨_,_,rfl,hc.mono fun e w' ⟨v,K',h1,h2,h3⟩=>⟨v,K',ρ,h1,hf.evo h2,h2.later hf.lt,fun _ _=>rfl,h3⟩⟩
 ·exact hq.elim
theorem zvM {es ds:List PV} (h:PCL es ds) {i:Nat} {d:PV} (hd:ds[i]?=some d):∃ e,es[i]?=some e∧PTL e.cells d.cells:=by
 have:i < es.length:=by rw [h.1];exact (List.getElem?_eq_some_iff.1 hd).1
 exact ⟨_,List.getElem?_eq_getElem this,h.2 i _ d (List.getElem?_eq_getElem this) hd⟩
theorem zon {K:KK} {w:World} {sz:Nat} {es ds:List PV} {xs:List Value} (h:PCL es ds) (hc:CellsRel K w sz es xs):CellsRel K w sz ds xs:=fun i d hd=>by
 obtain ⟨e,he,hp⟩:=zvM h hd;obtain ⟨c1,c2⟩:=hc i e he;refine ⟨by rw [←hp.1];exact c1,fun k c hk=>?_⟩;have hk':k < e.cells.length:=by rw [hp.1];exact (List.getElem?_eq_some_iff.1 hk).1
 obtain ⟨v,v1,v2,v3⟩:=c2 k _ (List.getElem?_eq_getElem hk');exact ⟨v,v1,v2,hp.2 k _ c (List.getElem?_eq_getElem hk') hk K w v v3⟩
theorem zfK (i:Nat) {t sz:Nat} {es ds:List PV} (hi:H.get i=some (.mrow t sz es)) (e:PCL es ds) (k:AW P n g c env ((i,.mrow t sz ds)::H) QQ):AW P n g c env H QQ:=by
 refine ⟨fun a w hinv=>?_⟩;obtain ⟨g1,g2,K,ρ,hf,he⟩:=hinv;have hget:∀ m hh,HEnv.get ((i,.mrow t sz ds)::H) m=some hh→(m=i∧hh=.mrow t sz ds)∨H.get m=some hh:=by
  intro m hh hm;rw [HEnv.get_cons] at hm;split at hm
  ·rename_i e;subst e;simp only [Option.some.injEq] at hm;exact .inl ⟨rfl,hm.symm⟩
  ·exact .inr hm
 have hold:∀ m hh,HEnv.get ((i,.mrow t sz ds)::H) m=some hh→hh.live=true→∃ h2,H.get m=some h2∧h2.live=true:=fun m hh hm hl=>by
  rcases hget m hh hm with ⟨rfl,rfl⟩|h
  ·exact ⟨_,hi,rfl⟩
  ·exact ⟨_,h,hl⟩
 have hkk:∀ m,(H.get m).isSome=true→(HEnv.get ((i,.mrow t sz ds)::H) m).isSome=true∧ρ m=ρ m:=fun m hm=>⟨by
  rw [HEnv.get_cons];split <;> first|rfl|exact hm,rfl⟩
 refine k.go a w ⟨g1,g2,K,ρ,⟨hf.below,hf.old,hf.new,hf.lt,hf.others,hf.pt,fun m hh bb hm hl hb=>?_,fun m hh hm=>?_,fun m m' hh hh' bb hmm hm hm' l1 l2 b1 b2=>?_⟩,he.keeps (.refl K w) hkk⟩
 ·obtain ⟨h2,q1,q2⟩:=hold m hh hm hl;exact hf.away m h2 bb q1 q2 hb
 ·rcases hget m hh hm with ⟨rfl,rfl⟩|h
  ·obtain ⟨xs,q1,q2,q3,q4⟩:=hf.heap.ok m _ hi;exact ⟨xs,by rw [←e.1];exact q1,q2,zon e q3,q4⟩
  ·exact (hf.heap.ok m hh h).keeps (.refl hf.lt) hf.lt hkk
 ·obtain ⟨h2,q1,q2⟩:=hold m hh hm l1;obtain ⟨h3,q3,q4⟩:=hold m' hh' hm' l2;exact hf.heap.apart m m' h2 h3 bb hmm q1 q3 q2 q4 b1 b2
end
theorem zm3 {P:Program} {f:FuncId} {args:List AV} {H H':HEnv} {r:AV} {lone:Bool} (ps:List Nat) (hps:(ps.all fun i=>(H.get i).isSome)=true) (h:∀ us,ACallM P f args (H++qE us ps) r H' lone):ACallM P f args H r H' lone:=by
 refine ⟨(h fun _=>undef).stands,fun g K ρ w vs hw1 hf hv=>?_⟩;have hkk:∀ j,(H.get j).isSome=true→(HEnv.get (H++qE ρ ps) j).isSome=true∧ρ j=ρ j:=fun j hj=>⟨Zn j hj,rfl⟩
 have hget:∀ i x,HEnv.get (H++qE ρ ps) i=some x→H.get i=some x∨(i - 1000∈ps∧x=.pin (.own (i - 1000)) (ρ (i - 1000))):=fun i x hx=>by
  rw [get_append] at hx;cases hh:H.get i with
  | some y=>rw [hh] at hx;exact .inl hx
  | none=>rw [hh] at hx;exact .inr (zfk hx).2
 have hl:∀ i x,HEnv.get (H++qE ρ ps) i=some x→x.live=true→H.get i=some x:=fun i x hx hlv=>by
  rcases hget i x hx with h|⟨_,rfl⟩
  ·exact h
  ·simp [HE.live] at hlv
 refine (h ρ).calls g K ρ w vs hw1 ⟨hf.below,hf.old,hf.new,hf.lt,hf.others,hf.pt,fun i x b hi hlv hb=>hf.away i x b (hl i x hi hlv) hlv hb,fun i x hi=>?_,fun i j x y b hij hi hj l1 l2 b1 b2=>hf.heap.apart i j x y b hij (hl i x hi l1) (hl j y hj l2) l1 l2 b1 b2⟩ ⟨hv.1,fun k c v hc hvv=>(hv.2 k c v hc hvv).keeps (.refl K w) hkk⟩;rcases hget i x hi with h|⟨h1,rfl⟩
 ·exact (hf.heap.ok i x h).keeps (.refl hf.lt) hf.lt hkk
 ·exact .own _ (Zn _ (List.all_eq_true.1 hps _ h1))
theorem FS.kill {g:Base} {K:KK} {ρ:Nat→Value} {H:HEnv} {w:World} (i:Nat) (hf:FS g K ρ H w):FS g K ρ ((i,.dead)::H) w:=by
 have hold:∀ j x,HEnv.get ((i,HE.dead)::H) j=some x→x.live=true→H.get j=some x:=fun j x hj hl=>by
  rw [HEnv.get_cons] at hj;split at hj
  ·simp only [Option.some.injEq] at hj;subst hj;cases hl
  ·exact hj
 have hk:∀ j,(H.get j).isSome=true→(HEnv.get ((i,HE.dead)::H) j).isSome=true∧ρ j=ρ j:=fun j hj=>⟨by
  rw [HEnv.get_cons];split <;> first|rfl|exact hj,rfl⟩
 refine ⟨hf.below,hf.old,hf.new,hf.lt,hf.others,hf.pt,fun j x b hj hl hb=>hf.away j x b (hold j x hj hl) hl hb,fun j x hj=>?_,fun j j' x x' b hjj hj hj' hl hl' hb hb'=>hf.heap.apart j j' x x' b hjj (hold j x hj hl) (hold j' x' hj' hl') hl hl' hb hb'⟩;rw [HEnv.get_cons] at hj;split at hj
 ·simp only [Option.some.injEq] at hj;subst hj;trivial
 ·exact (hf.heap.ok j x hj).keeps (.refl hf.lt) hf.lt hk
def mkL (l:List HEnv) (p:Nat):HEnv:=l.getD p []
def zxi (a:HEnv):List HEnv→Prop
 | []=>True
 | x::l=>Yj x a []∧zxi a l
def keysL:List HEnv→Bool
 | []=>true
 | x::l=>qg x x&&l.all (fun y=>qg x y)&&keysL l
theorem zaE {g:Base} {a:HEnv}:∀ {l:List HEnv} {n:Nat},l.length=n + 1→zxi a l→∀ p,p≤n→∀ K ρ w,FS g K ρ (mkL l p) w→FS g K ρ a w
 | [],n,hl,_,p,hp,K,ρ,w,hf=>by simp at hl
 | x::l,n,hl,h,0,hp,K,ρ,w,hf=>hf.narrow h.1
 | x::l,n,hl,h,p + 1,hp,K,ρ,w,hf=>by
  cases n with
  | zero=>omega
  | succ n=>exact zaE (l:=l) (n:=n) zwy79 h.2 p zwy62 K ρ w hf
def zxc (i:Nat) (a:HEnv):List HEnv→Prop
 | []=>True
 | x::l=>Yj ((i,.dead)::x) a []∧zxc i a l
theorem zde {g:Base} {i:Nat} {a:HEnv}:∀ {l:List HEnv} {n:Nat},l.length=n + 1→zxc i a l→∀ p,p≤n→∀ K ρ w,FS g K ρ (mkL l p) w→FS g K ρ a w
 | [],n,hl,_,p,hp,K,ρ,w,hf=>by simp at hl
 | x::l,n,hl,h,0,hp,K,ρ,w,hf=>(hf.kill i).narrow h.1
 | x::l,n,hl,h,p + 1,hp,K,ρ,w,hf=>by
  cases n with
  | zero=>omega
  | succ n=>exact zde (l:=l) (n:=n) zwy79 h.2 p zwy62 K ρ w hf
theorem YO:∀ {l:List HEnv} {n:Nat},l.length=n + 1→keysL l=true→∀ q p,q≤p→p≤n→qg (mkL l q) (mkL l p)=true
 | [],n,hl,_,q,p,_,_=>by simp at hl
 | x::l,n,hl,h,0,0,_,_=>by simp only [keysL,Bool.and_eq_true] at h;exact h.1.1
 | x::l,n,hl,h,0,p + 1,_,hp=>by
  simp only [keysL,Bool.and_eq_true,List.all_eq_true] at h;have hlt:p < l.length:=by simp at hl;omega
  show qg x (l.getD p [])=true
  rw [List.getD_eq_getElem?_getD,List.getElem?_eq_getElem hlt];exact h.1.2 _ (List.getElem_mem hlt)
 | x::l,n,hl,h,q + 1,0,hq,_=>by omega
 | x::l,n,hl,h,q + 1,p + 1,hq,hp=>by
  simp only [keysL,Bool.and_eq_true] at h;cases n with
  | zero=>omega
  | succ n=>exact YO (l:=l) (n:=n) zwy79 h.2 q p zwy62 zwy62
section
variable {P:Program} {tb:Tab} {n:Nat} {g:Base} {H:HEnv} {env:Env} {ops:List Oper}
theorem zwd {α:Type} [Inhabited α] {φ:Env→α→Prop} {l:List Oper} {e:Env} (h:AD P n g H ops (fun e=>∃ x,φ e x) l e):∃ x,AD P n g H ops (fun e=>φ e x) l e:=by
 induction h with
 | nil e h=>obtain ⟨x,h⟩:=h;exact ⟨x,.nil e h⟩
 | step o rest e r t h1 h2 h3 h4 _ ih=>obtain ⟨x,h⟩:=ih;exact ⟨x,.step o rest e r t h1 h2 h3 h4 h⟩
 | skip o rest e t h1 h2 h3 _ ih=>obtain ⟨x,h⟩:=ih;exact ⟨x,.skip o rest e t h1 h2 h3 h⟩
 | case l e t b h1 _ _ i1 i2 =>
  cases b
  ·obtain ⟨x,h⟩:=i2 rfl;exact ⟨x,.case l e t false h1 (fun h=>by cases h) (fun _=>h)⟩
  ·obtain ⟨x,h⟩:=i1 rfl;exact ⟨x,.case l e t true h1 (fun _=>h) (fun h=>by cases h)⟩
theorem WI:zS ops.length ops 0=ops:=by
 apply List.ext_getElem?;intro j;rw [WS];cases h:ops[j]? with
 | none=>rfl
 | some o =>
  have:=(List.getElem?_eq_some_iff.1 h).1;simp only [Option.map_some,zey];rw [if_neg zwy62]
theorem zlw {QQ:QC} {id:Nat} (E:List Nat) (ET:List (List Nat)) (Hs Nm:Nat→HEnv) (Ht:HEnv) (pan:Option Value) (hm:P.follows .mixedOrders=true) (hB:Qh ops ops=true) (hch:Zz ops E=true) (hET:zfd ops E ET=true) (hkp:∀ p,p < ET.length→qg (Hs p) Ht=true∧qg Ht (Hs p)=true) (hne:E.isEmpty=false)
  (hw:∀ p,p≤E.length→∀ K ρ w,FS g K ρ (Hs p) w→FS g K ρ Ht w) (hN0:Nm 0=Ht) (hmono:∀ q p,q≤p→p≤E.length→qg (Nm q) (Nm p)=true) (hkeys:∀ q,q≤E.length→qg (Nm q) (Hs E.length)=true) (hH:Yj H (Hs 0) env) (hke:QD Ht env=true)
  (hp:∀ v,pan=some v→QQ (.panic [{ v:=v,recovered:=false }]) [] [])
  (h:WO P n g Ht Hs ET ops (fun env'=>pan=none→QQ .normal env' (Hs E.length)) (fun p oc ec rc=>EStepN P g (Hs p) (Hs (p + 1)) (Nm p) (Nm (p + 1)) oc ec rc (if p + 1=E.length then pan else none)∧(Zx Ht rc=true∨ops.zipIdx.all (fun x=>E.contains x.2||match oc.dst with|some tc=>!(readsOf ops x.1).contains tc|none=>true)=true)) E ops env)
  (hnd:qU ops=true:=by kernel_rfl):AW P n g (.region id ops.toArray true) env H QQ:=by
 have ht:ops.take ops.length=ops:=List.take_length;have hdr:ops.drop ops.length=[]:=List.drop_length;refine Zr ops.length ops.length E ET Hs Nm Ht pan rfl ?_ hm (by rw [WI,ht];exact hB) (by rw [WI];unfold Xk;rw [show ops.zipIdx.drop ops.length=[] from List.drop_of_length_le (by simp)];rfl) (by rw [WI];simp) (by rw [WI,ht];exact hch) (by rw [WI,ht];exact hET) hkp hne hw hN0 hmono hkeys hH hke hp ?_ hnd
 ·unfold Xd;rw [List.all_eq_true];intro j hj;rw [Bool.or_eq_true];exact .inl (Nat.ble_eq_true_of_le (List.mem_range.1 hj))
 ·rw [WI,ht,hdr];obtain ⟨s,hs⟩:=h;exact ⟨⟨s.r,s.e,s.last,s.lenr,s.lene,s.ok,s.src,fun hpn=>zv5 (s.fin hpn)⟩,hs⟩
theorem ztI {i:Nat} {v:AV} (h:hIn H H=true) (hn:H.get i=none):Yj ((i,.cell v)::H) H []:=by
 refine ⟨fun j x hj=>?_,by simp [QD,h]⟩;rw [HEnv.get_cons,if_neg]
 ·exact hj
 ·rintro rfl;rw [hn] at hj;cases hj
theorem zN {QQ:QC} {id:Nat} (i ja d:Nat) {ta tx:Nat} {oa os:Oper} {ty:TypeId} {z:Value} {za:AV} (htb:yR P tb) (hm:P.follows .mixedOrders=true) (hB:Qh ops ops=true) (hch:Zz ops [ja,d + 1 + ja]=true)
  (hrd:ops.zipIdx.all (fun x=>[ja,d + 1 + ja].contains x.2||!(readsOf ops x.1).contains ta)=true)
  (hsa:ops=ops.take ja++oa::ops.drop (ja + 1)) (hja:Nat.ble ja ops.length=true) (hopa:oa.op=.alloc ty) (hda:oa.dst=some ta) (hta:Nat.blt ta n=true) (hga:oa.guard=none)
  (hss:ops.drop (ja + 1)=(ops.drop (ja + 1)).take d++os::(ops.drop (ja + 1)).drop (d + 1)) (hjs:Nat.ble d (ops.drop (ja + 1)).length=true) (hops:os.op=.store ty (.tmp ta) (.tmp tx)) (hds:os.dst=none) (hgs:os.guard=none)
  (hz:tb.zero ty=some z) (hza:zdZ z=some za) (hk:tb.known ty=true) (hn:∀ H:HEnv,zgo H za=true) (hi:H.get i=none) (hI:hIn H H=true) (he:QD H env=true)
  (h:AD P n g H ops (fun e1=>AD P n g H ops (fun e2=>∃ v r,e2.get ta=some (.box i 0)∧e2.get tx=some v∧zeq tb ((i,.cell za)::H) ty za 0 v=some r∧AD P n g H ops (fun e3=>QQ .normal e3 ((i,.cell r)::(i,.cell za)::H)) ((ops.drop (ja + 1)).drop (d + 1)) e2) ((ops.drop (ja + 1)).take d) ((ta,.box i 0)::e1)) (ops.take ja) env)
  (hnd:qU ops=true:=by kernel_rfl):AW P n g (.region id ops.toArray true) env H QQ:=by
 have h':AD P n g H ops (fun e1=>∃ r,AD P n g H ops (fun e2=>∃ v,e2.get ta=some (.box i 0)∧e2.get tx=some v∧zeq tb ((i,.cell za)::H) ty za 0 v=some r∧AD P n g H ops (fun e3=>QQ .normal e3 ((i,.cell r)::(i,.cell za)::H)) ((ops.drop (ja + 1)).drop (d + 1)) e2) ((ops.drop (ja + 1)).take d) ((ta,.box i 0)::e1)) (ops.take ja) env :=
  QZ (fun e1 h1=>zwd (QZ (fun e2 ⟨v,r,x⟩=>⟨r,v,x⟩) h1)) h
 obtain ⟨r,hr⟩:=zwd h';refine zlw [ja,d + 1 + ja] [] (mkL [H,(i,.cell za)::H,(i,.cell r)::(i,.cell za)::H]) (mkL [H,(i,.cell za)::H,(i,.cell r)::(i,.cell za)::H]) H none hm hB hch rfl (fun p hp=>by simp at hp) rfl
  (zaE rfl ⟨⟨fun _ _ h=>h,by rw [hI];rfl⟩,ztI hI hi,⟨fun j x hj=>?_,by rw [hI];rfl⟩,trivial⟩) rfl (YO rfl ?_) (fun q h=>YO rfl ?_ q 2 h (Nat.le_refl 2)) ⟨fun _ _ h=>h,show (QD H env&&hIn H H)=true by rw [hI,he];rfl⟩ he (fun v hv=>by cases hv) ?_ hnd
 ·have hne:¬ i=j:=by rintro rfl;rw [hi] at hj;cases hj
  rw [HEnv.get_cons,if_neg hne,HEnv.get_cons,if_neg hne];exact hj
 ·have h1:=qR H [];have h2:=fun y:Nat × HE=>qR H [y]
  have h3:=fun y z:Nat × HE=>qR H [y,z]
  have h4:=fun y:Nat × HE=>qR (y::H) []
  have h5:=fun y z:Nat × HE=>qR (z::H) [y]
  have h6:=fun y z:Nat × HE=>qR (y::z::H) []
  simp only [List.nil_append,List.cons_append] at h1 h2 h3 h4 h5 h6;simp [keysL,h1,h2,h3,h4,h5,h6]
 ·have h1:=qR H [];have h2:=fun y:Nat × HE=>qR H [y]
  have h3:=fun y z:Nat × HE=>qR H [y,z]
  have h4:=fun y:Nat × HE=>qR (y::H) []
  have h5:=fun y z:Nat × HE=>qR (z::H) [y]
  have h6:=fun y z:Nat × HE=>qR (y::z::H) []
  simp only [List.nil_append,List.cons_append] at h1 h2 h3 h4 h5 h6;simp [keysL,h1,h2,h3,h4,h5,h6]
 ·refine Yp ja [d] (.box i 0) hsa hja zwy63 hda hta ?_;refine QZ (fun e1 h1=>⟨⟨by simp [guardE,hga],Wn htb i hopa hz hza hi,.inr (by rw [hda];exact hrd)⟩,?_⟩) hr;obtain hd:(ops.drop (ja + 1)).drop d=os::(ops.drop (ja + 1)).drop (d + 1):=List.append_cancel_left ((List.take_append_drop d _).trans hss);refine Qp d [0] hjs zwy63 (QZ (fun e2 ⟨v,q1,q2,q3,q4⟩=>?_) h1);refine Zt [] (.pv (.tup [])) (by rw [hd];rfl) rfl hds ⟨⟨by simp [guardE,hgs],zb6 htb hops q1 (show HEnv.get ((i,.cell za)::H) i=some (.cell za) by rw [HEnv.get_cons,if_pos rfl]) q2 q3 hk (hn _),.inl rfl⟩,?_⟩;rw [hd];exact ZV (QZ (fun e3 h3 _=>h3) q4)
end
end Go.Cg
set_option linter.unusedVariables false
set_option linter.unusedSimpArgs false
namespace Go.Cg
open Go.Proofs Go.Shelf Go.RowKit Go.Lib
set_option maxHeartbeats 20000000
theorem zwP:∃ i,Tryz.prog.info? 40=some i∧i.zero=some (.agg #[.int .i64 0,.int .i64 0,.int .i64 0,.bool false])∧i.size=4∧i.bytes=32:=by
 obtain ⟨i,h1,h2,h3,h4,_⟩:=ZJ (t:=40) zf rfl;exact ⟨i,h1,h4,h2,h3⟩
def zTy:Value:=.agg #[.int .i64 0,.int .i64 0,.int .i64 0,.bool false]
set_option maxRecDepth 100000 in
theorem zup (n:Nat) (hn0:0 < n) (hn:n≤1000) (w:World) :
  Calls Tryz.prog 138 #[.slice none 0 0,.int .i64 n] w fun e w'=>e=.returned (.slice (some ⟨w.heap.size,0,none⟩) 0 (grownCap w n 0 40)) ∧
   w'=w.drew.alloc (.cells (Builtin.zeroCells zTy.cells n++Builtin.zeroCells zTy.cells (grownCap w n 0 40 - n)) 40):=by
 obtain ⟨i0,hi0,hz0,hs0,hb0⟩:=zwP;have u40:=run_underlying Tryz.underlying47;have u3:=run_underlying Tryz.underlying3;have h1:¬ ((n:Int) < 0):=by omega
 have h2:wrap64 ((0:Int) - 0)=0:=by unfold wrap64;omega
 have h3:wrap64 ((n:Int) - 0)=(n:Int):=by unfold wrap64;omega
 have h4:(n:Int) > 0:=by omega
 have z28:∀ w,(Go.sizeOf 40).run Tryz.prog w=.ok i0.size w:=fun w=>by simp [Go.sizeOf,typeInfo,hi0]
 have hold:(Builtin.firstCells i0.size 0 (.slice none 0 0)).run Tryz.prog w.drew=.ok #[] w.drew:=run_firstCells_none w.drew i0.size 0 0 0;have hrz:∀ ty,(Builtin.append_ #[47,3] ty #[.slice none 0 0,.int .i64 (n:Int)]).run Tryz.prog w =
   .ok (.slice (some ⟨w.heap.size,0,none⟩) n (grownCap w n 0 40)) (w.drew.alloc (.cells (Builtin.zeroCells zTy.cells n++Builtin.zeroCells zTy.cells (grownCap w n 0 40 - n)) 40)):=fun ty=>by
  have h:=Lib.run_append_grow_zeros w 47 3 ty 40 i0 zTy .i64 .i64 Tryz.underlying47 Tryz.underlying3 hi0 hz0 none 0 0 [] hold n hn0 zwy62 zwy62 zwy62
   (by rw [hb0];omega)
   (by rw [Nat.zero_add];exact growslice_fits hn0 (by rw [hb0];omega))
  rw [Nat.zero_add] at h;simpa using h
 have hGn:n≤grownCap w n 0 40:=grownCap_ge w _ _ _;obtain ⟨G,hG⟩:∃ G,G=grownCap w n 0 40:=⟨_,rfl⟩
 rw [←hG] at hrz hGn ⊢;have hG63:G≤9223372036854775807:=by
  have:=grownCap_le_maxLen w n 0 40 zwy110;rw [←hG] at this;unfold maxLen at this;omega
 clear hold hG
 go_enter Tryz.func138,Tryz.ntmps138
 go_wp2_with (at_builtin;refine Lib.wpList_append_run _ rfl _ _ _ _ rfl _ _ rfl rfl _ _ (hrz _) ?_)
 all_goals (go_ret;exact ⟨rfl,rfl⟩)
theorem zsm (w:World):Calls Tryz.prog 138 #[.slice none 0 0,.int .i64 0] w fun e w'=>e=.returned (.slice none 0 0)∧w'=w:=by
 have u40:=run_underlying Tryz.underlying47;have u3:=run_underlying Tryz.underlying3
 go_enter Tryz.func138,Tryz.ntmps138
 go_wp2
 go_ret
 exact ⟨rfl,rfl⟩
theorem zkH (m:Int) (h0:0≤m) (h1:m≤1000):ACallR Tryz.prog 138 [.base (.slice none 0 0),pi m] 40 4 []:=by
 refine ⟨⟨_,Tryz.func138,rfl,by kernel_rfl⟩,fun K w vs hl hv=>?_⟩;obtain ⟨v0,vs0,rfl,r0,hv0⟩:=hv.cons_inv;obtain ⟨v1,vs1,rfl,r1,hv1⟩:=hv0.cons_inv;obtain rfl:=hv1.nil_inv;cases r0;cases r1;obtain ⟨n,rfl⟩:=Int.eq_ofNat_of_zero_le h0;by_cases hn:n=0
 ·subst hn;refine (zsm w).mono ?_;rintro e w' ⟨rfl,rfl⟩;exact ⟨_,K,[],rfl,.refl hl,World.ownsRow_nil _ _ _ _,fun i e h=>by simp at h,by simp [Value.ownBlock]⟩
 ·refine (zup n zwy62 zwy62 w).mono ?_;rintro e w' ⟨rfl,rfl⟩;have hev:Evo K K w (w.drew.alloc (.cells (Builtin.zeroCells zTy.cells n++Builtin.zeroCells zTy.cells (grownCap w n 0 40 - n)) 40)) :=
   (Evo.refl hl).drew.trans ⟨(Below.refl _ _).alloc (Nat.le_refl _) _,fun _ _ h=>h,fun _ _ h=>.inl h,fun b o h=>by have:=hl b o h;simp;omega⟩
  have hG:=grownCap_ge w n 0 40;refine ⟨_,K,[],rfl,hev,?_,fun i e h=>by simp at h,?_⟩
  ·refine ⟨rfl,.inr ⟨w.heap.size,grownCap w n 0 40,_,rfl,Nat.le_refl _,by simpa using heap_alloc_new w.drew _,by simp,grownCap_le_maxLen w n 0 40 zwy110,?_,rfl⟩⟩;simp [size_zeroCells,zTy,Value.cells];omega
  ·intro b hb o;simp [Value.ownBlock] at hb;subst hb;refine ⟨fun h=>?_,fun h=>by simp at h⟩;have:=hl _ _ h;omega
end Go.Cg
namespace Go.Cg
open Go.Proofs
set_option maxHeartbeats 20000000
theorem zb8 (l:List Ty) (hb:l.length≤1000):ACall Tryz.prog 62 [tys l] (tys l):=by
 refine zi zf Tryz.func62 rfl zws Tryz.ntmps62 zwy63 _ rfl (fun hw gB hgB=>?_)
 repeat' (first|refine XY zf rfl rfl rfl rfl rfl rfl rfl (fun bb hbb=>?_)|refine zy rfl (QH zf rfl rfl rfl rfl rfl) rfl rfl ?_|(refine yC ?_;first|refine zy rfl (Wu zf rfl rfl (.inl rfl) rfl rfl zwy105 zwy64) rfl rfl ?_)|refine sA ?_|refine sC (fun _=>?_) (fun _=>?_)|fail)
 ·rename_i h;have:l=[]:=by have:=hbb h;simpa using this
  subst this;exact zbl (t:=2) (ps:=[tys []]) rfl (Qy 4 false) rfl rfl
 ·exact retq rfl rfl
theorem zwk3 {G:Prop} (h:G:=by repeat' (first|refine sK ?_|refine sC (fun _=>?_) (fun _=>?_)|exact retq rfl rfl|fail)):G:=h
theorem za7 (l:List Ty) (k:Int) (h:k < 0∨(l.length:Int) < k):ACall Tryz.prog 158 [tys l,pi k] (.tup [.base (.slice none 0 0),.base (.slice none 0 0),pi 9]):=by
 refine zi zf Tryz.func158 rfl zws Tryz.ntmps158 zwy63 _ rfl (fun hw gB hgB=>?_);have hl:=zdz hw.1;rcases h with h|h
 ·exact zwk3
 ·by_cases h2:k < 0
  ·exact zwk3
  ·exact zwk3
theorem znG (l:List Ty) (k:Int) (hb:l.length≤1000) (h:0≤k) (h2:k≤l.length):ACall Tryz.prog 158 [tys l,pi k] (.tup [tys (l.take (l.length - k.toNat)),tys (l.drop (l.length - k.toNat)),pi 0]):=by
 refine zi zf Tryz.func158 rfl zws Tryz.ntmps158 zwy63 _ rfl (fun hw gB hgB=>?_);have hl:=zdz hw.1;have hm:IntKind.i64.wrap (((l.map yJ).length:Int) - k)=((l.length - k.toNat:Nat):Int):=by
  rw [List.length_map,wrap_in zwy62 zwy62];omega
 repeat' (first|refine zq rfl (ZK (xs:=l) (f:=yJ) 0 (l.length - k.toNat) zf rfl rfl rfl rfl rfl rfl (congrArg some hm) zwy62 zwy62) rfl rfl ?_|refine zq rfl (ZK (xs:=l) (f:=yJ) (l.length - k.toNat) l.length zf rfl rfl rfl rfl rfl (congrArg some hm) (by simp [Xj]) zwy62 zwy62) rfl rfl ?_|(refine shC ?_;first|refine zy rfl (zJ rfl rfl (zb8 _ zwy64)) rfl rfl ?_|refine zq rfl (zJ rfl rfl (zb8 _ zwy64)) rfl rfl ?_)|refine sK ?_|refine sC (fun _=>?_) (fun _=>?_)|fail)
 exact retq rfl (by simp [zC])
set_option maxHeartbeats 20000000
def zej (a b:List Ty):Nat→Int
 | 0=>0
 | 1=>a.length
 | _=>a.length + b.length
def zpA (a b:List Ty):Nat→List Ty
 | 0=>[]
 | 1=>a
 | _=>a++b
theorem zwk4 {G:Prop} (h:G:=by repeat' (first|(have:=b0;refine zy rfl (zdJ zf rfl (by first|omega|(simp [zej] <;> omega)) (by first|omega|(simp [zej] <;> omega))) rfl rfl ?_)|(refine shX ?_;first|(have:=b0;refine zy rfl (zo zf rfl rfl rfl rfl rfl rfl zwy67 rfl) rfl rfl ?_)|(have:=b0;refine zq rfl (zo zf rfl rfl rfl rfl rfl rfl zwy67 rfl) rfl rfl ?_))|(have:=b1;refine yC ?_;first|refine qI zf rfl rfl rfl rfl rfl rfl rfl (by show _ * 32≤_;simp [zpA];omega) (by simp [zpA];omega) rfl rfl ?_)|refine sK ?_|refine sC (fun _=>?_) (fun _=>?_)|(have:=b2;exact ⟨1,by omega,tD,by repeat (first|exact qh|refine yU rfl ?_|(refine ZF rfl ?_ ?_;· (first|(simp [zej];done)|(simp [zej];omega)|omega))),tH⟩)|(have:=b3;exact ⟨2,by omega,tD,by repeat (first|exact qh|refine yU rfl ?_|(refine ZF rfl ?_ ?_;· (first|(simp [zej];done)|(simp [zej];omega)|omega))),tH⟩)|(have:=b4;exact ⟨1,by omega,tD,by repeat (first|exact qh|refine yU rfl ?_|(refine ZF rfl ?_ ?_;· omega)),⟨aB zA,rfl⟩⟩)|(have:=b5;exact ⟨2,by omega,tD,by repeat (first|exact qh|refine yU rfl ?_|(refine ZF rfl ?_ ?_;· omega)),⟨zx (by show some (HE.row 40 4 (_++_))=_;simp [zpA]) zA,rfl⟩⟩)|(have:=b6;exact retq rfl (by simp [zC,zpA,tys]))|fail)):G:=h
theorem zgR (a b:List Ty) (ha:a.length≤200) (hb:b.length≤200):ACall Tryz.prog 94 [.slc 1 [tys a,tys b] true] (tys (a++b)):=by
 refine zi zf Tryz.func94 rfl zws Tryz.ntmps94 zwy63 _ rfl (fun hw gB hgB=>?_)
 repeat' (first|refine sK ?_|refine sC (fun _=>?_) (fun _=>?_)|fail)
 refine zW (fun k:Nat=>[(0,.pv (.slc 1 [tys a,tys b] true)),(9,.pv (.slc 1 [tys a,tys b] true)),(10,.pv (pi 2)),(11,.pv (pi k)),(3,.pv (pi (zej a b k)))]) (fun _=>[]) (fun k=>k≤2) (fun k=>2 - k) 0 zwy62 (tS) tH ?_;intro k hk;have hk3:k=0∨k=1∨k=2:=by omega
 rcases hk3 with rfl|rfl|rfl
 ·have b0:=();have b2:=();exact zwk4
 ·have b0:=();have b3:=();exact zwk4
 ·repeat' (first|(refine zn ?_;first|refine zcG 0 rfl rfl rfl (zkH _ (by simp [zej];omega) (by simp [zej];omega)) zwy67 rfl rfl rfl ?_)|refine sK ?_|refine sC (fun _=>?_) (fun _=>?_)|fail)
  refine zW (fun k:Nat=>[(6,.own 0),(25,.pv (.slc 1 [tys a,tys b] true)),(26,.pv (pi 2)),(27,.pv (pi k))]) (fun k=>[(0,.row 40 4 ((zpA a b k).map yJ))]) (fun k=>k≤2) (fun k=>2 - k) 0 zwy62 (tS) tH ?_;intro k hk;have hk3:k=0∨k=1∨k=2:=by omega
  rcases hk3 with rfl|rfl|rfl
  ·have b0:=();have b1:=();have b4:=();exact zwk4
  ·have b0:=();have b1:=();have b5:=();exact zwk4
  ·have b6:=();exact zwk4
theorem zr3 (a b:List Ty) (m:Int) (ha:a.length≤200) (hb:b.length≤200) (h:(a.length + b.length:Int)≤m):ACall Tryz.prog 157 [tys a,pi m,tys b] (.tup [tys (a++b),pi 0]):=by
 refine zi zf Tryz.func157 rfl zws Tryz.ntmps157 zwy63 _ rfl (fun hw gB hgB=>?_);have hl:¬ (m < (((a++b).map yJ).length:Int)):=by simp;omega
 repeat' (first|(refine shC ?_;first|refine qC (zgR a b ha hb) ?_)|refine sK ?_|refine sC (fun _=>?_) (fun _=>?_)|fail)
 all_goals exact retq rfl (by simp [zC])
theorem zlm (a b:List Ty) (m:Int) (ha:a.length≤200) (hb:b.length≤200) (h:m < (a.length + b.length:Int)):ACall Tryz.prog 157 [tys a,pi m,tys b] (.tup [.base (.slice none 0 0),pi 9]):=by
 refine zi zf Tryz.func157 rfl zws Tryz.ntmps157 zwy63 _ rfl (fun hw gB hgB=>?_);have hl:m < (((a++b).map yJ).length:Int):=by simp;omega
 repeat' (first|(refine shC ?_;first|refine qC (zgR a b ha hb) ?_)|refine sK ?_|refine sC (fun _=>?_) (fun _=>?_)|fail)
 all_goals exact retq rfl (by simp [zC])
end Go.Cg



