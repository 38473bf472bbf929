/- A part of the walks by abstract values: no statement of its own. -/
import Derived.Test.YtemhfmmhkimhmaaGreatI15
import Derived.Test.YtemhfmmhkimhmaaGreatI10
import Derived.Test.YtemhfmmhkimhmaaGreatI8
import Derived.Test.YtemhfmmhkimhmaaGreatI4
set_option linter.unusedVariables false
set_option linter.unusedSimpArgs false
namespace Go.Cg
open Go.RowKit
section
variable {P:Program} {n:Nat} {g:Base} {K:KK} {w:World} {ρ:Nat->Value} {H:HEnv} {Hp:Nat->HEnv} {ET:List (List Nat)} {env:Env} {a:Act} {ops l:List Oper} {Q:Env->Prop} {E:List Nat}
theorem zcE {QQ:QC} (L k:Nat) (E:List Nat) (ET:List (List Nat)) (Hs Nm:Nat->HEnv) (Ht:HEnv) (pan:Option Value) (_:ops.length=L) (hok:Xz ops k=true) (hB:QN (zU k ops 0) ((zU k ops 0).take k)=true) (hT:XJ (zU k ops 0) k=true) (hk:Nat.ble k (zU k ops 0).length=true)
  (hch:ZT ((zU k ops 0).take k) E=true) (hET:zeW ((zU k ops 0).take k) E ET=true) (hkp:∀ p,p < ET.length->qB (Hs p) Ht=true/\qB Ht (Hs p)=true) (hne:E.isEmpty=false)
  (hw:∀ p,p<=E.length->∀ K ρ w,FS g K ρ (Hs p) w->FS g K ρ Ht w) (hN0:Nm 0=Ht) (hmono:∀ q p,q<=p->p<=E.length->qB (Nm q) (Nm p)=true) (hkeys:∀ q,q<=E.length->qB (Nm q) (Hs E.length)=true) (hH:Qx H (Hs 0) env) (hke:Xi Ht env=true)
  (hp:∀ v,pan=some v->QQ (.panic [{ v:=v,recovered:=false }]) [] [])
  (h:Vj P n g Ht Hs ET (zU k ops 0) (fun env'=>pan=none->AOX P n g (zU k ops 0).toArray ((zU k ops 0).drop k) env' (Hs E.length) QQ) (fun p oc ec rc=>EStepN P g (Hs p) (Hs (p + 1)) (Nm p) (Nm (p + 1)) oc ec rc (if p + 1=E.length then pan else none)/\(Zz Ht rc=true\/((zU k ops 0).take k).zipIdx.all (fun x=>E.contains x.2||match oc.dst with|some tc=>!(readsOf (zU k ops 0) x.1).contains tc|none=>true)=true)) E ((zU k ops 0).take k) env):DR P n g ops env H QQ :=
 zqx k E ET Hs Nm Ht pan (VB k ops 0) (fun _=>zk0 hok) hB hT (Nat.le_of_ble_eq_true hk) hch hET hkp (.inl hne) hw hN0 hmono hkeys (fun a w hi=>by
  obtain ⟨h1,h2,K,ρ,hf,he⟩:=hi.hsub hH;exact ⟨⟨h1,h2,K,ρ,hf,fun t av h=>by simp [Env.get_nil] at h⟩,K,ρ,hf,fun t av hav=>by
   obtain ⟨v,v1,v2⟩:=he t av hav;exact ⟨v,v1,v2.refs (zb1 hke t av hav)⟩⟩) hp (by
  obtain ⟨s,hs⟩:=h;exact ⟨⟨s.r,s.e,s.last,s.lenr,s.lene,s.ok,s.src,fun hp=>(s.fin hp).go⟩,hs⟩)
theorem Xw {QQ:QC} {id:Nat} (L k:Nat) (E:List Nat) (ET:List (List Nat)) (Hs Nm:Nat->HEnv) (Ht:HEnv) (pan:Option Value) (hL:ops.length=L) (hok:Xz ops k=true) (hm:P.follows .mixedOrders=true) (hB:QN (zU k ops 0) ((zU k ops 0).take k)=true) (hT:XJ (zU k ops 0) k=true) (hk:Nat.ble k (zU k ops 0).length=true)
  (hch:ZT ((zU k ops 0).take k) E=true) (hET:zeW ((zU k ops 0).take k) E ET=true) (hkp:∀ p,p < ET.length->qB (Hs p) Ht=true/\qB Ht (Hs p)=true) (hne:E.isEmpty=false)
  (hw:∀ p,p<=E.length->∀ K ρ w,FS g K ρ (Hs p) w->FS g K ρ Ht w) (hN0:Nm 0=Ht) (hmono:∀ q p,q<=p->p<=E.length->qB (Nm q) (Nm p)=true) (hkeys:∀ q,q<=E.length->qB (Nm q) (Hs E.length)=true) (hH:Qx H (Hs 0) env) (hke:Xi Ht env=true)
  (hp:∀ v,pan=some v->QQ (.panic [{ v:=v,recovered:=false }]) [] [])
  (h:Vj P n g Ht Hs ET (zU k ops 0) (fun env'=>pan=none->AOX P n g (zU k ops 0).toArray ((zU k ops 0).drop k) env' (Hs E.length) QQ) (fun p oc ec rc=>EStepN P g (Hs p) (Hs (p + 1)) (Nm p) (Nm (p + 1)) oc ec rc (if p + 1=E.length then pan else none)/\(Zz Ht rc=true\/((zU k ops 0).take k).zipIdx.all (fun x=>E.contains x.2||match oc.dst with|some tc=>!(readsOf (zU k ops 0) x.1).contains tc|none=>true)=true)) E ((zU k ops 0).take k) env)
  (hnd:ZB ops=true:=by kernel_rfl):AW P n g (.region id ops.toArray true) env H QQ :=
 zfF hm (zcE L k E ET Hs Nm Ht pan hL hok hB hT hk hch hET hkp hne hw hN0 hmono hkeys hH hke hp h) hnd
theorem zfk {QQ:QC} {id:Nat} (L k:Nat) (E:List Nat) (Hs Nm:Nat->HEnv) (Ht:HEnv) (pan:Option Value) (hL:ops.length=L) (hok:Xz ops k=true) (hm:P.follows .mixedOrders=true) (hB:QN (zU k ops 0) ((zU k ops 0).take k)=true) (hT:XJ (zU k ops 0) k=true) (hk:Nat.ble k (zU k ops 0).length=true)
  (hch:ZT ((zU k ops 0).take k) E=true) (hne:E.isEmpty=false)
  (hw:∀ p,p<=E.length->∀ K ρ w,FS g K ρ (Hs p) w->FS g K ρ Ht w) (hN0:Nm 0=Ht) (hmono:∀ q p,q<=p->p<=E.length->qB (Nm q) (Nm p)=true) (hkeys:∀ q,q<=E.length->qB (Nm q) (Hs E.length)=true) (hH:Qx H (Hs 0) env) (hke:Xi Ht env=true)
  (hp:∀ v,pan=some v->QQ (.panic [{ v:=v,recovered:=false }]) [] [])
  (h:Vj P n g Ht Hs [] (zU k ops 0) (fun env'=>pan=none->AOX P n g (zU k ops 0).toArray ((zU k ops 0).drop k) env' (Hs E.length) QQ) (fun p oc ec rc=>EStepN P g (Hs p) (Hs (p + 1)) (Nm p) (Nm (p + 1)) oc ec rc (if p + 1=E.length then pan else none)/\(Zz Ht rc=true\/((zU k ops 0).take k).zipIdx.all (fun x=>E.contains x.2||match oc.dst with|some tc=>!(readsOf (zU k ops 0) x.1).contains tc|none=>true)=true)) E ((zU k ops 0).take k) env)
  (hnd:ZB ops=true:=by kernel_rfl):AW P n g (.region id ops.toArray true) env H QQ :=
 Xw L k E [] Hs Nm Ht pan hL hok hm hB hT hk hch rfl (fun p hp=>by simp at hp) hne hw hN0 hmono hkeys hH hke hp h hnd
theorem zom {QQ:QC} {id:Nat} (L k jc:Nat) (H0 H1 Ht:HEnv) {oc:Oper} {tc:Nat} (rc:AV) (pan:Option Value) (hL:ops.length=L) (hok:Xz ops k=true) (hm:P.follows .mixedOrders=true) (hB:QN (zU k ops 0) ((zU k ops 0).take k)=true) (hT:XJ (zU k ops 0) k=true) (hk:Nat.ble k (zU k ops 0).length=true)
  (hsp:(zU k ops 0).take k=(zU k ops 0).take jc++oc::((zU k ops 0).take k).drop (jc + 1)) (hjl:Nat.ble jc (zU k ops 0).length=true) (hd:oc.dst=some tc) (htc:Nat.blt tc n=true)
  (w0:∀ K ρ w,FS g K ρ H0 w->FS g K ρ Ht w) (w1:∀ K ρ w,FS g K ρ H1 w->FS g K ρ Ht w) (hkeys:qB Ht H1=true) (hH:Qx H H0 env) (hke:Xi Ht env=true) (hr:Zz Ht rc=true)
  (hp:∀ v,pan=some v->QQ (.panic [{ v:=v,recovered:=false }]) [] [])
  (h:AD P n g Ht (zU k ops 0) (fun env1=>(guardE (zU k ops 0) env1 oc=some true/\EStep P g H0 H1 Ht oc env1 rc pan)/\AD P n g Ht (zU k ops 0) (fun env'=>pan=none->AOX P n g (zU k ops 0).toArray ((zU k ops 0).drop k) env' H1 QQ) (((zU k ops 0).take k).drop (jc + 1)) ((tc,rc)::env1)) ((zU k ops 0).take jc) env)
  (hnd:ZB ops=true:=by kernel_rfl):AW P n g (.region id ops.toArray true) env H QQ:=by
 have hjk:jc < k:=by
  have h1:=congrArg List.length hsp;have h2:=Nat.le_of_ble_eq_true hjl;have h3:=Nat.le_of_ble_eq_true hk;simp only [List.length_append,List.length_take,List.length_cons,List.length_drop] at h1;omega
 have htt:((zU k ops 0).take k).take jc=(zU k ops 0).take jc:=by rw [List.take_take,Nat.min_eq_left zwy62]
 have hll:((zU k ops 0).take k).length=k:=by have:=Nat.le_of_ble_eq_true hk;simp;omega
 have hgj:((zU k ops 0).take k)[jc]?=some oc:=by
  rw [hsp,List.getElem?_append_right zwy64];have:=Nat.le_of_ble_eq_true hjl;simp [Nat.min_eq_left this]
 refine zfk L k [jc] (fun p=>match p with|0=>H0|_ + 1=>H1) (fun _=>Ht) Ht pan hL hok hm hB hT hk (by rw [ZT,hgj];rfl) rfl
  (fun p _=>by cases p <;> assumption) rfl (fun _ _ _ _=>qZ Ht []) (fun _ _=>hkeys) hH hke hp ?_ hnd
 refine Yp jc [] rc (by rw [htt];exact hsp) (Nat.ble_eq_true_of_le zwy62) rfl hd htc ?_;rw [htt];exact Xx (fun _ ⟨⟨x1,x2⟩,x3⟩=>⟨⟨x1,⟨fun K ρ a w hf hv=>.inl (x2.go K ρ a w hf hv)⟩,.inl hr⟩,Qu x3⟩) h
theorem zfs {r:AV} {f:FuncId} {o:Oper} {xs:Array Operand} {ts:Array TypeId} {ars:List AV} {N N1:HEnv} {e:Env} (Hc Hc' R:HEnv) {lone:Bool} (ps:List Nat) (hw1:lone=true->g.w1.heap.size=0)
  (hop:o.op=.call { callee:=.value (.func f),args:=xs,argTypes:=ts }) (hargs:avs e xs.toList=some ars) (hsub:HSub H (Hc++R)) (hk:qB N H=true) (hk2:qB N (R++VT ps)=true)
  (hr:Zz N1 r=true) (hchk:Ql Hc Hc' R ps ars [] r=true) (hc:∀ us,ACallM P f ars (Hc++Zc us ps) r (Hc'++Zc us ps) lone):EStepN P g H (Hc'++R) N N1 o e r none:=by
 refine ⟨fun K ρ a w hf hv=>?_⟩;have hrun:(execOp a.eval o).run P w=.ok (.enter f (xs.toList.map a.eval).toArray) w:=by
  have e:(xs.toList.map a.eval).toArray=xs.map a.eval:=by rw [<-Array.toList_map,Array.toArray_toList]
  rw [e];simp [execOp,hop,resolve,Act.eval,Deferred.ofValue,invoke,ZL (hc ρ).stands]
 refine .inl ⟨f,_,hrun,?_⟩;have hpa:Qh K w ρ N ars (xs.toList.map a.eval):=zfD (fun x hx=>hv x zwy75) hargs;have hall:Qh K w ρ H ars (xs.toList.map a.eval):=⟨hpa.1,fun k c v hc hv=>(hpa.2 k c v hc hv).keeps (.refl K w) fun j hj=>⟨ZN hk j hj,rfl⟩⟩
 refine (zd6 Hc Hc' R ps hw1 hsub hchk hc hf hall).mono fun ex w' ⟨v,K',ρ2,e1,hf',hv,hlat,hps⟩=>?_
 exact ⟨v,K',ρ2,e1,hf',hlat,fun j hj=>(hps j (ZN hk2 j hj)).2,hv.refs hr⟩
theorem zng {N N1:HEnv} {f:FuncId} {args:List PV} {r:PV} {o:Oper} {e:Env} {xs:Array Operand} {ts:Array TypeId} (hop:o.op=.call { callee:=.value (.func f),args:=xs,argTypes:=ts }) (hargs:pvs e N xs.toList=some args) (hw:∀ K ρ w,FS g K ρ H w->FS g K ρ N w)
  (hc:ACall P f args r):EStepN P g H H N N1 o e (.pv r) none:=by
 refine ⟨fun K ρ a w hf hv=>?_⟩;have hp:=zdY (hw K ρ w hf) (a:=a) (xs:=xs.toList) (fun x hx=>hv x zwy75) hargs;have hrun:(execOp a.eval o).run P w=.ok (.enter f (xs.toList.map a.eval).toArray) w:=by
  have e:(xs.toList.map a.eval).toArray=xs.map a.eval:=by rw [<-Array.toList_map,Array.toArray_toList]
  rw [e];simp [execOp,hop,resolve,Act.eval,Deferred.ofValue,invoke,ZL hc.stands]
 refine .inl ⟨f,_,hrun,(hc.calls K w _ hf.lt hp).mono fun ex w' ⟨v,K',h1,h2,h3⟩=>?_⟩;exact ⟨v,K',ρ,h1,hf.evo h2,h2.later hf.lt,fun _ _=>rfl,.pv _ _ h3⟩
theorem zsC {i:Nat} {t sz:Nat} (hi:H.get i=some (.row t sz [])) (h:Inv n g env H a w):Inv n g env ((i,.mrow t sz [])::H) a w:=by
 obtain ⟨g1,g2,K,ρ,hf,he⟩:=h;have hk:∀ j,(H.get j).isSome=true->(HEnv.get ((i,HE.mrow t sz [])::H) j).isSome=true/\ρ j=ρ j:=fun j hj=>⟨by
  rw [HEnv.get_cons];split <;> first|rfl|exact hj,rfl⟩
 have hold:∀ j x,HEnv.get ((i,HE.mrow t sz [])::H) j=some x->x.live=true->∃ y,H.get j=some y/\y.live=true:=fun j x hj hl=>by
  rw [HEnv.get_cons] at hj;split at hj
  ·rename_i e;subst e;exact ⟨_,hi,rfl⟩
  ·exact ⟨x,hj,hl⟩
 refine ⟨g1,g2,K,ρ,⟨hf.below,hf.old,hf.new,hf.lt,hf.others,hf.pt,fun j x b hj hl hb=>?_,fun j x hj=>?_,fun j j' x x' b hjj hj hj' hl hl' hb hb'=>?_⟩,he.keeps (.refl K w) hk⟩
 ·obtain ⟨y,y1,y2⟩:=hold j x hj hl;exact hf.away j y b y1 y2 hb
 ·rw [HEnv.get_cons] at hj;split at hj
  ·rename_i e;subst e;simp only [Option.some.injEq] at hj;subst hj;obtain ⟨xs,q1,q2,q3,q4⟩:=hf.heap.ok i _ hi;exact ⟨xs,q1,q2,q3,fun b hb o hk=>by have:=(q4 b hb o).1 hk;simp at this⟩
  ·exact (hf.heap.ok j x hj).keeps (.refl hf.lt) hf.lt hk
 ·obtain ⟨y,y1,y2⟩:=hold j x hj hl;obtain ⟨y',y3,y4⟩:=hold j' x' hj' hl';exact hf.heap.apart j j' y y' b hjj y1 y3 y2 y4 hb hb'
theorem znr {Q:Env->HEnv->Prop} {l:List Oper} (i:Nat) {t sz:Nat} (hi:H.get i=some (.row t sz [])) (k:AO P n g ops.toArray l env ((i,.mrow t sz [])::H) Q):AO P n g ops.toArray l env H Q:=⟨fun a w hinv=>k.go a w (zsC hi hinv)⟩
theorem zgG {QQ:QC} {t:Nat} (i:Nat) (e:TypeId) (sz:Nat) (hsz:0 < sz) (ht:env.get t=some (.pv (.base (.slice none 0 0)))) (hi:H.get i=none) (h:QQ .ret ((t,.own i)::env) ((i,.mrow e sz [])::H)):AW P n g .ret env H QQ:=zde i e sz hsz ht hi (zh4 h)
end
section
variable {P:Program} {tb:Tab} {g:Base} {K:KK} {w:World} {ρ:Nat->Value} {H:HEnv} {env:Env} {a:Act} {o:Oper}
theorem zqO {ty e:TypeId} {x y:Operand} {sz:Nat} {es xs:List PV} {full:Bool} (i:Nat) (htb:yZ P tb) (hop:o.op=.call { callee:=.builtin .append,args:=#[x,y],argTypes:=#[ty,ty] }) (hk:tb.k ty=.sl e)
  (hx:env.pv H x=some (.slc sz es true)\/(es=[]/\env.pv H x=some (.base (.slice none 0 0)))) (hy:env.pv H y=some (.slc sz xs full)) (hx0:0 < xs.length)
  (hzz:(match tb.get e with|some ti=>(match ti.zero with|some z=>ti.size==sz&&z.cells.size==sz&&Nat.blt 0 sz|none=>false)|none=>false)=true)
  (hbound:(es.length + xs.length) * (match tb.get e with|some ti=>ti.bytes|none=>0)<=140737488355328) (hb2:es.length + xs.length<=140737488355328) (hi:H.get i=none):EStepN P g H ((i,.row e sz (es++xs))::H) H ((i,.row e sz (es++xs))::H) o env (.own i) none:=by
 refine ⟨fun K ρ a w hf hv=>.inr ⟨rfl,?_⟩⟩;obtain ⟨v',w',K',hrun,hlat,hf'⟩:=zdg (a:=a) i htb hop hk hx hy hx0 hzz hbound hb2 hi hf hv;refine ⟨v',w',K',_,.inl hrun,hf',hlat,fun j hj=>(Zg (ρ:=ρ) hi (.row e sz (es++xs)) v' j hj).2,?_⟩;have:=ARel.own (K:=K') (w:=w') (ρ:=fun j=>if j=i then v' else ρ j) (H:=(i,HE.row e sz (es++xs))::H) i zwy81;simpa using this
theorem zoU (m:Bool) (htb:yZ P tb) {ty e:Nat} {x y:Operand} {i j:Nat} {sz:Nat} {es xs:List PV} {full:Bool}
  (hop:o.op=.call { callee:=.builtin .append,args:=#[x,y],argTypes:=#[ty,ty] }) (hk:tb.k ty=.sl e) (hx:env.val x=some (.own i)) (hi:H.get i=some (rowB m e sz es)) (hj:H.get j=none) (hy:env.pv H y=some (.slc sz xs full))
  (hzz:(match tb.get e with|some ti=>(match ti.zero with|some z=>ti.size==sz&&z.cells.size==sz|none=>false)|none=>false)=true)
  (hbound:(es.length + xs.length) * (match tb.get e with|some ti=>ti.bytes|none=>0)<=140737488355328) (hb2:es.length + xs.length<=140737488355328)
  (hf:FS g K ρ H w) (hv:∀ z∈o.op.operands,∀ av,env.val z=some av->ARel K w ρ H av (a.eval z)) :
  ∃ v' w' K',(execOp a.eval o).run P w=.ok (.value v') w'/\Later K K' w w'/\FS g K' (fun k=>if k=j then v' else ρ k) ((j,rowB m e sz (es++xs))::(i,.dead)::H) w' :=
 zg6 (f:=id) htb j m hop hk hx hi hy hzz hbound hb2 hf hv (fun k _ hh hk=>by
  rw [HEnv.get_cons] at hk;split at hk
  ·exact .inl (Option.some.inj hk).symm
  ·rename_i hne;exact .inr ⟨Ne.symm hne,hh,hk,by cases hh <;> rfl⟩) (fun hl av v h=>h.keeps hl fun k hk=>by
  have hne:k≠j:=by rintro rfl;simp [hj] at hk
  refine ⟨?_,by simp [hne]⟩;rw [HEnv.get_cons,if_neg (Ne.symm hne),HEnv.get_cons];split <;> first|rfl|exact hk)
theorem YC (htb:yZ P tb) {ty:Nat} {x y:Operand} {i k j sz off e:Nat} {N N1:HEnv} {es:List PV} {p q p':PV} (hop:o.op=.store ty x y) (hx:env.val x=some (.ad i off)) (hi:H.get i=some (.mrow e sz es)) (hoff:off=k * sz + j)
  (hp:es[k]?=some p) (hy:env.val y=some (.pv q)) (hnt:q.notTup=true) (hs:zi0 p j (tb.size ty) q=some p') (hk:tb.known ty=true):EStepN P g H ((i,.mrow e sz (es.set k p'))::H) N N1 o env (.pv (.tup [])) none:=by
 refine ⟨fun K ρ a w hf hv=>.inr ⟨rfl,?_⟩⟩;obtain ⟨w',hrun,hf',hlat⟩:=zjl (a:=a) htb hop hi hoff hp hnt hs hk hf (hv x zwy68 _ hx) (by
  have:=hv y zwy68 _ hy;cases this with|pv _ _ h=>exact h)
 exact ⟨undef,w',K,ρ,.inr ⟨hrun,rfl⟩,hf',hlat,fun _ _=>rfl,zdN⟩
end
def zbU (q:List Nat) (x:Nat) (b:Bool) (o:Oper):Oper:={ o with after:=(o.after.toList.map (fun e=>(⟨q.getD e.on e.on,e.ground⟩:Edge))++(if b then [(⟨q.getD x x,.phase⟩:Edge)] else [])).toArray }
def Wi (p q:List Nat) (x y:Nat) (ops:List Oper):List Oper:=p.filterMap fun k=>(ops[k]?).map fun o=>zbU q x (Nat.beq k y) o
def zbO (p q:List Nat) (x y:Nat) (ops:List Oper):Bool :=
 Nat.beq p.length ops.length&&Nat.beq q.length ops.length&&(List.range ops.length).all (fun k=>Nat.beq (q.getD (p.getD k 0) 0) k&&Nat.beq (p.getD (q.getD k 0) 0) k&&Nat.blt (p.getD k 0) ops.length&&Nat.blt (q.getD k 0) ops.length)
 && ops.all (fun o=>o.guard.isNone&&o.after.toList.all fun e=>Nat.blt e.on ops.length)&&Nat.blt x ops.length&&Nat.blt y ops.length
def Lin (ops:Array Oper):Nat->Array Bool->List Nat->Prop
 | 0,_,L=>L=[]
 | _ + 1,listed,[]=>Region.ready .any ops listed=[]
 | f + 1,listed,j::L=>j∈Region.ready .any ops listed/\Lin ops f (listed.setIfInBounds j true) L
theorem zwS (ops:Array Oper):∀ (fuel t:Nat) (listed:Array Bool),Lin ops fuel listed (Region.linearise.go .any ops fuel t listed []):=by
 intro fuel;induction fuel with
 | zero=>intro t listed;simp [Region.linearise.go,Lin]
 | succ fuel ih =>
  intro t listed;simp only [Region.linearise.go];change Lin ops (fuel + 1) listed (match (Region.ready .any ops listed)[t % (Region.ready .any ops listed).length]? with
   | some i=>Region.linearise.go .any ops fuel (t / (Region.ready .any ops listed).length) (listed.setIfInBounds i true) [i]
   | none=>[].reverse)
  cases hi:(Region.ready .any ops listed)[t % (Region.ready .any ops listed).length]? with
  | none =>
   have hnil:Region.ready .any ops listed=[]:=by
    cases hr:Region.ready .any ops listed with
    | nil=>rfl
    | cons x xs =>
     rw [hr] at hi;have hlt:t % (x::xs).length < (x::xs).length:=Nat.mod_lt _ zwy63;simp at hi;simp at hlt;omega
   exact hnil
  | some i =>
   simp only [];rw [linearise_go_acc,List.reverse_singleton,List.singleton_append];exact ⟨List.mem_of_getElem? hi,ih _ _⟩
def Ahead (x y:Nat) (L:List Nat):Prop:=∀ A B,L=A++y::B->x∈A
theorem zow {x y:Nat} (hne:x≠y):∀ L:List Nat,Ahead x y L\/Ahead y x L
 | []=>.inl fun A B h=>by cases A <;> simp at h
 | z::L=>by
  by_cases hx:z=x
  ·refine .inl fun A B h=>?_
   cases A with
   | nil=>simp at h;exact absurd (hx.symm.trans h.1) hne
   | cons a A=>simp at h;rw [<-h.1,hx];simp
  ·by_cases hy:z=y
   ·refine .inr fun A B h=>?_
    cases A with
    | nil=>simp at h;exact absurd (h.1.symm.trans hy) hne
    | cons a A=>simp at h;rw [<-h.1,hy];simp
   ·rcases zow hne L with h|h
    ·refine .inl fun A B e=>?_
     cases A with
     | nil=>simp at e;exact absurd e.1 hy
     | cons a A=>simp at e;exact List.mem_cons_of_mem _ (h A B e.2)
    ·refine .inr fun A B e=>?_
     cases A with
     | nil=>simp at e;exact absurd e.1 hx
     | cons a A=>simp at e;exact List.mem_cons_of_mem _ (h A B e.2)
section
variable {F:Fence} {n:Nat} {P:Program} {Q:Exit->Act->World->Prop} {ops:List Oper} {p q:List Nat} {x y:Nat}
theorem zfw {l:Array Bool} {k:Nat} (h:k < l.size):l.getD k false=l.getD k true:=by
 rw [Array.getD_eq_getD_getElem?,Array.getD_eq_getD_getElem?,Array.getElem?_eq_getElem h];rfl
theorem zbp (hok:zbO p q x y ops=true):(Wi p q x y ops).length=ops.length/\∀ k,k < ops.length->(Wi p q x y ops)[k]?=(ops[p.getD k 0]?).map (zbU q x (Nat.beq (p.getD k 0) y)):=by
 simp only [zbO,Bool.and_eq_true,List.all_eq_true,List.mem_range] at hok;obtain ⟨⟨⟨⟨⟨h1,h2⟩,h3⟩,h4⟩,h5⟩,h6⟩:=hok;have h1:=Nat.eq_of_beq_eq_true h1;have hs:∀ k∈p,k < ops.length:=fun k hk=>by
  obtain ⟨i,hi⟩:=List.getElem?_of_mem hk;have hlt:=(List.getElem?_eq_some_iff.1 hi).1;have:=(h3 i zwy62).1.2;rw [List.getD_eq_getElem?_getD,hi] at this;exact Nat.le_of_ble_eq_true this
 have key:∀ l:List Nat,(∀ k∈l,k < ops.length)->(l.filterMap fun k=>(ops[k]?).map fun o=>zbU q x (Nat.beq k y) o).length=l.length /\
   ∀ i,i < l.length->(l.filterMap fun k=>(ops[k]?).map fun o=>zbU q x (Nat.beq k y) o)[i]?=(ops[l.getD i 0]?).map (zbU q x (Nat.beq (l.getD i 0) y)):=by
  intro l;induction l with
  | nil=>intro _;exact ⟨rfl,fun i hi=>by simp at hi⟩
  | cons k l ih =>
   intro hl;obtain ⟨i1,i2⟩:=ih fun z hz=>hl z (List.mem_cons_of_mem _ hz)
   have hk:=hl k zwy63;rw [List.filterMap_cons,List.getElem?_eq_getElem hk];simp only [Option.map_some];refine ⟨by simp [i1],fun i hi=>?_⟩;cases i with
   | zero=>simp [List.getElem?_eq_getElem hk]
   | succ i=>simpa using i2 i (by simpa using hi)
 obtain ⟨k1,k2⟩:=key p hs;exact ⟨by rw [Wi,k1,h1],fun k hk=>k2 k zwy62⟩
theorem zhi {b:Bool} {o:Oper} {i:Nat}:qm (zbU q x b o) i=(o.after.toList.any (fun e=>Region.binds .any e&&q.getD e.on e.on==i)||(b&&q.getD x x==i)):=by
 unfold qm zbU;cases b <;> simp [List.any_map,Function.comp_def,Region.binds]
theorem zoM (hok:zbO p q x y ops=true) {listed l':Array Bool} (hs:listed.size=ops.length) (hs':l'.size=ops.length) (hr:∀ k,k < ops.length->l'.getD k true=listed.getD (p.getD k 0) true) :
  (∀ j,j∈Region.ready .any ops.toArray listed->(j=y->listed.getD x true=true)->q.getD j 0∈Region.ready .any (Wi p q x y ops).toArray l')/\(∀ k,k∈Region.ready .any (Wi p q x y ops).toArray l'->p.getD k 0∈Region.ready .any ops.toArray listed):=by
 have hP:=zbp hok;simp only [zbO,Bool.and_eq_true,List.all_eq_true,List.mem_range] at hok;obtain ⟨⟨⟨⟨⟨h1,h2⟩,h3⟩,h4⟩,h5⟩,h6⟩:=hok;have h1:=Nat.eq_of_beq_eq_true h1;have h2:=Nat.eq_of_beq_eq_true h2;have h5:x < ops.length:=Nat.le_of_ble_eq_true h5;have pq:∀ k,k < ops.length->p.getD (q.getD k 0) 0=k:=fun k hk=>Nat.eq_of_beq_eq_true (h3 k hk).1.1.2
 have plt:∀ k,k < ops.length->p.getD k 0 < ops.length:=fun k hk=>Nat.le_of_ble_eq_true (h3 k hk).1.2
 have qlt:∀ k,k < ops.length->q.getD k 0 < ops.length:=fun k hk=>Nat.le_of_ble_eq_true (h3 k hk).2
 have qd:∀ k,k < ops.length->q.getD k k=q.getD k 0:=fun k hk=>by
  rw [List.getD_eq_getElem?_getD,List.getD_eq_getElem?_getD,List.getElem?_eq_getElem zwy62];rfl
 have edge:∀ o∈ops,∀ e∈o.after.toList,e.on < ops.length:=fun o ho e he=>Nat.le_of_ble_eq_true ((h4 o ho).2 e he)
 constructor
 ·intro j hj hy;obtain ⟨o,ho,hun,hall⟩:=qU.1 hj;have hjl:=(List.getElem?_eq_some_iff.1 ho).1;refine qU.2 ⟨zbU q x (Nat.beq j y) o,?_,?_,fun i hi=>?_⟩
  ·rw [hP.2 _ (qlt j hjl),pq j hjl,ho];rfl
  ·rw [hr _ (qlt j hjl),pq j hjl];exact hun
  ·rw [zhi,Bool.or_eq_true] at hi;rcases hi with hi|hi
   ·obtain ⟨e,he,hb⟩:=List.any_eq_true.1 hi;rw [Bool.and_eq_true,beq_iff_eq] at hb;have hlt:=edge o (List.mem_of_getElem? ho) e he;have:=hall e.on (List.any_eq_true.2 ⟨e,he,by simp [hb.1]⟩);rw [<-hb.2,qd _ hlt,zfw (by rw [hs'];exact qlt _ hlt),hr _ (qlt _ hlt),pq _ hlt,<-zfw zwy62];exact this
   ·rw [Bool.and_eq_true,beq_iff_eq] at hi;rw [<-hi.2,qd _ h5,zfw (by rw [hs'];exact qlt _ h5),hr _ (qlt _ h5),pq _ h5];exact hy (Nat.eq_of_beq_eq_true hi.1)
 ·intro k hk;obtain ⟨o',ho',hun,hall⟩:=qU.1 hk;have hkl:k < ops.length:=by rw [<-hP.1];exact (List.getElem?_eq_some_iff.1 ho').1
  rw [hP.2 k hkl] at ho';cases ho:ops[p.getD k 0]? with
  | none =>
   have h1:=plt k hkl;rw [List.getElem?_eq_none_iff] at ho;omega
  | some o =>
   simp only [ho,Option.map_some,Option.some.injEq] at ho';subst ho';refine qU.2 ⟨o,ho,by rw [<-hr k hkl];exact hun,fun i hi=>?_⟩;obtain ⟨e,he,hb⟩:=List.any_eq_true.1 hi;rw [Bool.and_eq_true,beq_iff_eq] at hb;have hlt:=edge o (List.mem_of_getElem? ho) e he;have:=hall (q.getD e.on 0) (by rw [zhi,Bool.or_eq_true];exact .inl (List.any_eq_true.2 ⟨e,he,by rw [Bool.and_eq_true,beq_iff_eq];exact ⟨hb.1,qd _ hlt⟩⟩));rw [zfw (by rw [hs'];exact qlt _ hlt),hr _ (qlt _ hlt),pq _ hlt] at this;rw [<-hb.2,zfw zwy62];exact this
theorem znd (hok:zbO p q x y ops=true):∀ (fuel:Nat) (listed l':Array Bool) (L:List Nat),listed.size=ops.length->l'.size=ops.length->(∀ k,k < ops.length->l'.getD k true=listed.getD (p.getD k 0) true) ->
  Lin ops.toArray fuel listed L->(listed.getD x true=true\/Ahead x y L)->Lin (Wi p q x y ops).toArray fuel l' (L.map fun k=>q.getD k 0)/\∀ a w,wpOpsIn F n P (Wi p q x y ops).toArray Q (L.map fun k=>q.getD k 0) a w->wpOpsIn F n P ops.toArray Q L a w:=by
 have hP:=zbp hok;have hR:=fun {listed l':Array Bool}=>zoM (listed:=listed) (l':=l') hok
 simp only [zbO,Bool.and_eq_true,List.all_eq_true,List.mem_range] at hok;obtain ⟨⟨⟨⟨⟨h1,h2⟩,h3⟩,h4⟩,h5⟩,h6⟩:=hok;have h5:x < ops.length:=Nat.le_of_ble_eq_true h5;have pq:∀ k,k < ops.length->p.getD (q.getD k 0) 0=k:=fun k hk=>Nat.eq_of_beq_eq_true (h3 k hk).1.1.2
 have qp:∀ k,k < ops.length->q.getD (p.getD k 0) 0=k:=fun k hk=>Nat.eq_of_beq_eq_true (h3 k hk).1.1.1
 have qlt:∀ k,k < ops.length->q.getD k 0 < ops.length:=fun k hk=>Nat.le_of_ble_eq_true (h3 k hk).2
 intro fuel;induction fuel with
 | zero =>
  intro listed l' L _ _ _ hL _;have hL:L=[]:=hL;subst hL;exact ⟨rfl,fun a w h=>h⟩
 | succ fuel ih =>
  intro listed l' L hs hs' hr hL hA;cases L with
  | nil =>
   have hL:Region.ready .any ops.toArray listed=[]:=hL;refine ⟨?_,fun a w h=>h⟩;show Region.ready .any (Wi p q x y ops).toArray l'=[]
   rw [List.eq_nil_iff_forall_not_mem];intro k hk;have:=(hR hs hs' hr).2 k hk;rw [hL] at this;cases this
  | cons j L =>
   obtain ⟨hj,hL⟩:=hL;obtain ⟨o,ho,hun,hall⟩:=qU.1 hj;have hjl:=(List.getElem?_eq_some_iff.1 ho).1;have hj':=(hR hs hs' hr).1 j hj (fun e=>by
    rcases hA with hA|hA
    ·exact hA
    ·have:=hA [] L (by rw [e];rfl);simp at this)
   have hgn:o.guard=none:=by have:=(h4 o (List.mem_of_getElem? ho)).1;simpa using this
   obtain ⟨k1,k2⟩:=ih (listed.setIfInBounds j true) (l'.setIfInBounds (q.getD j 0) true) L (by simp [hs]) (by simp [hs']) (fun k hk=>by
    by_cases e:k=q.getD j 0
    ·subst e;rw [ZW (by rw [hs'];exact qlt j hjl),pq j hjl,ZW zwy62]
    ·rw [qA e,qA (fun e2=>e (by rw [<-e2,qp k hk])),hr k hk]) hL (by
    rcases hA with hA|hA
    ·left;by_cases e:x=j
     ·subst e;exact ZW zwy62
     ·rw [qA e];exact hA
    ·by_cases e:x=j
     ·subst e;exact .inl (ZW zwy62)
     ·right;intro A B hAB;have:=hA (j::A) B (by rw [hAB];rfl);rcases List.mem_cons.1 this with h|h
      ·exact absurd h e
      ·exact h)
   refine ⟨⟨hj',k1⟩,fun a w h=>?_⟩;rw [List.map_cons,wpOpsIn_cons] at h;rw [wpOpsIn_cons];unfold wpOpIn at h ⊢;have ho':(Wi p q x y ops).toArray[q.getD j 0]?=some (zbU q x (Nat.beq j y) o):=by
    rw [List.getElem?_toArray,hP.2 _ (qlt j hjl),pq j hjl,ho];rfl
   rw [ho'] at h;rw [List.getElem?_toArray,ho];simp only at h ⊢;have w1:Region.wanted o (yielded ops.toArray a.tmps)=true:=by simp [Region.wanted,hgn]
   have w2:Region.wanted (zbU q x (Nat.beq j y) o) (yielded (Wi p q x y ops).toArray a.tmps)=true:=by
    show Region.wanted { o with after:=_ } _=true
    simp [Region.wanted,hgn]
   rw [if_pos w1];rw [if_pos w2] at h;exact Oper.wpIn_mono k2 h
theorem zqI:∀ (fuel:Nat) (listed:Array Bool) (L:List Nat) (a:Act) (w:World),Lin ops.toArray fuel listed L->wpAnyIn F n P .any ops.toArray Q fuel listed a w->wpOpsIn F n P ops.toArray Q L a w
 | 0,_,L,a,w,hL,h=>by
  have hL:L=[]:=hL;subst hL;exact h.2
 | fuel + 1,listed,[],a,w,hL,h=>h.1 hL
 | fuel + 1,listed,j::L,a,w,hL,h=>by
  rw [wpOpsIn_cons];exact wpOpIn_mono (fun a w hh=>zqI fuel _ L a w hL.2 hh) (h.2 j hL.1)
end
section
variable {P:Program} {n:Nat} {g:Base} {K:KK} {w:World} {ρ:Nat->Value} {H:HEnv} {env:Env} {a:Act} {ops:List Oper} {tb:Tab} {o:Oper}
structure DL (P:Program) (n:Nat) (g:Base) (ops:List Oper) (env:Env) (H:HEnv) (QQ:QC):Prop where
 go:∀ a w,Inv n g env H a w->∀ (r:Option Nat) (d:Nat) (L:List Nat),Lin ops.toArray ops.length (Array.replicate ops.length false) L->wpOpsIn (zbA r) d P ops.toArray (fun e a w=>∃ env' H',Inv n g env' H' a w/\(e=.normal\/∃ ch,e=.panic ch)/\QQ e env' H') L a { w with drawn:=w.drawn + 1 }
theorem zkA {QQ:QC} (hnd:ZB ops=true) (h:DR P n g ops env H QQ):DL P n g ops env H QQ :=
 ⟨fun a w hi r d L hL=>zqI _ _ _ _ _ hL (zaM zjo (by simpa using hnd) _ _ _ _ (by have:=h.go a w hi;simpa using this))⟩
theorem zh9 {QQ:QC} {id:Nat} (hm:P.follows .mixedOrders=true) (h:DL P n g ops env H QQ):AW P n g (.region id ops.toArray true) env H QQ:=by
 refine ⟨fun a w hi r d=>?_⟩
 suffices hh:(Code.region id ops.toArray true).wpIn (zbA r) d P (fun e a w=>∃ env' H',Inv n g env' H' a w/\(e=.normal\/∃ ch,e=.panic ch)/\QQ e env' H') a w from wpIn_mono hh (fun e a' w' ⟨env',H',h1,_,h3⟩=>⟨env',H',h1,h3⟩)
 refine wpIn_region_draw fun t=>?_
 simp only [Region.schedule,hm,Bool.true_or,if_true];have hl:=zwS ops.toArray ops.length t (Array.replicate ops.length false);have e0:ops.toArray.size=ops.length:=by simp
 show wpOpsIn _ _ P ops.toArray _ (Region.linearise.go .any ops.toArray ops.toArray.size t (Array.replicate ops.toArray.size false) []) a _
 rw [e0];exact h.go a w hi r d _ hl
theorem zgw {QQ:QC} (x y:Nat) (p q p2 q2:List Nat) (hne:Nat.beq x y=false) (ok1:zbO p q x y ops=true) (ok2:zbO p2 q2 y x ops=true) (h1:DL P n g (Wi p q x y ops) env H QQ) (h2:DL P n g (Wi p2 q2 y x ops) env H QQ):DL P n g ops env H QQ:=by
 refine ⟨fun a w hi r d L hL=>?_⟩;have key:∀ {p q:List Nat} {x y:Nat},zbO p q x y ops=true->∀ k,k < ops.length->(Array.replicate ops.length false).getD k true=(Array.replicate ops.length false).getD (p.getD k 0) true:=by
  intro p q x y hok k hk;simp only [zbO,Bool.and_eq_true,List.all_eq_true,List.mem_range] at hok;have:p.getD k 0 < ops.length:=Nat.le_of_ble_eq_true (hok.1.1.1.2 k hk).1.2;have r:∀ i,i < ops.length->(Array.replicate ops.length false).getD i true=false:=fun i hi=>by
   rw [Array.getD_eq_getD_getElem?,Array.getElem?_replicate,if_pos hi];rfl
  rw [r k hk,r _ this]
 rcases zow (Nat.ne_of_beq_eq_false hne) L with hA|hA
 ·obtain ⟨k1,k2⟩:=znd (F:=zbA r) (n:=d) (P:=P) (Q:=fun e a w=>∃ env' H',Inv n g env' H' a w/\(e=.normal\/∃ ch,e=.panic ch)/\QQ e env' H') ok1 _ _ _ L zwy63 zwy63 (key ok1) hL (.inr hA);exact k2 _ _ (h1.go a w hi r d _ (by rw [(zbp ok1).1];exact k1))
 ·obtain ⟨k1,k2⟩:=znd (F:=zbA r) (n:=d) (P:=P) (Q:=fun e a w=>∃ env' H',Inv n g env' H' a w/\(e=.normal\/∃ ch,e=.panic ch)/\QQ e env' H') ok2 _ _ _ L zwy63 zwy63 (key ok2) hL (.inr hA);exact k2 _ _ (h2.go a w hi r d _ (by rw [(zbp ok2).1];exact k1))
theorem WA (htb:yZ P tb) {ty e m:Nat} {x y:Operand} {sz:Nat} {z:PV} {mi:Int} {N:HEnv} (i:Nat) (hop:o.op=.makeSlice ty x y) (hk:tb.k ty=.sl e) (hx:env.pv H x=some (.base (.int .i64 mi))) (hy:env.pv H y=some (.base (.int .i64 mi))) (hmi:mi=((m:Nat):Int))
  (hz:(match tb.zero e with|some v=>zgz v|none=>none)=some z) (hzz:(match tb.get e with|some ti=>(match ti.zero with|some zv=>ti.size==sz&&zv.cells.size==sz&&Nat.blt 0 sz|none=>false)|none=>false)=true)
  (hb:(match tb.get e with|some ti=>ti.bytes|none=>0) * m<=281474976710656) (hm:m<=maxLen) (hi:H.get i=none) (hk1:qB N H=true) (hi1:HEnv.get N i=none) :
  EStepN P g H ((i,.mrow e sz (List.replicate m z))::H) N ((i,.mrow e sz (List.replicate m z))::N) o env (.own i) none:=by
 refine ⟨fun K ρ a w hf hv=>.inr ⟨rfl,?_⟩⟩;obtain ⟨v,w',hrun,hev,hf'⟩:=ztf (a:=a) htb i hop hk hx hy hmi hz hzz hb hm hi hf fun z hz av ha=>(hv z hz av ha).keeps (.refl K w) fun j hj=>⟨ZN hk1 j hj,rfl⟩
 refine ⟨v,w',K,_,.inl hrun,hf',hev.later hf.lt,fun j hj=>?_,?_⟩
 ·have hne:j≠i:=by rintro rfl;rw [hi1] at hj;cases hj
  simp [hne]
 ·have:=ARel.own (K:=K) (w:=w') (ρ:=fun j=>if j=i then v else ρ j) (H:=(i,HE.mrow e sz (List.replicate m z))::N) i zwy108;simpa using this
end
end Go.Cg
namespace Go.Cg
section
variable {P:Program} {n:Nat} {g:Base} {H:HEnv} {env:Env} {c:Code} {QQ:QC} {ops:List Oper}
theorem zvg (env2:Env) (H2:HEnv) (hs:Sub env env2) (hH:Qx H H2 env2) (k:AW P n g c env2 H2 QQ):AW P n g c env H QQ :=
 ⟨fun a w hi=>k.go a w ((hi.sub hs).hsub hH)⟩
theorem zrt {id:Nat} (id':Nat) (env2:Env) (H2:HEnv) (_:id=id') (hm:P.follows .mixedOrders=true) (hs:Sub env env2) (hH:Qx H H2 env2) (h:DL P n g ops env2 H2 QQ):AW P n g (.region id ops.toArray true) env H QQ :=
 zvg env2 H2 hs hH (zh9 hm h)
end
end Go.Cg
