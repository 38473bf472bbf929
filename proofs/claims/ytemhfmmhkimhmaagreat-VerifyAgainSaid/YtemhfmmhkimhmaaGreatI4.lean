/- A part of the walks by abstract values: no statement of its own. -/
import Derived.Test.YtemhfmmhkimhmaaGreatI3
set_option linter.unusedVariables false
set_option linter.unusedSimpArgs false
namespace Go.Cg
open Go.RowKit
theorem run_append_own' {P:Program} (w:World) (base:Nat) (t ty e:TypeId) (i:TypeInfo) (z:Value) (size bytes:Nat) (ht:P.underlying t=some (.slice e)) (hi:P.info? e=some i) (hz:i.zero=some z)
  (hsize:i.size=size) (hby:i.bytes=bytes) (hzs:z.cells.size=size)
  (v:Value) (n:Nat) (xs:List Value) (hown:w.ownsRow base e size v n xs)
  (x:Value) (m:Nat) (news:List Value) (hl:news.length=m * size) (hx:(x=.slice none 0 0/\m=0)\/∃ a c,x=.slice (some a) m c/\∀ j u,news[j]?=some u->w.cell? (a.add j)=some u) (h1:∀ u∈news,u.oneCell'=true)
  (h63:n + m<=maxLen) (hbytes:(n + m) * bytes<=140737488355328) (hbase:base<=w.heap.size) :
  ∃ v' w',(Builtin.append_ #[t,t] ty #[v,x]).run P w=.ok v' w'/\w'.ownsRow base e size v' (n + m) (xs++news)/\((w.grownBy w' v.ownBlock/\v'.ownBlock=v.ownBlock)\/(w.grownBy w' none/\∀ b,v'.ownBlock=some b->w.heap.size<=b)):=by
 subst hsize;subst hby;have hsmall:n + m<=9223372036854775807:=by simp only [maxLen] at h63;omega
 have hlen:(xs++news).length=(n + m) * i.size:=by rw [List.length_append,hown.1,hl,Nat.add_mul]
 rcases hx with ⟨rfl,rfl⟩|⟨a,c,rfl,hnews⟩
 ·have hn:news=[]:=List.eq_nil_of_length_eq_zero zwy116;subst hn;refine ⟨v,w,?_,by simpa using hown,.inl ⟨⟨rfl,rfl,rfl,Nat.le_refl _,fun _ _ _=>rfl⟩,rfl⟩⟩;rcases hown.2 with ⟨rfl,rfl⟩|⟨g,cap,cur,rfl,hbg,hg,hnc,hcm,hcs,htake⟩
  ·simp [Builtin.append_,run_underlying ht,sizeOf,typeInfo,hi,Builtin.lenOf,Builtin.firstCells]
  ·simp [Builtin.append_,run_underlying ht,sizeOf,typeInfo,hi,Builtin.lenOf,Builtin.firstCells,hnc,storeCells]
 have grown:∀ (old:Nat),old < n + m->∀ (row:Option Nat),
   (w.drew.alloc (.cells (xs.toArray++news.toArray++Builtin.zeroCells z.cells (grownCap w (n + m) old e - (n + m))) e)).ownsRow base e i.size
    (.slice (some ⟨w.heap.size,0,none⟩) (n + m) (grownCap w (n + m) old e)) (n + m) (xs++news) /\
   w.grownBy (w.drew.alloc (.cells (xs.toArray++news.toArray++Builtin.zeroCells z.cells (grownCap w (n + m) old e - (n + m))) e)) row:=by
  intro old ho row;have hge:=grownCap_ge w (n + m) old e;have hcm:grownCap w (n + m) old e<=maxLen:=grownCap_le_maxLen w (n + m) old e h63;refine ⟨⟨hlen,.inr ⟨w.heap.size,_,_,rfl,hbase,heap_alloc_new w.drew _,hge,hcm,?_,?_⟩⟩,⟨rfl,rfl,rfl,by simp,fun k hk _=>(World.grownBy_alloc w.drew _ none).block k hk zwy63⟩⟩
  ·simp only [Array.size_append,List.size_toArray,size_zeroCells,hzs,hown.1,hl,<-Nat.add_mul];congr 1;omega
  ·simp only [Array.toList_append,List.append_assoc];rw [<-List.append_assoc,<-hlen];exact List.take_left
 rcases hown.2 with ⟨rfl,rfl⟩|⟨g,cap,cur,rfl,hbg,hg,hnc,hcm,hcs,htake⟩
 ·have hx:xs=[]:=List.eq_nil_of_length_eq_zero (by simpa using hown.1);subst hx;by_cases hm:m=0
  ·subst hm;have hn:news=[]:=List.eq_nil_of_length_eq_zero zwy116;subst hn;refine ⟨.slice none 0 0,w,?_,World.ownsRow_nil w base e i.size,.inl ⟨⟨rfl,rfl,rfl,Nat.le_refl _,fun _ _ _=>rfl⟩,rfl⟩⟩;simp [Builtin.append_,run_underlying ht,sizeOf,typeInfo,hi,Builtin.lenOf,Builtin.firstCells,loadCells,loadCellsFrom]
  ·have hr:=run_append_nil (P:=P) w t ty e i z ht hi hz a m c news hl hnews zwy62 zwy62 (by have hb:=hbytes;simp only [Nat.zero_add] at hb;omega);have hgr:=grown 0 zwy62 none;simp only [Nat.zero_add,List.nil_append,Array.empty_append] at hgr ⊢;exact ⟨_,_,hr,hgr.1,.inr ⟨hgr.2,by simp [Value.ownBlock]⟩⟩
 ·by_cases hroom:n + m<=cap
  ·have hfit:n * i.size + news.length<=cur.size:=by rw [hl,hcs,<-Nat.add_mul];exact Nat.mul_le_mul_right _ hroom
   have hr:=run_append_room (P:=P) w t ty e i ht hi g n cap cur hg a m c news hl hnews h1 hroom hfit;refine ⟨_,_,hr,⟨hlen,.inr ⟨g,cap,_,rfl,hbg,setRow_heap w g cur _ e _ hg,hroom,hcm,?_,?_⟩⟩,?_⟩
   rotate_left 2
   ·exact .inl ⟨⟨rfl,rfl,rfl,by simp,fun k _ hk=>setRow_other w g k _ (fun e=>hk (by simp [Value.ownBlock,e]))⟩,rfl⟩
   ·simp only [List.size_toArray,List.length_append,List.length_take,List.length_drop,Array.length_toList];omega
   ·rw [htake,<-hlen];exact List.take_left
  ·have holds:∀ j u,xs[j]?=some u->w.cell? ((⟨g,0,none⟩:Addr).add j)=some u:=hown.cells (g:=g) rfl;have hr:=run_append_grow (P:=P) w t ty e i z ht hi hz ⟨g,0,none⟩ n cap xs hown.1 holds a m c news hl hnews zwy62 zwy62 (growslice_fits zwy62 hbytes);have hgr:=grown cap zwy62 none;exact ⟨_,_,hr,hgr.1,.inr ⟨hgr.2,by simp [Value.ownBlock]⟩⟩
theorem zbt (sz:Nat) (vss:Nat->List Value):∀ (m:Nat),(∀ i,i < m->(vss i).length=sz)->((List.range m).flatMap vss).length=m * sz/\∀ i k,i < m->k < sz->((List.range m).flatMap vss)[i * sz + k]?=(vss i)[k]?
 | 0,_=>⟨by simp,fun i k h=>by omega⟩
 | m + 1,h=>by
  obtain ⟨h1,h2⟩:=zbt sz vss m (fun i hi=>h i zwy62);have hm:=h m zwy62;refine ⟨by rw [List.range_succ,List.flatMap_append,List.length_append,h1];simp [hm,Nat.add_mul],fun i k hi hk=>?_⟩;rw [List.range_succ,List.flatMap_append,List.getElem?_append];by_cases e:i < m
  ·have:i * sz + k < m * sz:=by
    have:=Nat.mul_le_mul_right sz (show i + 1<=m by omega);rw [Nat.add_mul] at this;omega
   rw [if_pos zwy62];exact h2 i k e hk
  ·obtain rfl:i=m:=by omega
   rw [if_neg zwy62,h1];simp
section
variable {P:Program} {tb:Tab} {n:Nat} {g:Base} {K K':KK} {w w':World} {ρ ρ':Nat->Value} {H H':HEnv} {env:Env} {a:Act} {ops:List Oper} {o:Oper} {rest:List Oper} {Q:Env->HEnv->Prop} {QQ:QC} {c:Code}
theorem WV {sz:Nat} {xs:List PV} {full:Bool} {x:Value} (h:PRel K w (.slc sz xs full) x):∃ news,news.length=xs.length * sz /\
  ((x=.slice none 0 0/\xs.length=0)\/∃ (ad:Addr) (c:Nat),x=.slice (some ad) xs.length c/\(∀ j u,news[j]?=some u->w.cell? (ad.add j)=some u)/\(full=true->c=xs.length)/\xs.length<=c)/\(∀ u∈news,u.oneCell'=true) /\
  CellsRel K w sz xs news/\xs.length<=maxLen:=by
 cases h with
 | nil=>exact ⟨[],by simp,.inl ⟨rfl,rfl⟩,by simp,fun i e h=>by simp at h,by simp [maxLen]⟩
 | emp _ _ ad=>exact ⟨[],by simp,.inr ⟨ad,0,rfl,by simp,fun _=>rfl,by simp⟩,by simp,fun i e h=>by simp at h,by simp [maxLen]⟩
 | slc _ _ _ b off cap vss h0 hc hf hm hm' hr hcell =>
  have hlen:∀ i,i < xs.length->(vss i).length=sz:=fun i hi=>(hr i _ (List.getElem?_eq_getElem hi)).2.1
  obtain ⟨e1,e2⟩:=zbt sz vss xs.length hlen;have key:∀ j,j < xs.length * sz->j / sz < xs.length/\j % sz < sz/\j=j / sz * sz + j % sz:=by
   intro j hj;refine ⟨(Nat.div_lt_iff_lt_mul h0).2 hj,Nat.mod_lt _ h0,?_⟩;rw [Nat.mul_comm];exact (Nat.div_add_mod j sz).symm
  have hget:∀ j u,((List.range xs.length).flatMap vss)[j]?=some u->j / sz < xs.length/\(vss (j / sz))[j % sz]?=some u/\j=j / sz * sz + j % sz:=by
   intro j u hu;have hj:j < xs.length * sz:=by rw [<-e1];exact (List.getElem?_eq_some_iff.1 hu).1
   obtain ⟨k1,k2,k3⟩:=key j hj;have:=e2 _ _ k1 k2;rw [<-k3,hu] at this;exact ⟨k1,this.symm,k3⟩
  refine ⟨(List.range xs.length).flatMap vss,e1,.inr ⟨⟨b,off,none⟩,cap,rfl,?_,hf,hc⟩,?_,?_,hm⟩
  ·intro j u hu;obtain ⟨k1,k2,k3⟩:=hget j u hu;have:=((hr _ _ (List.getElem?_eq_getElem k1)).2.2 _ u k2).2.1;rw [Addr.add_lit,k3];rw [<-Nat.add_assoc];exact this
  ·intro u hu;obtain ⟨j,hj⟩:=List.getElem?_of_mem hu;obtain ⟨k1,k2,k3⟩:=hget j u hj;exact ((hr _ _ (List.getElem?_eq_getElem k1)).2.2 _ u k2).2.2
  ·intro i e he;have hi:i < xs.length:=(List.getElem?_eq_some_iff.1 he).1;obtain ⟨r1,r2,r3⟩:=hr i e he;refine ⟨r1,fun k c hkc=>?_⟩;have hk:k < sz:=by rw [<-r1];exact (List.getElem?_eq_some_iff.1 hkc).1
   have hu:=List.getElem?_eq_getElem (show k < (vss i).length by omega);exact ⟨_,(e2 i k hi hk).trans hu,(r3 k _ hu).2.2,hcell i e k c _ he hkc hu⟩
theorem CellsRel.append {sz:Nat} {es xs:List PV} {us news:List Value} (h:CellsRel K w sz es us) (hl:us.length=es.length * sz) (h':CellsRel K w sz xs news):CellsRel K w sz (es++xs) (us++news):=by
 intro i e he;rw [List.getElem?_append] at he;split at he
 ·rename_i hi;obtain ⟨h1,h2⟩:=h i e he;refine ⟨h1,fun k c hc=>?_⟩;obtain ⟨v,e1,e2,e3⟩:=h2 k c hc;exact ⟨v,by rw [List.getElem?_append_left (List.getElem?_eq_some_iff.1 e1).1];exact e1,e2,e3⟩
 ·rename_i hi;obtain ⟨h1,h2⟩:=h' (i - es.length) e he;refine ⟨h1,fun k c hc=>?_⟩;obtain ⟨v,e1,e2,e3⟩:=h2 k c hc;refine ⟨v,?_,e2,e3⟩;have:i * sz + k=us.length + ((i - es.length) * sz + k):=by
   rw [hl,<-Nat.add_assoc,<-Nat.add_mul];congr 2;omega
  rw [this,List.getElem?_append_right zwy62,Nat.add_sub_cancel_left];exact e1
@[reducible] def rowB:Bool->TypeId->Nat->List PV->HE
 | true,e,sz,es=>.mrow e sz es
 | false,e,sz,es=>.row e sz es
theorem zg6 (htb:yZ P tb) {ty e:Nat} {x y:Operand} {i:Nat} (j:Nat) (m:Bool) {f:AV->AV} {R:HEnv} {sz:Nat} {es xs:List PV} {full:Bool}
  (hop:o.op=.call { callee:=.builtin .append,args:=#[x,y],argTypes:=#[ty,ty] }) (hk:tb.k ty=.sl e) (hx:env.val x=some (.own i)) (hi:H.get i=some (rowB m e sz es)) (hy:env.pv H y=some (.slc sz xs full))
  (hzz:(match tb.get e with|some ti=>(match ti.zero with|some z=>ti.size==sz&&z.cells.size==sz|none=>false)|none=>false)=true)
  (hbound:(es.length + xs.length) * (match tb.get e with|some ti=>ti.bytes|none=>0)<=140737488355328) (hb2:es.length + xs.length<=140737488355328)
  (hf:FS g K ρ H w) (hv:∀ z∈o.op.operands,∀ av,env.val z=some av->ARel K w ρ H av (a.eval z))
  (hR:∀ k,k≠j->∀ hh,R.get k=some hh->hh=.dead\/k≠i/\∃ e0,H.get k=some e0/\hh=zwp f e0)
  (htr:∀ {K1:KK} {w':World} {v':Value},Later K K1 w w'->∀ av v,ARel K w ρ H av v->ARel K1 w' (fun k=>if k=j then v' else ρ k) ((j,rowB m e sz (es++xs))::R) (f av) v) :
  ∃ v' w' K',(execOp a.eval o).run P w=.ok (.value v') w'/\Later K K' w w'/\FS g K' (fun k=>if k=j then v' else ρ k) ((j,rowB m e sz (es++xs))::R) w':=by
 have hxr:=hv x zwy70 _ hx;have hyr:=qy (a:=a) hf (x:=y) (hv y zwy70) hy;have hl0:(rowB m e sz es).live=true:=by cases m <;> rfl
 cases hti:tb.get e with
 | none=>simp [hti] at hzz
 | some ti =>
  cases hz:ti.zero with
  | none=>simp [hti,hz] at hzz
  | some z =>
   simp only [hti,hz,Bool.and_eq_true,beq_iff_eq] at hzz hbound;obtain ⟨tin,q1,q2,q3,q4,_⟩:=Ym htb hti;obtain ⟨us,hown,hsz,hcr,hKK'⟩:∃ us,w.ownsRow g.w0.heap.size e sz (ρ i) es.length us/\0 < sz/\CellsRel K w sz es us/\∀ b,(ρ i).ownBlock=some b->∀ o,K b o->m=false/\o < es.length * sz:=by
    cases m
    ·obtain ⟨us,a1,a2,a3,a4⟩:=hf.heap.ok i _ hi;exact ⟨us,a1,a2,a3,fun b hb o h=>⟨rfl,(a4 b hb o).1 h⟩⟩
    ·obtain ⟨us,a1,a2,a3,a4⟩:=hf.heap.ok i _ hi;exact ⟨us,a1,a2,a3,fun b hb o h=>(a4 b hb o h).elim⟩
   generalize hxv:a.eval x=xv at hxr;cases hxr with
   | own _ hi' =>
    obtain ⟨news,n1,n2,n3,n4,n5⟩:=WV hyr;obtain ⟨v',w',r1,r2,r3⟩:=run_append_own' (P:=P) w g.w0.heap.size ty o.type e tin z sz ti.bytes (Zd htb hk) q1 zwy110 zwy62 q3 hzz.2 (ρ i) es.length us hown (a.eval y) xs.length news n1
     (n2.imp (fun h=>⟨h.1,by simpa using h.2⟩) (fun ⟨ad,c,hh,hh2,_⟩=>⟨ad,c,hh,hh2⟩)) n3 zwy111 hbound hf.below.size
    have hrun:(execOp a.eval o).run P w=.ok (.value v') w':=by
     simp [execOp,hop,resolve,invoke,builtin,hxv,r1]
    obtain ⟨row,hgrow,hrow⟩:∃ row,w.grownBy w' row/\((row=(ρ i).ownBlock/\v'.ownBlock=(ρ i).ownBlock)\/(row=none/\∀ b,v'.ownBlock=some b->w.heap.size<=b)):=by
     rcases r3 with ⟨h1,h2⟩|⟨h1,h2⟩
     ·exact ⟨_,h1,.inl ⟨rfl,h2⟩⟩
     ·exact ⟨_,h1,.inr ⟨rfl,h2⟩⟩
    let K1:KK:=fun b o=>K b o\/(m=false/\v'.ownBlock=some b/\o < (es.length + xs.length) * sz)
    have hcellsame:∀ b o,K b o->w'.cell? ⟨b,o,none⟩=w.cell? ⟨b,o,none⟩:=by
     intro b o hbo;by_cases hbb:row=some b
     ·rcases hrow with ⟨e1,e2⟩|⟨e1,_⟩
      ·rw [hbb] at e1;have hlt:=(hKK' b e1.symm o hbo).2;have hu:us[o]?=some (us[o]'(by rw [hown.1];exact hlt)):=List.getElem?_eq_getElem _;have c1:=hown.cells e1.symm o _ hu;have hu':(us++news)[o]?=some (us[o]'(by rw [hown.1];exact hlt)):=by rw [List.getElem?_append_left (by rw [hown.1];exact hlt)];exact hu
       have c2:=r2.cells (g:=b) (by rw [e2];exact e1.symm) o _ hu';rw [Addr.add_lit,Nat.zero_add] at c1 c2;rw [c1,c2]
      ·rw [hbb] at e1;cases e1
     ·exact World.cell?_of_block (hgrow.block b (hf.lt b o hbo) (Ne.symm hbb))
    have hlat:Later K K1 w w':=⟨fun b o h=>.inl h,hcellsame⟩
    have hvlt:=r2.lt;have hrowB:∀ k,row=some k->g.w0.heap.size<=k:=by
     intro k hk;rcases hrow with ⟨e1,_⟩|⟨e1,_⟩
     ·rw [hk] at e1;exact (hown.lt k e1.symm).1
     ·rw [hk] at e1;cases e1
    have htr:=@htr K1 w' v' hlat;have hbo:∀ {v:Value} {nn:Nat} {zs:List Value} {ww:World} {BB:Nat},ww.ownsRow BB e sz v nn zs->∀ b,yE v=some b↔v.ownBlock=some b:=by
     intro v nn zs ww BB h b;rcases h.2 with ⟨rfl,_⟩|⟨_,_,_,rfl,_⟩ <;> simp [yE,Value.ownBlock]
    have hK1:∀ b o,K1 b o->K b o\/row=some b\/w.heap.size<=b:=by
     rintro b o (h|⟨_,h,_⟩)
     ·exact .inl h
     ·rcases hrow with ⟨e1,e2⟩|⟨_,e2⟩
      ·exact .inr (.inl (by rw [e1,<-e2];exact h))
      ·exact .inr (.inr (e2 b h))
    have hnl:(es++xs).length=es.length + xs.length:=List.length_append;have hcellsrow:∀ (j:Nat) (o:Obj),row=some j->w.heap[j]?=some o->o.isCells=true:=by
     intro j o hj ho;rcases hrow with ⟨e1,_⟩|⟨e1,_⟩
     ·rw [hj] at e1;rcases hown.2 with ⟨h,_⟩|⟨b2,cap,cur,h,_,hh,_⟩
      ·rw [h] at e1;simp [Value.ownBlock] at e1
      ·rw [h] at e1;simp only [Value.ownBlock,Option.some.injEq] at e1;subst e1;rw [hh] at ho;cases ho;rfl
     ·rw [hj] at e1;cases e1
    have old:∀ (k:Nat) (hh:HE),k≠j->HEnv.get ((j,rowB m e sz (es++xs))::R) k=some hh->hh.live=true->k≠i/\∃ e0,H.get k=some e0/\e0.live=true:=by
     intro k hh hne hk hl;rw [HEnv.get_cons,if_neg (Ne.symm hne)] at hk;rcases hR k hne hh hk with rfl|⟨h1,e0,h2,rfl⟩
     ·cases hl
     ·exact ⟨h1,e0,h2,by cases e0 <;> first|rfl|exact hl⟩
    have apt:∀ (k:Nat) (hh:HE) (bb:Nat),k≠i->H.get k=some hh->hh.live=true->v'.ownBlock=some bb->yE (ρ k)=some bb->False:=by
     intro k hh bb hne hk hl hv hb;rcases hrow with ⟨_,e2⟩|⟨_,e2⟩
     ·exact hf.heap.apart i k _ hh bb (Ne.symm hne) hi hk hl0 hl ((hbo hown bb).2 (by rw [<-e2];exact hv)) hb
     ·have:=e2 bb hv;have:=((hf.heap.ok k hh hk).block_lt hl hb).2;omega
    refine ⟨v',w',K1,hrun,hlat,⟨hf.below.grown hgrow hf.below.size hrowB,fun b o h=>.inl (hf.old b o h),?_,?_,hf.others.trans (KeepsOthers.of_grownBy hgrow hcellsrow),hf.pt.grown hf.old hgrow hlat (fun b hb=>?_) hK1,?_,?_,?_⟩⟩
    ·rintro b o (h|⟨_,h,_⟩)
     ·exact hf.new b o h
     ·exact .inr (hvlt b h).1
    ·rintro b o (h|⟨_,h,_⟩)
     ·exact Nat.lt_of_lt_of_le (hf.lt b o h) hgrow.size
     ·exact (hvlt b h).2
    ·rcases hrow with ⟨e1,_⟩|⟨e1,_⟩
     ·rw [hb] at e1;exact hf.away i _ b hi hl0 ((hbo hown b).2 e1.symm)
     ·rw [hb] at e1;cases e1
    ·intro k hh b hk hl hb;by_cases hkj:k=j
     ·subst hkj;simp only [if_true] at hb;have hv:=(hbo r2 b).1 hb;rcases hrow with ⟨_,e2⟩|⟨_,e2⟩
      ·exact hf.away i _ b hi hl0 ((hbo hown b).2 (by rw [<-e2];exact hv))
      ·exact hf.pt.lt (e2 b hv)
     ·obtain ⟨_,e0,h2,h3⟩:=old k hh hkj hk hl;simp only [hkj,if_false] at hb;exact hf.away k e0 b h2 h3 hb
    ·intro k hh hk;by_cases hkj:k=j
     ·subst hkj;rw [HEnv.get_cons,if_pos rfl,Option.some.injEq] at hk;subst hk;simp only [if_true];have hcc:CellsRel K1 w' sz (es++xs) (us++news):=by
       intro k c hc;obtain ⟨t1,t2⟩:=hcr.append hown.1 n4 k c hc;exact ⟨t1,fun k' c' hc'=>let ⟨v,t3,t4,t5⟩:=t2 k' c' hc';⟨v,t3,t4,t5.later hlat⟩⟩
      have hno:∀ b,v'.ownBlock=some b->∀ o,K b o->m=false/\o < es.length * sz:=by
       intro b hb o h;rcases hrow with ⟨e1,e2⟩|⟨_,e2⟩
       ·exact hKK' b (by rw [<-e2];exact hb) o h
       ·have:=e2 b hb;have:=hf.lt b o h;omega
      cases m
      ·refine ⟨us++news,by rw [hnl];exact r2,hsz,hcc,fun b hb o=>⟨?_,fun h=>.inr ⟨rfl,hb,by rwa [hnl] at h⟩⟩⟩;rw [hnl];rintro (h|⟨_,_,h⟩)
       ·have:=(hno b hb o h).2;have:=Nat.mul_le_mul_right sz (show es.length<=es.length + xs.length by omega);omega
       ·exact h
      ·refine ⟨us++news,by rw [hnl];exact r2,hsz,hcc,fun b hb o=>?_⟩;rintro (h|⟨h,_⟩)
       ·cases (hno b hb o h).1
       ·cases h
     ·simp only [hkj,if_false];rw [HEnv.get_cons,if_neg (Ne.symm hkj)] at hk;rcases hR k hkj hh hk with rfl|⟨h1,e0,h2,rfl⟩
      ·trivial
      ·by_cases hlive:e0.live=true
       ·exact (hf.heap.ok k e0 h2).grown hgrow hlat hK1 htr hlive (fun b hb hb'=>by
         rcases hrow with ⟨e1,_⟩|⟨e1,_⟩
         ·rw [hb'] at e1;exact hf.heap.apart i k _ e0 b (Ne.symm h1) hi h2 hl0 hlive ((hbo hown b).2 e1.symm) hb
         ·rw [hb'] at e1;cases e1)
       ·cases e0 <;> simp [HE.live] at hlive
        ·trivial
        ·exact htr _ _ (hf.heap.ok k _ h2)
    ·intro p q hp hq bb hpq hkp hkq hlp hlq hbp hbq;by_cases hpj:p=j
     ·subst hpj;have hqp:q≠p:=Ne.symm hpq;obtain ⟨h1,e1,h2,h3⟩:=old q hq hqp hkq hlq;simp only [if_true] at hbp;simp only [hqp,if_false] at hbq;exact apt q e1 bb h1 h2 h3 ((hbo r2 bb).1 hbp) hbq
     ·obtain ⟨h1,e1,h2,h3⟩:=old p hp hpj hkp hlp;simp only [hpj,if_false] at hbp;by_cases hqj:q=j
      ·subst hqj;simp only [if_true] at hbq;exact apt p e1 bb h1 h2 h3 ((hbo r2 bb).1 hbq) hbp
      ·obtain ⟨_,e2,h4,h5⟩:=old q hq hqj hkq hlq;simp only [hqj,if_false] at hbq;exact hf.heap.apart p q e1 e2 bb hpq h2 h4 h3 h5 hbp hbq
theorem zh8 (m:Bool) (htb:yZ P tb) {ty e:Nat} {x y:Operand} {i:Nat} {sz:Nat} {es xs:List PV} {full:Bool} {t:Nat} (hg:guardE ops env o=some true)
  (hop:o.op=.call { callee:=.builtin .append,args:=#[x,y],argTypes:=#[ty,ty] }) (hk:tb.k ty=.sl e) (hx:env.val x=some (.own i)) (hi:H.get i=some (rowB m e sz es)) (hy:env.pv H y=some (.slc sz xs full))
  (hzz:(match tb.get e with|some ti=>(match ti.zero with|some z=>ti.size==sz&&z.cells.size==sz|none=>false)|none=>false)=true)
  (hbound:(es.length + xs.length) * (match tb.get e with|some ti=>ti.bytes|none=>0)<=140737488355328) (hb2:es.length + xs.length<=140737488355328) (hd:o.dst=some t) (ht:Nat.blt t n=true)
  (h:AO P n g ops.toArray rest ((t,.own i)::zdP i env) ((i,rowB m e sz (es++xs))::zb5 i H) Q):AO P n g ops.toArray (o::rest) env H Q:=by
 refine ⟨fun a w hinv=>?_⟩;have hw:=qx hinv hg;obtain ⟨h1,h2,K,ρ,hf,he⟩:=hinv;refine wpList_step fun Kc hKc=>?_
 rw [if_pos hw];have hnp:∀ b,ρ i=.pointer (some ⟨b,0,none⟩)->False:=fun b hb=>by
  cases m <;> (obtain ⟨us,hown,_⟩:=hf.heap.ok i _ hi;rcases hown.2 with ⟨e1,_⟩|⟨_,_,_,e1,_⟩ <;> rw [e1] at hb <;> cases hb)
 have tr:∀ {K1:KK} {w':World} {v':Value},Later K K1 w w'->∀ av v,ARel K w ρ H av v->ARel K1 w' (fun k=>if k=i then v' else ρ k) ((i,rowB m e sz (es++xs))::zb5 i H) (kill i av) v:=fun hl av v h =>
  h.kill hl i (fun j hne hj=>⟨by
   rw [HEnv.get_cons,if_neg (Ne.symm hne),zci];cases hH:H.get j <;> simp [hH] at hj ⊢,by simp [hne]⟩) hnp (row_one hf i (by cases m <;> simp [isVal,hi]))
 have hvv:∀ z∈o.op.operands,∀ av,env.val z=some av->ARel K w ρ H av (a.eval z):=fun z _ av hh=>qO he hh
 obtain ⟨v',w',K1,hrun,hlat,hf'⟩:=zg6 (a:=a) (f:=kill i) (R:=zb5 i H) htb i m hop hk hx hi hy hzz hbound hb2 hf hvv (fun k hne hh hk=>by
  rw [zci] at hk;cases hH:H.get k with
  | none=>simp [hH] at hk
  | some e0=>exact .inr ⟨hne,e0,rfl,by simp only [hH,Option.map_some,Option.some.injEq] at hk;subst hk;cases e0 <;> rfl⟩) tr
 unfold Oper.wp;rw [hrun];simp only [Oper.upon];refine hKc _ _ (h.go _ _ ⟨Zy h1,put_defers h2,K1,_,hf',?_⟩);rw [hd];refine Yg h1 ht ?_ ?_
 ·intro t' av hg';rw [zgL] at hg';cases hE:env.get t' with
  | none=>simp [hE] at hg'
  | some av0 =>
   simp only [hE,Option.map_some,Option.some.injEq] at hg';subst hg';obtain ⟨v,v1,v2⟩:=he t' av0 hE;exact ⟨v,v1,tr hlat _ _ v2⟩
 ·have:=ARel.own (K:=K1) (w:=w') (ρ:=fun j=>if j=i then v' else ρ j) (H:=(i,rowB m e sz (es++xs))::zb5 i H) i zwy81;simpa using this
theorem yV (htb:yZ P tb) {ty e:Nat} {x y:Operand} {i:Nat} {sz:Nat} {es xs:List PV} {full:Bool} {t:Nat} (hg:guardE ops env o=some true)
  (hop:o.op=.call { callee:=.builtin .append,args:=#[x,y],argTypes:=#[ty,ty] }) (hk:tb.k ty=.sl e) (hx:env.val x=some (.own i)) (hi:H.get i=some (.row e sz es)) (hy:env.pv H y=some (.slc sz xs full))
  (hzz:(match tb.get e with|some ti=>(match ti.zero with|some z=>ti.size==sz&&z.cells.size==sz|none=>false)|none=>false)=true)
  (hbound:(es.length + xs.length) * (match tb.get e with|some ti=>ti.bytes|none=>0)<=140737488355328) (hb2:es.length + xs.length<=140737488355328) (hd:o.dst=some t) (ht:Nat.blt t n=true)
  (h:AO P n g ops.toArray rest ((t,.own i)::zdP i env) ((i,.row e sz (es++xs))::zb5 i H) Q):AO P n g ops.toArray (o::rest) env H Q:=zh8 false htb hg hop hk hx hi hy hzz hbound hb2 hd ht h
end
end Go.Cg
