/- A part of the walks by abstract values: no statement of its own. -/
import Derived.Test.YtemhfmmhkimhmaaGreatV3
import Derived.KernelRfl
set_option linter.unusedVariables false
set_option linter.unusedSimpArgs false
namespace Go.Cg
open Go.RowKit
theorem run_append_own' {P:Program} (w:World) (base:Nat) (t ty e:TypeId) (i:TypeInfo) (z:Value) (size bytes:Nat) (ht:P.underlying t=some (.slice e)) (hi:P.info? e=some i) (hz:i.zero=some z)
  (hsize:i.size=size) (hby:i.bytes=bytes) (hzs:z.cells.size=size)
  (v:Value) (n:Nat) (xs:List Value) (hown:w.ownsRow base e size v n xs)
  (x:Value) (m:Nat) (news:List Value) (hl:news.length=m * size) (hx:(x=.slice none 0 0/\m=0)\/∃ a c,x=.slice (some a) m c/\∀ j u,news[j]?=some u->w.cell? (a.add j)=some u) (h1:∀ u∈news,u.oneCell'=true)
  (h63:n + m<=maxLen) (hbytes:(n + m) * bytes<=140737488355328) (hbase:base<=w.heap.size) :
  ∃ v' w',(Builtin.append_ #[t,t] ty #[v,x]).run P w=.ok v' w'/\w'.ownsRow base e size v' (n + m) (xs++news)/\((w.grownBy w' v.ownBlock/\v'.ownBlock=v.ownBlock)\/(w.grownBy w' none/\∀ b,v'.ownBlock=some b->w.heap.size<=b)):=by
 subst hsize;subst hby;have hsmall:n + m<=9223372036854775807:=by simp only [maxLen] at h63;omega
 have hlen:(xs++news).length=(n + m) * i.size:=by rw [List.length_append,hown.1,hl,Nat.add_mul]
 rcases hx with ⟨rfl,rfl⟩|⟨a,c,rfl,hnews⟩
 ·have hn:news=[]:=List.eq_nil_of_length_eq_zero zwy116;subst hn;refine ⟨v,w,?_,by simpa using hown,.inl ⟨⟨rfl,rfl,rfl,Nat.le_refl _,fun _ _ _=>rfl⟩,rfl⟩⟩;rcases hown.2 with ⟨rfl,rfl⟩|⟨g,cap,cur,rfl,hbg,hg,hnc,hcm,hcs,htake⟩
  ·simp [Builtin.append_,run_underlying ht,sizeOf,typeInfo,hi,Builtin.lenOf,Builtin.firstCells]
  ·simp [Builtin.append_,run_underlying ht,sizeOf,typeInfo,hi,Builtin.lenOf,Builtin.firstCells,hnc,storeCells]
 have grown:∀ (old:Nat),old < n + m->∀ (row:Option Nat),
   (w.drew.alloc (.cells (xs.toArray++news.toArray++Builtin.zeroCells z.cells (grownCap w (n + m) old e - (n + m))) e)).ownsRow base e i.size
    (.slice (some ⟨w.heap.size,0,none⟩) (n + m) (grownCap w (n + m) old e)) (n + m) (xs++news) /\
   w.grownBy (w.drew.alloc (.cells (xs.toArray++news.toArray++Builtin.zeroCells z.cells (grownCap w (n + m) old e - (n + m))) e)) row:=by
  intro old ho row;have hge:=grownCap_ge w (n + m) old e;have hcm:grownCap w (n + m) old e<=maxLen:=grownCap_le_maxLen w (n + m) old e h63;refine ⟨⟨hlen,.inr ⟨w.heap.size,_,_,rfl,hbase,heap_alloc_new w.drew _,hge,hcm,?_,?_⟩⟩,⟨rfl,rfl,rfl,by simp,fun k hk _=>(World.grownBy_alloc w.drew _ none).block k hk zwy63⟩⟩
  ·simp only [Array.size_append,List.size_toArray,size_zeroCells,hzs,hown.1,hl,<-Nat.add_mul];congr 1;omega
  ·simp only [Array.toList_append,List.append_assoc];rw [<-List.append_assoc,<-hlen];exact List.take_left
 rcases hown.2 with ⟨rfl,rfl⟩|⟨g,cap,cur,rfl,hbg,hg,hnc,hcm,hcs,htake⟩
 ·have hx:xs=[]:=List.eq_nil_of_length_eq_zero (by simpa using hown.1);subst hx;by_cases hm:m=0
  ·subst hm;have hn:news=[]:=List.eq_nil_of_length_eq_zero zwy116;subst hn;refine ⟨.slice none 0 0,w,?_,World.ownsRow_nil w base e i.size,.inl ⟨⟨rfl,rfl,rfl,Nat.le_refl _,fun _ _ _=>rfl⟩,rfl⟩⟩;simp [Builtin.append_,run_underlying ht,sizeOf,typeInfo,hi,Builtin.lenOf,Builtin.firstCells,loadCells,loadCellsFrom]
  ·have hr:=run_append_nil (P:=P) w t ty e i z ht hi hz a m c news hl hnews zwy62 zwy62 (by have hb:=hbytes;simp only [Nat.zero_add] at hb;omega);have hgr:=grown 0 zwy62 none;simp only [Nat.zero_add,List.nil_append,Array.empty_append] at hgr ⊢;exact ⟨_,_,hr,hgr.1,.inr ⟨hgr.2,by simp [Value.ownBlock]⟩⟩
 ·by_cases hroom:n + m<=cap
  ·have hfit:n * i.size + news.length<=cur.size:=by rw [hl,hcs,<-Nat.add_mul];exact Nat.mul_le_mul_right _ hroom
   have hr:=run_append_room (P:=P) w t ty e i ht hi g n cap cur hg a m c news hl hnews h1 hroom hfit;refine ⟨_,_,hr,⟨hlen,.inr ⟨g,cap,_,rfl,hbg,setRow_heap w g cur _ e _ hg,hroom,hcm,?_,?_⟩⟩,?_⟩
   rotate_left 2
   ·exact .inl ⟨⟨rfl,rfl,rfl,by simp,fun k _ hk=>setRow_other w g k _ (fun e=>hk (by simp [Value.ownBlock,e]))⟩,rfl⟩
   ·simp only [List.size_toArray,List.length_append,List.length_take,List.length_drop,Array.length_toList];omega
   ·rw [htake,<-hlen];exact List.take_left
  ·have holds:∀ j u,xs[j]?=some u->w.cell? ((⟨g,0,none⟩:Addr).add j)=some u:=hown.cells (g:=g) rfl;have hr:=run_append_grow (P:=P) w t ty e i z ht hi hz ⟨g,0,none⟩ n cap xs hown.1 holds a m c news hl hnews zwy62 zwy62 (growslice_fits zwy62 hbytes);have hgr:=grown cap zwy62 none;exact ⟨_,_,hr,hgr.1,.inr ⟨hgr.2,by simp [Value.ownBlock]⟩⟩
theorem zbv (sz:Nat) (vss:Nat->List Value):∀ (m:Nat),(∀ i,i < m->(vss i).length=sz)->((List.range m).flatMap vss).length=m * sz/\∀ i k,i < m->k < sz->((List.range m).flatMap vss)[i * sz + k]?=(vss i)[k]?
 | 0,_=>⟨by simp,fun i k h=>by omega⟩
 | m + 1,h=>by
  obtain ⟨h1,h2⟩:=zbv sz vss m (fun i hi=>h i zwy62);have hm:=h m zwy62;refine ⟨by rw [List.range_succ,List.flatMap_append,List.length_append,h1];simp [hm,Nat.add_mul],fun i k hi hk=>?_⟩;rw [List.range_succ,List.flatMap_append,List.getElem?_append];by_cases e:i < m
  ·have:i * sz + k < m * sz:=by
    have:=Nat.mul_le_mul_right sz (show i + 1<=m by omega);rw [Nat.add_mul] at this;omega
   rw [if_pos zwy62];exact h2 i k e hk
  ·obtain rfl:i=m:=by omega
   rw [if_neg zwy62,h1];simp
section
variable {P:Program} {tb:Tab} {n:Nat} {g:Base} {K K':KK} {w w':World} {ρ ρ':Nat->Value} {H H':HEnv} {env:Env} {a:Act} {ops:List Oper} {o:Oper} {rest:List Oper} {Q:Env->HEnv->Prop} {QQ:QC} {c:Code}
theorem VT {sz:Nat} {xs:List PV} {full:Bool} {x:Value} (h:PRel K w (.slc sz xs full) x):∃ news,news.length=xs.length * sz /\
  ((x=.slice none 0 0/\xs.length=0)\/∃ (ad:Addr) (c:Nat),x=.slice (some ad) xs.length c/\(∀ j u,news[j]?=some u->w.cell? (ad.add j)=some u)/\(full=true->c=xs.length)/\xs.length<=c)/\(∀ u∈news,u.oneCell'=true) /\
  CellsRel K w sz xs news/\xs.length<=maxLen:=by
 cases h with
 | nil=>exact ⟨[],by simp,.inl ⟨rfl,rfl⟩,by simp,fun i e h=>by simp at h,by simp [maxLen]⟩
 | emp _ _ ad=>exact ⟨[],by simp,.inr ⟨ad,0,rfl,by simp,fun _=>rfl,by simp⟩,by simp,fun i e h=>by simp at h,by simp [maxLen]⟩
 | slc _ _ _ b off cap vss h0 hc hf hm hm' hr hcell =>
  have hlen:∀ i,i < xs.length->(vss i).length=sz:=fun i hi=>(hr i _ (List.getElem?_eq_getElem hi)).2.1
  obtain ⟨e1,e2⟩:=zbv sz vss xs.length hlen;have key:∀ j,j < xs.length * sz->j / sz < xs.length/\j % sz < sz/\j=j / sz * sz + j % sz:=by
   intro j hj;refine ⟨(Nat.div_lt_iff_lt_mul h0).2 hj,Nat.mod_lt _ h0,?_⟩;rw [Nat.mul_comm];exact (Nat.div_add_mod j sz).symm
  have hget:∀ j u,((List.range xs.length).flatMap vss)[j]?=some u->j / sz < xs.length/\(vss (j / sz))[j % sz]?=some u/\j=j / sz * sz + j % sz:=by
   intro j u hu;have hj:j < xs.length * sz:=by rw [<-e1];exact (List.getElem?_eq_some_iff.1 hu).1
   obtain ⟨k1,k2,k3⟩:=key j hj;have:=e2 _ _ k1 k2;rw [<-k3,hu] at this;exact ⟨k1,this.symm,k3⟩
  refine ⟨(List.range xs.length).flatMap vss,e1,.inr ⟨⟨b,off,none⟩,cap,rfl,?_,hf,hc⟩,?_,?_,hm⟩
  ·intro j u hu;obtain ⟨k1,k2,k3⟩:=hget j u hu;have:=((hr _ _ (List.getElem?_eq_getElem k1)).2.2 _ u k2).2.1;rw [Addr.add_lit,k3];rw [<-Nat.add_assoc];exact this
  ·intro u hu;obtain ⟨j,hj⟩:=List.getElem?_of_mem hu;obtain ⟨k1,k2,k3⟩:=hget j u hj;exact ((hr _ _ (List.getElem?_eq_getElem k1)).2.2 _ u k2).2.2
  ·intro i e he;have hi:i < xs.length:=(List.getElem?_eq_some_iff.1 he).1;obtain ⟨r1,r2,r3⟩:=hr i e he;refine ⟨r1,fun k c hkc=>?_⟩;have hk:k < sz:=by rw [<-r1];exact (List.getElem?_eq_some_iff.1 hkc).1
   have hu:=List.getElem?_eq_getElem (show k < (vss i).length by omega);exact ⟨_,(e2 i k hi hk).trans hu,(r3 k _ hu).2.2,hcell i e k c _ he hkc hu⟩
theorem CellsRel.append {sz:Nat} {es xs:List PV} {us news:List Value} (h:CellsRel K w sz es us) (hl:us.length=es.length * sz) (h':CellsRel K w sz xs news):CellsRel K w sz (es++xs) (us++news):=by
 intro i e he;rw [List.getElem?_append] at he;split at he
 ·rename_i hi;obtain ⟨h1,h2⟩:=h i e he;refine ⟨h1,fun k c hc=>?_⟩;obtain ⟨v,e1,e2,e3⟩:=h2 k c hc;exact ⟨v,by rw [List.getElem?_append_left (List.getElem?_eq_some_iff.1 e1).1];exact e1,e2,e3⟩
 ·rename_i hi;obtain ⟨h1,h2⟩:=h' (i - es.length) e he;refine ⟨h1,fun k c hc=>?_⟩;obtain ⟨v,e1,e2,e3⟩:=h2 k c hc;refine ⟨v,?_,e2,e3⟩;have:i * sz + k=us.length + ((i - es.length) * sz + k):=by
   rw [hl,<-Nat.add_assoc,<-Nat.add_mul];congr 2;omega
  rw [this,List.getElem?_append_right zwy62,Nat.add_sub_cancel_left];exact e1
theorem yV (htb:qm P tb) {ty e:Nat} {x y:Operand} {i:Nat} {sz:Nat} {es xs:List PV} {full:Bool} {t:Nat} (hg:guardE ops env o=some true)
  (hop:o.op=.call { callee:=.builtin .append,args:=#[x,y],argTypes:=#[ty,ty] }) (hk:tb.k ty=.sl e) (hx:env.val x=some (.own i)) (hi:H.get i=some (.row e sz es)) (hy:env.pv H y=some (.slc sz xs full))
  (hzz:(match tb.get e with|some ti=>(match ti.zero with|some z=>ti.size==sz&&z.cells.size==sz|none=>false)|none=>false)=true)
  (hbound:(es.length + xs.length) * (match tb.get e with|some ti=>ti.bytes|none=>0)<=140737488355328) (hb2:es.length + xs.length<=140737488355328) (hd:o.dst=some t) (ht:Nat.blt t n=true)
  (h:AO P n g ops.toArray rest ((t,.own i)::zeR i env) ((i,.row e sz (es++xs))::WI i H) Q):AO P n g ops.toArray (o::rest) env H Q:=by
 refine ⟨fun a w hinv=>?_⟩;have hw:=qw hinv hg;obtain ⟨h1,h2,K,ρ,hf,he⟩:=hinv;refine wpList_step fun Kc hKc=>?_
 rw [if_pos hw];cases hti:tb.get e with
 | none=>simp [hti] at hzz
 | some ti =>
  cases hz:ti.zero with
  | none=>simp [hti,hz] at hzz
  | some z =>
   simp only [hti,hz,Bool.and_eq_true,beq_iff_eq] at hzz hbound;obtain ⟨tin,q1,q2,q3,q4,_⟩:=Yi htb hti;have hxr:=qI he hx;have hyr:=qA (a:=a) hf (x:=y) (fun av hh=>qI he hh) hy;obtain ⟨us,hown,hsz,hcr,hKK'⟩:=hf.heap.ok i _ hi;generalize hxv:a.eval x=xv at hxr;cases hxr with
   | own _ hi' =>
    obtain ⟨news,n1,n2,n3,n4,n5⟩:=VT hyr;obtain ⟨v',w',r1,r2,r3⟩:=run_append_own' (P:=P) w g.w0.heap.size ty o.type e tin z sz ti.bytes (Zd htb hk) q1 zwy122 zwy62 q3 hzz.2 (ρ i) es.length us hown (a.eval y) xs.length news n1
     (n2.imp (fun h=>⟨h.1,by simpa using h.2⟩) (fun ⟨ad,c,hh,hh2,_⟩=>⟨ad,c,hh,hh2⟩)) n3 zwy110 hbound hf.below.size
    have hrun:(execOp a.eval o).run P w=.ok (.value v') w':=by
     simp [execOp,hop,resolve,invoke,builtin,hxv,r1]
    unfold Oper.wp;rw [hrun];simp only [Oper.upon];obtain ⟨row,hgrow,hrow⟩:∃ row,w.grownBy w' row/\((row=(ρ i).ownBlock/\v'.ownBlock=(ρ i).ownBlock)\/(row=none/\∀ b,v'.ownBlock=some b->w.heap.size<=b)):=by
     rcases r3 with ⟨h1,h2⟩|⟨h1,h2⟩
     ·exact ⟨_,h1,.inl ⟨rfl,h2⟩⟩
     ·exact ⟨_,h1,.inr ⟨rfl,h2⟩⟩
    let K1:KK:=fun b o=>K b o\/(v'.ownBlock=some b/\o < (es.length + xs.length) * sz)
    have hcellsame:∀ b o,K b o->w'.cell? ⟨b,o,none⟩=w.cell? ⟨b,o,none⟩:=by
     intro b o hbo;by_cases hbb:row=some b
     ·rcases hrow with ⟨e1,e2⟩|⟨e1,_⟩
      ·rw [hbb] at e1;have hlt:=(hKK' b e1.symm o).1 hbo;have hu:us[o]?=some (us[o]'(by rw [hown.1];exact hlt)):=List.getElem?_eq_getElem _;have c1:=hown.cells e1.symm o _ hu;have hu':(us++news)[o]?=some (us[o]'(by rw [hown.1];exact hlt)):=by rw [List.getElem?_append_left (by rw [hown.1];exact hlt)];exact hu
       have c2:=r2.cells (g:=b) (by rw [e2];exact e1.symm) o _ hu';rw [Addr.add_lit,Nat.zero_add] at c1 c2;rw [c1,c2]
      ·rw [hbb] at e1;cases e1
     ·exact World.cell?_of_block (hgrow.block b (hf.lt b o hbo) (Ne.symm hbb))
    have hlat:Later K K1 w w':=⟨fun b o h=>.inl h,hcellsame⟩
    have hvlt:=r2.lt;have hrowB:∀ k,row=some k->g.w0.heap.size<=k:=by
     intro k hk;rcases hrow with ⟨e1,_⟩|⟨e1,_⟩
     ·rw [hk] at e1;exact (hown.lt k e1.symm).1
     ·rw [hk] at e1;cases e1
    have hnp:∀ b,ρ i=.pointer (some ⟨b,0,none⟩)->False:=by
     intro b hb;rcases hown.2 with ⟨e1,_⟩|⟨_,_,_,e1,_⟩ <;> rw [e1] at hb <;> cases hb
    have hkill_isSome:∀ j,((WI i H).get j).isSome=(H.get j).isSome:=by intro j;rw [Qm];cases H.get j <;> rfl
    have hkeep:∀ j,j≠i->(H.get j).isSome=true->(HEnv.get ((i,.row e sz (es++xs))::WI i H) j).isSome=true/\(fun j=>if j=i then v' else ρ j) j=ρ j:=by
     intro j hne hj;refine ⟨?_,by simp [hne]⟩;simp only [HEnv.get_nil,HEnv.get_cons];rw [if_neg (Ne.symm hne),hkill_isSome];exact hj
    have htr:∀ av v,ARel K w ρ H av v->ARel K1 w' (fun j=>if j=i then v' else ρ j) ((i,.row e sz (es++xs))::WI i H) (kill i av) v:=fun av v h=>h.kill hlat i hkeep hnp (row_one hf i (by simp [isVal,hi]))
    have hbo:∀ {v:Value} {nn:Nat} {zs:List Value} {ww:World} {BB:Nat},ww.ownsRow BB e sz v nn zs->∀ b,yj v=some b↔v.ownBlock=some b:=by
     intro v nn zs ww BB h b;rcases h.2 with ⟨rfl,_⟩|⟨_,_,_,rfl,_⟩ <;> simp [yj,Value.ownBlock]
    have hK1:∀ b o,K1 b o->K b o\/row=some b\/w.heap.size<=b:=by
     rintro b o (h|⟨h,_⟩)
     ·exact .inl h
     ·rcases hrow with ⟨e1,e2⟩|⟨_,e2⟩
      ·exact .inr (.inl (by rw [e1,<-e2];exact h))
      ·exact .inr (.inr (e2 b h))
    have hnl:(es++xs).length=es.length + xs.length:=List.length_append;have hcellsrow:∀ (j:Nat) (o:Obj),row=some j->w.heap[j]?=some o->o.isCells=true:=by
     intro j o hj ho;rcases hrow with ⟨e1,_⟩|⟨e1,_⟩
     ·rw [hj] at e1;rcases hown.2 with ⟨h,_⟩|⟨b2,cap,cur,h,_,hh,_⟩
      ·rw [h] at e1;simp [Value.ownBlock] at e1
      ·rw [h] at e1;simp only [Value.ownBlock,Option.some.injEq] at e1;subst e1;rw [hh] at ho;cases ho;rfl
     ·rw [hj] at e1;cases e1
    refine hKc _ _ (h.go _ _ ⟨Zm h1,put_defers h2,K1,fun j=>if j=i then v' else ρ j,⟨hf.below.grown hgrow hf.below.size hrowB,fun b o h=>.inl (hf.old b o h),?_,?_,hf.others.trans (KeepsOthers.of_grownBy hgrow hcellsrow),hf.pt.grown hf.old hgrow hlat (fun b hb=>?_) hK1,?_,?_,?_⟩,?_⟩)
    ·rintro b o (h|⟨h,_⟩)
     ·exact hf.new b o h
     ·exact .inr (hvlt b h).1
    ·rintro b o (h|⟨h,_⟩)
     ·exact Nat.lt_of_lt_of_le (hf.lt b o h) hgrow.size
     ·exact (hvlt b h).2
    ·rcases hrow with ⟨e1,_⟩|⟨e1,_⟩
     ·rw [hb] at e1;exact hf.away i _ b hi rfl ((hbo hown b).2 e1.symm)
     ·rw [hb] at e1;cases e1
    ·intro j hh b hj hl hb;rw [HEnv.get_cons] at hj;split at hj
     ·rename_i e';subst e';simp only [if_true] at hb;have hv:=(hbo r2 b).1 hb;rcases hrow with ⟨_,e2⟩|⟨_,e2⟩
      ·exact hf.away i _ b hi rfl ((hbo hown b).2 (by rw [<-e2];exact hv))
      ·exact hf.pt.lt (e2 b hv)
     ·rename_i hne;simp only [Ne.symm hne,if_false] at hb;rw [Qm] at hj;cases hH:H.get j with
      | none=>simp [hH] at hj
      | some e0 =>
       simp only [hH,Option.map_some,Option.some.injEq] at hj;subst hj;exact hf.away j e0 b hH (by cases e0 <;> first|rfl|exact hl) hb
    ·intro j hh hj;simp only [HEnv.get_nil,HEnv.get_cons] at hj;split at hj
     ·rename_i e';subst e';simp only [Option.some.injEq] at hj;subst hj;simp only [if_true];refine ⟨us++news,by rw [hnl];exact r2,hsz,?_,?_⟩
      ·have:=hcr.append hown.1 n4;intro k c hc;obtain ⟨t1,t2⟩:=this k c hc;exact ⟨t1,fun k' c' hc'=>let ⟨v,t3,t4,t5⟩:=t2 k' c' hc';⟨v,t3,t4,t5.later hlat⟩⟩
      ·intro b hb o;rw [hnl];refine ⟨?_,fun h=>.inr ⟨hb,h⟩⟩;rintro (h|⟨_,h⟩)
       ·rcases hrow with ⟨e1,e2⟩|⟨_,e2⟩
        ·have:=(hKK' b (by rw [<-e2];exact hb) o).1 h;have:=Nat.mul_le_mul_right sz (show es.length<=es.length + xs.length by omega);omega
        ·have:=e2 b hb;have:=hf.lt b o h;omega
       ·exact h
     ·rename_i hne;rw [Qm] at hj;cases hH:H.get j with
      | none=>simp [hH] at hj
      | some e0 =>
       simp only [hH,Option.map_some,Option.some.injEq] at hj;subst hj;simp only [Ne.symm hne,if_false];by_cases hlive:e0.live=true
       ·have:=(hf.heap.ok j e0 hH).grown (f:=kill i) hgrow hlat hK1 htr hlive (fun b hb hb'=>by
         rcases hrow with ⟨e1,_⟩|⟨e1,_⟩
         ·rw [hb'] at e1;exact hf.heap.apart i j _ e0 b hne hi hH rfl hlive ((hbo hown b).2 e1.symm) hb
         ·rw [hb'] at e1;cases e1)
        cases e0 <;> exact this
       ·cases e0 <;> simp [HE.live] at hlive
        ·trivial
        ·exact htr _ _ (hf.heap.ok j _ hH)
    ·have e1:∀ (j:Nat) (hh:HE),j≠i->HEnv.get ((i,.row e sz (es++xs))::WI i H) j=some hh->hh.live=true->∃ h0,H.get j=some h0/\h0.live=true:=by
      intro j hh hne hj hl;simp only [HEnv.get_nil,HEnv.get_cons] at hj;rw [if_neg (Ne.symm hne),Qm] at hj;cases hH:H.get j with
      | none=>simp [hH] at hj
      | some e0 =>
       simp only [hH,Option.map_some,Option.some.injEq] at hj;subst hj;refine ⟨e0,rfl,?_⟩;cases e0 <;> first|rfl|exact hl
     have e2:∀ (k:Nat) (hh:HE) (bb:Nat),k≠i->H.get k=some hh->hh.live=true->v'.ownBlock=some bb->yj (ρ k)=some bb->False:=by
      intro k hh bb hne hk hl hv hb;rcases hrow with ⟨_,e2⟩|⟨_,e2⟩
      ·exact hf.heap.apart i k _ hh bb (Ne.symm hne) hi hk rfl hl ((hbo hown bb).2 (by rw [<-e2];exact hv)) hb
      ·have:=e2 bb hv;have:=((hf.heap.ok k hh hk).block_lt hl hb).2;omega
     intro j k hh hh' bb hjk hj hk' hlj hlk hbj hbk;by_cases hji:j=i
     ·subst hji;have hki:k≠j:=Ne.symm hjk;obtain ⟨h0,a1,a2⟩:=e1 k hh' hki hk' hlk;simp only [if_true] at hbj;simp only [hki,if_false] at hbk;exact e2 k h0 bb hki a1 a2 ((hbo r2 bb).1 hbj) hbk
     ·obtain ⟨h0,a1,a2⟩:=e1 j hh hji hj hlj;simp only [hji,if_false] at hbj;by_cases hki:k=i
      ·subst hki;simp only [if_true] at hbk;exact e2 j h0 bb hji a1 a2 ((hbo r2 bb).1 hbk) hbj
      ·obtain ⟨h0',b1,b2⟩:=e1 k hh' hki hk' hlk;simp only [hki,if_false] at hbk;exact hf.heap.apart j k h0 h0' bb hjk a1 b1 a2 b2 hbj hbk
    ·rw [hd];refine Ye h1 ht ?_ ?_
     ·intro t' av hg';rw [zdk] at hg';cases hE:env.get t' with
      | none=>simp [hE] at hg'
      | some av0 =>
       simp only [hE,Option.map_some,Option.some.injEq] at hg';subst hg';obtain ⟨v,v1,v2⟩:=he t' av0 hE;exact ⟨v,v1,htr _ _ v2⟩
     ·have:=ARel.own (K:=K1) (w:=w') (ρ:=fun j=>if j=i then v' else ρ j) (H:=(i,HE.row e sz (es++xs))::WI i H) i zwy82;simpa using this
end
def zf9:List Operand->List Nat
 | []=>[]
 | .tmp t::xs=>t::zf9 xs
 | _::xs=>zf9 xs
def readsOf (ops:List Oper) (o:Oper):List Nat:=zf9 o.op.operands.toList++(Qq ops o).toList
def qc (o:Oper) (i:Nat):Bool:=o.after.toList.any fun e=>Region.binds .any e&&e.on==i
def Qo (ops l:List Oper):Bool :=
 l.zipIdx.all fun x=>x.1.after.toList.all (fun e=>!Region.binds .any e||decide (e.on < x.2)) &&
  (match x.1.op with|.select _ _=>false|_=>true) &&
  l.zipIdx.all fun y =>
   match y.1.dst with
    | none=>true
    | some t=>(y.2==x.2||x.1.dst != some t)&&(!(readsOf ops x.1).contains t||(decide (y.2 < x.2)&&qc x.1 y.2)||(decide (x.2 < y.2)&&qc y.1 x.2))
def Wp (ops:List Oper) (k:Nat):Bool:=(ops.zipIdx.drop k).all fun x=>(List.range x.2).all (fun i=>qc x.1 i)&&x.1.after.toList.all (fun e=>!Region.binds .any e||decide (e.on < x.2))
inductive AD (P:Program) (n:Nat) (g:Base) (H:HEnv) (ops:List Oper) (Q:Env->Prop):List Oper->Env->Prop where
 | nil (env:Env):Q env->AD P n g H ops Q [] env
 | step (o:Oper) (rest:List Oper) (env:Env) (r:AV) (t:Nat):guardE ops env o=some true->QStep P g H o env r->o.dst=some t->Nat.blt t n=true->AD P n g H ops Q rest ((t,r)::env)->AD P n g H ops Q (o::rest) env
 | skip (o:Oper) (rest:List Oper) (env:Env) (t:Nat):guardE ops env o=some false->o.dst=some t->Nat.blt t n=true->AD P n g H ops Q rest ((t,.pv (.tup []))::env)->AD P n g H ops Q (o::rest) env
 | case (l:List Oper) (env:Env) (t:Nat) (b:Bool):env.get t=some (.pv (.base (.bool b)))->(b=true->AD P n g H ops Q l ((t,.pv (.base (.bool true)))::env))->(b=false->AD P n g H ops Q l ((t,.pv (.base (.bool false)))::env))->AD P n g H ops Q l env
theorem zq {P:Program} {n:Nat} {g:Base} {H:HEnv} {ops:List Oper} {Q:Env->Prop} {o:Oper} {rest:List Oper} {env:Env} {r:AV} {t:Nat} (h1:guardE ops env o=some true) (h2:QStep P g H o env r) (h3:o.dst=some t) (h4:Nat.blt t n=true) (h:AD P n g H ops Q rest ((t,r)::env)):AD P n g H ops Q (o::rest) env:=.step o rest env r t h1 h2 h3 h4 h
structure Script (P:Program) (n:Nat) (g:Base) (H:HEnv) (ops:List Oper) (l:List Oper) (env:Env) (Q:Env->Prop) where
 r:List AV
 e:List Env
 last:Env
 lenr:r.length=l.length
 lene:e.length=l.length
 ok:∀ (j:Nat) (o:Oper) (rj:AV) (ej:Env),l[j]?=some o->r[j]?=some rj->e[j]?=some ej->∃ t,o.dst=some t/\t < n /\
  ((guardE ops ej o=some true/\QStep P g H o ej rj)\/(guardE ops ej o=some false/\rj=.pv (.tup [])))
 src:∀ (j:Nat) (ej:Env),(e++[last])[j]?=some ej->∀ (t:Nat) (av:AV),ej.get t=some av->(∃ i o ri,i < j/\l[i]?=some o/\o.dst=some t/\r[i]?=some ri/\Tells ri av/\(∀ i' o',i < i'->i' < j->l[i']?=some o'->o'.dst≠some t)) \/
  ((∀ i o,i < j->l[i]?=some o->o.dst≠some t)/\∃ av0,env.get t=some av0/\Tells av0 av)
 fin:Q last
section
variable {P:Program} {n:Nat} {g:Base} {K:KK} {w:World} {ρ:Nat->Value} {H:HEnv} {env:Env} {a:Act} {ops l:List Oper} {Q:Env->Prop}
theorem zgv {l:List Oper} (h:AD P n g H ops Q l env):Nonempty (Script P n g H ops l env Q):=by
 induction h with
 | nil env hq =>
  refine ⟨⟨[],[],env,rfl,rfl,by simp,?_,hq⟩⟩;intro j ej hj t av hav;cases j with
  | zero=>simp at hj;subst hj;exact .inr ⟨by simp,av,hav,.refl _⟩
  | succ j=>simp at hj
 | step o rest env r t hg hq hd ht _ ih =>
  obtain ⟨s⟩:=ih;refine ⟨⟨r::s.r,env::s.e,s.last,by simp [s.lenr],by simp [s.lene],?_,?_,s.fin⟩⟩
  ·intro j o' rj ej ho hr he;cases j with
   | zero=>simp at ho hr he;subst ho hr he;exact ⟨t,hd,Nat.le_of_ble_eq_true ht,.inl ⟨hg,hq⟩⟩
   | succ j=>simp at ho hr he;exact s.ok j o' rj ej ho hr he
  ·intro j ej hj t' av hav;cases j with
   | zero=>simp at hj;subst hj;exact .inr ⟨by simp,av,hav,.refl _⟩
   | succ j =>
    have hj':(s.e++[s.last])[j]?=some ej:=by simpa using hj
    rcases s.src j ej hj' t' av hav with ⟨i,o',ri,h1,h2,h3,h4,h5,h6⟩|⟨h1,av0,h2,h3⟩
    ·refine .inl ⟨i + 1,o',ri,by omega,by simpa using h2,h3,by simpa using h4,h5,fun i' o'' hi hi' ho=>?_⟩;cases i' with
     | zero=>omega
     | succ i'=>exact h6 i' o'' zwy62 zwy62 zwy79
    ·simp only [Env.get_nil,Env.get_cons] at h2;split at h2
     ·rename_i e;subst e;simp only [Option.some.injEq] at h2;subst h2;refine .inl ⟨0,o,r,by omega,rfl,hd,rfl,h3,fun i' o'' hi hi' ho=>?_⟩;cases i' with
      | zero=>omega
      | succ i'=>exact h1 i' o'' zwy62 zwy79
     ·rename_i hne;refine .inr ⟨fun i o' hi ho=>?_,av0,h2,h3⟩;cases i with
      | zero=>simp at ho;subst ho;rw [hd];simpa using hne
      | succ i=>exact h1 i o' zwy62 zwy79
 | skip o rest env t hg hd ht _ ih =>
  obtain ⟨s⟩:=ih;refine ⟨⟨.pv (.tup [])::s.r,env::s.e,s.last,by simp [s.lenr],by simp [s.lene],?_,?_,s.fin⟩⟩
  ·intro j o' rj ej ho hr he;cases j with
   | zero=>simp at ho hr he;subst ho hr he;exact ⟨t,hd,Nat.le_of_ble_eq_true ht,.inr ⟨hg,rfl⟩⟩
   | succ j=>simp at ho hr he;exact s.ok j o' rj ej ho hr he
  ·intro j ej hj t' av hav;cases j with
   | zero=>simp at hj;subst hj;exact .inr ⟨by simp,av,hav,.refl _⟩
   | succ j =>
    have hj':(s.e++[s.last])[j]?=some ej:=by simpa using hj
    rcases s.src j ej hj' t' av hav with ⟨i,o',ri,h1,h2,h3,h4,h5,h6⟩|⟨h1,av0,h2,h3⟩
    ·refine .inl ⟨i + 1,o',ri,by omega,by simpa using h2,h3,by simpa using h4,h5,fun i' o'' hi hi' ho=>?_⟩;cases i' with
     | zero=>omega
     | succ i'=>exact h6 i' o'' zwy62 zwy62 zwy79
    ·simp only [Env.get_nil,Env.get_cons] at h2;split at h2
     ·rename_i e;subst e;simp only [Option.some.injEq] at h2;subst h2;refine   .inl ⟨0,o,.pv (.tup []),by omega,rfl,hd,rfl,h3,fun i' o'' hi hi' ho=>?_⟩;cases i' with
      | zero=>omega
      | succ i'=>exact h1 i' o'' zwy62 zwy79
     ·rename_i hne;refine .inr ⟨fun i o' hi ho=>?_,av0,h2,h3⟩;cases i with
      | zero=>simp at ho;subst ho;rw [hd];simpa using hne
      | succ i=>exact h1 i o' zwy62 zwy79
 | case l env t b hb h1 h2 ih1 ih2 =>
  have key:∀ c,b=c->Nonempty (Script P n g H ops l ((t,.pv (.base (.bool c)))::env) Q)->Nonempty (Script P n g H ops l env Q):=by
   rintro c rfl ⟨s⟩;refine ⟨⟨s.r,s.e,s.last,s.lenr,s.lene,s.ok,?_,s.fin⟩⟩;intro j ej hj t' av hav;rcases s.src j ej hj t' av hav with h|⟨h1,av0,h2,h3⟩
   ·exact .inl h
   ·refine .inr ⟨h1,?_⟩;simp only [Env.get_nil,Env.get_cons] at h2;split at h2
    ·rename_i e;subst e;simp only [Option.some.injEq] at h2;subst h2;exact ⟨_,hb,h3⟩
    ·exact ⟨av0,h2,h3⟩
  cases hb':b
  ·exact key false hb' (ih2 hb')
  ·exact key true hb' (ih1 hb')
theorem Xe {l:List Oper} {o:Oper} {j:Nat} (h:l[j]?=some o):(o,j)∈l.zipIdx:=by
 rw [List.mem_zipIdx_iff_getElem?];exact h
theorem Vf {t:Nat}:∀ {xs:List Operand},.tmp t∈xs->t∈zf9 xs
 | .tmp t'::xs,h=>by
  rcases List.mem_cons.1 h with h|h
  ·cases h;simp [zf9]
  ·simp [zf9,Vf h]
 | .const _::xs,h=>Vf (xs:=xs) ((List.mem_cons.1 h).resolve_left (fun h=>by cases h))
 | .global _::xs,h=>Vf (xs:=xs) ((List.mem_cons.1 h).resolve_left (fun h=>by cases h))
 | .func _::xs,h=>Vf (xs:=xs) ((List.mem_cons.1 h).resolve_left (fun h=>by cases h))
structure Mid (P:Program) (n:Nat) (g:Base) (H:HEnv) (ops l:List Oper) (env:Env) (Q:Env->Prop) (s:Script P n g H ops l env Q) (listed:Array Bool) (a:Act) (w:World):Prop where
 size:a.tmps.size=n
 defers:a.defers=g.ds
 lsize:listed.size=ops.length
 llen:l.length<=ops.length
 notail:∀ j,l.length<=j->j < ops.length->listed.getD j true=false
 closed:∀ (i:Nat) (o:Oper),l[i]?=some o->listed.getD i true=true->∀ j,qc o j=true->listed.getD j false=true
 st:∃ K ρ,FS g K ρ H w /\
  (∀ (i:Nat) (o:Oper) (ri:AV) (t:Nat),l[i]?=some o->listed.getD i true=true->s.r[i]?=some ri->o.dst=some t->∃ v,a.tmps[t]?=some v/\ARel K w ρ H ri v) /\
  (∀ (t:Nat) (av:AV),env.get t=some av->(∀ (i:Nat) (o:Oper),l[i]?=some o->listed.getD i true=true->o.dst≠some t)->∃ v,a.tmps[t]?=some v/\ARel K w ρ H av v)
theorem zaP (hB:Qo ops l=true) {j:Nat} {o:Oper} (ho:l[j]?=some o):(∀ i,qc o i=true->i < j) /\
  (∀ i o' t,l[i]?=some o'->o'.dst=some t->i≠j->o.dst≠some t) /\
  (∀ i o' t,l[i]?=some o'->o'.dst=some t->t∈readsOf ops o->(i < j/\qc o i=true)\/(j < i/\qc o' j=true)):=by
 have h:=List.all_eq_true.1 hB (o,j) (Xe ho);simp only [Bool.and_eq_true] at h;obtain ⟨⟨h2,_⟩,h3⟩:=h;refine ⟨fun i hi=>?_,fun i o' t hi hd hne=>?_,fun i o' t hi hd ht=>?_⟩
 ·unfold qc at hi;obtain ⟨e,he,heq⟩:=List.any_eq_true.1 hi;simp only [Bool.and_eq_true,beq_iff_eq] at heq;have:=List.all_eq_true.1 h2 e he;simp only [heq.1,Bool.not_true,Bool.false_or,decide_eq_true_eq] at this;omega
 ·have:=List.all_eq_true.1 h3 (o',i) (Xe hi);simp only [hd,Bool.and_eq_true,Bool.or_eq_true,beq_iff_eq,bne_iff_ne] at this;exact this.1.resolve_left hne
 ·have:=List.all_eq_true.1 h3 (o',i) (Xe hi);simp only [hd,Bool.and_eq_true] at this;have h4:=this.2;simp only [Bool.or_eq_true,Bool.and_eq_true,Bool.not_eq_true',decide_eq_true_eq] at h4;rcases h4 with (h4|h4)|h4
  ·have hc:(readsOf ops o).contains t=true:=List.contains_iff_mem.2 ht;rw [hc] at h4;cases h4
  ·exact .inl h4
  ·exact .inr h4
theorem yO {l:Array Bool} {i j:Nat} {d x:Bool} (h:j≠i):(l.setIfInBounds i x).getD j d=l.getD j d:=by
 simp only [Array.getD_eq_getD_getElem?,Array.getElem?_setIfInBounds_ne (Ne.symm h)]
theorem Zh {l:Array Bool} {i:Nat} {d x:Bool} (h:i < l.size):(l.setIfInBounds i x).getD i d=x:=by
 simp [Array.getD_eq_getD_getElem?,Array.getElem?_setIfInBounds_self_of_lt h]
theorem Mid.next {s:Script P n g H ops l env Q} {listed:Array Bool} (hB:Qo ops l=true) (hm:Mid P n g H ops l env Q s listed a w) {j:Nat} {o:Oper} {rj:AV} {t:Nat} (ho:l[j]?=some o) (hr:s.r[j]?=some rj) (hd:o.dst=some t) (ht:t < n)
  (hun:listed.getD j true=false) (hready:∀ i,qc o i=true->listed.getD i false=true) {K':KK} {w':World} {v:Value}
  (hst:∀ K ρ,FS g K ρ H w->True) {K0:KK} {ρ0:Nat->Value} (hf:FS g K0 ρ0 H w)
  (hl:∀ (i:Nat) (o:Oper) (ri:AV) (t:Nat),l[i]?=some o->listed.getD i true=true->s.r[i]?=some ri->o.dst=some t->∃ v,a.tmps[t]?=some v/\ARel K0 w ρ0 H ri v)
  (he:∀ (t:Nat) (av:AV),env.get t=some av->(∀ (i:Nat) (o:Oper),l[i]?=some o->listed.getD i true=true->o.dst≠some t)->∃ v,a.tmps[t]?=some v/\ARel K0 w ρ0 H av v)
  (hev:Evo K0 K' w w') (hv:ARel K' w' ρ0 H rj v):Mid P n g H ops l env Q s (listed.setIfInBounds j true) (a.put o.dst v) w':=by
 have hlat:=hev.later hf.lt;have hjlt:j < listed.size:=by rw [hm.lsize];exact Nat.lt_of_lt_of_le (List.getElem?_eq_some_iff.1 ho).1 hm.llen
 obtain ⟨_,hdst,_⟩:=zaP hB ho;refine ⟨Zm hm.size,put_defers hm.defers,by simp [hm.lsize],hm.llen,fun k h1 h2=>by rw [yO (by have:=(List.getElem?_eq_some_iff.1 ho).1;omega)];exact hm.notail k h1 h2,?_,K',ρ0,hf.evo hev,?_,?_⟩
 ·intro i o' ho' hli k hk;by_cases hij:i=j
  ·subst hij;rw [ho] at ho';cases ho';have:=hready k hk;by_cases hkj:k=i
   ·subst hkj;exact Zh hjlt
   ·rw [yO hkj];exact this
  ·rw [yO hij] at hli;have:=hm.closed i o' ho' hli k hk;by_cases hkj:k=j
   ·subst hkj;exact Zh hjlt
   ·rw [yO hkj];exact this
 ·intro i o' ri t' ho' hli hri hd';rw [hd];by_cases hij:i=j
  ·subst hij;rw [ho] at ho';cases ho';rw [hr] at hri;cases hri;rw [hd] at hd';cases hd';exact ⟨v,by simp only [Act.put];rw [Array.getElem?_setIfInBounds_self_of_lt (by rw [hm.size];exact ht)],hv⟩
  ·rw [yO hij] at hli;obtain ⟨u,h1,h2⟩:=hl i o' ri t' ho' hli hri hd';have hne:t≠t':=by
    rintro rfl;exact hdst i o' t ho' hd' hij hd
   exact ⟨u,by simp only [Act.put];rw [Array.getElem?_setIfInBounds_ne hne];exact h1,h2.later hlat⟩
 ·intro t' av hav hno;rw [hd];have hne:t≠t':=by
   rintro rfl;exact hno j o ho (Zh hjlt) hd
  obtain ⟨u,h1,h2⟩:=he t' av hav (fun i o' ho' hli hd'=>by
   by_cases hij:i=j
   ·subst hij;rw [hun] at hli;cases hli
   ·exact hno i o' ho' (by rw [yO hij];exact hli) hd')
  exact ⟨u,by simp only [Act.put];rw [Array.getElem?_setIfInBounds_ne hne];exact h1,h2.later hlat⟩
theorem Mid.reads {s:Script P n g H ops l env Q} {listed:Array Bool} (hB:Qo ops l=true) (hm:Mid P n g H ops l env Q s listed a w) {j:Nat} {o:Oper} {ej:Env} (ho:l[j]?=some o) (hej:s.e[j]?=some ej)
  (hun:listed.getD j true=false) (hready:∀ i,qc o i=true->listed.getD i false=true) {K0:KK} {ρ0:Nat->Value}
  (hl:∀ (i:Nat) (o:Oper) (ri:AV) (t:Nat),l[i]?=some o->listed.getD i true=true->s.r[i]?=some ri->o.dst=some t->∃ v,a.tmps[t]?=some v/\ARel K0 w ρ0 H ri v)
  (he:∀ (t:Nat) (av:AV),env.get t=some av->(∀ (i:Nat) (o:Oper),l[i]?=some o->listed.getD i true=true->o.dst≠some t)->∃ v,a.tmps[t]?=some v/\ARel K0 w ρ0 H av v) :
  ∀ t∈readsOf ops o,∀ av,ej.get t=some av->∃ v,a.tmps[t]?=some v/\ARel K0 w ρ0 H av v:=by
 intro t ht av hav;obtain ⟨_,_,hrd⟩:=zaP hB ho;have hlf:∀ i,listed.getD i false=true->listed.getD i true=true:=by
  intro i hi;rw [Array.getD_eq_getD_getElem?] at hi ⊢;cases h:listed[i]? with
  | none=>rfl
  | some b=>rw [h] at hi;exact hi
 have hjl:listed.getD j false=false:=by
  cases hb:listed.getD j false
  ·rfl
  ·rw [hlf j hb] at hun;cases hun
 have hsrc:=s.src j ej (by rw [List.getElem?_append_left (List.getElem?_eq_some_iff.1 hej).1];exact hej) t av hav;rcases hsrc with ⟨i,o',ri,h1,h2,h3,h4,h5,_⟩|⟨h1,av0,h2,h3⟩
 ·rcases hrd i o' t h2 h3 ht with ⟨_,hedge⟩|⟨hlt,_⟩
  ·obtain ⟨v,v1,v2⟩:=hl i o' ri t h2 (hlf i (hready i hedge)) h4 h3;exact ⟨v,v1,h5 _ _ _ _ _ v2⟩
  ·omega
 ·obtain ⟨v,v1,v2⟩:=he t av0 h2 (fun i o' ho' hli hd'=>by
   rcases hrd i o' t ho' hd' ht with ⟨hlt,_⟩|⟨hlt,hedge⟩
   ·exact h1 i o' hlt ho' hd'
   ·have:=hm.closed i o' ho' hli j hedge;rw [hjl] at this;cases this)
  exact ⟨v,v1,h3 _ _ _ _ _ v2⟩
theorem qH {listed:Array Bool} {j:Nat}:j∈Region.ready .any ops.toArray listed↔∃ o,ops[j]?=some o/\listed.getD j true=false/\∀ i,qc o i=true->listed.getD i false=true:=by
 simp only [Region.ready,List.mem_filter,List.mem_range,List.size_toArray,Bool.and_eq_true,Bool.not_eq_true',List.getElem?_toArray];constructor
 ·rintro ⟨hlt,hun,hall⟩;refine ⟨ops[j],List.getElem?_eq_getElem hlt,hun,fun i hi=>?_⟩;rw [List.getElem?_eq_getElem hlt] at hall;simp only [Option.map_some,Option.getD_some] at hall;unfold qc at hi;obtain ⟨e,he,heq⟩:=List.any_eq_true.1 hi;simp only [Bool.and_eq_true,beq_iff_eq] at heq;obtain ⟨k,hk⟩:=List.getElem?_of_mem he;have:=Array.all_eq_true.1 hall k (by have:=(List.getElem?_eq_some_iff.1 hk).1;simpa using this);have hek:(ops[j]).after[k]'(by have:=(List.getElem?_eq_some_iff.1 hk).1;simpa using this)=e:=by
   have:=(List.getElem?_eq_some_iff.1 hk).2;simpa using this
  rw [hek] at this;simp only [heq.1,Bool.not_true,Bool.false_or] at this;rw [<-heq.2];exact this
 ·rintro ⟨o,ho,hun,hall⟩;refine ⟨(List.getElem?_eq_some_iff.1 ho).1,hun,?_⟩;rw [ho];simp only [Option.map_some,Option.getD_some];rw [Array.all_eq_true];intro k hk;by_cases hb:Region.binds .any o.after[k]=true
  ·have:=hall o.after[k].on (by
    unfold qc;exact List.any_eq_true.2 ⟨o.after[k],by simp,by simp [hb]⟩)
   simp [this]
  ·simp [hb]
theorem zcE {R:Exit->Act->World->Prop} {k:Nat} (hT:Wp ops k=true):∀ (fuel m:Nat) (listed:Array Bool) (a:Act) (w:World),k<=m->m + fuel=ops.length->listed.size=ops.length->(∀ i,i < ops.length->listed.getD i true=decide (i < m)) ->
  wpList P ops.toArray R (ops.drop m) a w->wpAny P .any ops.toArray R fuel listed a w:=by
 have hlf:∀ (listed:Array Bool),listed.size=ops.length->∀ i,i < ops.length->listed.getD i false=listed.getD i true:=by
  intro listed hs i hi;rw [Array.getD_eq_getD_getElem?,Array.getD_eq_getD_getElem?,Array.getElem?_eq_getElem zwy62];rfl
 intro fuel;induction fuel with
 | zero =>
  intro m listed a w hk hm hs hl h;have:ops.drop m=[]:=List.drop_eq_nil_of_le zwy62;rw [this] at h;refine ⟨?_,h⟩;rw [List.eq_nil_iff_forall_not_mem];intro j hj;obtain ⟨o,ho,hun,_⟩:=qH.1 hj;have hlt:=(List.getElem?_eq_some_iff.1 ho).1;rw [hl j hlt] at hun;simp at hun;omega
 | succ fuel ih =>
  intro m listed a w hk hm hs hl h;have hmlt:m < ops.length:=by omega
  have hom:ops[m]?=some ops[m]:=List.getElem?_eq_getElem hmlt;have hdrop:ops.drop m=ops[m]::ops.drop (m + 1):=(List.drop_eq_getElem_cons hmlt)
  have hall':∀ j o,ops[j]?=some o->k<=j->(∀ i,i < j->qc o i=true)/\∀ i,qc o i=true->i < j:=by
   intro j o ho hkj;have hmem:(o,j)∈ops.zipIdx.drop k:=by
    rw [List.mem_drop_iff_getElem];have hlt:=(List.getElem?_eq_some_iff.1 ho).1;refine ⟨j - k,by simp;omega,?_⟩;simp only [List.getElem_zipIdx,Nat.zero_add];have:k + (j - k)=j:=by omega
    simp only [this];rw [(List.getElem?_eq_some_iff.1 ho).2]
   have h1:=List.all_eq_true.1 hT (o,j) hmem;simp only [Bool.and_eq_true] at h1;refine ⟨fun i hi=>List.all_eq_true.1 h1.1 i (List.mem_range.2 hi),fun i hi=>?_⟩;unfold qc at hi;obtain ⟨e,he,heq⟩:=List.any_eq_true.1 hi;simp only [Bool.and_eq_true,beq_iff_eq] at heq;have:=List.all_eq_true.1 h1.2 e he;simp only [heq.1,Bool.not_true,Bool.false_or,decide_eq_true_eq] at this;omega
  have hall:∀ j o,ops[j]?=some o->k<=j->∀ i,i < j->qc o i=true:=fun j o ho hkj=>(hall' j o ho hkj).1
  have honly:∀ j,j∈Region.ready .any ops.toArray listed->j=m:=by
   intro j hj;obtain ⟨o,ho,hun,hedge⟩:=qH.1 hj;have hlt:=(List.getElem?_eq_some_iff.1 ho).1;rw [hl j hlt] at hun;simp at hun;by_cases e:j=m
   ·exact e
   ·have:=hedge m (hall j o ho zwy62 m zwy62);rw [hlf listed hs m hmlt,hl m hmlt] at this;simp at this
  refine ⟨fun h0=>?_,fun j hj=>?_⟩
  ·have hedge:∀ i,qc ops[m] i=true->listed.getD i false=true:=fun i hi=>by
    have:=(hall' m _ hom hk).2 i hi;rw [hlf listed hs i zwy62,hl i zwy62];simp [this]
   ·have:m∈Region.ready .any ops.toArray listed:=qH.2 ⟨ops[m],hom,by rw [hl m hmlt];simp,hedge⟩;rw [h0] at this;cases this
  ·obtain rfl:=honly j hj;unfold wpOp;simp only [List.getElem?_toArray,hom];rw [hdrop] at h;unfold wpList at h;have hnext:∀ a w,wpList P ops.toArray R (ops.drop (j + 1)) a w->wpAny P .any ops.toArray R fuel (listed.setIfInBounds j true) a w:=fun a w h=>ih (j + 1) _ a w zwy62 zwy62 (by simp [hs]) (fun i hi=>by
    by_cases e:i=j
    ·subst e;rw [Zh zwy62];simp
    ·rw [yO e,hl i hi];simp only [decide_eq_decide];omega) h
   split at h
   ·rename_i hw;rw [if_pos hw];exact h.imp (fun h=>Oper.wp_mono hnext h) id
   ·rename_i hw;rw [if_neg hw];exact hnext _ _ h
theorem zan {R:Exit->Act->World->Prop} (hl0:l=ops.take l.length) (s:Script P n g H ops l env Q) (hB:Qo ops l=true) (hT:Wp ops l.length=true)
  (hq:∀ env' a w,Q env'->Inv n g env' H a w->wpList P ops.toArray R (ops.drop l.length) a w):∀ (fuel:Nat) (listed:Array Bool) (a:Act) (w:World),(listed.toList.filter (! ·)).length=fuel->Mid P n g H ops l env Q s listed a w ->
  wpAny P .any ops.toArray R fuel listed a w:=by
 have hget:∀ j,j < l.length->l[j]?=ops[j]?:=by
  intro j hj;have:=congrArg (fun x=>x[j]?) hl0;simp only [List.getElem?_take,if_pos hj] at this;exact this
 have hlen:l.length<=ops.length:=by
  have:=congrArg List.length hl0;simp at this;omega
 have done:∀ (listed:Array Bool) (a:Act) (w:World),(∀ j,j < l.length->listed.getD j true=true)->Mid P n g H ops l env Q s listed a w->∃ env',Q env'/\Inv n g env' H a w:=by
  intro listed a w hall hm;obtain ⟨K,ρ,hf,hl,he⟩:=hm.st;refine ⟨s.last,s.fin,⟨hm.size,hm.defers,K,ρ,hf,fun t av hav=>?_⟩⟩;have hlast:(s.e++[s.last])[l.length]?=some s.last:=by rw [List.getElem?_append_right (by rw [s.lene];exact Nat.le_refl _),s.lene];simp
  rcases s.src l.length s.last hlast t av hav with ⟨i,o,ri,h1,h2,h3,h4,h5,_⟩|⟨h1,av0,h2,h3⟩
  ·obtain ⟨v,v1,v2⟩:=hl i o ri t h2 (hall i h1) h4 h3;exact ⟨v,v1,h5 _ _ _ _ _ v2⟩
  ·obtain ⟨v,v1,v2⟩:=he t av0 h2 (fun i o ho _=>h1 i o (List.getElem?_eq_some_iff.1 ho).1 ho);exact ⟨v,v1,h3 _ _ _ _ _ v2⟩
 intro fuel;induction fuel with
 | zero =>
  intro listed a w hc hm;have hall:∀ j,j < ops.length->listed.getD j true=true:=by
   intro j hj;have hn:=List.filter_eq_nil_iff.1 (List.eq_nil_of_length_eq_zero hc);have hlt:j < listed.size:=by rw [hm.lsize];exact hj
   have:=hn listed[j] zwy63;simp only [Bool.not_eq_true',Bool.not_eq_false] at this;rw [Array.getD_eq_getD_getElem?,Array.getElem?_eq_getElem hlt];simpa using this
  have hkl:l.length=ops.length:=by
   rcases Nat.lt_or_ge l.length ops.length with h|h
   ·have:=hm.notail l.length (Nat.le_refl _) h;rw [hall _ h] at this;cases this
   ·omega
  obtain ⟨env',h1,h2⟩:=done listed a w (fun j hj=>hall j zwy62) hm;refine zcE hT 0 l.length listed a w (Nat.le_refl _) zwy62 hm.lsize (fun i hi=>?_) (hq env' a w h1 h2);rw [hall i hi];simp;omega
 | succ fuel ih =>
  intro listed a w hc hm;by_cases hall:∀ j,j < l.length->listed.getD j true=true
  ·obtain ⟨env',h1,h2⟩:=done listed a w hall hm;have hex:∀ i,i < ops.length->listed.getD i true=decide (i < l.length):=by
    intro i hi;by_cases h:i < l.length
    ·rw [hall i h];simp [h]
    ·rw [hm.notail i zwy62 hi];simp [h]
   have hcnt:l.length + (fuel + 1)=ops.length:=by
    have e1:listed.toList=List.replicate l.length true++List.replicate (ops.length - l.length) false:=by
     apply List.ext_getElem
     ·simp [hm.lsize];omega
     ·intro i h1 h2;have hi:i < ops.length:=by simpa [hm.lsize] using h1
      have:=hex i hi;rw [Array.getD_eq_getD_getElem?,Array.getElem?_eq_getElem (by rw [hm.lsize];exact hi)] at this;simp only [Option.getD_some] at this;simp only [Array.getElem_toList,this,List.getElem_append,List.length_replicate,List.getElem_replicate];by_cases hil:i < l.length
      ·rw [dif_pos hil,decide_eq_true hil]
      ·rw [dif_neg hil,decide_eq_false hil]
    rw [e1] at hc;simp only [List.filter_append,List.filter_replicate,Bool.not_true,Bool.false_eq_true,if_false,Bool.not_false,if_true,List.nil_append,List.length_replicate] at hc;omega
   exact zcE hT (fuel + 1) l.length listed a w (Nat.le_refl _) hcnt hm.lsize hex (hq env' a w h1 h2)
  have hlf:∀ i,i < ops.length->listed.getD i false=listed.getD i true:=by
   intro i hi;rw [Array.getD_eq_getD_getElem?,Array.getD_eq_getD_getElem?,Array.getElem?_eq_getElem (by rw [hm.lsize];exact hi)];rfl
  have hex:∃ j,j < l.length/\listed.getD j true=false/\∀ i,i < j->listed.getD i true=true:=by
   have hex0:∃ j,j < l.length/\listed.getD j true=false:=by
    rcases Classical.not_forall.1 hall with ⟨j,hj⟩
    exact ⟨j,Classical.byContradiction fun h=>hj (fun h'=>(h h').elim),by
     cases hb:listed.getD j true
     ·rfl
     ·exact (hj (fun _=>hb)).elim⟩
   obtain ⟨j,hj⟩:=hex0;induction j using Nat.strongRecOn with
   | _ j ihj =>
    by_cases hmin:∀ i,i < j->listed.getD i true=true
    ·exact ⟨j,hj.1,hj.2,hmin⟩
    ·rcases Classical.not_forall.1 hmin with ⟨i,hi⟩
     have hij:i < j:=Classical.byContradiction fun h=>hi (fun h'=>(h h').elim)
     exact ihj i hij ⟨by omega,by
      cases hb:listed.getD i true
      ·rfl
      ·exact (hi (fun _=>hb)).elim⟩
  obtain ⟨j0,hj0,hun0,hmin0⟩:=hex;refine ⟨fun h0=>?_,fun j hj=>?_⟩
  ·have:j0∈Region.ready .any ops.toArray listed:=qH.2 ⟨l[j0],by rw [<-hget j0 hj0];exact List.getElem?_eq_getElem hj0,hun0,fun i hi=>by
    have:=(zaP hB (List.getElem?_eq_getElem hj0)).1 i hi;rw [hlf i zwy62];exact hmin0 i this⟩
   rw [h0] at this;cases this
  obtain ⟨o,ho',hun,hready⟩:=qH.1 hj;have hjlt:=(List.getElem?_eq_some_iff.1 ho').1;have hjl:j < l.length:=by
   rcases Nat.lt_or_ge j l.length with h|h
   ·exact h
   ·have hmem:(o,j)∈ops.zipIdx.drop l.length:=by
     rw [List.mem_drop_iff_getElem];refine ⟨j - l.length,by simp;omega,?_⟩;simp only [List.getElem_zipIdx,Nat.zero_add];have:l.length + (j - l.length)=j:=by omega
     simp only [this];rw [(List.getElem?_eq_some_iff.1 ho').2]
    have h1:=List.all_eq_true.1 hT (o,j) hmem;simp only [Bool.and_eq_true] at h1;have:=hready j0 (List.all_eq_true.1 h1.1 j0 (List.mem_range.2 zwy62));rw [hlf j0 zwy62,hun0] at this;cases this
  have ho:l[j]?=some o:=by rw [hget j hjl];exact ho'
  have hrj:s.r[j]?=some (s.r[j]'(by rw [s.lenr];exact hjl)):=List.getElem?_eq_getElem _;have hej:s.e[j]?=some (s.e[j]'(by rw [s.lene];exact hjl)):=List.getElem?_eq_getElem _;generalize s.r[j]'(by rw [s.lenr];exact hjl)=rj at hrj;generalize s.e[j]'(by rw [s.lene];exact hjl)=ej at hej;obtain ⟨t,hd,ht,hor⟩:=s.ok j o rj ej ho hrj hej;obtain ⟨K,ρ,hf,hl,he⟩:=hm.st;have hreads:=hm.reads hB ho hej hun hready hl he;have hcount:((listed.setIfInBounds j true).toList.filter (! ·)).length=fuel:=by
   have hlt:j < listed.toList.length:=by simpa [hm.lsize] using hjlt
   have hjf:listed.toList[j]=false:=by
    rw [Array.getD_eq_getD_getElem?,Array.getElem?_eq_getElem zwy80] at hun;simpa using hun
   have e1:listed.toList=listed.toList.take j++false::listed.toList.drop (j + 1):=by
    rw [<-hjf,List.getElem_cons_drop,List.take_append_drop]
   rw [Array.toList_setIfInBounds,List.set_eq_take_append_cons_drop,if_pos hlt];rw [e1] at hc;simp only [List.filter_append,List.length_append,List.filter_cons,Bool.not_false,if_true,List.length_cons,Bool.not_true,Bool.false_eq_true,if_false] at hc ⊢;omega
  have hwanted:∀ b,guardE ops ej o=some b->Region.wanted o (yielded ops.toArray a.tmps)=b:=by
   intro b hgb;unfold guardE Qq at hgb;cases hg:o.guard with
   | none=>simp [hg] at hgb;subst hgb;simp [Region.wanted,hg]
   | some x =>
    obtain ⟨jj,want⟩:=x;simp only [hg] at hgb;cases hjj:ops[jj]? with
    | none=>simp [hjj] at hgb
    | some o' =>
     simp only [hjj] at hgb;cases hd':o'.dst with
     | none=>simp [hd'] at hgb
     | some t' =>
      simp only [hd'] at hgb;split at hgb
      ·rename_i bb hbb;simp only [Option.some.injEq] at hgb;subst hgb;obtain ⟨v,v1,v2⟩:=hreads t' zwy117 _ hbb;cases v2 with
       | pv _ _ hp=>cases hp;simp only [Region.wanted,hg,yielded,List.getElem?_toArray,hjj,Option.bind_some,hd',v1];cases bb <;> cases want <;> rfl
      ·rename_i vs hbb;simp only [Option.some.injEq] at hgb;subst hgb;obtain ⟨v,v1,v2⟩:=hreads t' zwy117 _ hbb;cases v2 with
       | pv _ _ hp=>cases hp;simp only [Region.wanted,hg,yielded,List.getElem?_toArray,hjj,Option.bind_some,hd',v1];cases want <;> rfl
      ·cases hgb
  unfold wpOp;simp only [List.getElem?_toArray,ho'];rcases hor with ⟨hgt,hqs⟩|⟨hgf,rfl⟩
  ·rw [hwanted true hgt,if_pos rfl];refine .inl ?_;unfold Oper.wp;have hqr:=hqs.go K ρ a w hf (fun x hx av hxv=>by
    cases x with
    | tmp t' =>
     obtain ⟨v,v1,v2⟩:=hreads t' (by
      unfold readsOf;exact List.mem_append_left _ (Vf (Array.mem_toList_iff.2 hx))) av hxv
     simpa [Act.eval,Array.getD_eq_getD_getElem?,v1] using v2
    | const v =>
     simp only [Env.val] at hxv;split at hxv
     ·rename_i h1;simp only [Option.some.injEq] at hxv;subst hxv;exact .pv _ _ (.base v h1)
     ·cases hxv
    | func f =>
     simp only [Env.val,Option.some.injEq] at hxv;subst hxv;exact .pv _ _ (.fn (.func f) [] [] [] [] rfl rfl zwy63 zwy63)
    | global gg =>
     simp only [Env.val,Option.some.injEq] at hxv;subst hxv;exact .pv _ _ (.base _ rfl))
   generalize (execOp a.eval o).run P w=res at hqr;cases res with
   | halt x w'=>simp only [zhu] at hqr
   | ok nx w' =>
    cases nx <;> simp only [zhu] at hqr <;> simp only [Oper.upon]
    case value v =>
     obtain ⟨K',hev,hv⟩:=hqr;exact ih _ _ _ hcount (hm.next hB ho hrj hd ht hun hready (fun _ _ _=>trivial) hf hl he hev hv)
    case enter f args =>
     obtain ⟨rfl,hc'⟩:=hqr;refine hc'.mono fun e w'' ⟨v,K',he',hev,hv⟩=>?_
     subst he';exact ih _ _ _ hcount (hm.next hB ho hrj hd ht hun hready (fun _ _ _=>trivial) hf hl he hev hv)
  ·rw [hwanted false hgf,if_neg zwy63];exact ih _ _ _ hcount (hm.next hB ho hrj hd ht hun hready (fun _ _ _=>trivial) hf hl he (.refl hf.lt) zbZ)
theorem zaE {Q':Env->Prop} {l:List Oper} (hq:∀ env,Q env->Q' env) (h:AD P n g H ops Q l env):AD P n g H ops Q' l env:=by
 induction h with
 | nil env h=>exact .nil env (hq env h)
 | step o rest env r t h1 h2 h3 h4 _ ih=>exact .step o rest env r t h1 h2 h3 h4 ih
 | skip o rest env t h1 h2 h3 _ ih=>exact .skip o rest env t h1 h2 h3 ih
 | case l env t b hb _ _ ih1 ih2=>exact .case l env t b hb ih1 ih2
theorem ze9 {QQ:QC} {id:Nat} (k:Nat) (hm:P.follows .mixedOrders=true) (hB:Qo ops (ops.take k)=true) (hT:Wp ops k=true) (hk:k<=ops.length)
  (h:AD P n g H ops (fun env'=>AO P n g ops.toArray (ops.drop k) env' H (fun env' H'=>QQ .normal env' H')) (ops.take k) env) (hnd:Zr ops=true:=by kernel_rfl):AW P n g (.region id ops.toArray true) env H QQ:=by
 obtain ⟨s⟩:=zgv h;refine ⟨fun a w hi rr dd=>?_⟩;refine wpIn_mono (zha (R:=fun a' w'=>∃ env' H',Inv n g env' H' a' w'/\QQ .normal env' H') hnd hm ?_) (fun e a' w' h=>by obtain ⟨rfl,h⟩:=h;exact h);obtain ⟨h1,h2,K,ρ,hf,he⟩:=hi;have hev:Evo K K w { w with drawn:=w.drawn + 1 }:=(Evo.refl hf.lt).drew;have hlk:(ops.take k).length=k:=by simp;omega
 refine zan (l:=ops.take k) (by rw [hlk]) s hB (by rw [hlk];exact hT) (fun env' a' w' h hi'=>?_) _ _ _ _ zwy63 ⟨h1,h2,by simp,by rw [hlk];exact hk,?_,?_,K,ρ,hf.evo hev,?_,?_⟩
 ·rw [hlk];exact Yy (fun e a' w' ⟨env',H',h1,h2,h3⟩=>⟨h2,env',H',h1,h3⟩) (h.go a' w' hi')
 ·intro j _ hj;simp [Array.getD_eq_getD_getElem?,hj]
 ·intro i o ho hli;have hlt:=(List.getElem?_eq_some_iff.1 ho).1;have:i < ops.length:=by simp at hlt;omega
  simp [Array.getD_eq_getD_getElem?,this] at hli
 ·intro i o ri t ho hli;have hlt:=(List.getElem?_eq_some_iff.1 ho).1;have:i < ops.length:=by simp at hlt;omega
  simp [Array.getD_eq_getD_getElem?,this] at hli
 ·intro t av hav _;obtain ⟨v,v1,v2⟩:=he t av hav;exact ⟨v,v1,v2.later (hev.later hf.lt)⟩
theorem zp9 {QQ:QC} {id:Nat} (hm:P.follows .mixedOrders=true) (hB:Qo ops ops=true) (h:AD P n g H ops (fun env'=>QQ .normal env' H) ops env) (hnd:Zr ops=true:=by kernel_rfl):AW P n g (.region id ops.toArray true) env H QQ:=by
 refine ze9 ops.length hm (by rw [List.take_length];exact hB) ?_ (Nat.le_refl _) ?_ hnd
 ·unfold Wp;rw [List.drop_eq_nil_of_le zwy63];rfl
 ·rw [List.take_length];refine zaE ?_ h;intro env' h;rw [List.drop_length];exact zpt h
end
def zeY (k j:Nat) (o:Oper):Oper:=if k<=j then { o with after:=o.after++((List.range j).map fun i=>(⟨i,.phase⟩:Edge)).toArray } else o
def zS (k:Nat):List Oper->Nat->List Oper
 | [],_=>[]
 | o::r,j=>zeY k j o::zS k r (j + 1)
theorem Ve (k:Nat):∀ (ops:List Oper) (m j:Nat),(zS k ops m)[j]?=(ops[j]?).map (zeY k (m + j))
 | [],m,j=>by simp [zS]
 | o::ops,m,j=>by
  cases j with
  | zero=>simp [zS]
  | succ j=>simp [zS,Ve k ops (m + 1) j,Nat.add_assoc,Nat.add_comm 1 j]
theorem VI (k:Nat):∀ (ops:List Oper) (m:Nat),(zS k ops m).length=ops.length
 | [],_=>rfl
 | o::ops,m=>by simp [zS,VI k ops (m + 1)]
theorem ziF {k j:Nat} {o:Oper} {i:Nat}:qc (zeY k j o) i=(qc o i||(decide (k<=j)&&decide (i < j))):=by
 unfold zeY;by_cases h:k<=j
 ·rw [if_pos h,Bool.eq_iff_iff];simp only [qc,Array.toList_append,List.any_append,Bool.or_eq_true,h,decide_true,Bool.true_and,decide_eq_true_eq];refine or_congr_right ?_;simp only [List.any_eq_true,List.mem_map,List.mem_range,Bool.and_eq_true,beq_iff_eq];constructor
  ·rintro ⟨_,⟨m,hm,rfl⟩,_,h2⟩;simp only at h2;omega
  ·intro hi;exact ⟨_,⟨i,hi,rfl⟩,rfl,rfl⟩
 ·rw [if_neg h];simp [h]
def implied (ops:List Oper):Nat->Nat->Nat->Bool
 | 0,_,_=>false
 | n + 1,j,i=>match ops[j]? with
  | none=>false
  | some o=>qc o i||o.after.toList.any fun e=>Region.binds .any e&&implied ops n e.on i
def XY (ops:List Oper) (k:Nat):Bool:=(List.range ops.length).all fun j=>Nat.blt j k||(List.range j).all fun i=>implied ops ops.length j i
def zsv (ops:List Oper) (listed:Array Bool):Prop:=∀ j o,ops[j]?=some o->listed.getD j false=true->∀ i,qc o i=true->listed.getD i false=true
theorem zdr {ops:List Oper} {listed:Array Bool} (hc:zsv ops listed):∀ (n j i:Nat) (o:Oper),ops[j]?=some o->(∀ m,qc o m=true->listed.getD m false=true)->implied ops n j i=true->listed.getD i false=true
 | 0,_,_,_,_,_,h=>by simp [implied] at h
 | n + 1,j,i,o,ho,hall,h=>by
  simp only [implied,ho,Bool.or_eq_true] at h;rcases h with h|h
  ·exact hall i h
  ·obtain ⟨e,he,hb⟩:=List.any_eq_true.1 h;rw [Bool.and_eq_true] at hb;have hm:listed.getD e.on false=true:=hall e.on (List.any_eq_true.2 ⟨e,he,by simp [hb.1]⟩);cases hoe:ops[e.on]? with
   | none =>
    cases n with
    | zero=>simp [implied] at hb
    | succ n=>simp [implied,hoe] at hb
   | some o2=>exact zdr hc n e.on i o2 hoe (hc e.on o2 hoe hm) hb.2
section
variable {P:Program} {R:Exit->Act->World->Prop} {ops:List Oper} {k:Nat}
theorem zeh (hok:XY ops k=true) {listed:Array Bool} (hc:zsv ops listed) (j:Nat):j∈Region.ready .any (zS k ops 0).toArray listed↔j∈Region.ready .any ops.toArray listed:=by
 rw [qH,qH];constructor
 ·rintro ⟨o',ho',h1,h2⟩;rw [Ve] at ho';cases ho:ops[j]? with
  | none=>simp [ho] at ho'
  | some o =>
   simp [ho] at ho';subst ho';exact ⟨o,rfl,h1,fun i hi=>h2 i (by rw [ziF,hi];rfl)⟩
 ·rintro ⟨o,ho,h1,h2⟩;refine ⟨zeY k j o,by rw [Ve,ho];simp,h1,fun i hi=>?_⟩;rw [ziF,Bool.or_eq_true,Bool.and_eq_true,decide_eq_true_eq,decide_eq_true_eq] at hi;rcases hi with hi|⟨hk,hij⟩
  ·exact h2 i hi
  ·have hlt:=(List.getElem?_eq_some_iff.1 ho).1;have:=List.all_eq_true.1 hok j zwy80;rw [Bool.or_eq_true] at this;rcases this with h|h
   ·have:=Nat.le_of_ble_eq_true h;omega
   ·exact zdr hc _ j i o ho h2 (List.all_eq_true.1 h i (by simpa using hij))
theorem zk7 (tmps:Array Value):yielded (zS k ops 0).toArray tmps=yielded ops.toArray tmps:=by
 funext j;unfold yielded;simp only [List.getElem?_toArray,Ve,Nat.zero_add];cases ops[j]? with
 | none=>rfl
 | some o =>
  by_cases hkj:k<=j
  ·simp [zeY,hkj]
  ·simp [zeY,hkj]
theorem zq7 {j:Nat} {K:Act->World->Prop} {a:Act} {w:World} (h:wpOp P (zS k ops 0).toArray R j K a w):wpOp P ops.toArray R j K a w:=by
 unfold wpOp at h ⊢;rw [zk7] at h;simp only [List.getElem?_toArray,Ve,Nat.zero_add] at h ⊢;cases ho:ops[j]? with
 | none=>simpa [ho] using h
 | some o =>
  simp only [ho,Option.map_some] at h ⊢;unfold zeY at h;split at h <;> exact h
theorem zrx {listed:Array Bool} (hs:listed.size=ops.length) (hc:zsv ops listed) {j:Nat} (hj:j∈Region.ready .any ops.toArray listed):zsv ops (listed.setIfInBounds j true):=by
 obtain ⟨o,ho,h1,h2⟩:=qH.1 hj;have hlt:=(List.getElem?_eq_some_iff.1 ho).1;have up:∀ i,listed.getD i false=true->(listed.setIfInBounds j true).getD i false=true:=by
  intro i hi;by_cases e:i=j
  ·subst e;simp [Array.getD_eq_getD_getElem?,hs,hlt]
  ·rw [yO e];exact hi
 intro m om hom hlm i hi;by_cases e:m=j
 ·subst e;rw [ho] at hom;cases hom;exact up i (h2 i hi)
 ·rw [yO e] at hlm;exact up i (hc m om hom hlm i hi)
theorem zcK (hok:XY ops k=true):∀ (fuel:Nat) (listed:Array Bool) (a:Act) (w:World),listed.size=ops.length->zsv ops listed->wpAny P .any (zS k ops 0).toArray R fuel listed a w->wpAny P .any ops.toArray R fuel listed a w
 | 0,listed,a,w,hs,hc,h=>by
  refine ⟨?_,h.2⟩;rw [List.eq_nil_iff_forall_not_mem];intro j hj;have:=(zeh hok hc j).2 hj;rw [h.1] at this;cases this
 | fuel + 1,listed,a,w,hs,hc,h=>by
  refine ⟨fun hn=>h.1 ?_,fun j hj=>?_⟩
  ·rw [List.eq_nil_iff_forall_not_mem];intro j hj;have:=(zeh hok hc j).1 hj;rw [hn] at this;cases this
  ·have h1:=h.2 j ((zeh hok hc j).2 hj);exact zq7 (wpOp_mono (fun a w hh=>zcK hok fuel _ a w (by simp [hs]) (zrx hs hc hj) hh) h1)
end
section
variable {P:Program} {n:Nat} {g:Base} {H:HEnv} {env:Env} {ops:List Oper}
theorem zjx {QQ:QC} {id:Nat} (k:Nat) (hok:XY ops k=true) (hm:P.follows .mixedOrders=true) (hB:Qo (zS k ops 0) ((zS k ops 0).take k)=true) (hT:Wp (zS k ops 0) k=true) (hk:k<=(zS k ops 0).length)
  (h:AD P n g H (zS k ops 0) (fun env'=>AO P n g (zS k ops 0).toArray ((zS k ops 0).drop k) env' H (fun env' H'=>QQ .normal env' H')) ((zS k ops 0).take k) env) (hnd:Zr ops=true:=by kernel_rfl):AW P n g (.region id ops.toArray true) env H QQ:=by
 obtain ⟨s⟩:=zgv h;refine ⟨fun a w hi rr dd=>?_⟩;refine wpIn_mono (zha (R:=fun a' w'=>∃ env' H',Inv n g env' H' a' w'/\QQ .normal env' H') hnd hm ?_) (fun e a' w' h=>by obtain ⟨rfl,h⟩:=h;exact h);have hlen:=VI k ops 0;refine zcK hok _ _ _ _ zwy63 ?_ ?_
 ·intro j o ho hl;have hlt:=(List.getElem?_eq_some_iff.1 ho).1;simp [Array.getD_eq_getD_getElem?,hlt] at hl
 obtain ⟨h1,h2,K,ρ,hf,he⟩:=hi;have hev:Evo K K w { w with drawn:=w.drawn + 1 }:=(Evo.refl hf.lt).drew;have hlk:((zS k ops 0).take k).length=k:=by simp;omega
 have hsz:ops.toArray.size=(zS k ops 0).length:=by simp [hlen]
 rw [hsz];generalize zS k ops 0=ops' at *;refine zan (l:=ops'.take k) (by rw [hlk]) s hB (by rw [hlk];exact hT) (fun env' a' w' h hi'=>?_) _ _ _ _ zwy63 ⟨h1,h2,by simp,by rw [hlk];exact hk,?_,?_,K,ρ,hf.evo hev,?_,?_⟩
 ·rw [hlk];exact Yy (fun e a' w' ⟨env',H',h1,h2,h3⟩=>⟨h2,env',H',h1,h3⟩) (h.go a' w' hi')
 ·intro j _ hj;simp [Array.getD_eq_getD_getElem?,hj]
 ·intro i o ho hli;have hlt:=(List.getElem?_eq_some_iff.1 ho).1;have:i < ops'.length:=by simp at hlt;omega
  simp [Array.getD_eq_getD_getElem?,this] at hli
 ·intro i o ri t ho hli;have hlt:=(List.getElem?_eq_some_iff.1 ho).1;have:i < ops'.length:=by simp at hlt;omega
  simp [Array.getD_eq_getD_getElem?,this] at hli
 ·intro t av hav _;obtain ⟨v,v1,v2⟩:=he t av hav;exact ⟨v,v1,v2.later (hev.later hf.lt)⟩
theorem zZ {QQ:QC} {id:Nat} (L k:Nat) (_:ops.length=L) (hok:XY ops k=true) (hm:P.follows .mixedOrders=true) (hB:Qo (zS k ops 0) ((zS k ops 0).take k)=true) (hT:Wp (zS k ops 0) k=true) (hk:Nat.ble k (zS k ops 0).length=true)
  (h:AD P n g H (zS k ops 0) (fun env'=>AO P n g (zS k ops 0).toArray ((zS k ops 0).drop k) env' H (fun env' H'=>QQ .normal env' H')) ((zS k ops 0).take k) env) (hnd:Zr ops=true:=by kernel_rfl):AW P n g (.region id ops.toArray true) env H QQ :=
 zjx k hok hm hB hT (Nat.le_of_ble_eq_true hk) h hnd
end
theorem zwu {listed:Array Bool} {j fuel:Nat} (hlt:j < listed.size) (hun:listed.getD j true=false) (hc:(listed.toList.filter (! ·)).length=fuel + 1):((listed.setIfInBounds j true).toList.filter (! ·)).length=fuel:=by
 have hlt':j < listed.toList.length:=by simpa using hlt
 have hjf:listed.toList[j]=false:=by
  rw [Array.getD_eq_getD_getElem?,Array.getElem?_eq_getElem hlt] at hun;simpa using hun
 have e1:listed.toList=listed.toList.take j++false::listed.toList.drop (j + 1):=by
  rw [<-hjf,List.getElem_cons_drop,List.take_append_drop]
 rw [Array.toList_setIfInBounds,List.set_eq_take_append_cons_drop,if_pos hlt'];rw [e1] at hc;simp only [List.filter_append,List.length_append,List.filter_cons,Bool.not_false,if_true,List.length_cons,Bool.not_true,Bool.false_eq_true,if_false] at hc ⊢;omega
section
variable {P:Program} {n:Nat} {g:Base} {K:KK} {w:World} {ρ:Nat->Value} {H:HEnv} {env:Env} {a:Act} {ops l:List Oper} {Q:Env->Prop}
end
section
variable {P:Program} {n:Nat} {g:Base} {K:KK} {w:World} {ρ:Nat->Value} {H:HEnv} {env:Env} {a:Act} {ops l:List Oper} {Q:Env->Prop}
end
end Go.Cg
