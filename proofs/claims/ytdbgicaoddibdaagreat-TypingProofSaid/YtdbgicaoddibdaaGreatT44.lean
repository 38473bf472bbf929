/- A part of the walks by abstract values: no statement of its own. -/
import Derived.Test.YtdbgicaoddibdaaGreatT41
import Derived.Test.YtdbgicaoddibdaaGreatT20
import Derived.Test.YtdbgicaoddibdaaGreatT16
set_option linter.unusedVariables false
set_option linter.unusedSimpArgs false
namespace Go.Cg
open Go.Proofs
theorem zrz {g:Img} (hW:Wl g) {t:Int} {td:TD} (h:typeAt g t=some td) (he:0≤td.ext):yt g t=0∧yt g td.ext=0:=by
 refine ⟨?_,(hW.extk h).resolve_left zwy62⟩;have hfl:=hW.flag t td h;rw [yt,h];simp only;have hne:(td.ext == -1)=false:=by simp;omega
 have hr:VG td.flags=2∨VG td.flags=1∨VG td.flags=3∨VG td.flags=0:=by
  unfold VG;cases qJ td.flags 2 <;> cases qJ td.flags 1 <;> cases qJ td.flags 16 <;> simp
 rw [YC,hne] at hfl;rcases hr with h1|h1|h1|h1
 ·rw [h1] at hfl;simp at hfl
 ·rw [h1] at hfl;simp at hfl
 ·rw [h1] at hfl;simp at hfl
 ·exact h1
theorem zoq {g:Img} (hW:Wl g):∀ (l:List Int) (t:Int),up g t=l→yt g t=0→∀ u∈l,yt g u=0
 | [],t,h,hk,u,hu=>by cases hu
 | x::l,t,h,hk,u,hu=>by
  cases ht:typeAt g t with
  | none=>rw [up_nil ht] at h;cases h
  | some td =>
   rw [hW.up_cons ht] at h;injection h with e1 e2
   subst e1;rcases List.mem_cons.1 hu with rfl|hu
   ·exact hk
   ·have h0:0≤td.ext:=by
     cases hte:typeAt g td.ext with
     | none=>rw [up_nil hte] at e2;subst e2;cases hu
     | some td2=>exact (Wy hte).1
    exact zoq hW l td.ext e2 (zrz hW ht h0).2 u hu
set_option maxHeartbeats 20000000
def zeJ (g:Img) (t m:Int):Int:=if Ve g m < 0 then m else (tbl g t).getD (Ve g m).toNat 0
def does (g:Img) (m k:Int):Bool:=zgi g k&&alk g k m
def zp7 (g:Img) (t m:Int):Option Int:=((up g t).flatMap (methodsOf g)).find? (does g m)
def zav (g:Img) (t m:Int):Int:=match zp7 g t m with|some k=>zeJ g t k|none => -1
def zmu (g:Img) (t m:Int):Int:=if yt g (zb1 g m)==2&&zgi g m then zav g t m else zeJ g t m
theorem zmv {g:Img} (hW:Wl g):∀ (l:List Int) (t b:Int),up g t=l→b∈l→(tbl g b).length≤(tbl g t).length
 | [],t,b,h,hb=>by cases hb
 | x::l,t,b,h,hb=>by
  cases ht:typeAt g t with
  | none=>rw [up_nil ht] at h;cases h
  | some td =>
   rw [hW.up_cons ht] at h;simp only [List.cons.injEq] at h;obtain ⟨rfl,h⟩:=h;rcases List.mem_cons.1 hb with rfl|hb
   ·exact Nat.le_refl _
   ·have h1:=zmv hW l td.ext b h hb;have h2:=(zaX g (methodsOf g t) (tbl g td.ext)).1;rw [zs4 hW ht];omega
theorem idx_range {l:List Int} {v:Int}:idx l v = -1∨(0≤idx l v∧(idx l v).toNat < l.length):=by
 rw [idx];split
 ·rename_i h;right;have:=List.findIdx_lt_length_of_exists (p:=(· == v)) ⟨v,h,by simp⟩;omega
 ·exact .inl rfl
theorem zqi {g:Img} (hW:Wl g) {t m:Int} (hb:yt g (zb1 g m)=0→zb1 g m∈up g t) (h:¬ Ve g m < 0):(Ve g m).toNat < (tbl g t).length:=by
 rw [Ve] at h ⊢;split at h
 ·rename_i hh;rw [if_pos hh];simp only [Bool.and_eq_true,beq_iff_eq] at hh;have h1:=zmv hW _ t _ rfl (hb hh.2);rcases idx_range (l:=tbl g (zb1 g m)) (v:=m) with h2|h2
  ·omega
  ·omega
 ·omega
theorem zbk {g:Img} {u k:Int} (h:k∈methodsOf g u):zb1 g k=u:=by
 simp only [methodsOf,List.mem_filter,Bool.and_eq_true,beq_iff_eq] at h;exact h.2.2
theorem zwk30 {G:Prop} (h:G:=by repeat' (first|(refine shC ?_;first|refine qC c1 ?_|refine qC c2 ?_|refine qC c3 ?_|(have:=b0;refine qC c4 ?_))|(refine shX ?_;first|refine zy rfl (ah hm.1 hem) rfl rfl ?_|refine zq rfl (ah hm.1 hem) rfl rfl ?_|(have:=b0;refine qX he ?_))|refine sK ?_|refine sC (fun _=>?_) (fun _=>?_)|(have:=b1;exact retq rfl (by simp [zC,zeJ,hs]))|(have:=b0;exact retq rfl (by rw [zeJ,if_neg hs];rfl))|fail)):G:=h
theorem zpW (g:Img) (hF:Fine g) (t m:Int) (hm:mOk g m) (hn:(yt g (zb1 g m)==2&&zgi g m)=false) (hb:yt g (zb1 g m)=0→zb1 g m∈up g t):ACall Tryz.prog 146 [zO g,pi t,pi m] (pi (zeJ g t m)):=by
 have hW:=zfg hF.well;have hem:=WV hm;have c1:=ZI g hF.formed (mAt g m).owner;have c2:=zwG hF hm;have c3:=zo5 g hF m hm;have c4:=ziy g hF t;have hsi:=zqi hW hb;rw [zb1] at hn;refine zi zf Tryz.func146 rfl zws Tryz.ntmps146 zwy63 _ rfl (fun hw gB hgB=>?_);by_cases hk:yt g (mAt g m).owner=2
 ·rw [hk] at c1 hn;have hv:zgi g m=false:=by simpa using hn
  rw [hv] at c2;by_cases hs:Ve g m < 0
  ·have b1:=();exact zwk30
  ·have he:((tbl g t).map pi)[(Ve g m).toNat]?=some (pi ((tbl g t).getD (Ve g m).toNat 0)):=by rw [zT (hsi hs)];exact Yy (hsi hs)
   have hd:decide (Ve g m < 0)=false:=decide_eq_false hs;have b0:=();exact zwk30
 ·have hkb:(yt g (mAt g m).owner==2)=false:=by simp [hk]
  by_cases hs:Ve g m < 0
  ·have b1:=();exact zwk30
  ·have he:((tbl g t).map pi)[(Ve g m).toNat]?=some (pi ((tbl g t).getD (Ve g m).toNat 0)):=by rw [zT (hsi hs)];exact Yy (hsi hs)
   have hd:decide (Ve g m < 0)=false:=decide_eq_false hs;have b0:=();exact zwk30
theorem zru {α:Type} {l:List α} {f:α→List Int} {i:Nat} (h:i < l.length):(l.drop i).flatMap f=f l[i]++(l.drop (i + 1)).flatMap f:=by
 rw [List.drop_eq_getElem_cons h,List.flatMap_cons]
theorem up0 {g:Img} (hW:Wl g) {t u k:Int} (hk:yt g t=0) (hu:u∈up g t) (h:k∈methodsOf g u):mOk g k∧(yt g (zb1 g k)==2&&zgi g k)=false∧(yt g (zb1 g k)=0→zb1 g k∈up g t):=by
 have h1:=zoq hW _ t rfl hk _ hu;refine ⟨qO h,?_,fun _=>by rw [zbk h];exact hu⟩;rw [zbk h,h1];rfl
theorem zwk31 {G:Prop} (h:G:=by repeat' (first|(refine shC ?_;first|(have:=b0;refine qC c2 ?_)|(have:=b1;refine qC c3 ?_)|(have:=b2;refine qC (zpW g hF t k q1 q2 q3) ?_))|(refine shX ?_;first|(have:=b0;refine qX hek ?_)|(have:=b0;refine zy rfl (ah q1.1 hekm) rfl rfl ?_)|(have:=b0;refine zq rfl (ah q1.1 hekm) rfl rfl ?_)|(have:=b1;refine zy rfl (ah hm.1 hem) rfl rfl ?_)|(have:=b1;refine zq rfl (ah hm.1 hem) rfl rfl ?_))|refine sK ?_|refine sC (fun _=>?_) (fun _=>?_)|(have:=b3;exact retq rfl (by rw [zav,hr];rfl))|exact ⟨j + 1,⟨hjl,hr⟩,tD,tS,tH⟩|exact ⟨i + 1,⟨hlt,hr⟩,tD,tS,tH⟩|fail)):G:=h
theorem zq4 (g:Img) (hF:Fine g) (t m:Int) (hm:mOk g m) (hk:yt g t=0):ACall Tryz.prog 101 [zO g,pi t,pi m] (pi (zav g t m)):=by
 have hW:=zfg hF.well;obtain ⟨hgt,_,hgm,_⟩:=yG hF.formed;have hem:=WV hm;have hui:=zcr g t;have hul:=Yl _ _ hui.1 hui.2;refine zi zf Tryz.func101 rfl zws Tryz.ntmps101 zwy63 _ rfl (fun hw gB hgB=>?_)
 repeat' (first|(refine shC ?_;first|refine zy rfl (zJ rfl rfl (Yw g t zwy62)) rfl rfl ?_|refine zq rfl (zJ rfl rfl (Yw g t zwy62)) rfl rfl ?_)|refine sA ?_|refine sC (fun _=>?_) (fun _=>?_)|fail)
 refine zW (fun i:Nat=>[(1,.pv (pi t)),(2,.pv (pi m)),(3,.pv (.ptr (zO g) 0)),(13,.pv (ints (up g t))),(14,.pv (pi (up g t).length)),(15,.pv (pi i))]) (fun _=>[]) (fun i=>i≤(up g t).length∧zp7 g t m=(((up g t).drop i).flatMap (methodsOf g)).find? (does g m)) (fun i=>(up g t).length - i) 0 ⟨by omega,rfl⟩ (tS) tH ?_;rintro i ⟨hi,hr⟩;by_cases hlt:i < (up g t).length
 ·obtain ⟨u,hu⟩:∃ u,u=(up g t)[i]:=⟨_,rfl⟩
  have hum:u∈up g t:=by rw [hu];exact List.getElem_mem hlt
  have heu:((up g t).map pi)[i]?=some (pi u):=by rw [hu];exact zY (f:=pi) hlt
  have c1:=YG g u zwy62;have hml:=Xl g u;rw [zru hlt,←hu] at hr
  repeat' (first|(refine shC ?_;first|refine qC c1 ?_)|(refine shX ?_;first|refine qX heu ?_)|refine sK ?_|refine sC (fun _=>?_) (fun _=>?_)|fail)
  refine zW (fun j:Nat=>[(1,.pv (pi t)),(2,.pv (pi m)),(3,.pv (.ptr (zO g) 0)),(13,.pv (ints (up g t))),(14,.pv (pi (up g t).length)),(15,.pv (pi i)),(21,.pv (ints (methodsOf g u))),(22,.pv (pi (methodsOf g u).length)),(23,.pv (pi j))]) (fun _=>[])
   (fun j=>j≤(methodsOf g u).length∧zp7 g t m=((methodsOf g u).drop j++((up g t).drop (i + 1)).flatMap (methodsOf g)).find? (does g m)) (fun j=>(methodsOf g u).length - j) 0 ⟨by omega,hr⟩ (tS) tH ?_
  clear hr;rintro j ⟨hj,hr⟩;by_cases hjl:j < (methodsOf g u).length
  ·obtain ⟨k,hk2⟩:∃ k,k=(methodsOf g u)[j]:=⟨_,rfl⟩
   have hkm:k∈methodsOf g u:=by rw [hk2];exact List.getElem_mem hjl
   have hek:((methodsOf g u).map pi)[j]?=some (pi k):=by rw [hk2];exact zY (f:=pi) hjl
   obtain ⟨q1,q2,q3⟩:=up0 hW hk hum hkm;have hekm:=WV q1;have c2:=zwG hF q1;have c3:=zgE (mAt g k) (mAt g m);rw [zqm hF.formed q1 hm] at c3;rw [List.drop_eq_getElem_cons hjl,←hk2,List.cons_append,List.find?_cons] at hr;cases hv:zgi g k
   ·rw [hv] at c2;rw [show does g m k=false by rw [does,hv];rfl] at hr;have b0:=();exact zwk31
   ·rw [hv] at c2;cases ha:alk g k m
    ·rw [ha] at c3;rw [show does g m k=false by rw [does,hv,ha];rfl] at hr;have b0:=();have b1:=();exact zwk31
    ·rw [ha] at c3;rw [show does g m k=true by rw [does,hv,ha];rfl] at hr;have b0:=();have b1:=();have b2:=();have b3:=();exact zwk31
  ·rw [List.drop_eq_nil_of_le zwy62,List.nil_append] at hr;exact zwk31
 ·rw [List.drop_eq_nil_of_le zwy62] at hr;have b3:=();exact zwk31
end Go.Cg

namespace Go.Cg
open Go.Proofs
def zi4 (m:Me):Bool:=m.code.length==0&&m.locals.length==0&&m.clauses.length==0&&m.max==0
def zi1 (k:Int) (b1 b2 b4 b8 b16 rv f16 em nc:Bool):Bool:=!(b16&&(k != 0||rv||f16))&&!(b2&&(b1||k==1))&&!((b4||b8)&&!b2)&&(if b4 then em else nc)
def zmq (k:Int) (b4 m1 ab:Bool):Bool:=if k==2 then b4 else if k==3 then b4&&m1 else !b4||ab
def zfQ (k:Int) (b1 b2 b4 b8 b16 rv f16 em nc m1 ab:Bool):Bool :=
 !(b16&&(k != 0||rv||f16))&&!(b2&&(b1||k==1))&&!(!b2&&(b4||b8))&&!(b4&&!em)&&!(!b4&&(!nc||decide (2≤k)))&&!(k==3&&!m1)&&(!b4||decide (2≤k)||ab)
theorem ztB (b1 b2 b4 b8 b16 rv f16 em nc m1 ab:Bool) {k:Int} (hk:k=0∨k=1∨k=2∨k=3):(zi1 k b1 b2 b4 b8 b16 rv f16 em nc&&zmq k b4 m1 ab)=zfQ k b1 b2 b4 b8 b16 rv f16 em nc m1 ab:=by
 simp only [zi1,zmq,zfQ];generalize (b16&&(k != 0||rv||f16))=x;generalize (b2&&(b1||k==1))=y;rcases hk with rfl|rfl|rfl|rfl <;> cases x <;> cases y <;> cases b2 <;> cases b4 <;> cases b8 <;> cases em <;> cases nc <;> cases m1 <;> cases ab <;> rfl
def zqN (g:Img) (m:Me):Bool:=zi1 (yt g m.owner) (qJ m.flags 1) (qJ m.flags 2) (qJ m.flags 4) (qJ m.flags 8) (qJ m.flags 16) (m.ret.kind != 1) (m.flags != 16) (zi4 m) (decide (0 < m.code.length))
def zlS (g:Img) (m:Me):Bool:=zmq (yt g m.owner) (qJ m.flags 4) ((methodsOf g m.owner).length==1) (qJ (g.types.getD m.owner.toNat default).flags 4)
def zom (g:Img) (m:Me):Bool:=zfQ (yt g m.owner) (qJ m.flags 1) (qJ m.flags 2) (qJ m.flags 4) (qJ m.flags 8) (qJ m.flags 16) (m.ret.kind != 1) (m.flags != 16) (zi4 m) (decide (0 < m.code.length)) ((methodsOf g m.owner).length==1) (qJ (g.types.getD m.owner.toNat default).flags 4)
structure MeOk (g:Img) (m:Me):Prop where
 f0:0≤m.flags
 f1:m.flags≤31
 o0:0≤m.owner
 o1:m.owner.toNat < g.types.length
 formed:ZT g m=true
theorem Xb {g:Img} (hf:yI g=true) {x:Int} (h:mOk g x):MeOk g (mAt g x):=by
 have h1:=zaj hf h;have h2:=zdB hf h.2;simp only [yI,Bool.and_eq_true,List.all_eq_true] at hf;have:=hf.2 x.toNat (by simpa using h.2);rw [zjr] at this;simp only [Bool.and_eq_true,decide_eq_true_eq] at this;have e:g.methods.getD x.toNat default=mAt g x:=rfl;rw [e] at this h2;obtain ⟨⟨⟨t1,t2⟩,_⟩,_⟩:=this;exact ⟨h1.1,h1.2,t1,by omega,h2⟩
theorem MeOk.kind {g:Img} {m:Me} (h:MeOk g m):yt g m.owner=0∨yt g m.owner=1∨yt g m.owner=2∨yt g m.owner=3:=by
 have h1:=zc4 g m.owner;obtain ⟨td,htd⟩:=VY (g:=g) (t:=m.owner) ⟨h.o0,by have:=h.o1;have:=h.o0;omega⟩;have h2:yt g m.owner=VG td.flags:=by rw [yt,htd]
 have h3:=zhc td.flags;omega
theorem zvY {g:Img} {m:Me} (h:MeOk g m):(zqN g m&&zlS g m)=zom g m:=ztB _ _ _ _ _ _ _ _ _ _ _ h.kind
theorem MeOk.small {g:Img} {m:Me} (h:MeOk g m):m.code.length≤160∧m.locals.length≤12∧m.params.length≤6∧m.clauses.length≤6∧0≤m.max∧m.max≤12:=by
 have:=h.formed;simp only [ZT,zac,zfp,Bool.and_eq_true,decide_eq_true_eq] at this;obtain ⟨⟨⟨⟨⟨⟨⟨⟨⟨⟨_,_⟩,_⟩,h3⟩,h4⟩,h5⟩,h6⟩,_⟩,_⟩,_⟩,⟨⟨h7,_⟩,_⟩,h8⟩:=this;refine ⟨by omega,by omega,by omega,?_,h3,h4⟩;by_cases hc:6 < m.clauses.length
 ·rw [Qm,if_pos hc] at h8;simp at h8
 ·omega
theorem zqY {m:Me} (h1:m.code.length≤160) (h2:m.locals.length≤12) (h3:m.clauses.length≤6) (h4:0≤m.max) (h5:m.max≤12) :
  (IntKind.i64.wrap (IntKind.i64.wrap (IntKind.i64.wrap ((((m.code.map qx).length:Nat):Int) + (((m.locals.map yJ).length:Nat):Int)) + (((m.clauses.map Zg).length:Nat):Int)) + m.max)==0)=zi4 m:=by
 simp only [List.length_map];rw [wrap_in (a:=(m.code.length:Int) + (m.locals.length:Int)) zwy62 zwy62,wrap_in (a:=(m.code.length:Int) + (m.locals.length:Int) + (m.clauses.length:Int)) zwy62 zwy62,wrap_in zwy62 zwy62,zi4,Bool.eq_iff_iff];simp only [beq_iff_eq,Bool.and_eq_true];omega
theorem zwC {g:Img} {m:Me} (h:MeOk g m):ACall Tryz.prog 93 [yh m,pi 1] (pb (qJ m.flags 1))∧ACall Tryz.prog 93 [yh m,pi 2] (pb (qJ m.flags 2))∧ACall Tryz.prog 93 [yh m,pi 4] (pb (qJ m.flags 4))∧ACall Tryz.prog 93 [yh m,pi 8] (pb (qJ m.flags 8))∧ACall Tryz.prog 93 [yh m,pi 16] (pb (qJ m.flags 16)):=by
 obtain ⟨e1,e2,e4,e8,e16⟩:=zbn h.f0 h.f1;exact ⟨e1 ▸ Xr m 1,e2 ▸ Xr m 2,e4 ▸ Xr m 4,e8 ▸ Xr m 8,e16 ▸ Xr m 16⟩
set_option maxHeartbeats 4000000 in
theorem zjV (g:Img) (hf:yI g=true) (m:Me) (h:MeOk g m):ACall Tryz.prog 52 [zO g,yh m] (pb (zqN g m)):=by
 obtain ⟨h1,h2,h4,h8,h16⟩:=zwC h;have ck:=ZI g hf m.owner;have hk:=h.kind;obtain ⟨s1,s2,_,s4,s5,s6⟩:=h.small;have he:=zqY s1 s2 s4 s5 s6;refine zi zf Tryz.func52 rfl zws Tryz.ntmps52 zwy63 _ rfl (fun hw gB hgB=>?_);rw [zqN];generalize qJ m.flags 1=b1 at h1 ⊢;generalize qJ m.flags 2=b2 at h2 ⊢;generalize qJ m.flags 4=b4 at h4 ⊢;generalize qJ m.flags 8=b8 at h8 ⊢;generalize qJ m.flags 16=b16 at h16 ⊢;generalize zi4 m=em at he ⊢;rcases hk with hk|hk|hk|hk <;> rw [hk] at ck ⊢ <;> clear hk
 all_goals repeat' (first|(refine shC ?_;first|refine qC ck ?_|refine qC h1 ?_|refine qC h2 ?_|refine qC h4 ?_|refine qC h8 ?_|refine qC h16 ?_)|refine sA ?_|refine sC (fun _=>?_) (fun _=>?_)|fail)
 all_goals (refine ay ?_;first|(simp_all [zC,zi1];done)|(rename_i hx;simp_all [zC,zi1];omega)|(trace_state))
theorem zt9 {g:Img} {m:Me} (h:MeOk g m):(g.types.map ZB)[m.owner.toNat]?=some (ZB (g.types.getD m.owner.toNat default)):=by
 rw [zT h.o1];exact Yy h.o1
theorem zn7 {g:Img} (hf:yI g=true) {t:Int} (h0:0≤t) (h1:t.toNat < g.types.length):0≤(g.types.getD t.toNat default).flags∧(g.types.getD t.toNat default).flags≤31:=by
 have:typeAt g t=some (g.types.getD t.toNat default):=by
  rw [typeAt,if_pos h0,zT h1];exact List.getElem?_eq_getElem h1
 have:=zai hf this;exact ⟨this.1,this.2.1⟩
set_option maxHeartbeats 4000000 in
theorem zn8 (g:Img) (hf:yI g=true) (m:Me) (h:MeOk g m):ACall Tryz.prog 53 [zO g,yh m] (pb (zlS g m)):=by
 obtain ⟨h1,h2,h4,h8,h16⟩:=zwC h;have ck:=ZI g hf m.owner;have hk:=h.kind;have hgm:g.methods.length≤64:=(yG hf).2.2.1;have cm:=YG g m.owner zwy62;have hml:=Xl g m.owner;have hto:=zt9 h;have hfl:=zn7 hf h.o0 h.o1;have hfe:qL (g.types.getD m.owner.toNat default).flags 4=qJ (g.types.getD m.owner.toNat default).flags 4:=(zbn hfl.1 hfl.2).2.2.1;have hms:(((((methodsOf g m.owner).map pi).length:Nat):Int)==1)=((methodsOf g m.owner).length==1):=by
  rw [List.length_map,Bool.eq_iff_iff];simp only [beq_iff_eq];omega
 refine zi zf Tryz.func53 rfl zws Tryz.ntmps53 zwy63 _ rfl (fun hw gB hgB=>?_);rw [zlS];generalize qJ m.flags 4=b4 at h4 ⊢;rw [←hfe,qL];rcases hk with hk|hk|hk|hk <;> rw [hk] at ck ⊢ <;> clear hk
 all_goals repeat' (first|(refine shC ?_;first|refine qC ck ?_|refine qC h4 ?_|refine qC cm ?_)|(refine shX ?_;first|refine zy rfl (ah h.o0 hto) rfl rfl ?_|refine zq rfl (ah h.o0 hto) rfl rfl ?_)|refine sA ?_|refine sC (fun _=>?_) (fun _=>?_)|fail)
 all_goals (refine ay ?_;first|(simp_all [zC,zmq];done)|(simp_all [zC,zmq];omega))
set_option maxHeartbeats 20000000
theorem zse (g:Img) (hf:yI g=true) (t:Ty):ACall Tryz.prog 96 [zO g,yJ t] (pb (zjG g t)):=by
 have ck:=ZI g hf t.index;refine zi zf Tryz.func96 rfl zws Tryz.ntmps96 zwy63 _ rfl (fun hw gB hgB=>?_);rw [zjG];generalize yt g t.index=k at ck ⊢
 repeat' (first|(refine shC ?_;first|refine qC ck ?_)|refine sA ?_|refine sC (fun _=>?_) (fun _=>?_)|fail)
 all_goals (refine ay ?_;simp_all [zC])
theorem znN (g:Img) (hf:yI g=true) (t:Ty):ACall Tryz.prog 95 ([]++[yJ t]++[.ptr (zO g) 0]) (pb (!zjG g t)):=by
 show ACall Tryz.prog 95 [yJ t,.ptr (zO g) 0] (pb (!zjG g t))
 refine zi zf Tryz.func95 rfl zws Tryz.ntmps95 zwy63 _ rfl (fun hw gB hgB=>?_)
 repeat' (first|(refine shC ?_;first|refine qC (zse g hf t) ?_)|refine sA ?_|refine sC (fun _=>?_) (fun _=>?_)|fail)
 exact retq rfl rfl
def Xm (a b c:List Ty):Nat→Int
 | 0=>0
 | 1=>a.length
 | 2=>a.length + b.length
 | _=>a.length + b.length + c.length
def zfw (a b c:List Ty):Nat→List Ty
 | 0=>[]
 | 1=>a
 | 2=>a++b
 | _=>a++b++c
theorem zwk24 {G:Prop} (h:G:=by repeat' (first|(have:=b0;refine zy rfl (zdJ zf rfl (by first|omega|(simp [Xm] <;> omega)) (by first|omega|(simp [Xm] <;> omega))) rfl rfl ?_)|(refine shX ?_;first|(have:=b0;refine zy rfl (zo zf rfl rfl rfl rfl rfl rfl zwy67 rfl) rfl rfl ?_)|(have:=b0;refine zq rfl (zo zf rfl rfl rfl rfl rfl rfl zwy67 rfl) rfl rfl ?_))|(have:=b1;refine yC ?_;first|refine qI zf rfl rfl rfl rfl rfl rfl rfl (by show _ * 32≤_;simp [zfw];omega) (by simp [zfw];omega) rfl rfl ?_)|refine sK ?_|refine sC (fun _=>?_) (fun _=>?_)|(have:=b2;exact ⟨1,by omega,tD,by repeat (first|exact qh|refine yU rfl ?_|(refine ZF rfl ?_ ?_;· (first|(simp [Xm];done)|(simp [Xm];omega)|omega))),tH⟩)|(have:=b3;exact ⟨2,by omega,tD,by repeat (first|exact qh|refine yU rfl ?_|(refine ZF rfl ?_ ?_;· (first|(simp [Xm];done)|(simp [Xm];omega)|omega))),tH⟩)|(have:=b4;exact ⟨3,by omega,tD,by repeat (first|exact qh|refine yU rfl ?_|(refine ZF rfl ?_ ?_;· (first|(simp [Xm];done)|(simp [Xm];omega)|omega))),tH⟩)|(have:=b5;exact ⟨1,by omega,tD,by repeat (first|exact qh|refine yU rfl ?_|(refine ZF rfl ?_ ?_;· omega)),⟨aB zA,rfl⟩⟩)|(have:=b6;exact ⟨2,by omega,tD,by repeat (first|exact qh|refine yU rfl ?_|(refine ZF rfl ?_ ?_;· omega)),⟨zx (by show some (HE.row 40 4 (_++_))=_;simp [zfw]) zA,rfl⟩⟩)|(have:=b7;exact ⟨3,by omega,tD,by repeat (first|exact qh|refine yU rfl ?_|(refine ZF rfl ?_ ?_;· omega)),⟨zx (by show some (HE.row 40 4 (_++_))=_;simp [zfw]) zA,rfl⟩⟩)|exact ⟨.inr rfl,0,rfl,rfl⟩|fail)):G:=h
theorem zll (a b c:List Ty) (ha:a.length≤100) (hb:b.length≤100) (hc:c.length≤100):ACallR Tryz.prog 94 [.slc 1 [tys a,tys b,tys c] true] 40 4 ((a++b++c).map yJ):=by
 refine zeP Tryz.func94 rfl zws Tryz.ntmps94 zwy63 rfl (fun hw gB hgB=>?_)
 repeat' (first|refine sK ?_|refine sC (fun _=>?_) (fun _=>?_)|fail)
 refine zW (fun k:Nat=>[(0,.pv (.slc 1 [tys a,tys b,tys c] true)),(9,.pv (.slc 1 [tys a,tys b,tys c] true)),(10,.pv (pi 3)),(11,.pv (pi k)),(3,.pv (pi (Xm a b c k)))]) (fun _=>[]) (fun k=>k≤3) (fun k=>3 - k) 0 zwy62 (tS) tH ?_;intro k hk;have hk3:k=0∨k=1∨k=2∨k=3:=by omega
 rcases hk3 with rfl|rfl|rfl|rfl
 ·have b0:=();have b2:=();exact zwk24
 ·have b0:=();have b3:=();exact zwk24
 ·have b0:=();have b4:=();exact zwk24
 ·repeat' (first|(refine zn ?_;first|refine zcG 0 rfl rfl rfl (zkH _ (by simp [Xm];omega) (by simp [Xm];omega)) zwy67 rfl rfl rfl ?_)|refine sK ?_|refine sC (fun _=>?_) (fun _=>?_)|fail)
  refine zW (fun k:Nat=>[(6,.own 0),(25,.pv (.slc 1 [tys a,tys b,tys c] true)),(26,.pv (pi 3)),(27,.pv (pi k))]) (fun k=>[(0,.row 40 4 ((zfw a b c k).map yJ))]) (fun k=>k≤3) (fun k=>3 - k) 0 zwy62 (tS) tH ?_;intro k hk;have hk3:k=0∨k=1∨k=2∨k=3:=by omega
  rcases hk3 with rfl|rfl|rfl|rfl
  ·have b0:=();have b1:=();have b5:=();exact zwk24
  ·have b0:=();have b1:=();have b6:=();exact zwk24
  ·have b0:=();have b1:=();have b7:=();exact zwk24
  ·exact zwk24
theorem zkw {α β:Type} {l:List α} {p:α→Bool} {f:α→β} {k:Nat} (h:k < l.length):(((l.take (k + 1)).filter p).map f)=((l.take k).filter p).map f++(if p l[k] then [f l[k]] else []):=by
 rw [List.take_succ_eq_append_getElem h,List.filter_append,List.map_append];cases hp:p l[k] <;> simp [hp]
theorem zss {g:Img} {m:Me} (h:MeOk g m) {x:Ins} (hx:x∈m.code):1≤x.op∧x.op≤75:=by
 have:=h.formed;simp only [ZT,zac,Bool.and_eq_true,List.all_eq_true,codeOk] at this;have:=(this.2.1.1.2 x hx).1;exact zsz (by simpa using this)
def isT (x:Ins):Bool:=yL x.op==8
def isC (c:Cl):Bool:=c.kind==1
def zku (m:Me):List Ty:=m.params++m.locals++[m.ret]
theorem zrY (m:Me):zcT m=zku m++(m.code.filter isT).map (·.t)++(m.clauses.filter isC).map (·.t):=rfl
theorem zwk25 {G:Prop} (h:G:=by repeat' (first|(refine shC ?_;first|(have:=b0;refine qC co ?_)|(have:=b1;refine qC cu ?_))|(refine shX ?_;first|(have:=b2;refine qX he ?_))|(have:=b3;refine yC ?_;first|refine qI zf rfl rfl rfl rfl rfl rfl rfl (by show _ * 32≤_;simp only [List.length_map,List.length_append,List.length_cons,List.length_nil];omega) (by simp only [List.length_map,List.length_append,List.length_cons,List.length_nil];omega) rfl rfl ?_)|refine sK ?_|refine sC (fun _=>?_) (fun _=>?_)|(have:=b4;exact ⟨k + 1,hlt,tD,tS,⟨Yk rfl (by rw [hn]) zA,rfl⟩⟩)|(have:=b3;exact ⟨k + 1,hlt,tD,tS,⟨Yk rfl (by rw [hn];simp;rfl) zA,rfl⟩⟩)|(have:=b1;exact retq rfl (by simp [zC]))|fail)):G:=h
set_option maxHeartbeats 4000000 in
theorem znJ (g:Img) (hf:yI g=true) (m:Me) (h:MeOk g m):ACall Tryz.prog 54 [zO g,yh m] (pb (zje g m)):=by
 obtain ⟨s1,s2,s3,s4,s5,s6⟩:=h.small;have hc3:=zll m.params m.locals [m.ret] zwy62 zwy62 zwy63;have ht:PTells (.slc 4 [yJ m.ret] true) (tys [m.ret]):=zdT (Xq (ql (.refl _) (ql (.refl _) (ql (.refl _) (ql (.refl _) XR)))) zcg);have hh:(zku m).length≤19:=by simp [zku];omega
 have cu:=Zw (zcT m) (fun t=>!zjG g t) 95 [] [.ptr (zO g) 0] (fun t _=>znN g hf t);rw [←List.not_all_eq_any_not,ztl h.formed] at cu;refine zi zf Tryz.func54 rfl zws Tryz.ntmps54 zwy63 _ rfl (fun hw gB hgB=>?_)
 repeat' (first|refine Qq 18 ht rfl ?_|(refine zn ?_;first|refine zcG 5 rfl rfl rfl hc3 zwy67 rfl rfl rfl ?_)|refine sK ?_|refine sC (fun _=>?_) (fun _=>?_)|fail)
 refine zW (fun k:Nat=>[(2,.pv (.ptr (zO g) 0)),(3,.pv (.ptr (yh m) 0)),(5,.own 5),(22,.pv (.slc 6 (m.code.map qx) false)),(23,.pv (pi m.code.length)),(24,.pv (pi k))])
  (fun k=>[(5,.row 40 4 ((zku m++((m.code.take k).filter isT).map (·.t)).map yJ))]) (fun k=>k≤m.code.length) (fun k=>m.code.length - k) 0 zwy62
  zwy71 ⟨Yk rfl (by simp [zku]) zA,rfl⟩ ?_
 rintro k hk;by_cases hlt:k < m.code.length
 ·have he:=zY (f:=qx) hlt;obtain ⟨o1,o2⟩:=zss h (List.getElem_mem hlt);have co:=zc3 m.code[k].op o1 o2;rw [(zlI _ o1 o2).2] at co;have hsl:((m.code.take k).filter isT).length≤160:=by
   have:=List.length_filter_le isT (m.code.take k);rw [List.length_take] at this;omega
  have hn:=zkw (p:=isT) (f:=(·.t)) hlt;cases hop:yL m.code[k].op==8
  ·rw [show isT m.code[k]=false from hop,if_neg zwy63,List.append_nil] at hn;have b0:=();have b2:=();have b4:=();exact zwk25
  ·rw [show isT m.code[k]=true from hop,if_pos rfl] at hn;have b0:=();have b2:=();have b3:=();exact zwk25
 ·have hk2:k=m.code.length:=by omega
  subst hk2;have hsl:(m.code.filter isT).length≤160:=by
   have:=List.length_filter_le isT m.code;omega
  rw [List.take_length]
  repeat' (first|refine sK ?_|refine sC (fun _=>?_) (fun _=>?_)|fail)
  refine zW (fun k:Nat=>[(2,.pv (.ptr (zO g) 0)),(5,.own 5),(44,.pv (.slc 10 (m.clauses.map Zg) false)),(45,.pv (pi m.clauses.length)),(46,.pv (pi k))])
   (fun k=>[(5,.row 40 4 ((zku m++(m.code.filter isT).map (·.t)++((m.clauses.take k).filter isC).map (·.t)).map yJ))]) (fun k=>k≤m.clauses.length) (fun k=>m.clauses.length - k) 0 zwy62
   zwy71 ⟨Yk rfl zwy63 zA,rfl⟩ ?_
  clear hk hlt;rintro k hk;by_cases hlt:k < m.clauses.length
  ·have he:=zY (f:=Zg) hlt;have hsl2:((m.clauses.take k).filter isC).length≤6:=by
    have:=List.length_filter_le isC (m.clauses.take k);rw [List.length_take] at this;omega
   have hn:=zkw (p:=isC) (f:=(·.t)) hlt;cases hop:m.clauses[k].kind==1
   ·rw [show isC m.clauses[k]=false from hop,if_neg zwy63,List.append_nil] at hn;have b2:=();have b4:=();exact zwk25
   ·rw [show isC m.clauses[k]=true from hop,if_pos rfl] at hn;have b2:=();have b3:=();exact zwk25
  ·have hk2:k=m.clauses.length:=by omega
   subst hk2;rw [List.take_length,←zrY];have b1:=();exact zwk25
end Go.Cg
