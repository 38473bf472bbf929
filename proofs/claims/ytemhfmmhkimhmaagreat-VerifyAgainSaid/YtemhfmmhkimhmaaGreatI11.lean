/- A part of the walks by abstract values: no statement of its own. -/
import Derived.Test.YtemhfmmhkimhmaaGreatI8
import Derived.Test.YtemhfmmhkimhmaaGreatI5
set_option linter.unusedVariables false
set_option linter.unusedSimpArgs false
namespace Go.Cg
open Go.Proofs
set_option maxHeartbeats 20000000
def object (t:Ty):Bool:=!t.ref&&(decide (0 < t.dims)||t.kind==4||t.kind==5||t.kind==7||t.kind==8)
theorem qY (t:Ty):ACall Tryz.prog 178 [yI t] (pb (object t)):=by
 refine zh zf Tryz.func178 rfl zws Tryz.ntmps178 zwy63 _ rfl (fun hw gB hgB=>?_)
 repeat' (first|refine sA ?_|refine sC (fun _=>?_) (fun _=>?_)|fail)
 all_goals (first|refine ak ?_|refine Yi rfl ?_)
 all_goals (first|(simp_all [zn,object];done)|(simp_all [zn,object];omega))
def there (g:Img) (t:Int):Bool:=decide (0<=t)&&decide (t < g.types.length)
theorem Qd (g:Img) (t:Int):ACall Tryz.prog 58 [zK g,pi t] (pb (there g t)):=by
 refine zh zf Tryz.func58 rfl zws Tryz.ntmps58 zwy63 _ rfl (fun hw gB hgB=>?_)
 repeat' (first|refine sA ?_|refine sC (fun _=>?_) (fun _=>?_)|fail)
 all_goals (first|refine ak ?_|refine Yi rfl ?_)
 all_goals (first|(simp_all [zn,there];done)|(simp_all [zn,there];omega))
theorem QL (g:Img) (t:Int):ACall Tryz.prog 71 [zK g,pi t] (pb (there g t)):=by
 refine zh zf Tryz.func71 rfl zws Tryz.ntmps71 zwy63 _ rfl (fun hw gB hgB=>?_)
 repeat' (first|refine sA ?_|refine sC (fun _=>?_) (fun _=>?_)|fail)
 all_goals (first|refine ak ?_|refine Yi rfl ?_)
 all_goals (first|(simp_all [zn,there];done)|(simp_all [zn,there];omega))
def plain (t:Ty) (k:Int):Bool:=t.kind==k&&t.dims==0&&!t.ref
theorem Xj (t:Ty) (k:Int):ACall Tryz.prog 188 [yI t,pi k] (pb (plain t k)):=by
 refine zh zf Tryz.func188 rfl zws Tryz.ntmps188 zwy63 _ rfl (fun hw gB hgB=>?_)
 repeat' (first|refine sA ?_|refine sC (fun _=>?_) (fun _=>?_)|fail)
 all_goals (first|refine ak ?_|refine Yi rfl ?_)
 all_goals (first|(simp_all [zn,plain];done)|(simp_all [zn,plain];omega))
theorem zh6:ACall Tryz.prog 190 [] (yI ⟨7,0,0,false⟩):=by
 refine zh zf Tryz.func190 rfl zws Tryz.ntmps190 zwy63 _ rfl (fun hw gB hgB=>?_)
 repeat' (first|refine sA ?_|refine sC (fun _=>?_) (fun _=>?_)|fail)
 exact retq rfl rfl
theorem zg1:ACall Tryz.prog 192 [] (yI ⟨4,0,0,false⟩):=by
 refine zh zf Tryz.func192 rfl zws Tryz.ntmps192 zwy63 _ rfl (fun hw gB hgB=>?_)
 repeat' (first|refine sA ?_|refine sC (fun _=>?_) (fun _=>?_)|fail)
 exact retq rfl rfl
set_option maxHeartbeats 20000000
def bounds (c:Cl) (part:Int):Int × Int :=
 if part==1 then (c.tf,c.tt) else if part==2 then (c.hf,c.ht) else if c.kind==2 then (c.filter,c.hf) else (0,0)
theorem Xm (c:Cl) (p:Int):ACall Tryz.prog 305 [qR c,pi p] (.tup [pi (bounds c p).1,pi (bounds c p).2]):=by
 refine zh zf Tryz.func305 rfl zws Tryz.ntmps305 zwy63 _ rfl (fun hw gB hgB=>?_)
 repeat' (first|refine sA ?_|refine sC (fun _=>?_) (fun _=>?_)|fail)
 all_goals (refine ak ?_)
 all_goals (simp_all [bounds,zn])
def meet (a:Cl) (p:Int) (b:Cl) (q:Int):Bool :=
 decide ((bounds a p).1 < (bounds b q).2)&&decide ((bounds b q).1 < (bounds a p).2)&&decide ((bounds a p).1 < (bounds a p).2)&&decide ((bounds b q).1 < (bounds b q).2)
theorem zce (a:Cl) (p:Int) (b:Cl) (q:Int):ACall Tryz.prog 304 [qR a,pi p,qR b,pi q] (pb (meet a p b q)):=by
 refine zh zf Tryz.func304 rfl zws Tryz.ntmps304 zwy63 _ rfl (fun hw gB hgB=>?_)
 repeat' (first|(refine shC ?_;first|refine qC (Xm a p) ?_|refine qC (Xm b q) ?_)|refine sA ?_|refine sC (fun _=>?_) (fun _=>?_)|fail)
 all_goals (first|refine ak ?_|refine Yi rfl ?_)
 all_goals (first|(simp_all [zn,meet];done)|(simp_all [zn,meet];omega))
def within (a:Cl) (p:Int) (b:Cl) (q:Int):Bool :=
 if (bounds a p).1==0&&(bounds a p).2==0 then true
 else decide ((bounds b q).1<=(bounds a p).1)&&decide ((bounds a p).2<=(bounds b q).2)&&(decide ((bounds b q).1 < (bounds a p).1)||decide ((bounds a p).2 < (bounds b q).2))
theorem YX (a:Cl) (p:Int) (b:Cl) (q:Int):ACall Tryz.prog 306 [qR a,pi p,qR b,pi q] (pb (within a p b q)):=by
 refine zh zf Tryz.func306 rfl zws Tryz.ntmps306 zwy63 _ rfl (fun hw gB hgB=>?_)
 repeat' (first|(refine shC ?_;first|refine qC (Xm a p) ?_|refine qC (Xm b q) ?_)|refine sA ?_|refine sC (fun _=>?_) (fun _=>?_)|fail)
 all_goals (first|refine ak ?_|refine Yi rfl ?_)
 all_goals (first|(simp_all [zn,within];done)|(simp_all [zn,within];omega))
set_option maxHeartbeats 20000000
theorem zdk {l:List Int} (h:(ints l).lenOk):l.length<=9223372036854775807:=by
 simp [ints,PV.lenOk,maxLen] at h;exact h.1
theorem qI {l:List Int} {k:Nat} (h:k < l.length):(l.map pi)[k]?=some (pi l[k]):=by simp [h]
theorem zbr {l:List Ty} {k:Nat} (h:k < l.length):(l.map yI)[k]?=some (yI l[k]):=by simp [h]
theorem zeb {α:Type} [DecidableEq α] {l:List α} {k:Nat} {n:α} (h:k < l.length) (hno:n∉l.take k) (hne:¬ l[k]=n):n∉l.take (k + 1):=by
 rw [List.take_succ_eq_append_getElem h];simp only [List.mem_append,List.mem_singleton,not_or];exact ⟨hno,fun e=>hne e.symm⟩
theorem XP (l:List Int) (n:Int):ACall Tryz.prog 95 [ints l,pi n] (pb (decide (n∈l))):=by
 refine zh zf Tryz.func95 rfl zws Tryz.ntmps95 zwy63 _ rfl (fun hw gB hgB=>?_);have hl:=zdk hw.1
 repeat' (first|refine sA ?_|refine sC (fun _=>?_) (fun _=>?_)|fail)
 refine zL (fun k:Nat=>[(0,.pv (ints l)),(1,.pv (pi n)),(5,.pv (pi k))]) (fun _=>[]) (fun k=>k<=l.length/\n∉l.take k) (fun k=>l.length - k) 0 ⟨by simp,by simp⟩ (tS) tH ?_;rintro k ⟨hk,hno⟩;by_cases hlt:k < l.length
 ·have he:=qI hlt
  repeat' (first|(refine shX ?_;first|refine qX he ?_)|refine sK ?_|refine sC (fun _=>?_) (fun _=>?_)|fail)
  ·rename_i h;refine ak ?_;have:n∈l:=by have:=List.getElem_mem hlt;simp at h;rwa [h] at this
   simp [zn,this]
  ·rename_i h;simp at h;exact ⟨k + 1,⟨by omega,zeb hlt hno h⟩,tD,tS,tH⟩
 ·repeat' (first|refine sK ?_|refine sC (fun _=>?_) (fun _=>?_)|fail)
  refine ak ?_;have:n∉l:=by rw [List.take_of_length_le zwy62] at hno;exact hno
  simp [zn,this]
def idx (l:List Int) (v:Int):Int:=if v∈l then (l.findIdx (· == v):Nat) else -1
theorem zim (l:List Int) (n:Int):ACall Tryz.prog 207 [ints l,pi n] (pi (idx l n)):=by
 refine zh zf Tryz.func207 rfl zws Tryz.ntmps207 zwy63 _ rfl (fun hw gB hgB=>?_);have hl:=zdk hw.1
 repeat' (first|refine sA ?_|refine sC (fun _=>?_) (fun _=>?_)|fail)
 refine zL (fun k:Nat=>[(0,.pv (ints l)),(1,.pv (pi n)),(7,.pv (pi l.length)),(8,.pv (pi k))]) (fun _=>[]) (fun k=>k<=l.length/\n∉l.take k) (fun k=>l.length - k) 0 ⟨by simp,by simp⟩ zwy71 tH ?_;rintro k ⟨hk,hno⟩;by_cases hlt:k < l.length
 ·have he:=qI hlt
  repeat' (first|(refine shX ?_;first|refine qX he ?_)|refine sK ?_|refine sC (fun _=>?_) (fun _=>?_)|fail)
  ·rename_i h;refine ak ?_;simp at h;have hm:n∈l:=by have:=List.getElem_mem hlt;rwa [<-h] at this
   have hi:l.findIdx (· == n)=k:=by
    rw [List.findIdx_eq hlt];refine ⟨by simp [h],fun j hj=>?_⟩;simp only [beq_eq_false_iff_ne];intro e;refine hno ?_;rw [<-e,List.mem_take_iff_getElem];exact ⟨j,by omega,rfl⟩
   simp [zn,idx,hm,hi]
  ·rename_i h;simp at h;exact ⟨k + 1,⟨by omega,zeb hlt hno (fun e=>h e.symm)⟩,tD,tS,tH⟩
 ·repeat' (first|refine sK ?_|refine sC (fun _=>?_) (fun _=>?_)|fail)
  refine ak ?_;have:n∉l:=by rw [List.take_of_length_le zwy62] at hno;exact hno
  simp [zn,idx,this]
theorem Qc (l:List Int) (n:Int):ACall Tryz.prog 150 [ints l,pi n] (pb (decide (n∈l))):=by
 refine zh zf Tryz.func150 rfl zws Tryz.ntmps150 zwy63 _ rfl (fun hw gB hgB=>?_)
 repeat' (first|(refine shC ?_;first|refine qC (zim _ _) ?_)|refine sA ?_|refine sC (fun _=>?_) (fun _=>?_)|fail)
 refine ak ?_;by_cases h:n∈l <;> simp [zn,idx,h]
set_option maxHeartbeats 20000000
def WJ (n:Int) (c:Cl):Bool:=decide (0<=c.tf)&&decide (c.tf < c.tt)&&decide (c.tt<=n)
def zbi (n:Int) (c:Cl):Bool:=decide (0<=c.hf)&&decide (c.hf < c.ht)&&decide (c.ht<=n)
def Qg (n:Int) (c:Cl):Int :=
 if decide (c.kind < 1)||decide (4 < c.kind)||!WJ n c||!zbi n c then 3
 else if c.kind==2&&(decide (c.filter < 0)||decide (c.hf<=c.filter))||c.kind != 2&&c.filter != -1 then 3
 else if meet c 1 c 2||meet c 1 c 3||meet c 2 c 3 then 12
 else 0
theorem zju (n:Int) (c:Cl):ACall Tryz.prog 288 [pi n,qR c] (pi (Qg n c)):=by
 refine zh zf Tryz.func288 rfl zws Tryz.ntmps288 zwy63 _ rfl (fun hw gB hgB=>?_);refine Xo [(0,.pv (pi n)),(3,.pv (.ptr (qR c) 0))] [] ?_ ?_
 ·repeat' (first|refine sA ?_|refine sC (fun _=>?_) (fun _=>?_)|fail)
  all_goals (refine ⟨?_,tH⟩;repeat (first|exact yO|refine yA rfl ?_|(refine ze0 rfl ?_ ?_;· (first|(simp_all [WJ];done)|(simp_all [WJ];omega)))|(refine qW rfl ?_ ?_;· (rw [wrap_in zwy62 zwy62] <;> omega))))
 refine Xo [(0,.pv (pi n)),(3,.pv (.ptr (qR c) 0)),(5,.pv (pb (WJ n c)))] [] ?_ ?_
 ·repeat' (first|refine sA ?_|refine sC (fun _=>?_) (fun _=>?_)|fail)
  all_goals (refine ⟨?_,tH⟩;repeat (first|exact yO|refine yA rfl ?_|(refine ze0 rfl ?_ ?_;· (first|(simp_all [WJ];done)|(simp_all [WJ];omega)))|(refine qW rfl ?_ ?_;· (rw [wrap_in zwy62 zwy62] <;> omega))))
 refine Xo [(0,.pv (pi n)),(3,.pv (.ptr (qR c) 0)),(5,.pv (pb (WJ n c))),(6,.pv (pb (zbi n c)))] [] ?_ ?_
 ·repeat' (first|refine sA ?_|refine sC (fun _=>?_) (fun _=>?_)|fail)
  all_goals (refine ⟨?_,tH⟩;repeat (first|exact yO|refine yA rfl ?_|(refine ze0 rfl ?_ ?_;· (first|(simp_all [zbi];done)|(simp_all [zbi];omega)))|(refine qW rfl ?_ ?_;· (rw [wrap_in zwy62 zwy62] <;> omega))))
 repeat' (first|(refine shC ?_;first|refine qC (zce c 1 c 2) ?_|refine qC (zce c 1 c 3) ?_|refine qC (zce c 2 c 3) ?_)|refine sA ?_|refine sC (fun _=>?_) (fun _=>?_)|fail)
 all_goals (first|refine ak ?_|refine Yi rfl ?_)
 all_goals (first|(simp_all [zn,Qg];done)|(simp_all [zn,Qg];omega))
def Yl (a b:Cl) (q:Int):Bool:=decide ((bounds b q).1 < (bounds b q).2)&&within a 1 b q&&within a 2 b q&&within a 3 b q
def zmF (a b:Cl) (q:Int):Bool:=q==1||!(a.hf==(bounds b q).1||a.kind==2&&a.filter==(bounds b q).1)
def badM (a b:Cl) (p q:Int):Bool:=meet a p b q&&!((a.tf==b.tf&&a.tt==b.tt)&&p==1&&q==1)
def Wu (a b:Cl):Bool :=
 if Yl a b 1 then zmF a b 1 else if Yl a b 2 then zmF a b 2 else if Yl a b 3 then zmF a b 3
 else !(badM a b 1 1||badM a b 1 2||badM a b 1 3||badM a b 2 1||badM a b 2 2||badM a b 2 3||badM a b 3 1||badM a b 3 2||badM a b 3 3)
def zai (a b:Cl) (k:Nat):Bool:=(List.range k).any fun i=>badM a b (i / 3 + 1:Nat) (i % 3 + 1:Nat)
theorem zol (a b:Cl) (k:Nat):zai a b (k + 1)=(zai a b k||badM a b (k / 3 + 1:Nat) (k % 3 + 1:Nat)):=by
 simp [zai,List.range_succ]
theorem zmd (a b:Cl):zai a b 9=(badM a b 1 1||badM a b 1 2||badM a b 1 3||badM a b 2 1||badM a b 2 2||badM a b 2 3||badM a b 3 1||badM a b 3 2||badM a b 3 3):=by
 simp [zai,List.range_succ,Bool.or_assoc]
theorem zvL {a b:Cl} {k:Nat} (h1:1<=k) (h3:k<=3) (hno:∀ q:Nat,1<=q->q < k->Yl a b q=false) (hc:Yl a b k=true):Wu a b=zmF a b k:=by
 rcases (by omega:k=1\/k=2\/k=3) with rfl|rfl|rfl
 ·have hc:Yl a b 1=true:=hc;simp [Wu,hc]
 ·have e1:Yl a b 1=false:=hno 1 zwy62 zwy62;have hc:Yl a b 2=true:=hc;simp [Wu,hc,e1]
 ·have e1:Yl a b 1=false:=hno 1 zwy62 zwy62;have e2:Yl a b 2=false:=hno 2 zwy62 zwy62;have hc:Yl a b 3=true:=hc;simp [Wu,hc,e1,e2]
theorem zwb {a b:Cl} (hno:∀ q:Nat,1<=q->q < 4->Yl a b q=false):Wu a b=!zai a b 9:=by
 have e1:Yl a b 1=false:=hno 1 zwy62 zwy62;have e2:Yl a b 2=false:=hno 2 zwy62 zwy62;have e3:Yl a b 3=false:=hno 3 zwy62 zwy62;rw [zmd];simp [Wu,e1,e2,e3]
theorem zrj {a b:Cl} {k:Nat} (hk:k < 9) (h:badM a b (k / 3 + 1:Nat) (k % 3 + 1:Nat)=true):zai a b 9=true:=by
 simp only [zai,List.any_eq_true,List.mem_range];exact ⟨k,hk,h⟩
theorem zgZ (a b:Cl):ACall Tryz.prog 289 [qR a,qR b] (pb (Wu a b)):=by
 refine zh zf Tryz.func289 rfl zws Tryz.ntmps289 zwy63 _ rfl (fun hw gB hgB=>?_);refine Xo [(2,.pv (.ptr (qR a) 0)),(3,.pv (.ptr (qR b) 0))] [] ?_ ?_
 ·repeat' (first|refine sA ?_|refine sC (fun _=>?_) (fun _=>?_)|fail)
  all_goals (refine ⟨?_,tH⟩;repeat (first|exact yO|refine yA rfl ?_|(refine ze0 rfl ?_ ?_;· (first|(simp_all [Yl];done)|(simp_all [Yl];omega)))|(refine qW rfl ?_ ?_;· (rw [wrap_in zwy62 zwy62] <;> omega))))
 by_cases hall:∀ q:Nat,1<=q->q < 4->Yl a b q=false
 ·refine Xo [(2,.pv (.ptr (qR a) 0)),(3,.pv (.ptr (qR b) 0))] [] ?_ ?_
  ·repeat' (first|refine sA ?_|refine sC (fun _=>?_) (fun _=>?_)|fail)
   refine zL (fun k:Nat=>[(2,.pv (.ptr (qR a) 0)),(3,.pv (.ptr (qR b) 0)),(5,.pv (pi k))]) (fun _=>[]) (fun k=>1<=k/\k<=4) (fun k=>4 - k) 1 ⟨by omega,by omega⟩ (tS) tH ?_;rintro k ⟨hk1,hk2⟩;by_cases hlt:k<=3
   ·have hc:=hall k hk1 zwy62
    repeat' (first|(refine shC ?_;first|refine qC (Xm b k) ?_|refine qC (YX a 1 b k) ?_|refine qC (YX a 2 b k) ?_|refine qC (YX a 3 b k) ?_)|refine sK ?_|refine sC (fun _=>?_) (fun _=>?_)|fail)
    all_goals first
     | exact ⟨k + 1,⟨by omega,by omega⟩,tD,tS,tH⟩
     | (exfalso;simp_all [Yl];done)
   ·repeat' (first|refine sK ?_|refine sC (fun _=>?_) (fun _=>?_)|fail)
    exact ⟨tS,tH⟩
  have hfin:=zwb hall;refine Xo [(2,.pv (.ptr (qR a) 0)),(3,.pv (.ptr (qR b) 0)),(8,.pv (pb (a.tf==b.tf&&a.tt==b.tt)))] [] ?_ ?_
  ·repeat' (first|refine sA ?_|refine sC (fun _=>?_) (fun _=>?_)|fail)
   all_goals (refine ⟨?_,tH⟩;repeat (first|exact yO|refine yA rfl ?_|(refine ze0 rfl ?_ ?_;· (first|(simp_all [Yl];done)|(simp_all [Yl];omega)))|(refine qW rfl ?_ ?_;· (rw [wrap_in zwy62 zwy62] <;> omega))))
  repeat' (first|refine sA ?_|refine sC (fun _=>?_) (fun _=>?_)|fail)
  refine zL (fun k:Nat=>[(2,.pv (.ptr (qR a) 0)),(3,.pv (.ptr (qR b) 0)),(8,.pv (pb (a.tf==b.tf&&a.tt==b.tt))),(9,.pv (pi k))]) (fun _=>[]) (fun k=>1<=k/\k<=4/\zai a b (3 * (k - 1))=false) (fun k=>4 - k) 1 ⟨by omega,by omega,rfl⟩ (tS) tH ?_;rintro k ⟨hk1,hk2,hno⟩;by_cases hlt:k<=3
  ·repeat' (first|refine sK ?_|refine sC (fun _=>?_) (fun _=>?_)|fail)
   refine zL (fun m:Nat=>[(2,.pv (.ptr (qR a) 0)),(3,.pv (.ptr (qR b) 0)),(8,.pv (pb (a.tf==b.tf&&a.tt==b.tt))),(9,.pv (pi k)),(10,.pv (pi m))]) (fun _=>[]) (fun m=>1<=m/\m<=4/\zai a b (3 * (k - 1) + (m - 1))=false) (fun m=>4 - m) 1 ⟨by omega,by omega,hno⟩ (tS) tH ?_;rintro m ⟨hm1,hm2,hno⟩;by_cases hltm:m<=3
   ·have hidx:badM a b ((3 * (k - 1) + (m - 1)) / 3 + 1:Nat) ((3 * (k - 1) + (m - 1)) % 3 + 1:Nat)=badM a b k m:=by
     have e1:(3 * (k - 1) + (m - 1)) / 3 + 1=k:=by omega
     have e2:(3 * (k - 1) + (m - 1)) % 3 + 1=m:=by omega
     rw [e1,e2]
    have hsucc:=zol a b (3 * (k - 1) + (m - 1));rw [hidx,hno,Bool.false_or] at hsucc;cases hb:badM a b k m
    ·have hnext:zai a b (3 * (k - 1) + (m + 1 - 1))=false:=by
      rw [show 3 * (k - 1) + (m + 1 - 1)=3 * (k - 1) + (m - 1) + 1 by omega,hsucc,hb]
     clear hsucc hidx
     repeat' (first|(refine shC ?_;first|refine qC (zce a k b m) ?_)|refine sK ?_|refine sC (fun _=>?_) (fun _=>?_)|fail)
     all_goals first
      | exact ⟨m + 1,⟨by omega,by omega,hnext⟩,tD,tS,tH⟩
      | (exfalso;simp_all [badM];done)
    ·have hbad:=zrj (a:=a) (b:=b) (k:=3 * (k - 1) + (m - 1)) zwy62 (by rw [hidx];exact hb);clear hsucc hidx
     repeat' (first|(refine shC ?_;first|refine qC (zce a k b m) ?_)|refine sK ?_|refine sC (fun _=>?_) (fun _=>?_)|fail)
     all_goals first
      | exact retq rfl (by simp [zn,hfin,hbad])
      | (exfalso;simp_all [badM];done)
   ·repeat' (first|refine sK ?_|refine sC (fun _=>?_) (fun _=>?_)|fail)
    have:m=4:=by omega
    subst this;exact ⟨k + 1,⟨by omega,by omega,by rw [show 3 * (k + 1 - 1)=3 * (k - 1) + (4 - 1) by omega];exact hno⟩,tD,tS,tH⟩
  ·repeat' (first|refine sK ?_|refine sC (fun _=>?_) (fun _=>?_)|fail)
   have:k=4:=by omega
   subst this;exact retq rfl (by simp [zn,hfin,show zai a b 9=false from hno])
 ·
  have hex:∃ k:Nat,1<=k/\k<=3/\Yl a b k=true/\∀ q:Nat,1<=q->q < k->Yl a b q=false:=by
   cases h1:Yl a b 1
   ·cases h2:Yl a b 2
    ·cases h3:Yl a b 3
     ·exact (hall (fun q q1 q2=>by rcases (by omega:q=1\/q=2\/q=3) with rfl|rfl|rfl <;> assumption)).elim
     ·exact ⟨3,by omega,by omega,h3,fun q q1 q2=>by rcases (by omega:q=1\/q=2) with rfl|rfl <;> assumption⟩
    ·exact ⟨2,by omega,by omega,h2,fun q q1 q2=>by (obtain rfl:q=1:=by omega);assumption⟩
   ·exact ⟨1,by omega,by omega,h1,fun q q1 q2=>by omega⟩
  obtain ⟨k0,hk1,hk3,hc0,hno0⟩:=hex;have hfin:=zvL hk1 hk3 hno0 hc0;clear hall
  repeat' (first|refine sA ?_|refine sC (fun _=>?_) (fun _=>?_)|fail)
  refine zL (fun k:Nat=>[(2,.pv (.ptr (qR a) 0)),(3,.pv (.ptr (qR b) 0)),(5,.pv (pi k))]) (fun _=>[]) (fun k=>1<=k/\k<=k0) (fun k=>4 - k) 1 ⟨by omega,by omega⟩ (tS) tH ?_;rintro k ⟨hj1,hj2⟩;have hlt:k<=3:=by omega
  by_cases he:k=k0
  ·subst he
   repeat' (first|(refine shC ?_;first|refine qC (Xm b k) ?_|refine qC (YX a 1 b k) ?_|refine qC (YX a 2 b k) ?_|refine qC (YX a 3 b k) ?_)|refine sK ?_|refine sC (fun _=>?_) (fun _=>?_)|fail)
   all_goals first
    | (refine ak ?_;simp_all [zn,zmF];done)
    | (exfalso;simp_all [Yl];done)
    | (refine ak ?_;simp_all [zn,zmF];omega)
  ·have hc:=hno0 k hj1 zwy62
   repeat' (first|(refine shC ?_;first|refine qC (Xm b k) ?_|refine qC (YX a 1 b k) ?_|refine qC (YX a 2 b k) ?_|refine qC (YX a 3 b k) ?_)|refine sK ?_|refine sC (fun _=>?_) (fun _=>?_)|fail)
   all_goals first
    | exact ⟨k + 1,⟨by omega,by omega⟩,tD,tS,tH⟩
    | (exfalso;simp_all [Yl];done)
set_option maxHeartbeats 20000000
theorem zcL {l:List Ty} (h:(tys l).lenOk):l.length<=9223372036854775807:=by
 simp [tys,PV.lenOk,maxLen] at h;exact h.1
theorem zeY {α:Type} {a b:List α} {k:Nat} (ha:k < a.length) (hb:k < b.length) (h:a.take k=b.take k) (e:a[k]=b[k]):a.take (k + 1)=b.take (k + 1):=by
 rw [List.take_succ_eq_append_getElem ha,List.take_succ_eq_append_getElem hb,h,e]
theorem zaR (a b:List Ty):ACall Tryz.prog 12 [tys a,tys b] (pb (decide (a=b))):=by
 refine zh zf Tryz.func12 rfl zws Tryz.ntmps12 zwy63 _ rfl (fun hw gB hgB=>?_);have hl:=zcL hw.1;by_cases hlen:a.length=b.length
 ·repeat' (first|refine sK ?_|refine sC (fun _=>?_) (fun _=>?_)|fail)
  refine zL (fun k:Nat=>[(0,.pv (tys a)),(1,.pv (tys b)),(5,.pv (pi k))]) (fun _=>[]) (fun k=>k<=a.length/\a.take k=b.take k) (fun k=>a.length - k) 0 ⟨by simp,by simp⟩ (tS) tH ?_;rintro k ⟨hk,hno⟩;by_cases hlt:k < a.length
  ·have he:=zbr hlt;have hltb:k < b.length:=by omega
   have he':=zbr hltb
   repeat' (first|(refine shX ?_;first|refine qX he ?_|refine qX he' ?_)|refine sK ?_|refine sC (fun _=>?_) (fun _=>?_)|fail)
   ·rename_i h;refine ak ?_;have:a≠b:=by
     rintro rfl;simp at h
    simp [zn,this]
   ·rename_i h;have e:a[k]=b[k]:=by
     simp only [Bool.not_eq_false'] at h;rw [XQ] at h;simpa using h
    exact ⟨k + 1,⟨by omega,zeY hlt hltb hno e⟩,tD,tS,tH⟩
  ·repeat' (first|refine sK ?_|refine sC (fun _=>?_) (fun _=>?_)|fail)
   refine ak ?_;rw [List.take_of_length_le zwy62,List.take_of_length_le zwy62] at hno;simp [zn,hno]
 ·repeat' (first|refine sK ?_|refine sC (fun _=>?_) (fun _=>?_)|fail)
  refine ak ?_;have:a≠b:=by rintro rfl;exact hlen rfl
  simp [zn,this]
def ZV (t:Ty):Bool :=
 if decide (t.dims < 0)||decide (3 < t.dims)||decide (t.index < 0) then false
 else if t.kind==1 then t.dims==0&&!t.ref&&t.index==0
 else if t.kind==2||t.kind==3||t.kind==4 then t.index==0
 else if t.kind==5||t.kind==6 then decide (t.index < 32)
 else if t.kind==7 then decide (t.index<=7)
 else false
theorem zik (t:Ty):ACall Tryz.prog 96 [yI t] (pb (ZV t)):=by
 refine zh zf Tryz.func96 rfl zws Tryz.ntmps96 zwy63 _ rfl (fun hw gB hgB=>?_)
 repeat' (first|refine sA ?_|refine sC (fun _=>?_) (fun _=>?_)|fail)
 all_goals (first|refine ak ?_|refine Yi rfl ?_)
 all_goals (first|(simp_all [zn,ZV];done)|(simp_all [zn,ZV];omega))
def ZQ (t:Ty) (place:Int):Bool :=
 if !ZV t then false
 else if place==1 then t.kind != 1&&!t.ref
 else if place==2 then t.kind != 1
 else if place==3 then !t.ref
 else true
theorem zhW (t:Ty) (p:Int):ACall Tryz.prog 246 [yI t,pi p] (pb (ZQ t p)):=by
 refine zh zf Tryz.func246 rfl zws Tryz.ntmps246 zwy63 _ rfl (fun hw gB hgB=>?_)
 repeat' (first|(refine shC ?_;first|refine qC (zik _) ?_)|refine sA ?_|refine sC (fun _=>?_) (fun _=>?_)|fail)
 all_goals (first|refine ak ?_|refine Yi rfl ?_)
 all_goals (first|(simp_all [zn,ZQ];done)|(simp_all [zn,ZQ];omega))
def zgt (t:Ty) (n:Int):Bool:=(t.kind != 5&&t.kind != 6)||decide (t.index < n)
theorem znm (t:Ty) (n:Int):ACall Tryz.prog 247 [yI t,pi n] (pb (zgt t n)):=by
 refine zh zf Tryz.func247 rfl zws Tryz.ntmps247 zwy63 _ rfl (fun hw gB hgB=>?_)
 repeat' (first|refine sA ?_|refine sC (fun _=>?_) (fun _=>?_)|fail)
 all_goals (first|refine ak ?_|refine Yi rfl ?_)
 all_goals (first|(simp_all [zn,zgt];done)|(simp_all [zn,zgt];omega))
def Xv (t:Ty) (p n:Int):Bool:=ZQ t p&&zgt t n
theorem zb7 (t:Ty) (p n:Int):ACall Tryz.prog 218 [yI t,pi p,pi n] (pb (Xv t p n)):=by
 refine zh zf Tryz.func218 rfl zws Tryz.ntmps218 zwy63 _ rfl (fun hw gB hgB=>?_)
 repeat' (first|(refine shC ?_;first|refine qC (zhW _ _) ?_|refine qC (znm _ _) ?_)|refine sA ?_|refine sC (fun _=>?_) (fun _=>?_)|fail)
 all_goals (first|refine ak ?_|refine Yi rfl ?_)
 all_goals (first|(simp_all [zn,Xv];done)|(simp_all [zn,Xv];omega))
set_option maxHeartbeats 20000000
def cls (l:List Cl):PV:=.slc 10 (l.map qR) false
theorem zl4 {l:List Cl} (h:(cls l).lenOk):l.length<=9223372036854775807:=by
 simp [cls,PV.lenOk,maxLen] at h;exact h.1
theorem zbn {l:List Cl} {k:Nat} (h:k < l.length):(l.map qR)[k]?=some (qR (l.getD k default)):=by simp [h]
def QB (l:List Cl) (i m:Nat):Bool:=(List.range m).any fun k=>!Wu (l.getD k default) (l.getD i default)
theorem zeX (l:List Cl) (i m:Nat):QB l i (m + 1)=(QB l i m||!Wu (l.getD m default) (l.getD i default)):=by simp [QB,List.range_succ]
def Qj (n:Int) (l:List Cl) (i:Nat):Int :=
 if Qg n (l.getD i default) != 0 then Qg n (l.getD i default) else if QB l i i then 12 else 0
def Zu (n:Int) (l:List Cl):Int × Int :=
 if 6 < l.length then (0,4) else match (List.range l.length).find? (fun i=>Qj n l i != 0) with
  | some i=>(((i:Nat):Int),Qj n l i)
  | none=>(0,0)
theorem zcB {n:Int} {l:List Cl} {k:Nat} (h6:¬ 6 < l.length) (hk:k < l.length) (hno:∀ j,j < k->Qj n l j=0) (h:Qj n l k≠0):Zu n l=(((k:Nat):Int),Qj n l k):=by
 have:(List.range l.length).find? (fun i=>Qj n l i != 0)=some k:=by
  rw [List.find?_range_eq_some];exact ⟨by simpa using h,by simpa using hk,fun j hj=>by simp [hno j hj]⟩
 simp [Zu,h6,this]
theorem zeM {n:Int} {l:List Cl} (h6:¬ 6 < l.length) (hno:∀ j,j < l.length->Qj n l j=0):Zu n l=(0,0):=by
 have:(List.range l.length).find? (fun i=>Qj n l i != 0)=none:=by
  rw [List.find?_eq_none];intro j hj;simp [hno j (List.mem_range.1 hj)]
 simp [Zu,h6,this]
theorem zlU (n:Int) (l:List Cl):ACall Tryz.prog 281 [pi n,cls l] (.tup [pi (Zu n l).1,pi (Zu n l).2]):=by
 refine zh zf Tryz.func281 rfl zws Tryz.ntmps281 zwy63 _ rfl (fun hw gB hgB=>?_);have hl:=zl4 hw.2.1;by_cases h6:6 < l.length
 ·repeat' (first|refine sK ?_|refine sC (fun _=>?_) (fun _=>?_)|fail)
  exact retq rfl (by simp [zn,Zu,h6])
 ·repeat' (first|refine sK ?_|refine sC (fun _=>?_) (fun _=>?_)|fail)
  refine zL (fun k:Nat=>[(0,.pv (pi n)),(1,.pv (cls l)),(6,.pv (pi k))]) (fun _=>[]) (fun k=>k<=l.length/\∀ j,j < k->Qj n l j=0) (fun k=>l.length - k) 0 ⟨by omega,fun j h=>by omega⟩ (tS) tH ?_;rintro k ⟨hk,hno⟩;by_cases hlt:k < l.length
  ·have he:=zbn hlt;cases ha:(Qg n (l.getD k default) != 0)
   ·repeat' (first|(refine shC ?_;first|refine qC (zju n (l.getD k default)) ?_)|(refine shX ?_;first|refine qX he ?_)|refine sK ?_|refine sC (fun _=>?_) (fun _=>?_)|fail)
    refine zL (fun m:Nat=>[(0,.pv (pi n)),(1,.pv (cls l)),(6,.pv (pi k)),(8,.pv (pi m))]) (fun _=>[]) (fun m=>m<=k/\QB l k m=false) (fun m=>k - m) 0 ⟨by omega,rfl⟩ (tS) tH ?_;rintro m ⟨hm,hpb⟩;by_cases hltm:m < k
    ·have hem:=zbn (show m < l.length by omega);have hps:=zeX l k m;cases hf:Wu (l.getD m default) (l.getD k default)
     ·have hat:Qj n l k=12:=by
       have:QB l k k=true:=by
        simp only [QB,List.any_eq_true,List.mem_range];exact ⟨m,hltm,by rw [hf];rfl⟩
       unfold Qj;rw [ha];simp [this]
      have hfin:=zcB h6 hlt hno (by rw [hat];decide);clear hps
      repeat' (first|(refine shC ?_;first|refine qC (zgZ (l.getD m default) (l.getD k default)) ?_)|(refine shX ?_;first|refine qX he ?_|refine qX hem ?_)|refine sK ?_|refine sC (fun _=>?_) (fun _=>?_)|fail)
      ·exact retq rfl (by simp [zn,hfin,hat])
      ·exfalso;simp_all
     ·have hpm:QB l k (m + 1)=false:=by rw [hps,hpb,hf];rfl
      clear hps
      repeat' (first|(refine shC ?_;first|refine qC (zgZ (l.getD m default) (l.getD k default)) ?_)|(refine shX ?_;first|refine qX he ?_|refine qX hem ?_)|refine sK ?_|refine sC (fun _=>?_) (fun _=>?_)|fail)
      ·exfalso;simp_all
      ·exact ⟨m + 1,⟨by omega,hpm⟩,tD,tS,tH⟩
    ·repeat' (first|refine sK ?_|refine sC (fun _=>?_) (fun _=>?_)|fail)
     have:m=k:=by omega
     subst this;have hat:Qj n l m=0:=by unfold Qj;rw [ha];simp [hpb]
     exact ⟨m + 1,⟨by omega,fun j hj=>by
      by_cases e:j=m
      ·subst e;exact hat
      ·exact hno j zwy62⟩,tD,tS,tH⟩
   ·have hat:Qj n l k=Qg n (l.getD k default):=by unfold Qj;rw [ha];simp
    have hfin:=zcB h6 hlt hno (by rw [hat];simpa using ha)
    repeat' (first|(refine shC ?_;first|refine qC (zju n (l.getD k default)) ?_)|(refine shX ?_;first|refine qX he ?_)|refine sK ?_|refine sC (fun _=>?_) (fun _=>?_)|fail)
    exact retq rfl (by simp [zn,hfin,hat])
  ·repeat' (first|refine sK ?_|refine sC (fun _=>?_) (fun _=>?_)|fail)
   have:k=l.length:=by omega
   subst this;exact retq rfl (by simp [zn,zeM h6 hno])
def XZ (n:Int) (l:List Cl):Bool:=(Zu n l).2==0
theorem zoF (n:Int) (l:List Cl):ACall Tryz.prog 265 [pi n,cls l] (pb (XZ n l)):=by
 refine zh zf Tryz.func265 rfl zws Tryz.ntmps265 zwy63 _ rfl (fun hw gB hgB=>?_)
 repeat' (first|(refine shC ?_;first|refine qC (zlU n l) ?_)|refine sA ?_|refine sC (fun _=>?_) (fun _=>?_)|fail)
 all_goals (first|refine ak ?_|refine Yi rfl ?_)
 all_goals (first|(simp_all [zn,XZ];done)|(simp_all [zn,XZ];omega))
set_option maxHeartbeats 20000000
def yR (f k:Int):Bool:=(IntKind.i64.wrap (f.tdiv k)).tmod 2==1
theorem zkk (f:Int):ACall Tryz.prog 59 [pi f,pi 2] (pb (yR f 2)):=by
 refine zh zf Tryz.func59 rfl zws Tryz.ntmps59 zwy63 _ rfl (fun hw gB hgB=>?_)
 repeat' (first|refine sA ?_|refine sC (fun _=>?_) (fun _=>?_)|fail)
 exact retq rfl rfl
theorem zkn (f:Int):ACall Tryz.prog 59 [pi f,pi 1] (pb (yR f 1)):=by
 refine zh zf Tryz.func59 rfl zws Tryz.ntmps59 zwy63 _ rfl (fun hw gB hgB=>?_)
 repeat' (first|refine sA ?_|refine sC (fun _=>?_) (fun _=>?_)|fail)
 exact retq rfl rfl
theorem zsb (f:Int):ACall Tryz.prog 59 [pi f,pi 4] (pb (yR f 4)):=by
 refine zh zf Tryz.func59 rfl zws Tryz.ntmps59 zwy63 _ rfl (fun hw gB hgB=>?_)
 repeat' (first|refine sA ?_|refine sC (fun _=>?_) (fun _=>?_)|fail)
 exact retq rfl rfl
theorem zf4 (f:Int):ACall Tryz.prog 59 [pi f,pi 8] (pb (yR f 8)):=by
 refine zh zf Tryz.func59 rfl zws Tryz.ntmps59 zwy63 _ rfl (fun hw gB hgB=>?_)
 repeat' (first|refine sA ?_|refine sC (fun _=>?_) (fun _=>?_)|fail)
 exact retq rfl rfl
theorem zie (f:Int):ACall Tryz.prog 59 [pi f,pi 16] (pb (yR f 16)):=by
 refine zh zf Tryz.func59 rfl zws Tryz.ntmps59 zwy63 _ rfl (fun hw gB hgB=>?_)
 repeat' (first|refine sA ?_|refine sC (fun _=>?_) (fun _=>?_)|fail)
 exact retq rfl rfl
def WZ (f:Int):Int:=if yR f 2 then 2 else if yR f 1 then 1 else if yR f 16 then 3 else 0
def typeAt (g:Img) (t:Int):Option TD:=if 0<=t then g.types[t.toNat]? else none
theorem Yf (g:Img) (t:Int):there g t=true↔∃ td,typeAt g t=some td:=by
 simp only [there,typeAt,Bool.and_eq_true,decide_eq_true_eq];constructor
 ·rintro ⟨h1,h2⟩;rw [if_pos h1];exact ⟨_,List.getElem?_eq_getElem zwy62⟩
 ·rintro ⟨td,h⟩;split at h
  ·rename_i h0;have:=(List.getElem?_eq_some_iff.1 h).1;omega
  ·cases h
theorem qN {g:Img} {t:Int} {td:TD} (h:typeAt g t=some td):0<=t/\(g.types.map Zw)[t.toNat]?=some (Zw td):=by
 unfold typeAt at h;split at h
 ·rename_i h0;exact ⟨h0,by simp [h]⟩
 ·cases h
def zW (g:Img) (t:Int):Int:=match typeAt g t with|some td=>WZ td.flags|none => -1
theorem Zq (g:Img) (t:Int):ACall Tryz.prog 28 [zK g,pi t] (pi (zW g t)):=by
 refine zh zf Tryz.func28 rfl zws Tryz.ntmps28 zwy63 _ rfl (fun hw gB hgB=>?_);by_cases h:there g t=true
 ·have c1:ACall Tryz.prog 58 [zK g,pi t] (pb true):=by rw [<-h];exact Qd g t
  obtain ⟨td,htd⟩:=(Yf g t).1 h;obtain ⟨h0,he⟩:=qN htd
  repeat' (first|(refine shC ?_;first|refine qC c1 ?_|refine qC (zkk _) ?_|refine qC (zkn _) ?_|refine qC (zie _) ?_)|(refine shX ?_;first|refine zy rfl (ah h0 he) rfl rfl ?_|refine zq rfl (ah h0 he) rfl rfl ?_)|refine sA ?_|refine sC (fun _=>?_) (fun _=>?_)|fail)
  all_goals (refine ak ?_)
  all_goals (simp_all [zW,WZ,zn])
 ·have c1:ACall Tryz.prog 58 [zK g,pi t] (pb false):=by rw [<-Bool.eq_false_iff.2 h];exact Qd g t
  have hn:typeAt g t=none:=by
   cases e:typeAt g t with
   | none=>rfl
   | some td=>exact (h ((Yf g t).2 ⟨td,e⟩)).elim
  repeat' (first|(refine shC ?_;first|refine qC c1 ?_)|refine sA ?_|refine sC (fun _=>?_) (fun _=>?_)|fail)
  exact retq rfl (by simp [zn,zW,hn])
def qQ (f k:Int):Bool:=IntKind.i64.wrap ((BitVec.ofInt IntKind.i64.bits f &&& BitVec.ofInt IntKind.i64.bits k).toNat:Int) != 0
def zgQ (f:Int):Int:=if qQ f 2 then 2 else if qQ f 1 then 1 else if qQ f 16 then 3 else 0
def Ye (g:Img) (t:Int):Int:=match typeAt g t with|some td=>zgQ td.flags|none => -1
theorem zfS (td:TD):ACall Tryz.prog 72 [Zw td] (pi (zgQ td.flags)):=by
 refine zh zf Tryz.func72 rfl zws Tryz.ntmps72 zwy63 _ rfl (fun hw gB hgB=>?_)
 repeat' (first|refine sA ?_|refine sC (fun _=>?_) (fun _=>?_)|fail)
 all_goals (refine ak ?_)
 all_goals (simp_all [zgQ,qQ,zn])
theorem QH (g:Img) (t:Int):ACall Tryz.prog 36 [zK g,pi t] (pi (Ye g t)):=by
 refine zh zf Tryz.func36 rfl zws Tryz.ntmps36 zwy63 _ rfl (fun hw gB hgB=>?_);by_cases h:there g t=true
 ·have c1:ACall Tryz.prog 71 [zK g,pi t] (pb true):=by rw [<-h];exact QL g t
  obtain ⟨td,htd⟩:=(Yf g t).1 h;obtain ⟨h0,he⟩:=qN htd
  repeat' (first|(refine shC ?_;first|refine qC c1 ?_|refine qC (zfS td) ?_)|(refine shX ?_;first|refine zy rfl (ah h0 he) rfl rfl ?_|refine zq rfl (ah h0 he) rfl rfl ?_)|refine sA ?_|refine sC (fun _=>?_) (fun _=>?_)|fail)
  exact retq rfl (by simp [zn,Ye,htd])
 ·have c1:ACall Tryz.prog 71 [zK g,pi t] (pb false):=by rw [<-Bool.eq_false_iff.2 h];exact QL g t
  have hn:typeAt g t=none:=by
   cases e:typeAt g t with
   | none=>rfl
   | some td=>exact (h ((Yf g t).2 ⟨td,e⟩)).elim
  repeat' (first|(refine shC ?_;first|refine qC c1 ?_)|refine sA ?_|refine sC (fun _=>?_) (fun _=>?_)|fail)
  exact retq rfl (by simp [zn,Ye,hn])
def zgn (g:Img) (t:Ty):Bool:=plain t 5&&Ye g t.index==0
theorem ziW (g:Img) (t:Ty):ACall Tryz.prog 191 [zK g,yI t] (pb (zgn g t)):=by
 refine zh zf Tryz.func191 rfl zws Tryz.ntmps191 zwy63 _ rfl (fun hw gB hgB=>?_)
 repeat' (first|(refine shC ?_;first|refine qC (Xj _ _) ?_|refine qC (QH _ _) ?_)|refine sA ?_|refine sC (fun _=>?_) (fun _=>?_)|fail)
 all_goals (first|refine ak ?_|refine Yi rfl ?_)
 all_goals (first|(simp_all [zn,zgn];done)|(simp_all [zn,zgn];omega))
end Go.Cg
