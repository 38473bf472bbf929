/- A part of the walks by abstract values: no statement of its own. -/
import Derived.Test.YtemhfmmhkimhmaaGreatV6
import Derived.Test.YtemhfmmhkimhmaaGreatV5
set_option linter.unusedVariables false
set_option linter.unusedSimpArgs false
namespace Go.Cg
open Go.Proofs
set_option maxHeartbeats 20000000
def object (t:Ty):Bool:=!t.ref&&(decide (0 < t.dims)||t.kind==4||t.kind==5||t.kind==7||t.kind==8)
theorem qY (t:Ty):ACall Tryz.prog 178 [yJ t] (pb (object t)):=by
 refine zh zf Tryz.func178 rfl zws Tryz.ntmps178 zwy63 _ rfl (fun hw gB hgB=>?_)
 repeat' (first|refine sA ?_|refine sC (fun _=>?_) (fun _=>?_)|fail)
 all_goals (first|refine ak ?_|refine Yf rfl ?_)
 all_goals (first|(simp_all [zn,object];done)|(simp_all [zn,object];omega))
def there (g:Img) (t:Int):Bool:=decide (0<=t)&&decide (t < g.types.length)
theorem Qa (g:Img) (t:Int):ACall Tryz.prog 58 [zK g,pi t] (pb (there g t)):=by
 refine zh zf Tryz.func58 rfl zws Tryz.ntmps58 zwy63 _ rfl (fun hw gB hgB=>?_)
 repeat' (first|refine sA ?_|refine sC (fun _=>?_) (fun _=>?_)|fail)
 all_goals (first|refine ak ?_|refine Yf rfl ?_)
 all_goals (first|(simp_all [zn,there];done)|(simp_all [zn,there];omega))
theorem QB (g:Img) (t:Int):ACall Tryz.prog 71 [zK g,pi t] (pb (there g t)):=by
 refine zh zf Tryz.func71 rfl zws Tryz.ntmps71 zwy63 _ rfl (fun hw gB hgB=>?_)
 repeat' (first|refine sA ?_|refine sC (fun _=>?_) (fun _=>?_)|fail)
 all_goals (first|refine ak ?_|refine Yf rfl ?_)
 all_goals (first|(simp_all [zn,there];done)|(simp_all [zn,there];omega))
def plain (t:Ty) (k:Int):Bool:=t.kind==k&&t.dims==0&&!t.ref
theorem Xl (t:Ty) (k:Int):ACall Tryz.prog 188 [yJ t,pi k] (pb (plain t k)):=by
 refine zh zf Tryz.func188 rfl zws Tryz.ntmps188 zwy63 _ rfl (fun hw gB hgB=>?_)
 repeat' (first|refine sA ?_|refine sC (fun _=>?_) (fun _=>?_)|fail)
 all_goals (first|refine ak ?_|refine Yf rfl ?_)
 all_goals (first|(simp_all [zn,plain];done)|(simp_all [zn,plain];omega))
theorem zhW:ACall Tryz.prog 190 [] (yJ ⟨7,0,0,false⟩):=by
 refine zh zf Tryz.func190 rfl zws Tryz.ntmps190 zwy63 _ rfl (fun hw gB hgB=>?_)
 repeat' (first|refine sA ?_|refine sC (fun _=>?_) (fun _=>?_)|fail)
 exact retq rfl rfl
theorem zg4:ACall Tryz.prog 192 [] (yJ ⟨4,0,0,false⟩):=by
 refine zh zf Tryz.func192 rfl zws Tryz.ntmps192 zwy63 _ rfl (fun hw gB hgB=>?_)
 repeat' (first|refine sA ?_|refine sC (fun _=>?_) (fun _=>?_)|fail)
 exact retq rfl rfl
set_option maxHeartbeats 20000000
def bounds (c:Cl) (part:Int):Int × Int :=
 if part==1 then (c.tf,c.tt) else if part==2 then (c.hf,c.ht) else if c.kind==2 then (c.filter,c.hf) else (0,0)
theorem Xd (c:Cl) (p:Int):ACall Tryz.prog 305 [qN c,pi p] (.tup [pi (bounds c p).1,pi (bounds c p).2]):=by
 refine zh zf Tryz.func305 rfl zws Tryz.ntmps305 zwy63 _ rfl (fun hw gB hgB=>?_)
 repeat' (first|refine sA ?_|refine sC (fun _=>?_) (fun _=>?_)|fail)
 all_goals (refine ak ?_)
 all_goals (simp_all [bounds,zn])
def meet (a:Cl) (p:Int) (b:Cl) (q:Int):Bool :=
 decide ((bounds a p).1 < (bounds b q).2)&&decide ((bounds b q).1 < (bounds a p).2)&&decide ((bounds a p).1 < (bounds a p).2)&&decide ((bounds b q).1 < (bounds b q).2)
theorem zb0 (a:Cl) (p:Int) (b:Cl) (q:Int):ACall Tryz.prog 304 [qN a,pi p,qN b,pi q] (pb (meet a p b q)):=by
 refine zh zf Tryz.func304 rfl zws Tryz.ntmps304 zwy63 _ rfl (fun hw gB hgB=>?_)
 repeat' (first|(refine shC ?_;first|refine qC (Xd a p) ?_|refine qC (Xd b q) ?_)|refine sA ?_|refine sC (fun _=>?_) (fun _=>?_)|fail)
 all_goals (first|refine ak ?_|refine Yf rfl ?_)
 all_goals (first|(simp_all [zn,meet];done)|(simp_all [zn,meet];omega))
def within (a:Cl) (p:Int) (b:Cl) (q:Int):Bool :=
 if (bounds a p).1==0&&(bounds a p).2==0 then true
 else decide ((bounds b q).1<=(bounds a p).1)&&decide ((bounds a p).2<=(bounds b q).2)&&(decide ((bounds b q).1 < (bounds a p).1)||decide ((bounds a p).2 < (bounds b q).2))
theorem YT (a:Cl) (p:Int) (b:Cl) (q:Int):ACall Tryz.prog 306 [qN a,pi p,qN b,pi q] (pb (within a p b q)):=by
 refine zh zf Tryz.func306 rfl zws Tryz.ntmps306 zwy63 _ rfl (fun hw gB hgB=>?_)
 repeat' (first|(refine shC ?_;first|refine qC (Xd a p) ?_|refine qC (Xd b q) ?_)|refine sA ?_|refine sC (fun _=>?_) (fun _=>?_)|fail)
 all_goals (first|refine ak ?_|refine Yf rfl ?_)
 all_goals (first|(simp_all [zn,within];done)|(simp_all [zn,within];omega))
set_option maxHeartbeats 20000000
theorem zdl {l:List Int} (h:(ints l).lenOk):l.length<=9223372036854775807:=by
 simp [ints,PV.lenOk,maxLen] at h;exact h.1
theorem qJ {l:List Int} {k:Nat} (h:k < l.length):(l.map pi)[k]?=some (pi l[k]):=by simp [h]
theorem zbs {l:List Ty} {k:Nat} (h:k < l.length):(l.map yJ)[k]?=some (yJ l[k]):=by simp [h]
theorem zd6 {α:Type} [DecidableEq α] {l:List α} {k:Nat} {n:α} (h:k < l.length) (hno:n∉l.take k) (hne:¬ l[k]=n):n∉l.take (k + 1):=by
 rw [List.take_succ_eq_append_getElem h];simp only [List.mem_append,List.mem_singleton,not_or];exact ⟨hno,fun e=>hne e.symm⟩
theorem XO (l:List Int) (n:Int):ACall Tryz.prog 95 [ints l,pi n] (pb (decide (n∈l))):=by
 refine zh zf Tryz.func95 rfl zws Tryz.ntmps95 zwy63 _ rfl (fun hw gB hgB=>?_);have hl:=zdl hw.1
 repeat' (first|refine sA ?_|refine sC (fun _=>?_) (fun _=>?_)|fail)
 refine zL (fun k:Nat=>[(0,.pv (ints l)),(1,.pv (pi n)),(5,.pv (pi k))]) (fun _=>[]) (fun k=>k<=l.length/\n∉l.take k) (fun k=>l.length - k) 0 ⟨by simp,by simp⟩ (tS) tH ?_;rintro k ⟨hk,hno⟩;by_cases hlt:k < l.length
 ·have he:=qJ hlt
  repeat' (first|(refine shX ?_;first|refine qX he ?_)|refine sK ?_|refine sC (fun _=>?_) (fun _=>?_)|fail)
  ·rename_i h;refine ak ?_;have:n∈l:=by have:=List.getElem_mem hlt;simp at h;rwa [h] at this
   simp [zn,this]
  ·rename_i h;simp at h;exact ⟨k + 1,⟨by omega,zd6 hlt hno h⟩,tD,tS,tH⟩
 ·repeat' (first|refine sK ?_|refine sC (fun _=>?_) (fun _=>?_)|fail)
  refine ak ?_;have:n∉l:=by rw [List.take_of_length_le zwy62] at hno;exact hno
  simp [zn,this]
def idx (l:List Int) (v:Int):Int:=if v∈l then (l.findIdx (· == v):Nat) else -1
theorem zi1 (l:List Int) (n:Int):ACall Tryz.prog 207 [ints l,pi n] (pi (idx l n)):=by
 refine zh zf Tryz.func207 rfl zws Tryz.ntmps207 zwy63 _ rfl (fun hw gB hgB=>?_);have hl:=zdl hw.1
 repeat' (first|refine sA ?_|refine sC (fun _=>?_) (fun _=>?_)|fail)
 refine zL (fun k:Nat=>[(0,.pv (ints l)),(1,.pv (pi n)),(7,.pv (pi l.length)),(8,.pv (pi k))]) (fun _=>[]) (fun k=>k<=l.length/\n∉l.take k) (fun k=>l.length - k) 0 ⟨by simp,by simp⟩ zwy71 tH ?_;rintro k ⟨hk,hno⟩;by_cases hlt:k < l.length
 ·have he:=qJ hlt
  repeat' (first|(refine shX ?_;first|refine qX he ?_)|refine sK ?_|refine sC (fun _=>?_) (fun _=>?_)|fail)
  ·rename_i h;refine ak ?_;simp at h;have hm:n∈l:=by have:=List.getElem_mem hlt;rwa [<-h] at this
   have hi:l.findIdx (· == n)=k:=by
    rw [List.findIdx_eq hlt];refine ⟨by simp [h],fun j hj=>?_⟩;simp only [beq_eq_false_iff_ne];intro e;refine hno ?_;rw [<-e,List.mem_take_iff_getElem];exact ⟨j,by omega,rfl⟩
   simp [zn,idx,hm,hi]
  ·rename_i h;simp at h;exact ⟨k + 1,⟨by omega,zd6 hlt hno (fun e=>h e.symm)⟩,tD,tS,tH⟩
 ·repeat' (first|refine sK ?_|refine sC (fun _=>?_) (fun _=>?_)|fail)
  refine ak ?_;have:n∉l:=by rw [List.take_of_length_le zwy62] at hno;exact hno
  simp [zn,idx,this]
theorem YZ (l:List Int) (n:Int):ACall Tryz.prog 150 [ints l,pi n] (pb (decide (n∈l))):=by
 refine zh zf Tryz.func150 rfl zws Tryz.ntmps150 zwy63 _ rfl (fun hw gB hgB=>?_)
 repeat' (first|(refine shC ?_;first|refine qC (zi1 _ _) ?_)|refine sA ?_|refine sC (fun _=>?_) (fun _=>?_)|fail)
 refine ak ?_;by_cases h:n∈l <;> simp [zn,idx,h]
set_option maxHeartbeats 20000000
def zaf (n:Int) (c:Cl):Bool:=decide (0<=c.tf)&&decide (c.tf < c.tt)&&decide (c.tt<=n)
def zcJ (n:Int) (c:Cl):Bool:=decide (0<=c.hf)&&decide (c.hf < c.ht)&&decide (c.ht<=n)
def QY (n:Int) (c:Cl):Int :=
 if decide (c.kind < 1)||decide (4 < c.kind)||!zaf n c||!zcJ n c then 3
 else if c.kind==2&&(decide (c.filter < 0)||decide (c.hf<=c.filter))||c.kind != 2&&c.filter != -1 then 3
 else if meet c 1 c 2||meet c 1 c 3||meet c 2 c 3 then 12
 else 0
theorem zh6 (n:Int) (c:Cl):ACall Tryz.prog 288 [pi n,qN c] (pi (QY n c)):=by
 refine zh zf Tryz.func288 rfl zws Tryz.ntmps288 zwy63 _ rfl (fun hw gB hgB=>?_);refine Xk [(0,.pv (pi n)),(3,.pv (.ptr (qN c) 0))] [] ?_ ?_
 ·repeat' (first|refine sA ?_|refine sC (fun _=>?_) (fun _=>?_)|fail)
  all_goals (refine ⟨?_,tH⟩;repeat (first|exact yN|refine yB rfl ?_|(refine zfj rfl ?_ ?_;· (first|(simp_all [zaf];done)|(simp_all [zaf];omega)))|(refine qZ rfl ?_ ?_;· (rw [wrap_in zwy62 zwy62] <;> omega))))
 refine Xk [(0,.pv (pi n)),(3,.pv (.ptr (qN c) 0)),(5,.pv (pb (zaf n c)))] [] ?_ ?_
 ·repeat' (first|refine sA ?_|refine sC (fun _=>?_) (fun _=>?_)|fail)
  all_goals (refine ⟨?_,tH⟩;repeat (first|exact yN|refine yB rfl ?_|(refine zfj rfl ?_ ?_;· (first|(simp_all [zaf];done)|(simp_all [zaf];omega)))|(refine qZ rfl ?_ ?_;· (rw [wrap_in zwy62 zwy62] <;> omega))))
 refine Xk [(0,.pv (pi n)),(3,.pv (.ptr (qN c) 0)),(5,.pv (pb (zaf n c))),(6,.pv (pb (zcJ n c)))] [] ?_ ?_
 ·repeat' (first|refine sA ?_|refine sC (fun _=>?_) (fun _=>?_)|fail)
  all_goals (refine ⟨?_,tH⟩;repeat (first|exact yN|refine yB rfl ?_|(refine zfj rfl ?_ ?_;· (first|(simp_all [zcJ];done)|(simp_all [zcJ];omega)))|(refine qZ rfl ?_ ?_;· (rw [wrap_in zwy62 zwy62] <;> omega))))
 repeat' (first|(refine shC ?_;first|refine qC (zb0 c 1 c 2) ?_|refine qC (zb0 c 1 c 3) ?_|refine qC (zb0 c 2 c 3) ?_)|refine sA ?_|refine sC (fun _=>?_) (fun _=>?_)|fail)
 all_goals (first|refine ak ?_|refine Yf rfl ?_)
 all_goals (first|(simp_all [zn,QY];done)|(simp_all [zn,QY];omega))
def Yj (a b:Cl) (q:Int):Bool:=decide ((bounds b q).1 < (bounds b q).2)&&within a 1 b q&&within a 2 b q&&within a 3 b q
def znv (a b:Cl) (q:Int):Bool:=q==1||!(a.hf==(bounds b q).1||a.kind==2&&a.filter==(bounds b q).1)
def badM (a b:Cl) (p q:Int):Bool:=meet a p b q&&!((a.tf==b.tf&&a.tt==b.tt)&&p==1&&q==1)
def Wq (a b:Cl):Bool :=
 if Yj a b 1 then znv a b 1 else if Yj a b 2 then znv a b 2 else if Yj a b 3 then znv a b 3
 else !(badM a b 1 1||badM a b 1 2||badM a b 1 3||badM a b 2 1||badM a b 2 2||badM a b 2 3||badM a b 3 1||badM a b 3 2||badM a b 3 3)
def zai (a b:Cl) (k:Nat):Bool:=(List.range k).any fun i=>badM a b (i / 3 + 1:Nat) (i % 3 + 1:Nat)
theorem zl7 (a b:Cl) (k:Nat):zai a b (k + 1)=(zai a b k||badM a b (k / 3 + 1:Nat) (k % 3 + 1:Nat)):=by
 simp [zai,List.range_succ]
theorem zn5 (a b:Cl):zai a b 9=(badM a b 1 1||badM a b 1 2||badM a b 1 3||badM a b 2 1||badM a b 2 2||badM a b 2 3||badM a b 3 1||badM a b 3 2||badM a b 3 3):=by
 simp [zai,List.range_succ,Bool.or_assoc]
theorem zuz {a b:Cl} {k:Nat} (h1:1<=k) (h3:k<=3) (hno:∀ q:Nat,1<=q->q < k->Yj a b q=false) (hc:Yj a b k=true):Wq a b=znv a b k:=by
 rcases (by omega:k=1\/k=2\/k=3) with rfl|rfl|rfl
 ·have hc:Yj a b 1=true:=hc;simp [Wq,hc]
 ·have e1:Yj a b 1=false:=hno 1 zwy62 zwy62;have hc:Yj a b 2=true:=hc;simp [Wq,hc,e1]
 ·have e1:Yj a b 1=false:=hno 1 zwy62 zwy62;have e2:Yj a b 2=false:=hno 2 zwy62 zwy62;have hc:Yj a b 3=true:=hc;simp [Wq,hc,e1,e2]
theorem zus {a b:Cl} (hno:∀ q:Nat,1<=q->q < 4->Yj a b q=false):Wq a b=!zai a b 9:=by
 have e1:Yj a b 1=false:=hno 1 zwy62 zwy62;have e2:Yj a b 2=false:=hno 2 zwy62 zwy62;have e3:Yj a b 3=false:=hno 3 zwy62 zwy62;rw [zn5];simp [Wq,e1,e2,e3]
theorem zrq {a b:Cl} {k:Nat} (hk:k < 9) (h:badM a b (k / 3 + 1:Nat) (k % 3 + 1:Nat)=true):zai a b 9=true:=by
 simp only [zai,List.any_eq_true,List.mem_range];exact ⟨k,hk,h⟩
theorem zg3 (a b:Cl):ACall Tryz.prog 289 [qN a,qN b] (pb (Wq a b)):=by
 refine zh zf Tryz.func289 rfl zws Tryz.ntmps289 zwy63 _ rfl (fun hw gB hgB=>?_);refine Xk [(2,.pv (.ptr (qN a) 0)),(3,.pv (.ptr (qN b) 0))] [] ?_ ?_
 ·repeat' (first|refine sA ?_|refine sC (fun _=>?_) (fun _=>?_)|fail)
  all_goals (refine ⟨?_,tH⟩;repeat (first|exact yN|refine yB rfl ?_|(refine zfj rfl ?_ ?_;· (first|(simp_all [Yj];done)|(simp_all [Yj];omega)))|(refine qZ rfl ?_ ?_;· (rw [wrap_in zwy62 zwy62] <;> omega))))
 by_cases hall:∀ q:Nat,1<=q->q < 4->Yj a b q=false
 ·refine Xk [(2,.pv (.ptr (qN a) 0)),(3,.pv (.ptr (qN b) 0))] [] ?_ ?_
  ·repeat' (first|refine sA ?_|refine sC (fun _=>?_) (fun _=>?_)|fail)
   refine zL (fun k:Nat=>[(2,.pv (.ptr (qN a) 0)),(3,.pv (.ptr (qN b) 0)),(5,.pv (pi k))]) (fun _=>[]) (fun k=>1<=k/\k<=4) (fun k=>4 - k) 1 ⟨by omega,by omega⟩ (tS) tH ?_;rintro k ⟨hk1,hk2⟩;by_cases hlt:k<=3
   ·have hc:=hall k hk1 zwy62
    repeat' (first|(refine shC ?_;first|refine qC (Xd b k) ?_|refine qC (YT a 1 b k) ?_|refine qC (YT a 2 b k) ?_|refine qC (YT a 3 b k) ?_)|refine sK ?_|refine sC (fun _=>?_) (fun _=>?_)|fail)
    all_goals first
     | exact ⟨k + 1,⟨by omega,by omega⟩,tD,tS,tH⟩
     | (exfalso;simp_all [Yj];done)
   ·repeat' (first|refine sK ?_|refine sC (fun _=>?_) (fun _=>?_)|fail)
    exact ⟨tS,tH⟩
  have hfin:=zus hall;refine Xk [(2,.pv (.ptr (qN a) 0)),(3,.pv (.ptr (qN b) 0)),(8,.pv (pb (a.tf==b.tf&&a.tt==b.tt)))] [] ?_ ?_
  ·repeat' (first|refine sA ?_|refine sC (fun _=>?_) (fun _=>?_)|fail)
   all_goals (refine ⟨?_,tH⟩;repeat (first|exact yN|refine yB rfl ?_|(refine zfj rfl ?_ ?_;· (first|(simp_all [Yj];done)|(simp_all [Yj];omega)))|(refine qZ rfl ?_ ?_;· (rw [wrap_in zwy62 zwy62] <;> omega))))
  repeat' (first|refine sA ?_|refine sC (fun _=>?_) (fun _=>?_)|fail)
  refine zL (fun k:Nat=>[(2,.pv (.ptr (qN a) 0)),(3,.pv (.ptr (qN b) 0)),(8,.pv (pb (a.tf==b.tf&&a.tt==b.tt))),(9,.pv (pi k))]) (fun _=>[]) (fun k=>1<=k/\k<=4/\zai a b (3 * (k - 1))=false) (fun k=>4 - k) 1 ⟨by omega,by omega,rfl⟩ (tS) tH ?_;rintro k ⟨hk1,hk2,hno⟩;by_cases hlt:k<=3
  ·repeat' (first|refine sK ?_|refine sC (fun _=>?_) (fun _=>?_)|fail)
   refine zL (fun m:Nat=>[(2,.pv (.ptr (qN a) 0)),(3,.pv (.ptr (qN b) 0)),(8,.pv (pb (a.tf==b.tf&&a.tt==b.tt))),(9,.pv (pi k)),(10,.pv (pi m))]) (fun _=>[]) (fun m=>1<=m/\m<=4/\zai a b (3 * (k - 1) + (m - 1))=false) (fun m=>4 - m) 1 ⟨by omega,by omega,hno⟩ (tS) tH ?_;rintro m ⟨hm1,hm2,hno⟩;by_cases hltm:m<=3
   ·have hidx:badM a b ((3 * (k - 1) + (m - 1)) / 3 + 1:Nat) ((3 * (k - 1) + (m - 1)) % 3 + 1:Nat)=badM a b k m:=by
     have e1:(3 * (k - 1) + (m - 1)) / 3 + 1=k:=by omega
     have e2:(3 * (k - 1) + (m - 1)) % 3 + 1=m:=by omega
     rw [e1,e2]
    have hsucc:=zl7 a b (3 * (k - 1) + (m - 1));rw [hidx,hno,Bool.false_or] at hsucc;cases hb:badM a b k m
    ·have hnext:zai a b (3 * (k - 1) + (m + 1 - 1))=false:=by
      rw [show 3 * (k - 1) + (m + 1 - 1)=3 * (k - 1) + (m - 1) + 1 by omega,hsucc,hb]
     clear hsucc hidx
     repeat' (first|(refine shC ?_;first|refine qC (zb0 a k b m) ?_)|refine sK ?_|refine sC (fun _=>?_) (fun _=>?_)|fail)
     all_goals first
      | exact ⟨m + 1,⟨by omega,by omega,hnext⟩,tD,tS,tH⟩
      | (exfalso;simp_all [badM];done)
    ·have hbad:=zrq (a:=a) (b:=b) (k:=3 * (k - 1) + (m - 1)) zwy62 (by rw [hidx];exact hb);clear hsucc hidx
     repeat' (first|(refine shC ?_;first|refine qC (zb0 a k b m) ?_)|refine sK ?_|refine sC (fun _=>?_) (fun _=>?_)|fail)
     all_goals first
      | exact retq rfl (by simp [zn,hfin,hbad])
      | (exfalso;simp_all [badM];done)
   ·repeat' (first|refine sK ?_|refine sC (fun _=>?_) (fun _=>?_)|fail)
    have:m=4:=by omega
    subst this;exact ⟨k + 1,⟨by omega,by omega,by rw [show 3 * (k + 1 - 1)=3 * (k - 1) + (4 - 1) by omega];exact hno⟩,tD,tS,tH⟩
  ·repeat' (first|refine sK ?_|refine sC (fun _=>?_) (fun _=>?_)|fail)
   have:k=4:=by omega
   subst this;exact retq rfl (by simp [zn,hfin,show zai a b 9=false from hno])
 ·
  have hex:∃ k:Nat,1<=k/\k<=3/\Yj a b k=true/\∀ q:Nat,1<=q->q < k->Yj a b q=false:=by
   cases h1:Yj a b 1
   ·cases h2:Yj a b 2
    ·cases h3:Yj a b 3
     ·exact (hall (fun q q1 q2=>by rcases (by omega:q=1\/q=2\/q=3) with rfl|rfl|rfl <;> assumption)).elim
     ·exact ⟨3,by omega,by omega,h3,fun q q1 q2=>by rcases (by omega:q=1\/q=2) with rfl|rfl <;> assumption⟩
    ·exact ⟨2,by omega,by omega,h2,fun q q1 q2=>by (obtain rfl:q=1:=by omega);assumption⟩
   ·exact ⟨1,by omega,by omega,h1,fun q q1 q2=>by omega⟩
  obtain ⟨k0,hk1,hk3,hc0,hno0⟩:=hex;have hfin:=zuz hk1 hk3 hno0 hc0;clear hall
  repeat' (first|refine sA ?_|refine sC (fun _=>?_) (fun _=>?_)|fail)
  refine zL (fun k:Nat=>[(2,.pv (.ptr (qN a) 0)),(3,.pv (.ptr (qN b) 0)),(5,.pv (pi k))]) (fun _=>[]) (fun k=>1<=k/\k<=k0) (fun k=>4 - k) 1 ⟨by omega,by omega⟩ (tS) tH ?_;rintro k ⟨hj1,hj2⟩;have hlt:k<=3:=by omega
  by_cases he:k=k0
  ·subst he
   repeat' (first|(refine shC ?_;first|refine qC (Xd b k) ?_|refine qC (YT a 1 b k) ?_|refine qC (YT a 2 b k) ?_|refine qC (YT a 3 b k) ?_)|refine sK ?_|refine sC (fun _=>?_) (fun _=>?_)|fail)
   all_goals first
    | (refine ak ?_;simp_all [zn,znv];done)
    | (exfalso;simp_all [Yj];done)
    | (refine ak ?_;simp_all [zn,znv];omega)
  ·have hc:=hno0 k hj1 zwy62
   repeat' (first|(refine shC ?_;first|refine qC (Xd b k) ?_|refine qC (YT a 1 b k) ?_|refine qC (YT a 2 b k) ?_|refine qC (YT a 3 b k) ?_)|refine sK ?_|refine sC (fun _=>?_) (fun _=>?_)|fail)
   all_goals first
    | exact ⟨k + 1,⟨by omega,by omega⟩,tD,tS,tH⟩
    | (exfalso;simp_all [Yj];done)
set_option maxHeartbeats 20000000
theorem zcG {l:List Ty} (h:(tys l).lenOk):l.length<=9223372036854775807:=by
 simp [tys,PV.lenOk,maxLen] at h;exact h.1
theorem zfg {α:Type} {a b:List α} {k:Nat} (ha:k < a.length) (hb:k < b.length) (h:a.take k=b.take k) (e:a[k]=b[k]):a.take (k + 1)=b.take (k + 1):=by
 rw [List.take_succ_eq_append_getElem ha,List.take_succ_eq_append_getElem hb,h,e]
theorem zbi (a b:List Ty):ACall Tryz.prog 12 [tys a,tys b] (pb (decide (a=b))):=by
 refine zh zf Tryz.func12 rfl zws Tryz.ntmps12 zwy63 _ rfl (fun hw gB hgB=>?_);have hl:=zcG hw.1;by_cases hlen:a.length=b.length
 ·repeat' (first|refine sK ?_|refine sC (fun _=>?_) (fun _=>?_)|fail)
  refine zL (fun k:Nat=>[(0,.pv (tys a)),(1,.pv (tys b)),(5,.pv (pi k))]) (fun _=>[]) (fun k=>k<=a.length/\a.take k=b.take k) (fun k=>a.length - k) 0 ⟨by simp,by simp⟩ (tS) tH ?_;rintro k ⟨hk,hno⟩;by_cases hlt:k < a.length
  ·have he:=zbs hlt;have hltb:k < b.length:=by omega
   have he':=zbs hltb
   repeat' (first|(refine shX ?_;first|refine qX he ?_|refine qX he' ?_)|refine sK ?_|refine sC (fun _=>?_) (fun _=>?_)|fail)
   ·rename_i h;refine ak ?_;have:a≠b:=by
     rintro rfl;simp at h
    simp [zn,this]
   ·rename_i h;have e:a[k]=b[k]:=by
     simp only [Bool.not_eq_false'] at h;rw [XP] at h;simpa using h
    exact ⟨k + 1,⟨by omega,zfg hlt hltb hno e⟩,tD,tS,tH⟩
  ·repeat' (first|refine sK ?_|refine sC (fun _=>?_) (fun _=>?_)|fail)
   refine ak ?_;rw [List.take_of_length_le zwy62,List.take_of_length_le zwy62] at hno;simp [zn,hno]
 ·repeat' (first|refine sK ?_|refine sC (fun _=>?_) (fun _=>?_)|fail)
  refine ak ?_;have:a≠b:=by rintro rfl;exact hlen rfl
  simp [zn,this]
def ZR (t:Ty):Bool :=
 if decide (t.dims < 0)||decide (3 < t.dims)||decide (t.index < 0) then false
 else if t.kind==1 then t.dims==0&&!t.ref&&t.index==0
 else if t.kind==2||t.kind==3||t.kind==4 then t.index==0
 else if t.kind==5||t.kind==6 then decide (t.index < 32)
 else if t.kind==7 then decide (t.index<=7)
 else false
theorem ziR (t:Ty):ACall Tryz.prog 96 [yJ t] (pb (ZR t)):=by
 refine zh zf Tryz.func96 rfl zws Tryz.ntmps96 zwy63 _ rfl (fun hw gB hgB=>?_)
 repeat' (first|refine sA ?_|refine sC (fun _=>?_) (fun _=>?_)|fail)
 all_goals (first|refine ak ?_|refine Yf rfl ?_)
 all_goals (first|(simp_all [zn,ZR];done)|(simp_all [zn,ZR];omega))
def ZP (t:Ty) (place:Int):Bool :=
 if !ZR t then false
 else if place==1 then t.kind != 1&&!t.ref
 else if place==2 then t.kind != 1
 else if place==3 then !t.ref
 else true
theorem zjk (t:Ty) (p:Int):ACall Tryz.prog 246 [yJ t,pi p] (pb (ZP t p)):=by
 refine zh zf Tryz.func246 rfl zws Tryz.ntmps246 zwy63 _ rfl (fun hw gB hgB=>?_)
 repeat' (first|(refine shC ?_;first|refine qC (ziR _) ?_)|refine sA ?_|refine sC (fun _=>?_) (fun _=>?_)|fail)
 all_goals (first|refine ak ?_|refine Yf rfl ?_)
 all_goals (first|(simp_all [zn,ZP];done)|(simp_all [zn,ZP];omega))
def zf3 (t:Ty) (n:Int):Bool:=(t.kind != 5&&t.kind != 6)||decide (t.index < n)
theorem zmh (t:Ty) (n:Int):ACall Tryz.prog 247 [yJ t,pi n] (pb (zf3 t n)):=by
 refine zh zf Tryz.func247 rfl zws Tryz.ntmps247 zwy63 _ rfl (fun hw gB hgB=>?_)
 repeat' (first|refine sA ?_|refine sC (fun _=>?_) (fun _=>?_)|fail)
 all_goals (first|refine ak ?_|refine Yf rfl ?_)
 all_goals (first|(simp_all [zn,zf3];done)|(simp_all [zn,zf3];omega))
def XA (t:Ty) (p n:Int):Bool:=ZP t p&&zf3 t n
theorem zcb (t:Ty) (p n:Int):ACall Tryz.prog 218 [yJ t,pi p,pi n] (pb (XA t p n)):=by
 refine zh zf Tryz.func218 rfl zws Tryz.ntmps218 zwy63 _ rfl (fun hw gB hgB=>?_)
 repeat' (first|(refine shC ?_;first|refine qC (zjk _ _) ?_|refine qC (zmh _ _) ?_)|refine sA ?_|refine sC (fun _=>?_) (fun _=>?_)|fail)
 all_goals (first|refine ak ?_|refine Yf rfl ?_)
 all_goals (first|(simp_all [zn,XA];done)|(simp_all [zn,XA];omega))
set_option maxHeartbeats 20000000
def cls (l:List Cl):PV:=.slc 10 (l.map qN) false
theorem zkB {l:List Cl} (h:(cls l).lenOk):l.length<=9223372036854775807:=by
 simp [cls,PV.lenOk,maxLen] at h;exact h.1
theorem zbI {l:List Cl} {k:Nat} (h:k < l.length):(l.map qN)[k]?=some (qN (l.getD k default)):=by simp [h]
def Xy (l:List Cl) (i m:Nat):Bool:=(List.range m).any fun k=>!Wq (l.getD k default) (l.getD i default)
theorem zfE (l:List Cl) (i m:Nat):Xy l i (m + 1)=(Xy l i m||!Wq (l.getD m default) (l.getD i default)):=by simp [Xy,List.range_succ]
def Qv (n:Int) (l:List Cl) (i:Nat):Int :=
 if QY n (l.getD i default) != 0 then QY n (l.getD i default) else if Xy l i i then 12 else 0
def YM (n:Int) (l:List Cl):Int × Int :=
 if 6 < l.length then (0,4) else match (List.range l.length).find? (fun i=>Qv n l i != 0) with
  | some i=>(((i:Nat):Int),Qv n l i)
  | none=>(0,0)
theorem zcz {n:Int} {l:List Cl} {k:Nat} (h6:¬ 6 < l.length) (hk:k < l.length) (hno:∀ j,j < k->Qv n l j=0) (h:Qv n l k≠0):YM n l=(((k:Nat):Int),Qv n l k):=by
 have:(List.range l.length).find? (fun i=>Qv n l i != 0)=some k:=by
  rw [List.find?_range_eq_some];exact ⟨by simpa using h,by simpa using hk,fun j hj=>by simp [hno j hj]⟩
 simp [YM,h6,this]
theorem ziK {n:Int} {l:List Cl} (h6:¬ 6 < l.length) (hno:∀ j,j < l.length->Qv n l j=0):YM n l=(0,0):=by
 have:(List.range l.length).find? (fun i=>Qv n l i != 0)=none:=by
  rw [List.find?_eq_none];intro j hj;simp [hno j (List.mem_range.1 hj)]
 simp [YM,h6,this]
theorem zkW (n:Int) (l:List Cl):ACall Tryz.prog 281 [pi n,cls l] (.tup [pi (YM n l).1,pi (YM n l).2]):=by
 refine zh zf Tryz.func281 rfl zws Tryz.ntmps281 zwy63 _ rfl (fun hw gB hgB=>?_);have hl:=zkB hw.2.1;by_cases h6:6 < l.length
 ·repeat' (first|refine sK ?_|refine sC (fun _=>?_) (fun _=>?_)|fail)
  exact retq rfl (by simp [zn,YM,h6])
 ·repeat' (first|refine sK ?_|refine sC (fun _=>?_) (fun _=>?_)|fail)
  refine zL (fun k:Nat=>[(0,.pv (pi n)),(1,.pv (cls l)),(6,.pv (pi k))]) (fun _=>[]) (fun k=>k<=l.length/\∀ j,j < k->Qv n l j=0) (fun k=>l.length - k) 0 ⟨by omega,fun j h=>by omega⟩ (tS) tH ?_;rintro k ⟨hk,hno⟩;by_cases hlt:k < l.length
  ·have he:=zbI hlt;cases ha:(QY n (l.getD k default) != 0)
   ·repeat' (first|(refine shC ?_;first|refine qC (zh6 n (l.getD k default)) ?_)|(refine shX ?_;first|refine qX he ?_)|refine sK ?_|refine sC (fun _=>?_) (fun _=>?_)|fail)
    refine zL (fun m:Nat=>[(0,.pv (pi n)),(1,.pv (cls l)),(6,.pv (pi k)),(8,.pv (pi m))]) (fun _=>[]) (fun m=>m<=k/\Xy l k m=false) (fun m=>k - m) 0 ⟨by omega,rfl⟩ (tS) tH ?_;rintro m ⟨hm,hpb⟩;by_cases hltm:m < k
    ·have hem:=zbI (show m < l.length by omega);have hps:=zfE l k m;cases hf:Wq (l.getD m default) (l.getD k default)
     ·have hat:Qv n l k=12:=by
       have:Xy l k k=true:=by
        simp only [Xy,List.any_eq_true,List.mem_range];exact ⟨m,hltm,by rw [hf];rfl⟩
       unfold Qv;rw [ha];simp [this]
      have hfin:=zcz h6 hlt hno (by rw [hat];decide);clear hps
      repeat' (first|(refine shC ?_;first|refine qC (zg3 (l.getD m default) (l.getD k default)) ?_)|(refine shX ?_;first|refine qX he ?_|refine qX hem ?_)|refine sK ?_|refine sC (fun _=>?_) (fun _=>?_)|fail)
      ·exact retq rfl (by simp [zn,hfin,hat])
      ·exfalso;simp_all
     ·have hpm:Xy l k (m + 1)=false:=by rw [hps,hpb,hf];rfl
      clear hps
      repeat' (first|(refine shC ?_;first|refine qC (zg3 (l.getD m default) (l.getD k default)) ?_)|(refine shX ?_;first|refine qX he ?_|refine qX hem ?_)|refine sK ?_|refine sC (fun _=>?_) (fun _=>?_)|fail)
      ·exfalso;simp_all
      ·exact ⟨m + 1,⟨by omega,hpm⟩,tD,tS,tH⟩
    ·repeat' (first|refine sK ?_|refine sC (fun _=>?_) (fun _=>?_)|fail)
     have:m=k:=by omega
     subst this;have hat:Qv n l m=0:=by unfold Qv;rw [ha];simp [hpb]
     exact ⟨m + 1,⟨by omega,fun j hj=>by
      by_cases e:j=m
      ·subst e;exact hat
      ·exact hno j zwy62⟩,tD,tS,tH⟩
   ·have hat:Qv n l k=QY n (l.getD k default):=by unfold Qv;rw [ha];simp
    have hfin:=zcz h6 hlt hno (by rw [hat];simpa using ha)
    repeat' (first|(refine shC ?_;first|refine qC (zh6 n (l.getD k default)) ?_)|(refine shX ?_;first|refine qX he ?_)|refine sK ?_|refine sC (fun _=>?_) (fun _=>?_)|fail)
    exact retq rfl (by simp [zn,hfin,hat])
  ·repeat' (first|refine sK ?_|refine sC (fun _=>?_) (fun _=>?_)|fail)
   have:k=l.length:=by omega
   subst this;exact retq rfl (by simp [zn,ziK h6 hno])
def WM (n:Int) (l:List Cl):Bool:=(YM n l).2==0
theorem zpG (n:Int) (l:List Cl):ACall Tryz.prog 265 [pi n,cls l] (pb (WM n l)):=by
 refine zh zf Tryz.func265 rfl zws Tryz.ntmps265 zwy63 _ rfl (fun hw gB hgB=>?_)
 repeat' (first|(refine shC ?_;first|refine qC (zkW n l) ?_)|refine sA ?_|refine sC (fun _=>?_) (fun _=>?_)|fail)
 all_goals (first|refine ak ?_|refine Yf rfl ?_)
 all_goals (first|(simp_all [zn,WM];done)|(simp_all [zn,WM];omega))
set_option maxHeartbeats 20000000
def yR (f k:Int):Bool:=(IntKind.i64.wrap (f.tdiv k)).tmod 2==1
theorem zj0 (f:Int):ACall Tryz.prog 59 [pi f,pi 2] (pb (yR f 2)):=by
 refine zh zf Tryz.func59 rfl zws Tryz.ntmps59 zwy63 _ rfl (fun hw gB hgB=>?_)
 repeat' (first|refine sA ?_|refine sC (fun _=>?_) (fun _=>?_)|fail)
 exact retq rfl rfl
theorem zkl (f:Int):ACall Tryz.prog 59 [pi f,pi 1] (pb (yR f 1)):=by
 refine zh zf Tryz.func59 rfl zws Tryz.ntmps59 zwy63 _ rfl (fun hw gB hgB=>?_)
 repeat' (first|refine sA ?_|refine sC (fun _=>?_) (fun _=>?_)|fail)
 exact retq rfl rfl
theorem zrE (f:Int):ACall Tryz.prog 59 [pi f,pi 4] (pb (yR f 4)):=by
 refine zh zf Tryz.func59 rfl zws Tryz.ntmps59 zwy63 _ rfl (fun hw gB hgB=>?_)
 repeat' (first|refine sA ?_|refine sC (fun _=>?_) (fun _=>?_)|fail)
 exact retq rfl rfl
theorem zfY (f:Int):ACall Tryz.prog 59 [pi f,pi 8] (pb (yR f 8)):=by
 refine zh zf Tryz.func59 rfl zws Tryz.ntmps59 zwy63 _ rfl (fun hw gB hgB=>?_)
 repeat' (first|refine sA ?_|refine sC (fun _=>?_) (fun _=>?_)|fail)
 exact retq rfl rfl
theorem ziZ (f:Int):ACall Tryz.prog 59 [pi f,pi 16] (pb (yR f 16)):=by
 refine zh zf Tryz.func59 rfl zws Tryz.ntmps59 zwy63 _ rfl (fun hw gB hgB=>?_)
 repeat' (first|refine sA ?_|refine sC (fun _=>?_) (fun _=>?_)|fail)
 exact retq rfl rfl
def WX (f:Int):Int:=if yR f 2 then 2 else if yR f 1 then 1 else if yR f 16 then 3 else 0
def typeAt (g:Img) (t:Int):Option TD:=if 0<=t then g.types[t.toNat]? else none
theorem Ya (g:Img) (t:Int):there g t=true↔∃ td,typeAt g t=some td:=by
 simp only [there,typeAt,Bool.and_eq_true,decide_eq_true_eq];constructor
 ·rintro ⟨h1,h2⟩;rw [if_pos h1];exact ⟨_,List.getElem?_eq_getElem zwy62⟩
 ·rintro ⟨td,h⟩;split at h
  ·rename_i h0;have:=(List.getElem?_eq_some_iff.1 h).1;omega
  ·cases h
theorem qO {g:Img} {t:Int} {td:TD} (h:typeAt g t=some td):0<=t/\(g.types.map Zx)[t.toNat]?=some (Zx td):=by
 unfold typeAt at h;split at h
 ·rename_i h0;exact ⟨h0,by simp [h]⟩
 ·cases h
def zV (g:Img) (t:Int):Int:=match typeAt g t with|some td=>WX td.flags|none => -1
theorem Zp (g:Img) (t:Int):ACall Tryz.prog 28 [zK g,pi t] (pi (zV g t)):=by
 refine zh zf Tryz.func28 rfl zws Tryz.ntmps28 zwy63 _ rfl (fun hw gB hgB=>?_);by_cases h:there g t=true
 ·have c1:ACall Tryz.prog 58 [zK g,pi t] (pb true):=by rw [<-h];exact Qa g t
  obtain ⟨td,htd⟩:=(Ya g t).1 h;obtain ⟨h0,he⟩:=qO htd
  repeat' (first|(refine shC ?_;first|refine qC c1 ?_|refine qC (zj0 _) ?_|refine qC (zkl _) ?_|refine qC (ziZ _) ?_)|(refine shX ?_;first|refine zy rfl (ah h0 he) rfl rfl ?_|refine zq rfl (ah h0 he) rfl rfl ?_)|refine sA ?_|refine sC (fun _=>?_) (fun _=>?_)|fail)
  all_goals (refine ak ?_)
  all_goals (simp_all [zV,WX,zn])
 ·have c1:ACall Tryz.prog 58 [zK g,pi t] (pb false):=by rw [<-Bool.eq_false_iff.2 h];exact Qa g t
  have hn:typeAt g t=none:=by
   cases e:typeAt g t with
   | none=>rfl
   | some td=>exact (h ((Ya g t).2 ⟨td,e⟩)).elim
  repeat' (first|(refine shC ?_;first|refine qC c1 ?_)|refine sA ?_|refine sC (fun _=>?_) (fun _=>?_)|fail)
  exact retq rfl (by simp [zn,zV,hn])
def qU (f k:Int):Bool:=IntKind.i64.wrap ((BitVec.ofInt IntKind.i64.bits f &&& BitVec.ofInt IntKind.i64.bits k).toNat:Int) != 0
def zg2 (f:Int):Int:=if qU f 2 then 2 else if qU f 1 then 1 else if qU f 16 then 3 else 0
def Yb (g:Img) (t:Int):Int:=match typeAt g t with|some td=>zg2 td.flags|none => -1
theorem zfS (td:TD):ACall Tryz.prog 72 [Zx td] (pi (zg2 td.flags)):=by
 refine zh zf Tryz.func72 rfl zws Tryz.ntmps72 zwy63 _ rfl (fun hw gB hgB=>?_)
 repeat' (first|refine sA ?_|refine sC (fun _=>?_) (fun _=>?_)|fail)
 all_goals (refine ak ?_)
 all_goals (simp_all [zg2,qU,zn])
theorem QD (g:Img) (t:Int):ACall Tryz.prog 36 [zK g,pi t] (pi (Yb g t)):=by
 refine zh zf Tryz.func36 rfl zws Tryz.ntmps36 zwy63 _ rfl (fun hw gB hgB=>?_);by_cases h:there g t=true
 ·have c1:ACall Tryz.prog 71 [zK g,pi t] (pb true):=by rw [<-h];exact QB g t
  obtain ⟨td,htd⟩:=(Ya g t).1 h;obtain ⟨h0,he⟩:=qO htd
  repeat' (first|(refine shC ?_;first|refine qC c1 ?_|refine qC (zfS td) ?_)|(refine shX ?_;first|refine zy rfl (ah h0 he) rfl rfl ?_|refine zq rfl (ah h0 he) rfl rfl ?_)|refine sA ?_|refine sC (fun _=>?_) (fun _=>?_)|fail)
  exact retq rfl (by simp [zn,Yb,htd])
 ·have c1:ACall Tryz.prog 71 [zK g,pi t] (pb false):=by rw [<-Bool.eq_false_iff.2 h];exact QB g t
  have hn:typeAt g t=none:=by
   cases e:typeAt g t with
   | none=>rfl
   | some td=>exact (h ((Ya g t).2 ⟨td,e⟩)).elim
  repeat' (first|(refine shC ?_;first|refine qC c1 ?_)|refine sA ?_|refine sC (fun _=>?_) (fun _=>?_)|fail)
  exact retq rfl (by simp [zn,Yb,hn])
def zf8 (g:Img) (t:Ty):Bool:=plain t 5&&Yb g t.index==0
theorem ziW (g:Img) (t:Ty):ACall Tryz.prog 191 [zK g,yJ t] (pb (zf8 g t)):=by
 refine zh zf Tryz.func191 rfl zws Tryz.ntmps191 zwy63 _ rfl (fun hw gB hgB=>?_)
 repeat' (first|(refine shC ?_;first|refine qC (Xl _ _) ?_|refine qC (QD _ _) ?_)|refine sA ?_|refine sC (fun _=>?_) (fun _=>?_)|fail)
 all_goals (first|refine ak ?_|refine Yf rfl ?_)
 all_goals (first|(simp_all [zn,zf8];done)|(simp_all [zn,zf8];omega))
end Go.Cg
