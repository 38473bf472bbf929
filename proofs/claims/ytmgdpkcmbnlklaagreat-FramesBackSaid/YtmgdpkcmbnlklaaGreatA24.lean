/- A part of the walks by abstract values: no statement of its own. -/
import Derived.Test.YtmgdpkcmbnlklaaGreatA23
import Derived.Test.YtmgdpkcmbnlklaaGreatA7
import Derived.Test.YtmgdpkcmbnlklaaGreatA20
set_option linter.unusedVariables false
set_option linter.unusedSimpArgs false
namespace Go.Cg
open Go.RowKit
section
variable {P:Program} {tb:Tab} {g:Base} {K:KK} {w:World} {ρ:Nat→Value} {H:HEnv} {env:Env} {a:Act} {o:Oper}
theorem zbi (htb:yc P tb) {ty:Nat} {x y:Operand} {i off:Nat} {c v r:AV} (hop:o.op=.store ty x y) (hx:env.val x=some (.box i off)) (hi:H.get i=some (.cell c)) (hy:env.val y=some v) (hr:zaH tb H ty c off v=some r) (hk:tb.known ty=true) (hn:zav H c=true) :
  EStepN P g H ((i,.cell r)::H) H ((i,.cell r)::H) o env (.pv (.tup [])) none:=by
 refine ⟨fun K ρ a w hf hv=>.inr ⟨rfl,?_⟩⟩
 obtain ⟨w',hrun,hf',hlat⟩:=ze0 (a:=a) htb hop hi hr hk hn hf (hv x (by rw [hop];simp [Op.operands]) _ hx) (hv y (by rw [hop];simp [Op.operands]) _ hy)
 exact ⟨undef,w',K,ρ,.inr ⟨hrun,rfl⟩,hf',hlat,fun _ _=>rfl,QA⟩
theorem Qu (htb:yc P tb) {ty:Nat} (i:Nat) (hop:o.op=.alloc ty) {z:Value} (hz:tb.zero ty=some z) {za:AV} (hza:Wp z=some za) (hi:H.get i=none):EStepN P g H ((i,.cell za)::H) H ((i,.cell za)::H) o env (.box i 0) none:=by
 refine ⟨fun K ρ a w hf hv=>.inr ⟨rfl,?_⟩⟩
 obtain ⟨v,w',hrun,hev,hf',hr⟩:=ze6 (a:=a) htb i hop hz hza hi hf
 exact ⟨v,w',K,_,.inl hrun,hf',hev.later hf.lt,fun j hj=>(yu hi (.cell za) v j hj).2,hr⟩
end
section
variable {P:Program} {n:Nat} {g:Base} {H:HEnv} {env:Env} {o:Oper} {c:Code} {QQ:QC} {r:AV}
end
theorem FS.kill {g:Base} {K:KK} {ρ:Nat→Value} {H:HEnv} {w:World} (i:Nat) (hf:FS g K ρ H w):FS g K ρ ((i,.dead)::H) w:=by
 have hold:∀ j x,HEnv.get ((i,HE.dead)::H) j=some x→x.live=true→H.get j=some x:=fun j x hj hl=>by
  rw [HEnv.get_cons] at hj
  split at hj
  ·simp only [Option.some.injEq] at hj;subst hj;cases hl
  ·exact hj
 have hk:∀ j,(H.get j).isSome=true→(HEnv.get ((i,HE.dead)::H) j).isSome=true∧ρ j=ρ j:=fun j hj=>⟨by
  rw [HEnv.get_cons];split <;> first|rfl|exact hj,rfl⟩
 refine ⟨hf.below,hf.old,hf.new,hf.lt,hf.others,hf.pt,fun j x b hj hl hb=>hf.away j x b (hold j x hj hl) hl hb,fun j x hj=>?_,fun j j' x x' b hjj hj hj' hl hl' hb hb'=>hf.heap.apart j j' x x' b hjj (hold j x hj hl) (hold j' x' hj' hl') hl hl' hb hb'⟩
 rw [HEnv.get_cons] at hj
 split at hj
 ·simp only [Option.some.injEq] at hj;subst hj;trivial
 ·exact (hf.heap.ok j x hj).keeps (.refl hf.lt) hf.lt hk
def mkL (l:List HEnv) (p:Nat):HEnv:=l.getD p []
def zm4 (a:HEnv):List HEnv→Prop
 | []=>True
 | x::l=>Xr x a []∧zm4 a l
def keysL:List HEnv→Bool
 | []=>true
 | x::l=>yO x x&&l.all (fun y=>yO x y)&&keysL l
theorem zd5 {g:Base} {a:HEnv}:∀ {l:List HEnv} {n:Nat},l.length=n + 1→zm4 a l→∀ p,p≤n→∀ K ρ w,FS g K ρ (mkL l p) w→FS g K ρ a w
 | [],n,hl,_,p,hp,K,ρ,w,hf=>by simp at hl
 | x::l,n,hl,h,0,hp,K,ρ,w,hf=>hf.narrow h.1
 | x::l,n,hl,h,p + 1,hp,K,ρ,w,hf=>by
  cases n with
  | zero=>omega
  | succ n=>exact zd5 (l:=l) (n:=n) (by simpa using hl) h.2 p (by omega) K ρ w hf
def zmS (i:Nat) (a:HEnv):List HEnv→Prop
 | []=>True
 | x::l=>Xr ((i,.dead)::x) a []∧zmS i a l
theorem zfc {g:Base} {i:Nat} {a:HEnv}:∀ {l:List HEnv} {n:Nat},l.length=n + 1→zmS i a l→∀ p,p≤n→∀ K ρ w,FS g K ρ (mkL l p) w→FS g K ρ a w
 | [],n,hl,_,p,hp,K,ρ,w,hf=>by simp at hl
 | x::l,n,hl,h,0,hp,K,ρ,w,hf=>(hf.kill i).narrow h.1
 | x::l,n,hl,h,p + 1,hp,K,ρ,w,hf=>by
  cases n with
  | zero=>omega
  | succ n=>exact zfc (l:=l) (n:=n) (by simpa using hl) h.2 p (by omega) K ρ w hf
theorem XE:∀ {l:List HEnv} {n:Nat},l.length=n + 1→keysL l=true→∀ q p,q≤p→p≤n→yO (mkL l q) (mkL l p)=true
 | [],n,hl,_,q,p,_,_=>by simp at hl
 | x::l,n,hl,h,0,0,_,_=>by simp only [keysL,Bool.and_eq_true] at h;exact h.1.1
 | x::l,n,hl,h,0,p + 1,_,hp=>by
  simp only [keysL,Bool.and_eq_true,List.all_eq_true] at h
  have hlt:p < l.length:=by simp at hl;omega
  show yO x (l.getD p [])=true
  rw [List.getD_eq_getElem?_getD,List.getElem?_eq_getElem hlt]
  exact h.1.2 _ (List.getElem_mem hlt)
 | x::l,n,hl,h,q + 1,0,hq,_=>by omega
 | x::l,n,hl,h,q + 1,p + 1,hq,hp=>by
  simp only [keysL,Bool.and_eq_true] at h
  cases n with
  | zero=>omega
  | succ n=>exact XE (l:=l) (n:=n) (by simpa using hl) h.2 q p (by omega) (by omega)
end Go.Cg
