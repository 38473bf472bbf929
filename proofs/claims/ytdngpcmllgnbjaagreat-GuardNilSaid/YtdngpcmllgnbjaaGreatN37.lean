/- A part of the walks by abstract values: no statement of its own. -/
import Derived.Test.YtdngpcmllgnbjaaGreatN35
import Derived.Test.YtdngpcmllgnbjaaGreatN30
import Derived.Test.YtdngpcmllgnbjaaGreatN24
set_option linter.unusedVariables false
set_option linter.unusedSimpArgs false
namespace Go.Cg
open Go.Proofs
set_option maxHeartbeats 20000000
section
variable (g:Img) (lim:Int) (shp o1 o2:List PV) (fa hp fr us:Int) (ws tg:List PV) (X8 X13:Obj→Prop) (k at_ base:Int) (u:Value)
theorem zmf (l:List Cl) (i to:Int) (h:l=[]):ACall Tryz.prog 305 [.slc 10 (l.map Yr) false,pi i,pi to] (pb true):=by
 subst h
 exact zl1 [] i to (by simp) (fun x hx=>by cases hx) (fun x hx=>by cases hx)
theorem znQ (st:PV) (to:Int) (hk:0≤k) (hl:k.toNat < g.methods.length) (h0:0≤to) (h1:to < (g.methods.getD k.toNat default).code.length) (hcl:(g.methods.getD k.toNat default).clauses=[]) (vs:Nat→Value) :
  ACallM Tryz.prog 192 [.box 10 0,.pv (pi to)] (mH g lim shp o1 o2 fa hp fr us ws tg X8 X13 k at_ base (.pv st) u++zD vs yX) (.pv (.tup [])) (mH g lim shp o1 o2 fa hp fr us ws tg X8 X13 k to base (.pv st) u++zD vs yX):=by
 have cm:=fun vs=>Zm g lim shp o1 o2 fa hp fr us ws tg X8 X13 k at_ base u st hk hl vs
 have cp:=zmf (g.methods.getD k.toNat default).clauses at_ to hcl
 have hd0:decide (0≤to)=true:=decide_eq_true h0
 have hd1:decide (to < ((((g.methods.getD k.toNat default).code.map yT).length:Nat):Int))=true:=decide_eq_true (by rw [List.length_map];exact h1)
 generalize g.methods.getD k.toNat default=m at *
 refine zJ zh Tryz.func192 rfl (by kernel_rfl) Tryz.ntmps192 (by simp) _ rfl (fun gB hw1=>?_)
 repeat' (first|refine zq (r:=.pv (.base u)) rfl (yx (args:=fun ρ=>[.ptr (Ym g lim shp tg [.base u] (yR o1 o2 fa hp fr us ws (ρ 8)) (ρ 13) 0 zC) 0]) rfl (fun _=>rfl) (fun ρ=>zW g lim shp tg u (yR o1 o2 fa hp fr us ws (ρ 8)) (ρ 13) 0 zC)) rfl rfl ?_|refine AD.step _ _ _ (.pv (.base u)) _ rfl (yx (args:=fun ρ=>[.ptr (Ym g lim shp tg [.base u] (yR o1 o2 fa hp fr us ws (ρ 8)) (ρ 13) 0 zC) 0]) rfl (fun _=>rfl) (fun ρ=>zW g lim shp tg u (yR o1 o2 fa hp fr us ws (ρ 8)) (ρ 13) 0 zC)) rfl rfl ?_|refine Yf 4 120 rfl rfl ?_|(refine shC ?_;first|refine qC cp ?_|refine qC (QF rfl) ?_)|(refine zQ ?_;first|(refine Zu ((mH g lim shp o1 o2 fa hp fr us ws tg X8 X13 k at_ base (.pv st) u)) ((mH g lim shp o1 o2 fa hp fr us ws tg X8 X13 k at_ base (.pv st) u)) (zD vs yX) [(0,.box 10 0),(1,.pv (pi to)),(4,.box 20 0)] yX yc rfl rfl rfl ?_ tS rfl rfl rfl cm ?_;· (repeat (first|exact zk|refine zi rfl ?_))))|refine sK ?_|refine sC (fun _=>?_) (fun _=>?_)|fail)
 exact ⟨.inl rfl,.inl ⟨[],rfl,rfl,⟨by repeat (first|exact zk|refine zi rfl ?_),rfl⟩⟩⟩
theorem zjg (st:PV) (a2:Int) (h2:IntKind.i64.wrap (at_ + 1)=a2) (hk:0≤k) (hl:k.toNat < g.methods.length) (h0:0≤a2) (h1:a2 < (g.methods.getD k.toNat default).code.length) (hcl:(g.methods.getD k.toNat default).clauses=[]) (vs:Nat→Value) :
  ACallM Tryz.prog 183 [.box 10 0] (mH g lim shp o1 o2 fa hp fr us ws tg X8 X13 k at_ base (.pv st) u++zD vs yX) (.pv (.tup [])) (mH g lim shp o1 o2 fa hp fr us ws tg X8 X13 k a2 base (.pv st) u++zD vs yX):=by
 subst h2
 have co:=fun vs=>znQ g lim shp o1 o2 fa hp fr us ws tg X8 X13 k at_ base u st _ hk hl h0 h1 hcl vs
 refine zJ zh Tryz.func183 rfl (by kernel_rfl) Tryz.ntmps183 (by simp) _ rfl (fun gB hw1=>?_)
 repeat' (first|refine zq (r:=.pv (.base u)) rfl (yx (args:=fun ρ=>[.ptr (Ym g lim shp tg [.base u] (yR o1 o2 fa hp fr us ws (ρ 8)) (ρ 13) 0 zC) 0]) rfl (fun _=>rfl) (fun ρ=>zW g lim shp tg u (yR o1 o2 fa hp fr us ws (ρ 8)) (ρ 13) 0 zC)) rfl rfl ?_|refine AD.step _ _ _ (.pv (.base u)) _ rfl (yx (args:=fun ρ=>[.ptr (Ym g lim shp tg [.base u] (yR o1 o2 fa hp fr us ws (ρ 8)) (ρ 13) 0 zC) 0]) rfl (fun _=>rfl) (fun ρ=>zW g lim shp tg u (yR o1 o2 fa hp fr us ws (ρ 8)) (ρ 13) 0 zC)) rfl rfl ?_|refine QI 4 120 rfl rfl ?_|(refine zQ ?_;first|(refine Zu ((mH g lim shp o1 o2 fa hp fr us ws tg X8 X13 k at_ base (.pv st) u)) ((mH g lim shp o1 o2 fa hp fr us ws tg X8 X13 k (IntKind.i64.wrap (at_ + 1)) base (.pv st) u)) (zD vs yX) [(0,.box 10 0)] yX yc rfl rfl rfl ?_ tS rfl rfl rfl co ?_;· (repeat (first|exact zk|refine zi rfl ?_))))|refine sK ?_|refine sC (fun _=>?_) (fun _=>?_)|fail)
 exact ⟨.inl rfl,.inl ⟨[],rfl,rfl,⟨by repeat (first|exact zk|refine zi rfl ?_),rfl⟩⟩⟩
theorem zhZ (arg:Int) (t0:Ty) (a2:Int) (h2:IntKind.i64.wrap (at_ + 1)=a2) (hk:0≤k) (hl:k.toNat < g.methods.length) (hmax:0 < (g.methods.getD k.toNat default).max) (h0:0≤a2) (h1:a2 < (g.methods.getD k.toNat default).code.length) (hcl:(g.methods.getD k.toNat default).clauses=[]) (vs:Nat→Value) :
  ACallM Tryz.prog 106 [.box 10 0,.pv (yT ⟨8,arg,t0⟩)] (mH g lim shp o1 o2 fa hp fr us ws tg X8 X13 k at_ base (.pv zC) u++zD vs yX) (.pv (.tup [])) (mH g lim shp o1 o2 fa hp fr us ws tg X8 X13 k a2 base (.pv (.slc 5 [Za (kTg 2) [.base (.int .u64 (IntKind.u64.wrap arg))] true] false)) u++zD vs yX):=by
 have ck:=VN 2
 have cp:=fun vs=>zkS g lim shp o1 o2 fa hp fr us ws tg X8 X13 k at_ base u (kTg 2) [.base (.int .u64 (IntKind.u64.wrap arg))] true hk hl hmax vs
 rw [show zeW (kTg 2)=kTg 2 from rfl] at cp
 have ca:=fun vs=>zjg g lim shp o1 o2 fa hp fr us ws tg X8 X13 k at_ base u (.slc 5 [Za (kTg 2) [.base (.int .u64 (IntKind.u64.wrap arg))] true] false) a2 h2 hk hl h0 h1 hcl vs
 refine zJ zh Tryz.func106 rfl (by kernel_rfl) Tryz.ntmps106 (by simp) _ rfl (fun gB hw1=>?_)
 repeat' (first|refine zq (r:=.pv (.base u)) rfl (yx (args:=fun ρ=>[.ptr (Ym g lim shp tg [.base u] (yR o1 o2 fa hp fr us ws (ρ 8)) (ρ 13) 0 zC) 0]) rfl (fun _=>rfl) (fun ρ=>zW g lim shp tg u (yR o1 o2 fa hp fr us ws (ρ 8)) (ρ 13) 0 zC)) rfl rfl ?_|refine AD.step _ _ _ (.pv (.base u)) _ rfl (yx (args:=fun ρ=>[.ptr (Ym g lim shp tg [.base u] (yR o1 o2 fa hp fr us ws (ρ 8)) (ρ 13) 0 zC) 0]) rfl (fun _=>rfl) (fun ρ=>zW g lim shp tg u (yR o1 o2 fa hp fr us ws (ρ 8)) (ρ 13) 0 zC)) rfl rfl ?_|refine Yf 4 120 rfl rfl ?_|refine yP 7 6 rfl (by kernel_rfl) (by kernel_rfl) (by kernel_rfl) (by kernel_rfl) (by kernel_rfl) ?_|(refine shC ?_;first|refine qC ck ?_)|(refine zQ ?_;first|(refine yO (mH g lim shp o1 o2 fa hp fr us ws tg X8 X13 k at_ base (.pv zC) u) (mH g lim shp o1 o2 fa hp fr us ws tg X8 X13 k at_ base (.pv (.slc 5 [Za (kTg 2) [.base (.int .u64 (IntKind.u64.wrap arg))] true] false)) u) (zD vs yX) (yX) yc rfl rfl rfl ?_ rfl rfl rfl cp ?_;· (repeat (first|exact zk|refine zi rfl ?_)))|(refine yO (mH g lim shp o1 o2 fa hp fr us ws tg X8 X13 k at_ base (.pv (.slc 5 [Za (kTg 2) [.base (.int .u64 (IntKind.u64.wrap arg))] true] false)) u) (mH g lim shp o1 o2 fa hp fr us ws tg X8 X13 k a2 base (.pv (.slc 5 [Za (kTg 2) [.base (.int .u64 (IntKind.u64.wrap arg))] true] false)) u) (zD vs yX) (yX) yc rfl rfl rfl ?_ rfl rfl rfl ca ?_;· (repeat (first|exact zk|refine zi rfl ?_))))|refine sK ?_|refine sC (fun _=>?_) (fun _=>?_)|fail)
 exact ⟨.inl rfl,.inl ⟨[],rfl,rfl,⟨by repeat (first|exact zk|refine zi rfl ?_),rfl⟩⟩⟩
theorem zph (arg:Int) (t0:Ty) (a2:Int) (h2:IntKind.i64.wrap (at_ + 1)=a2) (hk:0≤k) (hl:k.toNat < g.methods.length) (hmax:0 < (g.methods.getD k.toNat default).max) (h0:0≤a2) (h1:a2 < (g.methods.getD k.toNat default).code.length) (hcl:(g.methods.getD k.toNat default).clauses=[]) (vs:Nat→Value) :
  ACallM Tryz.prog 47 [.box 10 0,.pv (yT ⟨8,arg,t0⟩)] (mH g lim shp o1 o2 fa hp fr us ws tg X8 X13 k at_ base (.pv zC) u++zD vs yX) (.pv (.tup [])) (mH g lim shp o1 o2 fa hp fr us ws tg X8 X13 k a2 base (.pv (.slc 5 [Za (kTg 2) [.base (.int .u64 (IntKind.u64.wrap arg))] true] false)) u++zD vs yX):=by
 have cs:=fun vs=>zhZ g lim shp o1 o2 fa hp fr us ws tg X8 X13 k at_ base u arg t0 a2 h2 hk hl hmax h0 h1 hcl vs
 refine zJ zh Tryz.func47 rfl (by kernel_rfl) Tryz.ntmps47 (by simp) _ rfl (fun gB hw1=>?_)
 repeat' (first|refine zq (r:=.pv (.base u)) rfl (yx (args:=fun ρ=>[.ptr (Ym g lim shp tg [.base u] (yR o1 o2 fa hp fr us ws (ρ 8)) (ρ 13) 0 zC) 0]) rfl (fun _=>rfl) (fun ρ=>zW g lim shp tg u (yR o1 o2 fa hp fr us ws (ρ 8)) (ρ 13) 0 zC)) rfl rfl ?_|refine AD.step _ _ _ (.pv (.base u)) _ rfl (yx (args:=fun ρ=>[.ptr (Ym g lim shp tg [.base u] (yR o1 o2 fa hp fr us ws (ρ 8)) (ρ 13) 0 zC) 0]) rfl (fun _=>rfl) (fun ρ=>zW g lim shp tg u (yR o1 o2 fa hp fr us ws (ρ 8)) (ρ 13) 0 zC)) rfl rfl ?_|refine QI 8 120 rfl rfl ?_|(refine shC ?_;first|refine qC (QF rfl) ?_)|(refine zQ ?_;first|(refine yO (mH g lim shp o1 o2 fa hp fr us ws tg X8 X13 k at_ base (.pv zC) u) (mH g lim shp o1 o2 fa hp fr us ws tg X8 X13 k a2 base (.pv (.slc 5 [Za (kTg 2) [.base (.int .u64 (IntKind.u64.wrap arg))] true] false)) u) (zD vs yX) (yX) yc rfl rfl rfl ?_ rfl rfl rfl cs ?_;· (repeat (first|exact zk|refine zi rfl ?_))))|refine sK ?_|refine sC (fun _=>?_) (fun _=>?_)|fail)
 exact ⟨.inl rfl,.inl ⟨[],rfl,rfl,⟨by repeat (first|exact zk|refine zi rfl ?_),rfl⟩⟩⟩
end
set_option maxHeartbeats 20000000

/-! frames that are left -/
abbrev bH (g:Img) (lim:Int) (shp o1 o2:List PV) (fa hp fr us:Int) (ws tg:List PV) (X8 X13:Obj→Prop) (fs:List PV) (ek:Int) (ew:PV):HEnv :=
  [(10,.cell (mcC g lim (.own 12) ek ew shp)),(12,.mrow 112 1 fs),
   (0,.cell (.agg [.own 7,.pv (.slc 1 o1 false),.pv (.slc 1 o2 false),.own 8,.pv (.base (.int .u64 fa)),.pv (.base (.int .u64 hp)),.pv (.base (.int .u64 fr)),.pv (pi us)])),(7,.mrow 102 1 ws),(8,.obj X8),(11,.mrow 44 4 tg),(13,.obj X13)]
abbrev allM:List Nat:=[10,20,120,0,7,8,11,13]
abbrev allB:List Nat:=[10,12,0,7,8,11,13]
theorem zoZ {a:Int} (h1:0≤a) (h2:a≤18446744073709551615):IntKind.u64.wrap a=a:=by
  unfold IntKind.wrap
  simp only [IntKind.bits,IntKind.signed]
  simp
  omega
def zpJ (n:Nat) (tg:List PV) (b:Nat):List PV:=tg.take b++List.replicate n (.agg [pi 0,pi 0,pi 0,pb false])++tg.drop (b + n)
abbrev zb3 (tg:List PV) (b:Nat):List PV:=zpJ 256 tg b
theorem zop {n:Nat} {tg:List PV} {b:Nat} (h:b + n≤tg.length):(zpJ n tg b).length=tg.length:=by
  simp only [zpJ,List.length_append,List.length_take,List.length_replicate,List.length_drop];omega
/-- behind the last frame -/
abbrev lH (g:Img) (lim:Int) (shp o1 o2:List PV) (fa hp fr us:Int) (ws tg:List PV) (X8 X13:Obj→Prop) (k at_ base:Int) (st:AV) (u:Value) (ek:Int) (ew:PV):HEnv :=
  bH g lim shp o1 o2 fa hp fr us ws tg X8 X13 [] ek ew++[(20,.cell (frC k at_ base st)),(120,.pin (.box 20 0) u)]
section
variable (g:Img) (lim:Int) (shp o1 o2:List PV) (fa hp fr us:Int) (ws tg:List PV) (X8 X13:Obj→Prop) (k at_ base:Int) (u:Value)
theorem zdC (fs:List PV) (h0:0≤base) (h1:base≤100000) (ht:base.toNat + 256≤tg.length) (vs:Nat→Value) :
    ACallM Tryz.prog 176 [.box 10 0,.pv (.base (.int .u64 base))] (bH g lim shp o1 o2 fa hp fr us ws tg X8 X13 fs 0 zC++zD vs allB) (.pv (.tup [])) (bH g lim shp o1 o2 fa hp fr us ws (zb3 tg base.toNat) X8 X13 fs 0 zC++zD vs allB):=by
  have hw:IntKind.u64.wrap (base + 256)=base + 256:=zoZ (by omega) (by omega)
  have hhi:(some (IntKind.u64.wrap (base + 256)):Option Int)=some (base + 256):=by rw [hw]
  have e1:(base + 256).toNat - base.toNat=256:=by omega
  refine zJ zh Tryz.func176 rfl (by kernel_rfl) Tryz.ntmps176 (by simp) _ rfl (fun gB hw1=>?_)
  repeat' (first|refine zaY zh 11 200 rfl rfl rfl rfl rfl rfl rfl rfl hhi h0 (by omega) (by omega) (by omega) rfl rfl rfl (fun uu=>?_)|(refine zI ?_;first|refine zew (j:=200) zh rfl rfl rfl rfl rfl rfl (by omega) (by omega) (by omega) rfl rfl rfl rfl ?_)|refine sK ?_|refine sC (fun _=>?_) (fun _=>?_)|fail)
  exact ⟨.inl rfl,.inl ⟨[],rfl,rfl,⟨by repeat (first|exact zk|refine zi rfl ?_|refine zoY rfl (by rw [e1];rfl) ?_),rfl⟩⟩⟩
theorem zjT (st:PV) (h0:0≤base) (h1:base≤100000) (ht:base.toNat + 256≤tg.length) (vs:Nat→Value) :
    ACallM Tryz.prog 310 [.box 10 0] (mH g lim shp o1 o2 fa hp fr us ws tg X8 X13 k at_ base (.pv st) u++zD vs allM) (.box 20 0) (lH g lim shp o1 o2 fa hp fr us ws (zb3 tg base.toNat) X8 X13 k at_ base (.pv st) u 0 zC++zD vs allM):=by
  have cc:=fun vs=>zdC g lim shp o1 o2 fa hp fr us ws tg X8 X13 base [.base u] h0 h1 ht vs
  have hq0:some (IntKind.i64.wrap ((([PV.base u].length:Nat):Int) - 1))=some (((0:Nat):Int)):=rfl
  have hq1:(0:Int)≤((0:Nat):Int):=Int.le_refl 0
  have hq2:((0:Nat):Int)≤(([PV.base u].length:Nat):Int):=by show (0:Int)≤1;decide
  have hq3:0 < [PV.base u].length:=Nat.zero_lt_one
  refine zJ zh Tryz.func310 rfl (by kernel_rfl) Tryz.ntmps310 (by simp) _ rfl (fun gB hw1=>?_)
  repeat' (first|refine zl0 10 12 210 7 (h:=0) rfl rfl rfl rfl (by simp) (by simp) ?_|refine zpR 12 210 rfl rfl (fun uu=>?_)|refine zq (r:=.pv (.base u)) rfl (yx (args:=fun ρ=>[.ptr (Ym g lim shp tg [.base u] (yR o1 o2 fa hp fr us ws (ρ 8)) (ρ 13) 0 zC) 0]) rfl (fun _=>rfl) (fun ρ=>zW g lim shp tg u (yR o1 o2 fa hp fr us ws (ρ 8)) (ρ 13) 0 zC)) rfl rfl ?_|refine AD.step _ _ _ (.pv (.base u)) _ rfl (yx (args:=fun ρ=>[.ptr (Ym g lim shp tg [.base u] (yR o1 o2 fa hp fr us ws (ρ 8)) (ρ 13) 0 zC) 0]) rfl (fun _=>rfl) (fun ρ=>zW g lim shp tg u (yR o1 o2 fa hp fr us ws (ρ 8)) (ρ 13) 0 zC)) rfl rfl ?_|refine Yf 3 120 rfl rfl ?_|refine zq rfl (yK (b:=true) rfl Tryz.underlying119 rfl rfl) rfl rfl ?_|refine AD.step _ _ _ _ _ rfl (yK (b:=true) rfl Tryz.underlying119 rfl rfl) rfl rfl ?_|refine sM ?_|refine yP 15 14 rfl (by kernel_rfl) (by kernel_rfl) (by kernel_rfl) (by kernel_rfl) (by kernel_rfl) ?_|refine AD.step _ _ _ _ _ rfl (zo5 zh 12 210 rfl rfl rfl rfl rfl rfl rfl hq0 hq1 hq2 hq3) rfl rfl ?_|(refine zQ ?_;first|(refine yO (bH g lim shp o1 o2 fa hp fr us ws tg X8 X13 [.base u] 0 zC) (bH g lim shp o1 o2 fa hp fr us ws (zb3 tg base.toNat) X8 X13 [.base u] 0 zC) ((20,.cell (frC k at_ base (.pv st)))::(120,.pin (.box 20 0) u)::(210,.pin (.own 12) uu)::zD vs allM) (allB) yc rfl rfl rfl ?_ rfl rfl rfl cc ?_;· (repeat (first|exact zk|refine zi rfl ?_))))|refine sK ?_|refine sC (fun _=>?_) (fun _=>?_)|fail)
  exact ⟨.inr rfl,.inr ⟨2,rfl,rfl,⟨by repeat (first|exact zk|refine zi rfl ?_),rfl⟩⟩⟩
theorem zk2 (at_:Int):ACall Tryz.prog 264 [.slc 10 (([]:List Cl).map Yr) false,pi at_] (.slc 2 [] false) :=
  zkN [] at_ (by simp) (fun x hx=>by cases hx)
theorem zna (ql:List PV) (fq:Bool) (hk:0≤k) (hl:k.toNat < g.methods.length) (hret:(g.methods.getD k.toNat default).ret=kTg 2) (hcl:(g.methods.getD k.toNat default).clauses=[]) (h0:0≤base) (h1:base≤100000) (ht:base.toNat + 256≤tg.length) (vs:Nat→Value) :
    ACallM Tryz.prog 210 [.box 10 0] (mH g lim shp o1 o2 fa hp fr us ws tg X8 X13 k at_ base (.pv (.slc 5 [Za (kTg 2) ql fq] false)) u++zD vs allM) (.pv (.tup [])) (lH g lim shp o1 o2 fa hp fr us ws (zb3 tg base.toNat) X8 X13 k at_ base (.pv (.slc 5 [] true)) u 1 (.slc 1 ql fq)++zD vs allM):=by
  have cm:=fun vs=>Zm g lim shp o1 o2 fa hp fr us ws tg X8 X13 k at_ base u (.slc 5 [Za (kTg 2) ql fq] false) hk hl vs
  have cw:=fun vs=>zkM g lim shp o1 o2 fa hp fr us ws tg X8 X13 k at_ base u (kTg 2) ql fq rfl rfl vs
  have cl:=fun vs=>zjT g lim shp o1 o2 fa hp fr us ws tg X8 X13 k at_ base u (.slc 5 [] true) h0 h1 ht vs
  generalize g.methods.getD k.toNat default=m at *
  obtain ⟨nm,ow,fl,ps,rt,lc,mx,cd,cs⟩:=m
  simp only at hret hcl
  subst hret hcl
  have cc:=zk2 at_
  refine zJ zh Tryz.func210 rfl (by kernel_rfl) Tryz.ntmps210 (by simp) _ rfl (fun gB hw1=>?_)
  repeat' (first|refine zq (r:=.pv (.base u)) rfl (yx (args:=fun ρ=>[.ptr (Ym g lim shp tg [.base u] (yR o1 o2 fa hp fr us ws (ρ 8)) (ρ 13) 0 zC) 0]) rfl (fun _=>rfl) (fun ρ=>zW g lim shp tg u (yR o1 o2 fa hp fr us ws (ρ 8)) (ρ 13) 0 zC)) rfl rfl ?_|refine AD.step _ _ _ (.pv (.base u)) _ rfl (yx (args:=fun ρ=>[.ptr (Ym g lim shp tg [.base u] (yR o1 o2 fa hp fr us ws (ρ 8)) (ρ 13) 0 zC) 0]) rfl (fun _=>rfl) (fun ρ=>zW g lim shp tg u (yR o1 o2 fa hp fr us ws (ρ 8)) (ρ 13) 0 zC)) rfl rfl ?_|refine Yf 2 120 rfl rfl ?_|refine zq rfl (yK (b:=true) rfl Tryz.underlying119 rfl rfl) rfl rfl ?_|refine AD.step _ _ _ _ _ rfl (yK (b:=true) rfl Tryz.underlying119 rfl rfl) rfl rfl ?_|refine sM ?_|(refine shC ?_;first|refine qC cc ?_|refine qC (QF rfl) ?_)|(refine zQ ?_;first|(refine yO (mH g lim shp o1 o2 fa hp fr us ws tg X8 X13 k at_ base (.pv (.slc 5 [Za (kTg 2) ql fq] false)) u) (mH g lim shp o1 o2 fa hp fr us ws tg X8 X13 k at_ base (.pv (.slc 5 [Za (kTg 2) ql fq] false)) u) (zD vs allM) (yX) yc rfl rfl rfl ?_ rfl rfl rfl cm ?_;· (repeat (first|exact zk|refine zi rfl ?_)))|(refine yO (mH g lim shp o1 o2 fa hp fr us ws tg X8 X13 k at_ base (.pv (.slc 5 [Za (kTg 2) ql fq] false)) u) (mH g lim shp o1 o2 fa hp fr us ws tg X8 X13 k at_ base (.pv (.slc 5 [] true)) u) ((2,.cell (.pv (.agg [pi 0,pi 0,pi 0,pb false,zC])))::(1,.cell (.pv (zM ⟨nm,ow,fl,ps,kTg 2,lc,mx,cd,[]⟩)))::zD vs allM) (yX) yc rfl rfl rfl ?_ rfl rfl rfl cw ?_;· (repeat (first|exact zk|refine zi rfl ?_)))|(refine yO (mH g lim shp o1 o2 fa hp fr us ws tg X8 X13 k at_ base (.pv (.slc 5 [] true)) u) (lH g lim shp o1 o2 fa hp fr us ws (zb3 tg base.toNat) X8 X13 k at_ base (.pv (.slc 5 [] true)) u 0 zC) ((2,.cell (.pv (Za (kTg 2) ql fq)))::(1,.cell (.pv (zM ⟨nm,ow,fl,ps,kTg 2,lc,mx,cd,[]⟩)))::zD vs allM) (allM) yc rfl rfl rfl ?_ rfl rfl rfl cl ?_;· (repeat (first|exact zk|refine zi rfl ?_))))|refine sK ?_|refine sC (fun _=>?_) (fun _=>?_)|fail)
  exact ⟨.inr rfl,.inl ⟨[],rfl,rfl,⟨by repeat (first|exact zk|refine zi rfl ?_),rfl⟩⟩⟩
theorem zmw (arg:Int) (t0:Ty) (ql:List PV) (fq:Bool) (hk:0≤k) (hl:k.toNat < g.methods.length) (hret:(g.methods.getD k.toNat default).ret=kTg 2) (hcl:(g.methods.getD k.toNat default).clauses=[]) (h0:0≤base) (h1:base≤100000) (ht:base.toNat + 256≤tg.length) (vs:Nat→Value) :
    ACallM Tryz.prog 105 [.box 10 0,.pv (yT ⟨46,arg,t0⟩)] (mH g lim shp o1 o2 fa hp fr us ws tg X8 X13 k at_ base (.pv (.slc 5 [Za (kTg 2) ql fq] false)) u++zD vs allM) (.pv (.tup [])) (lH g lim shp o1 o2 fa hp fr us ws (zb3 tg base.toNat) X8 X13 k at_ base (.pv (.slc 5 [] true)) u 1 (.slc 1 ql fq)++zD vs allM):=by
  have cm:=fun vs=>Zm g lim shp o1 o2 fa hp fr us ws tg X8 X13 k at_ base u (.slc 5 [Za (kTg 2) ql fq] false) hk hl vs
  have cr:=fun vs=>zna g lim shp o1 o2 fa hp fr us ws tg X8 X13 k at_ base u ql fq hk hl hret hcl h0 h1 ht vs
  generalize g.methods.getD k.toNat default=m at *
  refine zJ zh Tryz.func105 rfl (by kernel_rfl) Tryz.ntmps105 (by simp) _ rfl (fun gB hw1=>?_)
  repeat' (first|refine zq (r:=.pv (.base u)) rfl (yx (args:=fun ρ=>[.ptr (Ym g lim shp tg [.base u] (yR o1 o2 fa hp fr us ws (ρ 8)) (ρ 13) 0 zC) 0]) rfl (fun _=>rfl) (fun ρ=>zW g lim shp tg u (yR o1 o2 fa hp fr us ws (ρ 8)) (ρ 13) 0 zC)) rfl rfl ?_|refine AD.step _ _ _ (.pv (.base u)) _ rfl (yx (args:=fun ρ=>[.ptr (Ym g lim shp tg [.base u] (yR o1 o2 fa hp fr us ws (ρ 8)) (ρ 13) 0 zC) 0]) rfl (fun _=>rfl) (fun ρ=>zW g lim shp tg u (yR o1 o2 fa hp fr us ws (ρ 8)) (ρ 13) 0 zC)) rfl rfl ?_|refine Yf 4 120 rfl rfl ?_|(refine zQ ?_;first|(refine yO (mH g lim shp o1 o2 fa hp fr us ws tg X8 X13 k at_ base (.pv (.slc 5 [Za (kTg 2) ql fq] false)) u) (mH g lim shp o1 o2 fa hp fr us ws tg X8 X13 k at_ base (.pv (.slc 5 [Za (kTg 2) ql fq] false)) u) (zD vs allM) (yX) yc rfl rfl rfl ?_ rfl rfl rfl cm ?_;· (repeat (first|exact zk|refine zi rfl ?_)))|(refine yO (mH g lim shp o1 o2 fa hp fr us ws tg X8 X13 k at_ base (.pv (.slc 5 [Za (kTg 2) ql fq] false)) u) (lH g lim shp o1 o2 fa hp fr us ws (zb3 tg base.toNat) X8 X13 k at_ base (.pv (.slc 5 [] true)) u 1 (.slc 1 ql fq)) (zD vs allM) (allM) yc rfl rfl rfl ?_ rfl rfl rfl cr ?_;· (repeat (first|exact zk|refine zi rfl ?_))))|refine sK ?_|refine sC (fun _=>?_) (fun _=>?_)|fail)
  exact ⟨.inl rfl,.inl ⟨[],rfl,rfl,⟨by repeat (first|exact zk|refine zi rfl ?_),rfl⟩⟩⟩
theorem zpx (arg:Int) (t0:Ty) (ql:List PV) (fq:Bool) (hk:0≤k) (hl:k.toNat < g.methods.length) (hret:(g.methods.getD k.toNat default).ret=kTg 2) (hcl:(g.methods.getD k.toNat default).clauses=[]) (h0:0≤base) (h1:base≤100000) (ht:base.toNat + 256≤tg.length) (vs:Nat→Value) :
    ACallM Tryz.prog 47 [.box 10 0,.pv (yT ⟨46,arg,t0⟩)] (mH g lim shp o1 o2 fa hp fr us ws tg X8 X13 k at_ base (.pv (.slc 5 [Za (kTg 2) ql fq] false)) u++zD vs allM) (.pv (.tup [])) (lH g lim shp o1 o2 fa hp fr us ws (zb3 tg base.toNat) X8 X13 k at_ base (.pv (.slc 5 [] true)) u 1 (.slc 1 ql fq)++zD vs allM):=by
  have ce:=fun vs=>zmw g lim shp o1 o2 fa hp fr us ws tg X8 X13 k at_ base u arg t0 ql fq hk hl hret hcl h0 h1 ht vs
  refine zJ zh Tryz.func47 rfl (by kernel_rfl) Tryz.ntmps47 (by simp) _ rfl (fun gB hw1=>?_)
  repeat' (first|refine zq (r:=.pv (.base u)) rfl (yx (args:=fun ρ=>[.ptr (Ym g lim shp tg [.base u] (yR o1 o2 fa hp fr us ws (ρ 8)) (ρ 13) 0 zC) 0]) rfl (fun _=>rfl) (fun ρ=>zW g lim shp tg u (yR o1 o2 fa hp fr us ws (ρ 8)) (ρ 13) 0 zC)) rfl rfl ?_|refine AD.step _ _ _ (.pv (.base u)) _ rfl (yx (args:=fun ρ=>[.ptr (Ym g lim shp tg [.base u] (yR o1 o2 fa hp fr us ws (ρ 8)) (ρ 13) 0 zC) 0]) rfl (fun _=>rfl) (fun ρ=>zW g lim shp tg u (yR o1 o2 fa hp fr us ws (ρ 8)) (ρ 13) 0 zC)) rfl rfl ?_|refine QI 8 120 rfl rfl ?_|(refine shC ?_;first|refine qC (QF rfl) ?_)|(refine zQ ?_;first|(refine yO (mH g lim shp o1 o2 fa hp fr us ws tg X8 X13 k at_ base (.pv (.slc 5 [Za (kTg 2) ql fq] false)) u) (lH g lim shp o1 o2 fa hp fr us ws (zb3 tg base.toNat) X8 X13 k at_ base (.pv (.slc 5 [] true)) u 1 (.slc 1 ql fq)) (zD vs allM) (allM) yc rfl rfl rfl ?_ rfl rfl rfl ce ?_;· (repeat (first|exact zk|refine zi rfl ?_))))|refine sK ?_|refine sC (fun _=>?_) (fun _=>?_)|fail)
  exact ⟨.inl rfl,.inl ⟨[],rfl,rfl,⟨by repeat (first|exact zk|refine zi rfl ?_),rfl⟩⟩⟩
end
set_option maxHeartbeats 20000000
abbrev eH (ek:Int) (ew:PV):HEnv:=[(10,.cell (.agg [.any,.any,.any,.any,.any,.any,.any,.any,.any,.any,.pv (pi ek),.pv (pi 0),.pv (pi 0),.pv (pi 0),.pv (pb false),.pv ew,.any,.any,.any]))]
abbrev spH (p1:Value):HEnv:=[(1,.cell (.box 10 0)),(2001,.pin (.box 1 0) p1)]
theorem znn {P:Program} {t xt:TypeId} {fs} {v:Value} {w:World} (hu:P.underlying t=some (.struct fs)):(Instr.typeAssert (.iface t v) xt t true).run P w=.ok (.tuple #[v,.bool true]) w:=by
 simp [Instr.typeAssert,run_underlying hu]
theorem zmm {P:Program} {t xt:TypeId} {fs} {z:Value} {w:World} (hu:P.underlying t=some (.struct fs)) (hz:(zeroValue t).run P w=.ok z w):(Instr.typeAssert .nilIface xt t true).run P w=.ok (.tuple #[z,.bool false]) w:=by
 simp [Instr.typeAssert,run_underlying hu,hz]
abbrev ziE (us:Nat→Value) (p1:Value) (ek:Int) (ew:PV):HEnv:=spH p1++(eH ek ew++zD us [10])
theorem znC (us:Nat→Value) (p1:Value):DCall Tryz.prog 45 (ziE us p1 0 zC) [.box 1 0] (.panicking [{ v:=zao,recovered:=false }]) (.panicking [{ v:=zao,recovered:=true }]) (ziE us p1 3 zC):=by
 refine zd2 Tryz.func45 rfl (by kernel_rfl) rfl (fun g K ρ w vs hds hf hv c₀ cs hu=>?_)
 obtain ⟨v1,rfl⟩:=List.length_eq_one_iff.1 hv.1
 have r1:=hv.2 0 _ v1 rfl rfl
 refine wpS_seq ?_
 refine wpS_region ?_
 have hz:=fun w=>zjG (P:=Tryz.prog) (w:=w) (z:=.agg #[]) zh (ty:=110) rfl
 have h1:=fun xt=>znn (P:=Tryz.prog) (xt:=xt) (v:=.agg #[]) (w:=w) Tryz.underlying110
 have hev:Evo K K w (w.alloc (.cells #[] 110)):=⟨(Go.RowKit.Below.refl _ _).alloc (Nat.le_refl _) _,fun _ _ h=>h,fun _ _ h=>.inl h,fun b o h=>by have:=hf.lt b o h;simp;omega⟩
 simp [wpOpsS,go_sem,recoverD,hu,Tryz.ntmps45,Exit.thenS,h1,hz]
 refine zod (n:=13) (g:=g) (env:=[(0,.box 1 0),(2,.pv (pb true))]) (H:=ziE us p1 0 zC) (QQ:=zqx (ziE us p1 3 zC)) ?_
  ⟨by simp,by rw [hds],K,ρ,hf.evo hev,za3 (v:=v1) (by simp) (r1.keeps (hev.later hf.lt) fun j hj=>⟨hj,rfl⟩) (za3 (v:=.bool true) (by simp) (.pv _ _ (.base _ rfl)) zj3)⟩
  (fun ex a' w' env' H' hi hq=>⟨hq.1,hi.defers.trans hds,rfl,zom hi hq.2⟩)
 repeat' (first|refine sK ?_|refine sC (fun _=>?_) (fun _=>?_)|fail)
 exact ⟨.inl rfl,tH⟩
theorem zgo (H:HEnv) (hH:YO H H []):DCall Tryz.prog 45 H [.box 1 0] .returning .returning H:=by
 refine zd2 Tryz.func45 rfl (by kernel_rfl) rfl (fun g K ρ w vs hds hf hv c₀ cs hu=>?_)
 obtain ⟨v1,rfl⟩:=List.length_eq_one_iff.1 hv.1
 refine wpS_seq ?_
 refine wpS_region ?_
 have hz:=fun w=>zjG (P:=Tryz.prog) (w:=w) (z:=.agg #[]) zh (ty:=110) rfl
 have h1:=fun xt=>zmm (P:=Tryz.prog) (xt:=xt) (w:=w) Tryz.underlying110 (hz w)
 have hev:Evo K K w (w.alloc (.cells #[] 110)):=⟨(Go.RowKit.Below.refl _ _).alloc (Nat.le_refl _) _,fun _ _ h=>h,fun _ _ h=>.inl h,fun b o h=>by have:=hf.lt b o h;simp;omega⟩
 simp [wpOpsS,go_sem,recoverD,hu,Tryz.ntmps45,Exit.thenS,h1,hz]
 refine zod (n:=13) (g:=g) (env:=[(2,.pv (pb false))]) (H:=H) (QQ:=zqx H) ?_
  ⟨by simp,by rw [hds],K,ρ,hf.evo hev,za3 (v:=.bool false) (by simp) (.pv _ _ (.base _ rfl)) zj3⟩
  (fun ex a' w' env' H' hi hq=>⟨hq.1,hi.defers.trans hds,by cases c₀;simp_all,zom hi hq.2⟩)
 repeat' (first|refine sK ?_|refine sC (fun _=>?_) (fun _=>?_)|fail)
 exact ⟨.inl rfl,hH⟩
theorem zls {g:Img} {lim:Int} {fr:AV} {ek:Int} {ew ew':PV} {shp:List PV} (he:PTells ew ew'):Tells (mcC g lim fr ek ew shp) (.agg [.any,.any,.any,.any,.any,.any,.any,.any,.any,.any,.pv (pi ek),.pv (pi 0),.pv (pi 0),.pv (pi 0),.pv (pb false),.pv ew',.any,.any,.any]):=by
 intro K w ρ H v h
 cases h with
 | agg _ vs h1 h2 h3 =>
  refine .agg _ vs h1 h2 fun k c v hc hv=>?_
  match k,hc with
  | 0,hc=>cases hc;exact .any v
  | 1,hc=>cases hc;exact .any v
  | 2,hc=>cases hc;exact .any v
  | 3,hc=>cases hc;exact .any v
  | 4,hc=>cases hc;exact .any v
  | 5,hc=>cases hc;exact .any v
  | 6,hc=>cases hc;exact .any v
  | 7,hc=>cases hc;exact .any v
  | 8,hc=>cases hc;exact .any v
  | 9,hc=>cases hc;exact .any v
  | 10,hc=>exact h3 10 _ v hc hv
  | 11,hc=>exact h3 11 _ v hc hv
  | 12,hc=>exact h3 12 _ v hc hv
  | 13,hc=>exact h3 13 _ v hc hv
  | 14,hc=>exact h3 14 _ v hc hv
  | 15,hc=>cases hc;have h4:=h3 15 _ v rfl hv;cases h4 with|pv _ _ hp=>exact .pv _ _ (he K w v hp)
  | 16,hc=>cases hc;exact .any v
  | 17,hc=>cases hc;exact .any v
  | 18,hc=>cases hc;exact .any v
  | k + 19,hc=>simp at hc
section
variable (g:Img) (lim:Int) (shp o1 o2:List PV) (fa hp fr us:Int) (ws tg:List PV) (X8 X13:Obj→Prop) (k at_ base:Int) (u:Value)
theorem zn5 (arg:Int) (t0:Ty) (vs:Nat→Value):ACallPanM Tryz.prog 47 [.box 10 0,.pv (yT ⟨13,arg,t0⟩)] (mH g lim shp o1 o2 fa hp fr us ws tg X8 X13 k at_ base (.pv zC) u++zD vs [10]) zao (eH 0 zC++zD vs [10]) :=
 (zoQ g lim shp o1 o2 fa hp fr us ws tg X8 X13 k at_ base u arg t0 vs).post fun _ _ _ _ hf=>(zj2 (i:=10) rfl (zls (.refl zC)) hf).narrow (e:=[]) tH
theorem zgB (ek:Int) (ew:PV) (h:(ek != 0)=true) (vs:Nat→Value):ACallM Tryz.prog 12 [.box 10 0] (eH ek ew++zD vs [10]) (.pv (pb false)) (eH ek ew++zD vs [10]):=by
 refine Wp zh Tryz.func12 rfl (by kernel_rfl) Tryz.ntmps12 (by simp) _ rfl ?_
 refine ZX (ZJ fun gB=>?_)
 repeat' (first|(refine Zt ?_;first|refine YP 1 rfl rfl rfl rfl rfl rfl ?_)|refine sK ?_|refine sC (fun _=>?_) (fun _=>?_)|fail)
 refine ZX (ZJ fun gB=>?_)
 repeat' (first|refine zq rfl (yK (b:=false) rfl Tryz.underlying40 rfl rfl) rfl rfl ?_|refine AD.step _ _ _ _ _ rfl (yK (b:=false) rfl Tryz.underlying40 rfl rfl) rfl rfl ?_|refine sK ?_|refine sC (fun _=>?_) (fun _=>?_)|fail)
 exact ⟨.inr rfl,.inl ⟨[pb false],rfl,rfl,⟨by repeat (first|exact zk|refine zi rfl ?_),rfl⟩⟩⟩
theorem zmb (arg:Int) (t0:Ty) (hk:0≤k) (hl:k.toNat < g.methods.length) (h0:0≤at_) (hi:((g.methods.getD k.toNat default).code.map yT)[at_.toNat]?=some (yT ⟨13,arg,t0⟩)) (vs:Nat→Value) :
  ACallM Tryz.prog 12 [.box 10 0] (mH g lim shp o1 o2 fa hp fr us ws tg X8 X13 k at_ base (.pv zC) u++zD vs [10]) (.pv (pb true)) (eH 3 zC++zD vs [10]):=by
 have cm:=fun vs=>Zm g lim shp o1 o2 fa hp fr us ws tg X8 X13 k at_ base u zC hk hl vs
 generalize g.methods.getD k.toNat default=m at *
 refine Wp zh Tryz.func12 rfl (by kernel_rfl) Tryz.ntmps12 (by simp) _ rfl ?_
 refine ZX (ZJ fun gB=>?_)
 repeat' (first|(refine Zt ?_;first|refine YP 1 rfl rfl rfl rfl rfl rfl ?_)|refine sK ?_|refine sC (fun _=>?_) (fun _=>?_)|fail)
 refine ZX (ZJ fun gB=>?_)
 repeat' (first|refine zq rfl (yK (b:=false) rfl Tryz.underlying40 rfl rfl) rfl rfl ?_|refine AD.step _ _ _ _ _ rfl (yK (b:=false) rfl Tryz.underlying40 rfl rfl) rfl rfl ?_|refine sK ?_|refine sC (fun _=>?_) (fun _=>?_)|fail)
 refine ZX (ZJ fun gB=>?_)
 repeat' (first|refine sK ?_|refine sC (fun _=>?_) (fun _=>?_)|fail)
 refine zh0 1 2001 rfl rfl fun p1=>?_
 refine ZX (zcW (k:=1) rfl rfl rfl rfl rfl fun gB=>?_)
 repeat' (first|refine sK ?_|refine sC (fun _=>?_) (fun _=>?_)|fail)
 refine ⟨_,_,[p1],rfl,⟨⟨2001,rfl⟩,trivial⟩,?_⟩
 refine ZJ fun gB=>?_
 repeat' (first|refine zq (r:=.pv (.base u)) rfl (yx (args:=fun ρ=>[.ptr (Ym g lim shp tg [.base u] (yR o1 o2 fa hp fr us ws (ρ 8)) (ρ 13) 0 zC) 0]) rfl (fun _=>rfl) (fun ρ=>zW g lim shp tg u (yR o1 o2 fa hp fr us ws (ρ 8)) (ρ 13) 0 zC)) rfl rfl ?_|refine AD.step _ _ _ (.pv (.base u)) _ rfl (yx (args:=fun ρ=>[.ptr (Ym g lim shp tg [.base u] (yR o1 o2 fa hp fr us ws (ρ 8)) (ρ 13) 0 zC) 0]) rfl (fun _=>rfl) (fun ρ=>zW g lim shp tg u (yR o1 o2 fa hp fr us ws (ρ 8)) (ρ 13) 0 zC)) rfl rfl ?_|refine Yf 3 120 rfl rfl ?_|refine WJ 12 11 3 (mH g lim shp o1 o2 fa hp fr us ws tg X8 X13 k at_ base (.pv zC) u++((1,.cell (.box 10 0))::(2001,.pin (.box 1 0) p1)::zD vs [10])) (mH g lim shp o1 o2 fa hp fr us ws tg X8 X13 k at_ base (.pv zC) u++((1,.cell (.box 10 0))::(2001,.pin (.box 1 0) p1)::zD vs [10])) (mH g lim shp o1 o2 fa hp fr us ws tg X8 X13 k at_ base (.pv zC) u++((1,.cell (.box 10 0))::(2001,.pin (.box 1 0) p1)::zD vs [10])) (.pv (zM m)) none rfl (by kernel_rfl) (by kernel_rfl) (by kernel_rfl) (by kernel_rfl) (by kernel_rfl) rfl (by kernel_rfl) rfl rfl (fun _ _ _ h=>h) (fun _ _ _ h=>h) rfl tH rfl rfl (fun v hv=>by cases hv) ?_|refine ⟨⟨rfl,Wn (mH g lim shp o1 o2 fa hp fr us ws tg X8 X13 k at_ base (.pv zC) u) (mH g lim shp o1 o2 fa hp fr us ws tg X8 X13 k at_ base (.pv zC) u) ((1,.cell (.box 10 0))::(2001,.pin (.box 1 0) p1)::zD vs [10]) yX yc rfl rfl (fun _ _ h=>h) rfl rfl rfl rfl cm⟩,?_⟩|intro _|refine zaH (mH g lim shp o1 o2 fa hp fr us ws tg X8 X13 k at_ base (.pv zC) u) (eH 0 zC) ((1,.cell (.box 10 0))::(2001,.pin (.box 1 0) p1)::zD vs [10]) [10] yc rfl rfl rfl zju rfl (zn5 g lim shp o1 o2 fa hp fr us ws tg X8 X13 k at_ base u arg t0) ?_|(refine shX ?_;first|refine zq rfl (zn zh rfl rfl rfl rfl rfl rfl h0 hi) rfl rfl ?_|refine AD.step _ _ _ _ _ rfl (zn zh rfl rfl rfl rfl rfl rfl h0 hi) rfl rfl ?_)|refine sK ?_|refine sC (fun _=>?_) (fun _=>?_)|fail)
 exact ⟨_,_,_,[1],[.box 1 0],[p1],ziE vs p1 0 zC,ziE vs p1 3 zC,2,.bool true,[pb true],rfl,rfl,tH,⟨⟨2001,rfl⟩,trivial⟩,⟨⟨2001,rfl⟩,trivial⟩,znC vs p1,rfl,rfl,by decide,by decide,tS,rfl,rfl,tH⟩
theorem zmL (arg:Int) (t0:Ty) (a2:Int) (h2:IntKind.i64.wrap (at_ + 1)=a2) (hk:0≤k) (hl:k.toNat < g.methods.length) (hmax:0 < (g.methods.getD k.toNat default).max) (ha:0≤at_) (h0:0≤a2) (h1:a2 < (g.methods.getD k.toNat default).code.length) (hcl:(g.methods.getD k.toNat default).clauses=[]) (hi:((g.methods.getD k.toNat default).code.map yT)[at_.toNat]?=some (yT ⟨8,arg,t0⟩)) (vs:Nat→Value) :
  ACallM Tryz.prog 12 [.box 10 0] (mH g lim shp o1 o2 fa hp fr us ws tg X8 X13 k at_ base (.pv zC) u++zD vs yX) (.pv (pb true)) (mH g lim shp o1 o2 fa hp fr us ws tg X8 X13 k a2 base (.pv (.slc 5 [Za (kTg 2) [.base (.int .u64 (IntKind.u64.wrap arg))] true] false)) u++zD vs yX):=by
 have cm:=fun vs=>Zm g lim shp o1 o2 fa hp fr us ws tg X8 X13 k at_ base u zC hk hl vs
 have cd:=fun vs=>zph g lim shp o1 o2 fa hp fr us ws tg X8 X13 k at_ base u arg t0 a2 h2 hk hl hmax h0 h1 hcl vs
 generalize g.methods.getD k.toNat default=m at *
 refine Wp zh Tryz.func12 rfl (by kernel_rfl) Tryz.ntmps12 (by simp) _ rfl ?_
 refine ZX (ZJ fun gB=>?_)
 repeat' (first|(refine Zt ?_;first|refine YP 1 rfl rfl rfl rfl rfl rfl ?_)|refine sK ?_|refine sC (fun _=>?_) (fun _=>?_)|fail)
 refine ZX (ZJ fun gB=>?_)
 repeat' (first|refine zq rfl (yK (b:=false) rfl Tryz.underlying40 rfl rfl) rfl rfl ?_|refine AD.step _ _ _ _ _ rfl (yK (b:=false) rfl Tryz.underlying40 rfl rfl) rfl rfl ?_|refine sK ?_|refine sC (fun _=>?_) (fun _=>?_)|fail)
 refine ZX (ZJ fun gB=>?_)
 repeat' (first|refine sK ?_|refine sC (fun _=>?_) (fun _=>?_)|fail)
 refine zh0 1 2001 rfl rfl fun p1=>?_
 refine ZX (zcW (k:=1) rfl rfl rfl rfl rfl fun gB=>?_)
 repeat' (first|refine sK ?_|refine sC (fun _=>?_) (fun _=>?_)|fail)
 refine ⟨_,_,[p1],rfl,⟨⟨2001,rfl⟩,trivial⟩,?_⟩
 refine ZJ fun gB=>?_
 repeat' (first|refine zq (r:=.pv (.base u)) rfl (yx (args:=fun ρ=>[.ptr (Ym g lim shp tg [.base u] (yR o1 o2 fa hp fr us ws (ρ 8)) (ρ 13) 0 zC) 0]) rfl (fun _=>rfl) (fun ρ=>zW g lim shp tg u (yR o1 o2 fa hp fr us ws (ρ 8)) (ρ 13) 0 zC)) rfl rfl ?_|refine AD.step _ _ _ (.pv (.base u)) _ rfl (yx (args:=fun ρ=>[.ptr (Ym g lim shp tg [.base u] (yR o1 o2 fa hp fr us ws (ρ 8)) (ρ 13) 0 zC) 0]) rfl (fun _=>rfl) (fun ρ=>zW g lim shp tg u (yR o1 o2 fa hp fr us ws (ρ 8)) (ρ 13) 0 zC)) rfl rfl ?_|refine Yf 3 120 rfl rfl ?_|refine WJ 12 11 3 (mH g lim shp o1 o2 fa hp fr us ws tg X8 X13 k at_ base (.pv zC) u++((1,.cell (.box 10 0))::(2001,.pin (.box 1 0) p1)::zD vs yX)) (mH g lim shp o1 o2 fa hp fr us ws tg X8 X13 k at_ base (.pv zC) u++((1,.cell (.box 10 0))::(2001,.pin (.box 1 0) p1)::zD vs yX)) (mH g lim shp o1 o2 fa hp fr us ws tg X8 X13 k at_ base (.pv zC) u++((1,.cell (.box 10 0))::(2001,.pin (.box 1 0) p1)::zD vs yX)) (.pv (zM m)) none rfl (by kernel_rfl) (by kernel_rfl) (by kernel_rfl) (by kernel_rfl) (by kernel_rfl) rfl (by kernel_rfl) rfl rfl (fun _ _ _ h=>h) (fun _ _ _ h=>h) rfl tH rfl rfl (fun v hv=>by cases hv) ?_|refine ⟨⟨rfl,Wn (mH g lim shp o1 o2 fa hp fr us ws tg X8 X13 k at_ base (.pv zC) u) (mH g lim shp o1 o2 fa hp fr us ws tg X8 X13 k at_ base (.pv zC) u) ((1,.cell (.box 10 0))::(2001,.pin (.box 1 0) p1)::zD vs yX) yX yc rfl rfl (fun _ _ h=>h) rfl rfl rfl rfl cm⟩,?_⟩|intro _|refine Xd ?_|(refine shX ?_;first|refine zq rfl (zn zh rfl rfl rfl rfl rfl rfl ha hi) rfl rfl ?_|refine AD.step _ _ _ _ _ rfl (zn zh rfl rfl rfl rfl rfl rfl ha hi) rfl rfl ?_)|(refine zQ ?_;first|(refine yO (mH g lim shp o1 o2 fa hp fr us ws tg X8 X13 k at_ base (.pv zC) u) (mH g lim shp o1 o2 fa hp fr us ws tg X8 X13 k a2 base (.pv (.slc 5 [Za (kTg 2) [.base (.int .u64 (IntKind.u64.wrap arg))] true] false)) u) ((1,.cell (.box 10 0))::(2001,.pin (.box 1 0) p1)::zD vs yX) (yX) yc rfl rfl rfl ?_ rfl rfl rfl cd ?_;· (repeat (first|exact zk|refine zi rfl ?_))))|refine sK ?_|refine sC (fun _=>?_) (fun _=>?_)|fail)
 exact ⟨_,_,_,[1],[.box 1 0],[p1],spH p1++(mH g lim shp o1 o2 fa hp fr us ws tg X8 X13 k a2 base (.pv (.slc 5 [Za (kTg 2) [.base (.int .u64 (IntKind.u64.wrap arg))] true] false)) u++zD vs yX),spH p1++(mH g lim shp o1 o2 fa hp fr us ws tg X8 X13 k a2 base (.pv (.slc 5 [Za (kTg 2) [.base (.int .u64 (IntKind.u64.wrap arg))] true] false)) u++zD vs yX),2,.bool true,[pb true],rfl,rfl,tH,⟨⟨2001,rfl⟩,trivial⟩,⟨⟨2001,rfl⟩,trivial⟩,zgo _ tH,rfl,rfl,by decide,by decide,tS,rfl,rfl,tH⟩
theorem zmA (arg:Int) (t0:Ty) (ql:List PV) (fq:Bool) (hk:0≤k) (hl:k.toNat < g.methods.length) (hret:(g.methods.getD k.toNat default).ret=kTg 2) (hcl:(g.methods.getD k.toNat default).clauses=[]) (h0:0≤base) (h1:base≤100000) (ht:base.toNat + 256≤tg.length) (ha:0≤at_) (hi:((g.methods.getD k.toNat default).code.map yT)[at_.toNat]?=some (yT ⟨46,arg,t0⟩)) (vs:Nat→Value) :
  ACallM Tryz.prog 12 [.box 10 0] (mH g lim shp o1 o2 fa hp fr us ws tg X8 X13 k at_ base (.pv (.slc 5 [Za (kTg 2) ql fq] false)) u++zD vs [10]) (.pv (pb true)) (eH 1 (.slc 1 ql false)++zD vs [10]):=by
 have cm:=fun vs=>Zm g lim shp o1 o2 fa hp fr us ws tg X8 X13 k at_ base u (.slc 5 [Za (kTg 2) ql fq] false) hk hl vs
 have cd:=fun vs=>zpx g lim shp o1 o2 fa hp fr us ws tg X8 X13 k at_ base u arg t0 ql fq hk hl hret hcl h0 h1 ht vs
 generalize g.methods.getD k.toNat default=m at *
 refine Wp zh Tryz.func12 rfl (by kernel_rfl) Tryz.ntmps12 (by simp) _ rfl ?_
 refine ZX (ZJ fun gB=>?_)
 repeat' (first|(refine Zt ?_;first|refine YP 1 rfl rfl rfl rfl rfl rfl ?_)|refine sK ?_|refine sC (fun _=>?_) (fun _=>?_)|fail)
 refine ZX (ZJ fun gB=>?_)
 repeat' (first|refine zq rfl (yK (b:=false) rfl Tryz.underlying40 rfl rfl) rfl rfl ?_|refine AD.step _ _ _ _ _ rfl (yK (b:=false) rfl Tryz.underlying40 rfl rfl) rfl rfl ?_|refine sK ?_|refine sC (fun _=>?_) (fun _=>?_)|fail)
 refine ZX (ZJ fun gB=>?_)
 repeat' (first|refine sK ?_|refine sC (fun _=>?_) (fun _=>?_)|fail)
 refine zh0 1 2001 rfl rfl fun p1=>?_
 refine ZX (zcW (k:=1) rfl rfl rfl rfl rfl fun gB=>?_)
 repeat' (first|refine sK ?_|refine sC (fun _=>?_) (fun _=>?_)|fail)
 refine ⟨_,_,[p1],rfl,⟨⟨2001,rfl⟩,trivial⟩,?_⟩
 refine ZJ fun gB=>?_
 repeat' (first|refine zdu 10 (v:=mcC g lim (.own 12) 1 (.slc 1 ql fq) shp) rfl (zls (zlt _ _ _)) ?_|refine zq (r:=.pv (.base u)) rfl (yx (args:=fun ρ=>[.ptr (Ym g lim shp tg [.base u] (yR o1 o2 fa hp fr us ws (ρ 8)) (ρ 13) 0 zC) 0]) rfl (fun _=>rfl) (fun ρ=>zW g lim shp tg u (yR o1 o2 fa hp fr us ws (ρ 8)) (ρ 13) 0 zC)) rfl rfl ?_|refine AD.step _ _ _ (.pv (.base u)) _ rfl (yx (args:=fun ρ=>[.ptr (Ym g lim shp tg [.base u] (yR o1 o2 fa hp fr us ws (ρ 8)) (ρ 13) 0 zC) 0]) rfl (fun _=>rfl) (fun ρ=>zW g lim shp tg u (yR o1 o2 fa hp fr us ws (ρ 8)) (ρ 13) 0 zC)) rfl rfl ?_|refine Yf 3 120 rfl rfl ?_|refine WJ 12 11 3 (mH g lim shp o1 o2 fa hp fr us ws tg X8 X13 k at_ base (.pv (.slc 5 [Za (kTg 2) ql fq] false)) u++((1,.cell (.box 10 0))::(2001,.pin (.box 1 0) p1)::zD vs [10])) (mH g lim shp o1 o2 fa hp fr us ws tg X8 X13 k at_ base (.pv (.slc 5 [Za (kTg 2) ql fq] false)) u++((1,.cell (.box 10 0))::(2001,.pin (.box 1 0) p1)::zD vs [10])) (mH g lim shp o1 o2 fa hp fr us ws tg X8 X13 k at_ base (.pv (.slc 5 [Za (kTg 2) ql fq] false)) u++((1,.cell (.box 10 0))::(2001,.pin (.box 1 0) p1)::zD vs [10])) (.pv (zM m)) none rfl (by kernel_rfl) (by kernel_rfl) (by kernel_rfl) (by kernel_rfl) (by kernel_rfl) rfl (by kernel_rfl) rfl rfl (fun _ _ _ h=>h) (fun _ _ _ h=>h) rfl tH rfl rfl (fun v hv=>by cases hv) ?_|refine ⟨⟨rfl,Wn (mH g lim shp o1 o2 fa hp fr us ws tg X8 X13 k at_ base (.pv (.slc 5 [Za (kTg 2) ql fq] false)) u) (mH g lim shp o1 o2 fa hp fr us ws tg X8 X13 k at_ base (.pv (.slc 5 [Za (kTg 2) ql fq] false)) u) ((1,.cell (.box 10 0))::(2001,.pin (.box 1 0) p1)::zD vs [10]) yX yc rfl rfl (fun _ _ h=>h) rfl rfl rfl rfl cm⟩,?_⟩|intro _|refine Xd ?_|(refine shX ?_;first|refine zq rfl (zn zh rfl rfl rfl rfl rfl rfl ha hi) rfl rfl ?_|refine AD.step _ _ _ _ _ rfl (zn zh rfl rfl rfl rfl rfl rfl ha hi) rfl rfl ?_)|(refine zQ ?_;first|(refine yO (mH g lim shp o1 o2 fa hp fr us ws tg X8 X13 k at_ base (.pv (.slc 5 [Za (kTg 2) ql fq] false)) u) (lH g lim shp o1 o2 fa hp fr us ws (zb3 tg base.toNat) X8 X13 k at_ base (.pv (.slc 5 [] true)) u 1 (.slc 1 ql fq)) ((1,.cell (.box 10 0))::(2001,.pin (.box 1 0) p1)::zD vs [10]) (allM) yc rfl rfl rfl ?_ rfl rfl rfl cd ?_;· (repeat (first|exact zk|refine zi rfl ?_))))|refine sK ?_|refine sC (fun _=>?_) (fun _=>?_)|fail)
 exact ⟨_,_,_,[1],[.box 1 0],[p1],ziE vs p1 1 (.slc 1 ql false),ziE vs p1 1 (.slc 1 ql false),2,.bool true,[pb true],rfl,rfl,tH,⟨⟨2001,rfl⟩,trivial⟩,⟨⟨2001,rfl⟩,trivial⟩,zgo _ tH,rfl,rfl,by decide,by decide,tS,rfl,rfl,tH⟩
end
end Go.Cg
