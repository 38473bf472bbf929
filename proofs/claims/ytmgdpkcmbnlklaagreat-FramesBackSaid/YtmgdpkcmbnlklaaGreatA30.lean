/- A part of the walks by abstract values: no statement of its own. -/
import Derived.Test.YtmgdpkcmbnlklaaGreatA28
import Derived.Test.YtmgdpkcmbnlklaaGreatA29
set_option linter.unusedVariables false
set_option linter.unusedSimpArgs false
namespace Go.Cg
open Go.Proofs
set_option maxHeartbeats 20000000
abbrev YS (k n m x:Int) (l:List Int):PV:=.agg [pi k,pi n,pi m,u64 x,.slc 1 (l.map u64) false]
theorem YH {P:Program} {f:FuncId} {args:List AV} {H H':HEnv} {r:AV} (h:ACallM P f args H r H'):ACallU P f args H (fun _:Value=>r) (fun _=>H') :=
 ⟨h.stands,fun g K ρ w vs hl hf ha=>(h.calls g K ρ w vs hl hf ha).mono fun _ _ ⟨v,K',ρ',q⟩=>⟨v,K',ρ',.nilFunc,q⟩⟩
theorem tHY {P:Prop} (h:P:=by repeat (first|exact zi|refine zh rfl ?_)):P:=h
abbrev sk2 (us:Nat→Value):HEnv:=zu us [0,30,60]
abbrev dR (N:Int) (L:List DE) (X:HEnv) (us:Nat→Value):HEnv:=dH N L++X++sk2 us
abbrev dT (N:Int) (L:List DE) (X:HEnv) (us:Nat→Value):HEnv:=(0,.dead)::(30,.dead)::dR N L X us
abbrev r4X (x:DX):HEnv:=vsH x.vars x.e.v++ssH x.st x.e.s
section
variable {ws ws':List Int} {fs fs':List Fr} {N n m x:Int} {L:List DE} {l:List Int}
theorem zgS (b:Bool) (y:DX) {L':Value→List DE} {y':Value→DX} (hv:∀ s,(y' s).vars=y.vars∧(y' s).e.v=y.e.v) (c1:∀ us,ACallM Tryz.prog 11 [.box 30 0,.pv (.slc 1 (l.map u64) false)] (skH ws 12 N fs++zu us [0,30]) (.pv (pb b)) (skH ws' 12 N fs'++zu us [0,30]))
  (c2:∀ us,ACallU Tryz.prog 12 [.box 60 0,.pv (.slc 1 (l.map u64) false)] (dH N L++ssH y.st y.e.s++zu us [60]) (fun _:Value=>.pv (pb b)) (fun s=>dH N (L' s)++ssH (y' s).st (y' s).e.s++zu us [60])) (us:Nat→Value) :
  ACallU Tryz.prog 9 [.box 0 0,.box 30 0,.box 60 0,.pv (YS 3 n m x l)] (skH ws 12 N fs++dH N L++r4X y++sk2 us) (fun _:Value=>.pv (pb true)) (fun s=>skH ws' 12 N fs'++dH N (L' s)++r4X (y' s)++sk2 us):=by
 have hb:(b==b)=true:=by cases b <;> rfl
 refine zK zk Tryz.func9 rfl (by kernel_rfl) Tryz.ntmps9 (by simp) _ rfl (fun gB hw1=>?_)
 repeat' (first|refine qN 10 7 3 (skH ws 12 N fs++dR N L (r4X y) us) (skH ws' 12 N fs'++dR N L (r4X y) us) (dT N L (r4X y) us) (.pv (pb b)) none rfl (by kernel_rfl) (by kernel_rfl) (by kernel_rfl) (by kernel_rfl) (by kernel_rfl) rfl (by kernel_rfl) rfl rfl (fun _ _ _ h=>((h.kill 30).kill 0).narrow (e:=[]) tH) (fun _ _ _ h=>((h.kill 30).kill 0).narrow (e:=[]) tH) rfl tH rfl rfl (fun v hv=>by cases hv) ?_|refine ⟨⟨rfl,qM (skH ws 12 N fs) (skH ws' 12 N fs') (dR N L (r4X y) us) [0,30] zU rfl rfl tHY rfl rfl rfl rfl c1⟩,?_⟩|intro _|refine Qa ?_|refine Yp (dH N L++ssH y.st y.e.s) (fun s=>dH N (L' s)++ssH (y' s).st (y' s).e.s) (skH ws' 12 N fs'++vsH y.vars y.e.v++sk2 us) [(58,.pv (pb b))] [60] zU rfl rfl rfl tHY tS rfl rfl (fun _=>rfl) c2 (fun s=>?_)|refine sK ?_|refine sC (fun _=>?_) (fun _=>?_)|fail)
 refine ⟨s,.inr rfl,.inl ⟨[pb true],by (show some [pb (b==b)]=some [pb true];rw [hb]),rfl,?_⟩⟩
 rw [show r4X (y' s)=vsH y.vars y.e.v++ssH (y' s).st (y' s).e.s by rw [r4X,(hv s).1,(hv s).2]]
 exact ⟨by repeat (first|exact zi|refine zh rfl ?_),rfl⟩
theorem zlZ (b:Bool) {L':Value→List DE} (c1:∀ us,ACallM Tryz.prog 11 [.box 30 0,.pv (.slc 1 (l.map u64) false)] (skH ws 12 N fs++zu us [0,30]) (.pv (pb b)) (skH ws' 12 N fs'++zu us [0,30]))
  (c2:∀ us,ACallU Tryz.prog 12 [.box 60 0,.pv (.slc 1 (l.map u64) false)] (dH N L++[]++zu us [60]) (fun _:Value=>.pv (pb b)) (fun s=>dH N (L' s)++[]++zu us [60])) (us:Nat→Value) :
  ACallU Tryz.prog 9 [.box 0 0,.box 30 0,.box 60 0,.pv (YS 3 n m x l)] (skH ws 12 N fs++dH N L++[]++sk2 us) (fun _:Value=>.pv (pb true)) (fun s=>skH ws' 12 N fs'++dH N (L' s)++[]++sk2 us):=by
 have hb:(b==b)=true:=by cases b <;> rfl
 refine zK zk Tryz.func9 rfl (by kernel_rfl) Tryz.ntmps9 (by simp) _ rfl (fun gB hw1=>?_)
 repeat' (first|refine qN 10 7 3 (skH ws 12 N fs++dR N L ([]) us) (skH ws' 12 N fs'++dR N L ([]) us) (dT N L ([]) us) (.pv (pb b)) none rfl (by kernel_rfl) (by kernel_rfl) (by kernel_rfl) (by kernel_rfl) (by kernel_rfl) rfl (by kernel_rfl) rfl rfl (fun _ _ _ h=>((h.kill 30).kill 0).narrow (e:=[]) tH) (fun _ _ _ h=>((h.kill 30).kill 0).narrow (e:=[]) tH) rfl tH rfl rfl (fun v hv=>by cases hv) ?_|refine ⟨⟨rfl,qM (skH ws 12 N fs) (skH ws' 12 N fs') (dR N L ([]) us) [0,30] zU rfl rfl tHY rfl rfl rfl rfl c1⟩,?_⟩|intro _|refine Qa ?_|refine Yp (dH N L++[]) (fun s=>dH N (L' s)++[]) (skH ws' 12 N fs'++[]++sk2 us) [(58,.pv (pb b))] [60] zU rfl rfl rfl tHY tS rfl rfl (fun _=>rfl) c2 (fun s=>?_)|refine sK ?_|refine sC (fun _=>?_) (fun _=>?_)|fail)
 refine ⟨s,.inr rfl,.inl ⟨[pb true],by (show some [pb (b==b)]=some [pb true];rw [hb]),rfl,?_⟩⟩
 exact ⟨by repeat (first|exact zi|refine zh rfl ?_),rfl⟩
theorem zk5 (a1 a2:List PV) (y:DX) {L':Value→List DE} {y':Value→DX} (hv:∀ s,(y' s).vars=y.vars∧(y' s).e.v=y.e.v) (c1:∀ us,ACallM Tryz.prog 14 [.box 30 0,.pv (pi n)] (skH ws 12 N fs++zu us [0,30]) (.pv (.slc 1 a1 false)) (skH ws' 12 N fs'++zu us [0,30]))
  (c2:∀ us,ACallU Tryz.prog 15 [.box 60 0,.pv (pi n)] (dH N L++ssH y.st y.e.s++zu us [60]) (fun _:Value=>.pv (.slc 1 a2 false)) (fun s=>dH N (L' s)++ssH (y' s).st (y' s).e.s++zu us [60])) (c3:ACall Tryz.prog 13 [.slc 1 a1 false,.slc 1 a2 false] (pb true)) (us:Nat→Value) :
  ACallU Tryz.prog 9 [.box 0 0,.box 30 0,.box 60 0,.pv (YS 4 n m x l)] (skH ws 12 N fs++dH N L++r4X y++sk2 us) (fun _:Value=>.pv (pb true)) (fun s=>skH ws' 12 N fs'++dH N (L' s)++r4X (y' s)++sk2 us):=by
 refine zK zk Tryz.func9 rfl (by kernel_rfl) Tryz.ntmps9 (by simp) _ rfl (fun gB hw1=>?_)
 repeat' (first|refine qN 10 7 3 (skH ws 12 N fs++dR N L (r4X y) us) (skH ws' 12 N fs'++dR N L (r4X y) us) (dT N L (r4X y) us) (.pv (.slc 1 a1 false)) none rfl (by kernel_rfl) (by kernel_rfl) (by kernel_rfl) (by kernel_rfl) (by kernel_rfl) rfl (by kernel_rfl) rfl rfl (fun _ _ _ h=>((h.kill 30).kill 0).narrow (e:=[]) tH) (fun _ _ _ h=>((h.kill 30).kill 0).narrow (e:=[]) tH) rfl tH rfl rfl (fun v hv=>by cases hv) ?_|refine ⟨⟨rfl,qM (skH ws 12 N fs) (skH ws' 12 N fs') (dR N L (r4X y) us) [0,30] zU rfl rfl tHY rfl rfl rfl rfl c1⟩,?_⟩|intro _|refine Qa ?_|refine Yp (dH N L++ssH y.st y.e.s) (fun s=>dH N (L' s)++ssH (y' s).st (y' s).e.s) (skH ws' 12 N fs'++vsH y.vars y.e.v++sk2 us) [(69,.pv (.slc 1 a1 false))] [60] zU rfl rfl rfl tHY tS rfl rfl (fun _=>rfl) c2 (fun s=>?_)|(refine shC ?_;first|refine qC c3 ?_)|refine sK ?_|refine sC (fun _=>?_) (fun _=>?_)|fail)
 refine ⟨s,.inr rfl,.inl ⟨[pb true],rfl,rfl,?_⟩⟩
 rw [show r4X (y' s)=vsH y.vars y.e.v++ssH (y' s).st (y' s).e.s by rw [r4X,(hv s).1,(hv s).2]]
 exact ⟨by repeat (first|exact zi|refine zh rfl ?_),rfl⟩
theorem zlu (y:DX) {L':Value→List DE} {y':Value→DX} (hv:∀ s,(y' s).vars=y.vars∧(y' s).e.v=y.e.v) (c1:∀ us,ACallM Tryz.prog 14 [.box 30 0,.pv (pi n)] (skH ws 12 N fs++zu us [0,30]) (.pv (.base ZH)) (skH ws' 12 N fs'++zu us [0,30]))
  (c2:∀ us,ACallU Tryz.prog 15 [.box 60 0,.pv (pi n)] (dH N L++ssH y.st y.e.s++zu us [60]) (fun _:Value=>.pv (.base ZH)) (fun s=>dH N (L' s)++ssH (y' s).st (y' s).e.s++zu us [60])) (c3:ACall Tryz.prog 13 [.slc 1 [] false,.slc 1 [] false] (pb true)) (us:Nat→Value) :
  ACallU Tryz.prog 9 [.box 0 0,.box 30 0,.box 60 0,.pv (YS 4 n m x l)] (skH ws 12 N fs++dH N L++r4X y++sk2 us) (fun _:Value=>.pv (pb true)) (fun s=>skH ws' 12 N fs'++dH N (L' s)++r4X (y' s)++sk2 us):=by
 refine zK zk Tryz.func9 rfl (by kernel_rfl) Tryz.ntmps9 (by simp) _ rfl (fun gB hw1=>?_)
 repeat' (first|refine QJ 69 (Vx 1 false) rfl ?_|refine QJ 73 (Vx 1 false) rfl ?_|refine qN 10 7 3 (skH ws 12 N fs++dR N L (r4X y) us) (skH ws' 12 N fs'++dR N L (r4X y) us) (dT N L (r4X y) us) (.pv (.base ZH)) none rfl (by kernel_rfl) (by kernel_rfl) (by kernel_rfl) (by kernel_rfl) (by kernel_rfl) rfl (by kernel_rfl) rfl rfl (fun _ _ _ h=>((h.kill 30).kill 0).narrow (e:=[]) tH) (fun _ _ _ h=>((h.kill 30).kill 0).narrow (e:=[]) tH) rfl tH rfl rfl (fun v hv=>by cases hv) ?_|refine ⟨⟨rfl,qM (skH ws 12 N fs) (skH ws' 12 N fs') (dR N L (r4X y) us) [0,30] zU rfl rfl tHY rfl rfl rfl rfl c1⟩,?_⟩|intro _|refine Qa ?_|refine Yp (dH N L++ssH y.st y.e.s) (fun s=>dH N (L' s)++ssH (y' s).st (y' s).e.s) (skH ws' 12 N fs'++vsH y.vars y.e.v++sk2 us) [(69,.pv (.slc 1 [] false))] [60] zU rfl rfl rfl tHY tS rfl rfl (fun _=>rfl) c2 (fun s=>?_)|(refine shC ?_;first|refine qC c3 ?_)|refine sK ?_|refine sC (fun _=>?_) (fun _=>?_)|fail)
 refine ⟨s,.inr rfl,.inl ⟨[pb true],rfl,rfl,?_⟩⟩
 rw [show r4X (y' s)=vsH y.vars y.e.v++ssH (y' s).st (y' s).e.s by rw [r4X,(hv s).1,(hv s).2]]
 exact ⟨by repeat (first|exact zi|refine zh rfl ?_),rfl⟩
theorem zlR {L':Value→List DE} (c1:∀ us,ACallM Tryz.prog 14 [.box 30 0,.pv (pi n)] (skH ws 12 N fs++zu us [0,30]) (.pv (.base ZH)) (skH ws' 12 N fs'++zu us [0,30]))
  (c2:∀ us,ACallU Tryz.prog 15 [.box 60 0,.pv (pi n)] (dH N L++[]++zu us [60]) (fun _:Value=>.pv (.base ZH)) (fun s=>dH N (L' s)++[]++zu us [60])) (c3:ACall Tryz.prog 13 [.slc 1 [] false,.slc 1 [] false] (pb true)) (us:Nat→Value) :
  ACallU Tryz.prog 9 [.box 0 0,.box 30 0,.box 60 0,.pv (YS 4 n m x l)] (skH ws 12 N fs++dH N L++[]++sk2 us) (fun _:Value=>.pv (pb true)) (fun s=>skH ws' 12 N fs'++dH N (L' s)++[]++sk2 us):=by
 refine zK zk Tryz.func9 rfl (by kernel_rfl) Tryz.ntmps9 (by simp) _ rfl (fun gB hw1=>?_)
 repeat' (first|refine QJ 69 (Vx 1 false) rfl ?_|refine QJ 73 (Vx 1 false) rfl ?_|refine qN 10 7 3 (skH ws 12 N fs++dR N L ([]) us) (skH ws' 12 N fs'++dR N L ([]) us) (dT N L ([]) us) (.pv (.base ZH)) none rfl (by kernel_rfl) (by kernel_rfl) (by kernel_rfl) (by kernel_rfl) (by kernel_rfl) rfl (by kernel_rfl) rfl rfl (fun _ _ _ h=>((h.kill 30).kill 0).narrow (e:=[]) tH) (fun _ _ _ h=>((h.kill 30).kill 0).narrow (e:=[]) tH) rfl tH rfl rfl (fun v hv=>by cases hv) ?_|refine ⟨⟨rfl,qM (skH ws 12 N fs) (skH ws' 12 N fs') (dR N L ([]) us) [0,30] zU rfl rfl tHY rfl rfl rfl rfl c1⟩,?_⟩|intro _|refine Qa ?_|refine Yp (dH N L++[]) (fun s=>dH N (L' s)++[]) (skH ws' 12 N fs'++[]++sk2 us) [(69,.pv (.slc 1 [] false))] [60] zU rfl rfl rfl tHY tS rfl rfl (fun _=>rfl) c2 (fun s=>?_)|(refine shC ?_;first|refine qC c3 ?_)|refine sK ?_|refine sC (fun _=>?_) (fun _=>?_)|fail)
 refine ⟨s,.inr rfl,.inl ⟨[pb true],rfl,rfl,?_⟩⟩
 exact ⟨by repeat (first|exact zi|refine zh rfl ?_),rfl⟩
theorem zl3 (b:Bool) {L':Value→List DE} {y':Value→DX} (c1:∀ us,ACallM Tryz.prog 16 [.box 30 0,.pv (pi n),.pv (pi m),.pv (.slc 1 (l.map u64) false)] (skH ws 12 N fs++zu us [0,30]) (.pv (pb b)) (skH ws' 12 N fs'++zu us [0,30]))
  (c2:∀ us,ACallU Tryz.prog 21 [.box 60 0,.pv (pi n),.pv (pi m),.pv (.slc 1 (l.map u64) false)] (dH N L++[]++zu us [60]) (fun _:Value=>.pv (pb b)) (fun s=>dH N (L' s)++vsH (y' s).vars (y' s).e.v++ssH (y' s).st (y' s).e.s++zu us [60])) (us:Nat→Value) :
  ACallU Tryz.prog 9 [.box 0 0,.box 30 0,.box 60 0,.pv (YS 0 n m x l)] (skH ws 12 N fs++dH N L++[]++sk2 us) (fun _:Value=>.pv (pb true)) (fun s=>skH ws' 12 N fs'++dH N (L' s)++r4X (y' s)++sk2 us):=by
 have hb:(b==b)=true:=by cases b <;> rfl
 refine zK zk Tryz.func9 rfl (by kernel_rfl) Tryz.ntmps9 (by simp) _ rfl (fun gB hw1=>?_)
 repeat' (first|refine qN 18 15 7 (skH ws 12 N fs++dR N L ([]) us) (skH ws' 12 N fs'++dR N L ([]) us) (dT N L ([]) us) (.pv (pb b)) none rfl (by kernel_rfl) (by kernel_rfl) (by kernel_rfl) (by kernel_rfl) (by kernel_rfl) rfl (by kernel_rfl) rfl rfl (fun _ _ _ h=>((h.kill 30).kill 0).narrow (e:=[]) tH) (fun _ _ _ h=>((h.kill 30).kill 0).narrow (e:=[]) tH) rfl tH rfl rfl (fun v hv=>by cases hv) ?_|refine ⟨⟨rfl,qM (skH ws 12 N fs) (skH ws' 12 N fs') (dR N L ([]) us) [0,30] zU rfl rfl tHY rfl rfl rfl rfl c1⟩,?_⟩|intro _|refine Qa ?_|refine Yp (dH N L++[]) (fun s=>dH N (L' s)++vsH (y' s).vars (y' s).e.v++ssH (y' s).st (y' s).e.s) (skH ws' 12 N fs'++[]++sk2 us) [(21,.pv (pb b))] [60] zU rfl rfl rfl tHY tS rfl rfl (fun _=>rfl) c2 (fun s=>?_)|refine sK ?_|refine sC (fun _=>?_) (fun _=>?_)|fail)
 refine ⟨s,.inr rfl,.inl ⟨[pb true],by (show some [pb (b==b)]=some [pb true];rw [hb]),rfl,?_⟩⟩
 exact ⟨by repeat (first|exact zi|refine zh rfl ?_),rfl⟩
theorem zl0 (b:Bool) {L':Value→List DE} (c1:∀ us,ACallM Tryz.prog 16 [.box 30 0,.pv (pi n),.pv (pi m),.pv (.slc 1 (l.map u64) false)] (skH ws 12 N fs++zu us [0,30]) (.pv (pb b)) (skH ws' 12 N fs'++zu us [0,30]))
  (c2:∀ us,ACallU Tryz.prog 21 [.box 60 0,.pv (pi n),.pv (pi m),.pv (.slc 1 (l.map u64) false)] (dH N L++[]++zu us [60]) (fun _:Value=>.pv (pb b)) (fun s=>dH N (L' s)++[]++zu us [60])) (us:Nat→Value) :
  ACallU Tryz.prog 9 [.box 0 0,.box 30 0,.box 60 0,.pv (YS 0 n m x l)] (skH ws 12 N fs++dH N L++[]++sk2 us) (fun _:Value=>.pv (pb true)) (fun s=>skH ws' 12 N fs'++dH N (L' s)++[]++sk2 us):=by
 have hb:(b==b)=true:=by cases b <;> rfl
 refine zK zk Tryz.func9 rfl (by kernel_rfl) Tryz.ntmps9 (by simp) _ rfl (fun gB hw1=>?_)
 repeat' (first|refine qN 18 15 7 (skH ws 12 N fs++dR N L ([]) us) (skH ws' 12 N fs'++dR N L ([]) us) (dT N L ([]) us) (.pv (pb b)) none rfl (by kernel_rfl) (by kernel_rfl) (by kernel_rfl) (by kernel_rfl) (by kernel_rfl) rfl (by kernel_rfl) rfl rfl (fun _ _ _ h=>((h.kill 30).kill 0).narrow (e:=[]) tH) (fun _ _ _ h=>((h.kill 30).kill 0).narrow (e:=[]) tH) rfl tH rfl rfl (fun v hv=>by cases hv) ?_|refine ⟨⟨rfl,qM (skH ws 12 N fs) (skH ws' 12 N fs') (dR N L ([]) us) [0,30] zU rfl rfl tHY rfl rfl rfl rfl c1⟩,?_⟩|intro _|refine Qa ?_|refine Yp (dH N L++[]) (fun s=>dH N (L' s)++[]) (skH ws' 12 N fs'++[]++sk2 us) [(21,.pv (pb b))] [60] zU rfl rfl rfl tHY tS rfl rfl (fun _=>rfl) c2 (fun s=>?_)|refine sK ?_|refine sC (fun _=>?_) (fun _=>?_)|fail)
 refine ⟨s,.inr rfl,.inl ⟨[pb true],by (show some [pb (b==b)]=some [pb true];rw [hb]),rfl,?_⟩⟩
 exact ⟨by repeat (first|exact zi|refine zh rfl ?_),rfl⟩
theorem zl7 (b:Bool) {L':Value→List DE} {y':Value→DX} (c1:∀ us,ACallM Tryz.prog 22 [.box 30 0,.pv (pi n),.pv (u64 x)] (skH ws 12 N fs++zu us [0,30]) (.pv (pb b)) (skH ws' 12 N fs'++zu us [0,30]))
  (c2:∀ us,ACallU Tryz.prog 23 [.box 60 0,.pv (pi n),.pv (u64 x)] (dH N L++[]++zu us [60]) (fun _:Value=>.pv (pb b)) (fun s=>dH N (L' s)++vsH (y' s).vars (y' s).e.v++ssH (y' s).st (y' s).e.s++zu us [60])) (us:Nat→Value) :
  ACallU Tryz.prog 9 [.box 0 0,.box 30 0,.box 60 0,.pv (YS 1 n m x l)] (skH ws 12 N fs++dH N L++[]++sk2 us) (fun _:Value=>.pv (pb true)) (fun s=>skH ws' 12 N fs'++dH N (L' s)++r4X (y' s)++sk2 us):=by
 have hb:(b==b)=true:=by cases b <;> rfl
 refine zK zk Tryz.func9 rfl (by kernel_rfl) Tryz.ntmps9 (by simp) _ rfl (fun gB hw1=>?_)
 repeat' (first|refine qN 14 11 5 (skH ws 12 N fs++dR N L ([]) us) (skH ws' 12 N fs'++dR N L ([]) us) (dT N L ([]) us) (.pv (pb b)) none rfl (by kernel_rfl) (by kernel_rfl) (by kernel_rfl) (by kernel_rfl) (by kernel_rfl) rfl (by kernel_rfl) rfl rfl (fun _ _ _ h=>((h.kill 30).kill 0).narrow (e:=[]) tH) (fun _ _ _ h=>((h.kill 30).kill 0).narrow (e:=[]) tH) rfl tH rfl rfl (fun v hv=>by cases hv) ?_|refine ⟨⟨rfl,qM (skH ws 12 N fs) (skH ws' 12 N fs') (dR N L ([]) us) [0,30] zU rfl rfl tHY rfl rfl rfl rfl c1⟩,?_⟩|intro _|refine Qa ?_|refine Yp (dH N L++[]) (fun s=>dH N (L' s)++vsH (y' s).vars (y' s).e.v++ssH (y' s).st (y' s).e.s) (skH ws' 12 N fs'++[]++sk2 us) [(38,.pv (pb b))] [60] zU rfl rfl rfl tHY tS rfl rfl (fun _=>rfl) c2 (fun s=>?_)|refine sK ?_|refine sC (fun _=>?_) (fun _=>?_)|fail)
 refine ⟨s,.inr rfl,.inl ⟨[pb true],by (show some [pb (b==b)]=some [pb true];rw [hb]),rfl,?_⟩⟩
 exact ⟨by repeat (first|exact zi|refine zh rfl ?_),rfl⟩
theorem zlH (b:Bool) {L':Value→List DE} (c1:∀ us,ACallM Tryz.prog 22 [.box 30 0,.pv (pi n),.pv (u64 x)] (skH ws 12 N fs++zu us [0,30]) (.pv (pb b)) (skH ws' 12 N fs'++zu us [0,30]))
  (c2:∀ us,ACallU Tryz.prog 23 [.box 60 0,.pv (pi n),.pv (u64 x)] (dH N L++[]++zu us [60]) (fun _:Value=>.pv (pb b)) (fun s=>dH N (L' s)++[]++zu us [60])) (us:Nat→Value) :
  ACallU Tryz.prog 9 [.box 0 0,.box 30 0,.box 60 0,.pv (YS 1 n m x l)] (skH ws 12 N fs++dH N L++[]++sk2 us) (fun _:Value=>.pv (pb true)) (fun s=>skH ws' 12 N fs'++dH N (L' s)++[]++sk2 us):=by
 have hb:(b==b)=true:=by cases b <;> rfl
 refine zK zk Tryz.func9 rfl (by kernel_rfl) Tryz.ntmps9 (by simp) _ rfl (fun gB hw1=>?_)
 repeat' (first|refine qN 14 11 5 (skH ws 12 N fs++dR N L ([]) us) (skH ws' 12 N fs'++dR N L ([]) us) (dT N L ([]) us) (.pv (pb b)) none rfl (by kernel_rfl) (by kernel_rfl) (by kernel_rfl) (by kernel_rfl) (by kernel_rfl) rfl (by kernel_rfl) rfl rfl (fun _ _ _ h=>((h.kill 30).kill 0).narrow (e:=[]) tH) (fun _ _ _ h=>((h.kill 30).kill 0).narrow (e:=[]) tH) rfl tH rfl rfl (fun v hv=>by cases hv) ?_|refine ⟨⟨rfl,qM (skH ws 12 N fs) (skH ws' 12 N fs') (dR N L ([]) us) [0,30] zU rfl rfl tHY rfl rfl rfl rfl c1⟩,?_⟩|intro _|refine Qa ?_|refine Yp (dH N L++[]) (fun s=>dH N (L' s)++[]) (skH ws' 12 N fs'++[]++sk2 us) [(38,.pv (pb b))] [60] zU rfl rfl rfl tHY tS rfl rfl (fun _=>rfl) c2 (fun s=>?_)|refine sK ?_|refine sC (fun _=>?_) (fun _=>?_)|fail)
 refine ⟨s,.inr rfl,.inl ⟨[pb true],by (show some [pb (b==b)]=some [pb true];rw [hb]),rfl,?_⟩⟩
 exact ⟨by repeat (first|exact zi|refine zh rfl ?_),rfl⟩
theorem do2 (b:Bool) {L':List DE} (c1:∀ us,ACallM Tryz.prog 17 [.box 30 0] (skH ws 12 N fs++zu us [0,30]) (.pv (pb b)) (skH ws' 12 N fs'++zu us [0,30]))
  (c2:∀ us,ACallM Tryz.prog 24 [.box 60 0] (dH N L++zu us [60]) (.pv (pb b)) (dH N L'++zu us [60])) (us:Nat→Value) :
  ACallU Tryz.prog 9 [.box 0 0,.box 30 0,.box 60 0,.pv (YS 2 n m x l)] (skH ws 12 N fs++dH N L++[]++sk2 us) (fun _:Value=>.pv (pb true)) (fun _=>skH ws' 12 N fs'++dH N L'++[]++sk2 us):=by
 have hb:(b==b)=true:=by cases b <;> rfl
 refine zK zk Tryz.func9 rfl (by kernel_rfl) Tryz.ntmps9 (by simp) _ rfl (fun gB hw1=>?_)
 repeat' (first|(refine zG ?_;first|(refine yH (skH ws 12 N fs) (skH ws' 12 N fs') (dH N L++sk2 us) ([0,30]) zU rfl rfl rfl ?_ rfl rfl rfl c1 ?_;· (repeat (first|exact zi|refine zh rfl ?_)))|(refine yH (dH N L) (dH N L') (skH ws' 12 N fs'++sk2 us) ([60]) zU rfl rfl rfl ?_ rfl rfl rfl c2 ?_;· (repeat (first|exact zi|refine zh rfl ?_))))|refine sK ?_|refine sC (fun _=>?_) (fun _=>?_)|fail)
 exact ⟨.nilFunc,.inr rfl,.inl ⟨[pb true],by (show some [pb (b==b)]=some [pb true];rw [hb]),rfl,⟨by repeat (first|exact zi|refine zh rfl ?_),rfl⟩⟩⟩
theorem zls  {L':List DE} (c1:∀ us,ACallM Tryz.prog 25 [.box 30 0,.pv (pi n)] (skH ws 12 N fs++zu us [0,30]) (.pv (.tup [])) (skH ws' 12 N fs'++zu us [0,30]))
  (c2:∀ us,ACallM Tryz.prog 26 [.box 60 0,.pv (pi n)] (dH N L++zu us [60]) (.pv (.tup [])) (dH N L'++zu us [60])) (us:Nat→Value) :
  ACallU Tryz.prog 9 [.box 0 0,.box 30 0,.box 60 0,.pv (YS 5 n m x l)] (skH ws 12 N fs++dH N L++[]++sk2 us) (fun _:Value=>.pv (pb true)) (fun _=>skH ws' 12 N fs'++dH N L'++[]++sk2 us):=by
 refine zK zk Tryz.func9 rfl (by kernel_rfl) Tryz.ntmps9 (by simp) _ rfl (fun gB hw1=>?_)
 repeat' (first|(refine zG ?_;first|(refine yH (skH ws 12 N fs) (skH ws' 12 N fs') (dH N L++sk2 us) ([0,30]) zU rfl rfl rfl ?_ rfl rfl rfl c1 ?_;· (repeat (first|exact zi|refine zh rfl ?_)))|(refine yH (dH N L) (dH N L') (skH ws' 12 N fs'++sk2 us) ([60]) zU rfl rfl rfl ?_ rfl rfl rfl c2 ?_;· (repeat (first|exact zi|refine zh rfl ?_))))|refine sK ?_|refine sC (fun _=>?_) (fun _=>?_)|fail)
 exact ⟨.nilFunc,.inr rfl,.inl ⟨[pb true],rfl,rfl,⟨by repeat (first|exact zi|refine zh rfl ?_),rfl⟩⟩⟩
theorem do6  {L':List DE} (c1:∀ us,ACallM Tryz.prog 27 [.box 30 0,.pv (pi n),.pv (pi m)] (skH ws 12 N fs++zu us [0,30]) (.pv (.tup [])) (skH ws' 12 N fs'++zu us [0,30]))
  (c2:∀ us,ACallM Tryz.prog 28 [.box 60 0,.pv (pi n),.pv (pi m)] (dH N L++zu us [60]) (.pv (.tup [])) (dH N L'++zu us [60])) (us:Nat→Value) :
  ACallU Tryz.prog 9 [.box 0 0,.box 30 0,.box 60 0,.pv (YS 6 n m x l)] (skH ws 12 N fs++dH N L++[]++sk2 us) (fun _:Value=>.pv (pb true)) (fun _=>skH ws' 12 N fs'++dH N L'++[]++sk2 us):=by
 refine zK zk Tryz.func9 rfl (by kernel_rfl) Tryz.ntmps9 (by simp) _ rfl (fun gB hw1=>?_)
 repeat' (first|(refine zG ?_;first|(refine yH (skH ws 12 N fs) (skH ws' 12 N fs') (dH N L++sk2 us) ([0,30]) zU rfl rfl rfl ?_ rfl rfl rfl c1 ?_;· (repeat (first|exact zi|refine zh rfl ?_)))|(refine yH (dH N L) (dH N L') (skH ws' 12 N fs'++sk2 us) ([60]) zU rfl rfl rfl ?_ rfl rfl rfl c2 ?_;· (repeat (first|exact zi|refine zh rfl ?_))))|refine sK ?_|refine sC (fun _=>?_) (fun _=>?_)|fail)
 exact ⟨.nilFunc,.inr rfl,.inl ⟨[pb true],rfl,rfl,⟨by repeat (first|exact zi|refine zh rfl ?_),rfl⟩⟩⟩
end
set_option maxHeartbeats 20000000
section
variable {ws ws':List Int} {fs fs':List Fr} {N n m x:Int} {L:List DE} {l:List Int}
theorem zlc (y:DX) {L':List DE} (c1:∀ us,ACallM Tryz.prog 25 [.box 30 0,.pv (pi n)] (skH ws 12 N fs++zu us [0,30]) (.pv (.tup [])) (skH ws' 12 N fs'++zu us [0,30]))
  (c2:∀ us,ACallM Tryz.prog 26 [.box 60 0,.pv (pi n)] (dH N L++zu us [60]) (.pv (.tup [])) (dH N L'++zu us [60])) (us:Nat→Value) :
  ACallU Tryz.prog 9 [.box 0 0,.box 30 0,.box 60 0,.pv (YS 5 n m x l)] (skH ws 12 N fs++dH N L++r4X y++sk2 us) (fun _:Value=>.pv (pb true)) (fun _=>skH ws' 12 N fs'++dH N L'++(vsH y.vars y.e.v++ssH [] ZH)++sk2 us):=by
 refine zK zk Tryz.func9 rfl (by kernel_rfl) Tryz.ntmps9 (by simp) _ rfl (fun gB hw1=>?_)
 repeat' (first|refine qK 84 rfl [] (skH ws' 12 N fs'++dH N L'++vsH y.vars y.e.v++sk2 us) tS tH (VL 72 73 33 1 (by decide) rfl rfl (by decide) ?_)|(refine zG ?_;first|(refine yH (skH ws 12 N fs) (skH ws' 12 N fs') (dH N L++r4X y++sk2 us) ([0,30]) zU rfl rfl rfl ?_ rfl rfl rfl c1 ?_;· (repeat (first|exact zi|refine zh rfl ?_)))|(refine yH (dH N L) (dH N L') (skH ws' 12 N fs'++r4X y++sk2 us) ([60]) zU rfl rfl rfl ?_ rfl rfl rfl c2 ?_;· (repeat (first|exact zi|refine zh rfl ?_))))|refine sK ?_|refine sC (fun _=>?_) (fun _=>?_)|fail)
 exact ⟨.nilFunc,.inr rfl,.inl ⟨[pb true],rfl,rfl,⟨by repeat (first|exact zi|refine zh rfl ?_),rfl⟩⟩⟩
theorem zji (c1:∀ us,ACallM Tryz.prog 29 [.box 30 0,.pv (pi n)] (skH ws 12 N fs++zu us [0,30]) (.pv (u64 0)) (skH ws 12 N fs++zu us [0,30])) (hn:n < 0∨152≤n∨L=[]) (us:Nat→Value) :
  ACallU Tryz.prog 9 [.box 0 0,.box 30 0,.box 60 0,.pv (YS 7 n m x l)] (skH ws 12 N fs++dH N L++[]++sk2 us) (fun _:Value=>.pv (pb true)) (fun _=>skH ws 12 N fs++dH N L++[]++sk2 us):=by
 by_cases h1:n < 0
 ·have hd1:decide (n < 0)=true:=decide_eq_true h1
  refine zK zk Tryz.func9 rfl (by kernel_rfl) Tryz.ntmps9 (by simp) _ rfl (fun gB hw1=>?_)
  repeat' (first|(refine zG ?_;first|(refine yH (skH ws 12 N fs) (skH ws 12 N fs) (dH N L++sk2 us) ([0,30]) zU rfl rfl rfl ?_ rfl rfl rfl c1 ?_;· (repeat (first|exact zi|refine zh rfl ?_))))|refine sK ?_|refine sC (fun _=>?_) (fun _=>?_)|fail)
  exact ⟨.nilFunc,.inr rfl,.inl ⟨[pb true],rfl,rfl,⟨by repeat (first|exact zi|refine zh rfl ?_),rfl⟩⟩⟩
 ·have hd1:decide (n < 0)=false:=decide_eq_false h1
  by_cases h2:152≤n
  ·have hd2:decide (152≤n)=true:=decide_eq_true h2
   refine zK zk Tryz.func9 rfl (by kernel_rfl) Tryz.ntmps9 (by simp) _ rfl (fun gB hw1=>?_)
   repeat' (first|(refine zG ?_;first|(refine yH (skH ws 12 N fs) (skH ws 12 N fs) (dH N L++sk2 us) ([0,30]) zU rfl rfl rfl ?_ rfl rfl rfl c1 ?_;· (repeat (first|exact zi|refine zh rfl ?_))))|refine sK ?_|refine sC (fun _=>?_) (fun _=>?_)|fail)
   exact ⟨.nilFunc,.inr rfl,.inl ⟨[pb true],rfl,rfl,⟨by repeat (first|exact zi|refine zh rfl ?_),rfl⟩⟩⟩
  ·have hd2:decide (152≤n)=false:=decide_eq_false h2
   obtain rfl:L=[]:=by rcases hn with h|h|h <;> first|exact h|omega
   refine zK zk Tryz.func9 rfl (by kernel_rfl) Tryz.ntmps9 (by simp) _ rfl (fun gB hw1=>?_)
   repeat' (first|refine sM ?_|(refine zG ?_;first|(refine yH (skH ws 12 N fs) (skH ws 12 N fs) (dH N []++sk2 us) ([0,30]) zU rfl rfl rfl ?_ rfl rfl rfl c1 ?_;· (repeat (first|exact zi|refine zh rfl ?_))))|refine sK ?_|refine sC (fun _=>?_) (fun _=>?_)|fail)
   exact ⟨.nilFunc,.inr rfl,.inl ⟨[pb true],rfl,rfl,⟨by repeat (first|exact zi|refine zh rfl ?_),rfl⟩⟩⟩
theorem zmB (at_:Int) (A:List DE) (e:DE) (y:DX) (o k:Nat) (hA:A.length≤63) (hn:n=(k:Int)) (hk:k < 152) (hv:y.vars.length=152) (heo:e.o=(o:Int)) (ho:(A++[e])[o]?=some y.e) (ha:0≤at_) (hl:ws.length≤100000)
  (c1:∀ us,ACallM Tryz.prog 29 [.box 30 0,.pv (pi n)] (skH ws 12 N fs++zu us [0,30]) (.pv (u64 at_)) (skH ws 12 N fs++zu us [0,30])) (us:Nat→Value) :
  ACallU Tryz.prog 9 [.box 0 0,.box 30 0,.box 60 0,.pv (YS 7 n m x l)] (skH ws 12 N fs++dH N (A++[e])++r4X y++sk2 us) (fun _:Value=>.pv (pb true)) (fun _=>skH (YB ws at_ x) 12 N fs++dH N (A++[e])++(vsH (y.vars.set k x) y.e.v++ssH y.st y.e.s)++sk2 us):=by
 obtain ⟨ye,yv,yst⟩:=y
 dsimp only at hv ho ⊢
 have hp:=Vh (zdg A e)
 have hpo:=Vh ho
 obtain ⟨S,hS⟩:∃ S,S=(A++[e]).map dP:=⟨_,rfl⟩
 have hSl:S.length=A.length + 1:=by rw [hS];simp
 rw [←hS] at hp hpo
 have hi:=zbo hSl (by omega)
 have hlt:A.length < S.length:=by omega
 have hlo:o < S.length:=(List.getElem?_eq_some_iff.1 hpo).1
 have hd1:decide (n < 0)=false:=decide_eq_false (by omega)
 have hd2:decide (152≤n)=false:=decide_eq_false (by omega)
 have hd3:decide (((S.length:Nat):Int)=0)=false:=decide_eq_false (by omega)
 have hx:(yv.map u64)[k]?=some (u64 (yv[k]'(by omega))):=by rw [List.getElem?_map,List.getElem?_eq_getElem (by omega)];rfl
 have hkl:k < (yv.map u64).length:=by rw [List.length_map];omega
 have hE:(yv.map u64).set k (u64 x)=(yv.set k x).map u64:=by rw [List.map_set]
 have cP:=fun us=>Vs ws 12 0 at_ x ha hl us
 rw [dH,←hS]
 refine zK zk Tryz.func9 rfl (by kernel_rfl) Tryz.ntmps9 (by simp) _ rfl (fun gB hw1=>?_)
 repeat' (first|refine qy 147 71 rfl rfl ?_|refine qj 26 24 rfl (by kernel_rfl) (by kernel_rfl) (by kernel_rfl) (by kernel_rfl) (by kernel_rfl) ?_|refine sM ?_|refine zy rfl (zB (k:=A.length) (j:=2) zk rfl rfl rfl rfl hp rfl) rfl rfl ?_|refine AD.step _ _ _ _ _ rfl (zB (k:=A.length) (j:=2) zk rfl rfl rfl rfl hp rfl) rfl rfl ?_|refine zy rfl (zB (k:=o) (j:=3) zk rfl rfl rfl rfl hpo rfl) rfl rfl ?_|refine AD.step _ _ _ _ _ rfl (zB (k:=o) (j:=3) zk rfl rfl rfl rfl hpo rfl) rfl rfl ?_|(refine shX ?_;first|refine zy rfl (zC (k:=A.length) zk rfl rfl rfl rfl rfl rfl rfl hi hlt) rfl rfl ?_|refine AD.step _ _ _ _ _ rfl (zC (k:=A.length) zk rfl rfl rfl rfl rfl rfl rfl hi hlt) rfl rfl ?_|refine zy rfl (zC (k:=o) zk rfl rfl rfl rfl rfl rfl rfl heo hlo) rfl rfl ?_|refine AD.step _ _ _ _ _ rfl (zC (k:=o) zk rfl rfl rfl rfl rfl rfl rfl heo hlo) rfl rfl ?_|refine zy rfl (zC (k:=k) zk rfl rfl rfl rfl rfl rfl rfl hn hkl) rfl rfl ?_|refine AD.step _ _ _ _ _ rfl (zC (k:=k) zk rfl rfl rfl rfl rfl rfl rfl hn hkl) rfl rfl ?_)|(refine zG ?_;first|(refine yH (skH ws 12 N fs) (skH ws 12 N fs) (dSH N S us++vsH yv ye.v++ssH yst ye.s++sk2 us) ([0,30]) zU rfl rfl rfl ?_ rfl rfl rfl c1 ?_;· (repeat (first|exact zi|refine zh rfl ?_)))|(refine yH (Yd ws 12 0) (Yd (YB ws at_ x) 12 0) ([(30,.cell (.agg [.box 0 0,.pv (pi N),.own 37])),(37,.mrow 71 5 (fs.map ZM))]++dSH N S us++vsH yv ye.v++ssH yst ye.s++sk2 us) ([0]) zU rfl rfl rfl ?_ rfl rfl rfl cP ?_;· (repeat (first|exact zi|refine zh rfl ?_))))|(refine yj ?_;first|refine yS (k:=k) (j:=0) zk rfl rfl rfl rfl rfl hx rfl rfl rfl rfl rfl ?_)|refine sK ?_|refine sC (fun _=>?_) (fun _=>?_)|fail)
 exact ⟨.nilFunc,.inr rfl,.inl ⟨[pb true],rfl,rfl,⟨by repeat (first|exact zi|refine zh rfl ?_|refine ZK rfl hE ?_),rfl⟩⟩⟩
theorem zlS (k:Int) (h:k < 0∨7 < k) (us:Nat→Value):ACallU Tryz.prog 9 [.box 0 0,.box 30 0,.box 60 0,.pv (YS k n m x l)] (skH ws 12 N fs++dH N L++[]++sk2 us) (fun _:Value=>.pv (pb true)) (fun _=>skH ws 12 N fs++dH N L++[]++sk2 us):=by
 have h0:decide (k=0)=false:=decide_eq_false (by omega)
 have h1:decide (k=1)=false:=decide_eq_false (by omega)
 have h2:decide (k=2)=false:=decide_eq_false (by omega)
 have h3:decide (k=3)=false:=decide_eq_false (by omega)
 have h4:decide (k=4)=false:=decide_eq_false (by omega)
 have h5:decide (k=5)=false:=decide_eq_false (by omega)
 have h6:decide (k=6)=false:=decide_eq_false (by omega)
 have h7:decide (k=7)=false:=decide_eq_false (by omega)
 refine zK zk Tryz.func9 rfl (by kernel_rfl) Tryz.ntmps9 (by simp) _ rfl (fun gB hw1=>?_)
 repeat' (first|refine sK ?_|refine sC (fun _=>?_) (fun _=>?_)|fail)
 exact ⟨.nilFunc,.inr rfl,.inl ⟨[pb true],rfl,rfl,⟨by repeat (first|exact zi|refine zh rfl ?_),rfl⟩⟩⟩
end
abbrev bX (ws:List Int) (fs:List Fr) (N:Int) (D:List DX):HEnv:=skH ws 12 N fs++dH N (D.map DX.e)
abbrev GHx (ws:List Int) (fs:List Fr) (N:Int) (D:List DX):HEnv:=bX ws fs N D++Qh 2000 D
abbrev doA (a:PV):List AV:=[.box 0 0,.box 30 0,.box 60 0,.pv a]
theorem Zu (ws:List Int) (fs:List Fr) (N:Int) (D:List DX):zdx (bX ws fs N D):=by
 repeat (first|exact zi3|refine zh0 (by decide) (fun t=>rfl) ?_)
section
variable {ws ws':List Int} {fs fs':List Fr} {N:Int} {D:List DX} {a:PV} {k:Nat}
theorem ZW {D':List DX} (hc:∀ us,ACallU Tryz.prog 9 (doA a) (bX ws fs N D++[]++sk2 us) (fun _:Value=>.pv (pb true)) (fun _=>bX ws' fs' N D'++[]++sk2 us))
  (h:∀ k' y,D'[k']?=some y→k'≠k∧∃ z,D[k']?=some z∧∀ b r,row4 b y r=row4 b z r):ACallE Tryz.prog 9 (doA a) (GHx ws fs N D) (fun _:Value=>.pv (pb true)) (fun _=>GHx ws' fs' N D') [0,30,60] :=
 ACallE.lift (zbD (t:=2000 + 4 * k) (by omega)) (zca (H:=bX ws fs N D++[]) (H':=fun _=>bX ws' fs' N D'++[]) hc rfl (fun _=>rfl) (fun _=>rfl)) rfl rfl (fun _=>rfl) (XG (o:=none) (Zu _ _ _ _) (fun x hx=>by cases hx)) rfl
  (fun _=>XJ (o:=none) (o':=none) (Zu _ _ _ _) (Zu _ _ _ _) (fun k' y hy=>.inr (h k' y hy)) (fun y hy=>by cases hy)) (fun i hi=>by simp at hi;rcases hi with rfl|rfl|rfl <;> rfl) (fun _ i hi=>by simp at hi;rcases hi with rfl|rfl|rfl <;> rfl)
theorem zjB {D':Value→List DX} {y':Value→DX} (hc:∀ us,ACallU Tryz.prog 9 (doA a) (bX ws fs N D++[]++sk2 us) (fun _:Value=>.pv (pb true)) (fun s=>bX ws' fs' N (D' s)++r4X (y' s)++sk2 us))
  (h:∀ s k' y,(D' s)[k']?=some y→(k'=k∧y=y' s)∨(k'≠k∧D[k']?=some y)) (hk:∀ s,(D' s)[k]?=some (y' s)):ACallE Tryz.prog 9 (doA a) (GHx ws fs N D) (fun _:Value=>.pv (pb true)) (fun s=>GHx ws' fs' N (D' s)) [0,30,60] :=
 ACallE.lift (zbD (t:=2000 + 4 * k) (by omega)) (zca (H:=bX ws fs N D++[]) (H':=fun s=>bX ws' fs' N (D' s)++YQ (some (y' s))) hc rfl (fun _=>rfl) (fun _=>rfl)) rfl rfl (fun _=>rfl) (XG (o:=none) (Zu _ _ _ _) (fun x hx=>by cases hx)) rfl
  (fun s=>XJ (o:=none) (o':=some (y' s)) (Zu _ _ _ _) (Zu _ _ _ _) (fun k' y hy=>(h s k' y hy).imp (fun q=>⟨q.1,by rw [q.2]⟩) (fun q=>⟨q.1,y,q.2,fun _ _=>rfl⟩)) (fun y hy=>by simp only [Option.some.injEq] at hy;subst hy;exact hk s)) (fun i hi=>by simp at hi;rcases hi with rfl|rfl|rfl <;> rfl) (fun _ i hi=>by simp at hi;rcases hi with rfl|rfl|rfl <;> rfl)
theorem VW {y:DX} {D':Value→List DX} {y':Value→DX} (hc:∀ us,ACallU Tryz.prog 9 (doA a) (bX ws fs N D++r4X y++sk2 us) (fun _:Value=>.pv (pb true)) (fun s=>bX ws' fs' N (D' s)++r4X (y' s)++sk2 us))
  (hy:D[k]?=some y) (h:∀ s k' y,(D' s)[k']?=some y→(k'=k∧y=y' s)∨(k'≠k∧∃ z,D[k']?=some z∧∀ b r,row4 b y r=row4 b z r)) (hk:∀ s,(D' s)[k]?=some (y' s)):ACallE Tryz.prog 9 (doA a) (GHx ws fs N D) (fun _:Value=>.pv (pb true)) (fun s=>GHx ws' fs' N (D' s)) [0,30,60] :=
 ACallE.lift (zbD (t:=2000 + 4 * k) (by omega)) (zca (H:=bX ws fs N D++YQ (some y)) (H':=fun s=>bX ws' fs' N (D' s)++YQ (some (y' s))) hc rfl (fun _=>rfl) (fun _=>rfl)) rfl rfl (fun _=>rfl) (XG (o:=some y) (Zu _ _ _ _) (fun x hx=>by simp only [Option.some.injEq] at hx;subst hx;exact hy)) rfl
  (fun s=>XJ (o:=some y) (o':=some (y' s)) (Zu _ _ _ _) (Zu _ _ _ _) (fun k' y hy=>(h s k' y hy).imp (fun q=>⟨q.1,by rw [q.2]⟩) (fun q=>q)) (fun y hy=>by simp only [Option.some.injEq] at hy;subst hy;exact hk s)) (fun i hi=>by simp at hi;rcases hi with rfl|rfl|rfl <;> rfl) (fun _ i hi=>by simp at hi;rcases hi with rfl|rfl|rfl <;> rfl)
end
theorem VQ {ws:List Int} {a:Int} (h0:0 < a) (hl:ws.length≤100000):∀ n:Nat,a + n≤ws.length→∀ b,0≤b→Ze (Zy ws a n) b=if a≤b∧b < a + n then 0 else Ze ws b
 | 0,_,b,hb=>by rw [Zy,if_neg (by omega)]
 | n + 1,h,b,hb=>by
  rw [Zy,zM (by omega) (by omega),QL hb ⟨by omega,by rw [yT];omega⟩,VQ h0 hl n (by omega) b hb]
  by_cases e:b=a + n
  ·rw [if_pos e,if_pos (by omega)]
  ·rw [if_neg e]
   by_cases h2:a≤b∧b < a + n
   ·rw [if_pos h2,if_pos (by omega)]
   ·rw [if_neg h2,if_neg (by omega)]
theorem zbO {ws:List Int} {a:Int} {l:List Int} (h0:0 < a) (hl:ws.length≤100000):∀ n:Nat,a + n≤ws.length→∀ b,0≤b→Ze (VF ws a l n) b=if a≤b∧b < a + n then l.getD (b - a).toNat 0 else Ze ws b
 | 0,_,b,hb=>by rw [VF,if_neg (by omega)]
 | n + 1,h,b,hb=>by
  rw [VF,zM (a:=(n:Int)) (by omega) (by omega),zM (by omega) (by omega),QL hb ⟨by omega,by rw [VK];omega⟩,zbO h0 hl n (by omega) b hb]
  by_cases e:b=a + n
  ·rw [if_pos e,if_pos (by omega),show (b - a).toNat=n by omega]
  ·rw [if_neg e]
   by_cases h2:a≤b∧b < a + n
   ·rw [if_pos h2,if_pos (by omega)]
   ·rw [if_neg h2,if_neg (by omega)]
theorem XA {ws:List Int} {e s:Int} {l:List Int} (he:0 < e) (hs:0≤s) (hl:ws.length≤100000):∀ n:Nat,e + s + n≤ws.length→∀ b,0≤b→Ze (ZN ws e s l n) b=if e + s≤b∧b < e + s + n then l.getD (b - e - s).toNat 0 else Ze ws b
 | 0,_,b,hb=>by rw [ZN,if_neg (by omega)]
 | n + 1,h,b,hb=>by
  rw [ZN,zM (a:=s + (n:Int)) (by omega) (by omega),zM (by omega) (by omega),QL hb ⟨by omega,by rw [Yk];omega⟩,XA he hs hl n (by omega) b hb]
  by_cases e1:b=e + (s + n)
  ·rw [if_pos e1,if_pos (by omega),show (b - e - s).toNat=n by omega]
  ·rw [if_neg e1]
   by_cases h2:e + s≤b∧b < e + s + n
   ·rw [if_pos h2,if_pos (by omega)]
   ·rw [if_neg h2,if_neg (by omega)]
structure FrOk (ws:List Int) (D:List DX) (k:Nat) (f:Fr) (d:DX) (o:Nat):Prop where
 eo:d.e.o=(o:Int)
 le:o≤k
 me:f.method=d.e.m
 ia:f.at_=d.e.a
 ba:f.base=12 + 256 * (o:Int)
 ev:f.eval=12 + 256 * (k:Int) + 152
 sz:f.size=(d.st.length:Int)
 s96:d.st.length≤96
 st:∀ i:Nat,i < d.st.length→Ze ws (12 + 256 * (k:Int) + 152 + i)=d.st.getD i 0
 vr:o=k→d.vars.length=152∧∀ i:Nat,i < 152→Ze ws (12 + 256 * (k:Int) + i)=d.vars.getD i 0
 ow:∃ c,D[o]?=some c∧c.e.o=(o:Int)
structure RX (ws:List Int) (fs:List Fr) (N:Int) (D:List DX):Prop where
 wl:ws.length=16396
 n0:1≤N
 n1:N≤64
 len:fs.length=D.length
 le:(D.length:Int)≤N
 fr:∀ k f d,fs[k]?=some f→D[k]?=some d→∃ o,FrOk ws D k f d o
section
variable {ws ws':List Int} {fs:List Fr} {N:Int} {D:List DX}
theorem RX.app (h:RX ws fs N D) (hn:(D.length:Int) < N) {f:Fr} {d:DX} (wl:ws'.length=16396) (hw:∀ b,0≤b→b < 12 + 256 * (D.length:Int)→Ze ws' b=Ze ws b) (hf:∃ o,FrOk ws' (D++[d]) D.length f d o):RX ws' (fs++[f]) N (D++[d]):=by
 refine ⟨wl,h.n0,h.n1,by simp [h.len],by simp;omega,fun k f' d' h1 h2=>?_⟩
 by_cases hk:k < D.length
 ·rw [List.getElem?_append_left (by rw [h.len];exact hk)] at h1
  rw [List.getElem?_append_left hk] at h2
  obtain ⟨o,q⟩:=h.fr k f' d' h1 h2
  have hle:=q.le
  have hs:=q.s96
  refine ⟨o,q.eo,q.le,q.me,q.ia,q.ba,q.ev,q.sz,q.s96,fun i hi=>(hw _ (by omega) (by omega)).trans (q.st i hi),fun e=>⟨(q.vr e).1,fun i hi=>(hw _ (by omega) (by omega)).trans ((q.vr e).2 i hi)⟩,?_⟩
  obtain ⟨c,c1,c2⟩:=q.ow
  exact ⟨c,by rw [List.getElem?_append_left (by omega)];exact c1,c2⟩
 ·have hk2:k=D.length:=by
   have:=(List.getElem?_eq_some_iff.1 h2).1
   simp at this;omega
  subst hk2
  rw [←h.len,List.getElem?_concat_length] at h1
  rw [List.getElem?_concat_length] at h2
  simp only [Option.some.injEq] at h1 h2
  subst h1 h2
  exact hf
theorem RX.upd (h:RX ws fs N D) {k:Nat} {f':Fr} {d d':DX} (hd:D[k]?=some d) (he:d'.e.o=d.e.o) (wl:ws'.length=16396) (hw:∀ b,0≤b→(b < 12 + 256 * (k:Int)∨12 + 256 * (k:Int) + 256≤b)→Ze ws' b=Ze ws b) (hf:∃ o,FrOk ws' (D.set k d') k f' d' o):RX ws' (fs.set k f') N (D.set k d'):=by
 have hkl:=(List.getElem?_eq_some_iff.1 hd).1
 refine ⟨wl,h.n0,h.n1,by simp [h.len],by simpa using h.le,fun j f2 d2 h1 h2=>?_⟩
 rw [List.getElem?_set] at h1 h2
 by_cases e:k=j
 ·subst e
  rw [if_pos rfl,if_pos (by rw [h.len];exact hkl)] at h1
  rw [if_pos rfl,if_pos hkl] at h2
  simp only [Option.some.injEq] at h1 h2
  subst h1 h2
  exact hf
 ·rw [if_neg e] at h1 h2
  obtain ⟨o,q⟩:=h.fr j f2 d2 h1 h2
  have hs:=q.s96
  refine ⟨o,q.eo,q.le,q.me,q.ia,q.ba,q.ev,q.sz,q.s96,fun i hi=>(hw _ (by omega) (by omega)).trans (q.st i hi),fun e2=>⟨(q.vr e2).1,fun i hi=>(hw _ (by omega) (by omega)).trans ((q.vr e2).2 i hi)⟩,?_⟩
  obtain ⟨c,c1,c2⟩:=q.ow
  by_cases e3:k=o
  ·subst e3
   rw [hd] at c1;simp only [Option.some.injEq] at c1;subst c1
   exact ⟨d',by rw [List.getElem?_set,if_pos rfl,if_pos hkl],by rw [he];exact c2⟩
  ·exact ⟨c,by rw [List.getElem?_set,if_neg e3];exact c1,c2⟩
theorem RX.leave {f:Fr} {d:DX} (h:RX ws (fs++[f]) N (D++[d])):RX ws fs N D:=by
 have hl:fs.length=D.length:=by have:=h.len;simpa using this
 have h2:=h.le
 simp at h2
 refine ⟨h.wl,h.n0,h.n1,hl,by omega,fun k f' d' h1 h2=>?_⟩
 have hk:=(List.getElem?_eq_some_iff.1 h2).1
 obtain ⟨o,q⟩:=h.fr k f' d' (by rw [List.getElem?_append_left (by omega)];exact h1) (by rw [List.getElem?_append_left hk];exact h2)
 obtain ⟨c,c1,c2⟩:=q.ow
 have:=q.le
 exact ⟨o,q.eo,q.le,q.me,q.ia,q.ba,q.ev,q.sz,q.s96,q.st,q.vr,c,by rw [List.getElem?_append_left (by omega)] at c1;exact c1,c2⟩
theorem RX.get (h:RX ws fs N D) {k:Nat} (hk:k < D.length):∃ f d o,fs[k]?=some f∧D[k]?=some d∧FrOk ws D k f d o:=by
 obtain ⟨o,q⟩:=h.fr k _ _ (List.getElem?_eq_getElem (by rw [h.len];exact hk)) (List.getElem?_eq_getElem hk)
 exact ⟨_,_,o,List.getElem?_eq_getElem _,List.getElem?_eq_getElem _,q⟩
theorem RX.owner (h:RX ws fs N D) {o:Nat} {c:DX} (hc:D[o]?=some c) (ho:c.e.o=(o:Int)):c.vars.length=152∧∀ i:Nat,i < 152→Ze ws (12 + 256 * (o:Int) + i)=c.vars.getD i 0:=by
 obtain ⟨f,d,o',h1,h2,q⟩:=h.get (List.getElem?_eq_some_iff.1 hc).1
 rw [hc] at h2;simp only [Option.some.injEq] at h2;subst h2
 have:o'=o:=by have:=q.eo;omega
 exact q.vr this
end
abbrev DoW (ws:List Int) (fs:List Fr) (N:Int) (D:List DX) (a:PV):Prop :=
 ∃ ws' fs',∃ D':Value→List DX,(∀ s,RX ws' fs' N (D' s))∧ACallE Tryz.prog 9 (doA a) (GHx ws fs N D) (fun _:Value=>.pv (pb true)) (fun s=>GHx ws' fs' N (D' s)) [0,30,60]
section
variable {ws:List Int} {fs:List Fr} {N:Int} {D A:List DX} {d:DX}
theorem RX.top (h:RX ws fs N (A++[d])):∃ F f o,fs=F++[f]∧F.length=A.length∧A.length≤63∧FrOk ws (A++[d]) A.length f d o:=by
 have hl:=h.len
 have h1:=h.le
 have h2:=h.n1
 simp at hl h1
 rcases List.eq_nil_or_concat fs with e|⟨F,f,e⟩
 ·subst e;simp at hl
 ·rw [List.concat_eq_append] at e
  subst e
  have hF:F.length=A.length:=by simpa using hl
  obtain ⟨o,q⟩:=h.fr A.length f d (by rw [←hF,List.getElem?_concat_length]) (by rw [List.getElem?_concat_length])
  exact ⟨F,f,o,rfl,hF,by omega,q⟩
theorem zd3 {F:List Fr} {f f':Fr} (hF:F.length=A.length):(F++[f]).set A.length f'=F++[f']:=by rw [←hF];simp
theorem Qy {d':DX}:(A++[d]).set A.length d'=A++[d']:=by simp
theorem Xg:∀ k' y,D[k']?=some y→k'≠D.length∧∃ z,D[k']?=some z∧∀ b r,row4 b y r=row4 b z r:=fun k' y hy=>⟨by have:=(List.getElem?_eq_some_iff.1 hy).1;omega,y,hy,fun _ _=>rfl⟩
theorem ziR {Y:Value→DX}:∀ s k' y,(D++[Y s])[k']?=some y→(k'=D.length∧y=Y s)∨(k'≠D.length∧D[k']?=some y):=by
 intro s k' y hy
 by_cases hk:k' < D.length
 ·exact .inr ⟨by omega,by rw [List.getElem?_append_left hk] at hy;exact hy⟩
 ·have hk2:k'=D.length:=by
   have:=(List.getElem?_eq_some_iff.1 hy).1
   simp at this;omega
  subst hk2
  rw [List.getElem?_concat_length] at hy
  simp only [Option.some.injEq] at hy
  exact .inl ⟨rfl,hy.symm⟩
theorem zaY {Y:Value→DX}:∀ s k' y,(A++[Y s])[k']?=some y→(k'=A.length∧y=Y s)∨(k'≠A.length∧∃ z,(A++[d])[k']?=some z∧∀ b r,row4 b y r=row4 b z r):=by
 intro s k' y hy
 rcases ziR (D:=A) s k' y hy with h|⟨h1,h2⟩
 ·exact .inl h
 ·exact .inr ⟨h1,y,by rw [List.getElem?_append_left (List.getElem?_eq_some_iff.1 h2).1];exact h2,fun _ _=>rfl⟩
theorem qc {y:DX}:(D++[y])[D.length]?=some y:=List.getElem?_concat_length
theorem zj4 (h:RX ws fs N D) (n m x:Int) (l:List Int):DoW ws fs N D (YS 0 n m x l):=by
 have hl:=h.len
 have hn1:=h.n1
 have hwl:=h.wl
 by_cases hy:(D.length:Int) < N∧(l.length:Int)≤m∧m≤152
 ·obtain ⟨y1,y2,y3⟩:=hy
  have hm0:(((D.map DX.e).length:Nat):Int)=D.length:=by simp
  obtain ⟨A,hA⟩:∃ A:Int,A=12 + 256 * (fs.length:Int):=⟨_,rfl⟩
  obtain ⟨W,hW⟩:∃ W,W=Va ws A l:=⟨_,rfl⟩
  have hWl:W.length=16396:=by rw [hW,zaN,hwl]
  have hg:∀ b,0≤b→Ze W b=if A≤b∧b < A + l.length then l.getD (b - A).toNat 0 else if A≤b∧b < A + 256 then 0 else Ze ws b:=fun b hb=>by
   rw [hW,Va,zbO (by omega) (by rw [yT];omega) _ (by rw [yT];omega) b hb,VQ (by omega) (by omega) 256 (by omega) b hb];rfl
  refine ⟨W,fs++[Yh n 0 A A],fun v=>D++[⟨⟨n,0,((D.map DX.e).length:Nat),v,ZH⟩,Wv l l.length,[]⟩],fun v=>h.app y1 hWl (fun b h0 h1=>?_) ⟨D.length,?_⟩,zjB (k:=D.length) (y':=fun v=>⟨⟨n,0,((D.map DX.e).length:Nat),v,ZH⟩,Wv l l.length,[]⟩) (fun us=>?_) ziR (fun _=>qc)⟩
  ·rw [hg b h0,if_neg (by omega),if_neg (by omega)]
  ·refine ⟨hm0,Nat.le_refl _,rfl,rfl,by show A=_;omega,by show A + 152=_;omega,rfl,by show 0≤96;omega,fun i hi=>by simp at hi,fun _=>⟨Xz _ _,fun i hi=>?_⟩,⟨_,qc,hm0⟩⟩
   rw [hg _ (by omega)]
   have e1:(Wv l l.length).getD i 0=if i < l.length then l.getD i 0 else 0:=by simp [Wv,List.getD_eq_getElem?_getD,hi]
   show _=(Wv l l.length).getD i 0
   rw [e1]
   by_cases h1:i < l.length
   ·rw [if_pos (by omega),if_pos h1,show (12 + 256 * (D.length:Int) + i - A).toNat=i by omega]
   ·rw [if_neg (by omega),if_pos (by omega),if_neg h1]
  ·have c1:=fun us=>zaB ws 12 N n m l false fs (by omega) (by omega) y2 y3 (by omega) (by omega) (by omega) us
   have c2:=fun us=>zgY N (D.map DX.e) n m l false (by simpa using y1) (by omega) y2 y3 us
   have q:=zl3 (ws:=ws) (ws':=W) (fs:=fs) (fs':=fs++[Yh n 0 A A]) (N:=N) (n:=n) (m:=m) (x:=x) (L:=D.map DX.e) (l:=l) true (L':=fun v=>D.map DX.e++[⟨n,0,((D.map DX.e).length:Nat),v,ZH⟩]) (y':=fun v=>⟨⟨n,0,((D.map DX.e).length:Nat),v,ZH⟩,Wv l l.length,[]⟩) (by rw [hW,hA];exact c1) (fun us=>by have t:=c2 us;simp only [List.append_assoc,List.nil_append] at t ⊢;exact t) us
   simp only [bX,List.map_append,List.map_cons,List.map_nil]
   exact q
 ·have c1:=fun us=>zbz ws 12 N n m l false fs (by omega) us
  have c2:=fun us=>YH (zeS N (D.map DX.e) n m l false (by rw [List.length_map];omega) us)
  exact ⟨ws,fs,fun _=>D,fun _=>h,ZW (k:=D.length) (zl0 false (L':=fun _=>D.map DX.e) c1 c2) Xg⟩
end
section
variable {ws:List Int} {fs:List Fr} {N:Int} {D A:List DX} {d:DX}
theorem QI {k:Nat} (h:D[k]?=some d):(D.map DX.e)[k]?=some d.e:=by rw [List.getElem?_map,h];rfl
theorem zk9 (a b:List Int) (i:Nat):(a++b).getD i 0=if i < a.length then a.getD i 0 else b.getD (i - a.length) 0:=by
 rw [List.getD_eq_getElem?_getD,List.getElem?_append]
 by_cases h:i < a.length
 ·rw [if_pos h,if_pos h,List.getD_eq_getElem?_getD]
 ·rw [if_neg h,if_neg h,List.getD_eq_getElem?_getD]
theorem zj0 (h:RX ws fs N D) (n m x:Int) (l:List Int):DoW ws fs N D (YS 1 n m x l):=by
 have hl:=h.len
 have hn1:=h.n1
 have hwl:=h.wl
 by_cases hy:(D.length:Int) < N∧0≤n∧n < D.length
 ·obtain ⟨y1,y2,y3⟩:=hy
  obtain ⟨j,rfl⟩:∃ j:Nat,n=(j:Int):=⟨n.toNat,by omega⟩
  obtain ⟨f,d,o,hf,hd,q⟩:=h.get (k:=j) (by omega)
  obtain ⟨A,hA⟩:∃ A:Int,A=12 + 256 * (fs.length:Int):=⟨_,rfl⟩
  obtain ⟨W,hW⟩:∃ W,W=ZN (Zy ws A 256) (A + 152) 0 [x] 1:=⟨_,rfl⟩
  have hWl:W.length=16396:=by rw [hW,Yk,yT,hwl]
  have hg:∀ b,0≤b→Ze W b=if b=A + 152 then x else if A≤b∧b < A + 256 then 0 else Ze ws b:=fun b hb=>by
   rw [hW,XA (by omega) (by omega) (by rw [yT];omega) 1 (by rw [yT];omega) b hb,VQ (by omega) (by omega) 256 (by omega) b hb]
   by_cases e:b=A + 152
   ·rw [if_pos (by omega),if_pos e,show (b - (A + 152) - 0).toNat=0 by omega];rfl
   ·rw [if_neg (by omega),if_neg e];rfl
  have qo:=q.le
  obtain ⟨c,hc1,hc2⟩:=q.ow
  refine ⟨W,fs++[sized (Yh f.method f.at_ f.base A) 1],fun s=>D++[⟨⟨d.e.m,d.e.a,d.e.o,ZH,s⟩,[],[x]⟩],fun s=>h.app y1 hWl (fun b h0 h1=>?_) ⟨o,?_⟩,zjB (k:=D.length) (y':=fun s=>⟨⟨d.e.m,d.e.a,d.e.o,ZH,s⟩,[],[x]⟩) (fun us=>?_) ziR (fun _=>qc)⟩
  ·rw [hg b h0,if_neg (by omega),if_neg (by omega)]
  ·refine ⟨q.eo,by omega,q.me,q.ia,q.ba,by show A + 152=_;omega,rfl,by show 1≤96;omega,fun i hi=>?_,fun e=>by omega,⟨c,by rw [List.getElem?_append_left (by omega)];exact hc1,hc2⟩⟩
   have hi0:i=0:=by simpa using hi
   subst hi0
   rw [hg _ (by omega),if_pos (by omega)];rfl
  ·have c1:=fun us=>zgN ws 12 N x j fs f (by omega) (by omega) hf (by omega) (by omega) (by omega) us
   have c2:=fun us=>zfI N (D.map DX.e) j x d.e (by simpa using y1) (by omega) (QI hd) us
   have t:=zl7 (ws:=ws) (ws':=W) (fs:=fs) (fs':=fs++[sized (Yh f.method f.at_ f.base A) 1]) (N:=N) (n:=(j:Int)) (m:=m) (x:=x) (L:=D.map DX.e) (l:=l) true (L':=fun s=>D.map DX.e++[⟨d.e.m,d.e.a,d.e.o,ZH,s⟩]) (y':=fun s=>⟨⟨d.e.m,d.e.a,d.e.o,ZH,s⟩,[],[x]⟩) (by rw [hW,hA];exact c1) (fun us=>by have t:=c2 us;simp only [List.append_assoc,List.nil_append] at t ⊢;exact t) us
   simp only [bX,List.map_append,List.map_cons,List.map_nil]
   exact t
 ·have c1:=fun us=>zeJ ws 12 N n x fs (by omega) us
  have c2:=fun us=>YH (zd2 N (D.map DX.e) n x (by rw [List.length_map];omega) us)
  exact ⟨ws,fs,fun _=>D,fun _=>h,ZW (k:=D.length) (zlH false (L':=fun _=>D.map DX.e) c1 c2) Xg⟩
theorem zjK (h:RX ws fs N D) (n m x:Int) (l:List Int):DoW ws fs N D (YS 2 n m x l):=by
 rcases List.eq_nil_or_concat D with e|⟨A,d,e⟩
 ·subst e
  obtain rfl:fs=[]:=List.eq_nil_of_length_eq_zero h.len
  exact ⟨ws,[],fun _=>[],fun _=>h,ZW (k:=0) (do2 false (L':=[]) (fun us=>zfy ws 12 N us) (fun us=>zeR N us)) (fun k' y hy=>by simp at hy)⟩
 ·rw [List.concat_eq_append] at e
  subst e
  obtain ⟨F,f,o,rfl,hF,hA,q⟩:=h.top
  refine ⟨ws,F,fun _=>A,fun _=>h.leave,ZW (k:=A.length) (fun us=>?_) (fun k' y hy=>⟨by have:=(List.getElem?_eq_some_iff.1 hy).1;omega,y,by rw [List.getElem?_append_left (List.getElem?_eq_some_iff.1 hy).1];exact hy,fun _ _=>rfl⟩)⟩
  have t:=do2 (ws:=ws) (ws':=ws) (fs:=F++[f]) (fs':=F) (N:=N) (n:=n) (m:=m) (x:=x) (L:=A.map DX.e++[d.e]) (l:=l) true (L':=A.map DX.e) (fun us=>zdo ws 12 N F f (by omega) us) (fun us=>zgz N (A.map DX.e) d.e (by simpa using hA) us) us
  simp only [bX,List.map_append,List.map_cons,List.map_nil]
  exact t
theorem zkp (h:RX ws fs N D) (n m x:Int) (l:List Int):DoW ws fs N D (YS 3 n m x l):=by
 have hwl:=h.wl
 rcases List.eq_nil_or_concat D with e|⟨A,d,e⟩
 ·subst e
  obtain rfl:fs=[]:=List.eq_nil_of_length_eq_zero h.len
  exact ⟨ws,[],fun _=>[],fun _=>h,ZW (k:=0) (zlZ false (L':=fun _=>[]) (fun us=>za0 ws 12 N l false us) (fun us=>YH (zeN N l false us))) (fun k' y hy=>by simp at hy)⟩
 ·rw [List.concat_eq_append] at e
  subst e
  obtain ⟨F,f,o,rfl,hF,hA,q⟩:=h.top
  have q1:=q.sz
  have q2:=q.s96
  have q3:=q.ev
  have qo:=q.le
  by_cases hy:d.st.length + l.length≤96
  ·obtain ⟨W,hW⟩:∃ W,W=ZN ws f.eval f.size l l.length:=⟨_,rfl⟩
   have hWl:W.length=16396:=by rw [hW,Yk,hwl]
   have hg:∀ b,0≤b→Ze W b=if f.eval + f.size≤b∧b < f.eval + f.size + l.length then l.getD (b - f.eval - f.size).toNat 0 else Ze ws b:=fun b hb=>by
    rw [hW,XA (by omega) (by omega) (by omega) _ (by omega) b hb]
   refine ⟨W,F++[sized f (f.size + l.length)],fun s=>A++[⟨⟨d.e.m,d.e.a,d.e.o,d.e.v,s⟩,d.vars,d.st++l⟩],fun s=>?_,VW (k:=A.length) (y:=d) (y':=fun s=>⟨⟨d.e.m,d.e.a,d.e.o,d.e.v,s⟩,d.vars,d.st++l⟩) (fun us=>?_) qc zaY (fun _=>qc)⟩
   ·have t:=h.upd (k:=A.length) (f':=sized f (f.size + l.length)) (d':=⟨⟨d.e.m,d.e.a,d.e.o,d.e.v,s⟩,d.vars,d.st++l⟩) qc rfl hWl (fun b h0 h1=>by rw [hg b h0,if_neg (by omega)]) ⟨o,?_⟩
    ·rw [zd3 hF,Qy] at t;exact t
    ·refine ⟨q.eo,q.le,q.me,q.ia,q.ba,q.ev,by show f.size + (l.length:Int)=_;simp;omega,by show (d.st++l).length≤96;simpa using hy,fun i hi=>?_,fun e=>⟨(q.vr e).1,fun i hi=>?_⟩,?_⟩
     ·rw [hg _ (by omega)]
      show _=(d.st++l).getD i 0
      rw [zk9]
      by_cases h1:i < d.st.length
      ·rw [if_neg (by omega),if_pos h1];exact q.st i h1
      ·rw [if_pos (by simp at hi;omega),if_neg h1,show (12 + 256 * (A.length:Int) + 152 + i - f.eval - f.size).toNat=i - d.st.length by omega]
     ·rw [hg _ (by omega),if_neg (by omega)];exact (q.vr e).2 i hi
     ·obtain ⟨c,hc1,hc2⟩:=q.ow
      rw [Qy]
      by_cases e3:o=A.length
      ·subst e3;exact ⟨_,qc,q.eo⟩
      ·exact ⟨c,by rw [List.getElem?_append_left (by omega)] at hc1 ⊢;exact hc1,hc2⟩
   ·have c1:=fun us=>QM ws 12 N l false F f (by omega) (by omega) (by omega) (by omega) us
    have c2:=fun us=>zeb N (A.map DX.e) d.e d.st l false (by simpa using hA) hy us
    have t:=zgS (ws:=ws) (ws':=W) (fs:=F++[f]) (fs':=F++[sized f (f.size + l.length)]) (N:=N) (n:=n) (m:=m) (x:=x) (L:=A.map DX.e++[d.e]) (l:=l) true d (L':=fun s=>A.map DX.e++[⟨d.e.m,d.e.a,d.e.o,d.e.v,s⟩]) (y':=fun s=>⟨⟨d.e.m,d.e.a,d.e.o,d.e.v,s⟩,d.vars,d.st++l⟩) (fun s=>⟨rfl,rfl⟩) (by rw [hW];exact c1) c2 us
    simp only [bX,List.map_append,List.map_cons,List.map_nil]
    exact t
  ·have c1:=fun us=>zcs ws 12 N l false F f (by omega) (by omega) (by omega) (by omega) us
   have c2:=fun us=>YH (zfO N (A.map DX.e) d.e d.st l false (by simpa using hA) q2 (by omega) us)
   refine ⟨ws,F++[f],fun _=>A++[d],fun _=>h,VW (k:=A.length) (y:=d) (y':=fun _=>d) (fun us=>?_) qc zaY (fun _=>qc)⟩
   have t:=zgS (ws:=ws) (ws':=ws) (fs:=F++[f]) (fs':=F++[f]) (N:=N) (n:=n) (m:=m) (x:=x) (L:=A.map DX.e++[d.e]) (l:=l) false d (L':=fun _=>A.map DX.e++[d.e]) (y':=fun _=>d) (fun s=>⟨rfl,rfl⟩) c1 c2 us
   simp only [bX,List.map_append,List.map_cons,List.map_nil]
   exact t
end
end Go.Cg
