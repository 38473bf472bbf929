/- A part of the walks by abstract values: no statement of its own. -/
import Derived.Test.YtmgdpkcmbnlklaaGreatA21
import Derived.Test.YtmgdpkcmbnlklaaGreatA31
set_option linter.unusedVariables false
set_option linter.unusedSimpArgs false
namespace Go.Cg
open Go.RowKit Go.Proofs
abbrev zkW (l:List Int):Prop:=∀ n∈l,zda n
instance:Inhabited AT:=⟨⟨0,0,0,0,[]⟩⟩
def zmY (a:AT):Prop:=zcC a.k∧zcC a.n∧zcC a.m∧zda a.x∧∀ n∈a.l,zda n
def zha (l:List AT):Prop:=∀ c∈l,zmY c
section
variable {H:Type} {enc:TypeId × Value→H} {w:World}
theorem znk:Rd enc Tryz.prog w 36 5 (fun ps=>∃ c:AT,zmY c∧ps=(atP c).cells):=by
 refine (Yf Tryz.underlying36 (by kernel_rfl) (zD rfl ziY (zD rfl ziY (zD rfl ziY (zD rfl zma (zD rfl zkK YO)))))).mono ?_
 rintro _ ⟨_,_,⟨a,ha,rfl⟩,⟨_,_,⟨b,hb,rfl⟩,⟨_,_,⟨c,hc,rfl⟩,⟨_,_,⟨d,hd,rfl⟩,⟨_,_,⟨e,he,rfl⟩,rfl,rfl⟩,rfl⟩,rfl⟩,rfl⟩,rfl⟩
 exact ⟨⟨a,b,c,d,e⟩,⟨ha,hb,hc,hd,he⟩,rfl⟩
theorem zmd:Rd enc Tryz.prog w 22 1 (fun ps=>∃ l:List AT,zha l∧ps=[.slc 5 (l.map atP) false]):=ZT (f:=atP) Tryz.underlying22 (by kernel_rfl) (by decide) znk
end
end Go.Cg
