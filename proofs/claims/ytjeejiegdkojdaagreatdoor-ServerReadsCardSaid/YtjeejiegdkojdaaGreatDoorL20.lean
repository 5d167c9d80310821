/-
  Part 20 of the library that the proof leans on.
-/
import Derived.Test.YtjeejiegdkojdaaGreatDoorL12
namespace Go.M
open Go
section
variable {T E:Env} {X:Cx} {ρ ρ':Gh} {F F':Nat→Prop} {o o':Ob} {c c' n:Nat} {f:Fr} {af:AF} {h h':ab}
theorem Mem.fresh (H:Mem X ρ F o c h) {S:Nat→Ft} (K:MO X ρ F o c h S):Mem (zy X.base ρ F o c h S) ρ F o c h∧MO (zy X.base ρ F o c h S) ρ F o c h S:=by
 have M:MO (zy X.base ρ F o c h S) ρ F o c h S:=⟨K.b7,K.Cm,K.fg,fun n y x hl hx=>⟨(K.eT n y x hl hx).1,(K.eT n y x hl hx).2.1,.inl ⟨n,y,hl,hx⟩⟩,K.apart⟩;exact⟨⟨⟨S,M⟩,H.names,H.frozen,fun _ hb=>hb,H.wf,.refl _ _ _,H.l5,fun _ hb=>.inl hb,Nat.le_refl _,fun _ _ _ hl=>hl,fun _ _ _ hb=>hb⟩,M⟩
end
end Go.M
