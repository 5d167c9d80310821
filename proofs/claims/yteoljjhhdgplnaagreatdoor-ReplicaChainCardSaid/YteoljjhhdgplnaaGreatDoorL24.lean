/-
  Part 24 of the library that the proof leans on.
-/
import Derived.Test.YteoljjhhdgplnaaGreatDoorL12
namespace Go.M
open Go
section
variable {T E:Env} {X:Cx} {ρ ρ':Gh} {F F':Nat→Prop} {o o':Ob} {c c' n:Nat} {f:Fr} {af:AF} {h h':ab}
theorem Mem.fresh (H:Mem X ρ F o c h) {S:Nat→Ft} (K:MO X ρ F o c h S):Mem (yF X.base ρ F o c h S) ρ F o c h∧MO (yF X.base ρ F o c h S) ρ F o c h S:=by
 have M:MO (yF X.base ρ F o c h S) ρ F o c h S:=⟨K.b8,K.Bq,K.eY,fun n y x hl hx=>⟨(K.eQ n y x hl hx).1,(K.eQ n y x hl hx).2.1,.inl ⟨n,y,hl,hx⟩⟩,K.apart⟩;exact⟨⟨⟨S,M⟩,H.names,H.frozen,fun _ hb=>hb,H.wf,.refl _ _ _,H.l8,fun _ hb=>.inl hb,Nat.le_refl _,fun _ _ _ hl=>hl,fun _ _ _ hb=>hb⟩,M⟩
end
end Go.M
