/-
  Masters that lose nothing come to one leader, and what is reported to all is chosen and known to all: catenary/catenarylaw14.MasterRules returns true for every input, and the input reads behind the call as it read before. The card: the table that the row lists is tied to the program's text.
-/
import Derived.Test.YthaboieeoopmjaaGreatDoorRows
import Derived.Test.YthaboieeoopmjaaGreatDoorCards
import Derived.Test.YthaboieeoopmjaaGreatDoorTie
import Derived.LaidMore
import Derived.LaidLaws
import Derived.SevenTiedAt
import Derived.OpenShut
import Derived.Lay
import Derived.MakeChecks
import Derived.Test.YthaboieeoopmjaaGreatDoorL30
import Derived.Test.YthaboieeoopmjaaGreatDoorL31
import Derived.Test.YthaboieeoopmjaaGreatDoorL32
import Derived.Test.YthaboieeoopmjaaGreatDoorL33
namespace Go.Proofs.YthaboieeoopmjaaGreatDoor.masterRules
open Go Go.M Go.ChangeShapes Go.WideShapes Go.ChangeAt Go.RowKit

theorem laid : laidOutB Tryz.prog = true := Vs
@[reducible] def xc : List (String × DataW Unit) := [("catenary/letter.kinds", Rows.laid_catenary_letter_kinds)]
theorem Ri : aby Tryz.prog xc FA = true := by kernel_rfl
theorem tables {W : World} (h : laidMetH Tryz.prog xc W) : yO FA W := by
  rw [MakeChecks.laidMetH_plain _ _ _ (by kernel_rfl)] at h;exact Rh Ri h

@[reducible] def shs : List vI := [⟨false, [.int .i64]⟩, ⟨false, [.int .u8]⟩]
theorem KN {s : Sh} {ss : List Sh} {r : List TV} (h : Fits (s :: ss) r) : ∃ t r', r = t :: r' ∧ Fit s t ∧ Fits ss r' := by
  unfold Fits at h; exact h
theorem Rj {r : List TV} (h : Fits [] r) : r = [] := by
  unfold Fits at h; exact h
theorem Rk {k : IntKind} {t : TV} (h : Fit (.int k) t) : ∃ n, k.min ≤ n ∧ n ≤ k.max ∧ t = .s (.int k n) := by
  unfold Fit at h; exact h
theorem Rl (Be : List TV) (h : Fi shs Be) : VC E0 3 0 Be [] fun r _ _ => r = .s (.bool true) := by
  simp only [Fi, WH] at h;obtain ⟨t, _, rfl, h1, w, _, rfl, h2, rfl⟩ := h;obtain ⟨_, _, e1, q1, n1⟩ := KN h1;obtain ⟨_, _, e2, q2, n2⟩ := KN h2;cases Rj n1; cases Rj n2;cases e1; cases e2;obtain ⟨ms, _, _, rfl⟩ := Rk q1;obtain ⟨nd, b1, b2, rfl⟩ := Rk q2;exact X2 ms nd ⟨b1, b2⟩

set_option maxRecDepth 100000 in
theorem lifted (os : Os) (started : os.Started) (H : Type) (enc : TypeId × Value → H) :
    ReturnsInHanded {} Tryz.checked os 3 .any (fun w args => (Rows.masterRulesSpec.pre enc Tryz.prog Tryz.f3 [] false w args ∧ laidMetH Tryz.prog xc w) ∧ sizedMet enc Tryz.prog Tryz.f3 (OpenSpec.ofChange Rows.masterRulesSpec) false w args)
      (Rows.masterRulesSpec.post enc Tryz.prog Tryz.f3 false true false false) := by
  refine returnsInHanded_of_change_and (C := Tryz.checked) (X := fun w _ => laidMetH Tryz.prog xc w) (fun _ _ _ hh h => h.of_heap hh) own started (by kernel_rfl) Tryz.func3
    (ChangeSpec.witness_shaped (enc := enc) (C := Tryz.checked) (os := os) (X := fun w _ => laidMetH Tryz.prog xc w) false (World.laidAll Tryz.prog os xc) #[.int .i64 0, .int .u8 0] 8 (World.laidAll_os _ _ _) (World.shaped_of_ZipB (by kernel_rfl) (by kernel_rfl)) (by kernel_rfl) (by kernel_rfl) (by kernel_rfl)
      (by rw [MakeChecks.laidMetH_plain _ _ _ (by kernel_rfl)]; exact laidMet_laidAll _ (by kernel_rfl) (by kernel_rfl))) ?_
  intro W base args ds gs before abI hW _ _ hL _;have Ti : ∀ (j : Nat) t v, Tryz.f3.params[j]? = some t → args[j]? = some v → Value.okWide Tryz.prog W .any base t v := abI;rw [Tryz.params3] at Ti;have hlen : ds.length = 2 ∧ args.size = 2 := by
    obtain ⟨p, q, hA, _⟩ := hW;have := pa hA;rw [Tryz.params3] at this;exact ⟨this.1, by simpa using this.2⟩
  have walk : Calls Tryz.prog 3 args W fun e W' => e = .returned (.bool true) ∧ Below W.heap.size W W' := by
    obtain ⟨p, q, hA, _⟩ := hW;rw [Tryz.params3] at hA;exact L1 (E := E0) (J3 := shs) (WW _ _ _) aeo Re rfl Rf (tables hL) (by kernel_rfl) hA (fun j t v a b => Ti j t v (by simpa using a) b) Rl
  refine walk.mono fun e W' ⟨he, hb⟩ => ?_;subst he;refine ⟨_, rfl, La (tb := 4) hW rfl (by kernel_rfl) Tryz.underlying4 laid ?_ ?_ hb⟩
  · intro t ht
    rw [Tryz.params3] at ht;simp at ht;rcases ht with rfl | rfl
    · exact ⟨by kernel_rfl, of_decide_eq_true (by kernel_rfl)⟩
    · exact ⟨by kernel_rfl, of_decide_eq_true (by kernel_rfl)⟩
  · match ds, hlen.1 with
    | [d0, d1], _ => rfl

theorem over : Rows.MasterRulesSaid :=
  OpenClaim.holds_of_wide 3 Tryz.f3 rfl rfl rfl rfl rfl rfl rfl ⟨rfl, rfl, rfl, rfl, rfl⟩ rfl rfl rfl rfl rfl named Tryz.func3 closed
    (of_decide_eq_true (by kernel_rfl)) (by unfold Func.isWrapper; first | (rw [if_pos (by decide +kernel)]; kernel_rfl) | (rw [if_neg (by decide +kernel)]; exact ⟨rfl, rfl⟩))
    (fun os started H enc _ => lifted os started H enc)

theorem Uw : Tryz.pinned.checked.prog.mainIs = some (true, "04d0e7d5e506cea72cbdce75d21d06b02be4c2018dcc488e7fd2cbd827486b4e".toList) := by kernel_rfl
theorem Rm : false = Tryz.prog.looks [] := by kernel_rfl
theorem Ux : false = Rows.masterRulesRow.goesBy Tryz.pinned.checked.prog := by kernel_rfl
theorem Uy : Rows.masterRulesRow.wfByText (OpenSpec.ofChange Rows.masterRulesSpec) = true := by kernel_rfl
theorem Rn : ([3, 5].all fun u => !Tryz.prog.wantsStandIn u) = true := by kernel_rfl
theorem proved : Rows.MasterRulesCardSaid :=
  Claim7.holds_tied_plain_at .later [] [.data] true (true, "04d0e7d5e506cea72cbdce75d21d06b02be4c2018dcc488e7fd2cbd827486b4e") false
    over (fun _ h => by cases h) Uy (fun _ h => by cases h) masterRules_row_tie rfl ⟨rfl, rfl⟩ Uw rfl
    (fun f fn hf Zk => by
      obtain rfl : f = 3 := Option.some.inj (named.symm.trans hf) |>.symm;obtain rfl : fn = Tryz.f3 := (Option.some.inj (Tryz.func3.symm.trans Zk)).symm;exact ⟨Rm, fun j t ht => by
        rw [Tryz.params3] at ht;have hm : t ∈ [3, 5] := by simpa using Array.mem_of_getElem? ht
        exact (show Tryz.prog.wantsStandIn t = false by simpa using List.all_eq_true.1 Rn t hm)⟩)
    Ux
end Go.Proofs.YthaboieeoopmjaaGreatDoor.masterRules
