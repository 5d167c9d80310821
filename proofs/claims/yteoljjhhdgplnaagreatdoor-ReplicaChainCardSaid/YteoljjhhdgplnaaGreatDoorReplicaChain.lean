/-
  ReplicaChain: catenary/catenarylaw23.ReplicaChain returns true for every input, and the input reads behind the call as it read before. The card: the table that the row lists is tied to the program's text.
-/
import Derived.Test.YteoljjhhdgplnaaGreatDoorRows
import Derived.Test.YteoljjhhdgplnaaGreatDoorCards
import Derived.Test.YteoljjhhdgplnaaGreatDoorTie
import Derived.LaidMore
import Derived.LaidLaws
import Derived.SevenTiedAt
import Derived.OpenShut
import Derived.Lay
import Derived.MakeChecks
import Derived.Test.YteoljjhhdgplnaaGreatDoorL30
import Derived.Test.YteoljjhhdgplnaaGreatDoorL29
import Derived.Test.YteoljjhhdgplnaaGreatDoorL31
import Derived.Test.YteoljjhhdgplnaaGreatDoorL32
namespace Go.Proofs.YteoljjhhdgplnaaGreatDoor.replicaChain
open Go Go.M Go.ChangeShapes Go.WideShapes Go.ChangeAt Go.RowKit

theorem laid : laidOutB Tryz.prog = true := SP
@[reducible] def vl : List (String × DataW Unit) := [("catenary/letter.kinds", Rows.laid_catenary_letter_kinds)]
theorem OV : YV Tryz.prog vl Ad = true := by kernel_rfl
theorem tables {W : World} (h : laidMetH Tryz.prog vl W) : xF Ad W := by
  rw [MakeChecks.laidMetH_plain _ _ _ (by kernel_rfl)] at h;exact OU OV h

@[reducible] def shP : List Sh := [.int .i64, .int .i64, .bool, .bool]
@[reducible] def shs : List uR := [⟨false, [.int .i64]⟩, ⟨false, [.sl shP]⟩]
theorem IF {α : Type} {enc : α → List TV} {ss : List Sh} (h : ∀ r, Fits ss r → ∃ a, r = enc a) : ∀ {es : List (List TV)}, (∀ r ∈ es, Fits ss r) → ∃ l : List α, es = l.map enc
  | [], _ => ⟨[], rfl⟩
  | r :: es, hr => by
    obtain ⟨a, rfl⟩ := h r (hr r List.mem_cons_self);obtain ⟨l, rfl⟩ := IF h (es := es) fun r ku => hr r (List.mem_cons_of_mem _ ku);exact ⟨a :: l, rfl⟩
theorem pZ {s : Sh} {ss : List Sh} {r : List TV} (h : Fits (s :: ss) r) : ∃ t r', r = t :: r' ∧ Fit s t ∧ Fits ss r' := by
  unfold Fits at h; exact h
theorem GV {r : List TV} (h : Fits [] r) : r = [] := by
  unfold Fits at h; exact h
theorem GW {k : IntKind} {t : TV} (h : Fit (.int k) t) : ∃ n, k.min ≤ n ∧ n ≤ k.max ∧ t = .s (.int k n) := by
  unfold Fit at h; exact h
theorem IG {t : TV} (h : Fit .bool t) : ∃ b, t = .s (.bool b) := by
  unfold Fit at h; exact h
theorem Ro {r : List TV} (h : Fits shP r) : ∃ o : IE, r = GS o := by
  obtain ⟨_, _, rfl, q1, g1⟩ := pZ h;obtain ⟨k, _, _, rfl⟩ := GW q1;obtain ⟨_, _, rfl, q2, g2⟩ := pZ g1;obtain ⟨i, _, _, rfl⟩ := GW q2;obtain ⟨_, _, rfl, q3, g3⟩ := pZ g2;obtain ⟨w, rfl⟩ := IG q3;obtain ⟨_, _, rfl, q4, g4⟩ := pZ g3;obtain ⟨b, rfl⟩ := IG q4;cases GV g4;exact ⟨⟨k, i, w, b⟩, rfl⟩
theorem OW (zQ : List TV) (h : DE shs zQ) : VC E0 4 0 zQ [] fun r _ _ => r = .s (.bool true) := by
  simp only [DE, Ul] at h;obtain ⟨t, _, rfl, h1, u, _, rfl, h3, rfl⟩ := h;obtain ⟨_, _, e1, q1, n1⟩ := pZ h1;obtain ⟨_, _, e3, q3, n3⟩ := pZ h3;cases GV n1; cases GV n3;cases e1; cases e3;obtain ⟨nn, _, _, rfl⟩ := GW q1;unfold Fit at q3;obtain ⟨es, _, EL, rfl⟩ := q3;obtain ⟨l, rfl⟩ := IF (fun r => Ro) EL;exact Vi nn l

set_option maxRecDepth 100000 in
theorem lifted (os : Os) (started : os.Started) (H : Type) (enc : TypeId × Value → H) :
    ReturnsInHanded {} Tryz.checked os 4 .any (fun w args => (Rows.replicaChainSpec.pre enc Tryz.prog Tryz.f4 [] false w args ∧ laidMetH Tryz.prog vl w) ∧ sizedMet enc Tryz.prog Tryz.f4 (OpenSpec.ofChange Rows.replicaChainSpec) false w args)
      (Rows.replicaChainSpec.post enc Tryz.prog Tryz.f4 false true false false) := by
  refine returnsInHanded_of_change_and (C := Tryz.checked) (X := fun w _ => laidMetH Tryz.prog vl w) (fun _ _ _ hh h => h.of_heap hh) own started (by kernel_rfl) Tryz.func4
    (ChangeSpec.witness_shaped (enc := enc) (C := Tryz.checked) (os := os) (X := fun w _ => laidMetH Tryz.prog vl w) false (World.laidAll Tryz.prog os vl) #[.int .i64 0, .slice none 0 0] 8 (World.laidAll_os _ _ _) (World.shaped_of_ZipB (by kernel_rfl) (by kernel_rfl)) (by kernel_rfl) (by kernel_rfl) (by kernel_rfl)
      (by rw [MakeChecks.laidMetH_plain _ _ _ (by kernel_rfl)]; exact laidMet_laidAll _ (by kernel_rfl) (by kernel_rfl))) ?_
  intro W base args ds gs before Y5 hW _ _ hL _;have Y6 : ∀ (j : Nat) t v, Tryz.f4.params[j]? = some t → args[j]? = some v → Value.okWide Tryz.prog W .any base t v := Y5;rw [Tryz.params4] at Y6;have hlen : ds.length = 2 ∧ args.size = 2 := by
    obtain ⟨p, q, hA, _⟩ := hW;have := oN hA;rw [Tryz.params4] at this;exact ⟨this.1, by simpa using this.2⟩
  have walk : Calls Tryz.prog 4 args W fun e W' => e = .returned (.bool true) ∧ Below W.heap.size W W' := by
    obtain ⟨p, q, hA, _⟩ := hW;rw [Tryz.params4] at hA;exact JJ (E := E0) (HV := shs) (qX _ _ _) ab7 GR rfl Ce (tables hL) (by kernel_rfl) hA (fun j t v a b => Y6 j t v (by simpa using a) b) OW
  refine walk.mono fun e W' ⟨he, hb⟩ => ?_;subst he;refine ⟨_, rfl, I1 (tb := 4) hW rfl (by kernel_rfl) Tryz.underlying4 laid ?_ ?_ hb⟩
  · intro t ht
    rw [Tryz.params4] at ht;simp at ht;rcases ht with rfl | rfl
    · exact ⟨by kernel_rfl, of_decide_eq_true (by kernel_rfl)⟩
    · exact ⟨by kernel_rfl, of_decide_eq_true (by kernel_rfl)⟩
  · match ds, hlen.1 with
    | [d0, d1], _ => rfl

theorem over : Rows.ReplicaChainSaid :=
  OpenClaim.holds_of_wide 4 Tryz.f4 rfl rfl rfl rfl rfl rfl rfl ⟨rfl, rfl, rfl, rfl, rfl⟩ rfl rfl rfl rfl rfl named Tryz.func4 closed
    (of_decide_eq_true (by kernel_rfl)) (by unfold Func.isWrapper; first | (rw [if_pos (by decide +kernel)]; kernel_rfl) | (rw [if_neg (by decide +kernel)]; exact ⟨rfl, rfl⟩))
    (fun os started H enc _ => lifted os started H enc)

theorem Rp : Tryz.pinned.checked.prog.mainIs = some (true, "7f72a9d1ab64ec01a0f426fe8333482c9ba75fd30fe4540b5ccd682ccd0df1ab".toList) := by kernel_rfl
theorem OX : false = Tryz.prog.looks [] := by kernel_rfl
theorem Rq : false = Rows.replicaChainRow.goesBy Tryz.pinned.checked.prog := by kernel_rfl
theorem Rr : Rows.replicaChainRow.wfByText (OpenSpec.ofChange Rows.replicaChainSpec) = true := by kernel_rfl
theorem OY : ([3, 50].all fun u => !Tryz.prog.wantsStandIn u) = true := by kernel_rfl
theorem proved : Rows.ReplicaChainCardSaid :=
  Claim7.holds_tied_plain_at .later [] [.data] true (true, "7f72a9d1ab64ec01a0f426fe8333482c9ba75fd30fe4540b5ccd682ccd0df1ab") false
    over (fun _ h => by cases h) Rr (fun _ h => by cases h) replicaChain_row_tie rfl ⟨rfl, rfl⟩ Rp rfl
    (fun f fn hf WK => by
      obtain rfl : f = 4 := Option.some.inj (named.symm.trans hf) |>.symm;obtain rfl : fn = Tryz.f4 := (Option.some.inj (Tryz.func4.symm.trans WK)).symm;exact ⟨OX, fun j t ht => by
        rw [Tryz.params4] at ht;have hm : t ∈ [3, 50] := by simpa using Array.mem_of_getElem? ht
        exact (show Tryz.prog.wantsStandIn t = false by simpa using List.all_eq_true.1 OY t hm)⟩)
    Rq
end Go.Proofs.YteoljjhhdgplnaaGreatDoor.replicaChain
