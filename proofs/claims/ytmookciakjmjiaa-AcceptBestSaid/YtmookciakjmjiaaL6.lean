/-
  Part 6 of the library that the proof leans on.
-/
import Derived.KernelRfl
import Derived.Test.YtmookciakjmjiaaL5
namespace Go.M
open Go Go.Proofs
set_option maxRecDepth 100000
def checkS (k ch ep nd : Int) : Int := if k < 0 ∨ k ≥ 5 then 1 else if k = 0 then (if ch ≠ 0 ∨ ep ≠ 0 ∨ nd ≠ 0 then 4 else 0) else if ch < 0 ∨ ch ≥ 4 ∨ ep < 1 ∨ nd < 1 ∨ nd > 24 then 4 else 0
@[reducible] def cmdT (k ch ep nd : Int) : TV := .agg [.s (.int .i64 k), .s (.int .i64 ch), .s (.int .u64 ep), .s (.int .i64 nd)]
theorem check_ok (k ch ep nd : Int) : VC E0 70 0 [cmdT k ch ep nd] [] (RR (.s (.int .i64 (checkS k ch ep nd))) 0 []) := by
  refine VC.enterR L0 (show E0.func 70 = some Try.f70 by kernel_rfl) (fun _ _ => rfl) rfl rfl [] ?_
  ((conv => whnf) <;> repeat ((with_reducible refine Drawn.mk (by kernel_rfl) ?_) <;> conv => whnf))
  repeat' (first | ((first | (refine ⟨fun h => ?_, fun h => ?_⟩) | (refine nsplit (fun h => ?_) (fun h => ?_)) | (refine bsplit (fun h => ?_) (fun h => ?_))) <;> ((conv => whnf) <;> repeat ((with_reducible refine Drawn.mk (by kernel_rfl) ?_) <;> conv => whnf))))
  all_goals (refine ⟨[], [], [], _, _, ⟨?_, .nil, rfl⟩, rfl, rfl, rfl⟩)
  all_goals (refine .s (Lz.int ?_); simp [veq1, checkS] at *; grind)
theorem refCheck_ok (k ch ep nd : Int) (he : 0 ≤ ep) : VC E0 66 0 [cmdT k ch ep nd] [] (RR (.s (.int .i64 (checkS k ch ep nd))) 0 []) := by
  refine VC.enterR L0 (show E0.func 66 = some Try.f66 by kernel_rfl) (fun _ _ => rfl) rfl rfl [] ?_
  ((conv => whnf) <;> repeat ((with_reducible refine Drawn.mk (by kernel_rfl) ?_) <;> conv => whnf))
  repeat' (first | ((first | (refine ⟨fun h => ?_, fun h => ?_⟩) | (refine nsplit (fun h => ?_) (fun h => ?_)) | (refine bsplit (fun h => ?_) (fun h => ?_))) <;> ((conv => whnf) <;> repeat ((with_reducible refine Drawn.mk (by kernel_rfl) ?_) <;> conv => whnf))))
  all_goals (refine ⟨[], [], [], _, _, ⟨?_, .nil, rfl⟩, rfl, rfl, rfl⟩)
  all_goals (refine .s (Lz.int ?_); simp [checkS] at *; grind)
end Go.M

namespace Go.M
open Go Go.Proofs
set_option maxRecDepth 100000
noncomputable def eqB {α : Type} (a b : α) : Bool := @decide (a = b) (Classical.propDecidable _)
theorem eqB_iff {α : Type} {a b : α} : eqB a b = true ↔ a = b := by unfold eqB; simp
theorem eqB_false {α : Type} {a b : α} : eqB a b = false ↔ a ≠ b := by unfold eqB; simp
theorem refMaster_ok (n : Int) : VC E0 154 0 [.s (.int .i64 n)] [] (RR (.s (.bool (isMaster n))) 0 []) := by
  refine VC.enterR L0 (show E0.func 154 = some Try.f154 by kernel_rfl) (fun _ _ => rfl) rfl rfl [] ?_
  ((conv => whnf) <;> repeat ((with_reducible refine Drawn.mk (by kernel_rfl) ?_) <;> conv => whnf))
  repeat' (first | ((first | (refine ⟨fun h => ?_, fun h => ?_⟩) | (refine nsplit (fun h => ?_) (fun h => ?_)) | (refine bsplit (fun h => ?_) (fun h => ?_))) <;> ((conv => whnf) <;> repeat ((with_reducible refine Drawn.mk (by kernel_rfl) ?_) <;> conv => whnf))))
  all_goals (refine ⟨[], [], [], _, _, ⟨?_, .nil, rfl⟩, rfl, rfl, rfl⟩)
  all_goals (refine .s (Lz.of (bool_eq ?_)); simp [isMaster, *]; try omega)
def refOfS (r w : Int) : Int × Int := if r < 1 ∨ r > 1152921504606846975 ∨ isMaster w = false then (0, 1) else (IntKind.u64.wrap (IntKind.u64.wrap (r * 8) + IntKind.u64.wrap w), 0)
theorem refOf_ok (r w : Int) : VC E0 150 0 [.s (.int .u64 r), .s (.int .i64 w)] [] (RR (.tup [.s (.int .u64 (refOfS r w).1), .s (.int .i64 (refOfS r w).2)]) 0 []) := by
  refine VC.enterR L0 (show E0.func 150 = some Try.f150 by kernel_rfl) (fun _ _ => rfl) rfl rfl [] ?_
  ((conv => whnf) <;> repeat ((with_reducible refine Drawn.mk (by kernel_rfl) ?_) <;> conv => whnf))
  (first | (refine ⟨fun h1 => ?_, fun h1 => ?_⟩) | (refine nsplit (fun h1 => ?_) (fun h1 => ?_)) | (refine bsplit (fun h1 => ?_) (fun h1 => ?_))) <;> have hz_ := True.intro <;> clear hz_
  · ((conv => whnf) <;> repeat ((with_reducible refine Drawn.mk (by kernel_rfl) ?_) <;> conv => whnf))
    refine ⟨[], [], ?_⟩
    iterate 3 constructor
    refine ⟨⟨?_, ?_, ?_⟩, rfl, rfl, rfl⟩
    all_goals (repeat' (first | (with_reducible exact Lz.rfl) | (exact Lw.rfl) | (exact Lz.wrap (by omega)) | ((unfold goInt); (with_reducible exact Lz.rfl)) | constructor))
    all_goals (refine Lz.int ?_; unfold refOfS; grind)
  · ((conv => whnf) <;> repeat ((with_reducible refine Drawn.mk (by kernel_rfl) ?_) <;> conv => whnf))
    (first | (refine ⟨fun h2 => ?_, fun h2 => ?_⟩) | (refine nsplit (fun h2 => ?_) (fun h2 => ?_)) | (refine bsplit (fun h2 => ?_) (fun h2 => ?_))) <;> have hz_ := True.intro <;> clear hz_
    · ((conv => whnf) <;> repeat ((with_reducible refine Drawn.mk (by kernel_rfl) ?_) <;> conv => whnf))
      refine ⟨[], [], ?_⟩
      iterate 3 constructor
      refine ⟨⟨?_, ?_, ?_⟩, rfl, rfl, rfl⟩
      all_goals (repeat' (first | (with_reducible exact Lz.rfl) | (exact Lw.rfl) | (exact Lz.wrap (by omega)) | ((unfold goInt); (with_reducible exact Lz.rfl)) | constructor))
      all_goals (refine Lz.int ?_; unfold refOfS; grind)
    · ((conv => whnf) <;> repeat ((with_reducible refine Drawn.mk (by kernel_rfl) ?_) <;> conv => whnf))
      refine ⟨[], [], _, _, _, _, refMaster_ok w, ⟨by (repeat' (first | (with_reducible exact Lz.rfl) | (exact Lw.rfl) | (exact Lz.wrap (by omega)) | ((unfold goInt); (with_reducible exact Lz.rfl)) | constructor)), by (repeat' (first | (with_reducible exact Lz.rfl) | (exact Lw.rfl) | (exact Lz.wrap (by omega)) | ((unfold goInt); (with_reducible exact Lz.rfl)) | constructor)), by rfl⟩, ?_⟩
      rintro r o' c' ⟨rfl, rfl, rfl⟩
      ((conv => whnf) <;> repeat ((with_reducible refine Drawn.mk (by kernel_rfl) ?_) <;> conv => whnf))
      (first | (refine ⟨fun h3 => ?_, fun h3 => ?_⟩) | (refine nsplit (fun h3 => ?_) (fun h3 => ?_)) | (refine bsplit (fun h3 => ?_) (fun h3 => ?_))) <;> have hz_ := True.intro <;> clear hz_
      · ((conv => whnf) <;> repeat ((with_reducible refine Drawn.mk (by kernel_rfl) ?_) <;> conv => whnf))
        refine ⟨[], [], ?_⟩
        iterate 3 constructor
        refine ⟨⟨?_, ?_, ?_⟩, rfl, rfl, rfl⟩
        all_goals (repeat' (first | (with_reducible exact Lz.rfl) | (exact Lw.rfl) | (exact Lz.wrap (by omega)) | ((unfold goInt); (with_reducible exact Lz.rfl)) | constructor))
        all_goals (refine Lz.int ?_; unfold refOfS; grind)
      · ((conv => whnf) <;> repeat ((with_reducible refine Drawn.mk (by kernel_rfl) ?_) <;> conv => whnf))
        refine ⟨[], [], ?_⟩
        iterate 3 constructor
        refine ⟨⟨?_, ?_, ?_⟩, rfl, rfl, rfl⟩
        all_goals (repeat' (first | (with_reducible exact Lz.rfl) | (exact Lw.rfl) | (exact Lz.wrap (by omega)) | ((unfold goInt); (with_reducible exact Lz.rfl)) | constructor))
        all_goals (refine Lz.int ?_; unfold refOfS; grind)
theorem refIs_ok (b : Int) : VC E0 121 0 [.s (.int .u64 b)] [] (RR (.s (.bool (isBallot b))) 0 []) := by
  refine VC.enterR L0 (show E0.func 121 = some Try.f121 by kernel_rfl) (fun _ _ => rfl) rfl rfl [] ?_
  ((conv => whnf) <;> repeat ((with_reducible refine Drawn.mk (by kernel_rfl) ?_) <;> conv => whnf))
  refine ⟨[], [], _, _, _, _, refOf_ok (IntKind.u64.wrap (b.tdiv 8)) (IntKind.i64.wrap (b.tmod 8)), ⟨by (repeat' (first | (with_reducible exact Lz.rfl) | (exact Lw.rfl) | (exact Lz.wrap (by omega)) | ((unfold goInt); (with_reducible exact Lz.rfl)) | constructor)), by (repeat' (first | (with_reducible exact Lz.rfl) | (exact Lw.rfl) | (exact Lz.wrap (by omega)) | ((unfold goInt); (with_reducible exact Lz.rfl)) | constructor)), by rfl⟩, ?_⟩
  rintro r o' c' ⟨rfl, rfl, rfl⟩
  ((conv => whnf) <;> repeat ((with_reducible refine Drawn.mk (by kernel_rfl) ?_) <;> conv => whnf))
  repeat' (first | ((first | (refine ⟨fun h => ?_, fun h => ?_⟩) | (refine nsplit (fun h => ?_) (fun h => ?_)) | (refine bsplit (fun h => ?_) (fun h => ?_))) <;> ((conv => whnf) <;> repeat ((with_reducible refine Drawn.mk (by kernel_rfl) ?_) <;> conv => whnf))))
  all_goals (refine ⟨[], [], [], _, _, ⟨?_, .nil, rfl⟩, rfl, rfl, rfl⟩)
  all_goals (refine .s (Lz.of (bool_eq ?_)); unfold isBallot; unfold refOfS at *; grind)
theorem refAt_ok (l : List Vote) (n : Int) (hl : l.length < 1000000) : VC E0 37 0 [.sl 6 (l.map encV) false, .s (.int .i64 n)] [] (RR (.tup [.agg (encV ((atS l n).getD noVote)), .s (.bool (atS l n).isSome)]) 0 []) := by
  refine VC.enterR L0 (show E0.func 37 = some Try.f37 by kernel_rfl) (fun _ _ => rfl) rfl rfl [] ?_
  ((conv => whnf) <;> repeat ((with_reducible refine Drawn.mk (by kernel_rfl) ?_) <;> conv => whnf))
  refine ⟨fun k f o c => ∃ i : Nat, i ≤ l.length ∧ k = l.length - i ∧ atS l n = atS (l.drop i) n ∧ c = 1 ∧ f = [(0, .sl 6 (l.map encV) false), (1, .s (.int .i64 n)), (4, .ptr 0 0), (6, .s (.int .i64 i))] ∧ o = [(0, .cells (encV noVote))], ⟨l.length, ?_⟩, ?_⟩
  · refine ⟨[], [some 0], ?_⟩
    iterate 3 constructor
    refine ⟨⟨?_, ?_, ?_⟩, ⟨0, Nat.zero_le _, rfl, rfl, rfl, rfl, rfl⟩⟩
    all_goals (repeat' (first | (with_reducible exact Lz.rfl) | (exact Lw.rfl) | (exact Lz.wrap (by omega)) | ((unfold goInt); (with_reducible exact Lz.rfl)) | constructor))
  · rintro k f1 o1 c1 ⟨i, hi, rfl, ha, rfl, rfl, rfl⟩
    ((conv => whnf) <;> repeat ((with_reducible refine Drawn.mk (by kernel_rfl) ?_) <;> conv => whnf))
    (first | (refine ⟨fun h => ?_, fun h => ?_⟩) | (refine nsplit (fun h => ?_) (fun h => ?_)) | (refine bsplit (fun h => ?_) (fun h => ?_))) <;> have hz_ := True.intro <;> clear hz_
    · have h := lenlt.1 h
      have hd : l.drop i = l[i] :: l.drop (i + 1) := List.drop_eq_getElem_cons h
      ((conv => whnf) <;> repeat ((with_reducible refine Drawn.mk (by kernel_rfl) ?_) <;> conv => whnf))
      refine idxI h ?_
      ((conv => whnf) <;> repeat ((with_reducible refine Drawn.mk (by kernel_rfl) ?_) <;> conv => whnf))
      (first | (refine ⟨fun hs => ?_, fun hs => ?_⟩) | (refine nsplit (fun hs => ?_) (fun hs => ?_)) | (refine bsplit (fun hs => ?_) (fun hs => ?_))) <;> have hz_ := True.intro <;> clear hz_
      · ((conv => whnf) <;> repeat ((with_reducible refine Drawn.mk (by kernel_rfl) ?_) <;> conv => whnf))
        refine idxI h ?_
        ((conv => whnf) <;> repeat ((with_reducible refine Drawn.mk (by kernel_rfl) ?_) <;> conv => whnf))
        have : atS l n = some l[i] := by rw [ha, hd, atS, List.find?_cons]; simp [hs, atS]
        rw [this]
        refine ⟨[], [], ?_⟩
        iterate 3 constructor
        refine ⟨⟨?_, ?_, ?_⟩, rfl, rfl, rfl⟩
        all_goals (repeat' (first | (with_reducible exact Lz.rfl) | (exact Lw.rfl) | (exact Lz.wrap (by omega)) | ((unfold goInt); (with_reducible exact Lz.rfl)) | constructor))
      · ((conv => whnf) <;> repeat ((with_reducible refine Drawn.mk (by kernel_rfl) ?_) <;> conv => whnf))
        refine ⟨l.length - (i + 1), ?_, by omega⟩
        refine ⟨[], [some 0], ?_⟩
        iterate 3 constructor
        refine ⟨⟨?_, ?_, ?_⟩, ⟨i + 1, h, rfl, by rw [ha, hd, atS, List.find?_cons]; simp [hs, atS]; rw [show (l[i].slot == n) = false by simp [hs]], rfl, rfl, rfl⟩⟩
        all_goals (repeat' (first | (with_reducible exact Lz.rfl) | (exact Lw.rfl) | (exact Lz.wrap (by omega)) | ((unfold goInt); (with_reducible exact Lz.rfl)) | constructor))
    · have h := mt lenlt.2 h
      ((conv => whnf) <;> repeat ((with_reducible refine Drawn.mk (by kernel_rfl) ?_) <;> conv => whnf))
      have : atS l n = none := by rw [ha, List.drop_eq_nil_of_le (by omega)]; rfl
      rw [this]
      refine ⟨[], [], ?_⟩
      iterate 3 constructor
      refine ⟨⟨?_, ?_, ?_⟩, rfl, rfl, rfl⟩
      all_goals (repeat' (first | (with_reducible exact Lz.rfl) | (exact Lw.rfl) | (exact Lz.wrap (by omega)) | ((unfold goInt); (with_reducible exact Lz.rfl)) | constructor))
def frmS (l : List Vote) (frm : Int) : List Vote := l.filter fun v => decide (frm ≤ v.slot)
theorem take_snoc {α : Type} (l : List α) (i : Nat) (h : i < l.length) : l.take (i + 1) = l.take i ++ [l[i]] := by rw [List.take_succ_eq_append_getElem h]
theorem frmS_snoc (l : List Vote) (frm : Int) (i : Nat) (h : i < l.length) : frmS (l.take (i + 1)) frm = frmS (l.take i) frm ++ (if frm ≤ l[i].slot then [l[i]] else []) := by
  unfold frmS
  rw [List.take_succ_eq_append_getElem h, List.filter_append]
  congr 1
  by_cases hf : frm ≤ l[i].slot <;> simp [hf]
theorem refFrom_ok (l : List Vote) (frm : Int) (hl : l.length < 1000000) : VC E0 42 0 [.sl 6 (l.map encV) false, .s (.int .i64 frm)] [] (RR (.sl 6 ((frmS l frm).map encV) false) 0 []) := by
  refine VC.enterR L0 (show E0.func 42 = some Try.f42 by kernel_rfl) (fun _ _ => rfl) rfl rfl [] ?_
  ((conv => whnf) <;> repeat ((with_reducible refine Drawn.mk (by kernel_rfl) ?_) <;> conv => whnf))
  refine ⟨fun k f o c => ∃ i : Nat, i ≤ l.length ∧ k = l.length - i ∧ c = 1 ∧ f = [(0, .sl 6 (l.map encV) false), (1, .s (.int .i64 frm)), (5, .tk 0), (6, .s (.int .i64 i))] ∧ o = [(0, .arr 6 true ((frmS (l.take i) frm).map encV))], ⟨l.length, ?_⟩, ?_⟩
  · refine ⟨[], [none], ?_⟩
    iterate 3 constructor
    refine ⟨⟨?_, ?_, ?_⟩, ⟨0, Nat.zero_le _, rfl, rfl, rfl, rfl⟩⟩
    all_goals (repeat' (first | (with_reducible exact Lz.rfl) | (exact Lw.rfl) | (exact Lz.wrap (by omega)) | ((unfold goInt); (with_reducible exact Lz.rfl)) | constructor))
  · rintro k f1 o1 c1 ⟨i, hi, rfl, rfl, rfl, rfl⟩
    ((conv => whnf) <;> repeat ((with_reducible refine Drawn.mk (by kernel_rfl) ?_) <;> conv => whnf))
    (first | (refine ⟨fun h => ?_, fun h => ?_⟩) | (refine nsplit (fun h => ?_) (fun h => ?_)) | (refine bsplit (fun h => ?_) (fun h => ?_))) <;> have hz_ := True.intro <;> clear hz_
    · have h := lenlt.1 h
      have hd := take_snoc l i h
      ((conv => whnf) <;> repeat ((with_reducible refine Drawn.mk (by kernel_rfl) ?_) <;> conv => whnf))
      refine idxI h ?_
      ((conv => whnf) <;> repeat ((with_reducible refine Drawn.mk (by kernel_rfl) ?_) <;> conv => whnf))
      (first | (refine ⟨fun hs => ?_, fun hs => ?_⟩) | (refine nsplit (fun hs => ?_) (fun hs => ?_)) | (refine bsplit (fun hs => ?_) (fun hs => ?_))) <;> have hz_ := True.intro <;> clear hz_
      · ((conv => whnf) <;> repeat ((with_reducible refine Drawn.mk (by kernel_rfl) ?_) <;> conv => whnf))
        refine idxI h ?_
        ((conv => whnf) <;> repeat ((with_reducible refine Drawn.mk (by kernel_rfl) ?_) <;> conv => whnf))
        have hle : (frmS (l.take i) frm).length ≤ i := Nat.le_trans (List.length_filter_le _ _) (by simp; omega)
        refine ⟨by simp; omega, ?_⟩
        ((conv => whnf) <;> repeat ((with_reducible refine Drawn.mk (by kernel_rfl) ?_) <;> conv => whnf))
        refine ⟨l.length - (i + 1), ?_, by omega⟩
        refine ⟨[], [some 2], ?_⟩
        iterate 3 constructor
        refine ⟨⟨?_, ?_, ?_⟩, ⟨i + 1, h, rfl, rfl, rfl, rfl⟩⟩
        all_goals (repeat' (first | (with_reducible exact Lz.rfl) | (exact Lw.rfl) | (exact Lz.wrap (by omega)) | ((unfold goInt); (with_reducible exact Lz.rfl)) | constructor))
        · rw [frmS_snoc l frm i h, if_pos hs, List.map_append]; exact Lz.rfl
      · ((conv => whnf) <;> repeat ((with_reducible refine Drawn.mk (by kernel_rfl) ?_) <;> conv => whnf))
        refine ⟨l.length - (i + 1), ?_, by omega⟩
        refine ⟨[], [some 0], ?_⟩
        iterate 3 constructor
        refine ⟨⟨?_, ?_, ?_⟩, ⟨i + 1, h, rfl, rfl, rfl, rfl⟩⟩
        all_goals (repeat' (first | (with_reducible exact Lz.rfl) | (exact Lw.rfl) | (exact Lz.wrap (by omega)) | ((unfold goInt); (with_reducible exact Lz.rfl)) | constructor))
        · rw [frmS_snoc l frm i h, if_neg hs, List.append_nil]; exact Lz.rfl
    · have h := mt lenlt.2 h
      ((conv => whnf) <;> repeat ((with_reducible refine Drawn.mk (by kernel_rfl) ?_) <;> conv => whnf))
      have : l.take i = l := List.take_of_length_le (by omega)
      rw [this]
      refine ⟨[0], [], ?_⟩
      iterate 3 constructor
      refine ⟨⟨?_, ?_, ?_⟩, rfl, rfl, rfl⟩
      all_goals (repeat' (first | (with_reducible exact Lz.rfl) | (exact Lw.rfl) | (exact Lz.wrap (by omega)) | ((unfold goInt); (with_reducible exact Lz.rfl)) | constructor))
end Go.M

namespace Go.M
open Go Go.Proofs
set_option maxRecDepth 100000
def restP (v : Vote) : List Vote → List Vote
  | [] => []
  | x :: r => if x.slot = v.slot then r else x :: r
theorem put_at (v : Vote) : ∀ (l : List Vote) (i : Nat), i ≤ l.length → (∀ x ∈ l.take i, x.slot < v.slot) → (∀ x, l[i]? = some x → ¬ x.slot < v.slot) → put l v = l.take i ++ v :: restP v (l.drop i)
  | [], i, hi, _, _ => by simp at hi; subst hi; simp [put, restP]
  | y :: l, 0, _, _, hx => by
    have := hx y rfl
    unfold put restP
    simp only [List.take_zero, List.nil_append, List.drop_zero]
    split
    · exact absurd ‹_› this
    · split <;> rfl
  | y :: l, i + 1, hi, hlt, hx => by
    have h1 := hlt y (by simp)
    have := put_at v l i (by simpa using hi) (fun x hx' => hlt x (by simp [hx'])) (fun x hx' => hx x (by simpa using hx'))
    unfold put
    rw [if_pos h1, this]
    simp
theorem refPut_ok (l : List Vote) (v : Vote) (hl : l.length < 1000) : VC E0 69 0 [.sl 6 (l.map encV) false, .agg (encV v)] [] (RR (.sl 6 ((put l v).map encV) false) 0 []) := by
  refine VC.enterR L0 (show E0.func 69 = some Try.f69 by kernel_rfl) (fun _ _ => rfl) rfl rfl [0] ?_
  ((conv => whnf) <;> repeat ((with_reducible refine Drawn.mk (by kernel_rfl) ?_) <;> conv => whnf))
  refine ⟨fun f o c => ∃ i : Nat, i ≤ l.length ∧ (∀ x ∈ l.take i, x.slot < v.slot) ∧ (∀ x, l[i]? = some x → ¬ x.slot < v.slot) ∧ c = 2 ∧ f = [(0, .sl 6 (l.map encV) false), (3, .ptr 0 0), (5, .tk 1), (6, .s (.int .i64 i))] ∧ o = [(0, .cells (encV v)), (1, .arr 6 true ((l.take i).map encV))], ?_, ?_⟩
  · ((conv => whnf) <;> repeat ((with_reducible refine Drawn.mk (by kernel_rfl) ?_) <;> conv => whnf))
    refine ⟨fun k f o c => ∃ i : Nat, i ≤ l.length ∧ (∀ x ∈ l.take i, x.slot < v.slot) ∧ k = l.length - i ∧ c = 2 ∧ f = [(0, .sl 6 (l.map encV) false), (3, .ptr 0 0), (5, .tk 1), (6, .s (.int .i64 i))] ∧ o = [(0, .cells (encV v)), (1, .arr 6 true ((l.take i).map encV))], ⟨l.length, ?_⟩, ?_⟩
    · refine ⟨[], [some 0, none], ?_⟩
      iterate 3 constructor
      refine ⟨⟨?_, ?_, ?_⟩, ⟨0, Nat.zero_le _, by simp, rfl, rfl, rfl, rfl⟩⟩
      all_goals (repeat' (first | (with_reducible exact Lz.rfl) | (exact Lw.rfl) | (exact Lz.wrap (by omega)) | ((unfold goInt); (with_reducible exact Lz.rfl)) | constructor))
    · rintro k f1 o1 c1 ⟨i, hi, hlt, rfl, rfl, rfl, rfl⟩
      ((conv => whnf) <;> repeat ((with_reducible refine Drawn.mk (by kernel_rfl) ?_) <;> conv => whnf))
      (first | (refine ⟨fun h => ?_, fun h => ?_⟩) | (refine nsplit (fun h => ?_) (fun h => ?_)) | (refine bsplit (fun h => ?_) (fun h => ?_))) <;> have hz_ := True.intro <;> clear hz_
      · have h := lenlt.1 h
        have hd := take_snoc l i h
        ((conv => whnf) <;> repeat ((with_reducible refine Drawn.mk (by kernel_rfl) ?_) <;> conv => whnf))
        refine idxI h ?_
        ((conv => whnf) <;> repeat ((with_reducible refine Drawn.mk (by kernel_rfl) ?_) <;> conv => whnf))
        (first | (refine ⟨fun hs => ?_, fun hs => ?_⟩) | (refine nsplit (fun hs => ?_) (fun hs => ?_)) | (refine bsplit (fun hs => ?_) (fun hs => ?_))) <;> have hz_ := True.intro <;> clear hz_
        · ((conv => whnf) <;> repeat ((with_reducible refine Drawn.mk (by kernel_rfl) ?_) <;> conv => whnf))
          refine idxI h ?_
          ((conv => whnf) <;> repeat ((with_reducible refine Drawn.mk (by kernel_rfl) ?_) <;> conv => whnf))
          refine ⟨by simp; omega, ?_⟩
          ((conv => whnf) <;> repeat ((with_reducible refine Drawn.mk (by kernel_rfl) ?_) <;> conv => whnf))
          refine ⟨l.length - (i + 1), ?_, by omega⟩
          refine ⟨[], [some 0, some 3], ?_⟩
          iterate 3 constructor
          refine ⟨⟨?_, ?_, ?_⟩, ⟨i + 1, h, by intro x hx; rw [hd] at hx; rcases List.mem_append.1 hx with h1 | h1; exact hlt x h1; simp at h1; subst h1; exact hs, rfl, rfl, rfl, rfl⟩⟩
          all_goals (repeat' (first | (with_reducible exact Lz.rfl) | (exact Lw.rfl) | (exact Lz.wrap (by omega)) | ((unfold goInt); (with_reducible exact Lz.rfl)) | constructor))
          rw [hd, List.map_append]; exact Lz.rfl
        · ((conv => whnf) <;> repeat ((with_reducible refine Drawn.mk (by kernel_rfl) ?_) <;> conv => whnf))
          refine ⟨[], [some 0, some 1], ?_⟩
          iterate 3 constructor
          refine ⟨⟨?_, ?_, ?_⟩, ⟨i, hi, hlt, fun x hx => by rw [List.getElem?_eq_getElem h] at hx; cases hx; exact hs, rfl, rfl, rfl⟩⟩
          all_goals (repeat' (first | (with_reducible exact Lz.rfl) | (exact Lw.rfl) | (exact Lz.wrap (by omega)) | ((unfold goInt); (with_reducible exact Lz.rfl)) | constructor))
      · have h := mt lenlt.2 h
        ((conv => whnf) <;> repeat ((with_reducible refine Drawn.mk (by kernel_rfl) ?_) <;> conv => whnf))
        refine ⟨[], [some 0, some 1], ?_⟩
        iterate 3 constructor
        refine ⟨⟨?_, ?_, ?_⟩, ⟨i, hi, hlt, fun x hx => (by rw [List.getElem?_eq_none (by omega)] at hx; cases hx), rfl, rfl, rfl⟩⟩
        all_goals (repeat' (first | (with_reducible exact Lz.rfl) | (exact Lw.rfl) | (exact Lz.wrap (by omega)) | ((unfold goInt); (with_reducible exact Lz.rfl)) | constructor))
  · rintro f1 o1 c1 ⟨i, hi, hlt, hx, rfl, rfl, rfl⟩
    have hp := put_at v l i hi hlt hx
    ((conv => whnf) <;> repeat ((with_reducible refine Drawn.mk (by kernel_rfl) ?_) <;> conv => whnf))
    refine ⟨by simp; omega, ?_⟩
    ((conv => whnf) <;> repeat ((with_reducible refine Drawn.mk (by kernel_rfl) ?_) <;> conv => whnf))
    (first | (refine ⟨fun h => ?_, fun h => ?_⟩) | (refine nsplit (fun h => ?_) (fun h => ?_)) | (refine bsplit (fun h => ?_) (fun h => ?_))) <;> have hz_ := True.intro <;> clear hz_
    · have h := lenlt.1 h
      have hdr : l.drop i = l[i] :: l.drop (i + 1) := List.drop_eq_getElem_cons h
      ((conv => whnf) <;> repeat ((with_reducible refine Drawn.mk (by kernel_rfl) ?_) <;> conv => whnf))
      refine idxI h ?_
      ((conv => whnf) <;> repeat ((with_reducible refine Drawn.mk (by kernel_rfl) ?_) <;> conv => whnf))
      (first | (refine ⟨fun hs => ?_, fun hs => ?_⟩) | (refine nsplit (fun hs => ?_) (fun hs => ?_)) | (refine bsplit (fun hs => ?_) (fun hs => ?_))) <;> have hz_ := True.intro <;> clear hz_
      · ((conv => whnf) <;> repeat ((with_reducible refine Drawn.mk (by kernel_rfl) ?_) <;> conv => whnf))
        rw [wrap_small i (by omega)]
        refine ⟨⟨by omega, by simp; omega, by simp⟩, ?_⟩
        ((conv => whnf) <;> repeat ((with_reducible refine Drawn.mk (by kernel_rfl) ?_) <;> conv => whnf))
        refine ⟨by simp; omega, ?_⟩
        ((conv => whnf) <;> repeat ((with_reducible refine Drawn.mk (by kernel_rfl) ?_) <;> conv => whnf))
        refine ⟨[4], [], ?_⟩
        iterate 3 constructor
        refine ⟨⟨?_, ?_, ?_⟩, rfl, rfl, rfl⟩
        all_goals (repeat' (first | (with_reducible exact Lz.rfl) | (exact Lw.rfl) | (exact Lz.wrap (by omega)) | ((unfold goInt); (with_reducible exact Lz.rfl)) | constructor))
        refine Lz.of ?_; rw [hp, hdr]; simp [restP, hs]; exact ⟨rfl, by rw [List.take_of_length_le (by simp)]⟩
      · ((conv => whnf) <;> repeat ((with_reducible refine Drawn.mk (by kernel_rfl) ?_) <;> conv => whnf))
        refine ⟨⟨by omega, by simp; omega, by simp⟩, ?_⟩
        ((conv => whnf) <;> repeat ((with_reducible refine Drawn.mk (by kernel_rfl) ?_) <;> conv => whnf))
        refine ⟨by simp; omega, ?_⟩
        ((conv => whnf) <;> repeat ((with_reducible refine Drawn.mk (by kernel_rfl) ?_) <;> conv => whnf))
        refine ⟨[4], [], ?_⟩
        iterate 3 constructor
        refine ⟨⟨?_, ?_, ?_⟩, rfl, rfl, rfl⟩
        all_goals (repeat' (first | (with_reducible exact Lz.rfl) | (exact Lw.rfl) | (exact Lz.wrap (by omega)) | ((unfold goInt); (with_reducible exact Lz.rfl)) | constructor))
        refine Lz.of ?_; rw [hp, hdr]; simp [restP, hs]; exact ⟨rfl, by rw [List.take_of_length_le (by simp)]⟩
    · have h := mt lenlt.2 h
      ((conv => whnf) <;> repeat ((with_reducible refine Drawn.mk (by kernel_rfl) ?_) <;> conv => whnf))
      refine ⟨⟨by omega, by simp; omega, by simp⟩, ?_⟩
      ((conv => whnf) <;> repeat ((with_reducible refine Drawn.mk (by kernel_rfl) ?_) <;> conv => whnf))
      refine ⟨by simp; omega, ?_⟩
      ((conv => whnf) <;> repeat ((with_reducible refine Drawn.mk (by kernel_rfl) ?_) <;> conv => whnf))
      refine ⟨[4], [], ?_⟩
      iterate 3 constructor
      refine ⟨⟨?_, ?_, ?_⟩, rfl, rfl, rfl⟩
      all_goals (repeat' (first | (with_reducible exact Lz.rfl) | (exact Lw.rfl) | (exact Lz.wrap (by omega)) | ((unfold goInt); (with_reducible exact Lz.rfl)) | constructor))
      have hd0 : l.drop i = [] := List.drop_eq_nil_of_le (by omega)
      refine Lz.of ?_; rw [hp, hd0]; simp [restP]; exact ⟨rfl, by omega⟩
theorem veq_vote (v w : Vote) : (veq1 (.int .i64 v.slot) (.int .i64 w.slot) && (veq1 (.int .u64 v.ballot) (.int .u64 w.ballot) && (veq1 (.int .i64 v.kind) (.int .i64 w.kind) && (veq1 (.int .i64 v.chain) (.int .i64 w.chain) && (veq1 (.int .u64 v.epoch) (.int .u64 w.epoch) && (veq1 (.int .i64 v.node) (.int .i64 w.node) && true)))))) = eqB v w := by
  obtain ⟨a, b, c, d, e, f⟩ := v
  obtain ⟨a', b', c', d', e', f'⟩ := w
  rw [Bool.eq_iff_iff, eqB_iff]
  simp [veq1]
theorem same_ok (l m : List Vote) (hl : l.length < 1000000) : VC E0 40 0 [.sl 6 (l.map encV) false, .sl 6 (m.map encV) false] [] (RR (.s (.bool (eqB l m))) 0 []) := by
  refine VC.enterR L0 (show E0.func 40 = some Try.f40 by kernel_rfl) (fun _ _ => rfl) rfl rfl [] ?_
  ((conv => whnf) <;> repeat ((with_reducible refine Drawn.mk (by kernel_rfl) ?_) <;> conv => whnf))
  (first | (refine ⟨fun hlm => ?_, fun hlm => ?_⟩) | (refine nsplit (fun hlm => ?_) (fun hlm => ?_)) | (refine bsplit (fun hlm => ?_) (fun hlm => ?_))) <;> have hz_ := True.intro <;> clear hz_
  · ((conv => whnf) <;> repeat ((with_reducible refine Drawn.mk (by kernel_rfl) ?_) <;> conv => whnf))
    refine ⟨[], [], ?_⟩
    iterate 3 constructor
    refine ⟨⟨?_, ?_, ?_⟩, rfl, rfl, rfl⟩
    all_goals (repeat' (first | (with_reducible exact Lz.rfl) | (exact Lw.rfl) | (exact Lz.wrap (by omega)) | ((unfold goInt); (with_reducible exact Lz.rfl)) | constructor))
    refine Lz.of (bool_eq (Eq.symm (eqB_false.2 fun e => hlm (by subst e; rfl))))
  · have hlm : l.length = m.length := by simp at hlm; omega
    ((conv => whnf) <;> repeat ((with_reducible refine Drawn.mk (by kernel_rfl) ?_) <;> conv => whnf))
    refine ⟨fun k f o c => ∃ i : Nat, i ≤ l.length ∧ k = l.length - i ∧ l.take i = m.take i ∧ c = 0 ∧ f = [(0, .sl 6 (l.map encV) false), (1, .sl 6 (m.map encV) false), (5, .s (.int .i64 i))] ∧ o = [], ⟨l.length, ?_⟩, ?_⟩
    · refine ⟨[], [], ?_⟩
      iterate 3 constructor
      refine ⟨⟨?_, ?_, ?_⟩, ⟨0, Nat.zero_le _, rfl, rfl, rfl, rfl, rfl⟩⟩
      all_goals (repeat' (first | (with_reducible exact Lz.rfl) | (exact Lw.rfl) | (exact Lz.wrap (by omega)) | ((unfold goInt); (with_reducible exact Lz.rfl)) | constructor))
    · rintro k f1 o1 c1 ⟨i, hi, rfl, ht, rfl, rfl, rfl⟩
      ((conv => whnf) <;> repeat ((with_reducible refine Drawn.mk (by kernel_rfl) ?_) <;> conv => whnf))
      (first | (refine ⟨fun h => ?_, fun h => ?_⟩) | (refine nsplit (fun h => ?_) (fun h => ?_)) | (refine bsplit (fun h => ?_) (fun h => ?_))) <;> have hz_ := True.intro <;> clear hz_
      · have h := lenlt.1 h
        have h2 : i < m.length := by omega
        ((conv => whnf) <;> repeat ((with_reducible refine Drawn.mk (by kernel_rfl) ?_) <;> conv => whnf))
        refine idxI h ?_
        ((conv => whnf) <;> repeat ((with_reducible refine Drawn.mk (by kernel_rfl) ?_) <;> conv => whnf))
        refine idxI h2 ?_
        ((conv => whnf) <;> repeat ((with_reducible refine Drawn.mk (by kernel_rfl) ?_) <;> conv => whnf))
        (first | (refine ⟨fun hv => ?_, fun hv => ?_⟩) | (refine nsplit (fun hv => ?_) (fun hv => ?_)) | (refine bsplit (fun hv => ?_) (fun hv => ?_))) <;> have hz_ := True.intro <;> clear hz_
        · have hv := (veq_vote l[i] m[i]).symm.trans hv
          ((conv => whnf) <;> repeat ((with_reducible refine Drawn.mk (by kernel_rfl) ?_) <;> conv => whnf))
          refine ⟨[], [], ?_⟩
          iterate 3 constructor
          refine ⟨⟨?_, ?_, ?_⟩, rfl, rfl, rfl⟩
          all_goals (repeat' (first | (with_reducible exact Lz.rfl) | (exact Lw.rfl) | (exact Lz.wrap (by omega)) | ((unfold goInt); (with_reducible exact Lz.rfl)) | constructor))
          refine Lz.of (bool_eq (Eq.symm (eqB_false.2 fun e => eqB_false.1 hv (by subst e; rfl))))
        · have hv : eqB l[i] m[i] = true := by rw [← veq_vote]; simpa using hv
          ((conv => whnf) <;> repeat ((with_reducible refine Drawn.mk (by kernel_rfl) ?_) <;> conv => whnf))
          refine ⟨l.length - (i + 1), ?_, by omega⟩
          refine ⟨[], [], ?_⟩
          iterate 3 constructor
          refine ⟨⟨?_, ?_, ?_⟩, ⟨i + 1, h, rfl, by rw [take_snoc l i h, take_snoc m i h2, ht, eqB_iff.1 hv], rfl, rfl, rfl⟩⟩
          all_goals (repeat' (first | (with_reducible exact Lz.rfl) | (exact Lw.rfl) | (exact Lz.wrap (by omega)) | ((unfold goInt); (with_reducible exact Lz.rfl)) | constructor))
      · have h := mt lenlt.2 h
        ((conv => whnf) <;> repeat ((with_reducible refine Drawn.mk (by kernel_rfl) ?_) <;> conv => whnf))
        refine ⟨[], [], ?_⟩
        iterate 3 constructor
        refine ⟨⟨?_, ?_, ?_⟩, rfl, rfl, rfl⟩
        all_goals (repeat' (first | (with_reducible exact Lz.rfl) | (exact Lw.rfl) | (exact Lz.wrap (by omega)) | ((unfold goInt); (with_reducible exact Lz.rfl)) | constructor))
        refine Lz.of (bool_eq (Eq.symm (eqB_iff.2 ?_)))
        rw [← List.take_of_length_le (Nat.not_lt.1 h), ht, List.take_of_length_le (by omega)]
end Go.M

namespace Go.M
open Go Go.Proofs
set_option maxRecDepth 100000
structure Cmd where
  kind : Int
  chain : Int
  epoch : Int
  node : Int
@[reducible] def cT4 (c : Cmd) : TV := cmdT c.kind c.chain c.epoch c.node
def Cmd.check (c : Cmd) : Int := checkS c.kind c.chain c.epoch c.node
def Vote.of (n b : Int) (c : Cmd) : Vote := ⟨n, b, c.kind, c.chain, c.epoch, c.node⟩
@[reducible] def refA (p : Int) (l : List Vote) : TV := .agg [.s (.int .u64 p), .sl 6 (l.map encV) false]
def prepL (p b : Int) (l : List Vote) (frm : Int) : Int × List Vote × Int :=
  if isBallot b = false ∨ frm < 0 ∨ frm > 512 then (p, [], 1) else if b < p then (p, [], 10) else (b, frmS l frm, 0)
def accL (p : Int) (l : List Vote) (b n : Int) (c : Cmd) : Int × List Vote × Int :=
  if isBallot b = false ∨ n < 0 ∨ n ≥ 512 then (p, l, 1) else if c.check ≠ 0 then (p, l, c.check) else if b < p then (p, l, 10) else (b, put l (.of n b c), 0)
theorem refPrepare_ok (p b : Int) (l : List Vote) (frm : Int) (hl : l.length < 1000) : VC E0 82 0 [refA p l, .s (.int .u64 b), .s (.int .i64 frm)] []
    (RR (.tup [refA (prepL p b l frm).1 l, .sl 6 ((prepL p b l frm).2.1.map encV) false, .s (.int .i64 (prepL p b l frm).2.2)]) 0 []) := by
  refine VC.enterR L0 (show E0.func 82 = some Try.f82 by kernel_rfl) (fun _ _ => rfl) rfl rfl [] ?_
  ((conv => whnf) <;> repeat ((with_reducible refine Drawn.mk (by kernel_rfl) ?_) <;> conv => whnf))
  refine ⟨[], [], _, _, _, _, refIs_ok b, ⟨by (repeat' (first | (with_reducible exact Lz.rfl) | (exact Lw.rfl) | (exact Lz.wrap (by omega)) | ((unfold goInt); (with_reducible exact Lz.rfl)) | constructor)), by (repeat' (first | (with_reducible exact Lz.rfl) | (exact Lw.rfl) | (exact Lz.wrap (by omega)) | ((unfold goInt); (with_reducible exact Lz.rfl)) | constructor)), by rfl⟩, ?_⟩
  rintro r o' c' ⟨rfl, rfl, rfl⟩
  have hz_ := True.intro
  clear hz_
  cases hb : isBallot b
  · have e : prepL p b l frm = (p, [], 1) := by unfold prepL; grind
    rw [e]
    ((conv => whnf) <;> repeat ((with_reducible refine Drawn.mk (by kernel_rfl) ?_) <;> conv => whnf))
    refine ⟨[], [], ?_⟩
    iterate 3 constructor
    refine ⟨⟨?_, ?_, ?_⟩, rfl, rfl, rfl⟩
    all_goals (repeat' (first | (with_reducible exact Lz.rfl) | (exact Lw.rfl) | (exact Lz.wrap (by omega)) | ((unfold goInt); (with_reducible exact Lz.rfl)) | constructor))
  · ((conv => whnf) <;> repeat ((with_reducible refine Drawn.mk (by kernel_rfl) ?_) <;> conv => whnf))
    (first | (refine ⟨fun h1 => ?_, fun h1 => ?_⟩) | (refine nsplit (fun h1 => ?_) (fun h1 => ?_)) | (refine bsplit (fun h1 => ?_) (fun h1 => ?_))) <;> have hz_ := True.intro <;> clear hz_
    · have e : prepL p b l frm = (p, [], 1) := by unfold prepL; grind
      rw [e]
      ((conv => whnf) <;> repeat ((with_reducible refine Drawn.mk (by kernel_rfl) ?_) <;> conv => whnf))
      refine ⟨[], [], ?_⟩
      iterate 3 constructor
      refine ⟨⟨?_, ?_, ?_⟩, rfl, rfl, rfl⟩
      all_goals (repeat' (first | (with_reducible exact Lz.rfl) | (exact Lw.rfl) | (exact Lz.wrap (by omega)) | ((unfold goInt); (with_reducible exact Lz.rfl)) | constructor))
    · ((conv => whnf) <;> repeat ((with_reducible refine Drawn.mk (by kernel_rfl) ?_) <;> conv => whnf))
      (first | (refine ⟨fun h2 => ?_, fun h2 => ?_⟩) | (refine nsplit (fun h2 => ?_) (fun h2 => ?_)) | (refine bsplit (fun h2 => ?_) (fun h2 => ?_))) <;> have hz_ := True.intro <;> clear hz_
      · have e : prepL p b l frm = (p, [], 1) := by unfold prepL; grind
        rw [e]
        ((conv => whnf) <;> repeat ((with_reducible refine Drawn.mk (by kernel_rfl) ?_) <;> conv => whnf))
        refine ⟨[], [], ?_⟩
        iterate 3 constructor
        refine ⟨⟨?_, ?_, ?_⟩, rfl, rfl, rfl⟩
        all_goals (repeat' (first | (with_reducible exact Lz.rfl) | (exact Lw.rfl) | (exact Lz.wrap (by omega)) | ((unfold goInt); (with_reducible exact Lz.rfl)) | constructor))
      · ((conv => whnf) <;> repeat ((with_reducible refine Drawn.mk (by kernel_rfl) ?_) <;> conv => whnf))
        (first | (refine ⟨fun h3 => ?_, fun h3 => ?_⟩) | (refine nsplit (fun h3 => ?_) (fun h3 => ?_)) | (refine bsplit (fun h3 => ?_) (fun h3 => ?_))) <;> have hz_ := True.intro <;> clear hz_
        · have e : prepL p b l frm = (p, [], 10) := by unfold prepL; grind
          rw [e]
          ((conv => whnf) <;> repeat ((with_reducible refine Drawn.mk (by kernel_rfl) ?_) <;> conv => whnf))
          refine ⟨[], [], ?_⟩
          iterate 3 constructor
          refine ⟨⟨?_, ?_, ?_⟩, rfl, rfl, rfl⟩
          all_goals (repeat' (first | (with_reducible exact Lz.rfl) | (exact Lw.rfl) | (exact Lz.wrap (by omega)) | ((unfold goInt); (with_reducible exact Lz.rfl)) | constructor))
        · have e : prepL p b l frm = (b, frmS l frm, 0) := by unfold prepL; grind
          rw [e]
          ((conv => whnf) <;> repeat ((with_reducible refine Drawn.mk (by kernel_rfl) ?_) <;> conv => whnf))
          refine ⟨[], [], _, _, _, _, refFrom_ok l frm (by omega), ⟨by (repeat' (first | (with_reducible exact Lz.rfl) | (exact Lw.rfl) | (exact Lz.wrap (by omega)) | ((unfold goInt); (with_reducible exact Lz.rfl)) | constructor)), by (repeat' (first | (with_reducible exact Lz.rfl) | (exact Lw.rfl) | (exact Lz.wrap (by omega)) | ((unfold goInt); (with_reducible exact Lz.rfl)) | constructor)), by rfl⟩, ?_⟩
          rintro r o' c' ⟨rfl, rfl, rfl⟩
          ((conv => whnf) <;> repeat ((with_reducible refine Drawn.mk (by kernel_rfl) ?_) <;> conv => whnf))
          refine ⟨[], [], ?_⟩
          iterate 3 constructor
          refine ⟨⟨?_, ?_, ?_⟩, rfl, rfl, rfl⟩
          all_goals (repeat' (first | (with_reducible exact Lz.rfl) | (exact Lw.rfl) | (exact Lz.wrap (by omega)) | ((unfold goInt); (with_reducible exact Lz.rfl)) | constructor))
theorem refAccept_ok (p : Int) (l : List Vote) (b n : Int) (c : Cmd) (hl : l.length < 1000) (hc : 0 ≤ c.epoch) : VC E0 83 0 [refA p l, .s (.int .u64 b), .s (.int .i64 n), cT4 c] []
    (RR (.tup [refA (accL p l b n c).1 (accL p l b n c).2.1, .s (.int .i64 (accL p l b n c).2.2)]) 0 []) := by
  refine VC.enterR L0 (show E0.func 83 = some Try.f83 by kernel_rfl) (fun _ _ => rfl) rfl rfl [] ?_
  ((conv => whnf) <;> repeat ((with_reducible refine Drawn.mk (by kernel_rfl) ?_) <;> conv => whnf))
  refine ⟨[], [], _, _, _, _, refIs_ok b, ⟨by (repeat' (first | (with_reducible exact Lz.rfl) | (exact Lw.rfl) | (exact Lz.wrap (by omega)) | ((unfold goInt); (with_reducible exact Lz.rfl)) | constructor)), by (repeat' (first | (with_reducible exact Lz.rfl) | (exact Lw.rfl) | (exact Lz.wrap (by omega)) | ((unfold goInt); (with_reducible exact Lz.rfl)) | constructor)), by rfl⟩, ?_⟩
  rintro r o' c' ⟨rfl, rfl, rfl⟩
  have hz_ := True.intro
  clear hz_
  cases hb : isBallot b
  · have e : accL p l b n c = (p, l, 1) := by unfold accL; grind
    rw [e]
    ((conv => whnf) <;> repeat ((with_reducible refine Drawn.mk (by kernel_rfl) ?_) <;> conv => whnf))
    refine ⟨[], [], ?_⟩
    iterate 3 constructor
    refine ⟨⟨?_, ?_, ?_⟩, rfl, rfl, rfl⟩
    all_goals (repeat' (first | (with_reducible exact Lz.rfl) | (exact Lw.rfl) | (exact Lz.wrap (by omega)) | ((unfold goInt); (with_reducible exact Lz.rfl)) | constructor))
  · ((conv => whnf) <;> repeat ((with_reducible refine Drawn.mk (by kernel_rfl) ?_) <;> conv => whnf))
    (first | (refine ⟨fun h1 => ?_, fun h1 => ?_⟩) | (refine nsplit (fun h1 => ?_) (fun h1 => ?_)) | (refine bsplit (fun h1 => ?_) (fun h1 => ?_))) <;> have hz_ := True.intro <;> clear hz_
    · have e : accL p l b n c = (p, l, 1) := by unfold accL; grind
      rw [e]
      ((conv => whnf) <;> repeat ((with_reducible refine Drawn.mk (by kernel_rfl) ?_) <;> conv => whnf))
      refine ⟨[], [], ?_⟩
      iterate 3 constructor
      refine ⟨⟨?_, ?_, ?_⟩, rfl, rfl, rfl⟩
      all_goals (repeat' (first | (with_reducible exact Lz.rfl) | (exact Lw.rfl) | (exact Lz.wrap (by omega)) | ((unfold goInt); (with_reducible exact Lz.rfl)) | constructor))
    · ((conv => whnf) <;> repeat ((with_reducible refine Drawn.mk (by kernel_rfl) ?_) <;> conv => whnf))
      (first | (refine ⟨fun h2 => ?_, fun h2 => ?_⟩) | (refine nsplit (fun h2 => ?_) (fun h2 => ?_)) | (refine bsplit (fun h2 => ?_) (fun h2 => ?_))) <;> have hz_ := True.intro <;> clear hz_
      · have e : accL p l b n c = (p, l, 1) := by unfold accL; grind
        rw [e]
        ((conv => whnf) <;> repeat ((with_reducible refine Drawn.mk (by kernel_rfl) ?_) <;> conv => whnf))
        refine ⟨[], [], ?_⟩
        iterate 3 constructor
        refine ⟨⟨?_, ?_, ?_⟩, rfl, rfl, rfl⟩
        all_goals (repeat' (first | (with_reducible exact Lz.rfl) | (exact Lw.rfl) | (exact Lz.wrap (by omega)) | ((unfold goInt); (with_reducible exact Lz.rfl)) | constructor))
      · ((conv => whnf) <;> repeat ((with_reducible refine Drawn.mk (by kernel_rfl) ?_) <;> conv => whnf))
        refine ⟨[], [], _, _, _, _, refCheck_ok c.kind c.chain c.epoch c.node hc, ⟨by (repeat' (first | (with_reducible exact Lz.rfl) | (exact Lw.rfl) | (exact Lz.wrap (by omega)) | ((unfold goInt); (with_reducible exact Lz.rfl)) | constructor)), by (repeat' (first | (with_reducible exact Lz.rfl) | (exact Lw.rfl) | (exact Lz.wrap (by omega)) | ((unfold goInt); (with_reducible exact Lz.rfl)) | constructor)), by rfl⟩, ?_⟩
        rintro r o' c' ⟨rfl, rfl, rfl⟩
        ((conv => whnf) <;> repeat ((with_reducible refine Drawn.mk (by kernel_rfl) ?_) <;> conv => whnf))
        (first | (refine ⟨fun hk => ?_, fun hk => ?_⟩) | (refine nsplit (fun hk => ?_) (fun hk => ?_)) | (refine bsplit (fun hk => ?_) (fun hk => ?_))) <;> have hz_ := True.intro <;> clear hz_
        · have hk : c.check ≠ 0 := hk
          have e : accL p l b n c = (p, l, c.check) := by unfold accL; grind
          rw [e]
          ((conv => whnf) <;> repeat ((with_reducible refine Drawn.mk (by kernel_rfl) ?_) <;> conv => whnf))
          refine ⟨[], [], ?_⟩
          iterate 3 constructor
          refine ⟨⟨?_, ?_, ?_⟩, rfl, rfl, rfl⟩
          all_goals (repeat' (first | (with_reducible exact Lz.rfl) | (exact Lw.rfl) | (exact Lz.wrap (by omega)) | ((unfold goInt); (with_reducible exact Lz.rfl)) | constructor))
        · have hk' : c.check = 0 := Classical.not_not.1 hk
          ((conv => whnf) <;> repeat ((with_reducible refine Drawn.mk (by kernel_rfl) ?_) <;> conv => whnf))
          (first | (refine ⟨fun h3 => ?_, fun h3 => ?_⟩) | (refine nsplit (fun h3 => ?_) (fun h3 => ?_)) | (refine bsplit (fun h3 => ?_) (fun h3 => ?_))) <;> have hz_ := True.intro <;> clear hz_
          · have e : accL p l b n c = (p, l, 10) := by unfold accL; grind
            rw [e]
            ((conv => whnf) <;> repeat ((with_reducible refine Drawn.mk (by kernel_rfl) ?_) <;> conv => whnf))
            refine ⟨[], [], ?_⟩
            iterate 3 constructor
            refine ⟨⟨?_, ?_, ?_⟩, rfl, rfl, rfl⟩
            all_goals (repeat' (first | (with_reducible exact Lz.rfl) | (exact Lw.rfl) | (exact Lz.wrap (by omega)) | ((unfold goInt); (with_reducible exact Lz.rfl)) | constructor))
          · have e : accL p l b n c = (b, put l (.of n b c), 0) := by unfold accL; grind
            rw [e]
            ((conv => whnf) <;> repeat ((with_reducible refine Drawn.mk (by kernel_rfl) ?_) <;> conv => whnf))
            refine ⟨[], [], _, _, _, _, refPut_ok l (.of n b c) hl, ⟨by (repeat' (first | (with_reducible exact Lz.rfl) | (exact Lw.rfl) | (exact Lz.wrap (by omega)) | ((unfold goInt); (with_reducible exact Lz.rfl)) | constructor)), by (repeat' (first | (with_reducible exact Lz.rfl) | (exact Lw.rfl) | (exact Lz.wrap (by omega)) | ((unfold goInt); (with_reducible exact Lz.rfl)) | constructor)), by rfl⟩, ?_⟩
            rintro r o' c' ⟨rfl, rfl, rfl⟩
            ((conv => whnf) <;> repeat ((with_reducible refine Drawn.mk (by kernel_rfl) ?_) <;> conv => whnf))
            refine ⟨[], [], ?_⟩
            iterate 3 constructor
            refine ⟨⟨?_, ?_, ?_⟩, rfl, rfl, rfl⟩
            all_goals (repeat' (first | (with_reducible exact Lz.rfl) | (exact Lw.rfl) | (exact Lz.wrap (by omega)) | ((unfold goInt); (with_reducible exact Lz.rfl)) | constructor))
end Go.M

namespace Go.M
open Go Go.Proofs
set_option maxRecDepth 100000
theorem len_ok (p : Int) (es : List (Int × Vote)) : VC E0 39 2 [.ptr 0 0] [(0, accO p 1), (1, mapO es)] (RR (.s (.int .i64 es.length)) 2 [(0, accO p 1), (1, mapO es)]) := by
  refine VC.enterR L0 (show E0.func 39 = some Try.f39 by kernel_rfl) (fun _ _ => rfl) rfl rfl [] ?_
  ((conv => whnf) <;> repeat ((with_reducible refine Drawn.mk (by kernel_rfl) ?_) <;> conv => whnf))
  refine ⟨[], [some 0, some 1], ?_⟩
  iterate 3 constructor
  refine ⟨⟨?_, ?_, ?_⟩, rfl, rfl, rfl⟩
  all_goals (repeat' (first | (with_reducible exact Lz.rfl) | (exact Lw.rfl) | (exact Lz.wrap (by omega)) | ((unfold goInt); (with_reducible exact Lz.rfl)) | constructor))
  exact Lz.of (int_eq (by simp))
def accS (p : Int) (es : List (Int × Vote)) (b n : Int) (c : Cmd) : Int × List (Int × Vote) × Int :=
  if isBallot b = false ∨ n < 0 ∨ n ≥ 512 then (p, es, 1) else if c.check ≠ 0 then (p, es, c.check) else if b < p then (p, es, 10) else (b, putE es n (.of n b c), 0)
theorem accept_ok (p : Int) (es : List (Int × Vote)) (b n : Int) (c : Cmd) : VC E0 45 2 [.ptr 0 0, .s (.int .u64 b), .s (.int .i64 n), cT4 c] [(0, accO p 1), (1, mapO es)]
    (RR (.s (.int .i64 (accS p es b n c).2.2)) 2 [(0, accO (accS p es b n c).1 1), (1, mapO (accS p es b n c).2.1)]) := by
  refine VC.enterR L0 (show E0.func 45 = some Try.f45 by kernel_rfl) (fun _ _ => rfl) rfl rfl [] ?_
  ((conv => whnf) <;> repeat ((with_reducible refine Drawn.mk (by kernel_rfl) ?_) <;> conv => whnf))
  refine ⟨[], [], _, _, _, _, is_ok b, ⟨by (repeat' (first | (with_reducible exact Lz.rfl) | (exact Lw.rfl) | (exact Lz.wrap (by omega)) | ((unfold goInt); (with_reducible exact Lz.rfl)) | constructor)), by (repeat' (first | (with_reducible exact Lz.rfl) | (exact Lw.rfl) | (exact Lz.wrap (by omega)) | ((unfold goInt); (with_reducible exact Lz.rfl)) | constructor)), by rfl⟩, ?_⟩
  rintro r o' c' ⟨rfl, rfl, rfl⟩
  have hz_ := True.intro
  clear hz_
  cases hb : isBallot b
  · have e : accS p es b n c = (p, es, 1) := by unfold accS; grind
    rw [e]
    ((conv => whnf) <;> repeat ((with_reducible refine Drawn.mk (by kernel_rfl) ?_) <;> conv => whnf))
    refine ⟨[], [some 0, some 1], ?_⟩
    iterate 3 constructor
    refine ⟨⟨?_, ?_, ?_⟩, rfl, rfl, rfl⟩
    all_goals (repeat' (first | (with_reducible exact Lz.rfl) | (exact Lw.rfl) | (exact Lz.wrap (by omega)) | ((unfold goInt); (with_reducible exact Lz.rfl)) | constructor))
  · ((conv => whnf) <;> repeat ((with_reducible refine Drawn.mk (by kernel_rfl) ?_) <;> conv => whnf))
    (first | (refine ⟨fun h1 => ?_, fun h1 => ?_⟩) | (refine nsplit (fun h1 => ?_) (fun h1 => ?_)) | (refine bsplit (fun h1 => ?_) (fun h1 => ?_))) <;> have hz_ := True.intro <;> clear hz_
    · have e : accS p es b n c = (p, es, 1) := by unfold accS; grind
      rw [e]
      ((conv => whnf) <;> repeat ((with_reducible refine Drawn.mk (by kernel_rfl) ?_) <;> conv => whnf))
      refine ⟨[], [some 0, some 1], ?_⟩
      iterate 3 constructor
      refine ⟨⟨?_, ?_, ?_⟩, rfl, rfl, rfl⟩
      all_goals (repeat' (first | (with_reducible exact Lz.rfl) | (exact Lw.rfl) | (exact Lz.wrap (by omega)) | ((unfold goInt); (with_reducible exact Lz.rfl)) | constructor))
    · ((conv => whnf) <;> repeat ((with_reducible refine Drawn.mk (by kernel_rfl) ?_) <;> conv => whnf))
      (first | (refine ⟨fun h2 => ?_, fun h2 => ?_⟩) | (refine nsplit (fun h2 => ?_) (fun h2 => ?_)) | (refine bsplit (fun h2 => ?_) (fun h2 => ?_))) <;> have hz_ := True.intro <;> clear hz_
      · have e : accS p es b n c = (p, es, 1) := by unfold accS; grind
        rw [e]
        ((conv => whnf) <;> repeat ((with_reducible refine Drawn.mk (by kernel_rfl) ?_) <;> conv => whnf))
        refine ⟨[], [some 0, some 1], ?_⟩
        iterate 3 constructor
        refine ⟨⟨?_, ?_, ?_⟩, rfl, rfl, rfl⟩
        all_goals (repeat' (first | (with_reducible exact Lz.rfl) | (exact Lw.rfl) | (exact Lz.wrap (by omega)) | ((unfold goInt); (with_reducible exact Lz.rfl)) | constructor))
      · ((conv => whnf) <;> repeat ((with_reducible refine Drawn.mk (by kernel_rfl) ?_) <;> conv => whnf))
        refine ⟨[], [], _, _, _, _, check_ok c.kind c.chain c.epoch c.node, ⟨by (repeat' (first | (with_reducible exact Lz.rfl) | (exact Lw.rfl) | (exact Lz.wrap (by omega)) | ((unfold goInt); (with_reducible exact Lz.rfl)) | constructor)), by (repeat' (first | (with_reducible exact Lz.rfl) | (exact Lw.rfl) | (exact Lz.wrap (by omega)) | ((unfold goInt); (with_reducible exact Lz.rfl)) | constructor)), by rfl⟩, ?_⟩
        rintro r o' c' ⟨rfl, rfl, rfl⟩
        ((conv => whnf) <;> repeat ((with_reducible refine Drawn.mk (by kernel_rfl) ?_) <;> conv => whnf))
        (first | (refine ⟨fun hk => ?_, fun hk => ?_⟩) | (refine nsplit (fun hk => ?_) (fun hk => ?_)) | (refine bsplit (fun hk => ?_) (fun hk => ?_))) <;> have hz_ := True.intro <;> clear hz_
        · have hk : c.check ≠ 0 := hk
          have e : accS p es b n c = (p, es, c.check) := by unfold accS; grind
          rw [e]
          ((conv => whnf) <;> repeat ((with_reducible refine Drawn.mk (by kernel_rfl) ?_) <;> conv => whnf))
          refine ⟨[], [some 0, some 1], ?_⟩
          iterate 3 constructor
          refine ⟨⟨?_, ?_, ?_⟩, rfl, rfl, rfl⟩
          all_goals (repeat' (first | (with_reducible exact Lz.rfl) | (exact Lw.rfl) | (exact Lz.wrap (by omega)) | ((unfold goInt); (with_reducible exact Lz.rfl)) | constructor))
        · have hk' : c.check = 0 := Classical.not_not.1 hk
          ((conv => whnf) <;> repeat ((with_reducible refine Drawn.mk (by kernel_rfl) ?_) <;> conv => whnf))
          (first | (refine ⟨fun h3 => ?_, fun h3 => ?_⟩) | (refine nsplit (fun h3 => ?_) (fun h3 => ?_)) | (refine bsplit (fun h3 => ?_) (fun h3 => ?_))) <;> have hz_ := True.intro <;> clear hz_
          · have e : accS p es b n c = (p, es, 10) := by unfold accS; grind
            rw [e]
            ((conv => whnf) <;> repeat ((with_reducible refine Drawn.mk (by kernel_rfl) ?_) <;> conv => whnf))
            refine ⟨[], [some 0, some 1], ?_⟩
            iterate 3 constructor
            refine ⟨⟨?_, ?_, ?_⟩, rfl, rfl, rfl⟩
            all_goals (repeat' (first | (with_reducible exact Lz.rfl) | (exact Lw.rfl) | (exact Lz.wrap (by omega)) | ((unfold goInt); (with_reducible exact Lz.rfl)) | constructor))
          · have e : accS p es b n c = (b, putE es n (.of n b c), 0) := by unfold accS; grind
            rw [e]
            ((conv => whnf) <;> repeat ((with_reducible refine Drawn.mk (by kernel_rfl) ?_) <;> conv => whnf))
            refine ⟨[], [some 0, some 1], ?_⟩
            iterate 3 constructor
            refine ⟨⟨?_, ?_, ?_⟩, rfl, rfl, rfl⟩
            all_goals (repeat' (first | (with_reducible exact Lz.rfl) | (exact Lw.rfl) | (exact Lz.wrap (by omega)) | ((unfold goInt); (with_reducible exact Lz.rfl)) | constructor))
            exact Lz.of (putM_enc n (.of n b c) es)
end Go.M

namespace Go.M
open Go Go.Proofs
set_option maxRecDepth 100000
structure Op11 where
  kind : Int
  ballot : Int
  slot : Int
  cmd : Cmd
def encOp (o : Op11) : List TV := [.s (.int .i64 o.kind), .s (.int .u64 o.ballot), .s (.int .i64 o.slot), .s (.int .i64 o.cmd.kind), .s (.int .i64 o.cmd.chain), .s (.int .u64 o.cmd.epoch), .s (.int .i64 o.cmd.node)]
theorem prep_eq {p b : Int} {es : List (Int × Vote)} (h : MV es) (frm : Int) : prepS p b es frm = prepL p b (allV es) frm := by
  unfold prepS prepL
  have : votesOf es frm = frmS (allV es) frm := rising_all h frm
  rw [this]
theorem acc_eq {p b n : Int} {c : Cmd} {es : List (Int × Vote)} (h : MV es) : accL p (allV es) b n c = ((accS p es b n c).1, allV (accS p es b n c).2.1, (accS p es b n c).2.2) := by
  unfold accS accL
  have : allV (putE es n (.of n b c)) = put (allV es) (.of n b c) := allV_put h (.of n b c)
  split
  · rfl
  · split
    · rfl
    · split
      · rfl
      · simp [this]
/-- What an acceptor's map holds, of ballots up to some. -/
structure KVo (p : Int) (es : List (Int × Vote)) : Prop where
  mv : MV es
  rng : ∀ e ∈ es, 0 ≤ e.1 ∧ e.1 < 512
  bal : ∀ e ∈ es, e.2.ballot ≤ p
theorem KVo.ok {p : Int} {es : List (Int × Vote)} (h : KVo p es) (hl : es.length < 1000) : ksOk (es.map (·.1)) := by
  refine ⟨by simp; omega, fun x hx => ?_, h.mv.nd⟩
  obtain ⟨e, he, rfl⟩ := List.mem_map.1 hx
  have := h.rng e he
  have h1 : IntKind.i64.min = -9223372036854775808 := rfl
  have h2 : IntKind.i64.max = 9223372036854775807 := rfl
  omega
def opS (p : Int) (es : List (Int × Vote)) (o : Op11) : Int × List (Int × Vote) := if o.kind = 0 then ((prepL p o.ballot (allV es) o.slot).1, es) else ((accS p es o.ballot o.slot o.cmd).1, (accS p es o.ballot o.slot o.cmd).2.1)
theorem prepL_le {p b frm : Int} {l : List Vote} : p ≤ (prepL p b l frm).1 := by
  unfold prepL
  split
  · exact Int.le_refl _
  · split
    · exact Int.le_refl _
    · simp; omega
theorem accS_kv {p b n : Int} {c : Cmd} {es : List (Int × Vote)} (h : KVo p es) : KVo (accS p es b n c).1 (accS p es b n c).2.1 ∧ p ≤ (accS p es b n c).1 ∧ (accS p es b n c).2.1.length ≤ es.length + 1 := by
  unfold accS
  split
  · exact ⟨h, Int.le_refl _, by simp⟩
  · split
    · exact ⟨h, Int.le_refl _, by simp⟩
    · split
      · exact ⟨h, Int.le_refl _, by simp⟩
      · rename_i h1 _ h3
        refine ⟨⟨h.mv.put (.of n b c), fun e he => ?_, fun e he => ?_⟩, by simp; omega, ?_⟩
        · rw [putE_mem h.mv.nd] at he
          rcases he with rfl | ⟨_, he⟩
          · simp at h1 ⊢; omega
          · exact h.rng e he
        · rw [putE_mem h.mv.nd] at he
          rcases he with rfl | ⟨_, he⟩
          · simp [Vote.of]
          · have := h.bal e he; simp; omega
        · have := congrArg List.length (putE_keys (n := n) (v := .of n b c) (es := es))
          simp only [List.length_map] at this
          simp only
          rw [this]; split <;> simp
theorem opS_kv {p : Int} {es : List (Int × Vote)} (h : KVo p es) (o : Op11) : KVo (opS p es o).1 (opS p es o).2 ∧ p ≤ (opS p es o).1 ∧ (opS p es o).2.length ≤ es.length + 1 := by
  unfold opS
  split
  · have hp : p ≤ (prepL p o.ballot (allV es) o.slot).1 := prepL_le
    exact ⟨⟨h.mv, h.rng, fun e he => Int.le_trans (h.bal e he) hp⟩, hp, by simp⟩
  · exact accS_kv h
theorem step_ok (p : Int) (es : List (Int × Vote)) (op : Op11) (h : KVo p es) (hl : es.length < 1000) (he : 0 ≤ op.cmd.epoch) : VC E0 35 2 [.ptr 0 0, refA p (allV es), .agg (encOp op)] [(0, accO p 1), (1, mapO es)]
    (RR (.tup [refA (opS p es op).1 (allV (opS p es op).2), .s (.bool true)]) 2 [(0, accO (opS p es op).1 1), (1, mapO (opS p es op).2)]) := by
  have hal : (allV es).length < 1000 := by rw [allV_len]; exact hl
  refine VC.enterR L0 (show E0.func 35 = some Try.f35 by kernel_rfl) (fun _ _ => rfl) rfl rfl [] ?_
  ((conv => whnf) <;> repeat ((with_reducible refine Drawn.mk (by kernel_rfl) ?_) <;> conv => whnf))
  (first | (refine ⟨fun hk => ?_, fun hk => ?_⟩) | (refine nsplit (fun hk => ?_) (fun hk => ?_)) | (refine bsplit (fun hk => ?_) (fun hk => ?_))) <;> have hz_ := True.intro <;> clear hz_
  · ((conv => whnf) <;> repeat ((with_reducible refine Drawn.mk (by kernel_rfl) ?_) <;> conv => whnf))
    refine ⟨[], [some 0, some 1], _, _, _, _, prep_ok p op.ballot es op.slot (h.ok hl) (by omega), ⟨by (repeat' (first | (with_reducible exact Lz.rfl) | (exact Lw.rfl) | (exact Lz.wrap (by omega)) | ((unfold goInt); (with_reducible exact Lz.rfl)) | constructor)), by (repeat' (first | (with_reducible exact Lz.rfl) | (exact Lw.rfl) | (exact Lz.wrap (by omega)) | ((unfold goInt); (with_reducible exact Lz.rfl)) | constructor)), by rfl⟩, ?_⟩
    rintro r o' c' ⟨rfl, rfl, rfl⟩
    rw [prep_eq h.mv]
    ((conv => whnf) <;> repeat ((with_reducible refine Drawn.mk (by kernel_rfl) ?_) <;> conv => whnf))
    refine ⟨[], [], _, _, _, _, refPrepare_ok p op.ballot (allV es) op.slot hal, ⟨by (repeat' (first | (with_reducible exact Lz.rfl) | (exact Lw.rfl) | (exact Lz.wrap (by omega)) | ((unfold goInt); (with_reducible exact Lz.rfl)) | constructor)), by (repeat' (first | (with_reducible exact Lz.rfl) | (exact Lw.rfl) | (exact Lz.wrap (by omega)) | ((unfold goInt); (with_reducible exact Lz.rfl)) | constructor)), by rfl⟩, ?_⟩
    rintro r o' c' ⟨rfl, rfl, rfl⟩
    ((conv => whnf) <;> repeat ((with_reducible refine Drawn.mk (by kernel_rfl) ?_) <;> conv => whnf))
    have hlen : (prepL p op.ballot (allV es) op.slot).2.1.length < 1000000 := by
      unfold prepL
      split
      · simp
      · split
        · simp
        · exact Nat.lt_of_le_of_lt (List.length_filter_le _ _) (by omega)
    refine ⟨[7], [], _, _, _, _, same_ok (prepL p op.ballot (allV es) op.slot).2.1 (prepL p op.ballot (allV es) op.slot).2.1 hlen, ⟨by (repeat' (first | (with_reducible exact Lz.rfl) | (exact Lw.rfl) | (exact Lz.wrap (by omega)) | ((unfold goInt); (with_reducible exact Lz.rfl)) | constructor)), by (repeat' (first | (with_reducible exact Lz.rfl) | (exact Lw.rfl) | (exact Lz.wrap (by omega)) | ((unfold goInt); (with_reducible exact Lz.rfl)) | constructor)), by rfl⟩, ?_⟩
    rintro r o' c' ⟨rfl, rfl, rfl⟩
    rw [show eqB (prepL p op.ballot (allV es) op.slot).2.1 (prepL p op.ballot (allV es) op.slot).2.1 = true from eqB_iff.2 rfl]
    ((conv => whnf) <;> repeat ((with_reducible refine Drawn.mk (by kernel_rfl) ?_) <;> conv => whnf))
    (first | (refine ⟨fun hx => ?_, fun hx => ?_⟩) | (refine nsplit (fun hx => ?_) (fun hx => ?_)) | (refine bsplit (fun hx => ?_) (fun hx => ?_))) <;> have hz_ := True.intro <;> clear hz_
    · ((conv => whnf) <;> repeat ((with_reducible refine Drawn.mk (by kernel_rfl) ?_) <;> conv => whnf))
      refine ⟨[], [some 0, some 1], ?_⟩
      iterate 3 constructor
      refine ⟨⟨?_, ?_, ?_⟩, rfl, rfl, rfl⟩
      all_goals (repeat' (first | (with_reducible exact Lz.rfl) | (exact Lw.rfl) | (exact Lz.wrap (by omega)) | ((unfold goInt); (with_reducible exact Lz.rfl)) | constructor))
      all_goals (refine Lz.of ?_; simp [opS, hk])
    · cases hx rfl
  · ((conv => whnf) <;> repeat ((with_reducible refine Drawn.mk (by kernel_rfl) ?_) <;> conv => whnf))
    refine ⟨[], [], _, _, _, _, refAccept_ok p (allV es) op.ballot op.slot op.cmd hal he, ⟨by (repeat' (first | (with_reducible exact Lz.rfl) | (exact Lw.rfl) | (exact Lz.wrap (by omega)) | ((unfold goInt); (with_reducible exact Lz.rfl)) | constructor)), by (repeat' (first | (with_reducible exact Lz.rfl) | (exact Lw.rfl) | (exact Lz.wrap (by omega)) | ((unfold goInt); (with_reducible exact Lz.rfl)) | constructor)), by rfl⟩, ?_⟩
    rintro r o' c' ⟨rfl, rfl, rfl⟩
    ((conv => whnf) <;> repeat ((with_reducible refine Drawn.mk (by kernel_rfl) ?_) <;> conv => whnf))
    refine ⟨[], [some 0, some 1], _, _, _, _, accept_ok p es op.ballot op.slot op.cmd, ⟨by (repeat' (first | (with_reducible exact Lz.rfl) | (exact Lw.rfl) | (exact Lz.wrap (by omega)) | ((unfold goInt); (with_reducible exact Lz.rfl)) | constructor)), by (repeat' (first | (with_reducible exact Lz.rfl) | (exact Lw.rfl) | (exact Lz.wrap (by omega)) | ((unfold goInt); (with_reducible exact Lz.rfl)) | constructor)), by rfl⟩, ?_⟩
    rintro r o' c' ⟨rfl, rfl, rfl⟩
    ((conv => whnf) <;> repeat ((with_reducible refine Drawn.mk (by kernel_rfl) ?_) <;> conv => whnf))
    (first | (refine ⟨fun hx => ?_, fun hx => ?_⟩) | (refine nsplit (fun hx => ?_) (fun hx => ?_)) | (refine bsplit (fun hx => ?_) (fun hx => ?_))) <;> have hz_ := True.intro <;> clear hz_
    · ((conv => whnf) <;> repeat ((with_reducible refine Drawn.mk (by kernel_rfl) ?_) <;> conv => whnf))
      refine ⟨[], [some 0, some 1], ?_⟩
      iterate 3 constructor
      refine ⟨⟨?_, ?_, ?_⟩, rfl, rfl, rfl⟩
      all_goals (repeat' (first | (with_reducible exact Lz.rfl) | (exact Lw.rfl) | (exact Lz.wrap (by omega)) | ((unfold goInt); (with_reducible exact Lz.rfl)) | constructor))
      all_goals (refine Lz.of ?_; simp [opS, hk, acc_eq h.mv])
    · rw [acc_eq h.mv] at hx
      cases hx rfl
end Go.M

namespace Go.M
open Go Go.Proofs
set_option maxRecDepth 100000
set_option maxHeartbeats 2000000
theorem promised2_ok (p : Int) (es : List (Int × Vote)) : VC E0 38 2 [.ptr 0 0] [(0, accO p 1), (1, mapO es)] (RR (.s (.int .u64 p)) 2 [(0, accO p 1), (1, mapO es)]) := by
  refine VC.enterR L0 (show E0.func 38 = some Try.f38 by kernel_rfl) (fun _ _ => rfl) rfl rfl [] ?_
  ((conv => whnf) <;> repeat ((with_reducible refine Drawn.mk (by kernel_rfl) ?_) <;> conv => whnf))
  refine ⟨[], [some 0, some 1], ?_⟩
  iterate 3 constructor
  refine ⟨⟨?_, ?_, ?_⟩, rfl, rfl, rfl⟩
  all_goals (repeat' (first | (with_reducible exact Lz.rfl) | (exact Lw.rfl) | (exact Lz.wrap (by omega)) | ((unfold goInt); (with_reducible exact Lz.rfl)) | constructor))
theorem awake11 : VC E0 43 0 [] [] (fun r o c => r = .s (.bool true) ∧ o = [] ∧ c = 0) := VC.awakeW (by kernel_rfl) rfl rfl rfl
theorem plays_ok (ops : List Op11) (frm : Int) (hep : ∀ o ∈ ops, 0 ≤ o.cmd.epoch) : VC E0 7 0 [.sl 7 (ops.map encOp) false, .s (.int .i64 frm)] [] (fun r _ _ => r = .s (.bool true)) := by
  refine VC.enterR L0 (show E0.func 7 = some Try.f7 by kernel_rfl) (fun _ _ => rfl) rfl rfl [] ?_
  ((conv => whnf) <;> repeat ((with_reducible refine Drawn.mk (by kernel_rfl) ?_) <;> conv => whnf))
  refine ⟨[], [], _, _, _, _, new_ok, ⟨by (repeat' (first | (with_reducible exact Lz.rfl) | (exact Lw.rfl) | (exact Lz.wrap (by omega)) | ((unfold goInt); (with_reducible exact Lz.rfl)) | constructor)), by (repeat' (first | (with_reducible exact Lz.rfl) | (exact Lw.rfl) | (exact Lz.wrap (by omega)) | ((unfold goInt); (with_reducible exact Lz.rfl)) | constructor)), by rfl⟩, ?_⟩
  rintro r o' c' ⟨rfl, rfl, rfl⟩
  ((conv => whnf) <;> repeat ((with_reducible refine Drawn.mk (by kernel_rfl) ?_) <;> conv => whnf))
  refine ⟨fun k f o c => ∃ (i : Nat) (p : Int) (es : List (Int × Vote)), i ≤ ops.length ∧ k = ops.length - i ∧ KVo p es ∧ es.length ≤ i ∧ i ≤ 60 ∧ c = 3 ∧ f = [(0, .sl 7 (ops.map encOp) false), (1, .s (.int .i64 frm)), (5, .ptr 0 0), (6, .ptr 2 0), (7, .s (.int .i64 i))] ∧
    o = [(0, accO p 1), (1, mapO es), (2, .cells [.s (.int .u64 p), .sl 6 ((allV es).map encV) false])], ⟨ops.length, ?_⟩, ?_⟩
  · refine ⟨[], [some 0, some 1, some 2], ?_⟩
    iterate 3 constructor
    refine ⟨⟨?_, ?_, ?_⟩, ⟨0, 0, [], Nat.zero_le _, rfl, ⟨⟨by simp, by simp⟩, by simp, by simp⟩, by simp, by omega, rfl, rfl, rfl⟩⟩
    all_goals (repeat' (first | (with_reducible exact Lz.rfl) | (exact Lw.rfl) | (exact Lz.wrap (by omega)) | ((unfold goInt); (with_reducible exact Lz.rfl)) | constructor))
    refine Lz.of ?_; simp [allV, sortZ]
  · rintro k f1 o1 c1 ⟨i, p, es, hi, rfl, hkv, hle, hi6, rfl, rfl, rfl⟩
    ((conv => whnf) <;> repeat ((with_reducible refine Drawn.mk (by kernel_rfl) ?_) <;> conv => whnf))
    (first | (refine ⟨fun h => ?_, fun h => ?_⟩) | (refine nsplit (fun h => ?_) (fun h => ?_)) | (refine bsplit (fun h => ?_) (fun h => ?_))) <;> have hz_ := True.intro <;> clear hz_
    · have h := lenlt.1 h
      ((conv => whnf) <;> repeat ((with_reducible refine Drawn.mk (by kernel_rfl) ?_) <;> conv => whnf))
      (first | (refine ⟨fun h60 => ?_, fun h60 => ?_⟩) | (refine nsplit (fun h60 => ?_) (fun h60 => ?_)) | (refine bsplit (fun h60 => ?_) (fun h60 => ?_))) <;> have hz_ := True.intro <;> clear hz_
      · ((conv => whnf) <;> repeat ((with_reducible refine Drawn.mk (by kernel_rfl) ?_) <;> conv => whnf))
        have hop : 0 ≤ ops[i].cmd.epoch := hep _ (List.getElem_mem h)
        refine idxI h ?_
        ((conv => whnf) <;> repeat ((with_reducible refine Drawn.mk (by kernel_rfl) ?_) <;> conv => whnf))
        refine ⟨[], [some 0, some 1], _, _, _, _, step_ok p es ops[i] hkv (by omega) hop, ⟨by (repeat' (first | (with_reducible exact Lz.rfl) | (exact Lw.rfl) | (exact Lz.wrap (by omega)) | ((unfold goInt); (with_reducible exact Lz.rfl)) | constructor)), by (repeat' (first | (with_reducible exact Lz.rfl) | (exact Lw.rfl) | (exact Lz.wrap (by omega)) | ((unfold goInt); (with_reducible exact Lz.rfl)) | constructor)), by rfl⟩, ?_⟩
        rintro r o' c' ⟨rfl, rfl, rfl⟩
        ((conv => whnf) <;> repeat ((with_reducible refine Drawn.mk (by kernel_rfl) ?_) <;> conv => whnf))
        obtain ⟨hq, hpq, hlq⟩ := opS_kv hkv ops[i]
        generalize hqe : opS p es ops[i] = q at *
        refine idxI h ?_
        ((conv => whnf) <;> repeat ((with_reducible refine Drawn.mk (by kernel_rfl) ?_) <;> conv => whnf))
        refine ⟨[], [some 0, some 1], _, _, _, _, vote_ok q.1 q.2 ops[i].slot, ⟨by (repeat' (first | (with_reducible exact Lz.rfl) | (exact Lw.rfl) | (exact Lz.wrap (by omega)) | ((unfold goInt); (with_reducible exact Lz.rfl)) | constructor)), by (repeat' (first | (with_reducible exact Lz.rfl) | (exact Lw.rfl) | (exact Lz.wrap (by omega)) | ((unfold goInt); (with_reducible exact Lz.rfl)) | constructor)), by rfl⟩, ?_⟩
        rintro r o' c' ⟨rfl, rfl, rfl⟩
        ((conv => whnf) <;> repeat ((with_reducible refine Drawn.mk (by kernel_rfl) ?_) <;> conv => whnf))
        refine idxI h ?_
        ((conv => whnf) <;> repeat ((with_reducible refine Drawn.mk (by kernel_rfl) ?_) <;> conv => whnf))
        rw [lookE_at hq.mv]
        refine ⟨[], [], _, _, _, _, refAt_ok (allV q.2) ops[i].slot (by rw [allV_len]; omega), ⟨by (repeat' (first | (with_reducible exact Lz.rfl) | (exact Lw.rfl) | (exact Lz.wrap (by omega)) | ((unfold goInt); (with_reducible exact Lz.rfl)) | constructor)), by (repeat' (first | (with_reducible exact Lz.rfl) | (exact Lw.rfl) | (exact Lz.wrap (by omega)) | ((unfold goInt); (with_reducible exact Lz.rfl)) | constructor)), by rfl⟩, ?_⟩
        rintro r o' c' ⟨rfl, rfl, rfl⟩
        ((conv => whnf) <;> repeat ((with_reducible refine Drawn.mk (by kernel_rfl) ?_) <;> conv => whnf))
        refine ⟨[], [some 0, some 1], _, _, _, _, promised2_ok q.1 q.2, ⟨by (repeat' (first | (with_reducible exact Lz.rfl) | (exact Lw.rfl) | (exact Lz.wrap (by omega)) | ((unfold goInt); (with_reducible exact Lz.rfl)) | constructor)), by (repeat' (first | (with_reducible exact Lz.rfl) | (exact Lw.rfl) | (exact Lz.wrap (by omega)) | ((unfold goInt); (with_reducible exact Lz.rfl)) | constructor)), by rfl⟩, ?_⟩
        rintro r o' c' ⟨rfl, rfl, rfl⟩
        ((conv => whnf) <;> repeat ((with_reducible refine Drawn.mk (by kernel_rfl) ?_) <;> conv => whnf))
        (first | (refine ⟨fun hx => ?_, fun hx => ?_⟩) | (refine nsplit (fun hx => ?_) (fun hx => ?_)) | (refine bsplit (fun hx => ?_) (fun hx => ?_))) <;> have hz_ := True.intro <;> clear hz_
        · cases hx rfl
        · ((conv => whnf) <;> repeat ((with_reducible refine Drawn.mk (by kernel_rfl) ?_) <;> conv => whnf))
          refine ⟨[], [some 0, some 1], _, _, _, _, len_ok q.1 q.2, ⟨by (repeat' (first | (with_reducible exact Lz.rfl) | (exact Lw.rfl) | (exact Lz.wrap (by omega)) | ((unfold goInt); (with_reducible exact Lz.rfl)) | constructor)), by (repeat' (first | (with_reducible exact Lz.rfl) | (exact Lw.rfl) | (exact Lz.wrap (by omega)) | ((unfold goInt); (with_reducible exact Lz.rfl)) | constructor)), by rfl⟩, ?_⟩
          rintro r o' c' ⟨rfl, rfl, rfl⟩
          ((conv => whnf) <;> repeat ((with_reducible refine Drawn.mk (by kernel_rfl) ?_) <;> conv => whnf))
          (first | (refine ⟨fun hx => ?_, fun hx => ?_⟩) | (refine nsplit (fun hx => ?_) (fun hx => ?_)) | (refine bsplit (fun hx => ?_) (fun hx => ?_))) <;> have hz_ := True.intro <;> clear hz_
          · have h8 : False := hx (by simp [allV_len])
            cases h8
          · ((conv => whnf) <;> repeat ((with_reducible refine Drawn.mk (by kernel_rfl) ?_) <;> conv => whnf))
            (first | (refine ⟨fun hv => ?_, fun hv => ?_⟩) | (refine nsplit (fun hv => ?_) (fun hv => ?_)) | (refine bsplit (fun hv => ?_) (fun hv => ?_))) <;> have hz_ := True.intro <;> clear hz_
            · cases eqB_false.1 ((veq_vote _ _).symm.trans hv) rfl
            ((conv => whnf) <;> repeat ((with_reducible refine Drawn.mk (by kernel_rfl) ?_) <;> conv => whnf))
            cases hb : (atS (allV q.2) ops[i].slot).isSome
            all_goals
              ((conv => whnf) <;> repeat ((with_reducible refine Drawn.mk (by kernel_rfl) ?_) <;> conv => whnf))
              have hvo : votesOf q.2 frm = frmS (allV q.2) frm := rising_all hq.mv frm
              refine ⟨[], [some 0, some 1], _, _, _, _, votes_ok q.1 q.2 frm (hq.ok (by omega)) (by omega), ⟨by (repeat' (first | (with_reducible exact Lz.rfl) | (exact Lw.rfl) | (exact Lz.wrap (by omega)) | ((unfold goInt); (with_reducible exact Lz.rfl)) | constructor)), by (repeat' (first | (with_reducible exact Lz.rfl) | (exact Lw.rfl) | (exact Lz.wrap (by omega)) | ((unfold goInt); (with_reducible exact Lz.rfl)) | constructor)), by rfl⟩, ?_⟩
              rintro r o' c' ⟨rfl, rfl, rfl⟩
              ((conv => whnf) <;> repeat ((with_reducible refine Drawn.mk (by kernel_rfl) ?_) <;> conv => whnf))
              refine ⟨[], [], _, _, _, _, refFrom_ok (allV q.2) frm (by rw [allV_len]; omega), ⟨by (repeat' (first | (with_reducible exact Lz.rfl) | (exact Lw.rfl) | (exact Lz.wrap (by omega)) | ((unfold goInt); (with_reducible exact Lz.rfl)) | constructor)), by (repeat' (first | (with_reducible exact Lz.rfl) | (exact Lw.rfl) | (exact Lz.wrap (by omega)) | ((unfold goInt); (with_reducible exact Lz.rfl)) | constructor)), by rfl⟩, ?_⟩
              rintro r o' c' ⟨rfl, rfl, rfl⟩
              ((conv => whnf) <;> repeat ((with_reducible refine Drawn.mk (by kernel_rfl) ?_) <;> conv => whnf))
              rw [hvo]
              refine ⟨[16], [], _, _, _, _, same_ok (frmS (allV q.2) frm) (frmS (allV q.2) frm) (Nat.lt_of_le_of_lt (List.length_filter_le _ _) (by rw [allV_len]; omega)), ⟨by (repeat' (first | (with_reducible exact Lz.rfl) | (exact Lw.rfl) | (exact Lz.wrap (by omega)) | ((unfold goInt); (with_reducible exact Lz.rfl)) | constructor)), by (repeat' (first | (with_reducible exact Lz.rfl) | (exact Lw.rfl) | (exact Lz.wrap (by omega)) | ((unfold goInt); (with_reducible exact Lz.rfl)) | constructor)), by rfl⟩, ?_⟩
              rintro r o' c' ⟨rfl, rfl, rfl⟩
              rw [show eqB (frmS (allV q.2) frm) (frmS (allV q.2) frm) = true from eqB_iff.2 rfl]
              ((conv => whnf) <;> repeat ((with_reducible refine Drawn.mk (by kernel_rfl) ?_) <;> conv => whnf))
              refine ⟨ops.length - (i + 1), ?_, by omega⟩
              refine ⟨[], [some 0, some 1, some 2], ?_⟩
              iterate 3 constructor
              refine ⟨⟨?_, ?_, ?_⟩, ⟨i + 1, q.1, q.2, h, rfl, hq, by omega, by omega, rfl, rfl, rfl⟩⟩
              all_goals (repeat' (first | (with_reducible exact Lz.rfl) | (exact Lw.rfl) | (exact Lz.wrap (by omega)) | ((unfold goInt); (with_reducible exact Lz.rfl)) | constructor))
      · ((conv => whnf) <;> repeat ((with_reducible refine Drawn.mk (by kernel_rfl) ?_) <;> conv => whnf))
        refine ⟨[], [], _, _, _, _, awake11, ⟨by (repeat' (first | (with_reducible exact Lz.rfl) | (exact Lw.rfl) | (exact Lz.wrap (by omega)) | ((unfold goInt); (with_reducible exact Lz.rfl)) | constructor)), by (repeat' (first | (with_reducible exact Lz.rfl) | (exact Lw.rfl) | (exact Lz.wrap (by omega)) | ((unfold goInt); (with_reducible exact Lz.rfl)) | constructor)), by rfl⟩, ?_⟩
        rintro r o' c' ⟨rfl, rfl, rfl⟩
        ((conv => whnf) <;> repeat ((with_reducible refine Drawn.mk (by kernel_rfl) ?_) <;> conv => whnf))
        exact ⟨[], [], [], .s (.bool true), [], ⟨.s Lz.rfl, .nil, rfl⟩, rfl⟩
    · ((conv => whnf) <;> repeat ((with_reducible refine Drawn.mk (by kernel_rfl) ?_) <;> conv => whnf))
      refine ⟨[], [], _, _, _, _, awake11, ⟨by (repeat' (first | (with_reducible exact Lz.rfl) | (exact Lw.rfl) | (exact Lz.wrap (by omega)) | ((unfold goInt); (with_reducible exact Lz.rfl)) | constructor)), by (repeat' (first | (with_reducible exact Lz.rfl) | (exact Lw.rfl) | (exact Lz.wrap (by omega)) | ((unfold goInt); (with_reducible exact Lz.rfl)) | constructor)), by rfl⟩, ?_⟩
      rintro r o' c' ⟨rfl, rfl, rfl⟩
      ((conv => whnf) <;> repeat ((with_reducible refine Drawn.mk (by kernel_rfl) ?_) <;> conv => whnf))
      exact ⟨[], [], [], .s (.bool true), [], ⟨.s Lz.rfl, .nil, rfl⟩, rfl⟩
end Go.M

namespace Go.M
open Go Go.Proofs
set_option maxRecDepth 100000
set_option maxHeartbeats 2000000
def inI (n : Int) : Prop := IntKind.i64.min ≤ n ∧ n ≤ IntKind.i64.max
def bestE1 (es : List (Int × Vote)) (v : Vote) : List (Int × Vote) := match lookE es v.slot with
  | none => putE es v.slot v
  | some w => if v.ballot > w.ballot then putE es v.slot v else es
def bestE (l : List Vote) : List (Int × Vote) := l.foldl bestE1 []
def bestR1 (out : List Vote) (v : Vote) : List Vote := match atS out v.slot with
  | none => put out v
  | some w => if v.ballot > w.ballot then put out v else out
theorem bestE_snoc (l : List Vote) (v : Vote) : bestE (l ++ [v]) = bestE1 (bestE l) v := by simp [bestE]
structure KB (es : List (Int × Vote)) : Prop where
  mv : MV es
  rng : ∀ e ∈ es, inI e.1
theorem KB.ok {es : List (Int × Vote)} (h : KB es) (hl : es.length < 1000) : ksOk (es.map (·.1)) := by
  refine ⟨by simp; omega, fun x hx => ?_, h.mv.nd⟩
  obtain ⟨e, he, rfl⟩ := List.mem_map.1 hx
  exact h.rng e he
theorem KB.put {es : List (Int × Vote)} (h : KB es) {v : Vote} (hv : inI v.slot) : KB (putE es v.slot v) :=
  ⟨h.mv.put v, fun e he => by
    rw [putE_mem h.mv.nd] at he
    rcases he with rfl | ⟨_, he⟩
    · exact hv
    · exact h.rng e he⟩
theorem putE_len (es : List (Int × Vote)) (n : Int) (v : Vote) : (putE es n v).length ≤ es.length + 1 := by
  have := congrArg List.length (putE_keys (n := n) (v := v) (es := es))
  simp only [List.length_map] at this
  rw [this]; split <;> simp
theorem bestE1_kb {es : List (Int × Vote)} (h : KB es) {v : Vote} (hv : inI v.slot) : KB (bestE1 es v) ∧ (bestE1 es v).length ≤ es.length + 1 ∧ allV (bestE1 es v) = bestR1 (allV es) v := by
  unfold bestE1 bestR1
  rw [← lookE_at h.mv]
  cases lookE es v.slot with
  | none => exact ⟨h.put hv, putE_len .., allV_put h.mv v⟩
  | some w =>
    by_cases hb : v.ballot > w.ballot
    · simp only [hb, if_true]; exact ⟨h.put hv, putE_len .., allV_put h.mv v⟩
    · simp only [hb, if_false]; exact ⟨h, Nat.le_succ _, trivial⟩
theorem bestE_kb {l : List Vote} (hl : ∀ v ∈ l, inI v.slot) : KB (bestE l) ∧ (bestE l).length ≤ l.length := by
  have : ∀ (l : List Vote) (es : List (Int × Vote)), KB es → (∀ v ∈ l, inI v.slot) → KB (l.foldl bestE1 es) ∧ (l.foldl bestE1 es).length ≤ es.length + l.length := by
    intro l
    induction l with
    | nil => intro es h _; exact ⟨h, Nat.le_refl _⟩
    | cons v l ih =>
      intro es h hv
      obtain ⟨h1, h2, _⟩ := bestE1_kb h (hv v List.mem_cons_self)
      obtain ⟨h3, h4⟩ := ih _ h1 fun w hw => hv w (List.mem_cons_of_mem _ hw)
      exact ⟨h3, by simp only [List.foldl_cons, List.length_cons]; omega⟩
  have := this l [] ⟨⟨by simp, by simp⟩, by simp⟩ hl
  unfold bestE
  simpa using this
def encL (l : List Vote) : List TV := [.sl 6 (l.map encV) false]
theorem flat_snoc {l : List (List Vote)} {i : Nat} (h : i < l.length) : (l.take (i + 1)).flatten = (l.take i).flatten ++ l[i] := by
  rw [List.take_succ_eq_append_getElem h, List.flatten_append, List.flatten_cons, List.flatten_nil, List.append_nil]
theorem flat_len8 {l : List (List Vote)} (h8 : l.length ≤ 8) (h40 : ∀ x ∈ l, x.length ≤ 40) {i : Nat} : (l.take i).flatten.length ≤ 320 := by
  have : ∀ m : List (List Vote), (∀ x ∈ m, x.length ≤ 40) → m.flatten.length ≤ 40 * m.length := by
    intro m
    induction m with
    | nil => simp
    | cons x m ih =>
      intro h
      have h1 := h x List.mem_cons_self
      have h2 := ih fun y hy => h y (List.mem_cons_of_mem _ hy)
      simp only [List.flatten_cons, List.length_append, List.length_cons]
      omega
  have h1 := this (l.take i) fun x hx => h40 x (List.mem_of_mem_take hx)
  have h2 : (l.take i).length ≤ 8 := by rw [List.length_take]; omega
  omega
theorem pre_in {l : List (List Vote)} (hr : ∀ x ∈ l, ∀ v ∈ x, inI v.slot) {i j : Nat} (h : i < l.length) : ∀ v ∈ (l.take i).flatten ++ l[i].take j, inI v.slot := by
  intro v hv
  rcases List.mem_append.1 hv with hv | hv
  · obtain ⟨x, hx, hv⟩ := List.mem_flatten.1 hv
    exact hr x (List.mem_of_mem_take hx) v hv
  · exact hr _ (List.getElem_mem h) v (List.mem_of_mem_take hv)
def bestV (l : List (List Vote)) : List Vote := allV (bestE l.flatten)
theorem min_rising {es : List (Int × Vote)} (h : MV es) (h0 : 0 < es.length) : rising es (Small.minZ (es.map (·.1))) (sortZ (es.map (·.1))) = allV es := by
  rw [rising_all h, List.filter_eq_self]
  intro v hv
  have := (mem_allV h).1 hv
  exact decide_eq_true ((Small.minZ_spec (by simpa using h0)).2 _ (List.mem_map.2 ⟨_, this, rfl⟩))
theorem collect_ok (es : List (Int × Vote)) (hok : ksOk (es.map (·.1))) (h0 : 0 < es.length) : VC E0 80 2 [.clo 123 [] [.ptr 1 0]] [(0, .map (kIdx .i64) (es.map encE)), (1, .cells [.mp 0])] (fun r o c => r = .bg 2 (es.map (·.1)).length ∧ c = 3 ∧
      o = [(2, .bag (es.map (·.1))), (0, .map (kIdx .i64) (es.map encE)), (1, .cells [.mp 0])]) :=
  VC.collect (E := E0) (g := 80) (its := [123]) (k := 123) (by kernel_rfl) (fun _ _ => rfl) rfl (y := .map (kIdx .i64) (es.map encE)) (ks := es.map (·.1)) (by simp [KeysO, Function.comp_def, encE]) hok (by intro e; simp at e; subst e; simp at h0)
theorem minc_ok (ks : List Int) (h0 : 0 < ks.length) (hl : ks.length ≤ 1000000) : VC E0 86 1 [.bg 0 ks.length] [(0, .bag ks)] (fun r o c => r = .s (.int .i64 (Small.minZ ks)) ∧ c = 1 ∧ o = [(0, .bag ks)]) :=
  VC.bagged (E := E0) (g := 86) (val := minVal) (pre := []) (by kernel_rfl) (fun _ _ => rfl) (by simp) h0 (v := .int .i64 (Small.minZ ks)) (by
    cases ks with
    | nil => simp at h0
    | cons a l => simp only [minVal, grd]; rw [Nat.ble_eq_true_of_le hl]) rfl
theorem best_ok (l : List (List Vote)) (h8 : l.length ≤ 8) (h40 : ∀ x ∈ l, x.length ≤ 40) (hr : ∀ x ∈ l, ∀ v ∈ x, inI v.slot) : VC E0 46 0 [.sl 1 (l.map encL) false] [] (RR (.sl 6 ((bestV l).map encV) false) 0 []) := by
  refine VC.enterR L0 (show E0.func 46 = some Try.f46 by kernel_rfl) (fun _ _ => rfl) rfl rfl [] ?_
  ((conv => whnf) <;> repeat ((with_reducible refine Drawn.mk (by kernel_rfl) ?_) <;> conv => whnf))
  refine ⟨fun k f o c => ∃ i : Nat, i ≤ l.length ∧ k = l.length - i ∧ c = 1 ∧ f = [(3, .mp 0), (11, .sl 1 (l.map encL) false), (12, .s (.int .i64 l.length)), (13, .s (.int .i64 i))] ∧ o = [(0, mapO (bestE (l.take i).flatten))], ⟨l.length, ?_⟩, ?_⟩
  · refine ⟨[], [some 0], ?_⟩
    iterate 3 constructor
    refine ⟨⟨?_, ?_, ?_⟩, ⟨0, Nat.zero_le _, rfl, rfl, rfl, rfl⟩⟩
    all_goals (repeat' (first | (with_reducible exact Lz.rfl) | (exact Lw.rfl) | (exact Lz.wrap (by omega)) | ((unfold goInt); (with_reducible exact Lz.rfl)) | constructor))
    all_goals exact Lz.of (by simp [goInt])
  · rintro k f1 o1 c1 ⟨i, hi, rfl, rfl, rfl, rfl⟩
    ((conv => whnf) <;> repeat ((with_reducible refine Drawn.mk (by kernel_rfl) ?_) <;> conv => whnf))
    (first | (refine ⟨fun h => ?_, fun h => ?_⟩) | (refine nsplit (fun h => ?_) (fun h => ?_)) | (refine bsplit (fun h => ?_) (fun h => ?_))) <;> have hz_ := True.intro <;> clear hz_
    · have h : i < l.length := by simpa using h
      have hl40 := h40 _ (List.getElem_mem h)
      ((conv => whnf) <;> repeat ((with_reducible refine Drawn.mk (by kernel_rfl) ?_) <;> conv => whnf))
      refine idxI h ?_
      ((conv => whnf) <;> repeat ((with_reducible refine Drawn.mk (by kernel_rfl) ?_) <;> conv => whnf))
      refine ⟨fun k f o c => ∃ j : Nat, j ≤ l[i].length ∧ k = l[i].length - j ∧ c = 1 ∧ f = [(3, .mp 0), (11, .sl 1 (l.map encL) false), (12, .s (.int .i64 l.length)), (13, .s (.int .i64 i)), (17, .sl 6 (l[i].map encV) false), (18, .s (.int .i64 l[i].length)), (19, .s (.int .i64 j))] ∧ o = [(0, mapO (bestE ((l.take i).flatten ++ l[i].take j)))], ⟨l[i].length, ?_⟩, ?_⟩
      · refine ⟨[], [some 0], ?_⟩
        iterate 3 constructor
        refine ⟨⟨?_, ?_, ?_⟩, ⟨0, Nat.zero_le _, rfl, rfl, rfl, rfl⟩⟩
        all_goals (repeat' (first | (with_reducible exact Lz.rfl) | (exact Lw.rfl) | (exact Lz.wrap (by omega)) | ((unfold goInt); (with_reducible exact Lz.rfl)) | constructor))
        all_goals first | exact Lz.of (by simp [goInt]) | exact Lz.of (by simp)
      · rintro k f1 o1 c1 ⟨j, hj, rfl, rfl, rfl, rfl⟩
        ((conv => whnf) <;> repeat ((with_reducible refine Drawn.mk (by kernel_rfl) ?_) <;> conv => whnf))
        (first | (refine ⟨fun hj => ?_, fun hj => ?_⟩) | (refine nsplit (fun hj => ?_) (fun hj => ?_)) | (refine bsplit (fun hj => ?_) (fun hj => ?_))) <;> have hz_ := True.intro <;> clear hz_
        · have hj : j < l[i].length := by simpa using hj
          obtain ⟨hkb, hlen⟩ := bestE_kb (pre_in hr (j := j) h)
          have hsn : bestE ((l.take i).flatten ++ l[i].take (j + 1)) = bestE1 (bestE ((l.take i).flatten ++ l[i].take j)) l[i][j] := by
            rw [List.take_succ_eq_append_getElem hj, ← List.append_assoc, bestE_snoc]
          generalize hes : bestE ((l.take i).flatten ++ l[i].take j) = es at *
          ((conv => whnf) <;> repeat ((with_reducible refine Drawn.mk (by kernel_rfl) ?_) <;> conv => whnf))
          refine idxI hj ?_
          ((conv => whnf) <;> repeat ((with_reducible refine Drawn.mk (by kernel_rfl) ?_) <;> conv => whnf))
          have hlk := lookM_enc l[i][j].slot es
          cases hv : lookE es l[i][j].slot with
          | none =>
            rw [hv] at hlk
            refine ⟨_, hlk, ?_⟩
            ((conv => whnf) <;> repeat ((with_reducible refine Drawn.mk (by kernel_rfl) ?_) <;> conv => whnf))
            refine ⟨l[i].length - (j + 1), ?_, by omega⟩
            refine ⟨[], [some 0], ?_⟩
            iterate 3 constructor
            refine ⟨⟨?_, ?_, ?_⟩, ⟨j + 1, hj, rfl, rfl, rfl, rfl⟩⟩
            all_goals (repeat' (first | (with_reducible exact Lz.rfl) | (exact Lw.rfl) | (exact Lz.wrap (by omega)) | ((unfold goInt); (with_reducible exact Lz.rfl)) | constructor))
            refine Lz.of ?_
            rw [hsn]; unfold bestE1; rw [hv]; exact putM_enc _ _ _
          | some w =>
            rw [hv] at hlk
            refine ⟨_, hlk, ?_⟩
            ((conv => whnf) <;> repeat ((with_reducible refine Drawn.mk (by kernel_rfl) ?_) <;> conv => whnf))
            (first | (refine ⟨fun hb => ?_, fun hb => ?_⟩) | (refine nsplit (fun hb => ?_) (fun hb => ?_)) | (refine bsplit (fun hb => ?_) (fun hb => ?_))) <;> have hz_ := True.intro <;> clear hz_
            · ((conv => whnf) <;> repeat ((with_reducible refine Drawn.mk (by kernel_rfl) ?_) <;> conv => whnf))
              refine ⟨l[i].length - (j + 1), ?_, by omega⟩
              refine ⟨[], [some 0], ?_⟩
              iterate 3 constructor
              refine ⟨⟨?_, ?_, ?_⟩, ⟨j + 1, hj, rfl, rfl, rfl, rfl⟩⟩
              all_goals (repeat' (first | (with_reducible exact Lz.rfl) | (exact Lw.rfl) | (exact Lz.wrap (by omega)) | ((unfold goInt); (with_reducible exact Lz.rfl)) | constructor))
              refine Lz.of ?_
              rw [hsn]; unfold bestE1; rw [hv]; simp only; rw [if_pos hb]; exact putM_enc _ _ _
            · ((conv => whnf) <;> repeat ((with_reducible refine Drawn.mk (by kernel_rfl) ?_) <;> conv => whnf))
              refine ⟨l[i].length - (j + 1), ?_, by omega⟩
              refine ⟨[], [some 0], ?_⟩
              iterate 3 constructor
              refine ⟨⟨?_, ?_, ?_⟩, ⟨j + 1, hj, rfl, rfl, rfl, rfl⟩⟩
              all_goals (repeat' (first | (with_reducible exact Lz.rfl) | (exact Lw.rfl) | (exact Lz.wrap (by omega)) | ((unfold goInt); (with_reducible exact Lz.rfl)) | constructor))
              refine Lz.of ?_
              rw [hsn]; unfold bestE1; rw [hv]; simp only; rw [if_neg hb]
        · have hj' : j = l[i].length := by have : ¬ j < l[i].length := by simpa using hj
                                           omega
          subst hj'
          ((conv => whnf) <;> repeat ((with_reducible refine Drawn.mk (by kernel_rfl) ?_) <;> conv => whnf))
          refine ⟨l.length - (i + 1), ?_, by omega⟩
          refine ⟨[], [some 0], ?_⟩
          iterate 3 constructor
          refine ⟨⟨?_, ?_, ?_⟩, ⟨i + 1, h, rfl, rfl, rfl, rfl⟩⟩
          all_goals (repeat' (first | (with_reducible exact Lz.rfl) | (exact Lw.rfl) | (exact Lz.wrap (by omega)) | ((unfold goInt); (with_reducible exact Lz.rfl)) | constructor))
          refine Lz.of ?_
          rw [flat_snoc h, List.take_length]
    · have h' : i = l.length := by have : ¬ i < l.length := by simpa using h
                                   omega
      subst h'
      have hb : bestE (l.take l.length).flatten = bestE l.flatten := by rw [List.take_length]
      rw [hb]
      have hfl : l.flatten.length ≤ 320 := by have := flat_len8 h8 h40 (i := l.length); rwa [List.take_length] at this
      obtain ⟨hkb, hlen⟩ := bestE_kb (l := l.flatten) (fun v hv => by obtain ⟨x, hx, hv⟩ := List.mem_flatten.1 hv; exact hr x hx v hv)
      have hbv : bestV l = allV (bestE l.flatten) := rfl
      generalize hes : bestE l.flatten = es at *
      ((conv => whnf) <;> repeat ((with_reducible refine Drawn.mk (by kernel_rfl) ?_) <;> conv => whnf))
      (first | (refine ⟨fun h0 => ?_, fun h0 => ?_⟩) | (refine nsplit (fun h0 => ?_) (fun h0 => ?_)) | (refine bsplit (fun h0 => ?_) (fun h0 => ?_))) <;> have hz_ := True.intro <;> clear hz_
      · have h0 : es = [] := by simpa using h0
        subst h0
        rw [hbv]
        ((conv => whnf) <;> repeat ((with_reducible refine Drawn.mk (by kernel_rfl) ?_) <;> conv => whnf))
        refine ⟨[], [], ?_⟩
        iterate 3 constructor
        refine ⟨⟨?_, ?_, ?_⟩, rfl, rfl, rfl⟩
        all_goals (repeat' (first | (with_reducible exact Lz.rfl) | (exact Lw.rfl) | (exact Lz.wrap (by omega)) | ((unfold goInt); (with_reducible exact Lz.rfl)) | constructor))
        exact Lz.of (by simp [allV, sortZ])
      · have h0 : 0 < es.length := by
          have : es ≠ [] := by simpa using h0
          exact List.length_pos_iff.2 this
        ((conv => whnf) <;> repeat ((with_reducible refine Drawn.mk (by kernel_rfl) ?_) <;> conv => whnf))
        refine ⟨[], [some 0], _, _, _, _, keys_ok (es.map encE), ⟨by (repeat' (first | (with_reducible exact Lz.rfl) | (exact Lw.rfl) | (exact Lz.wrap (by omega)) | ((unfold goInt); (with_reducible exact Lz.rfl)) | constructor)), by (repeat' (first | (with_reducible exact Lz.rfl) | (exact Lw.rfl) | (exact Lz.wrap (by omega)) | ((unfold goInt); (with_reducible exact Lz.rfl)) | constructor)), by rfl⟩, ?_⟩
        rintro r o' c' ⟨rfl, rfl, rfl⟩
        ((conv => whnf) <;> repeat ((with_reducible refine Drawn.mk (by kernel_rfl) ?_) <;> conv => whnf))
        refine ⟨[], [some 0, some 2], _, _, _, _, collect_ok es (hkb.ok (by omega)) h0, ⟨by (repeat' (first | (with_reducible exact Lz.rfl) | (exact Lw.rfl) | (exact Lz.wrap (by omega)) | ((unfold goInt); (with_reducible exact Lz.rfl)) | constructor)), by (repeat' (first | (with_reducible exact Lz.rfl) | (exact Lw.rfl) | (exact Lz.wrap (by omega)) | ((unfold goInt); (with_reducible exact Lz.rfl)) | constructor)), by rfl⟩, ?_⟩
        rintro r o' c' ⟨rfl, rfl, rfl⟩
        ((conv => whnf) <;> repeat ((with_reducible refine Drawn.mk (by kernel_rfl) ?_) <;> conv => whnf))
        refine ⟨[], [some 5], _, _, _, _, minc_ok (es.map (·.1)) (by simpa using h0) (by simp; omega), ⟨by (repeat' (first | (with_reducible exact Lz.rfl) | (exact Lw.rfl) | (exact Lz.wrap (by omega)) | ((unfold goInt); (with_reducible exact Lz.rfl)) | constructor)), by (repeat' (first | (with_reducible exact Lz.rfl) | (exact Lw.rfl) | (exact Lz.wrap (by omega)) | ((unfold goInt); (with_reducible exact Lz.rfl)) | constructor)), by rfl⟩, ?_⟩
        rintro r o' c' ⟨rfl, rfl, rfl⟩
        ((conv => whnf) <;> repeat ((with_reducible refine Drawn.mk (by kernel_rfl) ?_) <;> conv => whnf))
        refine ⟨[], [some 0], _, _, _, _, rising_ok es (Small.minZ (es.map (·.1))) (hkb.ok (by omega)) (by omega), ⟨by (repeat' (first | (with_reducible exact Lz.rfl) | (exact Lw.rfl) | (exact Lz.wrap (by omega)) | ((unfold goInt); (with_reducible exact Lz.rfl)) | constructor)), by (repeat' (first | (with_reducible exact Lz.rfl) | (exact Lw.rfl) | (exact Lz.wrap (by omega)) | ((unfold goInt); (with_reducible exact Lz.rfl)) | constructor)), by rfl⟩, ?_⟩
        rintro r o' c' ⟨rfl, rfl, rfl⟩
        ((conv => whnf) <;> repeat ((with_reducible refine Drawn.mk (by kernel_rfl) ?_) <;> conv => whnf))
        rw [min_rising hkb.mv h0, hbv]
        refine ⟨[8], [], ?_⟩
        iterate 3 constructor
        refine ⟨⟨?_, ?_, ?_⟩, rfl, rfl, rfl⟩
        all_goals (repeat' (first | (with_reducible exact Lz.rfl) | (exact Lw.rfl) | (exact Lz.wrap (by omega)) | ((unfold goInt); (with_reducible exact Lz.rfl)) | constructor))
end Go.M

namespace Go.M
open Go Go.Proofs
set_option maxRecDepth 100000
set_option maxHeartbeats 2000000
theorem refBest_ok (l : List (List Vote)) (h8 : l.length ≤ 8) (h40 : ∀ x ∈ l, x.length ≤ 40) (hr : ∀ x ∈ l, ∀ v ∈ x, inI v.slot) : VC E0 47 0 [.sl 1 (l.map encL) false] [] (RR (.sl 6 ((bestV l).map encV) false) 0 []) := by
  refine VC.enterR L0 (show E0.func 47 = some Try.f47 by kernel_rfl) (fun _ _ => rfl) rfl rfl [] ?_
  ((conv => whnf) <;> repeat ((with_reducible refine Drawn.mk (by kernel_rfl) ?_) <;> conv => whnf))
  refine ⟨fun k f o c => ∃ i : Nat, i ≤ l.length ∧ k = l.length - i ∧ c = 0 ∧ f = [(0, .sl 1 (l.map encL) false), (3, .sl 6 ((allV (bestE (l.take i).flatten)).map encV) false), (4, .s (.int .i64 i))] ∧ o = [], ⟨l.length, ?_⟩, ?_⟩
  · refine ⟨[], [], ?_⟩
    iterate 3 constructor
    refine ⟨⟨?_, ?_, ?_⟩, ⟨0, Nat.zero_le _, rfl, rfl, rfl, rfl⟩⟩
    all_goals (repeat' (first | (with_reducible exact Lz.rfl) | (exact Lw.rfl) | (exact Lz.wrap (by omega)) | ((unfold goInt); (with_reducible exact Lz.rfl)) | constructor))
    refine Lz.of ?_; simp [bestE, allV, sortZ]
  · rintro k f1 o1 c1 ⟨i, hi, rfl, rfl, rfl, rfl⟩
    ((conv => whnf) <;> repeat ((with_reducible refine Drawn.mk (by kernel_rfl) ?_) <;> conv => whnf))
    (first | (refine ⟨fun h => ?_, fun h => ?_⟩) | (refine nsplit (fun h => ?_) (fun h => ?_)) | (refine bsplit (fun h => ?_) (fun h => ?_))) <;> have hz_ := True.intro <;> clear hz_
    · have h := lenlt.1 h
      have hl40 := h40 _ (List.getElem_mem h)
      ((conv => whnf) <;> repeat ((with_reducible refine Drawn.mk (by kernel_rfl) ?_) <;> conv => whnf))
      refine ⟨fun k f o c => ∃ j : Nat, j ≤ l[i].length ∧ k = l[i].length - j ∧ c = 0 ∧ f = [(0, .sl 1 (l.map encL) false), (3, .sl 6 ((allV (bestE ((l.take i).flatten ++ l[i].take j))).map encV) false), (4, .s (.int .i64 i)), (5, .s (.int .i64 j))] ∧ o = [], ⟨l[i].length, ?_⟩, ?_⟩
      · refine ⟨[], [], ?_⟩
        iterate 3 constructor
        refine ⟨⟨?_, ?_, ?_⟩, ⟨0, Nat.zero_le _, rfl, rfl, rfl, rfl⟩⟩
        all_goals (repeat' (first | (with_reducible exact Lz.rfl) | (exact Lw.rfl) | (exact Lz.wrap (by omega)) | ((unfold goInt); (with_reducible exact Lz.rfl)) | constructor))
        all_goals exact Lz.of (by simp)
      · rintro k f1 o1 c1 ⟨j, hj, rfl, rfl, rfl, rfl⟩
        ((conv => whnf) <;> repeat ((with_reducible refine Drawn.mk (by kernel_rfl) ?_) <;> conv => whnf))
        refine idxI h ?_
        ((conv => whnf) <;> repeat ((with_reducible refine Drawn.mk (by kernel_rfl) ?_) <;> conv => whnf))
        (first | (refine ⟨fun hj => ?_, fun hj => ?_⟩) | (refine nsplit (fun hj => ?_) (fun hj => ?_)) | (refine bsplit (fun hj => ?_) (fun hj => ?_))) <;> have hz_ := True.intro <;> clear hz_
        · have hj := lenlt.1 hj
          obtain ⟨hkb, hlen⟩ := bestE_kb (pre_in hr (j := j) h)
          have hfl := flat_len8 h8 h40 (i := i)
          have hin : inI l[i][j].slot := hr _ (List.getElem_mem h) _ (List.getElem_mem hj)
          have hsn : allV (bestE ((l.take i).flatten ++ l[i].take (j + 1))) = bestR1 (allV (bestE ((l.take i).flatten ++ l[i].take j))) l[i][j] := by
            rw [List.take_succ_eq_append_getElem hj, ← List.append_assoc, bestE_snoc]; exact (bestE1_kb hkb hin).2.2
          have hal : (allV (bestE ((l.take i).flatten ++ l[i].take j))).length < 1000 := by
            rw [allV_len]
            refine Nat.lt_of_le_of_lt hlen ?_
            rw [List.length_append, List.length_take]; omega
          generalize hes : allV (bestE ((l.take i).flatten ++ l[i].take j)) = out at *
          ((conv => whnf) <;> repeat ((with_reducible refine Drawn.mk (by kernel_rfl) ?_) <;> conv => whnf))
          refine idxI h ?_
          ((conv => whnf) <;> repeat ((with_reducible refine Drawn.mk (by kernel_rfl) ?_) <;> conv => whnf))
          refine idxI hj ?_
          ((conv => whnf) <;> repeat ((with_reducible refine Drawn.mk (by kernel_rfl) ?_) <;> conv => whnf))
          refine ⟨[], [], _, _, _, _, refAt_ok out l[i][j].slot (by omega), ⟨by (repeat' (first | (with_reducible exact Lz.rfl) | (exact Lw.rfl) | (exact Lz.wrap (by omega)) | ((unfold goInt); (with_reducible exact Lz.rfl)) | constructor)), by (repeat' (first | (with_reducible exact Lz.rfl) | (exact Lw.rfl) | (exact Lz.wrap (by omega)) | ((unfold goInt); (with_reducible exact Lz.rfl)) | constructor)), by rfl⟩, ?_⟩
          rintro r o' c' ⟨rfl, rfl, rfl⟩
          cases hv : atS out l[i][j].slot with
          | none =>
            ((conv => whnf) <;> repeat ((with_reducible refine Drawn.mk (by kernel_rfl) ?_) <;> conv => whnf))
            refine idxI h ?_
            ((conv => whnf) <;> repeat ((with_reducible refine Drawn.mk (by kernel_rfl) ?_) <;> conv => whnf))
            refine idxI hj ?_
            ((conv => whnf) <;> repeat ((with_reducible refine Drawn.mk (by kernel_rfl) ?_) <;> conv => whnf))
            refine ⟨[], [], _, _, _, _, refPut_ok out l[i][j] hal, ⟨by (repeat' (first | (with_reducible exact Lz.rfl) | (exact Lw.rfl) | (exact Lz.wrap (by omega)) | ((unfold goInt); (with_reducible exact Lz.rfl)) | constructor)), by (repeat' (first | (with_reducible exact Lz.rfl) | (exact Lw.rfl) | (exact Lz.wrap (by omega)) | ((unfold goInt); (with_reducible exact Lz.rfl)) | constructor)), by rfl⟩, ?_⟩
            rintro r o' c' ⟨rfl, rfl, rfl⟩
            ((conv => whnf) <;> repeat ((with_reducible refine Drawn.mk (by kernel_rfl) ?_) <;> conv => whnf))
            ((conv => whnf) <;> repeat ((with_reducible refine Drawn.mk (by kernel_rfl) ?_) <;> conv => whnf))
            refine ⟨l[i].length - (j + 1), ?_, by omega⟩
            refine ⟨[], [], ?_⟩
            iterate 3 constructor
            refine ⟨⟨?_, ?_, ?_⟩, ⟨j + 1, hj, rfl, rfl, rfl, rfl⟩⟩
            all_goals (repeat' (first | (with_reducible exact Lz.rfl) | (exact Lw.rfl) | (exact Lz.wrap (by omega)) | ((unfold goInt); (with_reducible exact Lz.rfl)) | constructor))
            refine Lz.of ?_
            rw [hsn]; unfold bestR1; rw [hv]
          | some w =>
            ((conv => whnf) <;> repeat ((with_reducible refine Drawn.mk (by kernel_rfl) ?_) <;> conv => whnf))
            refine idxI h ?_
            ((conv => whnf) <;> repeat ((with_reducible refine Drawn.mk (by kernel_rfl) ?_) <;> conv => whnf))
            refine idxI hj ?_
            ((conv => whnf) <;> repeat ((with_reducible refine Drawn.mk (by kernel_rfl) ?_) <;> conv => whnf))
            (first | (refine ⟨fun hb => ?_, fun hb => ?_⟩) | (refine nsplit (fun hb => ?_) (fun hb => ?_)) | (refine bsplit (fun hb => ?_) (fun hb => ?_))) <;> have hz_ := True.intro <;> clear hz_
            · have hb : l[i][j].ballot > w.ballot := hb
              ((conv => whnf) <;> repeat ((with_reducible refine Drawn.mk (by kernel_rfl) ?_) <;> conv => whnf))
              refine idxI h ?_
              ((conv => whnf) <;> repeat ((with_reducible refine Drawn.mk (by kernel_rfl) ?_) <;> conv => whnf))
              refine idxI hj ?_
              ((conv => whnf) <;> repeat ((with_reducible refine Drawn.mk (by kernel_rfl) ?_) <;> conv => whnf))
              refine ⟨[], [], _, _, _, _, refPut_ok out l[i][j] hal, ⟨by (repeat' (first | (with_reducible exact Lz.rfl) | (exact Lw.rfl) | (exact Lz.wrap (by omega)) | ((unfold goInt); (with_reducible exact Lz.rfl)) | constructor)), by (repeat' (first | (with_reducible exact Lz.rfl) | (exact Lw.rfl) | (exact Lz.wrap (by omega)) | ((unfold goInt); (with_reducible exact Lz.rfl)) | constructor)), by rfl⟩, ?_⟩
              rintro r o' c' ⟨rfl, rfl, rfl⟩
              ((conv => whnf) <;> repeat ((with_reducible refine Drawn.mk (by kernel_rfl) ?_) <;> conv => whnf))
              ((conv => whnf) <;> repeat ((with_reducible refine Drawn.mk (by kernel_rfl) ?_) <;> conv => whnf))
              refine ⟨l[i].length - (j + 1), ?_, by omega⟩
              refine ⟨[], [], ?_⟩
              iterate 3 constructor
              refine ⟨⟨?_, ?_, ?_⟩, ⟨j + 1, hj, rfl, rfl, rfl, rfl⟩⟩
              all_goals (repeat' (first | (with_reducible exact Lz.rfl) | (exact Lw.rfl) | (exact Lz.wrap (by omega)) | ((unfold goInt); (with_reducible exact Lz.rfl)) | constructor))
              refine Lz.of ?_
              rw [hsn]; unfold bestR1; rw [hv]; simp only; rw [if_pos hb]
            · have hb : ¬ l[i][j].ballot > w.ballot := hb
              ((conv => whnf) <;> repeat ((with_reducible refine Drawn.mk (by kernel_rfl) ?_) <;> conv => whnf))
              refine ⟨l[i].length - (j + 1), ?_, by omega⟩
              refine ⟨[], [], ?_⟩
              iterate 3 constructor
              refine ⟨⟨?_, ?_, ?_⟩, ⟨j + 1, hj, rfl, rfl, rfl, rfl⟩⟩
              all_goals (repeat' (first | (with_reducible exact Lz.rfl) | (exact Lw.rfl) | (exact Lz.wrap (by omega)) | ((unfold goInt); (with_reducible exact Lz.rfl)) | constructor))
              refine Lz.of ?_
              rw [hsn]; unfold bestR1; rw [hv]; simp only; rw [if_neg hb]
        · have hj' : j = l[i].length := by have := mt lenlt.2 hj
                                           omega
          subst hj'
          ((conv => whnf) <;> repeat ((with_reducible refine Drawn.mk (by kernel_rfl) ?_) <;> conv => whnf))
          refine ⟨l.length - (i + 1), ?_, by omega⟩
          refine ⟨[], [], ?_⟩
          iterate 3 constructor
          refine ⟨⟨?_, ?_, ?_⟩, ⟨i + 1, h, rfl, rfl, rfl, rfl⟩⟩
          all_goals (repeat' (first | (with_reducible exact Lz.rfl) | (exact Lw.rfl) | (exact Lz.wrap (by omega)) | ((unfold goInt); (with_reducible exact Lz.rfl)) | constructor))
          refine Lz.of ?_
          rw [flat_snoc h, List.take_length]
    · have h' : i = l.length := by have := mt lenlt.2 h
                                   omega
      subst h'
      ((conv => whnf) <;> repeat ((with_reducible refine Drawn.mk (by kernel_rfl) ?_) <;> conv => whnf))
      refine ⟨[], [], ?_⟩
      iterate 3 constructor
      refine ⟨⟨?_, ?_, ?_⟩, rfl, rfl, rfl⟩
      all_goals (repeat' (first | (with_reducible exact Lz.rfl) | (exact Lw.rfl) | (exact Lz.wrap (by omega)) | ((unfold goInt); (with_reducible exact Lz.rfl)) | constructor))
      all_goals exact Lz.of (by rw [List.take_length]; rfl)
theorem bestlaw_ok (l : List (List Vote)) (hr : ∀ x ∈ l, ∀ v ∈ x, inI v.slot) : VC E0 10 0 [.sl 1 (l.map encL) false] [] (fun r _ _ => r = .s (.bool true)) := by
  refine VC.enterR L0 (show E0.func 10 = some Try.f10 by kernel_rfl) (fun _ _ => rfl) rfl rfl [] ?_
  ((conv => whnf) <;> repeat ((with_reducible refine Drawn.mk (by kernel_rfl) ?_) <;> conv => whnf))
  (first | (refine ⟨fun h8 => ?_, fun h8 => ?_⟩) | (refine nsplit (fun h8 => ?_) (fun h8 => ?_)) | (refine bsplit (fun h8 => ?_) (fun h8 => ?_))) <;> have hz_ := True.intro <;> clear hz_
  · ((conv => whnf) <;> repeat ((with_reducible refine Drawn.mk (by kernel_rfl) ?_) <;> conv => whnf))
    refine ⟨[], [], _, _, _, _, awake11, ⟨by (repeat' (first | (with_reducible exact Lz.rfl) | (exact Lw.rfl) | (exact Lz.wrap (by omega)) | ((unfold goInt); (with_reducible exact Lz.rfl)) | constructor)), by (repeat' (first | (with_reducible exact Lz.rfl) | (exact Lw.rfl) | (exact Lz.wrap (by omega)) | ((unfold goInt); (with_reducible exact Lz.rfl)) | constructor)), by rfl⟩, ?_⟩
    rintro r o' c' ⟨rfl, rfl, rfl⟩
    ((conv => whnf) <;> repeat ((with_reducible refine Drawn.mk (by kernel_rfl) ?_) <;> conv => whnf))
    exact ⟨[], [], [], .s (.bool true), [], ⟨.s Lz.rfl, .nil, rfl⟩, rfl⟩
  · have h8 : l.length ≤ 8 := by have : ¬ (((l.map encL).length : Nat) : Int) > 8 := h8
                                 simp at this; omega
    ((conv => whnf) <;> repeat ((with_reducible refine Drawn.mk (by kernel_rfl) ?_) <;> conv => whnf))
    refine ⟨fun k f o c => ∃ i : Nat, i ≤ l.length ∧ k = l.length - i ∧ (∀ x ∈ l.take i, x.length ≤ 40) ∧ c = 0 ∧ f = [(0, .sl 1 (l.map encL) false), (3, .s (.int .i64 i))] ∧ o = [], ⟨l.length, ?_⟩, ?_⟩
    · refine ⟨[], [], ?_⟩
      iterate 3 constructor
      refine ⟨⟨?_, ?_, ?_⟩, ⟨0, Nat.zero_le _, rfl, by simp, rfl, rfl, rfl⟩⟩
      all_goals (repeat' (first | (with_reducible exact Lz.rfl) | (exact Lw.rfl) | (exact Lz.wrap (by omega)) | ((unfold goInt); (with_reducible exact Lz.rfl)) | constructor))
    · rintro k f1 o1 c1 ⟨i, hi, rfl, h40, rfl, rfl, rfl⟩
      ((conv => whnf) <;> repeat ((with_reducible refine Drawn.mk (by kernel_rfl) ?_) <;> conv => whnf))
      (first | (refine ⟨fun h => ?_, fun h => ?_⟩) | (refine nsplit (fun h => ?_) (fun h => ?_)) | (refine bsplit (fun h => ?_) (fun h => ?_))) <;> have hz_ := True.intro <;> clear hz_
      · have h := lenlt.1 h
        ((conv => whnf) <;> repeat ((with_reducible refine Drawn.mk (by kernel_rfl) ?_) <;> conv => whnf))
        refine idxI h ?_
        ((conv => whnf) <;> repeat ((with_reducible refine Drawn.mk (by kernel_rfl) ?_) <;> conv => whnf))
        (first | (refine ⟨fun hx => ?_, fun hx => ?_⟩) | (refine nsplit (fun hx => ?_) (fun hx => ?_)) | (refine bsplit (fun hx => ?_) (fun hx => ?_))) <;> have hz_ := True.intro <;> clear hz_
        · ((conv => whnf) <;> repeat ((with_reducible refine Drawn.mk (by kernel_rfl) ?_) <;> conv => whnf))
          refine ⟨[], [], _, _, _, _, awake11, ⟨by (repeat' (first | (with_reducible exact Lz.rfl) | (exact Lw.rfl) | (exact Lz.wrap (by omega)) | ((unfold goInt); (with_reducible exact Lz.rfl)) | constructor)), by (repeat' (first | (with_reducible exact Lz.rfl) | (exact Lw.rfl) | (exact Lz.wrap (by omega)) | ((unfold goInt); (with_reducible exact Lz.rfl)) | constructor)), by rfl⟩, ?_⟩
          rintro r o' c' ⟨rfl, rfl, rfl⟩
          ((conv => whnf) <;> repeat ((with_reducible refine Drawn.mk (by kernel_rfl) ?_) <;> conv => whnf))
          exact ⟨[], [], [], .s (.bool true), [], ⟨.s Lz.rfl, .nil, rfl⟩, rfl⟩
        · have hx : l[i].length ≤ 40 := by have : ¬ (((l[i].map encV).length : Nat) : Int) > 40 := hx
                                           simp at this; omega
          ((conv => whnf) <;> repeat ((with_reducible refine Drawn.mk (by kernel_rfl) ?_) <;> conv => whnf))
          refine ⟨l.length - (i + 1), ?_, by omega⟩
          refine ⟨[], [], ?_⟩
          iterate 3 constructor
          refine ⟨⟨?_, ?_, ?_⟩, ⟨i + 1, h, rfl, by intro x hx'; rw [List.take_succ_eq_append_getElem h] at hx'; rcases List.mem_append.1 hx' with h1 | h1; exact h40 x h1; simp at h1; subst h1; exact hx, rfl, rfl, rfl⟩⟩
          all_goals (repeat' (first | (with_reducible exact Lz.rfl) | (exact Lw.rfl) | (exact Lz.wrap (by omega)) | ((unfold goInt); (with_reducible exact Lz.rfl)) | constructor))
      · have h' : i = l.length := by have := mt lenlt.2 h
                                     omega
        subst h'
        rw [List.take_length] at h40
        have hbl : (bestV l).length < 1000000 := by
          obtain ⟨_, hlen⟩ := bestE_kb (l := l.flatten) (fun v hv => by obtain ⟨x, hx, hv⟩ := List.mem_flatten.1 hv; exact hr x hx v hv)
          have := flat_len8 h8 h40 (i := l.length)
          rw [List.take_length] at this
          unfold bestV; rw [allV_len]; omega
        ((conv => whnf) <;> repeat ((with_reducible refine Drawn.mk (by kernel_rfl) ?_) <;> conv => whnf))
        refine ⟨[], [], _, _, _, _, best_ok l h8 h40 hr, ⟨by (repeat' (first | (with_reducible exact Lz.rfl) | (exact Lw.rfl) | (exact Lz.wrap (by omega)) | ((unfold goInt); (with_reducible exact Lz.rfl)) | constructor)), by (repeat' (first | (with_reducible exact Lz.rfl) | (exact Lw.rfl) | (exact Lz.wrap (by omega)) | ((unfold goInt); (with_reducible exact Lz.rfl)) | constructor)), by rfl⟩, ?_⟩
        rintro r o' c' ⟨rfl, rfl, rfl⟩
        ((conv => whnf) <;> repeat ((with_reducible refine Drawn.mk (by kernel_rfl) ?_) <;> conv => whnf))
        refine ⟨[], [], _, _, _, _, refBest_ok l h8 h40 hr, ⟨by (repeat' (first | (with_reducible exact Lz.rfl) | (exact Lw.rfl) | (exact Lz.wrap (by omega)) | ((unfold goInt); (with_reducible exact Lz.rfl)) | constructor)), by (repeat' (first | (with_reducible exact Lz.rfl) | (exact Lw.rfl) | (exact Lz.wrap (by omega)) | ((unfold goInt); (with_reducible exact Lz.rfl)) | constructor)), by rfl⟩, ?_⟩
        rintro r o' c' ⟨rfl, rfl, rfl⟩
        ((conv => whnf) <;> repeat ((with_reducible refine Drawn.mk (by kernel_rfl) ?_) <;> conv => whnf))
        refine ⟨[], [], _, _, _, _, same_ok (bestV l) (bestV l) hbl, ⟨by (repeat' (first | (with_reducible exact Lz.rfl) | (exact Lw.rfl) | (exact Lz.wrap (by omega)) | ((unfold goInt); (with_reducible exact Lz.rfl)) | constructor)), by (repeat' (first | (with_reducible exact Lz.rfl) | (exact Lw.rfl) | (exact Lz.wrap (by omega)) | ((unfold goInt); (with_reducible exact Lz.rfl)) | constructor)), by rfl⟩, ?_⟩
        rintro r o' c' ⟨rfl, rfl, rfl⟩
        rw [show eqB (bestV l) (bestV l) = true from eqB_iff.2 rfl]
        ((conv => whnf) <;> repeat ((with_reducible refine Drawn.mk (by kernel_rfl) ?_) <;> conv => whnf))
        refine ⟨[], [], _, _, _, _, awake11, ⟨by (repeat' (first | (with_reducible exact Lz.rfl) | (exact Lw.rfl) | (exact Lz.wrap (by omega)) | ((unfold goInt); (with_reducible exact Lz.rfl)) | constructor)), by (repeat' (first | (with_reducible exact Lz.rfl) | (exact Lw.rfl) | (exact Lz.wrap (by omega)) | ((unfold goInt); (with_reducible exact Lz.rfl)) | constructor)), by rfl⟩, ?_⟩
        rintro r o' c' ⟨rfl, rfl, rfl⟩
        ((conv => whnf) <;> repeat ((with_reducible refine Drawn.mk (by kernel_rfl) ?_) <;> conv => whnf))
        exact ⟨[], [], [], .s (.bool true), [], ⟨.s Lz.rfl, .nil, rfl⟩, rfl⟩
end Go.M

namespace Go.M
open Go Go.Proofs
set_option maxRecDepth 1000000
theorem mixed0 : Try.prog.follows .mixedOrders = true := by kernel_rfl
theorem awake14 : Awake Try.prog 14 := awake_of mixed0 (fs := []) (bs := []) (ps := []) (m := 0) (n := 100000) (by kernel_rfl)
theorem awake43 : Awake Try.prog 43 := awake_of mixed0 (fs := []) (bs := []) (ps := []) (m := 0) (n := 100000) (by kernel_rfl)
theorem awake49 : Awake Try.prog 49 := awake_of mixed0 (fs := [101]) (bs := [80]) (ps := [94]) (m := 100000) (n := 100000) (by kernel_rfl)
theorem orc0 (base B : Nat) : OrcOk Try.prog E0 base B := by
  refine orcW_ok (fun g hg => ?_) (fun g its hi k hk => ?_) (fun g its hi k hk => ?_) (fun g val hv => ?_) base B
  · simp only [List.mem_cons, List.not_mem_nil, or_false] at hg
    rcases hg with rfl | rfl | rfl
    · exact awake14
    · exact awake43
    · exact awake49
  · simp only [look] at hi
    split at hi
    · rename_i h
      have h := beq_iff.1 h
      subst h
      cases hi
      simp only [List.mem_cons, List.not_mem_nil, or_false] at hk
      subst hk
      exact sorts101_123
    · cases hi
  · simp only [look] at hi
    split at hi
    · rename_i h
      have h := beq_iff.1 h
      subst h
      cases hi
      simp only [List.mem_cons, List.not_mem_nil, or_false] at hk
      subst hk
      exact collects80_123
    · cases hi
  · simp only [look] at hv
    split at hv
    · rename_i h
      have h := beq_iff.1 h
      subst h
      cases hv
      exact minBag
    · cases hv
end Go.M
