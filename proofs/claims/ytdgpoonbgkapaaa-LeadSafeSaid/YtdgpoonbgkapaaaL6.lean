/-
  Part 6 of the library that the proof leans on.
-/
import Derived.Test.YtdgpoonbgkapaaaL5
namespace Go.M
open Go Go.Proofs
set_option maxRecDepth 100000
def prepS (p b : Int) (es : List (Int × Vote)) (frm : Int) : Int × List Vote × Int :=
 if isBallot b = false ∨ frm < 0 ∨ frm > 512 then (p, [], 1) else if b < p then (p, [], 10) else (b, votesOf es frm, 0)
def PrepR (es : List (Int × Vote)) (q : Int × List Vote × Int) (r : TV) (o : Ob) (c : Nat) : Prop :=
 r = .tup [.tk 2, .s (.int .i64 q.2.2)] ∧ c = 3 ∧ o = [(2, arV q.2.1), (0, accO q.1 1), (1, mapO es)]
theorem prep_ok (p b : Int) (es : List (Int × Vote)) (frm : Int) (hok : ksOk (es.map (·.1))) (hes : es.length < 1000000) : VC E0 14 2 [.ptr 0 0, .s (.int .u64 b), .s (.int .i64 frm)] [(0, accO p 1), (1, mapO es)]
 (PrepR es (prepS p b es frm)) := by
 refine VC.enterR L0 (show E0.func 14 = some Try.f14 by kernel_rfl) (fun _ _ => rfl) rfl rfl [] ?_
 ((conv=>whnf)<;>repeat(with_reducible refine D1 ?_)<;>conv=>whnf)
 refine ⟨[], [], _, _, _, _, is_ok b, t3, ?_⟩
 rintro r o' c' ⟨rfl, rfl, rfl⟩
 ((conv=>whnf)<;>repeat(with_reducible refine D1 ?_)<;>conv=>whnf)
 cases hb : isBallot b with
 | false =>
  rw [show prepS p b es frm = (p, [], 1) by unfold prepS; grind]
  ((conv=>whnf)<;>repeat(with_reducible refine D1 ?_)<;>conv=>whnf)
  exact ⟨[], [some 0, some 1, none], _, _, _, t3, rfl, rfl, rfl⟩
 | true =>
  ((conv=>whnf)<;>repeat(with_reducible refine D1 ?_)<;>conv=>whnf)
  (first|refine ⟨?_,?_⟩|refine nsplit ?_ ?_|refine bsplit ?_ ?_)<;>intro h1<;>have hz_:=True.intro<;>clear hz_
  ·rw [show prepS p b es frm = (p, [], 1) by unfold prepS; grind]
   ((conv=>whnf)<;>repeat(with_reducible refine D1 ?_)<;>conv=>whnf)
   exact ⟨[], [some 0, some 1, none], _, _, _, t3, rfl, rfl, rfl⟩
  ·((conv=>whnf)<;>repeat(with_reducible refine D1 ?_)<;>conv=>whnf)
   (first|refine ⟨?_,?_⟩|refine nsplit ?_ ?_|refine bsplit ?_ ?_)<;>intro h2<;>have hz_:=True.intro<;>clear hz_
   ·rw [show prepS p b es frm = (p, [], 1) by unfold prepS; grind]
    ((conv=>whnf)<;>repeat(with_reducible refine D1 ?_)<;>conv=>whnf)
    exact ⟨[], [some 0, some 1, none], _, _, _, t3, rfl, rfl, rfl⟩
   ·((conv=>whnf)<;>repeat(with_reducible refine D1 ?_)<;>conv=>whnf)
    (first|refine ⟨?_,?_⟩|refine nsplit ?_ ?_|refine bsplit ?_ ?_)<;>intro h3<;>have hz_:=True.intro<;>clear hz_
    ·rw [show prepS p b es frm = (p, [], 10) by unfold prepS; grind]
     ((conv=>whnf)<;>repeat(with_reducible refine D1 ?_)<;>conv=>whnf)
     exact ⟨[], [some 0, some 1, none], _, _, _, t3, rfl, rfl, rfl⟩
    ·rw [show prepS p b es frm = (b, votesOf es frm, 0) by unfold prepS; grind]
     ((conv=>whnf)<;>repeat(with_reducible refine D1 ?_)<;>conv=>whnf)
     refine ⟨[], [some 0, some 1], _, _, _, _, votes_ok b es frm hok hes, t3, ?_⟩
     rintro r o' c' ⟨rfl, rfl, rfl⟩
     ((conv=>whnf)<;>repeat(with_reducible refine D1 ?_)<;>conv=>whnf)
     exact ⟨[], [some 0, some 1, some 4], _, _, _, t3, rfl, rfl, rfl⟩
end Go.M
namespace Go.M
open Go Go.Proofs
set_option maxRecDepth 100000
def lookE : List (Int × Vote) → Int → Option Vote
 | [], _ => none
 | e :: es, n => if n = e.1 then some e.2 else lookE es n
theorem lookM_enc (n : Int) : ∀ es : List (Int × Vote), lookM (es.map encE) (.int .i64 n) = (lookE es n).map fun w => .agg (encV w)
 | [] => rfl
 | e :: es => by
  rw [List.map_cons]
  unfold lookM lookE
  by_cases he : n = e.1
  ·have : keq (.int .i64 n) (encE e).1 = true := by simp [keq, encE, he]
   rw [this, if_pos he]; rfl
  ·have : keq (.int .i64 n) (encE e).1 = false := by simp [keq, encE, he]
   rw [this, if_neg he]; exact lookM_enc n es
def noVote : Vote := ⟨0, 0, 0, 0, 0, 0⟩
end Go.M
namespace Go.M
open Go Go.Proofs
def putE : List (Int × Vote) → Int → Vote → List (Int × Vote)
 | [], n, v => [(n, v)]
 | e :: es, n, v => if n = e.1 then (n, v) :: es else e :: putE es n v
theorem putM_enc (n : Int) (v : Vote) : ∀ es : List (Int × Vote), putM (es.map encE) (.int .i64 n) (.agg (encV v)) = (putE es n v).map encE
 | [] => rfl
 | e :: es => by
  rw [List.map_cons]
  unfold putM putE
  by_cases he : n = e.1
  ·have : keq (.int .i64 n) (encE e).1 = true := by simp [keq, encE, he]
   rw [this, if_pos he]; rfl
  ·have : keq (.int .i64 n) (encE e).1 = false := by simp [keq, encE, he]
   rw [this, if_neg he]; simp [putM_enc n v es]
theorem putE_mem {n : Int} {v : Vote} {x : Int × Vote} : ∀ {es : List (Int × Vote)}, (es.map (·.1)).Nodup → (x ∈ putE es n v ↔ x = (n, v) ∨ x.1 ≠ n ∧ x ∈ es)
 | [], _ => by simp [putE]
 | e :: es, h => by
  simp only [List.map_cons, List.nodup_cons] at h
  unfold putE
  split
  ·rename_i he
   have : ∀ y ∈ es, y.1 ≠ n := fun y hy e1 => h.1 (by rw [← he, ← e1]; exact List.mem_map_of_mem hy)
   grind
  ·have := putE_mem (n := n) (v := v) (x := x) h.2
   grind
theorem putE_keys {n : Int} {v : Vote} : ∀ {es : List (Int × Vote)}, (putE es n v).map (·.1) = if n ∈ es.map (·.1) then es.map (·.1) else es.map (·.1) ++ [n]
 | [] => by simp [putE]
 | e :: es => by
  have := putE_keys (n := n) (v := v) (es := es)
  unfold putE
  split
  ·rename_i he; subst he; simp
  ·rename_i he
   simp only [List.map_cons, this, List.mem_cons, he, false_or]
   split <;> simp
theorem putE_nodup {n : Int} {v : Vote} {es : List (Int × Vote)} (h : (es.map (·.1)).Nodup) : ((putE es n v).map (·.1)).Nodup := by
 rw [putE_keys]
 split
 ·exact h
 ·rename_i hn
  rw [List.nodup_append]
  refine ⟨h, by simp, fun a ha b hb => ?_⟩
  simp only [List.mem_singleton] at hb
  subst hb
  intro e; subst e; exact hn ha
def SS (l : List Vote) : Prop := l.Pairwise fun a b => a.slot < b.slot
theorem SS.ext {l l' : List Vote} (h : SS l) (h' : SS l') (hm : ∀ x, x ∈ l ↔ x ∈ l') : l = l' := by
 have nd : ∀ {l : List Vote}, SS l → l.Nodup := fun h => h.imp fun h e => by subst e; omega
 refine List.Perm.eq_of_pairwise (le := fun a b : Vote => a.slot < b.slot) (fun a b _ _ h1 h2 => by omega) h h' ?_
 exact (List.perm_ext_iff_of_nodup (nd h) (nd h')).2 hm
def put : List Vote → Vote → List Vote
 | [], v => [v]
 | x :: l, v => if x.slot < v.slot then x :: put l v else if x.slot = v.slot then v :: l else v :: x :: l
theorem put_mem {v x : Vote} : ∀ {l : List Vote}, SS l → (x ∈ put l v ↔ x = v ∨ x.slot ≠ v.slot ∧ x ∈ l)
 | [], _ => by simp [put]
 | y :: l, h => by
  unfold SS at h
  rw [List.pairwise_cons] at h
  have ih := put_mem (v := v) (x := x) (l := l) h.2
  unfold put
  split
  ·have := h.1; grind
  ·split
   ·have := h.1; grind
   ·have := h.1; grind
theorem put_SS {v : Vote} : ∀ {l : List Vote}, SS l → SS (put l v)
 | [], _ => by simp [put, SS]
 | y :: l, h => by
  have h0 := h
  unfold SS at h
  rw [List.pairwise_cons] at h
  unfold put
  split
  ·unfold SS
   rw [List.pairwise_cons]
   refine ⟨fun a ha => ?_, put_SS h.2⟩
   rw [put_mem h.2] at ha
   rcases ha with rfl | ⟨_, ha⟩
   ·assumption
   ·exact h.1 a ha
  ·split
   ·unfold SS
    rw [List.pairwise_cons]
    exact ⟨fun a ha => by have := h.1 a ha; omega, h.2⟩
   ·unfold SS
    rw [List.pairwise_cons]
    refine ⟨fun a ha => ?_, h0⟩
    rcases List.mem_cons.1 ha with rfl | ha
    ·omega
    ·have := h.1 a ha; omega
structure MV (es : List (Int × Vote)) : Prop where
 nd : (es.map (·.1)).Nodup
 key : ∀ e ∈ es, e.2.slot = e.1
def allV (es : List (Int × Vote)) : List Vote := (sortZ (es.map (·.1))).map (getE es)
theorem getE_mem {es : List (Int × Vote)} (h : MV es) {e : Int × Vote} (he : e ∈ es) : getE es e.1 = e.2 := by
 unfold getE
 have : es.find? (fun x => x.1 == e.1) = some e := by
  have nd := h.nd
  clear h
  induction es with
  | nil => simp at he
  | cons y es ih =>
   simp only [List.map_cons, List.nodup_cons] at nd
   rcases List.mem_cons.1 he with rfl | he
   ·simp
   ·have : y.1 ≠ e.1 := fun e1 => nd.1 (by rw [e1]; exact List.mem_map_of_mem he)
    simp [this, ih he nd.2]
 rw [this]
theorem mem_sortZ {ks : List Int} {x : Int} : x ∈ sortZ ks ↔ x ∈ ks := (List.mergeSort_perm ks _).mem_iff
theorem sortZ_pw (ks : List Int) : (sortZ ks).Pairwise (· ≤ ·) := by
 have tr : ∀ a b c : Int, decide (a ≤ b) = true → decide (b ≤ c) = true → decide (a ≤ c) = true := fun a b c h1 h2 => by simp only [decide_eq_true_eq] at *; omega
 have to : ∀ a b : Int, (decide (a ≤ b) || decide (b ≤ a)) = true := fun a b => by simp only [Bool.or_eq_true, decide_eq_true_eq]; omega
 exact (List.pairwise_mergeSort tr to ks).imp fun h => by simpa using h
theorem sortZ_lt {ks : List Int} (h : ks.Nodup) : (sortZ ks).Pairwise (· < ·) := by
 have h2 : (sortZ ks).Nodup := (List.mergeSort_perm ks _).nodup_iff.2 h
 exact ((sortZ_pw ks).and h2).imp fun h => by omega
theorem getE_slot {es : List (Int × Vote)} (h : MV es) {n : Int} (hn : n ∈ es.map (·.1)) : (getE es n).slot = n := by
 obtain ⟨e, he, rfl⟩ := List.mem_map.1 hn
 rw [getE_mem h he, h.key e he]
theorem allV_SS {es : List (Int × Vote)} (h : MV es) : SS (allV es) := by
 unfold SS allV
 rw [List.pairwise_map]
 refine (List.Pairwise.and_mem.1 (sortZ_lt h.nd)).imp fun {a b} hab => ?_
 rw [getE_slot h (mem_sortZ.1 hab.1), getE_slot h (mem_sortZ.1 hab.2.1)]
 exact hab.2.2
theorem mem_allV {es : List (Int × Vote)} (h : MV es) {x : Vote} : x ∈ allV es ↔ (x.slot, x) ∈ es := by
 unfold allV
 rw [List.mem_map]
 constructor
 ·rintro ⟨n, hn, rfl⟩
  rw [mem_sortZ] at hn
  obtain ⟨e, he, rfl⟩ := List.mem_map.1 hn
  rw [getE_mem h he, h.key e he]
  exact he
 ·intro hx
  exact ⟨x.slot, mem_sortZ.2 (List.mem_map.2 ⟨_, hx, rfl⟩), getE_mem h hx⟩
theorem allV_len (es : List (Int × Vote)) : (allV es).length = es.length := by simp [allV, sortZ]
theorem rising_all {es : List (Int × Vote)} (h : MV es) (frm : Int) : rising es frm (sortZ (es.map (·.1))) = (allV es).filter fun v => decide (frm ≤ v.slot) := by
 unfold rising allV
 rw [List.filter_map]
 congr 1
 refine List.filter_congr fun n hn => ?_
 simp only [Function.comp_apply]
 rw [getE_slot h (mem_sortZ.1 hn)]
theorem MV.put {es : List (Int × Vote)} (h : MV es) (v : Vote) : MV (putE es v.slot v) := by
 refine ⟨putE_nodup h.nd, fun e he => ?_⟩
 rw [putE_mem h.nd] at he
 rcases he with rfl | ⟨_, he⟩
 ·rfl
 ·exact h.key e he
theorem allV_put {es : List (Int × Vote)} (h : MV es) (v : Vote) : allV (putE es v.slot v) = put (allV es) v := by
 refine (allV_SS (h.put v)).ext (put_SS (allV_SS h)) fun x => ?_
 rw [mem_allV (h.put v), putE_mem h.nd, put_mem (allV_SS h), mem_allV h]
 constructor
 ·rintro (hx | ⟨h1, h2⟩)
  ·left; exact congrArg Prod.snd hx
  ·right; exact ⟨h1, h2⟩
 ·rintro (hx | ⟨h1, h2⟩)
  ·left; rw [hx]
  ·right; exact ⟨h1, h2⟩
def atS (l : List Vote) (slot : Int) : Option Vote := l.find? fun v => v.slot == slot
theorem lookE_some {n : Int} {v : Vote} : ∀ {es : List (Int × Vote)}, (es.map (·.1)).Nodup → (lookE es n = some v ↔ (n, v) ∈ es)
 | [], _ => by simp [lookE]
 | e :: es, h => by
  simp only [List.map_cons, List.nodup_cons] at h
  have ih := lookE_some (n := n) (v := v) h.2
  unfold lookE
  split
  ·rename_i he
   have : ∀ y ∈ es, y.1 ≠ n := fun y hy e1 => h.1 (by rw [← he, ← e1]; exact List.mem_map_of_mem hy)
   grind
  ·grind
theorem atS_some {l : List Vote} (h : SS l) {n : Int} {v : Vote} : atS l n = some v ↔ v ∈ l ∧ v.slot = n := by
 unfold atS
 induction l with
 | nil => simp
 | cons y l ih =>
  unfold SS at h
  rw [List.pairwise_cons] at h
  have := ih h.2
  have h1 := h.1
  rw [List.find?_cons]
  split <;> grind
theorem opt_eq {α : Type} {a b : Option α} (h : ∀ x, a = some x ↔ b = some x) : a = b := by
 cases a with
 | none => cases b with
  | none => rfl
  | some y => exact absurd ((h y).2 rfl) (by simp)
 | some x => exact ((h x).1 rfl).symm
theorem lookE_at {es : List (Int × Vote)} (h : MV es) (n : Int) : lookE es n = atS (allV es) n := by
 refine opt_eq fun x => ?_
 rw [lookE_some h.nd, atS_some (allV_SS h), mem_allV h]
 constructor
 ·intro hx
  have := h.key _ hx
  simp only at this
  subst this
  exact ⟨hx, rfl⟩
 ·rintro ⟨hx, rfl⟩; exact hx
end Go.M
namespace Go.M
open Go Go.Proofs
set_option maxRecDepth 100000
def checkS (k ch ep nd : Int) : Int := if k < 0 ∨ k ≥ 5 then 1 else if k = 0 then (if ch ≠ 0 ∨ ep ≠ 0 ∨ nd ≠ 0 then 4 else 0) else if ch < 0 ∨ ch ≥ 4 ∨ ep < 1 ∨ nd < 1 ∨ nd > 24 then 4 else 0
@[reducible] def cmdT (k ch ep nd : Int) : TV := .agg [.s (.int .i64 k), .s (.int .i64 ch), .s (.int .u64 ep), .s (.int .i64 nd)]
theorem check_ok (k ch ep nd : Int) : VC E0 19 0 [cmdT k ch ep nd] [] (RR (.s (.int .i64 (checkS k ch ep nd))) 0 []) := by
 refine VC.enterR L0 (show E0.func 19 = some Try.f19 by kernel_rfl) (fun _ _ => rfl) rfl rfl [] ?_
 ((conv=>whnf)<;>repeat(with_reducible refine D1 ?_)<;>conv=>whnf)
 repeat' (first | ((first | (refine ⟨fun h => ?_, fun h => ?_⟩) | (refine nsplit (fun h => ?_) (fun h => ?_)) | (refine bsplit (fun h => ?_) (fun h => ?_))) <;> ((conv=>whnf)<;>repeat(with_reducible refine D1 ?_)<;>conv=>whnf)))
 all_goals (refine ⟨[], [], [], _, _, ⟨?_, .nil, rfl⟩, rfl, rfl, rfl⟩)
 all_goals (refine .s (Lz.int ?_); simp [veq1, checkS] at *; grind)
end Go.M
namespace Go.M
open Go Go.Proofs
set_option maxRecDepth 100000
noncomputable def eqB {α : Type} (a b : α) : Bool := @decide (a = b) (Classical.propDecidable _)
def refOfS (r w : Int) : Int × Int := if r < 1 ∨ r > 1152921504606846975 ∨ isMaster w = false then (0, 1) else (IntKind.u64.wrap (IntKind.u64.wrap (r * 8) + IntKind.u64.wrap w), 0)
def frmS (l : List Vote) (frm : Int) : List Vote := l.filter fun v => decide (frm ≤ v.slot)
end Go.M
namespace Go.M
open Go Go.Proofs
set_option maxRecDepth 100000
def restP (v : Vote) : List Vote → List Vote
 | [] => []
 | x :: r => if x.slot = v.slot then r else x :: r
end Go.M
namespace Go.M
open Go Go.Proofs
set_option maxRecDepth 100000
structure Cmd where
 kind : Int
 chain : Int
 epoch : Int
 node : Int
@[reducible] def cT4 (c : Cmd) : TV := cmdT c.kind c.chain c.epoch c.node
def Cmd.check (c : Cmd) : Int := checkS c.kind c.chain c.epoch c.node
def Vote.of (n b : Int) (c : Cmd) : Vote := ⟨n, b, c.kind, c.chain, c.epoch, c.node⟩
@[reducible] def refA (p : Int) (l : List Vote) : TV := .agg [.s (.int .u64 p), .sl 6 (l.map encV) false]
def prepL (p b : Int) (l : List Vote) (frm : Int) : Int × List Vote × Int :=
 if isBallot b = false ∨ frm < 0 ∨ frm > 512 then (p, [], 1) else if b < p then (p, [], 10) else (b, frmS l frm, 0)
def accL (p : Int) (l : List Vote) (b n : Int) (c : Cmd) : Int × List Vote × Int :=
 if isBallot b = false ∨ n < 0 ∨ n ≥ 512 then (p, l, 1) else if c.check ≠ 0 then (p, l, c.check) else if b < p then (p, l, 10) else (b, put l (.of n b c), 0)
end Go.M
namespace Go.M
open Go Go.Proofs
set_option maxRecDepth 100000
def accS (p : Int) (es : List (Int × Vote)) (b n : Int) (c : Cmd) : Int × List (Int × Vote) × Int :=
 if isBallot b = false ∨ n < 0 ∨ n ≥ 512 then (p, es, 1) else if c.check ≠ 0 then (p, es, c.check) else if b < p then (p, es, 10) else (b, putE es n (.of n b c), 0)
theorem accept_ok (p : Int) (es : List (Int × Vote)) (b n : Int) (c : Cmd) : VC E0 15 2 [.ptr 0 0, .s (.int .u64 b), .s (.int .i64 n), cT4 c] [(0, accO p 1), (1, mapO es)]
 (RR (.s (.int .i64 (accS p es b n c).2.2)) 2 [(0, accO (accS p es b n c).1 1), (1, mapO (accS p es b n c).2.1)]) := by
 refine VC.enterR L0 (show E0.func 15 = some Try.f15 by kernel_rfl) (fun _ _ => rfl) rfl rfl [] ?_
 ((conv=>whnf)<;>repeat(with_reducible refine D1 ?_)<;>conv=>whnf)
 refine ⟨[], [], _, _, _, _, is_ok b, t3, ?_⟩
 rintro r o' c' ⟨rfl, rfl, rfl⟩
 have hz_ := True.intro
 clear hz_
 cases hb : isBallot b
 ·have e : accS p es b n c = (p, es, 1) := by unfold accS; grind
  rw [e]
  ((conv=>whnf)<;>repeat(with_reducible refine D1 ?_)<;>conv=>whnf)
  exact ⟨[], [some 0, some 1], _, _, _, t3, rfl, rfl, rfl⟩
 ·((conv=>whnf)<;>repeat(with_reducible refine D1 ?_)<;>conv=>whnf)
  (first|refine ⟨?_,?_⟩|refine nsplit ?_ ?_|refine bsplit ?_ ?_)<;>intro h1<;>have hz_:=True.intro<;>clear hz_
  ·have e : accS p es b n c = (p, es, 1) := by unfold accS; grind
   rw [e]
   ((conv=>whnf)<;>repeat(with_reducible refine D1 ?_)<;>conv=>whnf)
   exact ⟨[], [some 0, some 1], _, _, _, t3, rfl, rfl, rfl⟩
  ·((conv=>whnf)<;>repeat(with_reducible refine D1 ?_)<;>conv=>whnf)
   (first|refine ⟨?_,?_⟩|refine nsplit ?_ ?_|refine bsplit ?_ ?_)<;>intro h2<;>have hz_:=True.intro<;>clear hz_
   ·have e : accS p es b n c = (p, es, 1) := by unfold accS; grind
    rw [e]
    ((conv=>whnf)<;>repeat(with_reducible refine D1 ?_)<;>conv=>whnf)
    exact ⟨[], [some 0, some 1], _, _, _, t3, rfl, rfl, rfl⟩
   ·((conv=>whnf)<;>repeat(with_reducible refine D1 ?_)<;>conv=>whnf)
    refine ⟨[], [], _, _, _, _, check_ok c.kind c.chain c.epoch c.node, t3, ?_⟩
    rintro r o' c' ⟨rfl, rfl, rfl⟩
    ((conv=>whnf)<;>repeat(with_reducible refine D1 ?_)<;>conv=>whnf)
    (first|refine ⟨?_,?_⟩|refine nsplit ?_ ?_|refine bsplit ?_ ?_)<;>intro hk<;>have hz_:=True.intro<;>clear hz_
    ·have hk : c.check ≠ 0 := hk
     have e : accS p es b n c = (p, es, c.check) := by unfold accS; grind
     rw [e]
     ((conv=>whnf)<;>repeat(with_reducible refine D1 ?_)<;>conv=>whnf)
     exact ⟨[], [some 0, some 1], _, _, _, t3, rfl, rfl, rfl⟩
    ·have hk' : c.check = 0 := Classical.not_not.1 hk
     ((conv=>whnf)<;>repeat(with_reducible refine D1 ?_)<;>conv=>whnf)
     (first|refine ⟨?_,?_⟩|refine nsplit ?_ ?_|refine bsplit ?_ ?_)<;>intro h3<;>have hz_:=True.intro<;>clear hz_
     ·have e : accS p es b n c = (p, es, 10) := by unfold accS; grind
      rw [e]
      ((conv=>whnf)<;>repeat(with_reducible refine D1 ?_)<;>conv=>whnf)
      exact ⟨[], [some 0, some 1], _, _, _, t3, rfl, rfl, rfl⟩
     ·have e : accS p es b n c = (b, putE es n (.of n b c), 0) := by unfold accS; grind
      rw [e]
      ((conv=>whnf)<;>repeat(with_reducible refine D1 ?_)<;>conv=>whnf)
      refine ⟨[], [some 0, some 1], ?_⟩
      iterate 3 constructor
      refine ⟨⟨?_, ?_, ?_⟩, rfl, rfl, rfl⟩
      all_goals (repeat' first|with_reducible exact Lz.rfl|exact Lw.rfl|exact Lz.wrap (by omega)|(unfold goInt;with_reducible exact Lz.rfl)|exact flx _|constructor)
      exact Lz.of (putM_enc n (.of n b c) es)
end Go.M
namespace Go.M
open Go Go.Proofs
set_option maxRecDepth 100000
structure Op11 where
 kind : Int
 ballot : Int
 slot : Int
 cmd : Cmd
def encOp (o : Op11) : List TV := [.s (.int .i64 o.kind), .s (.int .u64 o.ballot), .s (.int .i64 o.slot), .s (.int .i64 o.cmd.kind), .s (.int .i64 o.cmd.chain), .s (.int .u64 o.cmd.epoch), .s (.int .i64 o.cmd.node)]
structure KVo (p : Int) (es : List (Int × Vote)) : Prop where
 mv : MV es
 rng : ∀ e ∈ es, 0 ≤ e.1 ∧ e.1 < 512
 bal : ∀ e ∈ es, e.2.ballot ≤ p
theorem KVo.ok {p : Int} {es : List (Int × Vote)} (h : KVo p es) (hl : es.length < 1000) : ksOk (es.map (·.1)) := by
 refine ⟨by simp; omega, fun x hx => ?_, h.mv.nd⟩
 obtain ⟨e, he, rfl⟩ := List.mem_map.1 hx
 have := h.rng e he
 have h1 : IntKind.i64.min = -9223372036854775808 := rfl
 have h2 : IntKind.i64.max = 9223372036854775807 := rfl
 omega
def opS (p : Int) (es : List (Int × Vote)) (o : Op11) : Int × List (Int × Vote) := if o.kind = 0 then ((prepL p o.ballot (allV es) o.slot).1, es) else ((accS p es o.ballot o.slot o.cmd).1, (accS p es o.ballot o.slot o.cmd).2.1)
theorem accS_kv {p b n : Int} {c : Cmd} {es : List (Int × Vote)} (h : KVo p es) : KVo (accS p es b n c).1 (accS p es b n c).2.1 ∧ p ≤ (accS p es b n c).1 ∧ (accS p es b n c).2.1.length ≤ es.length + 1 := by
 unfold accS
 split
 ·exact ⟨h, Int.le_refl _, by simp⟩
 ·split
  ·exact ⟨h, Int.le_refl _, by simp⟩
  ·split
   ·exact ⟨h, Int.le_refl _, by simp⟩
   ·rename_i h1 _ h3
    refine ⟨⟨h.mv.put (.of n b c), fun e he => ?_, fun e he => ?_⟩, by simp; omega, ?_⟩
    ·rw [putE_mem h.mv.nd] at he
     rcases he with rfl | ⟨_, he⟩
     ·simp at h1 ⊢; omega
     ·exact h.rng e he
    ·rw [putE_mem h.mv.nd] at he
     rcases he with rfl | ⟨_, he⟩
     ·simp [Vote.of]
     ·have := h.bal e he; simp; omega
    ·have := congrArg List.length (putE_keys (n := n) (v := .of n b c) (es := es))
     simp only [List.length_map] at this
     simp only
     rw [this]; split <;> simp
end Go.M
namespace Go.M
open Go Go.Proofs
set_option maxRecDepth 100000
set_option maxHeartbeats 2000000
end Go.M
namespace Go.M
open Go Go.Proofs
set_option maxRecDepth 100000
set_option maxHeartbeats 2000000
def inI (n : Int) : Prop := IntKind.i64.min ≤ n ∧ n ≤ IntKind.i64.max
def bestE1 (es : List (Int × Vote)) (v : Vote) : List (Int × Vote) := match lookE es v.slot with
 | none => putE es v.slot v
 | some w => if v.ballot > w.ballot then putE es v.slot v else es
def bestE (l : List Vote) : List (Int × Vote) := l.foldl bestE1 []
def bestR1 (out : List Vote) (v : Vote) : List Vote := match atS out v.slot with
 | none => put out v
 | some w => if v.ballot > w.ballot then put out v else out
theorem bestE_snoc (l : List Vote) (v : Vote) : bestE (l ++ [v]) = bestE1 (bestE l) v := by simp [bestE]
structure KB (es : List (Int × Vote)) : Prop where
 mv : MV es
 rng : ∀ e ∈ es, inI e.1
theorem KB.ok {es : List (Int × Vote)} (h : KB es) (hl : es.length < 100000) : ksOk (es.map (·.1)) := by
 refine ⟨by simp; omega, fun x hx => ?_, h.mv.nd⟩
 obtain ⟨e, he, rfl⟩ := List.mem_map.1 hx
 exact h.rng e he
theorem KB.put {es : List (Int × Vote)} (h : KB es) {v : Vote} (hv : inI v.slot) : KB (putE es v.slot v) :=
 ⟨h.mv.put v, fun e he => by
  rw [putE_mem h.mv.nd] at he
  rcases he with rfl | ⟨_, he⟩
  ·exact hv
  ·exact h.rng e he⟩
theorem putE_len (es : List (Int × Vote)) (n : Int) (v : Vote) : (putE es n v).length ≤ es.length + 1 := by
 have := congrArg List.length (putE_keys (n := n) (v := v) (es := es))
 simp only [List.length_map] at this
 rw [this]; split <;> simp
theorem bestE1_kb {es : List (Int × Vote)} (h : KB es) {v : Vote} (hv : inI v.slot) : KB (bestE1 es v) ∧ (bestE1 es v).length ≤ es.length + 1 ∧ allV (bestE1 es v) = bestR1 (allV es) v := by
 unfold bestE1 bestR1
 rw [← lookE_at h.mv]
 cases lookE es v.slot with
 | none => exact ⟨h.put hv, putE_len .., allV_put h.mv v⟩
 | some w =>
  by_cases hb : v.ballot > w.ballot
  ·simp only [hb, if_true]; exact ⟨h.put hv, putE_len .., allV_put h.mv v⟩
  ·simp only [hb, if_false]; exact ⟨h, Nat.le_succ _, trivial⟩
theorem bestE_kb {l : List Vote} (hl : ∀ v ∈ l, inI v.slot) : KB (bestE l) ∧ (bestE l).length ≤ l.length := by
 have : ∀ (l : List Vote) (es : List (Int × Vote)), KB es → (∀ v ∈ l, inI v.slot) → KB (l.foldl bestE1 es) ∧ (l.foldl bestE1 es).length ≤ es.length + l.length := by
  intro l
  induction l with
  | nil => intro es h _; exact ⟨h, Nat.le_refl _⟩
  | cons v l ih =>
   intro es h hv
   obtain ⟨h1, h2, _⟩ := bestE1_kb h (hv v List.mem_cons_self)
   obtain ⟨h3, h4⟩ := ih _ h1 fun w hw => hv w (List.mem_cons_of_mem _ hw)
   exact ⟨h3, by simp only [List.foldl_cons, List.length_cons]; omega⟩
 have := this l [] ⟨⟨by simp, by simp⟩, by simp⟩ hl
 unfold bestE
 simpa using this
def encL (l : List Vote) : List TV := [.sl 6 (l.map encV) false]
theorem flat_snoc {l : List (List Vote)} {i : Nat} (h : i < l.length) : (l.take (i + 1)).flatten = (l.take i).flatten ++ l[i] := by
 rw [List.take_succ_eq_append_getElem h, List.flatten_append, List.flatten_cons, List.flatten_nil, List.append_nil]
theorem flat_len8 {l : List (List Vote)} (h8 : l.length ≤ 8) (h40 : ∀ x ∈ l, x.length ≤ 600) {i : Nat} : (l.take i).flatten.length ≤ 4800 := by
 have : ∀ m : List (List Vote), (∀ x ∈ m, x.length ≤ 600) → m.flatten.length ≤ 600 * m.length := by
  intro m
  induction m with
  | nil => simp
  | cons x m ih =>
   intro h
   have h1 := h x List.mem_cons_self
   have h2 := ih fun y hy => h y (List.mem_cons_of_mem _ hy)
   simp only [List.flatten_cons, List.length_append, List.length_cons]
   omega
 have h1 := this (l.take i) fun x hx => h40 x (List.mem_of_mem_take hx)
 have h2 : (l.take i).length ≤ 8 := by rw [List.length_take]; omega
 omega
theorem pre_in {l : List (List Vote)} (hr : ∀ x ∈ l, ∀ v ∈ x, inI v.slot) {i j : Nat} (h : i < l.length) : ∀ v ∈ (l.take i).flatten ++ l[i].take j, inI v.slot := by
 intro v hv
 rcases List.mem_append.1 hv with hv | hv
 ·obtain ⟨x, hx, hv⟩ := List.mem_flatten.1 hv
  exact hr x (List.mem_of_mem_take hx) v hv
 ·exact hr _ (List.getElem_mem h) v (List.mem_of_mem_take hv)
def bestV (l : List (List Vote)) : List Vote := allV (bestE l.flatten)
theorem min_rising {es : List (Int × Vote)} (h : MV es) (h0 : 0 < es.length) : rising es (Small.minZ (es.map (·.1))) (sortZ (es.map (·.1))) = allV es := by
 rw [rising_all h, List.filter_eq_self]
 intro v hv
 have := (mem_allV h).1 hv
 exact decide_eq_true ((Small.minZ_spec (by simpa using h0)).2 _ (List.mem_map.2 ⟨_, this, rfl⟩))
theorem collect_ok (es : List (Int × Vote)) (hok : ksOk (es.map (·.1))) (h0 : 0 < es.length) : VC E0 29 2 [.clo 56 [] [.ptr 1 0]] [(0, .map (kIdx .i64) (es.map encE)), (1, .cells [.mp 0])] (fun r o c => r = .bg 2 (es.map (·.1)).length ∧ c = 3 ∧
      o = [(2, .bag (es.map (·.1))), (0, .map (kIdx .i64) (es.map encE)), (1, .cells [.mp 0])]) :=
 VC.collect (E := E0) (g := 29) (its := [56, 43]) (k := 56) (by kernel_rfl) (fun _ _ => rfl) rfl (y := .map (kIdx .i64) (es.map encE)) (ks := es.map (·.1)) (by simp [KeysO, Function.comp_def, encE]) hok (by intro e; simp at e; subst e; simp at h0)
theorem minc_ok (ks : List Int) (h0 : 0 < ks.length) (hl : ks.length ≤ 1000000) : VC E0 52 1 [.bg 0 ks.length] [(0, .bag ks)] (fun r o c => r = .s (.int .i64 (Small.minZ ks)) ∧ c = 1 ∧ o = [(0, .bag ks)]) :=
 VC.bagged (E := E0) (g := 52) (val := minVal) (pre := []) (by kernel_rfl) (fun _ _ => rfl) (by simp) h0 (v := .int .i64 (Small.minZ ks)) (by
  cases ks with
  | nil => simp at h0
  | cons a l => simp only [minVal, grd]; rw [Nat.ble_eq_true_of_le hl]) rfl
theorem best_ok (l : List (List Vote)) (h8 : l.length ≤ 8) (h40 : ∀ x ∈ l, x.length ≤ 600) (hr : ∀ x ∈ l, ∀ v ∈ x, inI v.slot) : VC E0 46 0 [.sl 1 (l.map encL) false] [] (RR (.sl 6 ((bestV l).map encV) false) 0 []) := by
 refine VC.enterR L0 (show E0.func 46 = some Try.f46 by kernel_rfl) (fun _ _ => rfl) rfl rfl [] ?_
 ((conv=>whnf)<;>repeat(with_reducible refine D1 ?_)<;>conv=>whnf)
 refine ⟨fun k f o c => ∃ i : Nat, i ≤ l.length ∧ k = l.length - i ∧ c = 1 ∧ f = [(3, .mp 0), (11, .sl 1 (l.map encL) false), (12, .s (.int .i64 l.length)), (13, .s (.int .i64 i))] ∧ o = [(0, mapO (bestE (l.take i).flatten))], ⟨l.length, ?_⟩, ?_⟩
 ·refine ⟨[], [some 0], ?_⟩
  iterate 3 constructor
  refine ⟨⟨?_, ?_, ?_⟩, ⟨0, Nat.zero_le _, rfl, rfl, rfl, rfl⟩⟩
  all_goals (repeat' first|with_reducible exact Lz.rfl|exact Lw.rfl|exact Lz.wrap (by omega)|(unfold goInt;with_reducible exact Lz.rfl)|exact flx _|constructor)
  all_goals exact Lz.of (by simp [goInt])
 ·rintro k f1 o1 c1 ⟨i, hi, rfl, rfl, rfl, rfl⟩
  ((conv=>whnf)<;>repeat(with_reducible refine D1 ?_)<;>conv=>whnf)
  (first|refine ⟨?_,?_⟩|refine nsplit ?_ ?_|refine bsplit ?_ ?_)<;>intro h<;>have hz_:=True.intro<;>clear hz_
  ·have h : i < l.length := by simpa using h
   have hl40 := h40 _ (List.getElem_mem h)
   ((conv=>whnf)<;>repeat(with_reducible refine D1 ?_)<;>conv=>whnf)
   refine idxI h ?_
   ((conv=>whnf)<;>repeat(with_reducible refine D1 ?_)<;>conv=>whnf)
   refine ⟨fun k f o c => ∃ j : Nat, j ≤ l[i].length ∧ k = l[i].length - j ∧ c = 1 ∧ f = [(3, .mp 0), (11, .sl 1 (l.map encL) false), (12, .s (.int .i64 l.length)), (13, .s (.int .i64 i)), (17, .sl 6 (l[i].map encV) false), (18, .s (.int .i64 l[i].length)), (19, .s (.int .i64 j))] ∧ o = [(0, mapO (bestE ((l.take i).flatten ++ l[i].take j)))], ⟨l[i].length, ?_⟩, ?_⟩
   ·refine ⟨[], [some 0], ?_⟩
    iterate 3 constructor
    refine ⟨⟨?_, ?_, ?_⟩, ⟨0, Nat.zero_le _, rfl, rfl, rfl, rfl⟩⟩
    all_goals (repeat' first|with_reducible exact Lz.rfl|exact Lw.rfl|exact Lz.wrap (by omega)|(unfold goInt;with_reducible exact Lz.rfl)|exact flx _|constructor)
    all_goals first | exact Lz.of (by simp [goInt]) | exact Lz.of (by simp)
   ·rintro k f1 o1 c1 ⟨j, hj, rfl, rfl, rfl, rfl⟩
    ((conv=>whnf)<;>repeat(with_reducible refine D1 ?_)<;>conv=>whnf)
    (first|refine ⟨?_,?_⟩|refine nsplit ?_ ?_|refine bsplit ?_ ?_)<;>intro hj<;>have hz_:=True.intro<;>clear hz_
    ·have hj : j < l[i].length := by simpa using hj
     obtain ⟨hkb, hlen⟩ := bestE_kb (pre_in hr (j := j) h)
     have hsn : bestE ((l.take i).flatten ++ l[i].take (j + 1)) = bestE1 (bestE ((l.take i).flatten ++ l[i].take j)) l[i][j] := by
      rw [List.take_succ_eq_append_getElem hj, ← List.append_assoc, bestE_snoc]
     generalize hes : bestE ((l.take i).flatten ++ l[i].take j) = es at *
     ((conv=>whnf)<;>repeat(with_reducible refine D1 ?_)<;>conv=>whnf)
     refine idxI hj ?_
     ((conv=>whnf)<;>repeat(with_reducible refine D1 ?_)<;>conv=>whnf)
     have hlk := lookM_enc l[i][j].slot es
     cases hv : lookE es l[i][j].slot with
     | none =>
      rw [hv] at hlk
      refine ⟨_, hlk, ?_⟩
      ((conv=>whnf)<;>repeat(with_reducible refine D1 ?_)<;>conv=>whnf)
      refine ⟨l[i].length - (j + 1), ?_, by omega⟩
      refine ⟨[], [some 0], ?_⟩
      iterate 3 constructor
      refine ⟨⟨?_, ?_, ?_⟩, ⟨j + 1, hj, rfl, rfl, rfl, rfl⟩⟩
      all_goals (repeat' first|with_reducible exact Lz.rfl|exact Lw.rfl|exact Lz.wrap (by omega)|(unfold goInt;with_reducible exact Lz.rfl)|exact flx _|constructor)
      refine Lz.of ?_
      rw [hsn]; unfold bestE1; rw [hv]; exact putM_enc _ _ _
     | some w =>
      rw [hv] at hlk
      refine ⟨_, hlk, ?_⟩
      ((conv=>whnf)<;>repeat(with_reducible refine D1 ?_)<;>conv=>whnf)
      (first|refine ⟨?_,?_⟩|refine nsplit ?_ ?_|refine bsplit ?_ ?_)<;>intro hb<;>have hz_:=True.intro<;>clear hz_
      ·((conv=>whnf)<;>repeat(with_reducible refine D1 ?_)<;>conv=>whnf)
       refine ⟨l[i].length - (j + 1), ?_, by omega⟩
       refine ⟨[], [some 0], ?_⟩
       iterate 3 constructor
       refine ⟨⟨?_, ?_, ?_⟩, ⟨j + 1, hj, rfl, rfl, rfl, rfl⟩⟩
       all_goals (repeat' first|with_reducible exact Lz.rfl|exact Lw.rfl|exact Lz.wrap (by omega)|(unfold goInt;with_reducible exact Lz.rfl)|exact flx _|constructor)
       refine Lz.of ?_
       rw [hsn]; unfold bestE1; rw [hv]; simp only; rw [if_pos hb]; exact putM_enc _ _ _
      ·((conv=>whnf)<;>repeat(with_reducible refine D1 ?_)<;>conv=>whnf)
       refine ⟨l[i].length - (j + 1), ?_, by omega⟩
       refine ⟨[], [some 0], ?_⟩
       iterate 3 constructor
       refine ⟨⟨?_, ?_, ?_⟩, ⟨j + 1, hj, rfl, rfl, rfl, rfl⟩⟩
       all_goals (repeat' first|with_reducible exact Lz.rfl|exact Lw.rfl|exact Lz.wrap (by omega)|(unfold goInt;with_reducible exact Lz.rfl)|exact flx _|constructor)
       refine Lz.of ?_
       rw [hsn]; unfold bestE1; rw [hv]; simp only; rw [if_neg hb]
    ·have hj' : j = l[i].length := by have : ¬ j < l[i].length := by simpa using hj
                                      omega
     subst hj'
     ((conv=>whnf)<;>repeat(with_reducible refine D1 ?_)<;>conv=>whnf)
     refine ⟨l.length - (i + 1), ?_, by omega⟩
     refine ⟨[], [some 0], ?_⟩
     iterate 3 constructor
     refine ⟨⟨?_, ?_, ?_⟩, ⟨i + 1, h, rfl, rfl, rfl, rfl⟩⟩
     all_goals (repeat' first|with_reducible exact Lz.rfl|exact Lw.rfl|exact Lz.wrap (by omega)|(unfold goInt;with_reducible exact Lz.rfl)|exact flx _|constructor)
     refine Lz.of ?_
     rw [flat_snoc h, List.take_length]
  ·have h' : i = l.length := by have : ¬ i < l.length := by simpa using h
                                omega
   subst h'
   have hb : bestE (l.take l.length).flatten = bestE l.flatten := by rw [List.take_length]
   rw [hb]
   have hfl : l.flatten.length ≤ 4800 := by have := flat_len8 h8 h40 (i := l.length); rwa [List.take_length] at this
   obtain ⟨hkb, hlen⟩ := bestE_kb (l := l.flatten) (fun v hv => by obtain ⟨x, hx, hv⟩ := List.mem_flatten.1 hv; exact hr x hx v hv)
   have hbv : bestV l = allV (bestE l.flatten) := rfl
   generalize hes : bestE l.flatten = es at *
   ((conv=>whnf)<;>repeat(with_reducible refine D1 ?_)<;>conv=>whnf)
   (first|refine ⟨?_,?_⟩|refine nsplit ?_ ?_|refine bsplit ?_ ?_)<;>intro h0<;>have hz_:=True.intro<;>clear hz_
   ·have h0 : es = [] := by simpa using h0
    subst h0
    rw [hbv]
    ((conv=>whnf)<;>repeat(with_reducible refine D1 ?_)<;>conv=>whnf)
    refine ⟨[], [], ?_⟩
    iterate 3 constructor
    refine ⟨⟨?_, ?_, ?_⟩, rfl, rfl, rfl⟩
    all_goals (repeat' first|with_reducible exact Lz.rfl|exact Lw.rfl|exact Lz.wrap (by omega)|(unfold goInt;with_reducible exact Lz.rfl)|exact flx _|constructor)
    exact Lz.of (by simp [allV, sortZ])
   ·have h0 : 0 < es.length := by
     have : es ≠ [] := by simpa using h0
     exact List.length_pos_iff.2 this
    ((conv=>whnf)<;>repeat(with_reducible refine D1 ?_)<;>conv=>whnf)
    refine ⟨[], [some 0], _, _, _, _, keys_ok (es.map encE), t3, ?_⟩
    rintro r o' c' ⟨rfl, rfl, rfl⟩
    ((conv=>whnf)<;>repeat(with_reducible refine D1 ?_)<;>conv=>whnf)
    refine ⟨[], [some 0, some 2], _, _, _, _, collect_ok es (hkb.ok (by omega)) h0, t3, ?_⟩
    rintro r o' c' ⟨rfl, rfl, rfl⟩
    ((conv=>whnf)<;>repeat(with_reducible refine D1 ?_)<;>conv=>whnf)
    refine ⟨[], [some 5], _, _, _, _, minc_ok (es.map (·.1)) (by simpa using h0) (by simp; omega), t3, ?_⟩
    rintro r o' c' ⟨rfl, rfl, rfl⟩
    ((conv=>whnf)<;>repeat(with_reducible refine D1 ?_)<;>conv=>whnf)
    refine ⟨[], [some 0], _, _, _, _, rising_ok es (Small.minZ (es.map (·.1))) (hkb.ok (by omega)) (by omega), t3, ?_⟩
    rintro r o' c' ⟨rfl, rfl, rfl⟩
    ((conv=>whnf)<;>repeat(with_reducible refine D1 ?_)<;>conv=>whnf)
    rw [min_rising hkb.mv h0, hbv]
    exact ⟨[8], [], _, _, _, t3, rfl, rfl, rfl⟩
end Go.M
namespace Go.M
open Go Go.Proofs
set_option maxRecDepth 100000
set_option maxHeartbeats 2000000
end Go.M
namespace Go.M
open Go
section
variable {α : Type}
def encA (k : IntKind) (f : α → TV) (e : Int × α) : Value × TV := (.int k e.1, f e.2)
def lookA : List (Int × α) → Int → Option α
 | [], _ => none
 | e :: es, n => if n = e.1 then some e.2 else lookA es n
def putA : List (Int × α) → Int → α → List (Int × α)
 | [], n, v => [(n, v)]
 | e :: es, n, v => if n = e.1 then (n, v) :: es else e :: putA es n v
def delA : List (Int × α) → Int → List (Int × α)
 | [], _ => []
 | e :: es, n => if n = e.1 then es else e :: delA es n
@[reducible] def keysA (es : List (Int × α)) : List Int := es.map (·.1)
theorem keq_A {k k' : IntKind} {f : α → TV} {e : Int × α} {n : Int} : keq (.int k' n) (encA k f e).1 = decide (n = e.1) := by
 rw [Bool.eq_iff_iff]; simp [keq, encA]
theorem lookM_A (k k' : IntKind) (f : α → TV) (n : Int) : ∀ es : List (Int × α), lookM (es.map (encA k f)) (.int k' n) = (lookA es n).map f
 | [] => rfl
 | e :: es => by
  rw [List.map_cons]
  unfold lookM lookA
  rw [keq_A]
  by_cases he : n = e.1
  ·simp [he, encA]
  ·simp [he, lookM_A k k' f n es]
theorem putM_A (k : IntKind) (f : α → TV) (n : Int) (v : α) : ∀ es : List (Int × α), putM (es.map (encA k f)) (.int k n) (f v) = (putA es n v).map (encA k f)
 | [] => rfl
 | e :: es => by
  rw [List.map_cons]
  unfold putM putA
  rw [keq_A]
  by_cases he : n = e.1
  ·simp [he, encA]
  ·simp [he, putM_A k f n v es]
theorem delM_A (k k' : IntKind) (f : α → TV) (n : Int) : ∀ es : List (Int × α), delM (es.map (encA k f)) (.int k' n) = (delA es n).map (encA k f)
 | [] => rfl
 | e :: es => by
  rw [List.map_cons]
  unfold delM delA
  rw [keq_A]
  by_cases he : n = e.1
  ·simp [he]
  ·simp [he, delM_A k k' f n es]
theorem keysM_A (k : IntKind) (f : α → TV) (es : List (Int × α)) : (es.map (encA k f)).map (·.1) = (keysA es).map (.int k) := by
 simp [encA, keysA, Function.comp_def]
theorem putA_keys {n : Int} {v : α} : ∀ {es : List (Int × α)}, keysA (putA es n v) = if n ∈ keysA es then keysA es else keysA es ++ [n]
 | [] => rfl
 | e :: es => by
  have ih := putA_keys (n := n) (v := v) (es := es)
  unfold putA
  by_cases he : n = e.1
  ·simp [he]
  ·simp only [he, if_false, keysA, List.map_cons, List.mem_cons, false_or] at ih ⊢
   rw [ih]
   split <;> simp
theorem putA_new {n : Int} {v : α} : ∀ {es : List (Int × α)}, n ∉ keysA es → putA es n v = es ++ [(n, v)]
 | [], _ => rfl
 | e :: es, h => by
  simp only [keysA, List.map_cons, List.mem_cons, not_or] at h
  unfold putA
  rw [if_neg h.1, putA_new (es := es) h.2]; rfl
theorem putA_nodup {n : Int} {v : α} {es : List (Int × α)} (h : (keysA es).Nodup) : (keysA (putA es n v)).Nodup := by
 rw [putA_keys]
 split
 ·exact h
 ·rename_i hn
  rw [List.nodup_append]
  exact ⟨h, by simp, fun a ha b hb => by simp at hb; subst hb; rintro rfl; exact hn ha⟩
theorem delA_sub {n : Int} : ∀ {es : List (Int × α)}, (delA es n).Sublist es
 | [] => .refl _
 | e :: es => by
  unfold delA
  split
  ·exact List.sublist_cons_self ..
  ·exact (delA_sub (es := es)).cons_cons _
theorem delA_nodup {n : Int} {es : List (Int × α)} (h : (keysA es).Nodup) : (keysA (delA es n)).Nodup := ((delA_sub (n := n) (es := es)).map _).nodup h
theorem lookA_some {n : Int} {v : α} : ∀ {es : List (Int × α)}, (keysA es).Nodup → (lookA es n = some v ↔ (n, v) ∈ es)
 | [], _ => by simp [lookA]
 | e :: es, h => by
  simp only [keysA, List.map_cons, List.nodup_cons] at h
  unfold lookA
  by_cases he : n = e.1
  ·rw [if_pos he]
   constructor
   ·intro h1; cases h1; rw [he]; exact List.mem_cons_self
   ·intro h1
    rcases List.mem_cons.1 h1 with h1 | h1
    ·rw [← h1]
    ·exact absurd (List.mem_map.2 ⟨_, h1, he⟩) h.1
  ·rw [if_neg he, lookA_some h.2]
   constructor
   ·exact fun h1 => List.mem_cons_of_mem _ h1
   ·intro h1
    rcases List.mem_cons.1 h1 with h1 | h1
    ·exact absurd (congrArg (·.1) h1) he
    ·exact h1
theorem lookA_none {n : Int} : ∀ {es : List (Int × α)}, lookA es n = none ↔ n ∉ keysA es
 | [] => by simp [lookA]
 | e :: es => by
  have ih := lookA_none (n := n) (es := es)
  unfold lookA
  by_cases he : n = e.1
  ·simp [he]
  ·simp only [he, if_false, keysA, List.map_cons, List.mem_cons, false_or] at ih ⊢; exact ih
theorem lookA_put {n m : Int} {v : α} : ∀ {es : List (Int × α)}, lookA (putA es n v) m = if m = n then some v else lookA es m
 | [] => by simp [putA, lookA]
 | e :: es => by
  have ih := lookA_put (n := n) (m := m) (v := v) (es := es)
  unfold putA
  by_cases he : n = e.1
  ·simp only [he, if_true, lookA]
   by_cases hm : m = e.1 <;> simp [hm]
  ·simp only [he, if_false, lookA, ih]
   by_cases hm : m = e.1
   ·rw [if_pos hm, if_pos hm, if_neg]; rintro rfl; exact he hm
   ·rw [if_neg hm, if_neg hm]
theorem putA_mem {n : Int} {v : α} {x : Int × α} {es : List (Int × α)} (h : (keysA es).Nodup) : x ∈ putA es n v ↔ x = (n, v) ∨ x.1 ≠ n ∧ x ∈ es := by
 obtain ⟨a, b⟩ := x
 rw [← lookA_some (putA_nodup h), lookA_put]
 by_cases e : a = n
 ·subst e
  simp
  exact eq_comm
 ·simp [e, lookA_some h]
end
end Go.M
namespace Go.M
open Go Go.Proofs
set_option maxRecDepth 100000
set_option maxHeartbeats 2000000
structure LeadS where
 me : Int
 masters : Int
 st : Int
 b : Int
 frm : Int
 nxt : Int
 came : List (Int × List Vote)
 opn : List (Int × Cmd × Nat)
def encVs (l : List Vote) : TV := .sl 6 (l.map encV) false
def encP (p : Cmd × Nat) : TV := .agg [.s (.int .i64 p.1.kind), .s (.int .i64 p.1.chain), .s (.int .u64 p.1.epoch), .s (.int .i64 p.1.node), .s (.int .u64 p.2)]
@[reducible] def leadO (x : LeadS) (i j : Nat) : TO := .cells [.s (.int .i64 x.me), .s (.int .i64 x.masters), .s (.int .i64 x.st), .s (.int .u64 x.b), .s (.int .i64 x.frm), .s (.int .i64 x.nxt), .mp i, .mp j]
@[reducible] def cameO (x : LeadS) : TO := .map (kIdx .i64) (x.came.map (encA .i64 encVs))
@[reducible] def openO (x : LeadS) : TO := .map (kIdx .i64) (x.opn.map (encA .i64 encP))
@[reducible] def stL (x : LeadS) : Ob := [(0, leadO x 1 2), (1, cameO x), (2, openO x)]
@[reducible] def lead0 (me masters : Int) : TO := .cells [.s (.int .i64 me), .s (.int .i64 masters), .s (.int .i64 0), .s (.int .u64 0), .s (.int .i64 0), .s (.int .i64 0), .s (.map none), .s (.map none)]
theorem newL_ok (me masters : Int) (h1 : m5 masters) (h2 : 1 ≤ me ∧ me ≤ masters) : VC E0 5 0 [.s (.int .i64 me), .s (.int .i64 masters)] [] (RR (.tup [.ptr 0 0, .s (.int .i64 0)]) 1 [(0, lead0 me masters)]) := by
 unfold m5 at h1
 refine VC.enterR L0 (show E0.func 5 = some Try.f5 by kernel_rfl) (fun _ _ => rfl) rfl rfl [] ?_
 ((conv=>whnf)<;>repeat(with_reducible refine D1 ?_)<;>conv=>whnf)
 (first|refine ⟨?_,?_⟩|refine nsplit ?_ ?_|refine bsplit ?_ ?_)<;>intro a1<;>have hz_:=True.intro<;>clear hz_
 ·have a1 : masters < 1 := a1
  omega
 ·((conv=>whnf)<;>repeat(with_reducible refine D1 ?_)<;>conv=>whnf)
  (first|refine ⟨?_,?_⟩|refine nsplit ?_ ?_|refine bsplit ?_ ?_)<;>intro a2<;>have hz_:=True.intro<;>clear hz_
  ·have a2 : masters > 5 := a2
   omega
  ·((conv=>whnf)<;>repeat(with_reducible refine D1 ?_)<;>conv=>whnf)
   (first|refine ⟨?_,?_⟩|refine nsplit ?_ ?_|refine bsplit ?_ ?_)<;>intro a3<;>have hz_:=True.intro<;>clear hz_
   ·have a3 : me < 1 := a3
    omega
   ·((conv=>whnf)<;>repeat(with_reducible refine D1 ?_)<;>conv=>whnf)
    (first|refine ⟨?_,?_⟩|refine nsplit ?_ ?_|refine bsplit ?_ ?_)<;>intro a4<;>have hz_:=True.intro<;>clear hz_
    ·have a4 : me > masters := a4
     omega
    ·((conv=>whnf)<;>repeat(with_reducible refine D1 ?_)<;>conv=>whnf)
     exact ⟨[], [some 0], _, _, _, t3, rfl, rfl, rfl⟩
def isRight (me masters : Int) : Bool := decide (m5 masters ∧ 1 ≤ me ∧ me ≤ masters)
theorem isL_ok (x : LeadS) (s b : Int) : VC E0 23 3 [.ptr 0 0, .s (.int .i64 s), .s (.int .u64 b)] (stL x) (RR (.s (.bool (decide (x.st = s ∧ x.b = b)))) 3 (stL x)) := by
 refine VC.enterR L0 (show E0.func 23 = some Try.f23 by kernel_rfl) (fun _ _ => rfl) rfl rfl [] ?_
 ((conv=>whnf)<;>repeat(with_reducible refine D1 ?_)<;>conv=>whnf)
 (first|refine ⟨?_,?_⟩|refine nsplit ?_ ?_|refine bsplit ?_ ?_)<;>intro h1<;>have hz_:=True.intro<;>clear hz_
 ·have h1 : x.st = s := h1
  ((conv=>whnf)<;>repeat(with_reducible refine D1 ?_)<;>conv=>whnf)
  (first|refine ⟨?_,?_⟩|refine nsplit ?_ ?_|refine bsplit ?_ ?_)<;>intro h2<;>have hz_:=True.intro<;>clear hz_
  ·have h2 : x.b = b := h2
   ((conv=>whnf)<;>repeat(with_reducible refine D1 ?_)<;>conv=>whnf)
   refine ⟨[], [some 0, some 1, some 2], ?_⟩
   iterate 3 constructor
   refine ⟨⟨?_, ?_, ?_⟩, rfl, rfl, rfl⟩
   all_goals (repeat' first|with_reducible exact Lz.rfl|exact Lw.rfl|exact Lz.wrap (by omega)|(unfold goInt;with_reducible exact Lz.rfl)|exact flx _|constructor)
   exact Lz.of (bool_eq (Eq.symm (decide_eq_true ⟨h1, h2⟩)))
  ·have h2 : ¬ x.b = b := h2
   ((conv=>whnf)<;>repeat(with_reducible refine D1 ?_)<;>conv=>whnf)
   refine ⟨[], [some 0, some 1, some 2], ?_⟩
   iterate 3 constructor
   refine ⟨⟨?_, ?_, ?_⟩, rfl, rfl, rfl⟩
   all_goals (repeat' first|with_reducible exact Lz.rfl|exact Lw.rfl|exact Lz.wrap (by omega)|(unfold goInt;with_reducible exact Lz.rfl)|exact flx _|constructor)
   exact Lz.of (bool_eq (Eq.symm (decide_eq_false fun h => h2 h.2)))
 ·have h1 : ¬ x.st = s := h1
  ((conv=>whnf)<;>repeat(with_reducible refine D1 ?_)<;>conv=>whnf)
  refine ⟨[], [some 0, some 1, some 2], ?_⟩
  iterate 3 constructor
  refine ⟨⟨?_, ?_, ?_⟩, rfl, rfl, rfl⟩
  all_goals (repeat' first|with_reducible exact Lz.rfl|exact Lw.rfl|exact Lz.wrap (by omega)|(unfold goInt;with_reducible exact Lz.rfl)|exact flx _|constructor)
  exact Lz.of (bool_eq (Eq.symm (decide_eq_false fun h => h1 h.1)))
theorem isM_ok (x : LeadS) (who : Int) : VC E0 24 3 [.ptr 0 0, .s (.int .i64 who)] (stL x) (RR (.s (.bool (decide (1 ≤ who ∧ who ≤ x.masters)))) 3 (stL x)) := by
 refine VC.enterR L0 (show E0.func 24 = some Try.f24 by kernel_rfl) (fun _ _ => rfl) rfl rfl [] ?_
 ((conv=>whnf)<;>repeat(with_reducible refine D1 ?_)<;>conv=>whnf)
 (first|refine ⟨?_,?_⟩|refine nsplit ?_ ?_|refine bsplit ?_ ?_)<;>intro h1<;>have hz_:=True.intro<;>clear hz_
 ·have h1 : who ≥ 1 := h1
  ((conv=>whnf)<;>repeat(with_reducible refine D1 ?_)<;>conv=>whnf)
  (first|refine ⟨?_,?_⟩|refine nsplit ?_ ?_|refine bsplit ?_ ?_)<;>intro h2<;>have hz_:=True.intro<;>clear hz_
  ·have h2 : who ≤ x.masters := h2
   ((conv=>whnf)<;>repeat(with_reducible refine D1 ?_)<;>conv=>whnf)
   refine ⟨[], [some 0, some 1, some 2], ?_⟩
   iterate 3 constructor
   refine ⟨⟨?_, ?_, ?_⟩, rfl, rfl, rfl⟩
   all_goals (repeat' first|with_reducible exact Lz.rfl|exact Lw.rfl|exact Lz.wrap (by omega)|(unfold goInt;with_reducible exact Lz.rfl)|exact flx _|constructor)
   exact Lz.of (bool_eq (Eq.symm (decide_eq_true ⟨h1, h2⟩)))
  ·have h2 : ¬ who ≤ x.masters := h2
   ((conv=>whnf)<;>repeat(with_reducible refine D1 ?_)<;>conv=>whnf)
   refine ⟨[], [some 0, some 1, some 2], ?_⟩
   iterate 3 constructor
   refine ⟨⟨?_, ?_, ?_⟩, rfl, rfl, rfl⟩
   all_goals (repeat' first|with_reducible exact Lz.rfl|exact Lw.rfl|exact Lz.wrap (by omega)|(unfold goInt;with_reducible exact Lz.rfl)|exact flx _|constructor)
   exact Lz.of (bool_eq (Eq.symm (decide_eq_false fun h => h2 h.2)))
 ·have h1 : ¬ who ≥ 1 := h1
  ((conv=>whnf)<;>repeat(with_reducible refine D1 ?_)<;>conv=>whnf)
  refine ⟨[], [some 0, some 1, some 2], ?_⟩
  iterate 3 constructor
  refine ⟨⟨?_, ?_, ?_⟩, rfl, rfl, rfl⟩
  all_goals (repeat' first|with_reducible exact Lz.rfl|exact Lw.rfl|exact Lz.wrap (by omega)|(unfold goInt;with_reducible exact Lz.rfl)|exact flx _|constructor)
  exact Lz.of (bool_eq (Eq.symm (decide_eq_false fun h => h1 h.1)))
def layS (x : LeadS) (c : Cmd) : LeadS := { x with opn := putA x.opn x.nxt (c, 0), nxt := x.nxt + 1 }
theorem lay_ok (x : LeadS) (c : Cmd) (h : -1000000 ≤ x.nxt ∧ x.nxt ≤ 1000000) : VC E0 22 3 [.ptr 0 0, cT4 c] (stL x) (RR (.s (.int .i64 x.nxt)) 3 (stL (layS x c))) := by
 refine VC.enterR L0 (show E0.func 22 = some Try.f22 by kernel_rfl) (fun _ _ => rfl) rfl rfl [] ?_
 ((conv=>whnf)<;>repeat(with_reducible refine D1 ?_)<;>conv=>whnf)
 refine ⟨[], [some 0, some 1, some 2], ?_⟩
 iterate 3 constructor
 refine ⟨⟨?_, ?_, ?_⟩, rfl, rfl, rfl⟩
 all_goals (repeat' first|with_reducible exact Lz.rfl|exact Lw.rfl|exact Lz.wrap (by omega)|(unfold goInt;with_reducible exact Lz.rfl)|exact flx _|constructor)
 ·exact Lz.int (IntWalk.i64_in _ (by omega))
 ·exact Lz.of (putM_A .i64 encP x.nxt (c, 0) x.opn)
def noCmd : Cmd := ⟨0, 0, 0, 0⟩
def voteS (x : LeadS) (n : Int) : Vote := .of n x.b ((lookA x.opn n).getD (noCmd, 0)).1
theorem voteL_ok (x : LeadS) (n : Int) : VC E0 21 3 [.ptr 0 0, .s (.int .i64 n)] (stL x) (RR (.agg (encV (voteS x n))) 3 (stL x)) := by
 refine VC.enterR L0 (show E0.func 21 = some Try.f21 by kernel_rfl) (fun _ _ => rfl) rfl rfl [] ?_
 ((conv=>whnf)<;>repeat(with_reducible refine D1 ?_)<;>conv=>whnf)
 have hl := lookM_A .i64 .i64 encP n x.opn
 have hv : voteS x n = .of n x.b ((lookA x.opn n).getD (noCmd, 0)).1 := rfl
 cases h : lookA x.opn n with
 | none =>
  rw [h] at hl hv
  refine ⟨_, hl, ?_⟩
  ((conv=>whnf)<;>repeat(with_reducible refine D1 ?_)<;>conv=>whnf)
  rw [hv]
  exact ⟨[], [some 0, some 1, some 2], _, _, _, t3, rfl, rfl, rfl⟩
 | some p =>
  rw [h] at hl hv
  refine ⟨_, hl, ?_⟩
  ((conv=>whnf)<;>repeat(with_reducible refine D1 ?_)<;>conv=>whnf)
  rw [hv]
  exact ⟨[], [some 0, some 1, some 2], _, _, _, t3, rfl, rfl, rfl⟩
end Go.M
namespace Go.M
open Go Go.Proofs
set_option maxRecDepth 100000
set_option maxHeartbeats 2000000
theorem cloneV_ok (vs : List Vote) (hl : vs.length < 1000000) : VC E0 26 0 [encVs vs] [] (RR (.tk 0) 1 [(0, .arr 6 true (vs.map encV))]) := by
 refine VC.enterR L0 (show E0.func 26 = some Try.f26 by kernel_rfl) (fun _ _ => rfl) rfl rfl [] ?_
 ((conv=>whnf)<;>repeat(with_reducible refine D1 ?_)<;>conv=>whnf)
 refine ⟨fun h => ?_, ?_⟩
 ·have h : vs = [] := by simpa using h
  subst h
  ((conv=>whnf)<;>repeat(with_reducible refine D1 ?_)<;>conv=>whnf)
  exact ⟨[], [none], _, _, _, t3, rfl, rfl, rfl⟩
 ·((conv=>whnf)<;>repeat(with_reducible refine D1 ?_)<;>conv=>whnf)
  refine ⟨by simp; omega, ?_⟩
  ((conv=>whnf)<;>repeat(with_reducible refine D1 ?_)<;>conv=>whnf)
  exact ⟨[], [some 1], _, _, _, t3, rfl, rfl, rfl⟩
def badV (frm : Int) (v : Vote) : Bool := decide (v.slot < frm ∨ v.slot ≥ 512)
def delV (frm : Int) (vs : List Vote) : List Vote := vs.filter fun v => !(badV frm v)
@[reducible] def stC (x : LeadS) : Ob := [(0, .cells [.ptr 1 0]), (1, leadO x 2 3), (2, cameO x), (3, openO x)]
@[reducible] def stD (x : LeadS) (vs : List Vote) : Ob := [(0, .arr 6 true (vs.map encV)), (1, .cells [.ptr 2 0]), (2, leadO x 3 4), (3, cameO x), (4, openO x)]
theorem bad_ok (x : LeadS) (v : Vote) : VC E0 27 4 [.agg (encV v), .ptr 0 0] (stC x) (RR (.s (.bool (badV x.frm v))) 4 (stC x)) := by
 refine VC.enterR L0 (show E0.func 27 = some Try.f27 by kernel_rfl) (fun _ _ => rfl) rfl rfl [] ?_
 ((conv=>whnf)<;>repeat(with_reducible refine D1 ?_)<;>conv=>whnf)
 (first|refine ⟨?_,?_⟩|refine nsplit ?_ ?_|refine bsplit ?_ ?_)<;>intro h1<;>have hz_:=True.intro<;>clear hz_
 ·have h1 : v.slot < x.frm := h1
  ((conv=>whnf)<;>repeat(with_reducible refine D1 ?_)<;>conv=>whnf)
  refine ⟨[], [some 0, some 1, some 2, some 3], ?_⟩
  iterate 3 constructor
  refine ⟨⟨?_, ?_, ?_⟩, rfl, rfl, rfl⟩
  all_goals (repeat' first|with_reducible exact Lz.rfl|exact Lw.rfl|exact Lz.wrap (by omega)|(unfold goInt;with_reducible exact Lz.rfl)|exact flx _|constructor)
  exact Lz.of (bool_eq (Eq.symm (decide_eq_true (.inl h1))))
 ·have h1 : ¬ v.slot < x.frm := h1
  ((conv=>whnf)<;>repeat(with_reducible refine D1 ?_)<;>conv=>whnf)
  (first|refine ⟨?_,?_⟩|refine nsplit ?_ ?_|refine bsplit ?_ ?_)<;>intro h2<;>have hz_:=True.intro<;>clear hz_
  ·have h2 : v.slot ≥ 512 := h2
   ((conv=>whnf)<;>repeat(with_reducible refine D1 ?_)<;>conv=>whnf)
   refine ⟨[], [some 0, some 1, some 2, some 3], ?_⟩
   iterate 3 constructor
   refine ⟨⟨?_, ?_, ?_⟩, rfl, rfl, rfl⟩
   all_goals (repeat' first|with_reducible exact Lz.rfl|exact Lw.rfl|exact Lz.wrap (by omega)|(unfold goInt;with_reducible exact Lz.rfl)|exact flx _|constructor)
   exact Lz.of (bool_eq (Eq.symm (decide_eq_true (.inr h2))))
  ·have h2 : ¬ v.slot ≥ 512 := h2
   ((conv=>whnf)<;>repeat(with_reducible refine D1 ?_)<;>conv=>whnf)
   refine ⟨[], [some 0, some 1, some 2, some 3], ?_⟩
   iterate 3 constructor
   refine ⟨⟨?_, ?_, ?_⟩, rfl, rfl, rfl⟩
   all_goals (repeat' first|with_reducible exact Lz.rfl|exact Lw.rfl|exact Lz.wrap (by omega)|(unfold goInt;with_reducible exact Lz.rfl)|exact flx _|constructor)
   exact Lz.of (bool_eq (Eq.symm (decide_eq_false fun h => h.elim h1 h2)))
theorem idxV_ok (x : LeadS) (vs : List Vote) (hl : vs.length < 1000000) : VC E0 40 5 [.tk 0, .clo 27 [] [.ptr 1 0]] (stD x vs)
 (fun r o c => ∃ i : Int, r = .s (.int .i64 i) ∧ c = 5 ∧ o = stD x vs ∧ ((i = -1 ∧ ∀ v ∈ vs, badV x.frm v = false) ∨ ∃ j : Nat, ∃ h : j < vs.length, i = j ∧ (∀ v ∈ vs.take j, badV x.frm v = false) ∧ badV x.frm vs[j] = true)) := by
 refine VC.enterR L0 (show E0.func 40 = some Try.f40 by kernel_rfl) (fun _ _ => rfl) rfl rfl [] ?_
 ((conv=>whnf)<;>repeat(with_reducible refine D1 ?_)<;>conv=>whnf)
 refine ⟨fun k f o c => ∃ j : Nat, j ≤ vs.length ∧ k = vs.length - j ∧ (∀ v ∈ vs.take j, badV x.frm v = false) ∧ c = 5 ∧ f = [(0, .tk 0), (1, .clo 27 [] [.ptr 1 0]), (7, .s (.int .i64 vs.length)), (8, .s (.int .i64 j))] ∧ o = stD x vs, ⟨vs.length, ?_⟩, ?_⟩
 ·refine ⟨[], [some 0, some 1, some 2, some 3, some 4], ?_⟩
  iterate 3 constructor
  refine ⟨⟨?_, ?_, ?_⟩, ⟨0, Nat.zero_le _, rfl, by simp, rfl, rfl, rfl⟩⟩
  all_goals (repeat' first|with_reducible exact Lz.rfl|exact Lw.rfl|exact Lz.wrap (by omega)|(unfold goInt;with_reducible exact Lz.rfl)|exact flx _|constructor)
  all_goals exact Lz.of (by simp [goInt])
 ·rintro k f1 o1 c1 ⟨j, hj, rfl, hb, rfl, rfl, rfl⟩
  ((conv=>whnf)<;>repeat(with_reducible refine D1 ?_)<;>conv=>whnf)
  (first|refine ⟨?_,?_⟩|refine nsplit ?_ ?_|refine bsplit ?_ ?_)<;>intro h<;>have hz_:=True.intro<;>clear hz_
  ·have h : j < vs.length := by simpa using h
   ((conv=>whnf)<;>repeat(with_reducible refine D1 ?_)<;>conv=>whnf)
   refine ⟨⟨by omega, by simp; omega⟩, encV vs[j], by simp [h], ?_⟩
   ((conv=>whnf)<;>repeat(with_reducible refine D1 ?_)<;>conv=>whnf)
   refine ⟨[], [some 1, some 2, some 3, some 4], _, _, _, _, bad_ok x vs[j], t3, ?_⟩
   rintro r o' c' ⟨rfl, rfl, rfl⟩
   have hz_ := True.intro
   clear hz_
   cases hv : badV x.frm vs[j]
   ·((conv=>whnf)<;>repeat(with_reducible refine D1 ?_)<;>conv=>whnf)
    refine ⟨vs.length - (j + 1), ?_, by omega⟩
    exact ⟨[], [some 0, some 1, some 2, some 3, some 4], _, _, _, t3, ⟨j + 1, h, rfl, by intro v hv'; rw [List.take_succ_eq_append_getElem h] at hv'; rcases List.mem_append.1 hv' with h1 | h1; exact hb v h1; simp at h1; subst h1; exact hv, rfl, rfl, rfl⟩⟩
   ·((conv=>whnf)<;>repeat(with_reducible refine D1 ?_)<;>conv=>whnf)
    exact ⟨[], [some 0, some 1, some 2, some 3, some 4], _, _, _, t3, (j : Int), rfl, rfl, rfl, .inr ⟨j, h, rfl, hb, hv⟩⟩
  ·have h' : j = vs.length := by have : ¬ j < vs.length := by simpa using h
                                 omega
   subst h'
   rw [List.take_length] at hb
   ((conv=>whnf)<;>repeat(with_reducible refine D1 ?_)<;>conv=>whnf)
   exact ⟨[], [some 0, some 1, some 2, some 3, some 4], _, _, _, t3, -1, rfl, rfl, rfl, .inl ⟨rfl, hb⟩⟩
theorem delV_all {frm : Int} {vs : List Vote} (h : ∀ v ∈ vs, badV frm v = false) : delV frm vs = vs := by
 unfold delV
 rw [List.filter_eq_self]
 intro v hv; rw [h v hv]; rfl
theorem delV_snoc (frm : Int) (vs : List Vote) (j : Nat) (h : j < vs.length) : delV frm (vs.take (j + 1)) = delV frm (vs.take j) ++ (if badV frm vs[j] = true then [] else [vs[j]]) := by
 unfold delV
 rw [List.take_succ_eq_append_getElem h, List.filter_append]
 congr 1
 by_cases hb : badV frm vs[j] = true <;> simp [hb]
theorem delf_ok (x : LeadS) (vs : List Vote) (hl : vs.length < 1000000) : VC E0 25 5 [.tk 0, .clo 27 [] [.ptr 1 0]] (stD x vs)
 (RR (encVs (delV x.frm vs)) 5 [(1, .cells [.ptr 2 0]), (2, leadO x 3 4), (3, cameO x), (4, openO x)]) := by
 refine VC.enterR L0 (show E0.func 25 = some Try.f25 by kernel_rfl) (fun _ _ => rfl) rfl rfl [] ?_
 ((conv=>whnf)<;>repeat(with_reducible refine D1 ?_)<;>conv=>whnf)
 refine ⟨[], [some 0, some 1, some 2, some 3, some 4], _, _, _, _, idxV_ok x vs hl, t3, ?_⟩
 rintro r o' c' ⟨i0, rfl, rfl, rfl, hi0⟩
 ((conv=>whnf)<;>repeat(with_reducible refine D1 ?_)<;>conv=>whnf)
 (first|refine ⟨?_,?_⟩|refine nsplit ?_ ?_|refine bsplit ?_ ?_)<;>intro hm<;>have hz_:=True.intro<;>clear hz_
 ·have hm : i0 = -1 := hm
  rcases hi0 with ⟨_, hall⟩ | ⟨j, h, e, _, _⟩
  ·((conv=>whnf)<;>repeat(with_reducible refine D1 ?_)<;>conv=>whnf)
   refine ⟨[0], [some 0, some 1, some 2, some 3, some 4], ?_⟩
   iterate 3 constructor
   refine ⟨⟨?_, ?_, ?_⟩, rfl, rfl, rfl⟩
   all_goals (repeat' first|with_reducible exact Lz.rfl|exact Lw.rfl|exact Lz.wrap (by omega)|(unfold goInt;with_reducible exact Lz.rfl)|exact flx _|constructor)
   rw [delV_all hall]; exact Lz.rfl
  ·omega
 ·have hm : ¬ i0 = -1 := hm
  rcases hi0 with ⟨e, _⟩ | ⟨j0, h0, rfl, hb0, hv0⟩
  ·exact absurd e hm
  ((conv=>whnf)<;>repeat(with_reducible refine D1 ?_)<;>conv=>whnf)
  refine ⟨fun k f o c => ∃ (i j : Nat) (ws : List Vote), i < j ∧ j ≤ vs.length ∧ k = vs.length - j ∧ ws.length = vs.length ∧ ws.take i = delV x.frm (vs.take j) ∧ ws.drop j = vs.drop j ∧ c = 5 ∧ f = [(0, .tk 0), (1, .clo 27 [] [.ptr 1 0]), (5, .s (.int .i64 i)), (6, .s (.int .i64 j))] ∧ o = stD x ws, ⟨vs.length - (j0 + 1), ?_⟩, ?_⟩
  ·exact ⟨[], [some 0, some 1, some 2, some 3, some 4], _, _, _, t3, ⟨j0, j0 + 1, vs, by omega, h0, rfl, rfl, (by rw [delV_snoc _ _ _ h0, if_pos hv0, List.append_nil]; exact (delV_all hb0).symm), rfl, rfl, rfl, rfl⟩⟩
  ·rintro k f1 o1 c1 ⟨i, j, ws, hij, hj, rfl, hlen, htk, hdr, rfl, rfl, rfl⟩
   ((conv=>whnf)<;>repeat(with_reducible refine D1 ?_)<;>conv=>whnf)
   (first|refine ⟨?_,?_⟩|refine nsplit ?_ ?_|refine bsplit ?_ ?_)<;>intro h<;>have hz_:=True.intro<;>clear hz_
   ·have h : j < vs.length := by rw [List.length_map, hlen] at h; omega
    have hw : ws[j]? = some vs[j] := by
     have := congrArg (fun l => l[0]?) hdr
     simpa [h] using this
    have hdr1 : ws.drop (j + 1) = vs.drop (j + 1) := by
     have := congrArg (List.drop 1) hdr
     simpa [List.drop_drop, Nat.add_comm] using this
    ((conv=>whnf)<;>repeat(with_reducible refine D1 ?_)<;>conv=>whnf)
    refine ⟨⟨by omega, by simp; omega⟩, encV vs[j], by simp [hw], ?_⟩
    ((conv=>whnf)<;>repeat(with_reducible refine D1 ?_)<;>conv=>whnf)
    refine ⟨[], [some 1, some 2, some 3, some 4], _, _, _, _, bad_ok x vs[j], t3, ?_⟩
    rintro r o' c' ⟨rfl, rfl, rfl⟩
    have hz_ := True.intro
    clear hz_
    cases hv : badV x.frm vs[j]
    ·((conv=>whnf)<;>repeat(with_reducible refine D1 ?_)<;>conv=>whnf)
     refine ⟨⟨by omega, by simp; omega⟩, encV (ws[i]'(by omega)), by simp [show i < ws.length by omega], ?_⟩
     ((conv=>whnf)<;>repeat(with_reducible refine D1 ?_)<;>conv=>whnf)
     refine ⟨vs.length - (j + 1), ?_, by omega⟩
     refine ⟨[], [some 0, some 1, some 2, some 3, some 4], ?_⟩
     iterate 3 constructor
     refine ⟨⟨?_, ?_, ?_⟩, ⟨i + 1, j + 1, ws.set i vs[j], by omega, h, rfl, by simpa using hlen, (by rw [delV_snoc _ _ _ h, if_neg (by simp [hv]), List.take_succ_eq_append_getElem (by simp; omega), List.take_set_of_le (Nat.le_refl _), htk]; simp), (by rw [List.drop_set_of_lt (by omega)]; exact hdr1), rfl, rfl, rfl⟩⟩
     all_goals (repeat' first|with_reducible exact Lz.rfl|exact Lw.rfl|exact Lz.wrap (by omega)|(unfold goInt;with_reducible exact Lz.rfl)|exact flx _|constructor)
     refine Lz.of ?_
     rw [List.map_set]; rfl
    ·((conv=>whnf)<;>repeat(with_reducible refine D1 ?_)<;>conv=>whnf)
     refine ⟨vs.length - (j + 1), ?_, by omega⟩
     exact ⟨[], [some 0, some 1, some 2, some 3, some 4], _, _, _, t3, ⟨i, j + 1, ws, by omega, h, rfl, hlen, (by rw [delV_snoc _ _ _ h, if_pos hv, List.append_nil]; exact htk), hdr1, rfl, rfl, rfl⟩⟩
   ·have h' : j = vs.length := by have : ¬ (j : Int) < (((ws.map encV).length : Nat) : Int) := h
                                  rw [List.length_map, hlen] at this; omega
    subst h'
    rw [List.take_length] at htk
    ((conv=>whnf)<;>repeat(with_reducible refine D1 ?_)<;>conv=>whnf)
    refine ⟨⟨by omega, by simp; try omega, by simp⟩, .inr ?_⟩
    ((conv=>whnf)<;>repeat(with_reducible refine D1 ?_)<;>conv=>whnf)
    refine ⟨fun hc => absurd hc (by simp; omega), fun _ => ?_⟩
    ((conv=>whnf)<;>repeat(with_reducible refine D1 ?_)<;>conv=>whnf)
    refine ⟨⟨by omega, by simp; try omega, by simp; try omega⟩, ?_⟩
    ((conv=>whnf)<;>repeat(with_reducible refine D1 ?_)<;>conv=>whnf)
    refine ⟨[], [some 0, some 1, some 2, some 3, some 4], ?_⟩
    iterate 3 constructor
    refine ⟨⟨?_, ?_, ?_⟩, rfl, rfl, rfl⟩
    all_goals (repeat' first|with_reducible exact Lz.rfl|exact Lw.rfl|exact Lz.wrap (by omega)|(unfold goInt;with_reducible exact Lz.rfl)|exact flx _|constructor)
    refine Lz.of ?_
    rw [← htk]
    simp [List.take_append, show i ≤ ws.length by omega]
end Go.M
namespace Go.M
open Go Go.Proofs
set_option maxRecDepth 100000
set_option maxHeartbeats 2000000
theorem keysP_ok (es : List (Value × TV)) : VC E0 49 1 [.mp 0] [(0, .map (kIdx .i64) es)] (fun r o c => r = .clo 55 [] [.ptr 1 0] ∧ c = 2 ∧ o = [(1, .cells [.mp 0]), (0, .map (kIdx .i64) es)]) := by
 refine VC.enterR L0 (show E0.func 49 = some Try.f49 by kernel_rfl) (fun _ _ => rfl) rfl rfl [] ?_
 ((conv=>whnf)<;>repeat(with_reducible refine D1 ?_)<;>conv=>whnf)
 exact ⟨[], [some 0, some 1], _, _, _, t3, rfl, rfl, rfl⟩
theorem keysC_ok (es : List (Value × TV)) : VC E0 30 1 [.mp 0] [(0, .map (kIdx .i64) es)] (fun r o c => r = .clo 43 [] [.ptr 1 0] ∧ c = 2 ∧ o = [(1, .cells [.mp 0]), (0, .map (kIdx .i64) es)]) := by
 refine VC.enterR L0 (show E0.func 30 = some Try.f30 by kernel_rfl) (fun _ _ => rfl) rfl rfl [] ?_
 ((conv=>whnf)<;>repeat(with_reducible refine D1 ?_)<;>conv=>whnf)
 exact ⟨[], [some 0, some 1], _, _, _, t3, rfl, rfl, rfl⟩
theorem hasSorted : (E0.func 48).isSome = true := by kernel_rfl
theorem sortedA_ok {α : Type} (f : α → TV) (k : Nat) (hk : memN k [56, 55, 43] = true) (es : List (Int × α)) (hok : ksOk (keysA es)) :
 VC E0 48 2 [.clo k [] [.ptr 1 0]] [(0, .map (kIdx .i64) (es.map (encA .i64 f))), (1, .cells [.mp 0])] (fun r o c => r = .tk 2 ∧ c = 3 ∧
  o = [(2, .arr 1 true ((sortZ (keysA es)).map encI1)), (0, .map (kIdx .i64) (es.map (encA .i64 f))), (1, .cells [.mp 0])]) :=
 VC.sortedO (E := E0) (g := 48) (its := [56, 55, 43]) (k := k) hasSorted (fun _ _ => rfl) hk (y := .map (kIdx .i64) (es.map (encA .i64 f))) (ks := keysA es) (by show (es.map (encA .i64 f)).map (·.1) = _; exact keysM_A _ _ _) hok
def openV (x : LeadS) : List Vote := (sortZ (keysA x.opn)).map (voteS x)
theorem openL_ok (x : LeadS) (hok : ksOk (keysA x.opn)) (hlen : x.opn.length < 1000000) : VC E0 33 3 [.ptr 0 0] (stL x) (RR (encVs (openV x)) 3 (stL x)) := by
 refine VC.enterR L0 (show E0.func 33 = some Try.f33 by kernel_rfl) (fun _ _ => rfl) rfl rfl [] ?_
 ((conv=>whnf)<;>repeat(with_reducible refine D1 ?_)<;>conv=>whnf)
 refine ⟨[], [some 2], _, _, _, _, keysP_ok _, t3, ?_⟩
 rintro r o' c' ⟨rfl, rfl, rfl⟩
 ((conv=>whnf)<;>repeat(with_reducible refine D1 ?_)<;>conv=>whnf)
 refine ⟨[], [some 2, some 4], _, _, _, _, sortedA_ok encP _ rfl x.opn hok, t3, ?_⟩
 rintro r o' c' ⟨rfl, rfl, rfl⟩
 ((conv=>whnf)<;>repeat(with_reducible refine D1 ?_)<;>conv=>whnf)
 have hv : openV x = (sortZ (keysA x.opn)).map (voteS x) := rfl
 have hl1 : (sortZ (keysA x.opn)).length < 1000000 := by rw [sortZ_len]; simpa using hlen
 generalize hks : sortZ (keysA x.opn) = ks at *
 refine ⟨fun k f o c => ∃ i : Nat, i ≤ ks.length ∧ k = ks.length - i ∧ c = 5 ∧ f = [(0, .ptr 0 0), (3, .tk 3), (13, .tk 4), (14, .s (.int .i64 ks.length)), (15, .s (.int .i64 i))] ∧ o = [(0, leadO x 1 2), (1, cameO x), (2, openO x), (3, .arr 6 true (((ks.take i).map (voteS x)).map encV)), (4, .arr 1 true (ks.map encI1))], ⟨ks.length, ?_⟩, ?_⟩
 ·refine ⟨[], [some 0, some 1, some 2, none, some 7], ?_⟩
  iterate 3 constructor
  refine ⟨⟨?_, ?_, ?_⟩, ⟨0, Nat.zero_le _, rfl, rfl, rfl, rfl⟩⟩
  all_goals (repeat' first|with_reducible exact Lz.rfl|exact Lw.rfl|exact Lz.wrap (by omega)|(unfold goInt;with_reducible exact Lz.rfl)|exact flx _|constructor)
  all_goals exact Lz.of (by simp [goInt])
 ·rintro k f1 o1 c1 ⟨i, hi, rfl, rfl, rfl, rfl⟩
  ((conv=>whnf)<;>repeat(with_reducible refine D1 ?_)<;>conv=>whnf)
  (first|refine ⟨?_,?_⟩|refine nsplit ?_ ?_|refine bsplit ?_ ?_)<;>intro h<;>have hz_:=True.intro<;>clear hz_
  ·have h : i < ks.length := by simpa using h
   ((conv=>whnf)<;>repeat(with_reducible refine D1 ?_)<;>conv=>whnf)
   refine ⟨⟨by omega, by simp; omega⟩, encI1 ks[i], by simp [h], ?_⟩
   ((conv=>whnf)<;>repeat(with_reducible refine D1 ?_)<;>conv=>whnf)
   refine ⟨[], [some 0, some 1, some 2], _, _, _, _, voteL_ok x ks[i], t3, ?_⟩
   rintro r o' c' ⟨rfl, rfl, rfl⟩
   ((conv=>whnf)<;>repeat(with_reducible refine D1 ?_)<;>conv=>whnf)
   refine ⟨by simp; omega, ?_⟩
   ((conv=>whnf)<;>repeat(with_reducible refine D1 ?_)<;>conv=>whnf)
   refine ⟨ks.length - (i + 1), ?_, by omega⟩
   refine ⟨[], [some 0, some 1, some 2, some 9, some 4], ?_⟩
   iterate 3 constructor
   refine ⟨⟨?_, ?_, ?_⟩, ⟨i + 1, h, rfl, rfl, rfl, rfl⟩⟩
   all_goals (repeat' first|with_reducible exact Lz.rfl|exact Lw.rfl|exact Lz.wrap (by omega)|(unfold goInt;with_reducible exact Lz.rfl)|exact flx _|constructor)
   refine Lz.of ?_
   rw [List.take_succ_eq_append_getElem h, List.map_append, List.map_append]; rfl
  ·have h' : i = ks.length := by have : ¬ i < ks.length := by simpa using h
                                 omega
   subst h'
   rw [List.take_length, ← hv]
   ((conv=>whnf)<;>repeat(with_reducible refine D1 ?_)<;>conv=>whnf)
   exact ⟨[3], [some 0, some 1, some 2], _, _, _, t3, rfl, rfl, rfl⟩
def allL (x : LeadS) : List (List Vote) := (sortZ (keysA x.came)).map fun w => (lookA x.came w).getD []
theorem all_ok (x : LeadS) (hok : ksOk (keysA x.came)) (hlen : x.came.length < 1000000) : VC E0 47 3 [.ptr 0 0] (stL x) (RR (.sl 1 ((allL x).map encL) false) 3 (stL x)) := by
 refine VC.enterR L0 (show E0.func 47 = some Try.f47 by kernel_rfl) (fun _ _ => rfl) rfl rfl [] ?_
 ((conv=>whnf)<;>repeat(with_reducible refine D1 ?_)<;>conv=>whnf)
 refine ⟨[], [some 1], _, _, _, _, keysC_ok _, t3, ?_⟩
 rintro r o' c' ⟨rfl, rfl, rfl⟩
 ((conv=>whnf)<;>repeat(with_reducible refine D1 ?_)<;>conv=>whnf)
 refine ⟨[], [some 1, some 4], _, _, _, _, sortedA_ok encVs _ rfl x.came hok, t3, ?_⟩
 rintro r o' c' ⟨rfl, rfl, rfl⟩
 ((conv=>whnf)<;>repeat(with_reducible refine D1 ?_)<;>conv=>whnf)
 have hv : allL x = (sortZ (keysA x.came)).map fun w => (lookA x.came w).getD [] := rfl
 have hmem : ∀ w ∈ sortZ (keysA x.came), w ∈ keysA x.came := fun w hw => mem_sortZ.1 hw
 have hl1 : (sortZ (keysA x.came)).length < 1000000 := by rw [sortZ_len]; simpa using hlen
 generalize hks : sortZ (keysA x.came) = ks at *
 refine ⟨fun k f o c => ∃ i : Nat, i ≤ ks.length ∧ k = ks.length - i ∧ c = 5 ∧ f = [(0, .ptr 0 0), (3, .tk 3), (11, .tk 4), (12, .s (.int .i64 ks.length)), (13, .s (.int .i64 i))] ∧ o = [(0, leadO x 1 2), (1, cameO x), (2, openO x), (3, .arr 1 true (((ks.take i).map fun w => (lookA x.came w).getD []).map encL)), (4, .arr 1 true (ks.map encI1))], ⟨ks.length, ?_⟩, ?_⟩
 ·refine ⟨[], [some 0, some 1, some 2, none, some 7], ?_⟩
  iterate 3 constructor
  refine ⟨⟨?_, ?_, ?_⟩, ⟨0, Nat.zero_le _, rfl, rfl, rfl, rfl⟩⟩
  all_goals (repeat' first|with_reducible exact Lz.rfl|exact Lw.rfl|exact Lz.wrap (by omega)|(unfold goInt;with_reducible exact Lz.rfl)|exact flx _|constructor)
  all_goals exact Lz.of (by simp [goInt])
 ·rintro k f1 o1 c1 ⟨i, hi, rfl, rfl, rfl, rfl⟩
  ((conv=>whnf)<;>repeat(with_reducible refine D1 ?_)<;>conv=>whnf)
  (first|refine ⟨?_,?_⟩|refine nsplit ?_ ?_|refine bsplit ?_ ?_)<;>intro h<;>have hz_:=True.intro<;>clear hz_
  ·have h : i < ks.length := by simpa using h
   ((conv=>whnf)<;>repeat(with_reducible refine D1 ?_)<;>conv=>whnf)
   refine ⟨⟨by omega, by simp; omega⟩, encI1 ks[i], by simp [h], ?_⟩
   ((conv=>whnf)<;>repeat(with_reducible refine D1 ?_)<;>conv=>whnf)
   have hlk := lookM_A .i64 .i64 encVs ks[i] x.came
   have hsn : ((ks.take (i + 1)).map fun w => (lookA x.came w).getD []).map encL = ((ks.take i).map fun w => (lookA x.came w).getD []).map encL ++ [encL ((lookA x.came ks[i]).getD [])] := by
    rw [List.take_succ_eq_append_getElem h, List.map_append, List.map_append]; rfl
   cases hc : lookA x.came ks[i] with
   | none => exact absurd (hmem _ (List.getElem_mem h)) (lookA_none.1 hc)
   | some vs =>
    rw [hc] at hlk hsn
    refine ⟨_, hlk, ?_⟩
    ((conv=>whnf)<;>repeat(with_reducible refine D1 ?_)<;>conv=>whnf)
    refine ⟨by simp; omega, ?_⟩
    ((conv=>whnf)<;>repeat(with_reducible refine D1 ?_)<;>conv=>whnf)
    refine ⟨ks.length - (i + 1), ?_, by omega⟩
    refine ⟨[], [some 0, some 1, some 2, some 6, some 4], ?_⟩
    iterate 3 constructor
    refine ⟨⟨?_, ?_, ?_⟩, ⟨i + 1, h, rfl, rfl, rfl, rfl⟩⟩
    all_goals (repeat' first|with_reducible exact Lz.rfl|exact Lw.rfl|exact Lz.wrap (by omega)|(unfold goInt;with_reducible exact Lz.rfl)|exact flx _|constructor)
    refine Lz.of ?_
    rw [hsn]; rfl
  ·have h' : i = ks.length := by have : ¬ i < ks.length := by simpa using h
                                 omega
   subst h'
   rw [List.take_length, ← hv]
   ((conv=>whnf)<;>repeat(with_reducible refine D1 ?_)<;>conv=>whnf)
   exact ⟨[3], [some 0, some 1, some 2], _, _, _, t3, rfl, rfl, rfl⟩
end Go.M
namespace Go.M
open Go Go.Proofs
set_option maxRecDepth 100000
set_option maxHeartbeats 4000000
def cmdOf (v : Vote) : Cmd := ⟨v.kind, v.chain, v.epoch, v.node⟩
def layN (x : LeadS) : Nat → LeadS
 | 0 => x
 | m + 1 => layS (layN x m) noCmd
theorem layN_nxt (x : LeadS) : ∀ m, (layN x m).nxt = x.nxt + m
 | 0 => by simp [layN]
 | m + 1 => by simp [layN, layS, layN_nxt x m]; omega
def layUp (x : LeadS) (s : Int) : LeadS := layN x (s - x.nxt).toNat
def fillL (x : LeadS) (l : List Vote) : LeadS := l.foldl (fun x v => layS (layUp x v.slot) (cmdOf v)) x
theorem fillL_snoc (x : LeadS) (l : List Vote) (v : Vote) : fillL x (l ++ [v]) = layS (layUp (fillL x l) v.slot) (cmdOf v) := by simp [fillL]
theorem bestE1_mem {es : List (Int × Vote)} (h : KB es) {v : Vote} {e : Int × Vote} (he : e ∈ bestE1 es v) : e.2 = v ∨ e ∈ es := by
 unfold bestE1 at he
 split at he
 ·rcases (putE_mem h.mv.nd).1 he with rfl | ⟨_, h⟩
  ·exact .inl rfl
  ·exact .inr h
 ·split at he
  ·rcases (putE_mem h.mv.nd).1 he with rfl | ⟨_, h⟩
   ·exact .inl rfl
   ·exact .inr h
  ·exact .inr he
theorem bestE_mem {l : List Vote} (hl : ∀ v ∈ l, inI v.slot) {e : Int × Vote} (he : e ∈ bestE l) : e.2 ∈ l := by
 have : ∀ (l : List Vote) (es : List (Int × Vote)), KB es → (∀ v ∈ l, inI v.slot) → ∀ e ∈ l.foldl bestE1 es, e.2 ∈ l ∨ e ∈ es := by
  intro l
  induction l with
  | nil => intro es _ _ e he; exact .inr he
  | cons v l ih =>
   intro es h hv e he
   obtain ⟨h1, _, _⟩ := bestE1_kb h (hv v List.mem_cons_self)
   rcases ih _ h1 (fun w hw => hv w (List.mem_cons_of_mem _ hw)) e he with h2 | h2
   ·exact .inl (List.mem_cons_of_mem _ h2)
   ·rcases bestE1_mem h h2 with h3 | h3
    ·rw [h3]; exact .inl List.mem_cons_self
    ·exact .inr h3
 rcases this l [] ⟨⟨by simp, by simp⟩, by simp⟩ hl e he with h | h
 ·exact h
 ·cases h
theorem bestV_mem {l : List (List Vote)} (hl : ∀ x ∈ l, ∀ v ∈ x, inI v.slot) {v : Vote} (hv : v ∈ bestV l) : ∃ x ∈ l, v ∈ x := by
 have hf : ∀ v ∈ l.flatten, inI v.slot := fun v hv => by obtain ⟨x, hx, hv⟩ := List.mem_flatten.1 hv; exact hl x hx v hv
 have := bestE_mem hf ((mem_allV (bestE_kb hf).1.mv).1 hv)
 obtain ⟨x, hx, hv⟩ := List.mem_flatten.1 this
 exact ⟨x, hx, hv⟩
structure CameOk (x : LeadS) : Prop where
 nd : (keysA x.came).Nodup
 k5 : ∀ w ∈ keysA x.came, m5 w
 l40 : ∀ e ∈ x.came, e.2.length ≤ 600 ∧ ∀ v ∈ e.2, inI v.slot ∧ v.slot < 512
theorem nodup_le : ∀ (n : Nat) (l : List Int), l.Nodup → (∀ w ∈ l, 1 ≤ w ∧ w ≤ n) → l.length ≤ n
 | 0, l, _, h => by
  cases l with
  | nil => simp
  | cons a _ => have := h a (by simp); omega
 | n + 1, l, hn, h => by
  have h1 := nodup_le n (l.erase ((n + 1 : Nat) : Int)) (hn.erase _) fun w hw => by
   obtain ⟨q1, q2⟩ := hn.mem_erase_iff.1 hw
   have := h w q2; omega
  rw [List.length_erase] at h1
  split at h1 <;> omega
theorem nodup5 {l : List Int} (h : l.Nodup) (h5 : ∀ w ∈ l, m5 w) : l.length ≤ 5 := nodup_le 5 l h fun w hw => by have := h5 w hw; unfold m5 at this; omega
theorem CameOk.len {x : LeadS} (h : CameOk x) : x.came.length ≤ 5 := by have := nodup5 h.nd h.k5; simpa using this
theorem m5_in {w : Int} (h : m5 w) : IntKind.i64.min ≤ w ∧ w ≤ IntKind.i64.max := by
 unfold m5 at h
 have h1 : IntKind.i64.min = -9223372036854775808 := rfl
 have h2 : IntKind.i64.max = 9223372036854775807 := rfl
 omega
theorem CameOk.ks {x : LeadS} (h : CameOk x) : ksOk (keysA x.came) := ⟨by have := h.len; simp; omega, fun w hw => m5_in (h.k5 w hw), h.nd⟩
theorem CameOk.all {x : LeadS} (h : CameOk x) : (allL x).length ≤ 8 ∧ ∀ l ∈ allL x, l.length ≤ 600 ∧ ∀ v ∈ l, inI v.slot ∧ v.slot < 512 := by
 refine ⟨by have := h.len; simp [allL, sortZ_len]; omega, fun l hl => ?_⟩
 obtain ⟨w, hw, rfl⟩ := List.mem_map.1 hl
 cases hc : lookA x.came w with
 | none => simp
 | some vs => exact h.l40 _ ((lookA_some h.nd).1 hc)
theorem fill_ok (x : LeadS) (h : CameOk x) (hn : 0 ≤ x.nxt ∧ x.nxt ≤ 512) : VC E0 32 3 [.ptr 0 0] (stL x) (RR (.tup []) 3 (stL (fillL x (bestV (allL x))))) := by
 obtain ⟨a1, a2⟩ := h.all
 have hB : ∀ v ∈ bestV (allL x), v.slot < 512 := fun v hv => by
  obtain ⟨l, hl, hv⟩ := bestV_mem (fun l hl v hv => ((a2 l hl).2 v hv).1) hv
  exact ((a2 l hl).2 v hv).2
 have hBl : (bestV (allL x)).length ≤ 4800 := by
  obtain ⟨_, hlen⟩ := bestE_kb (l := (allL x).flatten) (fun v hv => by obtain ⟨l, hl, hv⟩ := List.mem_flatten.1 hv; exact ((a2 l hl).2 v hv).1)
  have := flat_len8 a1 (fun l hl => (a2 l hl).1) (i := (allL x).length)
  rw [List.take_length] at this
  unfold bestV; rw [allV_len]; omega
 refine VC.enterR L0 (show E0.func 32 = some Try.f32 by kernel_rfl) (fun _ _ => rfl) rfl rfl [] ?_
 ((conv=>whnf)<;>repeat(with_reducible refine D1 ?_)<;>conv=>whnf)
 refine ⟨[], [some 0, some 1, some 2], _, _, _, _, all_ok x h.ks (by have := h.len; omega), t3, ?_⟩
 rintro r o' c' ⟨rfl, rfl, rfl⟩
 ((conv=>whnf)<;>repeat(with_reducible refine D1 ?_)<;>conv=>whnf)
 refine ⟨[], [], _, _, _, _, best_ok (allL x) a1 (fun l hl => (a2 l hl).1) (fun l hl v hv => ((a2 l hl).2 v hv).1), t3, ?_⟩
 rintro r o' c' ⟨rfl, rfl, rfl⟩
 ((conv=>whnf)<;>repeat(with_reducible refine D1 ?_)<;>conv=>whnf)
 generalize hBe : bestV (allL x) = B at *
 refine ⟨fun k f o c => ∃ (i : Nat) (y : LeadS), i ≤ B.length ∧ k = B.length - i ∧ y = fillL x (B.take i) ∧ 0 ≤ y.nxt ∧ y.nxt ≤ 512 + i ∧ c = 3 ∧ f = [(0, .ptr 0 0), (6, .sl 6 (B.map encV) false), (7, .s (.int .i64 B.length)), (8, .s (.int .i64 i))] ∧ o = stL y, ⟨B.length, ?_⟩, ?_⟩
 ·refine ⟨[], [some 0, some 1, some 2], ?_⟩
  iterate 3 constructor
  refine ⟨⟨?_, ?_, ?_⟩, ⟨0, x, Nat.zero_le _, rfl, rfl, hn.1, by have := hn.2; simpa using this, rfl, rfl, rfl⟩⟩
  all_goals (repeat' first|with_reducible exact Lz.rfl|exact Lw.rfl|exact Lz.wrap (by omega)|(unfold goInt;with_reducible exact Lz.rfl)|exact flx _|constructor)
  all_goals exact Lz.of (by simp [goInt])
 ·rintro k f1 o1 c1 ⟨i, y, hi, rfl, hy, hy0, hy1, rfl, rfl, rfl⟩
  ((conv=>whnf)<;>repeat(with_reducible refine D1 ?_)<;>conv=>whnf)
  (first|refine ⟨?_,?_⟩|refine nsplit ?_ ?_|refine bsplit ?_ ?_)<;>intro hl<;>have hz_:=True.intro<;>clear hz_
  ·have hl : i < B.length := by simpa using hl
   have hsl := hB _ (List.getElem_mem hl)
   have hsn : fillL x (B.take (i + 1)) = layS (layUp y B[i].slot) (cmdOf B[i]) := by rw [List.take_succ_eq_append_getElem hl, fillL_snoc, hy]
   ((conv=>whnf)<;>repeat(with_reducible refine D1 ?_)<;>conv=>whnf)
   refine idxI hl ?_
   ((conv=>whnf)<;>repeat(with_reducible refine D1 ?_)<;>conv=>whnf)
   generalize hve : B[i] = v at *
   refine ⟨fun k f o c => ∃ m : Nat, m ≤ (v.slot - y.nxt).toNat ∧ k = (v.slot - y.nxt).toNat - m ∧ c = 4 ∧ f = [(0, .ptr 0 0), (3, .ptr 3 0), (6, .sl 6 (B.map encV) false), (7, .s (.int .i64 B.length)), (8, .s (.int .i64 i))] ∧ o = [(0, leadO (layN y m) 1 2), (1, cameO (layN y m)), (2, openO (layN y m)), (3, .cells (encV v))], ⟨(v.slot - y.nxt).toNat, ?_⟩, ?_⟩
   ·exact ⟨[], [some 0, some 1, some 2, some 3], _, _, _, t3, ⟨0, Nat.zero_le _, rfl, rfl, rfl, rfl⟩⟩
   ·rintro k f1 o1 c1 ⟨m, hm, rfl, rfl, rfl, rfl⟩
    have hnx := layN_nxt y m
    ((conv=>whnf)<;>repeat(with_reducible refine D1 ?_)<;>conv=>whnf)
    (first|refine ⟨?_,?_⟩|refine nsplit ?_ ?_|refine bsplit ?_ ?_)<;>intro hlt<;>have hz_:=True.intro<;>clear hz_
    ·have hlt : (layN y m).nxt < v.slot := hlt
     ((conv=>whnf)<;>repeat(with_reducible refine D1 ?_)<;>conv=>whnf)
     refine ⟨[], [some 0, some 1, some 2], _, _, _, _, lay_ok (layN y m) noCmd (by omega), t3, ?_⟩
     rintro r o' c' ⟨rfl, rfl, rfl⟩
     ((conv=>whnf)<;>repeat(with_reducible refine D1 ?_)<;>conv=>whnf)
     refine ⟨(v.slot - y.nxt).toNat - (m + 1), ?_, by omega⟩
     exact ⟨[], [some 0, some 1, some 2, some 3], _, _, _, t3, ⟨m + 1, by omega, rfl, rfl, rfl, rfl⟩⟩
    ·have hlt : ¬ (layN y m).nxt < v.slot := hlt
     have hme : m = (v.slot - y.nxt).toNat := by omega
     have hup : layUp y v.slot = layN y m := by rw [hme]; rfl
     ((conv=>whnf)<;>repeat(with_reducible refine D1 ?_)<;>conv=>whnf)
     refine ⟨[], [some 0, some 1, some 2], _, _, _, _, lay_ok (layN y m) (cmdOf v) (by omega), t3, ?_⟩
     rintro r o' c' ⟨rfl, rfl, rfl⟩
     ((conv=>whnf)<;>repeat(with_reducible refine D1 ?_)<;>conv=>whnf)
     refine ⟨B.length - (i + 1), ?_, by omega⟩
     rw [hup] at hsn
     exact ⟨[], [some 0, some 1, some 2], _, _, _, t3, ⟨i + 1, layS (layN y m) (cmdOf v), hl, rfl, hsn.symm, by simp [layS]; omega, by simp [layS]; omega, rfl, rfl, rfl⟩⟩
  ·have h' : i = B.length := by have : ¬ i < B.length := by simpa using hl
                                omega
   subst h'
   rw [List.take_length] at hy
   subst hy
   ((conv=>whnf)<;>repeat(with_reducible refine D1 ?_)<;>conv=>whnf)
   exact ⟨[], [some 0, some 1, some 2], _, _, _, t3, rfl, rfl, rfl⟩
theorem collectC_ok (x : LeadS) (hok : ksOk (keysA x.came)) (h0 : x.came ≠ []) : VC E0 29 2 [.clo 43 [] [.ptr 1 0]] [(0, cameO x), (1, .cells [.mp 0])] (fun r o c => r = .bg 2 (keysA x.came).length ∧ c = 3 ∧
      o = [(2, .bag (keysA x.came)), (0, cameO x), (1, .cells [.mp 0])]) :=
 VC.collect (E := E0) (g := 29) (its := [56, 43]) (k := 43) (by kernel_rfl) (fun _ _ => rfl) rfl (y := cameO x) (ks := keysA x.came) (by show (x.came.map (encA .i64 encVs)).map (·.1) = _; exact keysM_A _ _ _) hok (by intro e; simp [keysA] at e; exact h0 e)
theorem withB_ok (ks : List Int) (h0 : 0 < ks.length) (hl : ks.length < 1000000) (h5 : ∀ w ∈ ks, m5 w) : VC E0 28 1 [.s (.int .u64 0), .bg 0 ks.length] [(0, .bag ks)] (fun r o c => r = .s (.int .u64 (withN 0 ks)) ∧ c = 1 ∧ o = [(0, .bag ks)]) :=
 VC.bagged (E := E0) (g := 28) (val := withVal) (pre := [.int .u64 0]) (by kernel_rfl) (fun _ _ => rfl) (by simp [scalar]) h0 (v := .int .u64 (withN 0 ks)) (withVal_some h5 hl) rfl
@[reducible] def promC (x : LeadS) (who : Int) (vs : List Vote) : LeadS := { x with came := if who ∈ keysA x.came then x.came else x.came ++ [(who, delV x.frm vs)] }
def promS (x : LeadS) (b who : Int) (vs : List Vote) : LeadS × List Vote × Bool :=
 if (x.st = 1 ∧ x.b = b) ∧ 1 ≤ who ∧ who ≤ x.masters then
  (if enoughN (withN 0 (keysA (promC x who vs).came)) x.masters = true then
   (let y := fillL { promC x who vs with st := 2 } (bestV (allL { promC x who vs with st := 2 })); (y, openV y, true))
  else (promC x who vs, [], false))
 else (x, [], false)
theorem promC_ok {x : LeadS} (h : CameOk x) {who : Int} (hw : m5 who) {vs : List Vote} (hl : vs.length ≤ 600) (hv : ∀ v ∈ vs, inI v.slot) : CameOk (promC x who vs) ∧ (promC x who vs).came ≠ [] := by
 unfold promC
 by_cases hm : who ∈ keysA x.came
 ·simp only [hm, if_true]
  exact ⟨⟨h.nd, h.k5, h.l40⟩, by rintro e; simp [e, keysA] at hm⟩
 ·simp only [hm, if_false]
  refine ⟨⟨?_, fun w hw' => ?_, fun e he => ?_⟩, by simp⟩
  ·simp only [keysA, List.map_append, List.nodup_append]
   exact ⟨h.nd, by simp, fun a ha b hb => by simp at hb; subst hb; rintro rfl; exact hm ha⟩
  ·simp only [keysA, List.map_append, List.mem_append] at hw'
   rcases hw' with h1 | h1
   ·exact h.k5 w h1
   ·simp at h1; subst h1; exact hw
  ·rcases List.mem_append.1 he with h1 | h1
   ·exact h.l40 e h1
   ·simp at h1; subst h1
    refine ⟨Nat.le_trans (List.length_filter_le _ _) hl, fun v hv' => ?_⟩
    obtain ⟨q1, q2⟩ := List.mem_filter.1 hv'
    exact ⟨hv v q1, by simp [badV] at q2; omega⟩
end Go.M
namespace Go.M
open Go Go.Proofs
set_option maxRecDepth 100000
set_option maxHeartbeats 4000000
structure OpnOk (x : LeadS) : Prop where
 nd : (keysA x.opn).Nodup
 rng : ∀ n ∈ keysA x.opn, 0 ≤ n ∧ n < x.nxt
theorem OpnOk.lay {x : LeadS} (h : OpnOk x) (hn : 0 ≤ x.nxt) (c : Cmd) : OpnOk (layS x c) := by
 refine ⟨putA_nodup h.nd, fun n hm => ?_⟩
 have hm : n ∈ keysA (putA x.opn x.nxt (c, 0)) := hm
 rw [putA_keys] at hm
 show 0 ≤ n ∧ n < x.nxt + 1
 split at hm
 ·have := h.rng n hm; omega
 ·rcases List.mem_append.1 hm with h1 | h1
  ·have := h.rng n h1; omega
  ·simp at h1; omega
theorem OpnOk.layN {x : LeadS} (h : OpnOk x) (hn : 0 ≤ x.nxt) : ∀ m, OpnOk (layN x m)
 | 0 => h
 | m + 1 => (OpnOk.layN h hn m).lay (by rw [layN_nxt]; omega) noCmd
theorem OpnOk.fill {x : LeadS} (h : OpnOk x) (hn : 0 ≤ x.nxt) : ∀ l : List Vote, OpnOk (fillL x l) ∧ 0 ≤ (fillL x l).nxt ∧ ((∀ v ∈ l, v.slot < 512) → x.nxt ≤ 512 → (fillL x l).nxt ≤ 512 + l.length) := by
 intro l
 induction l generalizing x with
 | nil => exact ⟨h, hn, fun _ hx => by simpa [fillL] using hx⟩
 | cons v l ih =>
  have e : fillL x (v :: l) = fillL (layS (layUp x v.slot) (cmdOf v)) l := by simp [fillL]
  have h1 : (layUp x v.slot).nxt = x.nxt + (v.slot - x.nxt).toNat := layN_nxt x _
  have h2 : OpnOk (layUp x v.slot) := h.layN hn _
  have h3 : (layS (layUp x v.slot) (cmdOf v)).nxt = (layUp x v.slot).nxt + 1 := rfl
  rw [e]
  have gen : ∀ (l : List Vote) (y : LeadS) (k : Nat), (∀ v ∈ l, v.slot < 512) → 0 ≤ y.nxt → y.nxt ≤ 512 + k → (fillL y l).nxt ≤ 512 + k + l.length := by
   intro l
   induction l with
   | nil => intro y k _ _ hy; simpa [fillL] using hy
   | cons v l ih =>
    intro y k hv hy0 hy
    have e : fillL y (v :: l) = fillL (layS (layUp y v.slot) (cmdOf v)) l := by simp [fillL]
    have h1 : (layUp y v.slot).nxt = y.nxt + (v.slot - y.nxt).toNat := layN_nxt y _
    have h3 : (layS (layUp y v.slot) (cmdOf v)).nxt = (layUp y v.slot).nxt + 1 := rfl
    have := hv v List.mem_cons_self
    have := ih (layS (layUp y v.slot) (cmdOf v)) (k + 1) (fun w hw => hv w (List.mem_cons_of_mem _ hw)) (by omega) (by omega)
    rw [e, List.length_cons]
    omega
  obtain ⟨q1, q2, _⟩ := ih (h2.lay (by omega) (cmdOf v)) (by omega)
  refine ⟨q1, q2, fun hv hx => ?_⟩
  have := hv v List.mem_cons_self
  have := gen l (layS (layUp x v.slot) (cmdOf v)) 1 (fun w hw => hv w (List.mem_cons_of_mem _ hw)) (by omega) (by omega)
  rw [List.length_cons]; omega
theorem OpnOk.len {x : LeadS} (h : OpnOk x) (hn : x.nxt ≤ 100000) : x.opn.length ≤ 100000 := by
 have h2 : ((keysA x.opn).map (· + 1)).Nodup := by
  refine List.Pairwise.map _ ?_ h.nd
  intro a b hab e; exact hab (by omega)
 have := nodup_le 100000 ((keysA x.opn).map (· + 1)) h2 fun w hw => by
  obtain ⟨n, hn', rfl⟩ := List.mem_map.1 hw
  have := h.rng n hn'; omega
 simpa using this
theorem OpnOk.ks {x : LeadS} (h : OpnOk x) (hn : x.nxt ≤ 100000) : ksOk (keysA x.opn) := by
 refine ⟨by have := h.len hn; simp; omega, fun n hm => ?_, h.nd⟩
 have := h.rng n hm
 have h1 : IntKind.i64.min = -9223372036854775808 := rfl
 have h2 : IntKind.i64.max = 9223372036854775807 := rfl
 omega
theorem bestV_len {l : List (List Vote)} (h8 : l.length ≤ 8) (h40 : ∀ x ∈ l, x.length ≤ 600) (hr : ∀ x ∈ l, ∀ v ∈ x, inI v.slot) : (bestV l).length ≤ 4800 := by
 obtain ⟨_, hlen⟩ := bestE_kb (l := l.flatten) (fun v hv => by obtain ⟨x, hx, hv⟩ := List.mem_flatten.1 hv; exact hr x hx v hv)
 have := flat_len8 h8 h40 (i := l.length)
 rw [List.take_length] at this
 unfold bestV; rw [allV_len]; omega
theorem fill_opn {x : LeadS} (h : CameOk x) (ho : OpnOk x) (hn : 0 ≤ x.nxt ∧ x.nxt ≤ 512) : OpnOk (fillL x (bestV (allL x))) ∧ 0 ≤ (fillL x (bestV (allL x))).nxt ∧ (fillL x (bestV (allL x))).nxt ≤ 5312 := by
 obtain ⟨a1, a2⟩ := h.all
 obtain ⟨q1, q2, q3⟩ := ho.fill hn.1 (bestV (allL x))
 have := bestV_len a1 (fun l hl => (a2 l hl).1) (fun l hl v hv => ((a2 l hl).2 v hv).1)
 have := q3 (fun v hv => by
  obtain ⟨l, hl, hv⟩ := bestV_mem (fun l hl v hv => ((a2 l hl).2 v hv).1) hv
  exact ((a2 l hl).2 v hv).2) hn.2
 exact ⟨q1, q2, by omega⟩
theorem keysA_ne {α : Type} {es : List (Int × α)} (h : es ≠ []) : 0 < (keysA es).length := by
 simp only [keysA, List.length_map]; exact List.length_pos_iff.2 h
theorem promise_ok (x : LeadS) (b who : Int) (vs : List Vote) (hc : CameOk x) (ho : OpnOk x) (hm : m5 x.masters) (hl : vs.length ≤ 600) (hv : ∀ v ∈ vs, inI v.slot) (hn : 0 ≤ x.nxt ∧ x.nxt ≤ 512) :
 VC E0 12 3 [.ptr 0 0, .s (.int .u64 b), .s (.int .i64 who), encVs vs] (stL x) (RR (.tup [encVs (promS x b who vs).2.1, .s (.bool (promS x b who vs).2.2)]) 3 (stL (promS x b who vs).1)) := by
 refine VC.enterR L0 (show E0.func 12 = some Try.f12 by kernel_rfl) (fun _ _ => rfl) rfl rfl [] ?_
 ((conv=>whnf)<;>repeat(with_reducible refine D1 ?_)<;>conv=>whnf)
 refine ⟨[], [some 0, some 1, some 2], _, _, _, _, isL_ok x 1 b, t3, ?_⟩
 rintro r o' c' ⟨rfl, rfl, rfl⟩
 have hz_ := True.intro
 clear hz_
 cases h1 : decide (x.st = 1 ∧ x.b = b)
 ·have e : promS x b who vs = (x, [], false) := by unfold promS; rw [if_neg fun h => of_decide_eq_false h1 h.1]
  rw [e]
  ((conv=>whnf)<;>repeat(with_reducible refine D1 ?_)<;>conv=>whnf)
  exact ⟨[], [some 0, some 1, some 2], _, _, _, t3, rfl, rfl, rfl⟩
 ·((conv=>whnf)<;>repeat(with_reducible refine D1 ?_)<;>conv=>whnf)
  refine ⟨[], [some 0, some 1, some 2], _, _, _, _, isM_ok x who, t3, ?_⟩
  rintro r o' c' ⟨rfl, rfl, rfl⟩
  have hz_ := True.intro
  clear hz_
  cases h2 : decide (1 ≤ who ∧ who ≤ x.masters)
  ·have e : promS x b who vs = (x, [], false) := by unfold promS; rw [if_neg fun h => of_decide_eq_false h2 h.2]
   rw [e]
   ((conv=>whnf)<;>repeat(with_reducible refine D1 ?_)<;>conv=>whnf)
   exact ⟨[], [some 0, some 1, some 2], _, _, _, t3, rfl, rfl, rfl⟩
  ·have hw : m5 who := by have := of_decide_eq_true h2; unfold m5 at *; omega
   have hpc := promC_ok hc hw hl hv
   ((conv=>whnf)<;>repeat(with_reducible refine D1 ?_)<;>conv=>whnf)
   have hlk := lookM_A .i64 .i64 encVs who x.came
   cases hx : lookA x.came who with
   | none =>
    have hnm := lookA_none.1 hx
    rw [hx] at hlk
    refine ⟨_, hlk, ?_⟩
    ((conv=>whnf)<;>repeat(with_reducible refine D1 ?_)<;>conv=>whnf)
    refine ⟨[], [], _, _, _, _, cloneV_ok vs (by omega), t3, ?_⟩
    rintro r o' c' ⟨rfl, rfl, rfl⟩
    ((conv=>whnf)<;>repeat(with_reducible refine D1 ?_)<;>conv=>whnf)
    refine ⟨[], [some 10, some 3, some 0, some 1, some 2], _, _, _, _, delf_ok x vs (by omega), t3, ?_⟩
    rintro r o' c' ⟨rfl, rfl, rfl⟩
    ((conv=>whnf)<;>repeat(with_reducible refine D1 ?_)<;>conv=>whnf)
    refine ⟨[], [some 1], _, _, _, _, keysC_ok _, t3, ?_⟩
    rintro r o' c' ⟨rfl, rfl, rfl⟩
    ((conv=>whnf)<;>repeat(with_reducible refine D1 ?_)<;>conv=>whnf)
    have hput : putM (x.came.map (encA .i64 encVs)) (.int .i64 who) (encVs (delV x.frm vs)) = (promC x who vs).came.map (encA .i64 encVs) := by
     rw [putM_A, putA_new hnm]; simp [promC, hnm]
    refine ⟨[], [some 1, some 17], _, _, _, _, collectC_ok (promC x who vs) hpc.1.ks hpc.2, ⟨by ((repeat' first|with_reducible exact Lz.rfl|exact Lw.rfl|exact Lz.wrap (by omega)|(unfold goInt;with_reducible exact Lz.rfl)|exact flx _|constructor); all_goals (first | exact Lz.of hput | exact hput)), by ((repeat' first|with_reducible exact Lz.rfl|exact Lw.rfl|exact Lz.wrap (by omega)|(unfold goInt;with_reducible exact Lz.rfl)|exact flx _|constructor); all_goals (first | exact Lz.of hput | exact hput)), by rfl⟩, ?_⟩
    rintro r o' c' ⟨rfl, rfl, rfl⟩
    ((conv=>whnf)<;>repeat(with_reducible refine D1 ?_)<;>conv=>whnf)
    refine ⟨[], [some 20], _, _, _, _, withB_ok (keysA (promC x who vs).came) (keysA_ne hpc.2) (by have := nodup5 hpc.1.nd hpc.1.k5; omega) hpc.1.k5, t3, ?_⟩
    rintro r o' c' ⟨rfl, rfl, rfl⟩
    ((conv=>whnf)<;>repeat(with_reducible refine D1 ?_)<;>conv=>whnf)
    refine ⟨[], [], _, _, _, _, enough_ok (withN 0 (keysA (promC x who vs).came)) x.masters (withN_ev (by decide) hpc.1.k5).1 hm, t3, ?_⟩
    rintro r o' c' ⟨rfl, rfl, rfl⟩
    have hz_ := True.intro
    clear hz_
    cases he : enoughN (withN 0 (keysA (promC x who vs).came)) x.masters
    ·have e : promS x b who vs = (promC x who vs, [], false) := by unfold promS; rw [if_pos ⟨of_decide_eq_true h1, of_decide_eq_true h2⟩, if_neg (by simp [he])]
     rw [e]
     ((conv=>whnf)<;>repeat(with_reducible refine D1 ?_)<;>conv=>whnf)
     exact ⟨[], [some 0, some 1, some 2], _, _, _, t3, rfl, rfl, rfl⟩
    ·have e : promS x b who vs = (fillL { promC x who vs with st := 2 } (bestV (allL { promC x who vs with st := 2 })), openV (fillL { promC x who vs with st := 2 } (bestV (allL { promC x who vs with st := 2 }))), true) := by unfold promS; rw [if_pos ⟨of_decide_eq_true h1, of_decide_eq_true h2⟩, if_pos he]
     have hc2 : CameOk { promC x who vs with st := 2 } := ⟨hpc.1.nd, hpc.1.k5, hpc.1.l40⟩
     obtain ⟨f1, f2, f3⟩ := fill_opn hc2 (⟨ho.nd, ho.rng⟩ : OpnOk { promC x who vs with st := 2 }) hn
     rw [e]
     ((conv=>whnf)<;>repeat(with_reducible refine D1 ?_)<;>conv=>whnf)
     refine ⟨[], [some 0, some 1, some 2], _, _, _, _, fill_ok { promC x who vs with st := 2 } hc2 hn, t3, ?_⟩
     rintro r o' c' ⟨rfl, rfl, rfl⟩
     ((conv=>whnf)<;>repeat(with_reducible refine D1 ?_)<;>conv=>whnf)
     generalize fillL { promC x who vs with st := 2 } (bestV (allL { promC x who vs with st := 2 })) = z at *
     refine ⟨[], [some 0, some 1, some 2], _, _, _, _, openL_ok z (f1.ks (by omega)) (by have := f1.len (by omega); omega), t3, ?_⟩
     rintro r o' c' ⟨rfl, rfl, rfl⟩
     ((conv=>whnf)<;>repeat(with_reducible refine D1 ?_)<;>conv=>whnf)
     exact ⟨[], [some 0, some 1, some 2], _, _, _, t3, rfl, rfl, rfl⟩
   | some ws =>
    have hmm : who ∈ keysA x.came := Classical.not_not.1 fun hn => by rw [lookA_none.2 hn] at hx; cases hx
    have hcm : x.came = (promC x who vs).came := by simp [promC, hmm]
    rw [hx] at hlk
    refine ⟨_, hlk, ?_⟩
    ((conv=>whnf)<;>repeat(with_reducible refine D1 ?_)<;>conv=>whnf)
    refine ⟨[], [some 1], _, _, _, _, keysC_ok _, t3, ?_⟩
    rintro r o' c' ⟨rfl, rfl, rfl⟩
    ((conv=>whnf)<;>repeat(with_reducible refine D1 ?_)<;>conv=>whnf)
    refine ⟨[], [some 1, some 11], _, _, _, _, collectC_ok (promC x who vs) hpc.1.ks hpc.2, ⟨by ((repeat' first|with_reducible exact Lz.rfl|exact Lw.rfl|exact Lz.wrap (by omega)|(unfold goInt;with_reducible exact Lz.rfl)|exact flx _|constructor); all_goals (first | exact Lz.of (by rw [← hcm]) | rw [← hcm])), by ((repeat' first|with_reducible exact Lz.rfl|exact Lw.rfl|exact Lz.wrap (by omega)|(unfold goInt;with_reducible exact Lz.rfl)|exact flx _|constructor); all_goals (first | exact Lz.of (by rw [← hcm]) | rw [← hcm])), by rfl⟩, ?_⟩
    rintro r o' c' ⟨rfl, rfl, rfl⟩
    ((conv=>whnf)<;>repeat(with_reducible refine D1 ?_)<;>conv=>whnf)
    refine ⟨[], [some 14], _, _, _, _, withB_ok (keysA (promC x who vs).came) (keysA_ne hpc.2) (by have := nodup5 hpc.1.nd hpc.1.k5; omega) hpc.1.k5, t3, ?_⟩
    rintro r o' c' ⟨rfl, rfl, rfl⟩
    ((conv=>whnf)<;>repeat(with_reducible refine D1 ?_)<;>conv=>whnf)
    refine ⟨[], [], _, _, _, _, enough_ok (withN 0 (keysA (promC x who vs).came)) x.masters (withN_ev (by decide) hpc.1.k5).1 hm, t3, ?_⟩
    rintro r o' c' ⟨rfl, rfl, rfl⟩
    have hz_ := True.intro
    clear hz_
    cases he : enoughN (withN 0 (keysA (promC x who vs).came)) x.masters
    ·have e : promS x b who vs = (promC x who vs, [], false) := by unfold promS; rw [if_pos ⟨of_decide_eq_true h1, of_decide_eq_true h2⟩, if_neg (by simp [he])]
     rw [e]
     ((conv=>whnf)<;>repeat(with_reducible refine D1 ?_)<;>conv=>whnf)
     exact ⟨[], [some 0, some 1, some 2], _, _, _, t3, rfl, rfl, rfl⟩
    ·have e : promS x b who vs = (fillL { promC x who vs with st := 2 } (bestV (allL { promC x who vs with st := 2 })), openV (fillL { promC x who vs with st := 2 } (bestV (allL { promC x who vs with st := 2 }))), true) := by unfold promS; rw [if_pos ⟨of_decide_eq_true h1, of_decide_eq_true h2⟩, if_pos he]
     have hc2 : CameOk { promC x who vs with st := 2 } := ⟨hpc.1.nd, hpc.1.k5, hpc.1.l40⟩
     obtain ⟨f1, f2, f3⟩ := fill_opn hc2 (⟨ho.nd, ho.rng⟩ : OpnOk { promC x who vs with st := 2 }) hn
     rw [e]
     ((conv=>whnf)<;>repeat(with_reducible refine D1 ?_)<;>conv=>whnf)
     refine ⟨[], [some 0, some 1, some 2], _, _, _, _, fill_ok { promC x who vs with st := 2 } hc2 hn, t3, ?_⟩
     rintro r o' c' ⟨rfl, rfl, rfl⟩
     ((conv=>whnf)<;>repeat(with_reducible refine D1 ?_)<;>conv=>whnf)
     generalize fillL { promC x who vs with st := 2 } (bestV (allL { promC x who vs with st := 2 })) = z at *
     refine ⟨[], [some 0, some 1, some 2], _, _, _, _, openL_ok z (f1.ks (by omega)) (by have := f1.len (by omega); omega), t3, ?_⟩
     rintro r o' c' ⟨rfl, rfl, rfl⟩
     ((conv=>whnf)<;>repeat(with_reducible refine D1 ?_)<;>conv=>whnf)
     exact ⟨[], [some 0, some 1, some 2], _, _, _, t3, rfl, rfl, rfl⟩
end Go.M
namespace Go.M
open Go Go.Proofs
set_option maxRecDepth 100000
set_option maxHeartbeats 4000000
theorem ofP_ok (r w : Int) (hr : 1 ≤ r ∧ r < 1152921504606846976) (hw : m5 w) : VC E0 37 0 [.s (.int .u64 r), .s (.int .i64 w)] [] (RR (.tup [.s (.int .u64 (8 * r + w)), .s (.int .i64 0)]) 0 []) := by
 unfold m5 at hw
 refine VC.enterR L0 (show E0.func 37 = some Try.f37 by kernel_rfl) (fun _ _ => rfl) rfl rfl [] ?_
 ((conv=>whnf)<;>repeat(with_reducible refine D1 ?_)<;>conv=>whnf)
 (first|refine ⟨?_,?_⟩|refine nsplit ?_ ?_|refine bsplit ?_ ?_)<;>intro h1<;>have hz_:=True.intro<;>clear hz_
 ·have h1 : r < 1 := h1
  omega
 ·((conv=>whnf)<;>repeat(with_reducible refine D1 ?_)<;>conv=>whnf)
  (first|refine ⟨?_,?_⟩|refine nsplit ?_ ?_|refine bsplit ?_ ?_)<;>intro h2<;>have hz_:=True.intro<;>clear hz_
  ·have h2 : r ≥ 1152921504606846976 := h2
   omega
  ·((conv=>whnf)<;>repeat(with_reducible refine D1 ?_)<;>conv=>whnf)
   refine ⟨[], [], _, _, _, _, master_ok w, t3, ?_⟩
   rintro r o' c' ⟨rfl, rfl, rfl⟩
   have hz_ := True.intro
   clear hz_
   cases h0 : isMaster w
   ·exact absurd (decide_eq_true (show w ≥ 1 ∧ w ≤ 5 by omega)) (by unfold isMaster at h0; simp [h0])
   ·((conv=>whnf)<;>repeat(with_reducible refine D1 ?_)<;>conv=>whnf)
    refine ⟨[], [], ?_⟩
    iterate 3 constructor
    refine ⟨⟨?_, ?_, ?_⟩, rfl, rfl, rfl⟩
    all_goals (repeat' first|with_reducible exact Lz.rfl|exact Lw.rfl|exact Lz.wrap (by omega)|(unfold goInt;with_reducible exact Lz.rfl)|exact flx _|constructor)
    refine Lz.int ?_
    rw [IntWalk.u64_in (8 * r) (by omega), IntWalk.u64_in w (by omega), IntWalk.u64_in _ (by omega)]
def nextS (b who : Int) : Int × Int :=
 let r0 := if 1 > b / 8 then 1 else b / 8
 let r1 := if 8 * r0 + who ≤ b then r0 + 1 else r0
 if r1 ≥ 1152921504606846976 then (0, 9) else (8 * r1 + who, 0)
theorem next_ok (b who : Int) (hb : 0 ≤ b ∧ b ≤ 18446744073709551615) (hw : m5 who) : VC E0 18 0 [.s (.int .u64 b), .s (.int .i64 who)] [] (RR (.tup [.s (.int .u64 (nextS b who).1), .s (.int .i64 (nextS b who).2)]) 0 []) := by
 have e0 : IntKind.u64.wrap (b.tdiv 8) = b / 8 := by rw [Int.tdiv_eq_ediv_of_nonneg hb.1]; exact IntWalk.u64_in _ (by omega)
 have hw' := hw
 unfold m5 at hw
 refine VC.enterR L0 (show E0.func 18 = some Try.f18 by kernel_rfl) (fun _ _ => rfl) rfl rfl [] ?_
 ((conv=>whnf)<;>repeat(with_reducible refine D1 ?_)<;>conv=>whnf)
 refine ⟨[], [], _, _, _, _, master_ok who, t3, ?_⟩
 rintro r o' c' ⟨rfl, rfl, rfl⟩
 have hz_ := True.intro
 clear hz_
 cases h0 : isMaster who
 ·exact absurd (decide_eq_true (show who ≥ 1 ∧ who ≤ 5 by omega)) (by unfold isMaster at h0; simp [h0])
 ·obtain ⟨r0, hr0⟩ : ∃ r0, r0 = (if (1 : Int) > IntKind.u64.wrap (b.tdiv 8) then 1 else IntKind.u64.wrap (b.tdiv 8)) := ⟨_, rfl⟩
  have hr1 : r0 = if (1 : Int) > b / 8 then 1 else b / 8 := by rw [hr0, e0]
  have hrr : 1 ≤ r0 ∧ r0 ≤ 2305843009213693951 ∧ 8 * r0 ≤ 18446744073709551608 := by rw [hr1]; split <;> omega
  ((conv=>whnf)<;>repeat(with_reducible refine D1 ?_)<;>conv=>whnf)
  (first|refine ⟨?_,?_⟩|refine nsplit ?_ ?_|refine bsplit ?_ ?_)<;>intro h1<;>have hz_:=True.intro<;>clear hz_
  ·have h1 : IntKind.u64.wrap (IntKind.u64.wrap (8 * (if (1 : Int) > IntKind.u64.wrap (b.tdiv 8) then 1 else IntKind.u64.wrap (b.tdiv 8))) + IntKind.u64.wrap who) ≤ b := h1
   rw [← hr0, IntWalk.u64_in (8 * r0) (by omega), IntWalk.u64_in who (by omega), IntWalk.u64_in _ (by omega)] at h1
   ((conv=>whnf)<;>repeat(with_reducible refine D1 ?_)<;>conv=>whnf)
   (first|refine ⟨?_,?_⟩|refine nsplit ?_ ?_|refine bsplit ?_ ?_)<;>intro h2<;>have hz_:=True.intro<;>clear hz_
   ·have h2 : IntKind.u64.wrap ((if (1 : Int) > IntKind.u64.wrap (b.tdiv 8) then 1 else IntKind.u64.wrap (b.tdiv 8)) + 1) ≥ 1152921504606846976 := h2
    rw [← hr0, IntWalk.u64_in _ (by omega)] at h2
    ((conv=>whnf)<;>repeat(with_reducible refine D1 ?_)<;>conv=>whnf)
    have e : nextS b who = (0, 9) := by unfold nextS; rw [← hr1]; simp only [h1, if_true, h2]
    rw [e]
    exact ⟨[], [], _, _, _, t3, rfl, rfl, rfl⟩
   ·have h2 : ¬ IntKind.u64.wrap ((if (1 : Int) > IntKind.u64.wrap (b.tdiv 8) then 1 else IntKind.u64.wrap (b.tdiv 8)) + 1) ≥ 1152921504606846976 := h2
    rw [← hr0, IntWalk.u64_in _ (by omega)] at h2
    ((conv=>whnf)<;>repeat(with_reducible refine D1 ?_)<;>conv=>whnf)
    have e3 : IntKind.u64.wrap ((if (1 : Int) > IntKind.u64.wrap (b.tdiv 8) then 1 else IntKind.u64.wrap (b.tdiv 8)) + 1) = r0 + 1 := by rw [← hr0]; exact IntWalk.u64_in _ (by omega)
    refine ⟨[], [], _, _, _, _, ofP_ok (r0 + 1) who (by omega) hw', ⟨by ((repeat' first|with_reducible exact Lz.rfl|exact Lw.rfl|exact Lz.wrap (by omega)|(unfold goInt;with_reducible exact Lz.rfl)|exact flx _|constructor); all_goals (exact Lz.int e3)), by ((repeat' first|with_reducible exact Lz.rfl|exact Lw.rfl|exact Lz.wrap (by omega)|(unfold goInt;with_reducible exact Lz.rfl)|exact flx _|constructor); all_goals (exact Lz.int e3)), by rfl⟩, ?_⟩
    rintro r o' c' ⟨rfl, rfl, rfl⟩
    ((conv=>whnf)<;>repeat(with_reducible refine D1 ?_)<;>conv=>whnf)
    have e : nextS b who = (8 * (r0 + 1) + who, 0) := by unfold nextS; rw [← hr1]; simp only [h1, if_true, h2, if_false]
    rw [e]
    exact ⟨[], [], _, _, _, t3, rfl, rfl, rfl⟩
  ·have h1 : ¬ IntKind.u64.wrap (IntKind.u64.wrap (8 * (if (1 : Int) > IntKind.u64.wrap (b.tdiv 8) then 1 else IntKind.u64.wrap (b.tdiv 8))) + IntKind.u64.wrap who) ≤ b := h1
   rw [← hr0, IntWalk.u64_in (8 * r0) (by omega), IntWalk.u64_in who (by omega), IntWalk.u64_in _ (by omega)] at h1
   ((conv=>whnf)<;>repeat(with_reducible refine D1 ?_)<;>conv=>whnf)
   (first|refine ⟨?_,?_⟩|refine nsplit ?_ ?_|refine bsplit ?_ ?_)<;>intro h2<;>have hz_:=True.intro<;>clear hz_
   ·have h2 : (if (1 : Int) > IntKind.u64.wrap (b.tdiv 8) then 1 else IntKind.u64.wrap (b.tdiv 8)) ≥ 1152921504606846976 := h2
    rw [← hr0] at h2
    ((conv=>whnf)<;>repeat(with_reducible refine D1 ?_)<;>conv=>whnf)
    have e : nextS b who = (0, 9) := by unfold nextS; rw [← hr1]; simp only [h1, if_false, h2, if_true]
    rw [e]
    exact ⟨[], [], _, _, _, t3, rfl, rfl, rfl⟩
   ·have h2 : ¬ (if (1 : Int) > IntKind.u64.wrap (b.tdiv 8) then 1 else IntKind.u64.wrap (b.tdiv 8)) ≥ 1152921504606846976 := h2
    rw [← hr0] at h2
    ((conv=>whnf)<;>repeat(with_reducible refine D1 ?_)<;>conv=>whnf)
    refine ⟨[], [], _, _, _, _, ofP_ok r0 who (by omega) hw', ⟨by ((repeat' first|with_reducible exact Lz.rfl|exact Lw.rfl|exact Lz.wrap (by omega)|(unfold goInt;with_reducible exact Lz.rfl)|exact flx _|constructor); all_goals (exact Lz.int hr0.symm)), by ((repeat' first|with_reducible exact Lz.rfl|exact Lw.rfl|exact Lz.wrap (by omega)|(unfold goInt;with_reducible exact Lz.rfl)|exact flx _|constructor); all_goals (exact Lz.int hr0.symm)), by rfl⟩, ?_⟩
    rintro r o' c' ⟨rfl, rfl, rfl⟩
    ((conv=>whnf)<;>repeat(with_reducible refine D1 ?_)<;>conv=>whnf)
    have e : nextS b who = (8 * r0 + who, 0) := by unfold nextS; rw [← hr1]; simp only [h1, if_false, h2]
    rw [e]
    exact ⟨[], [], _, _, _, t3, rfl, rfl, rfl⟩
@[reducible] def startS (me masters b frm : Int) : LeadS := ⟨me, masters, 1, b, frm, frm, [], []⟩
end Go.M
namespace Go.M
open Go Go.Proofs
set_option maxRecDepth 100000
set_option maxHeartbeats 4000000
def sameC (a b : Cmd) : Bool := decide (a.kind = b.kind ∧ a.chain = b.chain ∧ a.epoch = b.epoch ∧ a.node = b.node)
theorem sameC_iff {a b : Cmd} : sameC a b = true ↔ a = b := by
 obtain ⟨a1, a2, a3, a4⟩ := a
 obtain ⟨b1, b2, b3, b4⟩ := b
 simp [sameC]
theorem veq_cmd (a b : Cmd) : (veq1 (.int .i64 a.kind) (.int .i64 b.kind) && (veq1 (.int .i64 a.chain) (.int .i64 b.chain) && (veq1 (.int .u64 a.epoch) (.int .u64 b.epoch) && (veq1 (.int .i64 a.node) (.int .i64 b.node) && true)))) = sameC a b := by
 rw [Bool.eq_iff_iff]; simp [veq1, sameC]
@[reducible] def stP (c : Cmd) : Ob := [(0, .cells [.s (.int .i64 c.kind), .s (.int .i64 c.chain), .s (.int .u64 c.epoch), .s (.int .i64 c.node)])]
theorem prop1_ok (c : Cmd) (v : Vote) : VC E0 39 1 [.agg (encV v), .ptr 0 0] (stP c) (RR (.s (.bool (sameC (cmdOf v) c))) 1 (stP c)) := by
 refine VC.enterR L0 (show E0.func 39 = some Try.f39 by kernel_rfl) (fun _ _ => rfl) rfl rfl [] ?_
 ((conv=>whnf)<;>repeat(with_reducible refine D1 ?_)<;>conv=>whnf)
 (first|refine ⟨?_,?_⟩|refine nsplit ?_ ?_|refine bsplit ?_ ?_)<;>intro h<;>have hz_:=True.intro<;>clear hz_
 ·have h : sameC (cmdOf v) c = true := (veq_cmd (cmdOf v) c).symm.trans h
  rw [h]
  ((conv=>whnf)<;>repeat(with_reducible refine D1 ?_)<;>conv=>whnf)
  exact ⟨[], [some 0], _, _, _, t3, rfl, rfl, rfl⟩
 ·have h : sameC (cmdOf v) c = false := by
   have : ¬ sameC (cmdOf v) c = true := fun e => h ((veq_cmd (cmdOf v) c).trans e)
   simpa using this
  rw [h]
  ((conv=>whnf)<;>repeat(with_reducible refine D1 ?_)<;>conv=>whnf)
  exact ⟨[], [some 0], _, _, _, t3, rfl, rfl, rfl⟩
theorem idxP_ok (c : Cmd) (vs : List Vote) (hl : vs.length < 1000000) : VC E0 40 1 [encVs vs, .clo 39 [] [.ptr 0 0]] (stP c)
 (fun r o c' => ∃ i : Int, r = .s (.int .i64 i) ∧ c' = 1 ∧ o = stP c ∧ ((i = -1 ∧ ∀ v ∈ vs, sameC (cmdOf v) c = false) ∨ 0 ≤ i ∧ ∃ v ∈ vs, sameC (cmdOf v) c = true)) := by
 refine VC.enterR L0 (show E0.func 40 = some Try.f40 by kernel_rfl) (fun _ _ => rfl) rfl rfl [] ?_
 ((conv=>whnf)<;>repeat(with_reducible refine D1 ?_)<;>conv=>whnf)
 refine ⟨fun k f o c' => ∃ j : Nat, j ≤ vs.length ∧ k = vs.length - j ∧ (∀ v ∈ vs.take j, sameC (cmdOf v) c = false) ∧ c' = 1 ∧ f = [(0, encVs vs), (1, .clo 39 [] [.ptr 0 0]), (7, .s (.int .i64 vs.length)), (8, .s (.int .i64 j))] ∧ o = stP c, ⟨vs.length, ?_⟩, ?_⟩
 ·refine ⟨[], [some 0], ?_⟩
  iterate 3 constructor
  refine ⟨⟨?_, ?_, ?_⟩, ⟨0, Nat.zero_le _, rfl, by simp, rfl, rfl, rfl⟩⟩
  all_goals (repeat' first|with_reducible exact Lz.rfl|exact Lw.rfl|exact Lz.wrap (by omega)|(unfold goInt;with_reducible exact Lz.rfl)|exact flx _|constructor)
  all_goals first | exact Lz.of (by simp [goInt]) | exact Lz.rfl
 ·rintro k f1 o1 c1 ⟨j, hj, rfl, hb, rfl, rfl, rfl⟩
  ((conv=>whnf)<;>repeat(with_reducible refine D1 ?_)<;>conv=>whnf)
  (first|refine ⟨?_,?_⟩|refine nsplit ?_ ?_|refine bsplit ?_ ?_)<;>intro h<;>have hz_:=True.intro<;>clear hz_
  ·have h : j < vs.length := by simpa using h
   ((conv=>whnf)<;>repeat(with_reducible refine D1 ?_)<;>conv=>whnf)
   refine idxI h ?_
   ((conv=>whnf)<;>repeat(with_reducible refine D1 ?_)<;>conv=>whnf)
   refine ⟨[], [some 0], _, _, _, _, prop1_ok c vs[j], t3, ?_⟩
   rintro r o' c' ⟨rfl, rfl, rfl⟩
   have hz_ := True.intro
   clear hz_
   cases hv : sameC (cmdOf vs[j]) c
   ·((conv=>whnf)<;>repeat(with_reducible refine D1 ?_)<;>conv=>whnf)
    refine ⟨vs.length - (j + 1), ?_, by omega⟩
    refine ⟨[], [some 0], ?_⟩
    iterate 3 constructor
    refine ⟨⟨?_, ?_, ?_⟩, ⟨j + 1, h, rfl, by intro v hv'; rw [List.take_succ_eq_append_getElem h] at hv'; rcases List.mem_append.1 hv' with h1 | h1; exact hb v h1; simp at h1; subst h1; exact hv, rfl, rfl, rfl⟩⟩
    all_goals (repeat' first|with_reducible exact Lz.rfl|exact Lw.rfl|exact Lz.wrap (by omega)|(unfold goInt;with_reducible exact Lz.rfl)|exact flx _|constructor)
    all_goals exact Lz.rfl
   ·((conv=>whnf)<;>repeat(with_reducible refine D1 ?_)<;>conv=>whnf)
    exact ⟨[], [some 0], _, _, _, t3, (j : Int), rfl, rfl, rfl, .inr ⟨by omega, _, List.getElem_mem h, hv⟩⟩
  ·have h' : j = vs.length := by have : ¬ j < vs.length := by simpa using h
                                 omega
   subst h'
   rw [List.take_length] at hb
   ((conv=>whnf)<;>repeat(with_reducible refine D1 ?_)<;>conv=>whnf)
   exact ⟨[], [some 0], _, _, _, t3, -1, rfl, rfl, rfl, .inl ⟨rfl, hb⟩⟩
def hasCmd (c : Cmd) (vs : List Vote) : Bool := vs.any fun v => sameC (cmdOf v) c
theorem containsP_ok (c : Cmd) (vs : List Vote) (hl : vs.length < 1000000) : VC E0 38 1 [encVs vs, .clo 39 [] [.ptr 0 0]] (stP c) (RR (.s (.bool (hasCmd c vs))) 1 (stP c)) := by
 refine VC.enterR L0 (show E0.func 38 = some Try.f38 by kernel_rfl) (fun _ _ => rfl) rfl rfl [] ?_
 ((conv=>whnf)<;>repeat(with_reducible refine D1 ?_)<;>conv=>whnf)
 refine ⟨[], [some 0], _, _, _, _, idxP_ok c vs hl, t3, ?_⟩
 rintro r o' c' ⟨i, rfl, rfl, rfl, hi⟩
 ((conv=>whnf)<;>repeat(with_reducible refine D1 ?_)<;>conv=>whnf)
 (first|refine ⟨?_,?_⟩|refine nsplit ?_ ?_|refine bsplit ?_ ?_)<;>intro h<;>have hz_:=True.intro<;>clear hz_
 ·have h : i ≥ 0 := h
  ((conv=>whnf)<;>repeat(with_reducible refine D1 ?_)<;>conv=>whnf)
  refine ⟨[], [some 0], ?_⟩
  iterate 3 constructor
  refine ⟨⟨?_, ?_, ?_⟩, rfl, rfl, rfl⟩
  all_goals (repeat' first|with_reducible exact Lz.rfl|exact Lw.rfl|exact Lz.wrap (by omega)|(unfold goInt;with_reducible exact Lz.rfl)|exact flx _|constructor)
  refine Lz.of (bool_eq (Eq.symm ?_))
  rcases hi with ⟨e, _⟩ | ⟨_, v, hv, hs⟩
  ·omega
  ·exact List.any_eq_true.2 ⟨v, hv, hs⟩
 ·have h : ¬ i ≥ 0 := h
  ((conv=>whnf)<;>repeat(with_reducible refine D1 ?_)<;>conv=>whnf)
  refine ⟨[], [some 0], ?_⟩
  iterate 3 constructor
  refine ⟨⟨?_, ?_, ?_⟩, rfl, rfl, rfl⟩
  all_goals (repeat' first|with_reducible exact Lz.rfl|exact Lw.rfl|exact Lz.wrap (by omega)|(unfold goInt;with_reducible exact Lz.rfl)|exact flx _|constructor)
  refine Lz.of (bool_eq (Eq.symm ?_))
  rcases hi with ⟨_, hall⟩ | ⟨e, _⟩
  ·exact List.any_eq_false.2 fun v hv => by rw [hall v hv]; simp
  ·omega
theorem proposed_ok (x : LeadS) (c : Cmd) (ho : OpnOk x) (hn : x.nxt ≤ 100000) : VC E0 20 3 [.ptr 0 0, cT4 c] (stL x) (RR (.s (.bool (hasCmd c (openV x)))) 3 (stL x)) := by
 have hlen : (openV x).length < 1000000 := by have := ho.len hn; simp [openV, sortZ_len]; omega
 refine VC.enterR L0 (show E0.func 20 = some Try.f20 by kernel_rfl) (fun _ _ => rfl) rfl rfl [] ?_
 ((conv=>whnf)<;>repeat(with_reducible refine D1 ?_)<;>conv=>whnf)
 refine ⟨[], [some 0, some 1, some 2], _, _, _, _, openL_ok x (ho.ks hn) (by have := ho.len hn; omega), t3, ?_⟩
 rintro r o' c' ⟨rfl, rfl, rfl⟩
 ((conv=>whnf)<;>repeat(with_reducible refine D1 ?_)<;>conv=>whnf)
 refine ⟨[], [some 3], _, _, _, _, containsP_ok c (openV x) hlen, t3, ?_⟩
 rintro r o' c' ⟨rfl, rfl, rfl⟩
 ((conv=>whnf)<;>repeat(with_reducible refine D1 ?_)<;>conv=>whnf)
 exact ⟨[], [some 0, some 1, some 2], _, _, _, t3, rfl, rfl, rfl⟩
def proposeS (x : LeadS) (c : Cmd) : LeadS × Vote × Int :=
 if x.st ≠ 2 then (x, noVote, 12) else if c.check ≠ 0 then (x, noVote, c.check) else if c.kind ≠ 0 ∧ hasCmd c (openV x) = true then (x, noVote, 8)
 else if x.opn.length ≥ 8 ∨ x.nxt ≥ 512 then (x, noVote, 9) else (layS x c, voteS (layS x c) x.nxt, 0)
theorem propose_ok (x : LeadS) (c : Cmd) (ho : OpnOk x) (hn : 0 ≤ x.nxt ∧ x.nxt ≤ 100000) : VC E0 10 3 [.ptr 0 0, cT4 c] (stL x) (RR (.tup [.agg (encV (proposeS x c).2.1), .s (.int .i64 (proposeS x c).2.2)]) 3 (stL (proposeS x c).1)) := by
 refine VC.enterR L0 (show E0.func 10 = some Try.f10 by kernel_rfl) (fun _ _ => rfl) rfl rfl [] ?_
 ((conv=>whnf)<;>repeat(with_reducible refine D1 ?_)<;>conv=>whnf)
 (first|refine ⟨?_,?_⟩|refine nsplit ?_ ?_|refine bsplit ?_ ?_)<;>intro h1<;>have hz_:=True.intro<;>clear hz_
 ·have h1 : x.st ≠ 2 := h1
  have e : proposeS x c = (x, noVote, 12) := by unfold proposeS; rw [if_pos h1]
  rw [e]
  ((conv=>whnf)<;>repeat(with_reducible refine D1 ?_)<;>conv=>whnf)
  exact ⟨[], [some 0, some 1, some 2], _, _, _, t3, rfl, rfl, rfl⟩
 ·have h1 : x.st = 2 := Classical.not_not.1 h1
  ((conv=>whnf)<;>repeat(with_reducible refine D1 ?_)<;>conv=>whnf)
  refine ⟨[], [], _, _, _, _, check_ok c.kind c.chain c.epoch c.node, t3, ?_⟩
  rintro r o' c' ⟨rfl, rfl, rfl⟩
  ((conv=>whnf)<;>repeat(with_reducible refine D1 ?_)<;>conv=>whnf)
  (first|refine ⟨?_,?_⟩|refine nsplit ?_ ?_|refine bsplit ?_ ?_)<;>intro h2<;>have hz_:=True.intro<;>clear hz_
  ·have h2 : c.check ≠ 0 := h2
   have e : proposeS x c = (x, noVote, c.check) := by unfold proposeS; rw [if_neg (fun h => h h1), if_pos h2]
   rw [e]
   ((conv=>whnf)<;>repeat(with_reducible refine D1 ?_)<;>conv=>whnf)
   exact ⟨[], [some 0, some 1, some 2], _, _, _, t3, rfl, rfl, rfl⟩
  ·have h2 : c.check = 0 := Classical.not_not.1 h2
   ((conv=>whnf)<;>repeat(with_reducible refine D1 ?_)<;>conv=>whnf)
   (first|refine ⟨?_,?_⟩|refine nsplit ?_ ?_|refine bsplit ?_ ?_)<;>intro h6<;>have hz_:=True.intro<;>clear hz_
   ·have h6 : c.kind ≠ 0 := h6
    ((conv=>whnf)<;>repeat(with_reducible refine D1 ?_)<;>conv=>whnf)
    refine ⟨[], [some 0, some 1, some 2], _, _, _, _, proposed_ok x c ho hn.2, t3, ?_⟩
    rintro r o' c' ⟨rfl, rfl, rfl⟩
    have hz_ := True.intro
    clear hz_
    cases h7 : hasCmd c (openV x)
    ·have h3 : ¬ (c.kind ≠ 0 ∧ hasCmd c (openV x) = true) := fun h => by simp [h7] at h
     ((conv=>whnf)<;>repeat(with_reducible refine D1 ?_)<;>conv=>whnf)
     (first|refine ⟨?_,?_⟩|refine nsplit ?_ ?_|refine bsplit ?_ ?_)<;>intro h4<;>have hz_:=True.intro<;>clear hz_
     ·have h4 : ((x.opn.map (encA .i64 encP)).length : Int) ≥ 8 := h4
      rw [List.length_map] at h4
      have e : proposeS x c = (x, noVote, 9) := by unfold proposeS; rw [if_neg (fun h => h h1), if_neg (fun h => h h2), if_neg h3, if_pos (.inl (by omega))]
      rw [e]
      ((conv=>whnf)<;>repeat(with_reducible refine D1 ?_)<;>conv=>whnf)
      exact ⟨[], [some 0, some 1, some 2], _, _, _, t3, rfl, rfl, rfl⟩
     ·have h4 : ¬ ((x.opn.map (encA .i64 encP)).length : Int) ≥ 8 := h4
      rw [List.length_map] at h4
      ((conv=>whnf)<;>repeat(with_reducible refine D1 ?_)<;>conv=>whnf)
      (first|refine ⟨?_,?_⟩|refine nsplit ?_ ?_|refine bsplit ?_ ?_)<;>intro h5<;>have hz_:=True.intro<;>clear hz_
      ·have h5 : x.nxt ≥ 512 := h5
       have e : proposeS x c = (x, noVote, 9) := by unfold proposeS; rw [if_neg (fun h => h h1), if_neg (fun h => h h2), if_neg h3, if_pos (.inr h5)]
       rw [e]
       ((conv=>whnf)<;>repeat(with_reducible refine D1 ?_)<;>conv=>whnf)
       exact ⟨[], [some 0, some 1, some 2], _, _, _, t3, rfl, rfl, rfl⟩
      ·have h5 : ¬ x.nxt ≥ 512 := h5
       have e : proposeS x c = (layS x c, voteS (layS x c) x.nxt, 0) := by unfold proposeS; rw [if_neg (fun h => h h1), if_neg (fun h => h h2), if_neg h3, if_neg (by omega)]
       rw [e]
       ((conv=>whnf)<;>repeat(with_reducible refine D1 ?_)<;>conv=>whnf)
       refine ⟨[], [some 0, some 1, some 2], _, _, _, _, lay_ok x c (by omega), t3, ?_⟩
       rintro r o' c' ⟨rfl, rfl, rfl⟩
       ((conv=>whnf)<;>repeat(with_reducible refine D1 ?_)<;>conv=>whnf)
       refine ⟨[], [some 0, some 1, some 2], _, _, _, _, voteL_ok (layS x c) x.nxt, t3, ?_⟩
       rintro r o' c' ⟨rfl, rfl, rfl⟩
       ((conv=>whnf)<;>repeat(with_reducible refine D1 ?_)<;>conv=>whnf)
       exact ⟨[], [some 0, some 1, some 2], _, _, _, t3, rfl, rfl, rfl⟩
    ·have e : proposeS x c = (x, noVote, 8) := by unfold proposeS; rw [if_neg (fun h => h h1), if_neg (fun h => h h2), if_pos ⟨h6, h7⟩]
     rw [e]
     ((conv=>whnf)<;>repeat(with_reducible refine D1 ?_)<;>conv=>whnf)
     exact ⟨[], [some 0, some 1, some 2], _, _, _, t3, rfl, rfl, rfl⟩
   ·have h6 : ¬ c.kind ≠ 0 := h6
    have h3 : ¬ (c.kind ≠ 0 ∧ hasCmd c (openV x) = true) := fun h => h6 h.1
    ((conv=>whnf)<;>repeat(with_reducible refine D1 ?_)<;>conv=>whnf)
    (first|refine ⟨?_,?_⟩|refine nsplit ?_ ?_|refine bsplit ?_ ?_)<;>intro h4<;>have hz_:=True.intro<;>clear hz_
    ·have h4 : ((x.opn.map (encA .i64 encP)).length : Int) ≥ 8 := h4
     rw [List.length_map] at h4
     have e : proposeS x c = (x, noVote, 9) := by unfold proposeS; rw [if_neg (fun h => h h1), if_neg (fun h => h h2), if_neg h3, if_pos (.inl (by omega))]
     rw [e]
     ((conv=>whnf)<;>repeat(with_reducible refine D1 ?_)<;>conv=>whnf)
     exact ⟨[], [some 0, some 1, some 2], _, _, _, t3, rfl, rfl, rfl⟩
    ·have h4 : ¬ ((x.opn.map (encA .i64 encP)).length : Int) ≥ 8 := h4
     rw [List.length_map] at h4
     ((conv=>whnf)<;>repeat(with_reducible refine D1 ?_)<;>conv=>whnf)
     (first|refine ⟨?_,?_⟩|refine nsplit ?_ ?_|refine bsplit ?_ ?_)<;>intro h5<;>have hz_:=True.intro<;>clear hz_
     ·have h5 : x.nxt ≥ 512 := h5
      have e : proposeS x c = (x, noVote, 9) := by unfold proposeS; rw [if_neg (fun h => h h1), if_neg (fun h => h h2), if_neg h3, if_pos (.inr h5)]
      rw [e]
      ((conv=>whnf)<;>repeat(with_reducible refine D1 ?_)<;>conv=>whnf)
      exact ⟨[], [some 0, some 1, some 2], _, _, _, t3, rfl, rfl, rfl⟩
     ·have h5 : ¬ x.nxt ≥ 512 := h5
      have e : proposeS x c = (layS x c, voteS (layS x c) x.nxt, 0) := by unfold proposeS; rw [if_neg (fun h => h h1), if_neg (fun h => h h2), if_neg h3, if_neg (by omega)]
      rw [e]
      ((conv=>whnf)<;>repeat(with_reducible refine D1 ?_)<;>conv=>whnf)
      refine ⟨[], [some 0, some 1, some 2], _, _, _, _, lay_ok x c (by omega), t3, ?_⟩
      rintro r o' c' ⟨rfl, rfl, rfl⟩
      ((conv=>whnf)<;>repeat(with_reducible refine D1 ?_)<;>conv=>whnf)
      refine ⟨[], [some 0, some 1, some 2], _, _, _, _, voteL_ok (layS x c) x.nxt, t3, ?_⟩
      rintro r o' c' ⟨rfl, rfl, rfl⟩
      ((conv=>whnf)<;>repeat(with_reducible refine D1 ?_)<;>conv=>whnf)
      exact ⟨[], [some 0, some 1, some 2], _, _, _, t3, rfl, rfl, rfl⟩
def acceptedS (x : LeadS) (b slot who : Int) : LeadS × Vote × Bool :=
 if (x.st = 2 ∧ x.b = b) ∧ 1 ≤ who ∧ who ≤ x.masters then
  (match lookA x.opn slot with
  | none => (x, noVote, false)
  | some p => if enoughN (withN p.2 [who]) x.masters = true then ({ x with opn := delA (putA x.opn slot (p.1, withN p.2 [who])) slot }, .of slot x.b p.1, true) else ({ x with opn := putA x.opn slot (p.1, withN p.2 [who]) }, noVote, false))
 else (x, noVote, false)
theorem accepted_ok (x : LeadS) (b slot who : Int) (hm : m5 x.masters) (hev : ∀ e ∈ x.opn, ev64 e.2.2) (hnd : (keysA x.opn).Nodup) :
 VC E0 16 3 [.ptr 0 0, .s (.int .u64 b), .s (.int .i64 slot), .s (.int .i64 who)] (stL x) (RR (.tup [.agg (encV (acceptedS x b slot who).2.1), .s (.bool (acceptedS x b slot who).2.2)]) 3 (stL (acceptedS x b slot who).1)) := by
 refine VC.enterR L0 (show E0.func 16 = some Try.f16 by kernel_rfl) (fun _ _ => rfl) rfl rfl [] ?_
 ((conv=>whnf)<;>repeat(with_reducible refine D1 ?_)<;>conv=>whnf)
 refine ⟨[], [some 0, some 1, some 2], _, _, _, _, isL_ok x 2 b, t3, ?_⟩
 rintro r o' c' ⟨rfl, rfl, rfl⟩
 have hz_ := True.intro
 clear hz_
 cases h1 : decide (x.st = 2 ∧ x.b = b)
 ·have e : acceptedS x b slot who = (x, noVote, false) := by unfold acceptedS; rw [if_neg fun h => of_decide_eq_false h1 h.1]
  rw [e]
  ((conv=>whnf)<;>repeat(with_reducible refine D1 ?_)<;>conv=>whnf)
  exact ⟨[], [some 0, some 1, some 2], _, _, _, t3, rfl, rfl, rfl⟩
 ·((conv=>whnf)<;>repeat(with_reducible refine D1 ?_)<;>conv=>whnf)
  refine ⟨[], [some 0, some 1, some 2], _, _, _, _, isM_ok x who, t3, ?_⟩
  rintro r o' c' ⟨rfl, rfl, rfl⟩
  have hz_ := True.intro
  clear hz_
  cases h2 : decide (1 ≤ who ∧ who ≤ x.masters)
  ·have e : acceptedS x b slot who = (x, noVote, false) := by unfold acceptedS; rw [if_neg fun h => of_decide_eq_false h2 h.2]
   rw [e]
   ((conv=>whnf)<;>repeat(with_reducible refine D1 ?_)<;>conv=>whnf)
   exact ⟨[], [some 0, some 1, some 2], _, _, _, t3, rfl, rfl, rfl⟩
  ·have hw : m5 who := by have := of_decide_eq_true h2; unfold m5 at *; omega
   ((conv=>whnf)<;>repeat(with_reducible refine D1 ?_)<;>conv=>whnf)
   have hlk := lookM_A .i64 .i64 encP slot x.opn
   cases hx : lookA x.opn slot with
   | none =>
    have e : acceptedS x b slot who = (x, noVote, false) := by unfold acceptedS; rw [if_pos ⟨of_decide_eq_true h1, of_decide_eq_true h2⟩, hx]
    rw [hx] at hlk
    refine ⟨_, hlk, ?_⟩
    rw [e]
    ((conv=>whnf)<;>repeat(with_reducible refine D1 ?_)<;>conv=>whnf)
    exact ⟨[], [some 0, some 1, some 2], _, _, _, t3, rfl, rfl, rfl⟩
   | some p =>
    have hpe : ev64 p.2 := hev _ ((lookA_some hnd).1 hx)
    rw [hx] at hlk
    refine ⟨_, hlk, ?_⟩
    ((conv=>whnf)<;>repeat(with_reducible refine D1 ?_)<;>conv=>whnf)
    refine ⟨[11], [], _, _, _, _, with_ok p.2 [who] hpe (by simpa using hw) (by simp), t3, ?_⟩
    rintro r o' c' ⟨rfl, rfl, rfl⟩
    ((conv=>whnf)<;>repeat(with_reducible refine D1 ?_)<;>conv=>whnf)
    have hwe : ev64 (withN p.2 [who]) := withN_ev hpe (by simpa using hw)
    have hput := putM_A .i64 encP slot (p.1, withN p.2 [who]) x.opn
    refine ⟨[], [], _, _, _, _, enough_ok (withN p.2 [who]) x.masters hwe.1 hm, t3, ?_⟩
    rintro r o' c' ⟨rfl, rfl, rfl⟩
    have hz_ := True.intro
    clear hz_
    cases he : enoughN (withN p.2 [who]) x.masters
    ·have e : acceptedS x b slot who = ({ x with opn := putA x.opn slot (p.1, withN p.2 [who]) }, noVote, false) := by unfold acceptedS; rw [if_pos ⟨of_decide_eq_true h1, of_decide_eq_true h2⟩, hx]; simp only; rw [if_neg (by simp [he])]
     rw [e]
     ((conv=>whnf)<;>repeat(with_reducible refine D1 ?_)<;>conv=>whnf)
     refine ⟨[], [some 0, some 1, some 2], ?_⟩
     iterate 3 constructor
     refine ⟨⟨?_, ?_, ?_⟩, rfl, rfl, rfl⟩
     all_goals (repeat' first|with_reducible exact Lz.rfl|exact Lw.rfl|exact Lz.wrap (by omega)|(unfold goInt;with_reducible exact Lz.rfl)|exact flx _|constructor)
     exact Lz.of hput
    ·have e : acceptedS x b slot who = ({ x with opn := delA (putA x.opn slot (p.1, withN p.2 [who])) slot }, .of slot x.b p.1, true) := by unfold acceptedS; rw [if_pos ⟨of_decide_eq_true h1, of_decide_eq_true h2⟩, hx]; simp only; rw [if_pos he]
     have hvo : voteS { x with opn := putA x.opn slot (p.1, withN p.2 [who]) } slot = .of slot x.b p.1 := by simp [voteS, lookA_put]
     rw [e]
     ((conv=>whnf)<;>repeat(with_reducible refine D1 ?_)<;>conv=>whnf)
     refine ⟨[], [some 0, some 1, some 2], _, _, _, _, voteL_ok { x with opn := putA x.opn slot (p.1, withN p.2 [who]) } slot, ⟨by ((repeat' first|with_reducible exact Lz.rfl|exact Lw.rfl|exact Lz.wrap (by omega)|(unfold goInt;with_reducible exact Lz.rfl)|exact flx _|constructor); all_goals (first | exact Lz.of hput | exact hput)), by ((repeat' first|with_reducible exact Lz.rfl|exact Lw.rfl|exact Lz.wrap (by omega)|(unfold goInt;with_reducible exact Lz.rfl)|exact flx _|constructor); all_goals (first | exact Lz.of hput | exact hput)), by rfl⟩, ?_⟩
     rintro r o' c' ⟨rfl, rfl, rfl⟩
     ((conv=>whnf)<;>repeat(with_reducible refine D1 ?_)<;>conv=>whnf)
     rw [hvo]
     refine ⟨[], [some 0, some 1, some 2], ?_⟩
     iterate 3 constructor
     refine ⟨⟨?_, ?_, ?_⟩, rfl, rfl, rfl⟩
     all_goals (repeat' first|with_reducible exact Lz.rfl|exact Lw.rfl|exact Lz.wrap (by omega)|(unfold goInt;with_reducible exact Lz.rfl)|exact flx _|constructor)
     exact Lz.of (delM_A .i64 .i64 encP slot _)
def refuseS (x : LeadS) (b : Int) : LeadS × Bool := if x.st = 0 ∨ b ≤ x.b then (x, false) else ({ x with st := 0, opn := [], came := [] }, true)
theorem refuse_ok (x : LeadS) (b : Int) : VC E0 11 3 [.ptr 0 0, .s (.int .u64 b)] (stL x) (RR (.s (.bool (refuseS x b).2)) 3 (stL (refuseS x b).1)) := by
 refine VC.enterR L0 (show E0.func 11 = some Try.f11 by kernel_rfl) (fun _ _ => rfl) rfl rfl [] ?_
 ((conv=>whnf)<;>repeat(with_reducible refine D1 ?_)<;>conv=>whnf)
 (first|refine ⟨?_,?_⟩|refine nsplit ?_ ?_|refine bsplit ?_ ?_)<;>intro h1<;>have hz_:=True.intro<;>clear hz_
 ·have h1 : x.st = 0 := h1
  have e : refuseS x b = (x, false) := by unfold refuseS; rw [if_pos (.inl h1)]
  rw [e]
  ((conv=>whnf)<;>repeat(with_reducible refine D1 ?_)<;>conv=>whnf)
  exact ⟨[], [some 0, some 1, some 2], _, _, _, t3, rfl, rfl, rfl⟩
 ·have h1 : ¬ x.st = 0 := h1
  ((conv=>whnf)<;>repeat(with_reducible refine D1 ?_)<;>conv=>whnf)
  (first|refine ⟨?_,?_⟩|refine nsplit ?_ ?_|refine bsplit ?_ ?_)<;>intro h2<;>have hz_:=True.intro<;>clear hz_
  ·have h2 : b ≤ x.b := h2
   have e : refuseS x b = (x, false) := by unfold refuseS; rw [if_pos (.inr h2)]
   rw [e]
   ((conv=>whnf)<;>repeat(with_reducible refine D1 ?_)<;>conv=>whnf)
   exact ⟨[], [some 0, some 1, some 2], _, _, _, t3, rfl, rfl, rfl⟩
  ·have h2 : ¬ b ≤ x.b := h2
   have e : refuseS x b = ({ x with st := 0, opn := [], came := [] }, true) := by unfold refuseS; rw [if_neg (by rintro (h | h); exact h1 h; exact h2 h)]
   rw [e]
   ((conv=>whnf)<;>repeat(with_reducible refine D1 ?_)<;>conv=>whnf)
   exact ⟨[], [some 0, some 1, some 2], _, _, _, t3, rfl, rfl, rfl⟩
end Go.M
namespace Go.M
open Go
def maskB (P : Nat → Bool) : Nat := (if P 1 then 2 else 0) + (if P 2 then 4 else 0) + (if P 3 then 8 else 0) + (if P 4 then 16 else 0) + (if P 5 then 32 else 0)
def hasN (s i : Nat) : Bool := decide (s / 2 ^ i % 2 = 1)
def cntN (s : Nat) : Nat → Nat
 | 0 => 0
 | i + 1 => cntN s i + (if hasN s (i + 1) then 1 else 0)
end Go.M
namespace Go.M
open Go Go.Proofs
set_option maxRecDepth 100000
set_option maxHeartbeats 4000000
end Go.M
namespace Go.M
open Go Go.Proofs
set_option maxRecDepth 100000
set_option maxHeartbeats 4000000
abbrev Prp := Int × Cmd × List Int
def zw : List Int → Nat
 | [] => 0
 | _ => 1
def encR (p : Prp) : List TV := [.s (.int .i64 p.1), .s (.int .i64 p.2.1.kind), .s (.int .i64 p.2.1.chain), .s (.int .u64 p.2.1.epoch), .s (.int .i64 p.2.1.node), .sl (zw p.2.2) (p.2.2.map encI1) false]
@[reducible] def refC (x : LeadS) (who : List Int) (votes : List (List Vote)) (L : List Prp) (fl : Bool) : List TV := [.s (.int .i64 x.me), .s (.int .i64 x.masters), .s (.int .i64 x.st), .s (.int .u64 x.b), .s (.int .i64 x.frm), .s (.int .i64 x.nxt), .sl 1 (who.map encI1) false, .sl 1 (votes.map encL) false, .sl 6 (L.map encR) fl]
@[reducible] def refL (x : LeadS) (who : List Int) (votes : List (List Vote)) (L : List Prp) (fl : Bool) : TV := .agg (refC x who votes L fl)
def mxI (a b : Int) : Int := if b > a then b else a
def startQ (x : LeadS) (above frm : Int) : Int × Int := if frm < 0 ∨ frm > 512 then (0, 1) else if (nextS (mxI above x.b) x.me).2 ≠ 0 then (0, (nextS (mxI above x.b) x.me).2) else nextS (mxI above x.b) x.me
theorem mxI_in {a b : Int} (ha : 0 ≤ a ∧ a ≤ 18446744073709551615) (hb : 0 ≤ b ∧ b ≤ 18446744073709551615) : 0 ≤ mxI a b ∧ mxI a b ≤ 18446744073709551615 := by unfold mxI; split <;> assumption
end Go.M
namespace Go.M
open Go Go.Proofs
set_option maxRecDepth 100000
set_option maxHeartbeats 4000000
def voteR (b : Int) (p : Prp) : Vote := .of p.1 b p.2.1
def risU (who : List Int) (votes : List (List Vote)) (w : Nat) (k : Nat) : List (List Vote) := ((List.range w).flatMap fun (j : Nat) => (who.zip votes).filterMap fun p => if p.1 = (j : Int) + 1 then some p.2 else none) ++ ((who.zip votes).take k).filterMap fun p => if p.1 = (w : Int) + 1 then some p.2 else none
end Go.M
namespace Go.M
open Go Go.Proofs
set_option maxRecDepth 100000
set_option maxHeartbeats 4000000
@[reducible] def i0 : TV := .s (.int .i64 0)
@[reducible] def u0 : TV := .s (.int .u64 0)
@[reducible] def zLead : TO := .cells [i0, i0, i0, u0, i0, i0, .sl 0 [] true, .sl 0 [] true, .sl 0 [] true]
@[reducible] def zVote : TO := .cells [i0, u0, i0, i0, u0, i0]
def hasR (c : Cmd) (L : List Prp) : Bool := decide (c.kind ≠ 0) && L.any fun p => sameC p.2.1 c
def proposeR (x : LeadS) (L : List Prp) (c : Cmd) : LeadS × List Prp × Vote × Int :=
 if x.st ≠ 2 then (x, L, noVote, 12) else if c.check ≠ 0 then (x, L, noVote, c.check) else if hasR c L = true then (x, L, noVote, 8) else if L.length ≥ 8 ∨ x.nxt = 512 then (x, L, noVote, 9)
 else ({ x with nxt := x.nxt + 1 }, L ++ [(x.nxt, c, [])], .of x.nxt x.b c, 0)
def AccR (x : LeadS) (L : List Prp) (b slot who : Int) (L' : List Prp) (v : Vote) (ok : Bool) : Prop :=
 (¬ ((x.st = 2 ∧ x.b = b) ∧ 1 ≤ who ∧ who ≤ x.masters) ∧ L' = L ∧ v = noVote ∧ ok = false) ∨
 (((x.st = 2 ∧ x.b = b) ∧ 1 ≤ who ∧ who ≤ x.masters) ∧ (((∀ p ∈ L, p.1 ≠ slot) ∧ L' = L ∧ v = noVote ∧ ok = false) ∨
  ∃ (i : Nat) (h : i < L.length) (w : List Int), L[i].1 = slot ∧ (∀ p ∈ L.take i, p.1 ≠ slot) ∧ w.Perm (if who ∈ L[i].2.2 then L[i].2.2 else who :: L[i].2.2) ∧
   ((enoughN (withN 0 w) x.masters = false ∧ L' = L.set i (L[i].1, L[i].2.1, w) ∧ v = noVote ∧ ok = false) ∨ (enoughN (withN 0 w) x.masters = true ∧ L' = L.take i ++ L.drop (i + 1) ∧ v = .of slot b L[i].2.1 ∧ ok = true))))
end Go.M
namespace Go.M
open Go Go.Proofs
set_option maxRecDepth 100000
set_option maxHeartbeats 8000000
@[reducible] def who1 (who : List Int) (w : Int) : List Int := if w ∈ who then who else who ++ [w]
@[reducible] def votes1 (who : List Int) (votes : List (List Vote)) (w : Int) (vs : List Vote) : List (List Vote) := if w ∈ who then votes else votes ++ [vs]
def inS (s : Int) (v : Vote) : Bool := decide (s ≤ v.slot) && decide (v.slot < 512)
def moreV (best : List Vote) (s : Int) : Bool := best.any (inS s)
def layP (best : List Vote) (s : Int) : Prp := (s, cmdOf ((atS best s).getD noVote), [])
def layR (best : List Vote) (frm : Int) (j : Nat) : List Prp := (List.range j).map fun (k : Nat) => layP best (frm + k)
@[reducible] def obA (x : LeadS) (wh : List Int) (vt : List (List Vote)) : Ob := [(0, .cells (refC { x with st := 2 } wh vt [] true)), (1, zLead)]
@[reducible] def obB (x : LeadS) (wh : List Int) (vt : List (List Vote)) (best : List Vote) (j : Nat) : Ob := [(0, .cells [.s (.int .i64 x.me), .s (.int .i64 x.masters), .s (.int .i64 2), .s (.int .u64 x.b), .s (.int .i64 x.frm), .s (.int .i64 (x.frm + j)), .sl 1 (wh.map encI1) false, .sl 1 (vt.map encL) false, .tk 2]), (1, zLead), (2, .arr 6 true ((layR best x.frm j).map encR))]
def PromR (x : LeadS) (wh : List Int) (vt : List (List Vote)) (best : List Vote) (r : TV) (o : Ob) (c : Nat) : Prop := ∃ (j : Nat) (fl : Bool), x.frm + j ≤ 512 ∧ (∀ k < j, moreV best (x.frm + (k : Int)) = true) ∧ (moreV best (x.frm + j) = false ∨ x.frm + j = 512) ∧
 r = .tup [refL { x with st := 2, nxt := x.frm + j } wh vt (layR best x.frm j) fl, encVs ((layR best x.frm j).map (voteR x.b)), .s (.bool true)] ∧ c = 0 ∧ o = []
end Go.M
namespace Go.M
open Go Go.Proofs
set_option maxRecDepth 100000
set_option maxHeartbeats 4000000
@[reducible] def L0S (me masters : Int) : LeadS := ⟨me, masters, 0, 0, 0, 0, [], []⟩
theorem startG_ok (x : LeadS) (above frm : Int) (ha : 0 ≤ above ∧ above ≤ 18446744073709551615) (hb : 0 ≤ x.b ∧ x.b ≤ 18446744073709551615) (hm : m5 x.me) :
 VC E0 8 3 [.ptr 0 0, .s (.int .u64 above), .s (.int .i64 frm)] (stL x) (fun r o c => r = .tup [.s (.int .u64 (startQ x above frm).1), .s (.int .i64 (startQ x above frm).2)] ∧
  (((startQ x above frm).2 ≠ 0 ∧ c = 3 ∧ o = stL x) ∨ ((startQ x above frm).2 = 0 ∧ c = 5 ∧ o = [(0, leadO (startS x.me x.masters (startQ x above frm).1 frm) 3 4), (3, cameO (startS x.me x.masters (startQ x above frm).1 frm)), (4, openO (startS x.me x.masters (startQ x above frm).1 frm))]))) := by
 refine VC.enterR L0 (show E0.func 8 = some Try.f8 by kernel_rfl) (fun _ _ => rfl) rfl rfl [] ?_
 ((conv=>whnf)<;>repeat(with_reducible refine D1 ?_)<;>conv=>whnf)
 (first|refine ⟨?_,?_⟩|refine nsplit ?_ ?_|refine bsplit ?_ ?_)<;>intro a1<;>have hz_:=True.intro<;>clear hz_
 ·have a1 : frm < 0 := a1
  have e : startQ x above frm = (0, 1) := by unfold startQ; rw [if_pos (.inl a1)]
  rw [e]
  ((conv=>whnf)<;>repeat(with_reducible refine D1 ?_)<;>conv=>whnf)
  exact ⟨[], [some 0,some 1,some 2], _, _, _, t3, rfl, .inl ⟨by decide, rfl, rfl⟩⟩
 ·have a1 : ¬ frm < 0 := a1
  ((conv=>whnf)<;>repeat(with_reducible refine D1 ?_)<;>conv=>whnf)
  (first|refine ⟨?_,?_⟩|refine nsplit ?_ ?_|refine bsplit ?_ ?_)<;>intro a2<;>have hz_:=True.intro<;>clear hz_
  ·have a2 : frm > 512 := a2
   have e : startQ x above frm = (0, 1) := by unfold startQ; rw [if_pos (.inr a2)]
   rw [e]
   ((conv=>whnf)<;>repeat(with_reducible refine D1 ?_)<;>conv=>whnf)
   exact ⟨[], [some 0,some 1,some 2], _, _, _, t3, rfl, .inl ⟨by decide, rfl, rfl⟩⟩
  ·have a2 : ¬ frm > 512 := a2
   ((conv=>whnf)<;>repeat(with_reducible refine D1 ?_)<;>conv=>whnf)
   refine ⟨[], [], _, _, _, _, next_ok (mxI above (x).b) (x).me (mxI_in ha hb) hm, ⟨by ((repeat' first|with_reducible exact Lz.rfl|exact Lw.rfl|exact Lz.wrap (by omega)|(unfold goInt;with_reducible exact Lz.rfl)|exact flx _|constructor); all_goals (exact Lz.rfl)), by ((repeat' first|with_reducible exact Lz.rfl|exact Lw.rfl|exact Lz.wrap (by omega)|(unfold goInt;with_reducible exact Lz.rfl)|exact flx _|constructor); all_goals (exact Lz.rfl)), by rfl⟩, ?_⟩
   rintro r o' c' ⟨rfl, rfl, rfl⟩
   ((conv=>whnf)<;>repeat(with_reducible refine D1 ?_)<;>conv=>whnf)
   (first|refine ⟨?_,?_⟩|refine nsplit ?_ ?_|refine bsplit ?_ ?_)<;>intro a3<;>have hz_:=True.intro<;>clear hz_
   ·have a3 : (nextS (mxI above (x).b) (x).me).2 ≠ 0 := a3
    have e : startQ x above frm = (0, (nextS (mxI above (x).b) (x).me).2) := by unfold startQ; rw [if_neg (by omega), if_pos a3]
    rw [e]
    ((conv=>whnf)<;>repeat(with_reducible refine D1 ?_)<;>conv=>whnf)
    exact ⟨[], [some 0,some 1,some 2], _, _, _, t3, rfl, .inl ⟨a3, rfl, rfl⟩⟩
   ·have a3 : (nextS (mxI above (x).b) (x).me).2 = 0 := Classical.not_not.1 a3
    have e : startQ x above frm = nextS (mxI above (x).b) (x).me := by unfold startQ; rw [if_neg (by omega), if_neg (fun h => h a3)]
    rw [e]
    ((conv=>whnf)<;>repeat(with_reducible refine D1 ?_)<;>conv=>whnf)
    refine ⟨[], [some 0,some 1,some 2,some 3,some 4], ?_⟩
    iterate 3 constructor
    refine ⟨⟨?_, ?_, ?_⟩, rfl, .inr ⟨a3, rfl, rfl⟩⟩
    all_goals (repeat' first|with_reducible exact Lz.rfl|exact Lw.rfl|exact Lz.wrap (by omega)|(unfold goInt;with_reducible exact Lz.rfl)|exact flx _|constructor)
    all_goals first | exact Lz.rfl | exact Lz.int a3.symm
theorem start0G_ok (me masters : Int) (above frm : Int) (ha : 0 ≤ above ∧ above ≤ 18446744073709551615) (hm : m5 me) :
 VC E0 8 1 [.ptr 0 0, .s (.int .u64 above), .s (.int .i64 frm)] [(0, lead0 me masters)] (fun r o c => r = .tup [.s (.int .u64 (startQ (L0S me masters) above frm).1), .s (.int .i64 (startQ (L0S me masters) above frm).2)] ∧
  (((startQ (L0S me masters) above frm).2 ≠ 0 ∧ c = 1 ∧ o = [(0, lead0 me masters)]) ∨ ((startQ (L0S me masters) above frm).2 = 0 ∧ c = 3 ∧ o = stL (startS me masters (startQ (L0S me masters) above frm).1 frm)))) := by
 have hb : 0 ≤ (L0S me masters).b ∧ (L0S me masters).b ≤ 18446744073709551615 := by simp
 refine VC.enterR L0 (show E0.func 8 = some Try.f8 by kernel_rfl) (fun _ _ => rfl) rfl rfl [] ?_
 ((conv=>whnf)<;>repeat(with_reducible refine D1 ?_)<;>conv=>whnf)
 (first|refine ⟨?_,?_⟩|refine nsplit ?_ ?_|refine bsplit ?_ ?_)<;>intro a1<;>have hz_:=True.intro<;>clear hz_
 ·have a1 : frm < 0 := a1
  have e : startQ (L0S me masters) above frm = (0, 1) := by unfold startQ; rw [if_pos (.inl a1)]
  rw [e]
  ((conv=>whnf)<;>repeat(with_reducible refine D1 ?_)<;>conv=>whnf)
  exact ⟨[], [some 0], _, _, _, t3, rfl, .inl ⟨by decide, rfl, rfl⟩⟩
 ·have a1 : ¬ frm < 0 := a1
  ((conv=>whnf)<;>repeat(with_reducible refine D1 ?_)<;>conv=>whnf)
  (first|refine ⟨?_,?_⟩|refine nsplit ?_ ?_|refine bsplit ?_ ?_)<;>intro a2<;>have hz_:=True.intro<;>clear hz_
  ·have a2 : frm > 512 := a2
   have e : startQ (L0S me masters) above frm = (0, 1) := by unfold startQ; rw [if_pos (.inr a2)]
   rw [e]
   ((conv=>whnf)<;>repeat(with_reducible refine D1 ?_)<;>conv=>whnf)
   exact ⟨[], [some 0], _, _, _, t3, rfl, .inl ⟨by decide, rfl, rfl⟩⟩
  ·have a2 : ¬ frm > 512 := a2
   ((conv=>whnf)<;>repeat(with_reducible refine D1 ?_)<;>conv=>whnf)
   refine ⟨[], [], _, _, _, _, next_ok (mxI above ((L0S me masters)).b) ((L0S me masters)).me (mxI_in ha hb) hm, ⟨by ((repeat' first|with_reducible exact Lz.rfl|exact Lw.rfl|exact Lz.wrap (by omega)|(unfold goInt;with_reducible exact Lz.rfl)|exact flx _|constructor); all_goals (exact Lz.rfl)), by ((repeat' first|with_reducible exact Lz.rfl|exact Lw.rfl|exact Lz.wrap (by omega)|(unfold goInt;with_reducible exact Lz.rfl)|exact flx _|constructor); all_goals (exact Lz.rfl)), by rfl⟩, ?_⟩
   rintro r o' c' ⟨rfl, rfl, rfl⟩
   ((conv=>whnf)<;>repeat(with_reducible refine D1 ?_)<;>conv=>whnf)
   (first|refine ⟨?_,?_⟩|refine nsplit ?_ ?_|refine bsplit ?_ ?_)<;>intro a3<;>have hz_:=True.intro<;>clear hz_
   ·have a3 : (nextS (mxI above ((L0S me masters)).b) ((L0S me masters)).me).2 ≠ 0 := a3
    have e : startQ (L0S me masters) above frm = (0, (nextS (mxI above ((L0S me masters)).b) ((L0S me masters)).me).2) := by unfold startQ; rw [if_neg (by omega), if_pos a3]
    rw [e]
    ((conv=>whnf)<;>repeat(with_reducible refine D1 ?_)<;>conv=>whnf)
    exact ⟨[], [some 0], _, _, _, t3, rfl, .inl ⟨a3, rfl, rfl⟩⟩
   ·have a3 : (nextS (mxI above ((L0S me masters)).b) ((L0S me masters)).me).2 = 0 := Classical.not_not.1 a3
    have e : startQ (L0S me masters) above frm = nextS (mxI above ((L0S me masters)).b) ((L0S me masters)).me := by unfold startQ; rw [if_neg (by omega), if_neg (fun h => h a3)]
    rw [e]
    ((conv=>whnf)<;>repeat(with_reducible refine D1 ?_)<;>conv=>whnf)
    refine ⟨[], [some 0,some 1,some 2], ?_⟩
    iterate 3 constructor
    refine ⟨⟨?_, ?_, ?_⟩, rfl, .inr ⟨a3, rfl, rfl⟩⟩
    all_goals (repeat' first|with_reducible exact Lz.rfl|exact Lw.rfl|exact Lz.wrap (by omega)|(unfold goInt;with_reducible exact Lz.rfl)|exact flx _|constructor)
    all_goals first | exact Lz.rfl | exact Lz.int a3.symm
theorem is0_ok (me masters s b : Int) (hs : s ≠ 0) : VC E0 23 1 [.ptr 0 0, .s (.int .i64 s), .s (.int .u64 b)] [(0, lead0 me masters)] (RR (.s (.bool false)) 1 [(0, lead0 me masters)]) := by
 refine VC.enterR L0 (show E0.func 23 = some Try.f23 by kernel_rfl) (fun _ _ => rfl) rfl rfl [] ?_
 ((conv=>whnf)<;>repeat(with_reducible refine D1 ?_)<;>conv=>whnf)
 (first|refine ⟨?_,?_⟩|refine nsplit ?_ ?_|refine bsplit ?_ ?_)<;>intro h<;>have hz_:=True.intro<;>clear hz_
 ·have h : 0 = s := h
  exact absurd h.symm hs
 ·((conv=>whnf)<;>repeat(with_reducible refine D1 ?_)<;>conv=>whnf)
  exact ⟨[], [some 0], _, _, _, t3, rfl, rfl, rfl⟩
theorem promise0_ok (me masters b w : Int) (vs : List Vote) : VC E0 12 1 [.ptr 0 0, .s (.int .u64 b), .s (.int .i64 w), encVs vs] [(0, lead0 me masters)] (RR (.tup [encVs [], .s (.bool false)]) 1 [(0, lead0 me masters)]) := by
 refine VC.enterR L0 (show E0.func 12 = some Try.f12 by kernel_rfl) (fun _ _ => rfl) rfl rfl [] ?_
 ((conv=>whnf)<;>repeat(with_reducible refine D1 ?_)<;>conv=>whnf)
 refine ⟨[], [some 0], _, _, _, _, is0_ok me masters 1 b (by decide), t3, ?_⟩
 rintro r o' c' ⟨rfl, rfl, rfl⟩
 ((conv=>whnf)<;>repeat(with_reducible refine D1 ?_)<;>conv=>whnf)
 exact ⟨[], [some 0], _, _, _, t3, rfl, rfl, rfl⟩
theorem accepted0_ok (me masters b s w : Int) : VC E0 16 1 [.ptr 0 0, .s (.int .u64 b), .s (.int .i64 s), .s (.int .i64 w)] [(0, lead0 me masters)] (RR (.tup [.agg (encV noVote), .s (.bool false)]) 1 [(0, lead0 me masters)]) := by
 refine VC.enterR L0 (show E0.func 16 = some Try.f16 by kernel_rfl) (fun _ _ => rfl) rfl rfl [] ?_
 ((conv=>whnf)<;>repeat(with_reducible refine D1 ?_)<;>conv=>whnf)
 refine ⟨[], [some 0], _, _, _, _, is0_ok me masters 2 b (by decide), t3, ?_⟩
 rintro r o' c' ⟨rfl, rfl, rfl⟩
 ((conv=>whnf)<;>repeat(with_reducible refine D1 ?_)<;>conv=>whnf)
 exact ⟨[], [some 0], _, _, _, t3, rfl, rfl, rfl⟩
theorem propose0_ok (me masters : Int) (c : Cmd) : VC E0 10 1 [.ptr 0 0, cT4 c] [(0, lead0 me masters)] (RR (.tup [.agg (encV noVote), .s (.int .i64 12)]) 1 [(0, lead0 me masters)]) := by
 refine VC.enterR L0 (show E0.func 10 = some Try.f10 by kernel_rfl) (fun _ _ => rfl) rfl rfl [] ?_
 ((conv=>whnf)<;>repeat(with_reducible refine D1 ?_)<;>conv=>whnf)
 ((first | (refine ⟨fun h_ => ?_, fun h_ => ?_⟩) | (refine nsplit (fun h_ => ?_) (fun h_ => ?_)) | (refine bsplit (fun h_ => ?_) (fun h_ => ?_))) <;> first | (exfalso; revert h_; decide; done) | (exact absurd rfl h_) | (have hz_ := True.intro; clear hz_; ((conv=>whnf)<;>repeat(with_reducible refine D1 ?_)<;>conv=>whnf)))
 exact ⟨[], [some 0], _, _, _, t3, rfl, rfl, rfl⟩
theorem refuse0_ok (me masters b : Int) : VC E0 11 1 [.ptr 0 0, .s (.int .u64 b)] [(0, lead0 me masters)] (RR (.s (.bool false)) 1 [(0, lead0 me masters)]) := by
 refine VC.enterR L0 (show E0.func 11 = some Try.f11 by kernel_rfl) (fun _ _ => rfl) rfl rfl [] ?_
 ((conv=>whnf)<;>repeat(with_reducible refine D1 ?_)<;>conv=>whnf)
 ((first | (refine ⟨fun h_ => ?_, fun h_ => ?_⟩) | (refine nsplit (fun h_ => ?_) (fun h_ => ?_)) | (refine bsplit (fun h_ => ?_) (fun h_ => ?_))) <;> first | (exfalso; revert h_; decide; done) | (exact absurd rfl h_) | (have hz_ := True.intro; clear hz_; ((conv=>whnf)<;>repeat(with_reducible refine D1 ?_)<;>conv=>whnf)))
 exact ⟨[], [some 0], _, _, _, t3, rfl, rfl, rfl⟩
end Go.M
namespace Go.M
open Go Go.Proofs
theorem lookE_put {n m : Int} {v : Vote} : ∀ {es : List (Int × Vote)}, lookE (putE es n v) m = if m = n then some v else lookE es m
 | [] => by simp [putE, lookE]
 | e :: es => by
  have ih := lookE_put (n := n) (m := m) (v := v) (es := es)
  unfold putE
  by_cases he : n = e.1
  ·simp only [he, if_true, lookE]
   by_cases hm : m = e.1 <;> simp [hm]
  ·simp only [he, if_false, lookE, ih]
   by_cases hm : m = e.1
   ·rw [if_pos hm, if_pos hm, if_neg]; rintro rfl; exact he hm
   ·rw [if_neg hm, if_neg hm]
def better (o : Option Vote) (v : Vote) : Option Vote := match o with
 | none => some v
 | some w => if v.ballot > w.ballot then some v else some w
theorem lookE_best1 {es : List (Int × Vote)} {v : Vote} {n : Int} : lookE (bestE1 es v) n = if n = v.slot then better (lookE es n) v else lookE es n := by
 unfold bestE1
 by_cases hn : n = v.slot
 ·subst hn
  rw [if_pos rfl]
  cases h : lookE es v.slot with
  | none => simp [lookE_put, better]
  | some w =>
   simp only [better]
   split
   ·simp [lookE_put]
   ·exact h
 ·rw [if_neg hn]
  split
  ·rw [lookE_put, if_neg hn]
  ·split
   ·rw [lookE_put, if_neg hn]
   ·rfl
def okS (frm n : Int) : Prop := frm ≤ n ∧ n < 512
instance (a b : Int) : Decidable (okS a b) := inferInstanceAs (Decidable (_ ∧ _))
theorem good_iff {frm : Int} {v : Vote} : (!(badV frm v)) = true ↔ okS frm v.slot := by
 unfold badV okS; simp
theorem snoc_ind {α : Type} {P : List α → Prop} (h0 : P []) (h1 : ∀ l a, P l → P (l ++ [a])) (l : List α) : P l := by
 have : ∀ l : List α, P l.reverse := by
  intro l
  induction l with
  | nil => exact h0
  | cons a l ih => rw [List.reverse_cons]; exact h1 _ _ ih
 have := this l.reverse
 rwa [List.reverse_reverse] at this
theorem mem_bestV {l : List (List Vote)} (hl : ∀ x ∈ l, ∀ v ∈ x, inI v.slot) {v : Vote} : v ∈ bestV l ↔ lookE (bestE l.flatten) v.slot = some v := by
 have hk := (bestE_kb (l := l.flatten) (fun v hv => by obtain ⟨x, hx, hv⟩ := List.mem_flatten.1 hv; exact hl x hx v hv)).1
 unfold bestV
 rw [mem_allV hk.mv, lookE_some hk.mv.nd]
theorem bestV_SS {l : List (List Vote)} (hl : ∀ x ∈ l, ∀ v ∈ x, inI v.slot) : SS (bestV l) :=
 allV_SS (bestE_kb (l := l.flatten) (fun v hv => by obtain ⟨x, hx, hv⟩ := List.mem_flatten.1 hv; exact hl x hx v hv)).1.mv
def layO (p : Prp) : Int × Cmd × Nat := (p.1, p.2.1, withN 0 p.2.2)
theorem layN_opn {x : LeadS} (h : OpnOk x) (hn : 0 ≤ x.nxt) : ∀ m : Nat, (layN x m).opn = x.opn ++ (List.range m).map fun (k : Nat) => (x.nxt + k, noCmd, 0)
 | 0 => by simp [layN]
 | m + 1 => by
  have ih := layN_opn h hn m
  have ho := h.layN hn m
  have hx := layN_nxt x m
  have : (layN x m).nxt ∉ keysA (layN x m).opn := fun hm => by have := ho.rng _ hm; omega
  show putA (layN x m).opn (layN x m).nxt (noCmd, 0) = _
  rw [putA_new this, ih, hx, List.range_succ, List.map_append, List.append_assoc]
  rfl
theorem layN_rest (x : LeadS) : ∀ m, layN x m = { x with opn := (layN x m).opn, nxt := (layN x m).nxt }
 | 0 => rfl
 | m + 1 => by
  have := layN_rest x m
  show layS (layN x m) noCmd = _
  rw [this]; rfl
end Go.M
namespace Go.M
open Go Go.Proofs
set_option maxRecDepth 100000
structure RelL (x : LeadS) (who : List Int) (votes : List (List Vote)) (L : List Prp) (fl : Bool) : Prop where
 mm : m5 x.masters
 me : 1 ≤ x.me ∧ x.me ≤ x.masters
 b : 0 ≤ x.b ∧ x.b ≤ 18446744073709551615
 frm : 0 ≤ x.frm ∧ x.frm ≤ 512
 nxt : x.frm ≤ x.nxt ∧ x.nxt ≤ 512
 cm : CameOk x
 op : OpnOk x
 wk : who = keysA x.came
 vl : votes.length = who.length
 whoM : ∀ w ∈ who, 1 ≤ w ∧ w ≤ x.masters
 cz : x.came = (who.zip votes).map fun p => (p.1, delV x.frm p.2)
 v40 : ∀ l ∈ votes, l.length ≤ 600 ∧ ∀ v ∈ l, inI v.slot
 ol : x.opn = L.map layO
 ris : (keysA x.opn).Pairwise (· < ·)
 wl : ∀ p ∈ L, (∀ y ∈ p.2.2, m5 y) ∧ p.2.2.Nodup
 s1 : x.st = 1 → x.nxt = x.frm ∧ L = [] ∧ fl = true
theorem RelL.look {x : LeadS} {who : List Int} {votes : List (List Vote)} {L : List Prp} {fl : Bool} (h : RelL x who votes L fl) {p : Prp} (hp : p ∈ L) : lookA x.opn p.1 = some (p.2.1, withN 0 p.2.2) := by
 rw [lookA_some h.op.nd, h.ol]
 exact List.mem_map.2 ⟨p, hp, rfl⟩
theorem cmdOf_of (n b : Int) (c : Cmd) : cmdOf (.of n b c) = c := rfl
theorem RelL.len {x : LeadS} {who : List Int} {votes : List (List Vote)} {L : List Prp} {fl : Bool} (h : RelL x who votes L fl) : x.opn.length = L.length := by rw [h.ol, List.length_map]
theorem nextS_rng {b w : Int} (hw : m5 w) : 0 ≤ (nextS b w).1 ∧ (nextS b w).1 ≤ 18446744073709551615 := by
 unfold m5 at hw
 unfold nextS
 have h0 : 1 ≤ (if 1 > b / 8 then 1 else b / 8) := by split <;> omega
 generalize (if 1 > b / 8 then 1 else b / 8) = r0 at h0
 have h1 : 1 ≤ (if 8 * r0 + w ≤ b then r0 + 1 else r0) := by split <;> omega
 dsimp only
 generalize (if 8 * r0 + w ≤ b then r0 + 1 else r0) = r1 at h1
 split <;> (dsimp only; omega)
end Go.M
namespace Go.M
open Go Go.Proofs
set_option maxRecDepth 100000
set_option maxHeartbeats 1000000
structure Say where
 kind : Int
 frm : Int
 to : Int
 ballot : Int
 slot : Int
 votes : List Vote
 cmd : Cmd
def Prop3 (S : List Say) (b s : Int) (c : Cmd) : Prop := ∃ m ∈ S, m.kind = 3 ∧ m.ballot = b ∧ m.slot = s ∧ m.cmd = c
def Vtd (S : List Say) (a b s : Int) : Prop := ∃ m ∈ S, m.kind = 4 ∧ m.frm = a ∧ m.ballot = b ∧ m.slot = s
abbrev Acp := Int × List (Int × Vote)
def pOf (az : List Acp) (a : Int) : Int := ((az[(a - 1).toNat]?).map Prod.fst).getD 0
def Quo (n : Nat) (P : Int → Prop) : Prop := ∃ t : Nat, t < 64 ∧ enoughN t n = true ∧ ∀ i : Nat, 1 ≤ i → i ≤ n → t.testBit i = true → P i
def meetB (n s t : Nat) : Bool := !(enoughN s n && enoughN t n) || (List.range (n + 1)).any fun i => decide (1 ≤ i) && s.testBit i && t.testBit i
theorem quo_key : ∀ n < 6, ∀ s < 64, ∀ t < 64, meetB n s t = true := by decide +kernel
theorem Quo.meet {n : Nat} (hn : n ≤ 5) {P P' : Int → Prop} (h : Quo n P) (h' : Quo n P') : ∃ i : Nat, 1 ≤ i ∧ i ≤ n ∧ P i ∧ P' i := by
 obtain ⟨s, s6, s1, s2⟩ := h
 obtain ⟨t, t6, t1, t2⟩ := h'
 have hk := quo_key n (by omega) s s6 t t6
 unfold meetB at hk
 rw [s1, t1] at hk
 simp only [Bool.and_self, Bool.not_true, Bool.false_or, List.any_eq_true, List.mem_range, Bool.and_eq_true, decide_eq_true_iff] at hk
 obtain ⟨i, hi, ⟨h1, h2⟩, h3⟩ := hk
 exact ⟨i, h1, by omega, s2 i h1 (by omega) h2, t2 i h1 (by omega) h3⟩
theorem Quo.imp {n : Nat} {P P' : Int → Prop} (h : Quo n P) (hi : ∀ i, P i → P' i) : Quo n P' := by
 obtain ⟨t, t6, t1, t2⟩ := h
 exact ⟨t, t6, t1, fun i a b c => hi _ (t2 i a b c)⟩
def Blk (n : Nat) (az : List Acp) (S : List Say) (b s : Int) : Prop := Quo n fun a => b < pOf az a ∧ ¬ Vtd S a b s
structure Ext (az : List Acp) (S : List Say) (az' : List Acp) (S' : List Say) : Prop where
 p : ∀ a, pOf az a ≤ pOf az' a
 sub : ∀ m ∈ S, m ∈ S'
 new : ∀ a b s, Vtd S' a b s → Vtd S a b s ∨ pOf az a ≤ b
def PromOk (az : List Acp) (S : List Say) (w b : Int) (vs : List Vote) : Prop :=
 b ≤ pOf az w ∧ (∀ b' s, b' < b → Vtd S w b' s → ∃ v ∈ vs, v.slot = s ∧ b' ≤ v.ballot) ∧ ∀ v ∈ vs, v.ballot ≤ b ∧ Prop3 S v.ballot v.slot (cmdOf v) ∧ 0 ≤ v.slot ∧ v.slot < 512
section
variable {n : Nat} {az az' : List Acp} {S S' : List Say}
theorem Prop3.ext (E : Ext az S az' S') {b s : Int} {c : Cmd} (h : Prop3 S b s c) : Prop3 S' b s c := by
 obtain ⟨m, hm, h⟩ := h
 exact ⟨m, E.sub m hm, h⟩
theorem Vtd.ext (E : Ext az S az' S') {a b s : Int} (h : Vtd S a b s) : Vtd S' a b s := by
 obtain ⟨m, hm, h⟩ := h
 exact ⟨m, E.sub m hm, h⟩
theorem Blk.ext (E : Ext az S az' S') {b s : Int} (h : Blk n az S b s) : Blk n az' S' b s := by
 refine Quo.imp h fun i ⟨h1, h2⟩ => ⟨Int.lt_of_lt_of_le h1 (E.p i), fun hv => ?_⟩
 rcases E.new _ _ _ hv with h | h
 ·exact h2 h
 ·omega
theorem PromOk.ext (E : Ext az S az' S') {w b : Int} {vs : List Vote} (h : PromOk az S w b vs) : PromOk az' S' w b vs := by
 obtain ⟨h1, h2, h3⟩ := h
 refine ⟨Int.le_trans h1 (E.p w), fun b' s hb hv => ?_, fun v hv => ?_⟩
 ·rcases E.new _ _ _ hv with h | h
  ·exact h2 b' s hb h
  ·omega
 ·obtain ⟨q1, q2, q3⟩ := h3 v hv
  exact ⟨q1, q2.ext E, q3⟩
structure LOk (n : Nat) (az : List Acp) (S : List Say) (i : Nat) (x : LeadS) : Prop where
 me : x.me = i + 1
 ms : x.masters = n
 b : 0 ≤ x.b ∧ x.b ≤ 18446744073709551615
 st : x.st = 0 ∨ x.st = 1 ∨ x.st = 2
 frm : x.frm = 0
 nxt : 0 ≤ x.nxt ∧ x.nxt ≤ 512
 b8 : x.st ≠ 0 → x.b % 8 = x.me
 cm : CameOk x
 op : OpnOk x
 ev : ∀ e ∈ x.opn, ev64 e.2.2
 prp : ∀ m ∈ S, m.kind = 3 → m.frm = x.me → m.ballot % 8 = x.me ∧ m.ballot ≤ x.b ∧ (m.ballot = x.b → x.st ≠ 1 ∧ m.slot < x.nxt)
 s1 : x.st = 1 → x.nxt = 0 ∧ x.opn = [] ∧ ∀ e ∈ x.came, PromOk az S e.1 x.b e.2
 s2 : x.st = 2 → ∀ s, x.nxt ≤ s → ∀ b' < x.b, Blk n az S b' s
 o2 : x.st = 2 → ∀ e ∈ x.opn, Prop3 S x.b e.1 e.2.1 ∧ ∀ i : Nat, 1 ≤ i → i ≤ n → e.2.2.testBit i = true → Vtd S i x.b e.1
theorem LOk.ext (E : Ext az S az' S') {i : Nat} {x : LeadS} (h : LOk n az S i x) (hn : ∀ m ∈ S', m ∈ S ∨ m.kind ≠ 3 ∨ m.frm ≠ x.me) : LOk n az' S' i x :=
 ⟨h.me, h.ms, h.b, h.st, h.frm, h.nxt, h.b8, h.cm, h.op, h.ev, fun m hm hk hf => by
  rcases hn m hm with q | q | q
  ·exact h.prp m q hk hf
  ·exact absurd hk q
  ·exact absurd hf q, fun hs => ⟨(h.s1 hs).1, (h.s1 hs).2.1, fun e he => ((h.s1 hs).2.2 e he).ext E⟩, fun hs s h1 b' h2 => (h.s2 hs s h1 b' h2).ext E,
  fun hs e he => ⟨(h.o2 hs e he).1.ext E, fun i a b c => ((h.o2 hs e he).2 i a b c).ext E⟩⟩
structure TalkI (n : Nat) (xs : List LeadS) (az : List Acp) (S : List Say) (ch : List Vote) : Prop where
 n5 : 1 ≤ n ∧ n ≤ 5
 xl : xs.length = n
 al : az.length = n
 rng : ∀ m ∈ S, 1 ≤ m.frm ∧ m.frm ≤ n ∧ 1 ≤ m.to ∧ m.to ≤ n ∧ (m.kind = 1 → m.slot = 0) ∧ (1 ≤ m.kind ∧ m.kind ≤ 4)
 ld : ∀ (i : Nat) x, xs[i]? = some x → LOk n az S i x
 kv : ∀ (i : Nat) q, az[i]? = some q → KVo q.1 q.2 ∧ 0 ≤ q.1 ∧ ∀ e ∈ q.2, Prop3 S e.2.ballot e.1 (cmdOf e.2)
 vt : ∀ a b s, Vtd S a b s → b ≤ pOf az a ∧ ∃ q, az[(a - 1).toNat]? = some q ∧ ∃ v, lookE q.2 s = some v ∧ b ≤ v.ballot
 pr : ∀ m ∈ S, m.kind = 2 → PromOk az S m.frm m.ballot m.votes ∧ m.votes.length ≤ 512
 un : ∀ m ∈ S, ∀ m' ∈ S, m.kind = 3 → m'.kind = 3 → m.ballot = m'.ballot → m.slot = m'.slot → m.cmd = m'.cmd
 sf : ∀ b s c, Prop3 S b s c → ∀ b' < b, Blk n az S b' s ∨ Prop3 S b' s c
 ch : ∀ v ∈ ch, Prop3 S v.ballot v.slot (cmdOf v) ∧ Quo n fun a => Vtd S a v.ballot v.slot
theorem TalkI.safe {xs : List LeadS} {ch : List Vote} (H : TalkI n xs az S ch) : ∀ v ∈ ch, ∀ w ∈ ch, v.slot = w.slot → cmdOf v = cmdOf w := by
 have key : ∀ v ∈ ch, ∀ w ∈ ch, v.slot = w.slot → v.ballot < w.ballot → cmdOf v = cmdOf w := fun v hv w hw hs hb => by
  obtain ⟨p1, q1⟩ := H.ch v hv
  obtain ⟨p2, q2⟩ := H.ch w hw
  rcases H.sf _ _ _ p2 v.ballot hb with h | h
  ·obtain ⟨i, _, _, ⟨_, h1⟩, h2⟩ := Quo.meet H.n5.2 h q1
   exact absurd (hs ▸ h2) h1
  ·obtain ⟨m, hm, k1, k2, k3, k4⟩ := p1
   obtain ⟨m', hm', l1, l2, l3, l4⟩ := h
   rw [← k4, ← l4]
   exact H.un m hm m' hm' k1 l1 (by rw [k2, l2]) (by rw [k3, l3, hs])
 intro v hv w hw hs
 rcases Int.lt_trichotomy v.ballot w.ballot with h | h | h
 ·exact key v hv w hw hs h
 ·obtain ⟨m, hm, k1, k2, k3, k4⟩ := (H.ch v hv).1
  obtain ⟨m', hm', l1, l2, l3, l4⟩ := (H.ch w hw).1
  rw [← k4, ← l4]
  exact H.un m hm m' hm' k1 l1 (by rw [k2, l2, h]) (by rw [k3, l3, hs])
 ·exact (key w hw v hv hs.symm h).symm
theorem pOf_set {i : Nat} {q : Acp} (hi : i < az.length) (a : Int) (ha : 1 ≤ a) : pOf (az.set i q) a = if a = i + 1 then q.1 else pOf az a := by
 unfold pOf
 by_cases h : a = i + 1
 ·have e : (a - 1).toNat = i := by omega
  rw [if_pos h, e, List.getElem?_set_self hi]; rfl
 ·have e : i ≠ (a - 1).toNat := by omega
  rw [if_neg h, List.getElem?_set_ne e]
theorem Vtd.app {P : List Say} {a b s : Int} (h : Vtd (S ++ P) a b s) : Vtd S a b s ∨ ∃ m ∈ P, m.kind = 4 ∧ m.frm = a ∧ m.ballot = b ∧ m.slot = s := by
 obtain ⟨m, hm, h⟩ := h
 rcases List.mem_append.1 hm with q | q
 ·exact .inl ⟨m, q, h⟩
 ·exact .inr ⟨m, q, h⟩
theorem Prop3.app {P : List Say} {b s : Int} {c : Cmd} (h : Prop3 (S ++ P) b s c) : Prop3 S b s c ∨ ∃ m ∈ P, m.kind = 3 ∧ m.ballot = b ∧ m.slot = s ∧ m.cmd = c := by
 obtain ⟨m, hm, h⟩ := h
 rcases List.mem_append.1 hm with q | q
 ·exact .inl ⟨m, q, h⟩
 ·exact .inr ⟨m, q, h⟩
theorem ext_say (P : List Say) (hP : ∀ m ∈ P, m.kind ≠ 4) : Ext az S az (S ++ P) :=
 ⟨fun _ => Int.le_refl _, fun m hm => List.mem_append_left _ hm, fun a b s h => by
  rcases h.app with q | ⟨m, hm, q, _⟩
  ·exact .inl q
  ·exact absurd q (hP m hm)⟩
theorem TalkI.say {xs : List LeadS} {ch : List Vote} (H : TalkI n xs az S ch) {i : Nat} {x x' : LeadS} (hx : xs[i]? = some x) (P : List Say)
 (hP : ∀ m ∈ P, ((m.kind = 1 ∧ m.slot = 0) ∨ m.kind = 3) ∧ m.frm = i + 1 ∧ 1 ≤ m.to ∧ m.to ≤ n)
 (h3 : ∀ m ∈ P, m.kind = 3 → ∀ b' < m.ballot, Blk n az S b' m.slot ∨ Prop3 S b' m.slot m.cmd)
 (hu : ∀ m ∈ P, m.kind = 3 → ∀ m' ∈ S ++ P, m'.kind = 3 → m.ballot = m'.ballot → m.slot = m'.slot → m.cmd = m'.cmd)
 (h' : LOk n az (S ++ P) i x') : TalkI n (xs.set i x') az (S ++ P) ch := by
 have hi : i < xs.length := (List.getElem?_eq_some_iff.1 hx).1
 have E : Ext az S az (S ++ P) := ext_say P fun m hm => by rcases (hP m hm).1 with ⟨h, _⟩ | h <;> omega
 have hxl := H.xl
 refine ⟨H.n5, by rw [List.length_set]; exact H.xl, H.al, fun m hm => ?_, fun k y hy => ?_, fun k q hq => ?_, fun a b s h => ?_, fun m hm hk => ?_, fun m hm m' hm' a b c d => ?_, fun b s c h b' hb => ?_, fun v hv => ?_⟩
 ·rcases List.mem_append.1 hm with q | q
  ·exact H.rng m q
  ·obtain ⟨a, b, c, d⟩ := hP m q
   refine ⟨by omega, by omega, c, d, fun hk => ?_, ?_⟩
   ·rcases a with ⟨_, a⟩ | a
    ·exact a
    ·omega
   ·rcases a with ⟨a, _⟩ | a <;> omega
 ·by_cases hk : i = k
  ·subst hk
   rw [List.getElem?_set_self hi] at hy
   cases hy; exact h'
  ·rw [List.getElem?_set_ne hk] at hy
   refine (H.ld k y hy).ext E fun m hm => ?_
   rcases List.mem_append.1 hm with q | q
   ·exact .inl q
   ·right; right
    have := (hP m q).2.1
    have := (H.ld k y hy).me
    omega
 ·obtain ⟨a, b, c⟩ := H.kv k q hq
  exact ⟨a, b, fun e he => (c e he).ext E⟩
 ·rcases h.app with q | ⟨m, hm, q, _⟩
  ·exact H.vt a b s q
  ·rcases (hP m hm).1 with ⟨h, _⟩ | h <;> omega
 ·rcases List.mem_append.1 hm with q | q
  ·exact ⟨(H.pr m q hk).1.ext E, (H.pr m q hk).2⟩
  ·rcases (hP m q).1 with ⟨h, _⟩ | h <;> omega
 ·rcases List.mem_append.1 hm with q | q
  ·rcases List.mem_append.1 hm' with q' | q'
   ·exact H.un m q m' q' a b c d
   ·exact (hu m' q' b m hm a c.symm d.symm).symm
  ·exact hu m q a m' hm' b c d
 ·rcases h.app with q | ⟨m, hm, q1, q2, q3, q4⟩
  ·exact (H.sf b s c q b' hb).imp (·.ext E) (·.ext E)
  ·subst q2 q3 q4
   exact (h3 m hm q1 b' hb).imp (·.ext E) (·.ext E)
 ·obtain ⟨a, b⟩ := H.ch v hv
  exact ⟨a.ext E, b.imp fun i h => h.ext E⟩
theorem TalkI.turn {xs : List LeadS} {ch : List Vote} (H : TalkI n xs az S ch) {i : Nat} {x x' : LeadS} (hx : xs[i]? = some x) (h' : LOk n az S i x') : TalkI n (xs.set i x') az S ch := by
 have := H.say (x' := x') hx [] (by simp) (by simp) (by simp) (by simpa using h')
 simpa using this
theorem KVo.few {p : Int} {es : List (Int × Vote)} (h : KVo p es) : es.length ≤ 512 := by
 have h2 : ((es.map (·.1)).map (· + 1)).Nodup := by
  refine List.Pairwise.map _ ?_ h.mv.nd
  intro a b hab e; exact hab (by omega)
 have := nodup_le 512 ((es.map (·.1)).map (· + 1)) h2 fun w hw => by
  obtain ⟨n, hn', rfl⟩ := List.mem_map.1 hw
  obtain ⟨e, he, rfl⟩ := List.mem_map.1 hn'
  have := h.rng e he; omega
 simpa using this
theorem votesOf_len (es : List (Int × Vote)) (frm : Int) : (votesOf es frm).length ≤ es.length := by
 unfold votesOf rising
 rw [List.length_map]
 refine Nat.le_trans (List.length_filter_le _ _) ?_
 simp [sortZ]
theorem TalkI.prepare {xs : List LeadS} {ch : List Vote} (H : TalkI n xs az S ch) {i : Nat} {q : Acp} (hq : az[i]? = some q) {b to : Int} (ht : 1 ≤ to ∧ to ≤ n) (he : (prepS q.1 b q.2 0).2.2 = 0) (c0 : Cmd) :
 TalkI n xs (az.set i ((prepS q.1 b q.2 0).1, q.2)) (S ++ [⟨2, i + 1, to, b, 0, (prepS q.1 b q.2 0).2.1, c0⟩]) ch := by
 have hi : i < az.length := (List.getElem?_eq_some_iff.1 hq).1
 have hal := H.al
 obtain ⟨hkv, hp0, hac⟩ := H.kv i q hq
 have hpo : pOf az (i + 1) = q.1 := by unfold pOf; rw [show ((i : Int) + 1 - 1).toNat = i by omega, hq]; rfl
 have hps : prepS q.1 b q.2 0 = (b, votesOf q.2 0, 0) ∧ q.1 ≤ b := by
  unfold prepS at he ⊢
  split at he
  ·cases he
  ·split at he
   ·cases he
   ·rename_i h1 h2
    exact ⟨by rw [if_neg h1, if_neg h2], by omega⟩
 obtain ⟨hps, hle⟩ := hps
 rw [hps]
 dsimp only
 generalize hm : (⟨2, i + 1, to, b, 0, votesOf q.2 0, c0⟩ : Say) = m0
 have m1 : m0.kind = 2 := by rw [← hm]
 have m2 : m0.frm = i + 1 ∧ m0.ballot = b ∧ m0.votes = votesOf q.2 0 := by rw [← hm]; exact ⟨rfl, rfl, rfl⟩
 have E : Ext az S (az.set i (b, q.2)) (S ++ [m0]) := by
  refine ⟨fun a => ?_, fun m hm => List.mem_append_left _ hm, fun a b s h => ?_⟩
  ·unfold pOf
   by_cases h : i = (a - 1).toNat
   ·rw [← h, List.getElem?_set_self hi, hq]; exact hle
   ·rw [List.getElem?_set_ne h]; exact Int.le_refl _
  ·rcases h.app with q | ⟨m, hm, q, _⟩
   ·exact .inl q
   ·simp at hm; subst hm; omega
 have hv : ∀ v, v ∈ votesOf q.2 0 ↔ v ∈ allV q.2 ∧ 0 ≤ v.slot := fun v => by
  show v ∈ rising q.2 0 (sortZ (q.2.map (·.1))) ↔ _
  rw [rising_all hkv.mv, List.mem_filter, decide_eq_true_iff]
 refine ⟨H.n5, H.xl, by rw [List.length_set]; exact H.al, fun m hm' => ?_, fun k y hy => ?_, fun k r hr => ?_, fun a b' s h => ?_, fun m hm' hk => ?_, fun m hm' m' hm'' a b c d => ?_, fun b s c h b' hb => ?_, fun v hv => ?_⟩
 ·rcases List.mem_append.1 hm' with h | h
  ·exact H.rng m h
  ·simp at h; subst h; rw [← hm]; exact ⟨by show (1 : Int) ≤ i + 1; omega, by show ((i : Int) + 1) ≤ n; omega, ht.1, ht.2, fun h => rfl, by show (1 : Int) ≤ 2 ∧ (2 : Int) ≤ 4; omega⟩
 ·refine (H.ld k y hy).ext E fun m hm' => ?_
  rcases List.mem_append.1 hm' with h | h
  ·exact .inl h
  ·simp at h; subst h; right; left; omega
 ·by_cases hk : i = k
  ·subst hk
   rw [List.getElem?_set_self hi] at hr
   cases hr
   exact ⟨⟨hkv.mv, hkv.rng, fun e he => Int.le_trans (hkv.bal e he) hle⟩, Int.le_trans hp0 hle, fun e he => (hac e he).ext E⟩
  ·rw [List.getElem?_set_ne hk] at hr
   obtain ⟨a, b, c⟩ := H.kv k r hr
   exact ⟨a, b, fun e he => (c e he).ext E⟩
 ·rcases h.app with h | ⟨m, hm', h, _⟩
  ·obtain ⟨h1, r, h2, h3⟩ := H.vt a b' s h
   refine ⟨Int.le_trans h1 (E.p a), ?_⟩
   by_cases hk : i = (a - 1).toNat
   ·rw [← hk, hq] at h2
    cases h2
    exact ⟨(b, q.2), by rw [← hk, List.getElem?_set_self hi], h3⟩
   ·exact ⟨r, by rw [List.getElem?_set_ne hk]; exact h2, h3⟩
  ·simp at hm'; subst hm'; omega
 ·rcases List.mem_append.1 hm' with h | h
  ·exact ⟨(H.pr m h hk).1.ext E, (H.pr m h hk).2⟩
  ·simp at h; subst h
   rw [m2.1, m2.2.1, m2.2.2]
   refine ⟨?_, Nat.le_trans (votesOf_len q.2 0) hkv.few⟩
   refine ⟨?_, fun b' s hb' hvt => ?_, fun v hvm => ?_⟩
   ·rw [pOf_set hi _ (by omega), if_pos rfl]; exact Int.le_refl _
   ·rcases hvt.app with h | ⟨m', hm'', h, _⟩
    ·obtain ⟨_, r, h2, v, h3, h4⟩ := H.vt _ _ _ h
     rw [show ((i : Int) + 1 - 1).toNat = i by omega, hq] at h2
     cases h2
     have hmem := (lookE_some hkv.mv.nd).1 h3
     have hsl := hkv.mv.key _ hmem
     have hsl : v.slot = s := hsl
     have hrg := hkv.rng _ hmem
     refine ⟨v, (hv v).2 ⟨(mem_allV hkv.mv).2 (by rw [hsl]; exact hmem), by rw [hsl]; exact hrg.1⟩, hsl, h4⟩
    ·simp at hm''; subst hm''; omega
   ·have hmem := (mem_allV hkv.mv).1 ((hv v).1 hvm).1
    have hrg := hkv.rng _ hmem
    exact ⟨Int.le_trans (hkv.bal _ hmem) hle, (hac _ hmem).ext E, hrg⟩
 ·rcases List.mem_append.1 hm' with h | h
  ·rcases List.mem_append.1 hm'' with h' | h'
   ·exact H.un m h m' h' a b c d
   ·simp at h'; subst h'; omega
  ·simp at h; subst h; omega
 ·rcases h.app with q | ⟨m, hm', q1, _⟩
  ·exact (H.sf b s c q b' hb).imp (·.ext E) (·.ext E)
  ·simp at hm'; subst hm'; omega
 ·obtain ⟨a, b⟩ := H.ch v hv
  exact ⟨a.ext E, b.imp fun i h => h.ext E⟩
theorem TalkI.accept {xs : List LeadS} {ch : List Vote} (H : TalkI n xs az S ch) {i : Nat} {q : Acp} (hq : az[i]? = some q) {b s to : Int} {c : Cmd} (ht : 1 ≤ to ∧ to ≤ n) (hpr : Prop3 S b s c) (he : (accS q.1 q.2 b s c).2.2 = 0) (c0 : Cmd) :
 TalkI n xs (az.set i ((accS q.1 q.2 b s c).1, (accS q.1 q.2 b s c).2.1)) (S ++ [⟨4, i + 1, to, b, s, [], c0⟩]) ch := by
 have hi : i < az.length := (List.getElem?_eq_some_iff.1 hq).1
 have hal := H.al
 obtain ⟨hkv, hp0, hac⟩ := H.kv i q hq
 have hpo : pOf az (i + 1) = q.1 := by unfold pOf; rw [show ((i : Int) + 1 - 1).toNat = i by omega, hq]; rfl
 have hkv2 := (accS_kv (b := b) (n := s) (c := c) hkv).1
 have hps : accS q.1 q.2 b s c = (b, putE q.2 s (.of s b c), 0) ∧ q.1 ≤ b := by
  unfold accS at he ⊢
  split at he
  ·cases he
  ·split at he
   ·rename_i h1 h2; exact absurd he h2
   ·split at he
    ·cases he
    ·rename_i h1 h2 h3
     exact ⟨by rw [if_neg h1, if_neg h2, if_neg h3], by omega⟩
 obtain ⟨hps, hle⟩ := hps
 rw [hps] at hkv2 ⊢
 dsimp only at hkv2 ⊢
 generalize hm : (⟨4, i + 1, to, b, s, [], c0⟩ : Say) = m0
 have m1 : m0.kind = 4 := by rw [← hm]
 have m2 : m0.frm = i + 1 ∧ m0.ballot = b ∧ m0.slot = s := by rw [← hm]; exact ⟨rfl, rfl, rfl⟩
 have E : Ext az S (az.set i (b, putE q.2 s (.of s b c))) (S ++ [m0]) := by
  refine ⟨fun a => ?_, fun m hm => List.mem_append_left _ hm, fun a b' s h => ?_⟩
  ·unfold pOf
   by_cases h : i = (a - 1).toNat
   ·rw [← h, List.getElem?_set_self hi, hq]; exact hle
   ·rw [List.getElem?_set_ne h]; exact Int.le_refl _
  ·rcases h.app with h | ⟨m, hm', h1, h2, h3, _⟩
   ·exact .inl h
   ·simp at hm'; subst hm'; right; rw [← h2, m2.1, hpo]; omega
 have hnew : ∀ (a b' s' : Int), Vtd (S ++ [m0]) a b' s' → (a = i + 1 ∧ b' = b ∧ s' = s) ∨ Vtd S a b' s' := fun a b' s' h => by
  rcases h.app with h | ⟨m, hm', h1, h2, h3, h4⟩
  ·exact .inr h
  ·simp at hm'; subst hm'; left; exact ⟨by omega, by omega, by omega⟩
 refine ⟨H.n5, H.xl, by rw [List.length_set]; exact H.al, fun m hm' => ?_, fun k y hy => ?_, fun k r hr => ?_, fun a b' s' h => ?_, fun m hm' hk => ?_, fun m hm' m' hm'' a b c d => ?_, fun b s c h b' hb => ?_, fun v hv => ?_⟩
 ·rcases List.mem_append.1 hm' with h | h
  ·exact H.rng m h
  ·simp at h; subst h; rw [← hm]; exact ⟨by show (1 : Int) ≤ i + 1; omega, by show ((i : Int) + 1) ≤ n; omega, ht.1, ht.2, (fun h => absurd (show (4 : Int) = 1 from h) (by decide)), by show (1 : Int) ≤ 4 ∧ (4 : Int) ≤ 4; omega⟩
 ·refine (H.ld k y hy).ext E fun m hm' => ?_
  rcases List.mem_append.1 hm' with h | h
  ·exact .inl h
  ·simp at h; subst h; right; left; omega
 ·by_cases hk : i = k
  ·subst hk
   rw [List.getElem?_set_self hi] at hr
   cases hr
   refine ⟨hkv2, Int.le_trans hp0 hle, fun e he => ?_⟩
   rcases (putE_mem hkv.mv.nd).1 he with rfl | ⟨_, he⟩
   ·exact hpr.ext E
   ·exact (hac e he).ext E
  ·rw [List.getElem?_set_ne hk] at hr
   obtain ⟨a, b, c⟩ := H.kv k r hr
   exact ⟨a, b, fun e he => (c e he).ext E⟩
 ·rcases hnew _ _ _ h with ⟨rfl, rfl, rfl⟩ | h
  ·refine ⟨by rw [pOf_set hi _ (by omega), if_pos rfl]; exact Int.le_refl _, _, by rw [show ((i : Int) + 1 - 1).toNat = i by omega]; exact List.getElem?_set_self hi, .of s' b' c, by rw [lookE_put, if_pos rfl], Int.le_refl _⟩
  ·obtain ⟨h1, r, h2, v, h3, h4⟩ := H.vt a b' s' h
   refine ⟨Int.le_trans h1 (E.p a), ?_⟩
   by_cases hk : i = (a - 1).toNat
   ·rw [← hk, hq] at h2
    cases h2
    refine ⟨_, by rw [← hk, List.getElem?_set_self hi], ?_⟩
    show ∃ v, lookE (putE q.2 s (.of s b c)) s' = some v ∧ _
    rw [lookE_put]
    by_cases hs : s' = s
    ·rw [if_pos hs]
     refine ⟨_, rfl, ?_⟩
     have hpa : pOf az a = q.1 := by unfold pOf; rw [← hk, hq]; rfl
     show b' ≤ b
     omega
    ·rw [if_neg hs]; exact ⟨v, h3, h4⟩
   ·exact ⟨r, by rw [List.getElem?_set_ne hk]; exact h2, v, h3, h4⟩
 ·rcases List.mem_append.1 hm' with h | h
  ·exact ⟨(H.pr m h hk).1.ext E, (H.pr m h hk).2⟩
  ·simp at h; subst h; omega
 ·rcases List.mem_append.1 hm' with h | h
  ·rcases List.mem_append.1 hm'' with h' | h'
   ·exact H.un m h m' h' a b c d
   ·simp at h'; subst h'; omega
  ·simp at h; subst h; omega
 ·rcases h.app with q | ⟨m, hm', q1, _⟩
  ·exact (H.sf b s c q b' hb).imp (·.ext E) (·.ext E)
  ·simp at hm'; subst hm'; omega
 ·obtain ⟨a, b⟩ := H.ch v hv
  exact ⟨a.ext E, b.imp fun i h => h.ext E⟩
end
end Go.M
namespace Go.M
open Go Go.Proofs
set_option maxRecDepth 100000
set_option maxHeartbeats 1000000
theorem lookE_best (s : Int) (l : List Vote) : match lookE (bestE l) s with
 | none => ∀ u ∈ l, u.slot ≠ s
 | some v => v ∈ l ∧ v.slot = s ∧ ∀ u ∈ l, u.slot = s → u.ballot ≤ v.ballot := by
 induction l using snoc_ind with
 | h0 => simp [bestE, lookE]
 | h1 l v ih =>
  rw [bestE_snoc, lookE_best1]
  by_cases hn : s = v.slot
  ·rw [if_pos hn]
   cases h : lookE (bestE l) s with
   | none =>
    rw [h] at ih
    simp only [better]
    refine ⟨by simp, hn.symm, fun u hu hs => ?_⟩
    rcases List.mem_append.1 hu with q | q
    ·exact absurd hs (ih u q)
    ·simp at q; subst q; exact Int.le_refl _
   | some w =>
    rw [h] at ih
    obtain ⟨i1, i2, i3⟩ := ih
    simp only [better]
    by_cases hb : v.ballot > w.ballot
    ·rw [if_pos hb]
     refine ⟨by simp, hn.symm, fun u hu hs => ?_⟩
     rcases List.mem_append.1 hu with q | q
     ·have := i3 u q hs; omega
     ·simp at q; subst q; exact Int.le_refl _
    ·rw [if_neg hb]
     refine ⟨List.mem_append_left _ i1, i2, fun u hu hs => ?_⟩
     rcases List.mem_append.1 hu with q | q
     ·exact i3 u q hs
     ·simp at q; subst q; omega
  ·rw [if_neg hn]
   cases h : lookE (bestE l) s with
   | none =>
    rw [h] at ih
    dsimp only at ih ⊢
    intro u hu
    rcases List.mem_append.1 hu with q | q
    ·exact ih u q
    ·simp at q; subst q; exact fun e => hn e.symm
   | some w =>
    rw [h] at ih
    obtain ⟨i1, i2, i3⟩ := ih
    dsimp only
    refine ⟨List.mem_append_left _ i1, i2, fun u hu hs => ?_⟩
    rcases List.mem_append.1 hu with q | q
    ·exact i3 u q hs
    ·simp at q; subst q; exact absurd hs.symm hn
structure FillR (x y : LeadS) (B : List Vote) : Prop where
 me : y.me = x.me
 ms : y.masters = x.masters
 st : y.st = x.st
 b : y.b = x.b
 frm : y.frm = x.frm
 came : y.came = x.came
 ge : x.nxt ≤ y.nxt
 lt : ∀ v ∈ B, v.slot < y.nxt
 new : ∀ e ∈ y.opn, e ∈ x.opn ∨ (x.nxt ≤ e.1 ∧ e.1 < y.nxt ∧ e.2.2 = 0 ∧ ((∃ v ∈ B, v.slot = e.1 ∧ cmdOf v = e.2.1) ∨ (e.2.1 = noCmd ∧ ∀ v ∈ B, v.slot ≠ e.1)))
 top : x.nxt ≤ 512 → (∀ v ∈ B, v.slot < 512) → y.nxt ≤ 512
theorem fill_R : ∀ (B : List Vote) (x : LeadS), OpnOk x → 0 ≤ x.nxt → SS B → (∀ v ∈ B, x.nxt ≤ v.slot) → FillR x (fillL x B) B
 | [], x, _, _, _, _ => ⟨rfl, rfl, rfl, rfl, rfl, rfl, Int.le_refl _, by simp, fun e he => .inl he, fun h _ => h⟩
 | v :: B, x, ho, hn, hS, hB => by
  obtain ⟨hS1, hS2⟩ := List.pairwise_cons.1 hS
  have hv := hB v List.mem_cons_self
  have e0 : fillL x (v :: B) = fillL (layS (layUp x v.slot) (cmdOf v)) B := by simp [fillL]
  have h1 : OpnOk (layUp x v.slot) := ho.layN hn _
  have n1 : (layUp x v.slot).nxt = v.slot := by unfold layUp; rw [layN_nxt]; omega
  have r1 := layN_rest x (v.slot - x.nxt).toNat
  have o1 := layN_opn ho hn (v.slot - x.nxt).toNat
  have hk : (layUp x v.slot).nxt ∉ keysA (layUp x v.slot).opn := fun hm => by have := h1.rng _ hm; omega
  have o2 : (layS (layUp x v.slot) (cmdOf v)).opn = (layUp x v.slot).opn ++ [(v.slot, cmdOf v, 0)] := by
   show putA (layUp x v.slot).opn (layUp x v.slot).nxt (cmdOf v, 0) = _
   rw [putA_new hk, n1]
  have n2 : (layS (layUp x v.slot) (cmdOf v)).nxt = v.slot + 1 := by show (layUp x v.slot).nxt + 1 = _; rw [n1]
  have ih := fill_R B (layS (layUp x v.slot) (cmdOf v)) (h1.lay (by omega) _) (by omega) hS2 (fun w hw => by have := hS1 w hw; omega)
  have r2 : (layUp x v.slot).me = x.me ∧ (layUp x v.slot).masters = x.masters ∧ (layUp x v.slot).st = x.st ∧ (layUp x v.slot).b = x.b ∧ (layUp x v.slot).frm = x.frm ∧ (layUp x v.slot).came = x.came := by
   unfold layUp; rw [r1]; exact ⟨rfl, rfl, rfl, rfl, rfl, rfl⟩
  rw [e0]
  generalize fillL (layS (layUp x v.slot) (cmdOf v)) B = y at ih
  have hge := ih.ge
  refine ⟨ih.me.trans r2.1, ih.ms.trans r2.2.1, ih.st.trans r2.2.2.1, ih.b.trans r2.2.2.2.1, ih.frm.trans r2.2.2.2.2.1, ih.came.trans r2.2.2.2.2.2, by omega, fun w hw => ?_, fun e he => ?_, fun h h' => ih.top (by have := h' v List.mem_cons_self; omega) fun w hw => h' w (List.mem_cons_of_mem _ hw)⟩
  ·rcases List.mem_cons.1 hw with rfl | hw
   ·omega
   ·exact ih.lt w hw
  ·rcases ih.new e he with q | ⟨q1, q2, q3, q4⟩
   ·rw [o2] at q
    rcases List.mem_append.1 q with q | q
    ·have o1 : (layUp x v.slot).opn = _ := o1
     rw [o1] at q
     rcases List.mem_append.1 q with q | q
     ·exact .inl q
     ·obtain ⟨k, hk, rfl⟩ := List.mem_map.1 q
      have hk := List.mem_range.1 hk
      right
      refine ⟨by show x.nxt ≤ x.nxt + k; omega, by show x.nxt + (k : Int) < y.nxt; omega, rfl, .inr ⟨rfl, fun w hw => ?_⟩⟩
      show w.slot ≠ x.nxt + (k : Int)
      rcases List.mem_cons.1 hw with rfl | hw
      ·omega
      ·have := hS1 w hw; omega
    ·simp at q; subst q
     right
     exact ⟨hv, by show v.slot < y.nxt; omega, rfl, .inl ⟨v, List.mem_cons_self, rfl, rfl⟩⟩
   ·right
    refine ⟨by omega, q2, q3, ?_⟩
    rcases q4 with ⟨w, hw, a, b⟩ | ⟨a, b⟩
    ·exact .inl ⟨w, List.mem_cons_of_mem _ hw, a, b⟩
    ·refine .inr ⟨a, fun w hw => ?_⟩
     rcases List.mem_cons.1 hw with rfl | hw
     ·omega
     ·exact b w hw
theorem withN_bit {i : Nat} : ∀ (L : List Int) (s : Nat), (withN s L).testBit i = true → s.testBit i = true ∨ ∃ w ∈ L, w.toNat = i
 | [], s, h => .inl h
 | x :: L, s, h => by
  rcases withN_bit L (s ||| 2 ^ x.toNat) h with q | ⟨w, hw, q⟩
  ·rw [Nat.testBit_or, Nat.testBit_two_pow, Bool.or_eq_true, decide_eq_true_iff] at q
   rcases q with q | q
   ·exact .inl q
   ·exact .inr ⟨x, List.mem_cons_self, q⟩
  ·exact .inr ⟨w, List.mem_cons_of_mem _ hw, q⟩
theorem nextS_up {b w : Int} (hb : 0 ≤ b) (hw : m5 w) (h : (nextS b w).2 = 0) : b < (nextS b w).1 ∧ (nextS b w).1 % 8 = w := by
 unfold m5 at hw
 have key : ∀ r0 r1 : Int, r0 = (if 1 > b / 8 then 1 else b / 8) → r1 = (if 8 * r0 + w ≤ b then r0 + 1 else r0) → (if r1 ≥ 1152921504606846976 then ((0 : Int), (9 : Int)) else (8 * r1 + w, 0)).2 = 0 →
  b < (if r1 ≥ 1152921504606846976 then ((0 : Int), (9 : Int)) else (8 * r1 + w, 0)).1 ∧ (if r1 ≥ 1152921504606846976 then ((0 : Int), (9 : Int)) else (8 * r1 + w, 0)).1 % 8 = w := by
  intro r0 r1 h0 h1 h
  by_cases hr : r1 ≥ 1152921504606846976
  ·rw [if_pos hr] at h; exact absurd (show (9 : Int) = 0 from h) (by decide)
  ·rw [if_neg hr]
   dsimp only
   split at h0 <;> split at h1 <;> omega
 exact key _ _ rfl rfl h
def toAll (n : Nat) (m : Say) : List Say := (List.range n).map fun (k : Nat) => { m with to := k + 1 }
def sayP (n i : Nat) (v : Vote) : List Say := toAll n ⟨3, i + 1, 0, v.ballot, v.slot, [], cmdOf v⟩
section
variable {n : Nat} {az : List Acp} {S : List Say} {xs : List LeadS} {ch : List Vote} {i : Nat} {x : LeadS}
theorem mem_toAll {m m' : Say} : m ∈ toAll n m' ↔ ∃ k < n, m = { m' with to := (k : Int) + 1 } := by
 unfold toAll
 simp only [List.mem_map, List.mem_range]
 exact ⟨fun ⟨k, h, e⟩ => ⟨k, h, e.symm⟩, fun ⟨k, h, e⟩ => ⟨k, h, e.symm⟩⟩
theorem TalkI.start (H : TalkI n xs az S ch) (hx : xs[i]? = some x) {b : Int} (hb : x.b < b ∧ b ≤ 18446744073709551615) (h8 : b % 8 = x.me) :
 TalkI n (xs.set i (startS x.me x.masters b 0)) az (S ++ toAll n ⟨1, i + 1, 0, b, 0, [], noCmd⟩) ch := by
 have hL := H.ld i x hx
 have hbb := hL.b
 refine H.say hx _ (fun m hm => ?_) (fun m hm hk => ?_) (fun m hm hk => ?_) ⟨hL.me, hL.ms, by show 0 ≤ b ∧ b ≤ 18446744073709551615; omega, .inr (.inl rfl), rfl, by show (0 : Int) ≤ 0 ∧ (0 : Int) ≤ 512; omega, fun _ => h8, ⟨.nil, by simp [keysA], by simp⟩, ⟨.nil, by simp [keysA]⟩, by simp, fun m hm hk hf => ?_, fun _ => ⟨rfl, rfl, by simp⟩, fun h => ?_, fun h => ?_⟩
 ·obtain ⟨k, hk, rfl⟩ := mem_toAll.1 hm
  exact ⟨.inl ⟨rfl, rfl⟩, rfl, by show (1 : Int) ≤ k + 1; omega, by show (k : Int) + 1 ≤ n; omega⟩
 ·obtain ⟨k, _, rfl⟩ := mem_toAll.1 hm
  cases hk
 ·obtain ⟨k, _, rfl⟩ := mem_toAll.1 hm
  cases hk
 ·rcases List.mem_append.1 hm with q | q
  ·obtain ⟨a, b', c⟩ := hL.prp m q hk hf
   refine ⟨a, by show m.ballot ≤ b; omega, fun e => ?_⟩
   have e : m.ballot = b := e
   omega
  ·obtain ⟨k, _, rfl⟩ := mem_toAll.1 q
   cases hk
 ·exact absurd (show (1 : Int) = 2 from h) (by decide)
 ·exact absurd (show (1 : Int) = 2 from h) (by decide)
theorem setSelf {α : Type} {l : List α} {i : Nat} {a : α} (h : l[i]? = some a) : l.set i a = l := by
 obtain ⟨hi, rfl⟩ := List.getElem?_eq_some_iff.1 h
 exact List.set_getElem_self hi
theorem TalkI.own (H : TalkI n xs az S ch) (hx : xs[i]? = some x) (h0 : x.st ≠ 0) {m : Say} (hm : m ∈ S) (hk : m.kind = 3) (hb : m.ballot = x.b) : x.st ≠ 1 ∧ m.slot < x.nxt := by
 have hL := H.ld i x hx
 obtain ⟨r1, r2, _⟩ := H.rng m hm
 have hj : (m.frm - 1).toNat < xs.length := by have := H.xl; omega
 have hy := H.ld _ _ (List.getElem?_eq_getElem hj)
 have hme : m.frm = (xs[(m.frm - 1).toNat]).me := by rw [hy.me]; omega
 have h8 := (hy.prp m hm hk hme).1
 have h8' := hL.b8 h0
 rw [hb, h8', ← hme] at h8
 exact (hL.prp m hm hk h8.symm).2.2 hb
theorem TalkI.lay (H : TalkI n xs az S ch) (hx : xs[i]? = some x) (h0 : x.st ≠ 0) {y : LeadS} (vs : List Vote) (hb : ∀ v ∈ vs, v.ballot = x.b)
 (hu : ∀ v ∈ vs, ∀ w ∈ vs, v.slot = w.slot → cmdOf v = cmdOf w)
 (hn : ∀ v ∈ vs, x.st = 1 ∨ x.nxt ≤ v.slot)
 (hs : ∀ v ∈ vs, ∀ b' < x.b, Blk n az S b' v.slot ∨ Prop3 S b' v.slot (cmdOf v))
 (h' : LOk n az (S ++ vs.flatMap (sayP n i)) i y) : TalkI n (xs.set i y) az (S ++ vs.flatMap (sayP n i)) ch := by
 have hmem : ∀ m ∈ vs.flatMap (sayP n i), ∃ v ∈ vs, ∃ k < n, m = ⟨3, i + 1, (k : Int) + 1, v.ballot, v.slot, [], cmdOf v⟩ := fun m hm => by
  obtain ⟨v, hv, hm⟩ := List.mem_flatMap.1 hm
  obtain ⟨k, hk, rfl⟩ := mem_toAll.1 hm
  exact ⟨v, hv, k, hk, rfl⟩
 refine H.say hx _ (fun m hm => ?_) (fun m hm hk b' hb' => ?_) (fun m hm hk m' hm' hk' hbb hss => ?_) h'
 ·obtain ⟨v, hv, k, hk, rfl⟩ := hmem m hm
  exact ⟨.inr rfl, rfl, by show (1 : Int) ≤ k + 1; omega, by show (k : Int) + 1 ≤ n; omega⟩
 ·obtain ⟨v, hv, k, hk, rfl⟩ := hmem m hm
  exact hs v hv b' (by rw [← hb v hv]; exact hb')
 ·obtain ⟨v, hv, k, hk, rfl⟩ := hmem m hm
  rcases List.mem_append.1 hm' with q | q
  ·have hbb : v.ballot = m'.ballot := hbb
   have hss : v.slot = m'.slot := hss
   obtain ⟨a, b⟩ := H.own hx h0 q hk' (by rw [← hbb, hb v hv])
   rcases hn v hv with h | h
   ·exact absurd h a
   ·omega
  ·obtain ⟨w, hw, k', _, rfl⟩ := hmem m' q
   exact hu v hv w hw hss
theorem mem_sayP {v : Vote} {vs : List Vote} (hv : v ∈ vs) (hn : 1 ≤ n) : Prop3 (S ++ vs.flatMap (sayP n i)) v.ballot v.slot (cmdOf v) :=
 ⟨⟨3, i + 1, ((0 : Nat) : Int) + 1, v.ballot, v.slot, [], cmdOf v⟩, List.mem_append_right _ (List.mem_flatMap.2 ⟨v, hv, mem_toAll.2 ⟨0, by omega, rfl⟩⟩), rfl, rfl, rfl, rfl⟩
theorem TalkI.propose (H : TalkI n xs az S ch) (hx : xs[i]? = some x) (c : Cmd) (he : (proposeS x c).2.2 = 0) :
 TalkI n (xs.set i (proposeS x c).1) az (S ++ sayP n i (proposeS x c).2.1) ch ∧ (proposeS x c).2.1.slot < 512 := by
 have hL := H.ld i x hx
 unfold proposeS at he ⊢
 split at he
 ·cases he
 split at he
 ·rename_i h1 h2; exact absurd he h2
 split at he
 ·cases he
 split at he
 ·cases he
 rename_i h1 h2 h3 h4
 rw [if_neg h1, if_neg h2, if_neg h3, if_neg h4]
 have h1 : x.st = 2 := Classical.not_not.1 h1
 have hvo : voteS (layS x c) x.nxt = .of x.nxt x.b c := by simp [voteS, layS, lookA_put]
 dsimp only
 rw [hvo]
 have hE := ext_say (az := az) (S := S) ([Vote.of x.nxt x.b c].flatMap (sayP n i)) fun m hm => by
  obtain ⟨v, hv, hm⟩ := List.mem_flatMap.1 hm
  obtain ⟨k, hk, rfl⟩ := mem_toAll.1 hm
  exact fun e => by cases e
 have hnk : x.nxt ∉ keysA x.opn := fun hm => by have := hL.op.rng _ hm; omega
 have hn0 := hL.nxt
 refine ⟨?_, by show x.nxt < 512; omega⟩
 have := H.lay hx (by omega) (y := layS x c) [.of x.nxt x.b c] (by simp [Vote.of]) (by simp) (fun v hv => by simp at hv; subst hv; exact .inr (Int.le_refl _))
  (fun v hv b' hb' => by simp at hv; subst hv; exact .inl (hL.s2 h1 x.nxt (Int.le_refl _) b' hb'))
  ⟨hL.me, hL.ms, hL.b, hL.st, hL.frm, by show 0 ≤ x.nxt + 1 ∧ x.nxt + 1 ≤ 512; omega, hL.b8, ⟨hL.cm.nd, hL.cm.k5, hL.cm.l40⟩, hL.op.lay hL.nxt.1 c, fun e he => ?_, fun m hm hk hf => ?_, fun h => ?_, fun h s h1' b' hb' => ?_, fun h e he => ?_⟩
 ·simpa using this
 ·have he : e ∈ putA x.opn x.nxt (c, 0) := he
  rw [putA_new hnk] at he
  rcases List.mem_append.1 he with q | q
  ·exact hL.ev e q
  ·simp at q; subst q; exact (by decide : ev64 0)
 ·rcases List.mem_append.1 hm with q | q
  ·obtain ⟨a, b, d⟩ := hL.prp m q hk hf
   exact ⟨a, b, fun e => ⟨(d e).1, by have := (d e).2; show m.slot < x.nxt + 1; omega⟩⟩
  ·obtain ⟨v, hv, hm⟩ := List.mem_flatMap.1 q
   obtain ⟨k, hk, rfl⟩ := mem_toAll.1 hm
   simp at hv; subst hv
   exact ⟨hL.b8 (by omega), Int.le_refl _, fun _ => ⟨by show x.st ≠ 1; omega, by show x.nxt < x.nxt + 1; omega⟩⟩
 ·have h : x.st = 1 := h
  omega
 ·have h1' : x.nxt + 1 ≤ s := h1'
  exact (hL.s2 h1 s (by omega) b' hb').ext hE
 ·have he : e ∈ putA x.opn x.nxt (c, 0) := he
  rw [putA_new hnk] at he
  rcases List.mem_append.1 he with q | q
  ·obtain ⟨a, b⟩ := hL.o2 h1 e q
   exact ⟨a.ext hE, fun i h1 h2 h3 => (b i h1 h2 h3).ext hE⟩
  ·simp at q; subst q
   exact ⟨mem_sayP (v := .of x.nxt x.b c) (by simp) H.n5.1, fun i _ _ h => by simp at h⟩
theorem TalkI.accepted (H : TalkI n xs az S ch) (hx : xs[i]? = some x) {m : Say} (hm : m ∈ S) (hk : m.kind = 4) :
 TalkI n (xs.set i (acceptedS x m.ballot m.slot m.frm).1) az S (bif (acceptedS x m.ballot m.slot m.frm).2.2 then ch ++ [(acceptedS x m.ballot m.slot m.frm).2.1] else ch) := by
 have hL := H.ld i x hx
 have hn5 := H.n5
 unfold acceptedS
 by_cases hg : (x.st = 2 ∧ x.b = m.ballot) ∧ 1 ≤ m.frm ∧ m.frm ≤ x.masters
 ·rw [if_pos hg]
  obtain ⟨⟨h1, h2⟩, h3, h4⟩ := hg
  have hms := hL.ms
  have hw : m5 m.frm := by unfold m5; omega
  cases hq : lookA x.opn m.slot with
  | none => simp only [cond_false]; rw [setSelf hx]; exact H
  | some p =>
   have hmem := (lookA_some hL.op.nd).1 hq
   have hpe := hL.ev _ hmem
   have hwe : ev64 (withN p.2 [m.frm]) := withN_ev hpe (by simpa using hw)
   obtain ⟨o1, o2⟩ := hL.o2 h1 _ hmem
   have hbits : ∀ k : Nat, 1 ≤ k → k ≤ n → (withN p.2 [m.frm]).testBit k = true → Vtd S k x.b m.slot := fun k k1 k2 hk' => by
    rcases withN_bit _ _ hk' with q | ⟨w, hw', q⟩
    ·exact o2 k k1 k2 q
    ·simp at hw'; subst hw'
     exact ⟨m, hm, hk, by omega, h2.symm, rfl⟩
   have hkeys : m.slot ∈ keysA x.opn := List.mem_map.2 ⟨_, hmem, rfl⟩
   have hput : LOk n az S i { x with opn := putA x.opn m.slot (p.1, withN p.2 [m.frm]) } := by
    refine ⟨hL.me, hL.ms, hL.b, hL.st, hL.frm, hL.nxt, hL.b8, ⟨hL.cm.nd, hL.cm.k5, hL.cm.l40⟩, ⟨putA_nodup hL.op.nd, fun k hk => ?_⟩, fun e he => ?_, hL.prp, fun h => ?_, hL.s2, fun h e he => ?_⟩
    ·have hk : k ∈ keysA (putA x.opn m.slot (p.1, withN p.2 [m.frm])) := hk
     rw [putA_keys, if_pos hkeys] at hk
     exact hL.op.rng k hk
    ·rcases (putA_mem hL.op.nd).1 he with rfl | ⟨_, q⟩
     ·exact hwe
     ·exact hL.ev e q
    ·have h : x.st = 1 := h
     omega
    ·rcases (putA_mem hL.op.nd).1 he with rfl | ⟨_, q⟩
     ·exact ⟨o1, hbits⟩
     ·exact hL.o2 h1 e q
   dsimp only
   by_cases hen : enoughN (withN p.2 [m.frm]) x.masters = true
   ·rw [if_pos hen]
    simp only [cond_true]
    have hdel : LOk n az S i { x with opn := delA (putA x.opn m.slot (p.1, withN p.2 [m.frm])) m.slot } := by
     have hsub : ∀ e ∈ delA (putA x.opn m.slot (p.1, withN p.2 [m.frm])) m.slot, e ∈ putA x.opn m.slot (p.1, withN p.2 [m.frm]) := fun e he => delA_sub.subset he
     refine ⟨hL.me, hL.ms, hL.b, hL.st, hL.frm, hL.nxt, hL.b8, ⟨hL.cm.nd, hL.cm.k5, hL.cm.l40⟩, ⟨delA_nodup hput.op.nd, fun k hk => ?_⟩, fun e he => hput.ev e (hsub e he), hL.prp, fun h => ?_, hL.s2, fun h e he => hput.o2 h1 e (hsub e he)⟩
     ·obtain ⟨e, he, rfl⟩ := List.mem_map.1 hk
      exact hput.op.rng _ (List.mem_map.2 ⟨e, hsub e he, rfl⟩)
     ·have h : x.st = 1 := h
      omega
    have H2 := H.turn hx hdel
    refine { H2 with ch := fun v hv => ?_ }
    rcases List.mem_append.1 hv with q | q
    ·exact H.ch v q
    ·simp at q; subst q
     refine ⟨o1, withN p.2 [m.frm], hwe.1, by rw [← hms]; exact hen, fun k k1 k2 hk' => hbits k k1 k2 hk'⟩
   ·rw [if_neg hen]
    simp only [cond_false]
    exact H.turn hx hput
 ·rw [if_neg hg]
  simp only [cond_false]
  rw [setSelf hx]; exact H
theorem TalkI.refuse (H : TalkI n xs az S ch) (hx : xs[i]? = some x) (b : Int) : TalkI n (xs.set i (refuseS x b).1) az S ch := by
 have hL := H.ld i x hx
 unfold refuseS
 split
 ·rw [setSelf hx]; exact H
 ·refine H.turn hx ⟨hL.me, hL.ms, hL.b, .inl rfl, hL.frm, hL.nxt, fun h => absurd rfl h, ⟨.nil, by simp [keysA], by simp⟩, ⟨.nil, by simp [keysA]⟩, by simp, fun m hm hk hf => ?_, fun h => ?_, fun h => ?_, fun h => ?_⟩
  ·obtain ⟨a, b, c⟩ := hL.prp m hm hk hf
   exact ⟨a, b, fun e => ⟨by show (0 : Int) ≠ 1; omega, (c e).2⟩⟩
  ·exact absurd (show (0 : Int) = 1 from h) (by decide)
  ·exact absurd (show (0 : Int) = 2 from h) (by decide)
  ·exact absurd (show (0 : Int) = 2 from h) (by decide)
theorem TalkI.promise (H : TalkI n xs az S ch) (hx : xs[i]? = some x) {m : Say} (hm : m ∈ S) (hk : m.kind = 2) :
 TalkI n (xs.set i (promS x m.ballot m.frm m.votes).1) az (S ++ (promS x m.ballot m.frm m.votes).2.1.flatMap (sayP n i)) ch := by
 have hL := H.ld i x hx
 have hn5 := H.n5
 have hms := hL.ms
 unfold promS
 by_cases hg : (x.st = 1 ∧ x.b = m.ballot) ∧ 1 ≤ m.frm ∧ m.frm ≤ x.masters
 ·rw [if_pos hg]
  obtain ⟨⟨h1, h2⟩, h3, h4⟩ := hg
  obtain ⟨hpr, hvl⟩ := H.pr m hm hk
  obtain ⟨hn0, ho0, hcm⟩ := hL.s1 h1
  have hw : m5 m.frm := by unfold m5; omega
  have hin : ∀ {s : Int}, 0 ≤ s → s < 512 → inI s := fun {s} a b => by
   unfold inI
   have h1 : IntKind.i64.min = -9223372036854775808 := rfl
   have h2 : IntKind.i64.max = 9223372036854775807 := rfl
   omega
  have hdel : delV x.frm m.votes = m.votes := by
   unfold delV
   rw [List.filter_eq_self]
   intro v hv
   rw [good_iff, hL.frm]
   exact (hpr.2.2 v hv).2.2
  obtain ⟨hpc, hpne⟩ := promC_ok hL.cm hw (vs := m.votes) (by omega) (fun v hv => by have := (hpr.2.2 v hv).2.2; exact hin this.1 this.2)
  have hcm2 : ∀ e ∈ (promC x m.frm m.votes).came, PromOk az S e.1 x.b e.2 := fun e he => by
   have he : e ∈ (if m.frm ∈ keysA x.came then x.came else x.came ++ [(m.frm, delV x.frm m.votes)]) := he
   split at he
   ·exact hcm e he
   ·rcases List.mem_append.1 he with q | q
    ·exact hcm e q
    ·simp at q; subst q
     show PromOk az S m.frm x.b (delV x.frm m.votes)
     rw [hdel, h2]; exact hpr
  have hL1 : LOk n az S i (promC x m.frm m.votes) := ⟨hL.me, hL.ms, hL.b, hL.st, hL.frm, hL.nxt, hL.b8, hpc, ⟨hL.op.nd, hL.op.rng⟩, hL.ev, hL.prp, fun h => ⟨hn0, ho0, hcm2⟩, hL.s2, hL.o2⟩
  by_cases hen : enoughN (withN 0 (keysA (promC x m.frm m.votes).came)) x.masters = true
  ·rw [if_pos hen]
   dsimp only
   generalize hx2 : ({ promC x m.frm m.votes with st := 2 } : LeadS) = x2
   have e2 : x2.me = x.me ∧ x2.masters = x.masters ∧ x2.b = x.b ∧ x2.frm = x.frm ∧ x2.nxt = x.nxt ∧ x2.opn = x.opn ∧ x2.st = 2 ∧ x2.came = (promC x m.frm m.votes).came := by
    subst hx2; exact ⟨rfl, rfl, rfl, rfl, rfl, rfl, rfl, rfl⟩
   obtain ⟨z1, z2, z3, z4, z5, z6, z7, z8⟩ := e2
   have hc2 : CameOk x2 := by subst hx2; exact ⟨hpc.nd, hpc.k5, hpc.l40⟩
   have hcm2 : ∀ e ∈ x2.came, PromOk az S e.1 x.b e.2 := fun e he => hcm2 e (by rw [← z8]; exact he)
   rw [← z8] at hen
   generalize hBe : bestV (allL x2) = B
   -- the votes that came
   have hall : ∀ l, l ∈ allL x2 ↔ ∃ e ∈ x2.came, l = e.2 := fun l => by
    unfold allL
    rw [List.mem_map]
    constructor
    ·rintro ⟨w, hw, rfl⟩
     obtain ⟨e, he, rfl⟩ := List.mem_map.1 (mem_sortZ.1 hw)
     exact ⟨e, he, by rw [(lookA_some hc2.nd).2 (show (e.1, e.2) ∈ x2.came from he)]; rfl⟩
    ·rintro ⟨e, he, rfl⟩
     exact ⟨e.1, mem_sortZ.2 (List.mem_map.2 ⟨e, he, rfl⟩), by rw [(lookA_some hc2.nd).2 (show (e.1, e.2) ∈ x2.came from he)]; rfl⟩
   have hvin : ∀ l ∈ allL x2, ∀ v ∈ l, inI v.slot := fun l hl v hv => by
    obtain ⟨e, he, rfl⟩ := (hall l).1 hl
    have := ((hcm2 e he).2.2 v hv).2.2
    exact hin this.1 this.2
   have hSS : SS B := by rw [← hBe]; exact bestV_SS hvin
   have hmB : ∀ v, v ∈ B ↔ lookE (bestE (allL x2).flatten) v.slot = some v := fun v => by rw [← hBe]; exact mem_bestV hvin
   have hfl : ∀ u, u ∈ (allL x2).flatten ↔ ∃ e ∈ x2.came, u ∈ e.2 := fun u => by
    rw [List.mem_flatten]
    constructor
    ·rintro ⟨l, hl, hu⟩
     obtain ⟨e, he, rfl⟩ := (hall l).1 hl
     exact ⟨e, he, hu⟩
    ·rintro ⟨e, he, hu⟩
     exact ⟨e.2, (hall _).2 ⟨e, he, rfl⟩, hu⟩
   have hB1 : ∀ v ∈ B, (∃ e ∈ x2.came, v ∈ e.2) ∧ ∀ e ∈ x2.came, ∀ u ∈ e.2, u.slot = v.slot → u.ballot ≤ v.ballot := fun v hv => by
    have := lookE_best v.slot (allL x2).flatten
    rw [(hmB v).1 hv] at this
    exact ⟨(hfl v).1 this.1, fun e he u hu hs => this.2.2 u ((hfl u).2 ⟨e, he, hu⟩) hs⟩
   have hB0 : ∀ s, (∀ v ∈ B, v.slot ≠ s) → ∀ e ∈ x2.came, ∀ u ∈ e.2, u.slot ≠ s := fun s hs e he u hu => by
    have := lookE_best s (allL x2).flatten
    cases hq : lookE (bestE (allL x2).flatten) s with
    | none => rw [hq] at this; exact this u ((hfl u).2 ⟨e, he, hu⟩)
    | some v =>
     rw [hq] at this
     obtain ⟨a, b, c⟩ := this
     exact absurd b (hs v ((hmB v).2 (by rw [b]; exact hq)))
   have hBr : ∀ v ∈ B, 0 ≤ v.slot ∧ v.slot < 512 := fun v hv => by
    obtain ⟨⟨e, he, hu⟩, _⟩ := hB1 v hv
    exact ((hcm2 e he).2.2 v hu).2.2
   -- whoever promised votes for nothing below any more
   have hblk : ∀ s b', b' < x.b → (∀ e ∈ x2.came, ∀ u ∈ e.2, u.slot = s → u.ballot < b') → Blk n az S b' s := fun s b' hb' hu => by
    have hevW : ev64 (withN 0 (keysA x2.came)) := withN_ev (by decide) hc2.k5
    refine ⟨withN 0 (keysA x2.came), hevW.1, by rw [← hms]; exact hen, fun k k1 k2 hk' => ?_⟩
    rcases withN_bit _ _ hk' with q | ⟨w, hw', q⟩
    ·simp at q
    ·obtain ⟨e, he, rfl⟩ := List.mem_map.1 hw'
     have hke : (k : Int) = e.1 := by omega
     rw [hke]
     obtain ⟨p1, p2, _⟩ := hcm2 e he
     refine ⟨by omega, fun hv => ?_⟩
     obtain ⟨v, hv1, hv2, hv3⟩ := p2 b' s hb' hv
     have := hu e he v hv1 hv2
     omega
   have ho2 : OpnOk x2 := by subst hx2; exact ⟨hL.op.nd, hL.op.rng⟩
   have hF := fill_R B x2 ho2 (by omega) hSS (fun v hv => by have := hBr v hv; omega)
   have hO := (ho2.fill (by omega) B).1
   generalize hy : fillL x2 B = y at hF hO
   have hyn : ∀ e ∈ y.opn, e.1 < y.nxt ∧ e.2.2 = 0 ∧ ((∃ v ∈ B, v.slot = e.1 ∧ cmdOf v = e.2.1) ∨ (e.2.1 = noCmd ∧ ∀ v ∈ B, v.slot ≠ e.1)) := fun e he => by
    rcases hF.new e he with q | ⟨_, q2, q3, q4⟩
    ·rw [z6, ho0] at q; cases q
    ·exact ⟨q2, q3, q4⟩
   have hop : ∀ v, v ∈ openV y ↔ ∃ e ∈ y.opn, v = .of e.1 x.b e.2.1 := fun v => by
    unfold openV
    rw [List.mem_map]
    have hvs : ∀ e ∈ y.opn, voteS y e.1 = .of e.1 x.b e.2.1 := fun e he => by
     unfold voteS
     rw [(lookA_some hO.nd).2 (show (e.1, e.2) ∈ y.opn from he), hF.b, z3]; rfl
    constructor
    ·rintro ⟨w, hw, rfl⟩
     obtain ⟨e, he, rfl⟩ := List.mem_map.1 (mem_sortZ.1 hw)
     exact ⟨e, he, hvs e he⟩
    ·rintro ⟨e, he, rfl⟩
     exact ⟨e.1, mem_sortZ.2 (List.mem_map.2 ⟨e, he, rfl⟩), hvs e he⟩
   have hE := ext_say (az := az) (S := S) ((openV y).flatMap (sayP n i)) fun m hm => by
    obtain ⟨v, hv, hm⟩ := List.mem_flatMap.1 hm
    obtain ⟨k, hk, rfl⟩ := mem_toAll.1 hm
    exact fun e => by cases e
   refine H.lay hx (by omega) (openV y) (fun v hv => ?_) (fun v hv w hw hs => ?_) (fun v hv => .inl h1) (fun v hv b' hb' => ?_)
    ⟨hF.me.trans (z1.trans hL.me), hF.ms.trans (z2.trans hL.ms), by rw [hF.b, z3]; exact hL.b, .inr (.inr (hF.st.trans z7)), hF.frm.trans (z4.trans hL.frm), ⟨by have := hF.ge; omega, hF.top (by omega) fun v hv => (hBr v hv).2⟩, fun _ => by rw [hF.b, z3, hF.me, z1]; exact hL.b8 (by omega),
     ?_, hO, fun e he => by rw [(hyn e he).2.1]; decide, fun m' hm' hk' hf => ?_, fun h => ?_, fun h s hs b' hb' => ?_, fun h e he => ?_⟩
   ·obtain ⟨e, he, rfl⟩ := (hop v).1 hv; rfl
   ·obtain ⟨e, he, rfl⟩ := (hop v).1 hv
    obtain ⟨e', he', rfl⟩ := (hop w).1 hw
    have hs : e.1 = e'.1 := hs
    have q1 := (lookA_some hO.nd).2 (show (e.1, e.2) ∈ y.opn from he)
    have q2 := (lookA_some hO.nd).2 (show (e'.1, e'.2) ∈ y.opn from he')
    rw [hs, q2] at q1
    have : e'.2 = e.2 := by simpa using q1
    show cmdOf (.of e.1 x.b e.2.1) = cmdOf (.of e'.1 x.b e'.2.1)
    rw [cmdOf_of, cmdOf_of, this]
   ·obtain ⟨e, he, rfl⟩ := (hop v).1 hv
    rw [cmdOf_of]
    show Blk n az S b' e.1 ∨ Prop3 S b' e.1 e.2.1
    rcases (hyn e he).2.2 with ⟨u, hu, hu1, hu2⟩ | ⟨_, hu⟩
    ·obtain ⟨⟨e', he', hue⟩, hmax⟩ := hB1 u hu
     obtain ⟨_, hp3, _⟩ := (hcm2 e' he').2.2 u hue
     rw [hu1, hu2] at hp3
     rcases Int.lt_trichotomy b' u.ballot with h | h | h
     ·exact H.sf _ _ _ hp3 b' h
     ·rw [h]; exact .inr hp3
     ·exact .inl (hblk e.1 b' hb' fun e'' he'' w hw hws => by have := hmax e'' he'' w hw (by rw [hws, hu1]); omega)
    ·exact .inl (hblk e.1 b' hb' fun e'' he'' w hw hws => absurd hws (hB0 e.1 hu e'' he'' w hw))
   ·exact ⟨by rw [hF.came]; exact hc2.nd, by rw [hF.came]; exact hc2.k5, by rw [hF.came]; exact hc2.l40⟩
   ·have hf : m'.frm = y.me := hf
    rcases List.mem_append.1 hm' with q | q
    ·obtain ⟨a, b, c⟩ := hL.prp m' q hk' (by rw [hf, hF.me, z1])
     refine ⟨by rw [hF.me, z1]; exact a, by rw [hF.b, z3]; exact b, fun e => ?_⟩
     rw [hF.b, z3] at e
     exact absurd h1 (c e).1
    ·obtain ⟨v, hv, q⟩ := List.mem_flatMap.1 q
     obtain ⟨k, hk, rfl⟩ := mem_toAll.1 q
     obtain ⟨e, he, rfl⟩ := (hop v).1 hv
     refine ⟨by rw [hF.me, z1]; exact hL.b8 (by omega), by rw [hF.b, z3]; exact Int.le_refl _, fun _ => ⟨by rw [hF.st, z7]; decide, ?_⟩⟩
     exact (hyn e he).1
   ·rw [hF.st, z7] at h; exact absurd h (by decide)
   ·rw [hF.b, z3] at hb'
    refine (hblk s b' hb' fun e he u hu hus => ?_).ext hE
    exact absurd hus (hB0 s (fun v hv e => by have := hF.lt v hv; omega) e he u hu)
   ·refine ⟨?_, fun k _ _ hk' => ?_⟩
    ·have := mem_sayP (S := S) (i := i) (n := n) (v := .of e.1 x.b e.2.1) (vs := openV y) ((hop _).2 ⟨e, he, rfl⟩) hn5.1
     rw [hF.b, z3]; exact this
    ·rw [(hyn e he).2.1] at hk'; simp at hk'
  ·rw [if_neg hen]
   simpa using H.turn hx hL1
 ·rw [if_neg hg]
  simp only [List.flatMap_nil, List.append_nil]
  rw [setSelf hx]; exact H
end
end Go.M
namespace Go.M
open Go Go.Proofs
set_option maxRecDepth 100000
set_option maxHeartbeats 4000000
@[reducible] def leadC (p : LeadS × Bool) : List TV := match p.2 with
 | true => [.s (.int .i64 p.1.me), .s (.int .i64 p.1.masters), .s (.int .i64 p.1.st), .s (.int .u64 p.1.b), .s (.int .i64 p.1.frm), .s (.int .i64 p.1.nxt), .own (cameO p.1), .own (openO p.1)]
 | false => [.s (.int .i64 p.1.me), .s (.int .i64 p.1.masters), .s (.int .i64 0), .s (.int .u64 0), .s (.int .i64 0), .s (.int .i64 0), .s (.map none), .s (.map none)]
@[reducible] def leadT (p : LeadS × Bool) : TO := .cells (leadC p)
@[reducible] def accT (q : Acp) : TO := .cells [.s (.int .u64 q.1), .own (mapO q.2)]
def PX (p : LeadS × Bool) : Prop := p.2 = false → ∃ me ms, p.1 = L0S me ms
theorem promiseT_ok (p : LeadS × Bool) (hp : PX p) (b who : Int) (vs : List Vote) (hc : CameOk p.1) (ho : OpnOk p.1) (hm : m5 p.1.masters) (hl : vs.length ≤ 600) (hv : ∀ v ∈ vs, inI v.slot) (hn : 0 ≤ p.1.nxt ∧ p.1.nxt ≤ 512) :
 VC E0 12 1 [.ptr 0 0, .s (.int .u64 b), .s (.int .i64 who), encVs vs] [(0, leadT p)] (RR (.tup [encVs (promS p.1 b who vs).2.1, .s (.bool (promS p.1 b who vs).2.2)]) 1 [(0, leadT ((promS p.1 b who vs).1, p.2))]) := by
 obtain ⟨x, f⟩ := p
 cases f with
 | false =>
  obtain ⟨me, ms, rfl⟩ := hp rfl
  have e : promS (L0S me ms) b who vs = (L0S me ms, [], false) := by unfold promS; rw [if_neg fun h => absurd (show (0 : Int) = 1 from h.1.1) (by decide)]
  dsimp only
  rw [e]
  exact promise0_ok me ms b who vs
 | true =>
  refine VC.told (R := RR (.tup [encVs (promS x b who vs).2.1, .s (.bool (promS x b who vs).2.2)]) 6 (stL (promS x b who vs).1)) (VC.openW (m0 := 0) rfl ?_) ?_
  ·show wcall false (VC E0) _ _ [(1, cameO x), (2, openO x), (0, leadO x 1 2)] 3 _
   refine ⟨[], [some 0, some 1, some 2], _, _, _, _, promise_ok x b who vs hc ho hm hl hv hn, t3, ?_⟩
   rintro r o' c' ⟨rfl, rfl, rfl⟩
   exact ⟨rfl, rfl, rfl⟩
  ·rintro r o' c' ⟨rfl, rfl, rfl⟩
   exact ⟨[], [some 0], _, _, _, t3, rfl, rfl, rfl⟩
theorem proposeT_ok (p : LeadS × Bool) (hp : PX p) (c : Cmd) (ho : OpnOk p.1) (hn : 0 ≤ p.1.nxt ∧ p.1.nxt ≤ 512) :
 VC E0 10 1 [.ptr 0 0, cT4 c] [(0, leadT p)] (RR (.tup [.agg (encV (proposeS p.1 c).2.1), .s (.int .i64 (proposeS p.1 c).2.2)]) 1 [(0, leadT ((proposeS p.1 c).1, p.2))]) := by
 obtain ⟨x, f⟩ := p
 cases f with
 | false =>
  obtain ⟨me, ms, rfl⟩ := hp rfl
  have e : proposeS (L0S me ms) c = (L0S me ms, noVote, 12) := by unfold proposeS; rw [if_pos (show (0 : Int) ≠ 2 by decide)]
  dsimp only
  rw [e]
  exact propose0_ok me ms c
 | true =>
  have hcc := propose_ok x c ho ⟨hn.1, by have := hn.2; dsimp only at this; omega⟩
  refine VC.told (R := RR (.tup [.agg (encV (proposeS x c).2.1), .s (.int .i64 (proposeS x c).2.2)]) 6 (stL (proposeS x c).1)) (VC.openW (m0 := 0) rfl ?_) ?_
  ·show wcall false (VC E0) _ _ [(1, cameO x), (2, openO x), (0, leadO x 1 2)] 3 _
   refine ⟨[], [some 0, some 1, some 2], _, _, _, _, hcc, t3, ?_⟩
   rintro r o' c' ⟨rfl, rfl, rfl⟩
   exact ⟨rfl, rfl, rfl⟩
  ·rintro r o' c' ⟨rfl, rfl, rfl⟩
   exact ⟨[], [some 0], _, _, _, t3, rfl, rfl, rfl⟩
theorem acceptedT_ok (p : LeadS × Bool) (hp : PX p) (b slot who : Int) (hm : m5 p.1.masters) (hev : ∀ e ∈ p.1.opn, ev64 e.2.2) (hnd : (keysA p.1.opn).Nodup) :
 VC E0 16 1 [.ptr 0 0, .s (.int .u64 b), .s (.int .i64 slot), .s (.int .i64 who)] [(0, leadT p)] (RR (.tup [.agg (encV (acceptedS p.1 b slot who).2.1), .s (.bool (acceptedS p.1 b slot who).2.2)]) 1 [(0, leadT ((acceptedS p.1 b slot who).1, p.2))]) := by
 obtain ⟨x, f⟩ := p
 cases f with
 | false =>
  obtain ⟨me, ms, rfl⟩ := hp rfl
  have e : acceptedS (L0S me ms) b slot who = (L0S me ms, noVote, false) := by unfold acceptedS; rw [if_neg fun h => absurd (show (0 : Int) = 2 from h.1.1) (by decide)]
  dsimp only
  rw [e]
  exact accepted0_ok me ms b slot who
 | true =>
  have hcc := accepted_ok x b slot who hm hev hnd
  refine VC.told (R := RR (.tup [.agg (encV (acceptedS x b slot who).2.1), .s (.bool (acceptedS x b slot who).2.2)]) 6 (stL (acceptedS x b slot who).1)) (VC.openW (m0 := 0) rfl ?_) ?_
  ·show wcall false (VC E0) _ _ [(1, cameO x), (2, openO x), (0, leadO x 1 2)] 3 _
   refine ⟨[], [some 0, some 1, some 2], _, _, _, _, hcc, t3, ?_⟩
   rintro r o' c' ⟨rfl, rfl, rfl⟩
   exact ⟨rfl, rfl, rfl⟩
  ·rintro r o' c' ⟨rfl, rfl, rfl⟩
   exact ⟨[], [some 0], _, _, _, t3, rfl, rfl, rfl⟩
theorem refuseT_ok (p : LeadS × Bool) (hp : PX p) (b : Int) :
 VC E0 11 1 [.ptr 0 0, .s (.int .u64 b)] [(0, leadT p)] (RR (.s (.bool (refuseS p.1 b).2)) 1 [(0, leadT ((refuseS p.1 b).1, p.2))]) := by
 obtain ⟨x, f⟩ := p
 cases f with
 | false =>
  obtain ⟨me, ms, rfl⟩ := hp rfl
  have e : refuseS (L0S me ms) b = (L0S me ms, false) := by unfold refuseS; rw [if_pos (.inl rfl)]
  dsimp only
  rw [e]
  exact refuse0_ok me ms b
 | true =>
  have hcc := refuse_ok x b
  refine VC.told (R := RR (.s (.bool (refuseS x b).2)) 6 (stL (refuseS x b).1)) (VC.openW (m0 := 0) rfl ?_) ?_
  ·show wcall false (VC E0) _ _ [(1, cameO x), (2, openO x), (0, leadO x 1 2)] 3 _
   refine ⟨[], [some 0, some 1, some 2], _, _, _, _, hcc, t3, ?_⟩
   rintro r o' c' ⟨rfl, rfl, rfl⟩
   exact ⟨rfl, rfl, rfl⟩
  ·rintro r o' c' ⟨rfl, rfl, rfl⟩
   exact ⟨[], [some 0], _, _, _, t3, rfl, rfl, rfl⟩
def startP (p : LeadS × Bool) (above : Int) : LeadS × Bool := if (startQ p.1 above 0).2 = 0 then (startS p.1.me p.1.masters (startQ p.1 above 0).1 0, true) else p
theorem startT_ok (p : LeadS × Bool) (hp : PX p) (above : Int) (ha : 0 ≤ above ∧ above ≤ 18446744073709551615) (hb : 0 ≤ p.1.b ∧ p.1.b ≤ 18446744073709551615) (hm : m5 p.1.me) :
 VC E0 8 1 [.ptr 0 0, .s (.int .u64 above), .s (.int .i64 0)] [(0, leadT p)] (RR (.tup [.s (.int .u64 (startQ p.1 above 0).1), .s (.int .i64 (startQ p.1 above 0).2)]) 1 [(0, leadT (startP p above))]) := by
 obtain ⟨x, f⟩ := p
 unfold startP
 cases f with
 | false =>
  obtain ⟨me, ms, rfl⟩ := hp rfl
  refine VC.told (start0G_ok me ms above 0 ha hm) ?_
  rintro r o' c' ⟨rfl, ⟨he, rfl, rfl⟩ | ⟨he, rfl, rfl⟩⟩
  ·dsimp only
   rw [if_neg he]
   exact ⟨[], [some 0], _, _, _, t3, rfl, rfl, rfl⟩
  ·dsimp only
   rw [if_pos he]
   exact ⟨[], [some 0], _, _, _, t3, rfl, rfl, rfl⟩
 | true =>
  by_cases he : (startQ x above 0).2 = 0
  ·refine VC.told (R := fun r o c => r = .tup [.s (.int .u64 (startQ x above 0).1), .s (.int .i64 (startQ x above 0).2)] ∧ c = 8 ∧ o = [(0, leadO (startS x.me x.masters (startQ x above 0).1 0) 6 7), (6, cameO (startS x.me x.masters (startQ x above 0).1 0)), (7, openO (startS x.me x.masters (startQ x above 0).1 0))]) (VC.openW (m0 := 0) rfl ?_) ?_
   ·show wcall false (VC E0) _ _ [(1, cameO x), (2, openO x), (0, leadO x 1 2)] 3 _
    refine ⟨[], [some 0, some 1, some 2], _, _, _, _, startG_ok x above 0 ha hb hm, t3, ?_⟩
    rintro r o' c' ⟨rfl, ⟨he', rfl, rfl⟩ | ⟨he', rfl, rfl⟩⟩
    ·exact absurd he he'
    ·exact ⟨rfl, rfl, rfl⟩
   ·rintro r o' c' ⟨rfl, rfl, rfl⟩
    dsimp only
    rw [if_pos he]
    exact ⟨[], [some 0], _, _, _, t3, rfl, rfl, rfl⟩
  ·refine VC.told (R := RR (.tup [.s (.int .u64 (startQ x above 0).1), .s (.int .i64 (startQ x above 0).2)]) 6 (stL x)) (VC.openW (m0 := 0) rfl ?_) ?_
   ·show wcall false (VC E0) _ _ [(1, cameO x), (2, openO x), (0, leadO x 1 2)] 3 _
    refine ⟨[], [some 0, some 1, some 2], _, _, _, _, startG_ok x above 0 ha hb hm, t3, ?_⟩
    rintro r o' c' ⟨rfl, ⟨he', rfl, rfl⟩ | ⟨he', rfl, rfl⟩⟩
    ·exact ⟨rfl, rfl, rfl⟩
    ·exact absurd he' he
   ·rintro r o' c' ⟨rfl, rfl, rfl⟩
    dsimp only
    rw [if_neg he]
    exact ⟨[], [some 0], _, _, _, t3, rfl, rfl, rfl⟩
theorem prepareT_ok (q : Acp) (b frm : Int) (hok : ksOk (q.2.map (·.1))) (hes : q.2.length < 1000000) :
 VC E0 14 1 [.ptr 0 0, .s (.int .u64 b), .s (.int .i64 frm)] [(0, accT q)] (RR (.tup [.tk 1, .s (.int .i64 (prepS q.1 b q.2 frm).2.2)]) 2 [(0, accT ((prepS q.1 b q.2 frm).1, q.2)), (1, arV (prepS q.1 b q.2 frm).2.1)]) := by
 refine VC.told (R := fun r o c => r = .tup [.tk 4, .s (.int .i64 (prepS q.1 b q.2 frm).2.2)] ∧ c = 5 ∧ o = [(4, arV (prepS q.1 b q.2 frm).2.1), (0, accO (prepS q.1 b q.2 frm).1 1), (1, mapO q.2)]) (VC.openW (m0 := 0) rfl ?_) ?_
 ·show wcall false (VC E0) _ _ [(1, mapO q.2), (0, accO q.1 1)] 2 _
  refine ⟨[], [some 0, some 1], _, _, _, _, prep_ok q.1 b q.2 frm hok hes, t3, ?_⟩
  rintro r o' c' ⟨rfl, rfl, rfl⟩
  exact ⟨rfl, rfl, rfl⟩
 ·rintro r o' c' ⟨rfl, rfl, rfl⟩
  exact ⟨[], [some 0, some 4], _, _, _, t3, rfl, rfl, rfl⟩
theorem acceptT_ok (q : Acp) (b n : Int) (c : Cmd) :
 VC E0 15 1 [.ptr 0 0, .s (.int .u64 b), .s (.int .i64 n), cT4 c] [(0, accT q)] (RR (.s (.int .i64 (accS q.1 q.2 b n c).2.2)) 1 [(0, accT ((accS q.1 q.2 b n c).1, (accS q.1 q.2 b n c).2.1))]) := by
 refine VC.told (R := fun r o c' => r = .s (.int .i64 (accS q.1 q.2 b n c).2.2) ∧ c' = 4 ∧ o = [(0, accO (accS q.1 q.2 b n c).1 1), (1, mapO (accS q.1 q.2 b n c).2.1)]) (VC.openW (m0 := 0) rfl ?_) ?_
 ·show wcall false (VC E0) _ _ [(1, mapO q.2), (0, accO q.1 1)] 2 _
  refine ⟨[], [some 0, some 1], _, _, _, _, accept_ok q.1 q.2 b n c, t3, ?_⟩
  rintro r o' c' ⟨rfl, rfl, rfl⟩
  exact ⟨rfl, rfl, rfl⟩
 ·rintro r o' c' ⟨rfl, rfl, rfl⟩
  exact ⟨[], [some 0], _, _, _, t3, rfl, rfl, rfl⟩
end Go.M
namespace Go.M
open Go Go.Proofs
set_option maxRecDepth 100000
set_option maxHeartbeats 4000000
@[reducible] def encS (m : Say) : List TV := [.s (.int .i64 m.kind), .s (.int .i64 m.frm), .s (.int .i64 m.to), .s (.int .u64 m.ballot), .s (.int .i64 m.slot), encVs m.votes, .s (.int .i64 m.cmd.kind), .s (.int .i64 m.cmd.chain), .s (.int .u64 m.cmd.epoch), .s (.int .i64 m.cmd.node)]
@[reducible] def encX (p : LeadS × Bool) : List TV := [.own (leadT p)]
@[reducible] def encQ (q : Acp) : List TV := [.own (accT q)]
@[reducible] def talkC (xs : List (LeadS × Bool)) (qs : List Acp) (S : List Say) (ch : List Vote) : TO := .cells [.own (.arq 1 (xs.map encX) []), .own (.arq 1 (qs.map encQ) []), .own (.arr 10 true (S.map encS)), .own (.arr 6 true (ch.map encV)), .s (.bool true)]
@[reducible] def stT (xs : List (LeadS × Bool)) (qs : List Acp) (S : List Say) (ch : List Vote) : Ob := [(0, talkC xs qs S ch)]
theorem setX (xs : List (LeadS × Bool)) (j : Nat) (p : LeadS × Bool) : apOp (xs.map encX) [(j, encX p)] = (xs.set j p).map encX := by rw [List.map_set]; rfl
theorem keepX {xs : List (LeadS × Bool)} {j : Nat} {p : LeadS × Bool} (h : j < xs.length) (e : xs[j] = p) : apOp (xs.map encX) [(j, encX p)] = xs.map encX := by
 rw [setX, ← e, List.set_getElem_self]
theorem setQ (xs : List Acp) (j : Nat) (p : Acp) : apOp (xs.map encQ) [(j, encQ p)] = (xs.set j p).map encQ := by rw [List.map_set]; rfl
theorem keepQ {xs : List Acp} {j : Nat} {p : Acp} (h : j < xs.length) (e : xs[j] = p) : apOp (xs.map encQ) [(j, encQ p)] = xs.map encQ := by
 rw [setQ, ← e, List.set_getElem_self]
@[reducible] def sayTo (m : Say) (i : Int) : Say := { m with to := i }
def toN (m : Say) (k : Nat) : List Say := (List.range k).map fun (j : Nat) => sayTo m (j + 1)
theorem toN_succ (m : Say) (k : Nat) : toN m (k + 1) = toN m k ++ [sayTo m (k + 1)] := by
 unfold toN; rw [List.range_succ, List.map_append]; rfl
theorem toN_len (m : Say) (k : Nat) : (toN m k).length = k := by simp [toN]
theorem toN_all (m : Say) (k : Nat) : toN m k = toAll k m := rfl
theorem toAllC (m : Say) (xs : List (LeadS × Bool)) (qs : List Acp) (S : List Say) (ch : List Vote) (hx : xs.length ≤ 5) (hS : S.length < 100000) :
 VC E0 9 1 [.ptr 0 0, .agg (encS m)] (stT xs qs S ch) (RR (.tup []) 1 (stT xs qs (S ++ toAll xs.length m) ch)) := by
 rw [← toN_all]
 refine VC.enterR L0 (show E0.func 9 = some Try.f9 by kernel_rfl) (fun _ _ => rfl) rfl rfl [] ?_
 ((conv=>whnf)<;>repeat(with_reducible refine D1 ?_)<;>conv=>whnf)
 refine ⟨fun k f o c => ∃ i : Nat, i ≤ xs.length ∧ k = xs.length - i ∧ c = 2 ∧ f = [(0, .ptr 0 0), (3, .ptr 1 0), (4, .s (.int .i64 (i + 1)))] ∧
  o = stT xs qs (S ++ toN m i) ch ++ [(1, .cells (encS (sayTo m (if i = 0 then m.to else i))))], ⟨xs.length, ?_⟩, ?_⟩
 ·refine ⟨[], [some 0, some 1], ?_⟩
  iterate 3 constructor
  refine ⟨⟨?_, ?_, ?_⟩, ⟨0, Nat.zero_le _, rfl, rfl, rfl, rfl⟩⟩
  all_goals (repeat' first|with_reducible exact Lz.rfl|exact Lw.rfl|exact Lz.wrap (by omega)|(unfold goInt;with_reducible exact Lz.rfl)|exact flx _|constructor)
  all_goals first | exact Lz.rfl | exact Lz.of (by simp [toN])
 ·rintro k f1 o1 c1 ⟨i, hi, rfl, rfl, rfl, rfl⟩
  ((conv=>whnf)<;>repeat(with_reducible refine D1 ?_)<;>conv=>whnf)
  (first|refine ⟨?_,?_⟩|refine nsplit ?_ ?_|refine bsplit ?_ ?_)<;>intro hlt<;>have hz_:=True.intro<;>clear hz_
  ·have hlt : (i : Int) + 1 ≤ (((xs.map encX).length : Nat) : Int) := hlt
   rw [List.length_map] at hlt
   ((conv=>whnf)<;>repeat(with_reducible refine D1 ?_)<;>conv=>whnf)
   refine ⟨by simp [toN_len]; omega, ?_⟩
   ((conv=>whnf)<;>repeat(with_reducible refine D1 ?_)<;>conv=>whnf)
   refine ⟨xs.length - (i + 1), ?_, by omega⟩
   refine ⟨[], [some 0, some 1], ?_⟩
   iterate 3 constructor
   refine ⟨⟨?_, ?_, ?_⟩, ⟨i + 1, by omega, rfl, rfl, rfl, rfl⟩⟩
   all_goals (repeat' first|with_reducible exact Lz.rfl|exact Lw.rfl|exact Lz.wrap (by omega)|(unfold goInt;with_reducible exact Lz.rfl)|exact flx _|constructor)
   ·exact Lz.int (by rw [IntWalk.i64_in _ (by omega)]; omega)
   ·exact Lz.of (by rw [toN_succ, ← List.append_assoc, List.map_append (l₁ := S ++ toN m i)]; rfl)
  ·have hlt : ¬ (i : Int) + 1 ≤ (((xs.map encX).length : Nat) : Int) := hlt
   rw [List.length_map] at hlt
   have : i = xs.length := by omega
   subst this
   ((conv=>whnf)<;>repeat(with_reducible refine D1 ?_)<;>conv=>whnf)
   exact ⟨[], [some 0], _, _, _, t3, rfl, rfl, rfl⟩
theorem chooseC (v : Vote) (xs : List (LeadS × Bool)) (qs : List Acp) (S : List Say) (ch : List Vote) (hc : ch.length < 100000) (hs : ∀ w ∈ ch, w.slot = v.slot → cmdOf w = cmdOf v) :
 VC E0 17 1 [.ptr 0 0, .agg (encV v)] (stT xs qs S ch) (RR (.tup []) 1 (stT xs qs S (ch ++ [v]))) := by
 refine VC.enterR L0 (show E0.func 17 = some Try.f17 by kernel_rfl) (fun _ _ => rfl) rfl rfl [] ?_
 ((conv=>whnf)<;>repeat(with_reducible refine D1 ?_)<;>conv=>whnf)
 refine ⟨fun k f o c => ∃ i : Nat, i ≤ ch.length ∧ k = ch.length - i ∧ c = 2 ∧ f = [(0, .ptr 0 0), (3, .ptr 1 0), (4, .s (.int .i64 i))] ∧
  o = stT xs qs S ch ++ [(1, .cells (encV v))], ⟨ch.length, ?_⟩, ?_⟩
 ·exact ⟨[], [some 0, some 1], _, _, _, t3, ⟨0, Nat.zero_le _, rfl, rfl, rfl, rfl⟩⟩
 ·rintro k f1 o1 c1 ⟨i, hi, rfl, rfl, rfl, rfl⟩
  ((conv=>whnf)<;>repeat(with_reducible refine D1 ?_)<;>conv=>whnf)
  (first|refine ⟨?_,?_⟩|refine nsplit ?_ ?_|refine bsplit ?_ ?_)<;>intro hlt<;>have hz_:=True.intro<;>clear hz_
  ·have hlt := lenlt.1 hlt
   have hm := List.getElem_mem hlt
   have hg : (ch.map encV)[i]? = some (encV ch[i]) := by rw [List.getElem?_map, List.getElem?_eq_getElem hlt]; rfl
   ((conv=>whnf)<;>repeat(with_reducible refine D1 ?_)<;>conv=>whnf)
   refine ⟨⟨by omega, by rw [List.length_map]; omega⟩, ?_⟩
   ((conv=>whnf)<;>repeat(with_reducible refine D1 ?_)<;>conv=>whnf)
   refine ⟨encV ch[i], hg, ?_⟩
   ((conv=>whnf)<;>repeat(with_reducible refine D1 ?_)<;>conv=>whnf)
   (first|refine ⟨?_,?_⟩|refine nsplit ?_ ?_|refine bsplit ?_ ?_)<;>intro hsl<;>have hz_:=True.intro<;>clear hz_
   ·have hsl : ch[i].slot = v.slot := hsl
    have hce := hs _ hm hsl
    ((conv=>whnf)<;>repeat(with_reducible refine D1 ?_)<;>conv=>whnf)
    refine ⟨⟨by omega, by rw [List.length_map]; omega⟩, ?_⟩
    ((conv=>whnf)<;>repeat(with_reducible refine D1 ?_)<;>conv=>whnf)
    refine ⟨encV ch[i], hg, ?_⟩
    ((conv=>whnf)<;>repeat(with_reducible refine D1 ?_)<;>conv=>whnf)
    (first|refine ⟨?_,?_⟩|refine nsplit ?_ ?_|refine bsplit ?_ ?_)<;>intro hq<;>have hz_:=True.intro<;>clear hz_
    rotate_left
    ·((conv=>whnf)<;>repeat(with_reducible refine D1 ?_)<;>conv=>whnf)
     refine ⟨ch.length - (i + 1), ?_, by omega⟩
     exact ⟨[], [some 0, some 1], _, _, _, t3, ⟨i + 1, hlt, rfl, rfl, rfl, rfl⟩⟩
    ·exfalso
     have e := (veq_cmd (cmdOf ch[i]) (cmdOf v)).trans (sameC_iff.2 hce)
     exact absurd (e.symm.trans hq) (by decide)
   ·((conv=>whnf)<;>repeat(with_reducible refine D1 ?_)<;>conv=>whnf)
    refine ⟨ch.length - (i + 1), ?_, by omega⟩
    exact ⟨[], [some 0, some 1], _, _, _, t3, ⟨i + 1, hlt, rfl, rfl, rfl, rfl⟩⟩
  ·((conv=>whnf)<;>repeat(with_reducible refine D1 ?_)<;>conv=>whnf)
   refine ⟨by simp; omega, ?_⟩
   ((conv=>whnf)<;>repeat(with_reducible refine D1 ?_)<;>conv=>whnf)
   refine ⟨[], [some 0], ?_⟩
   iterate 3 constructor
   refine ⟨⟨?_, ?_, ?_⟩, rfl, rfl, rfl⟩
   all_goals (repeat' first|with_reducible exact Lz.rfl|exact Lw.rfl|exact Lz.wrap (by omega)|(unfold goInt;with_reducible exact Lz.rfl)|exact flx _|constructor)
   exact Lz.of (by rw [List.map_append]; rfl)
end Go.M
