/-
  From a run to a row: arguments that read behind the call as they did before, and a result that is true.
-/
import Derived.Test.YtmookciakjmjiaaMFinal
import Derived.WalkKit
import Derived.ProofKit
namespace Go.M
open Go Go.ChangeShapes Go.WideShapes Go.ChangeAt Go.RowKit

section
variable {H : Type} {enc : TypeId × Value → H} {P : Program}

theorem trodAll_stays (hl : laidOutB P = true) {W W' : World} {sp : Nat → Bool} : ∀ {ts : List TypeId} {vs : List Value} {ds : List (DataW H)} {ps : List MemPlace}, (∀ t ∈ ts, P.readableRec t = true ∧ t < P.types.size) →
    DataW.TrodAll enc P W 0 (fun _ => true) true ts vs ds ps → (∀ p ∈ ps, W.sameAt W' p) → (∀ p ∈ ps, sp p.block = true) → DataW.TrodAll enc P W' 0 sp true ts vs ds ps
  | [], [], [], ps, _, h, _, _ => h
  | t :: ts, v :: vs, d :: ds, ps, hr, h, hs, hp => by
    obtain ⟨p, q, h1, h2, rfl⟩ := h
    refine ⟨p, q, ?_, ?_, rfl⟩
    · exact WideElems.Trod_stays hl (hr t List.mem_cons_self).1 (hr t List.mem_cons_self).2 h1 (fun x hx => hs x (List.mem_append_left _ hx)) (fun x hx => hp x (List.mem_append_left _ hx))
    · exact trodAll_stays hl (fun u hu => hr u (List.mem_cons_of_mem _ hu)) h2 (fun x hx => hs x (List.mem_append_right _ hx)) (fun x hx => hp x (List.mem_append_right _ hx))
  | [], [], _ :: _, _, _, h, _, _ => by simp [DataW.TrodAll] at h
  | [], _ :: _, _, _, _, h, _, _ => by simp [DataW.TrodAll] at h
  | _ :: _, [], _, _, _, h, _, _ => by simp [DataW.TrodAll] at h
  | _ :: _, _ :: _, [], _, _, h, _, _ => by simp [DataW.TrodAll] at h

theorem trodAll_length {W : World} {base : Nat} {sp : Nat → Bool} {held : Bool} : ∀ {ts : List TypeId} {vs : List Value} {ds : List (DataW H)} {ps : List MemPlace}, DataW.TrodAll enc P W base sp held ts vs ds ps → ds.length = ts.length ∧ vs.length = ts.length
  | [], [], [], _, _ => ⟨rfl, rfl⟩
  | t :: ts, v :: vs, d :: ds, ps, h => by
    obtain ⟨p, q, _, h2, _⟩ := h
    have := trodAll_length h2
    simp [this.1, this.2]
  | [], [], _ :: _, _, h => by simp [DataW.TrodAll] at h
  | [], _ :: _, _, _, h => by simp [DataW.TrodAll] at h
  | _ :: _, [], _, _, h => by simp [DataW.TrodAll] at h
  | _ :: _, _ :: _, [], _, h => by simp [DataW.TrodAll] at h

/-- The row's answer, behind a call that turned nothing of what was there. -/
theorem post_true {f : Func} {s : ChangeSpec} {apart fresh : Bool} {W W' : World} {args : Array Value} {ds gs : List (DataW H)} {before : List MemPlace} {tb : TypeId}
    (hW : DataW.Whole enc P f.params.toList s.vars apart W args.toList ds gs before) (hvars : s.vars = []) (hres : f.resultTypes = #[tb]) (hb : P.underlying tb = some .bool)
    (hl : laidOutB P = true) (hp : ∀ t ∈ f.params.toList, P.readableRec t = true ∧ t < P.types.size) (hs : s.fn H ds = { results := [.lit (.bool true)], args := ds }) (hbel : Below W.heap.size W W') :
    s.post enc P f apart fresh false false W args (.bool true) W' := by
  have hW' := hW
  have hlt : ∀ p ∈ before, p.block < W.heap.size := fun p hp => hW.lt p hp
  have hold : ∀ p ∈ before, (fun b => decide (b < W.heap.size)) p.block = true := fun p hp => by simpa using hlt p hp
  obtain ⟨p, q, hA, hV, rfl, hz, hn⟩ := hW
  rw [hvars] at hV
  obtain ⟨rfl, rfl⟩ := trodVars_none hV
  simp only [List.append_nil] at *
  have hargs : ∀ sp : Nat → Bool, (∀ x ∈ p, sp x.block = true) → DataW.TrodAll enc P W' 0 sp true f.params.toList args.toList (s.fn H ds).args p := fun sp hsp => by
    rw [hs]; exact trodAll_stays hl hp hA (fun x hx => hbel.same (hlt x hx)) hsp
  have hvs : ∀ sp : Nat → Bool, DataW.TrodVars enc P W' sp s.vars (s.fn H ds).vars [] := fun sp => by rw [hs, hvars]; rfl
  have hr : ∀ (b : Nat) (sp : Nat → Bool) (hd : Bool), DataW.TrodAll enc P W' b sp hd f.resultTypes.toList ((Value.bool true).resultList f.resultTypes.size) (s.fn H ds).results [] := fun b sp hd => by
    rw [hs, hres]; exact trodAll_mk1 (shut_bool hb true)
  have hok := ok_one (W' := W') (v := .bool true) hres rfl (okWide_bool_mk hb true)
  refine ⟨ds, [], p, [], p, [], hW', by simpa using hr _ _ _, by simpa using hargs _ hold, by simpa using hvs _, World.keptBut_mono (fun x hx => ⟨hx, ?_⟩) (hbel.frame _), fun _ => ?_⟩
  · exact Or.inr (by simpa using hx)
  · refine ⟨hok, _, _, ([] ++ p) ++ [], ⟨[] ++ p, [], trodAll_append (by simpa using hargs _ (fun _ _ => rfl)) (by simpa using hr _ _ _), by simpa using hvs _, rfl, ?_, ?_⟩, ?_⟩
    · intro b off hb2
      have hb3 : MemPlace.cell b off ∈ p := by simpa using hb2
      have := hlt _ hb3
      rw [hbel.frozen (p := ⟨b, off, none⟩) this]
      exact hz b off (by simpa using hb3)
    · intro ha
      have := hn ha
      simpa using this
    · intro x hx _
      simpa using hx

/-- A cell of an integer kind. -/
theorem cell_int {w : World} {r : Reach} {base : Nat} {u : TypeId} {k : IntKind} {v : Value} (hu : P.underlying u = some (.int k)) (h : Cell.okWide P w r base u v) : ∃ n, v = .int k n := by
  unfold Cell.okWide at h
  rw [hu] at h
  simp only [Cell.ok, hu] at h
  cases v <;> simp at h
  exact ⟨_, by rw [h.1]⟩

def kindsB (P : Program) : List TypeId → List IntKind → Bool
  | [], [] => true
  | t :: ts, k :: ks => (match P.underlying t with | some (.int k') => decide (k' = k) | _ => false) && kindsB P ts ks
  | _, _ => false
/-- A struct type whose cells are integers of these kinds. -/
def intsB (P : Program) (t : TypeId) (ks : List IntKind) : Bool :=
  match P.underlying t, P.cellTypes P.depth t with
  | some (.struct _), some ts => Nat.beq (P.cellsOf t) ts.length && kindsB P ts ks
  | _, _ => false

theorem kindsB_get : ∀ {ts : List TypeId} {ks : List IntKind}, kindsB P ts ks = true → ts.length = ks.length ∧ ∀ (i : Nat) (u : TypeId) (k : IntKind), ts[i]? = some u → ks[i]? = some k → P.underlying u = some (.int k)
  | [], [], _ => ⟨rfl, fun i u k h => by simp at h⟩
  | t :: ts, k :: ks, h => by
    simp only [kindsB, Bool.and_eq_true] at h
    obtain ⟨h1, h2⟩ := h
    obtain ⟨k1, k2⟩ := kindsB_get h2
    refine ⟨by simp [k1], fun i u k' hu hk => ?_⟩
    cases i with
    | zero =>
      simp at hu hk; subst hu; subst hk
      split at h1
      · rename_i k' hk'
        rw [hk', of_decide_eq_true h1]
      · cases h1
    | succ i => exact k2 i u k' (by simpa using hu) (by simpa using hk)
  | [], _ :: _, h => by simp [kindsB] at h
  | _ :: _, [], h => by simp [kindsB] at h

def intsOf : List IntKind → List Int → List Value
  | k :: ks, n :: ns => .int k n :: intsOf ks ns
  | _, _ => []

theorem intsOf_of : ∀ {ks : List IntKind} {vs : List Value}, vs.length = ks.length → (∀ (i : Nat) k v, ks[i]? = some k → vs[i]? = some v → ∃ n, v = Value.int k n) → ∃ ns, ns.length = ks.length ∧ vs = intsOf ks ns
  | [], [], _, _ => ⟨[], rfl, rfl⟩
  | k :: ks, v :: vs, hl, h => by
    obtain ⟨n, rfl⟩ := h 0 k v rfl rfl
    obtain ⟨ns, h1, rfl⟩ := intsOf_of (ks := ks) (vs := vs) (by simpa using hl) fun i k' v' hk hv => h (i + 1) k' v' (by simpa using hk) (by simpa using hv)
    exact ⟨n :: ns, by simp [h1], rfl⟩
  | [], _ :: _, hl, _ => by simp at hl
  | _ :: _, [], hl, _ => by simp at hl

theorem okWide_ints {w : World} {r : Reach} {base : Nat} {t : TypeId} {ks : List IntKind} {v : Value} (hB : intsB P t ks = true) (h : Value.okWide P w r base t v) : ∃ ns, ns.length = ks.length ∧ v = .agg (intsOf ks ns).toArray := by
  unfold intsB at hB
  split at hB
  · rename_i fs ts hs hc
    simp only [Bool.and_eq_true, beq_iff] at hB
    obtain ⟨hsz, hk⟩ := hB
    obtain ⟨k1, k2⟩ := kindsB_get hk
    simp only [Value.okWide, hs] at h
    obtain ⟨cs, rfl, h2, ts', h3, h4, h5⟩ := h
    rw [hc] at h3; cases h3
    obtain ⟨ns, q1, q2⟩ := intsOf_of (ks := ks) (vs := cs.toList) (by simp; omega) fun i k v hki hv => by
      have hi : i < cs.size := by
        have := (List.getElem?_eq_some_iff.1 hv).1
        simpa using this
      obtain ⟨u, hu, hcell⟩ := h5 i v (by simpa using hv)
      rw [Nat.mod_eq_of_lt (by omega)] at hu
      exact cell_int (k2 i u k hu hki) hcell
    exact ⟨ns, q1, by rw [← q2]⟩
  · cases hB

end
end Go.M
