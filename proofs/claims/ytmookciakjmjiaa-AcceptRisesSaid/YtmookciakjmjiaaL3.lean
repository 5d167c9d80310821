/-
  Part 3 of the library that the proof leans on.
-/
import Derived.Test.YtmookciakjmjiaaL2
namespace Go.M
open Go

section
variable {X : Cx} {ρ ρ' : Gh} {F : Nat → Prop} {o o' : Ob} {c c' : Nat} {h h' : AHeap}

theorem Wf.push (W : Wf h) {ob : AObj} (hs : ∀ cs f tip thr, ob = .cells cs f tip thr → f ≤ h.size) : Wf (h.push ob) := by
  refine ⟨fun b hb => ?_, fun b cs f tip thr hg => ?_⟩
  · rw [AHeap.size_push] at hb; rw [AHeap.get_push, if_neg (by omega)]; exact W.high b (by omega)
  · rw [AHeap.get_push] at hg
    by_cases e : b = h.size
    · rw [if_pos e, Option.some.injEq] at hg; have := hs _ _ _ _ hg; omega
    · rw [if_neg e] at hg; exact W.le _ _ _ _ _ hg
theorem Mem.lt (H : Mem X ρ F o c h) {m : Nat} {y : TO} (hl : look o m = some y) : m < c := by
  rcases (H.objs m y hl).block with ⟨_, _, h1, _⟩ | ⟨_, _, _, _, _, _, _, _, _, _, h1, _⟩ | ⟨⟨_, h1⟩, _⟩ <;> exact H.names _ _ h1
theorem Mem.Flt (H : Mem X ρ F o c h) {b : Nat} (hb : F b) : b < h.size := by
  obtain ⟨cs, hcs⟩ := Option.isSome_iff_exists.1 (H.frozen b hb).1
  obtain ⟨f, t, th, hg⟩ := rd_get hcs
  exact H.wf.lt hg

def updG (ρ : Gh) (n : Nat) (l : Option Loc) : Gh := fun m => if m = n then l else ρ m
theorem updG_self (ρ : Gh) (n : Nat) (l : Option Loc) : updG ρ n l n = l := by simp [updG]
theorem updG_ne (ρ : Gh) {n m : Nat} (l : Option Loc) (h : m ≠ n) : updG ρ n l m = ρ m := by simp [updG, h]

/-- A new block, and an object that lies there. -/
theorem Mem.pushG (H : Mem X ρ F o c h) {ob : AObj} {o1 : Ob} {y : TO} (hs : ∀ cs f tip thr, ob = .cells cs f tip thr → f ≤ h.size)
    (ho : ∀ m y', m ≠ c → look o1 m = some y' → look o m = some y' ∧ ρ' m = ρ m)
    (hA : ∀ n l, n < c → ρ' n = some l → ρ n = some l) (hB : ∀ n b, ρ n = some (.blk b) → ρ' n = some (.blk b)) (hnm : ∀ n l, ρ' n = some l → n < c + 1)
    (hor : (∀ t v, VR c ρ F h t v → VR (c + 1) ρ' F (h.push ob) t v) → OR (c + 1) ρ' F (h.push ob) X.base c y) (hhd : headOf ρ' (h.push ob) c = some h.size) (hst : strong y = true) :
    Mem X ρ' F ((c, y) :: o1) (c + 1) (h.push ob) ∧ ∀ t v, VR c ρ F h t v → VR (c + 1) ρ' F (h.push ob) t v := by
  have frz : ∀ b cs, F b → h.rd b = some cs → (h.push ob).rd b = some cs := fun b cs hb hr => by rw [rd_push H.wf.le ob (H.Flt hb)]; exact hr
  have hm : ∀ t v, VR c ρ F h t v → VR (c + 1) ρ' F (h.push ob) t v := fun t v => VR.mono (by omega) hA hB (fun _ hb => hb) frz
  refine H.change (fun _ => False) c y (by rw [AHeap.size_push]; omega) (H.wf.push hs) (fun _ hf => hf.elim) (fun b hb _ => by rw [AHeap.get_push, if_neg (by omega)]) frz
    (fun b hb => by unfold hd; rw [AHeap.get_push, if_neg (by omega)]) (fun _ hb => hb) (fun _ hb hn => absurd hb hn) (by omega) hA hB hnm (fun m y' hne hl => ?_) (fun y' hl => ?_) (hor hm) (fun hs => by rw [hst] at hs; cases hs) fun x hx => ?_
  · rw [look_cons, if_neg (fun e => hne e.symm)] at hl
    obtain ⟨h1, h3⟩ := ho m y' hne hl
    exact ⟨y', h1, weak.refl _, .inl rfl, h3, fun _ _ hf => hf.elim⟩
  · rw [look_cons, if_pos rfl, Option.some.injEq] at hl; exact hl.symm
  · rw [hhd, Option.some.injEq] at hx
    subst hx
    refine ⟨H.bsz, by rw [AHeap.size_push]; omega, .inr H.evo.size, fun m y' hne hl hh => ?_, fun _ b hb e => ?_⟩
    · rw [look_cons, if_neg (fun e => hne e.symm)] at hl
      obtain ⟨h1, _⟩ := ho m y' hne hl
      have := (H.mine m y' _ h1 hh).2.1
      omega
    · have := H.wf.hd_le b
      have := H.Flt hb
      omega

theorem Mem.upd_A (H : Mem X ρ F o c h) (l : Option Loc) : ∀ n l', n < c → updG ρ c l n = some l' → ρ n = some l' := fun n l' hn h1 => by rwa [updG_ne _ _ (by omega)] at h1
theorem Mem.upd_B (H : Mem X ρ F o c h) (l : Option Loc) : ∀ n b, ρ n = some (.blk b) → updG ρ c l n = some (.blk b) := fun n b hb => by
  have := H.names _ _ hb; rwa [updG_ne _ _ (by omega)]
theorem Mem.upd_N (H : Mem X ρ F o c h) (l : Option Loc) : ∀ n l', updG ρ c l n = some l' → n < c + 1 := fun n l' h1 => by
  by_cases e : n = c
  · omega
  · rw [updG_ne _ _ e] at h1; have := H.names _ _ h1; omega

/-- Objects of which nothing more is said. -/
def leOb (o o1 : Ob) : Prop := ∀ m y', look o1 m = some y' → ∃ y, look o m = some y ∧ weak y y'
theorem leOb.refl (o : Ob) : leOb o o := fun m y hl => ⟨y, hl, weak.refl y⟩
theorem weak.trans {a b c : TO} (h : weak a b) (k : weak b c) : weak a c := by
  cases a <;> cases b <;> simp [weak] at h <;> cases c <;> simp_all [weak]
theorem leOb.trans {a b d : Ob} (h : leOb a b) (k : leOb b d) : leOb a d := fun m y hl => by
  obtain ⟨y1, h1, h2⟩ := k m y hl
  obtain ⟨y2, h3, h4⟩ := h m y1 h1
  exact ⟨y2, h3, h4.trans h2⟩
/-- Less is said of objects. -/
theorem Mem.less (H : Mem X ρ F o c h) {o1 : Ob} (ho : ∀ m y, look o1 m = some y → look o m = some y) : Mem X ρ F o1 c h := by
  refine ⟨fun m y hl => ?_, H.names, fun m1 m2 y1 y2 x h1 h2 k1 k2 => ?_, fun m y x hl hh => ?_, fun b hb => ⟨(H.frozen b hb).1, fun m y x hl hs hh => ?_⟩, fun m z es b z' len hl hr => H.shr m z es b z' len (ho _ _ hl) hr, H.F0, H.wf, H.evo, H.bsz, H.fnew, H.ent⟩
  · exact H.objs m y (ho m y hl)
  · exact H.heads m1 m2 y1 y2 x (ho _ _ h1) (ho _ _ h2) k1 k2
  · exact H.mine m y x (ho _ _ hl) hh
  · exact (H.frozen b hb).2 m y x (ho _ _ hl) hs hh

/-- A new struct, or array. -/
theorem Mem.newCells (H : Mem X ρ F o c h) {cs : List TV} {cs' : List Value} (hc : VRs c ρ F h cs cs') :
    let h' := h.push (.cells cs' h.size h.size 0)
    Mem X (updG ρ c (some (.blk h.size))) F ((c, .cells cs) :: o) (c + 1) h' ∧ ∀ t v, VR c ρ F h t v → VR (c + 1) (updG ρ c (some (.blk h.size))) F h' t v := by
  intro h'
  refine H.pushG (fun cs f tip thr e => by cases e; exact Nat.le_refl _) (fun m y' hne hl => ⟨hl, by rw [updG_ne _ _ hne]⟩) (H.upd_A _) (H.upd_B _) (H.upd_N _) (fun hm => ?_) (by simp [headOf, updG_self]) rfl
  exact .cells (updG_self _ _ _) (by rw [AHeap.get_push, if_pos rfl]) (Nat.zero_le _) (hc.mono' hm)
theorem Mem.newMap (H : Mem X ρ F o c h) (kd : Nat) :
    let h' := h.push (.map [] 0)
    Mem X (updG ρ c (some (.blk h.size))) F ((c, .map kd []) :: o) (c + 1) h' ∧ ∀ t v, VR c ρ F h t v → VR (c + 1) (updG ρ c (some (.blk h.size))) F h' t v := by
  intro h'
  refine H.pushG (fun cs f tip thr e => by cases e) (fun m y' hne hl => ⟨hl, by rw [updG_ne _ _ hne]⟩) (H.upd_A _) (H.upd_B _) (H.upd_N _) (fun hm => ?_) (by simp [headOf, updG_self]) rfl
  exact .map (updG_self _ _ _) (by rw [AHeap.get_push, if_pos rfl]) rfl (fun i e e' h1 => by simp at h1) ⟨by simp, by simp⟩

/-- An array's elements, as cells. -/
structure ER (c : Nat) (ρ : Gh) (F : Nat → Prop) (h : AHeap) (z : Nat) (es : List (List TV)) (cs : List Value) : Prop where
  len : cs.length = es.length * z
  each : ∀ e ∈ es, e.length = z
  fz : ∀ e ∈ es, ∀ t ∈ e, fz t = true
  cell : ∀ (i j : Nat) e t v, es[i]? = some e → e[j]? = some t → cs[i * z + j]? = some v → VR c ρ F h t v
theorem ER.mono {z : Nat} {es : List (List TV)} {cs : List Value} {c' : Nat} {ρ' : Gh} {F' : Nat → Prop} {h' : AHeap} (E : ER c ρ F h z es cs) (hm : ∀ t v, VR c ρ F h t v → VR c' ρ' F' h' t v) : ER c' ρ' F' h' z es cs :=
  ⟨E.len, E.each, E.fz, fun i j e t v h1 h2 h3 => hm _ _ (E.cell i j e t v h1 h2 h3)⟩
theorem ER.nil (z : Nat) : ER c ρ F h z [] [] := ⟨by simp, by simp, by simp, fun i j e t v h1 => by simp at h1⟩
theorem ER.append {z : Nat} {es es' : List (List TV)} {cs cs' : List Value} (A : ER c ρ F h z es cs) (B : ER c ρ F h z es' cs') : ER c ρ F h z (es ++ es') (cs ++ cs') := by
  refine ⟨by simp [A.len, B.len, Nat.add_mul], fun e he => ?_, fun e he => ?_, fun i j e t v h1 h2 h3 => ?_⟩
  · rcases List.mem_append.1 he with h1 | h1
    · exact A.each e h1
    · exact B.each e h1
  · rcases List.mem_append.1 he with h1 | h1
    · exact A.fz e h1
    · exact B.fz e h1
  · by_cases hi : i < es.length
    · rw [List.getElem?_append_left hi] at h1
      have hlen := A.each e (List.mem_of_getElem? h1)
      have hj : j < e.length := (List.getElem?_eq_some_iff.1 h2).1
      have : i * z + j < cs.length := by
        rw [A.len]
        have : (i + 1) * z ≤ es.length * z := Nat.mul_le_mul_right z hi
        rw [Nat.add_mul] at this; omega
      rw [List.getElem?_append_left this] at h3
      exact A.cell i j e t v h1 h2 h3
    · rw [List.getElem?_append_right (by omega)] at h1
      have hge : cs.length ≤ i * z + j := by
        rw [A.len]
        have : es.length * z ≤ i * z := Nat.mul_le_mul_right z (by omega)
        omega
      rw [List.getElem?_append_right hge] at h3
      refine B.cell (i - es.length) j e t v h1 h2 ?_
      rw [← h3, A.len]
      congr 1
      have : (i - es.length) * z = i * z - es.length * z := Nat.sub_mul _ _ _
      have : es.length * z ≤ i * z := Nat.mul_le_mul_right z (by omega)
      omega

theorem OR.arr' {base n z b f t0 th0 thr : Nat} {w : Bool} {es : List (List TV)} {cs : List Value} (hb : ρ n = some (.arr b z es.length)) (hg : h.get b = some (.cells cs f t0 th0)) (hf : h.fam b = some (f, b, thr)) (ht : thr ≤ b)
    (hbf : base ≤ f) (hz : 0 < z) (E : ER c ρ F h z es cs) : OR c ρ F h base n (.arr z w es) := .arr hb hg hf ht hbf hz E.len E.each E.fz E.cell

/-- A new array, in new memory; the one that came in (if there was one) is gone. -/
theorem Mem.newArr (H : Mem X ρ F o c h) {z : Nat} {es : List (List TV)} {cs : List Value} (E : ER c ρ F h z es cs) (hz : 0 < z) :
    let h' := h.push (.cells cs h.size h.size 0)
    Mem X (updG ρ c (some (.arr h.size z es.length))) F ((c, .arr z true es) :: o) (c + 1) h' ∧ ∀ t v, VR c ρ F h t v → VR (c + 1) (updG ρ c (some (.arr h.size z es.length))) F h' t v := by
  intro h'
  have hg : h'.get h.size = some (.cells cs h.size h.size 0) := by rw [AHeap.get_push, if_pos rfl]
  refine H.pushG (fun cs f tip thr e => by cases e; exact Nat.le_refl _) (fun m y' hne hl => ⟨hl, by rw [updG_ne _ _ hne]⟩) (H.upd_A _) (H.upd_B _) (H.upd_N _) (fun hm => ?_) ?_ rfl
  · exact OR.arr' (updG_self _ _ _) hg (fam_of hg hg) (Nat.zero_le _) H.bsz hz (E.mono hm)
  · simp only [headOf, updG_self]
    exact congrArg some (hd_get hg)

/-- An array is given up. -/
theorem Mem.gone (H : Mem X ρ F o c h) {m : Nat} {z : Nat} {w : Bool} {es : List (List TV)} (hl : look o m = some (.arr z w es)) :
    Mem X (updG ρ m none) F (drop1 o m) c h ∧ ∀ t v, VR c ρ F h t v → VR c (updG ρ m none) F h t v := by
  have hA : ∀ n l, n < c → updG ρ m none n = some l → ρ n = some l := fun n l _ h1 => by
    by_cases e : n = m
    · subst e; rw [updG_self] at h1; cases h1
    · rwa [updG_ne _ _ e] at h1
  have hB : ∀ n b, ρ n = some (.blk b) → updG ρ m none n = some (.blk b) := fun n b hb => by
    by_cases e : n = m
    · subst e
      rcases (H.objs n _ hl) with _ | _ | ⟨h1, _⟩ | ⟨h1, _⟩ <;> rw [h1] at hb <;> cases hb
    · rwa [updG_ne _ _ e]
  have hm : ∀ t v, VR c ρ F h t v → VR c (updG ρ m none) F h t v := fun t v => VR.mono (Nat.le_refl _) hA hB (fun _ hb => hb) (fun _ _ _ hr => hr)
  have H1 : Mem X ρ F (drop1 o m) c h := H.less fun n y hn => by
    rw [look_drop1] at hn
    by_cases e : n = m
    · rw [if_pos e] at hn; cases hn
    · rwa [if_neg e] at hn
  have hne : ∀ n y, look (drop1 o m) n = some y → n ≠ m := fun n y hn e => by rw [look_drop1, if_pos e] at hn; cases hn
  have hho : ∀ n y, look (drop1 o m) n = some y → headOf (updG ρ m none) h n = headOf ρ h n := fun n y hn => by
    unfold headOf; rw [updG_ne _ _ (hne n y hn)]
  refine ⟨⟨fun n y hn => ?_, fun n l hn => ?_, fun m1 m2 y1 y2 x h1 h2 k1 k2 => ?_, fun n y x hn hh => ?_, fun b hb => ⟨(H1.frozen b hb).1, fun n y x hn hs hh => ?_⟩, fun n z es b z' len hn hr => H1.shr n z es b z' len hn (by rwa [updG_ne _ _ (hne n _ hn)] at hr), H1.F0, H1.wf, H1.evo, H1.bsz, H1.fnew, H.ent.1, fun k l hk hl => H.ent.2.1 k l hk (hA k l (Nat.lt_of_lt_of_le hk H.ent.1) hl), fun k b hk hb => hB k b (H.ent.2.2 k b hk hb)⟩, hm⟩
  · exact ((H1.objs n y hn).keep (h' := h) (F' := F) (T := fun _ => False) H.wf (fun _ _ _ => rfl) (fun _ _ hf => hf.elim) hm (updG_ne _ _ (hne n y hn))).1
  · by_cases e : n = m
    · subst e; rw [updG_self] at hn; cases hn
    · rw [updG_ne _ _ e] at hn; exact H.names _ _ hn
  · rw [hho _ _ h1] at k1; rw [hho _ _ h2] at k2; exact H1.heads m1 m2 y1 y2 x h1 h2 k1 k2
  · rw [hho _ _ hn] at hh; exact H1.mine n y x hn hh
  · rw [hho _ _ hn] at hh; exact (H1.frozen b hb).2 n y x hn hs hh

end
end Go.M

namespace Go.M
open Go

section
variable {X : Cx} {ρ ρ' : Gh} {F : Nat → Prop} {o o' : Ob} {c c' : Nat} {h h' : AHeap}

/-! ### An append in place -/
theorem ext_get {f thr t0 th0 : Nat} {c0 cs : List Value} (hf : h.get f = some (.cells c0 f t0 th0)) (b : Nat) : (extH h f thr cs).get b = if b = h.size then some (.cells cs f 0 0) else if b = f then some (.cells c0 f h.size thr) else h.get b := by
  unfold extH
  rw [AHeap.get_push, size_setFam, get_setFam, hf]
theorem ext_size {f thr : Nat} {cs : List Value} : (extH h f thr cs).size = h.size + 1 := by unfold extH; rw [AHeap.size_push, size_setFam]
theorem ext_wf (W : Wf h) {f thr t0 th0 : Nat} {c0 cs : List Value} (hf : h.get f = some (.cells c0 f t0 th0)) : Wf (extH h f thr cs) := by
  have hfl := W.lt hf
  refine ⟨fun b hb => ?_, fun b cs' f' t th hg => ?_⟩
  · rw [ext_size] at hb; rw [ext_get hf, if_neg (by omega), if_neg (by omega)]; exact W.high b (by omega)
  · rw [ext_get hf] at hg
    split at hg
    · cases hg; omega
    · split at hg
      · cases hg; omega
      · exact W.le _ _ _ _ _ hg
theorem ext_hd {f thr t0 th0 : Nat} {c0 cs : List Value} (hf : h.get f = some (.cells c0 f t0 th0)) {b : Nat} (hb : b < h.size) : hd (extH h f thr cs) b = hd h b := by
  unfold hd
  rw [ext_get hf, if_neg (by omega)]
  by_cases e : b = f
  · subst e; rw [if_pos rfl, hf]
  · rw [if_neg e]
theorem ext_rd (W : Wf h) {f t0 thr : Nat} {c0 cs : List Value} (hf : h.get f = some (.cells c0 f t0 thr)) {b : Nat} {l : List Value} (hr : h.rd b = some l) : (extH h f thr cs).rd b = some l := by
  obtain ⟨r, h1, h2, h3⟩ := rd_some hr
  obtain ⟨f1, t1, th1, hg⟩ := cellsOf_some h3
  obtain ⟨cr, hr1⟩ := fam_root h1
  obtain ⟨cs1, q1, q2, hg1⟩ := fam_cells h1
  rw [hg] at hg1; cases hg1
  have hb := W.lt hg
  have hfl := W.lt hr1
  have hgb : ∃ t th, (extH h f thr cs).get b = some (.cells l r.1 t th) := by
    rw [ext_get hf, if_neg (by omega)]
    by_cases e : b = f
    · rw [if_pos e]; subst e; rw [hg] at hf; cases hf; exact ⟨_, _, rfl⟩
    · rw [if_neg e, hg]; exact ⟨_, _, rfl⟩
  obtain ⟨t, th, hgb⟩ := hgb
  by_cases e : r.1 = f
  · have hgr : (extH h f thr cs).get r.1 = some (.cells cr r.1 h.size r.2.2) := by
      have hf2 := hf
      rw [← e, hr1] at hf2
      simp only [Option.some.injEq, AObj.cells.injEq] at hf2
      rw [ext_get hf, if_neg (by omega), if_pos e, hf2.1, hf2.2.2.2, e]
    exact rd_of (fam_of hgb hgr) h2 (cellsOf_get hgb)
  · have hgr : (extH h f thr cs).get r.1 = some (.cells cr r.1 r.2.1 r.2.2) := by rw [ext_get hf, if_neg (by omega), if_neg e, hr1]
    exact rd_of (fam_of hgb hgr) h2 (cellsOf_get hgb)

/-- An array grows in place: it is another object now. -/
theorem Mem.grow (H : Mem X ρ F o c h) {m z : Nat} {w : Bool} {es es' : List (List TV)} (hl : look o m = some (.arr z w es)) {b f t0 th0 thr : Nat} {cs cs' : List Value} (hb : ρ m = some (.arr b z es.length)) (hg : h.get b = some (.cells cs f t0 th0))
    (hf : h.fam b = some (f, b, thr)) (ht : thr ≤ b) (hbf : X.base ≤ f) (hz : 0 < z) (E : ER c ρ F h z es' cs') :
    let h' := extH h f thr cs'
    let ρ' := updG (updG ρ m none) c (some (.arr h.size z es'.length))
    let F' := fun x => F x ∨ (w = false ∧ x = h.size)
    Mem X ρ' F' ((c, .arr z w es') :: drop1 o m) (c + 1) h' ∧ ∀ t v, VR c ρ F h t v → VR (c + 1) ρ' F' h' t v := by
  intro h' ρ' F'
  have hm := H.lt hl
  obtain ⟨c0, hroot⟩ := fam_root hf
  simp only at hroot
  have hfl := H.wf.lt hroot
  have hhm : headOf ρ h m = some f := by simp [headOf, hb, hd_get hg]
  have hmine := H.mine m _ _ hl hhm
  have hρ : ∀ n, n ≠ m → n ≠ c → ρ' n = ρ n := fun n h1 h2 => by simp only [ρ']; rw [updG_ne _ _ h2, updG_ne _ _ h1]
  have hA : ∀ n l, n < c → ρ' n = some l → ρ n = some l := fun n l hn h1 => by
    by_cases e : n = m
    · subst e; simp only [ρ'] at h1; rw [updG_ne _ _ (by omega), updG_self] at h1; cases h1
    · rwa [hρ n e (by omega)] at h1
  have hB : ∀ n b, ρ n = some (.blk b) → ρ' n = some (.blk b) := fun n b' hn => by
    have := H.names _ _ hn
    by_cases e : n = m
    · subst e; rw [hb] at hn; cases hn
    · rwa [hρ n e (by omega)]
  have hFF : ∀ b, F b → F' b := fun b hb => .inl hb
  have frz : ∀ b cs, F b → h.rd b = some cs → h'.rd b = some cs := fun b cs _ hr => ext_rd H.wf hroot hr
  have hmono : ∀ t v, VR c ρ F h t v → VR (c + 1) ρ' F' h' t v := fun t v => VR.mono (by omega) hA hB hFF frz
  have hgc : h'.get h.size = some (.cells cs' f 0 0) := by simp only [h']; rw [ext_get hroot, if_pos rfl]
  have hgf : h'.get f = some (.cells c0 f h.size thr) := by simp only [h']; rw [ext_get hroot, if_neg (by omega), if_pos rfl]
  have hbl := H.wf.lt hg
  have hrdc : (h'.rd h.size) = some cs' := rd_of (fam_of hgc hgf) (by simp only; omega) (cellsOf_get hgc)
  have hρc : ρ' c = some (.arr h.size z es'.length) := updG_self _ _ _
  have hdrop : ∀ n y, n ≠ c → look ((c, TO.arr z w es') :: drop1 o m) n = some y → n ≠ m ∧ look o n = some y := fun n y hne hy => by
    rw [look_cons, if_neg (fun e => hne e.symm), look_drop1] at hy
    by_cases e : n = m
    · rw [if_pos e] at hy; cases hy
    · rw [if_neg e] at hy; exact ⟨e, hy⟩
  have hhc : headOf ρ' h' c = some f := by simp only [headOf, hρc]; rw [hd_get hgc]
  refine H.change (fun x => x = f) c (.arr z w es') (by simp only [h']; rw [ext_size]; omega) (ext_wf H.wf hroot) (fun x hx => by subst hx; exact hmine.2.2)
    (fun b' hb' hx => ?_) frz (fun b' hb' => ext_hd hroot hb') hFF (fun b' hb' hn => ?_) (by omega) hA hB (fun n l hn => ?_) (fun n y' hne hy => ?_) (fun y' hy => ?_)
    (OR.arr' hρc hgc (fam_of hgc hgf) (by omega) hbf hz (E.mono hmono)) (fun hs b z' l hr => ?_) fun x hx => ?_
  · simp only [h']; rw [ext_get hroot, if_neg (by omega), if_neg]
    intro e; subst e; exact hx (hd_get hroot)
  · rcases hb' with hb' | ⟨hw, rfl⟩
    · exact absurd hb' hn
    · refine ⟨by rw [hrdc]; rfl, fun n y x hy hs hh e => ?_, by rw [hd_get hgc]; exact hmine.2.2⟩
      rw [hd_get hgc] at e
      subst e
      by_cases en : n = c
      · subst en
        rw [look_cons, if_pos rfl, Option.some.injEq] at hy
        subst hy; rw [hw] at hs; cases hs
      · obtain ⟨h1, h2⟩ := hdrop n y en hy
        have hk := ((H.objs n y h2).keep (T := fun x => x = f) (c' := c + 1) (F' := F') H.wf (h' := h') (ρ' := ρ') (fun b' hb' hx => by
          simp only [h']; rw [ext_get hroot, if_neg (by omega), if_neg]
          intro e; subst e; exact hx (hd_get hroot)) (fun x hx e => by subst e; exact h1 (H.heads n m y _ _ h2 hl hx hhm)) hmono (hρ n h1 en)).2
        rw [hk] at hh
        exact h1 (H.heads n m y _ _ h2 hl hh hhm)
  · by_cases e : n = c
    · omega
    · by_cases e2 : n = m
      · omega
      · rw [hρ n e2 e] at hn; have := H.names _ _ hn; omega
  · obtain ⟨h1, h2⟩ := hdrop n y' hne hy
    refine ⟨y', h2, weak.refl _, .inl rfl, hρ n h1 hne, fun x hx e => ?_⟩
    subst e
    exact h1 (H.heads n m y' _ x h2 hl hx hhm)
  · rw [look_cons, if_pos rfl, Option.some.injEq] at hy; exact hy.symm
  · rw [hρc] at hr; cases hr
    exact .inr ⟨hs, rfl⟩
  · rw [hhc] at hx; cases hx
    refine ⟨hmine.1, by simp only [h']; rw [ext_size]; omega, hmine.2.2, fun n y' hne hy hh => ?_, fun hs b' hb' => ?_⟩
    · obtain ⟨h1, h2⟩ := hdrop n y' hne hy
      exact h1 (H.heads n m y' _ _ h2 hl hh hhm)
    · exact (H.frozen b' hb').2 m _ _ hl hs hhm

/-! ### Stores -/
theorem wrH_get {b f t0 th0 t1 th1 : Nat} {c0 c1 : List Value} (hg : h.get b = some (.cells c0 f t0 th0)) (hf : h.get f = some (.cells c1 f t1 th1)) (cs' : List Value) (x : Nat) :
    ((h.setCells b cs').setFam f b b).get x = if x = f then some (.cells (if f = b then cs' else c1) f b b) else if x = b then some (.cells cs' f t0 th0) else h.get x := by
  rw [get_setFam, get_setCells, get_setCells, hg]
  by_cases e : f = b
  · subst e; simp
  · simp [e, hf]
theorem wrH_size (b f : Nat) (cs' : List Value) : ((h.setCells b cs').setFam f b b).size = h.size := by rw [size_setFam, size_setCells]

/-- Other cells in a block that is the last of its family. -/
theorem wr_of {base b f thr t0 th0 : Nat} {c0 cs' : List Value} (hg : h.get b = some (.cells c0 f t0 th0)) (hf : h.fam b = some (f, b, thr)) (h1 : base ≤ b) (h2 : base ≤ f) :
    h.wr base b cs' = some ((h.setCells b cs').setFam f b b) := by
  unfold AHeap.wr
  rw [hf]
  simp [grd, ble_iff.2 h1, ble_iff.2 h2]

structure WrOk (h : AHeap) (b f : Nat) (cs' : List Value) (h' : AHeap) : Prop where
  size : h'.size = h.size
  wf : Wf h'
  self : ∃ t th, h'.get b = some (.cells cs' f t th)
  fam : h'.fam b = some (f, b, b)
  same : ∀ x, x < h.size → hd h x ≠ f → h'.get x = h.get x
  hds : ∀ x, hd h' x = hd h x

theorem wrH_ok (W : Wf h) {b f thr t0 th0 : Nat} {c0 cs' : List Value} (hg : h.get b = some (.cells c0 f t0 th0)) (hf : h.fam b = some (f, b, thr)) : WrOk h b f cs' ((h.setCells b cs').setFam f b b) := by
  obtain ⟨cr, hroot⟩ := fam_root hf
  simp only at hroot
  have hb := W.lt hg
  have hfl := W.lt hroot
  have hle := W.le _ _ _ _ _ hg
  have get := fun x => wrH_get hg hroot cs' x
  have hgf : ((h.setCells b cs').setFam f b b).get f = some (.cells (if f = b then cs' else cr) f b b) := by
    rw [get, if_pos rfl]
  have hgb : ∃ t th, ((h.setCells b cs').setFam f b b).get b = some (.cells cs' f t th) := by
    by_cases e : b = f
    · subst e; exact ⟨b, b, by rw [hgf, if_pos rfl]⟩
    · rw [get, if_neg e, if_pos rfl]; exact ⟨_, _, rfl⟩
  obtain ⟨t, th, hgb⟩ := hgb
  have hother : ∀ x, x ≠ f → x ≠ b → ((h.setCells b cs').setFam f b b).get x = h.get x := fun x h1 h2 => by rw [get, if_neg h1, if_neg h2]
  refine ⟨wrH_size _ _ _, ⟨fun x hx => ?_, fun x cs1 f1 t1 th1 hx => ?_⟩, ⟨t, th, hgb⟩, fam_of hgb hgf, fun x hx hne => ?_, fun x => ?_⟩
  · rw [wrH_size] at hx; rw [hother x (by omega) (by omega)]; exact W.high x hx
  · by_cases e1 : x = f
    · subst e1; rw [hgf] at hx; cases hx; exact Nat.le_refl _
    · by_cases e2 : x = b
      · subst e2; rw [hgb] at hx; cases hx; exact hle
      · rw [hother x e1 e2] at hx; exact W.le _ _ _ _ _ hx
  · refine hother x (fun e => ?_) (fun e => ?_)
    · subst e; exact hne (hd_get hroot)
    · subst e; exact hne (hd_get hg)
  · by_cases e1 : x = f
    · subst e1; rw [hd_get hgf, hd_get hroot]
    · by_cases e2 : x = b
      · subst e2; rw [hd_get hgb, hd_get hg]
      · unfold hd; rw [hother x e1 e2]

theorem rd_same {f : Nat} (W : Wf h) (same : ∀ x, x < h.size → hd h x ≠ f → h'.get x = h.get x) {b : Nat} {cs : List Value} (hne : hd h b ≠ f) (hr : h.rd b = some cs) : h'.rd b = some cs := by
  obtain ⟨r, h1, h2, h3⟩ := rd_some hr
  obtain ⟨f1, t1, th1, hg⟩ := cellsOf_some h3
  obtain ⟨cr, hr1⟩ := fam_root h1
  obtain ⟨cs1, q1, q2, hg1⟩ := fam_cells h1
  rw [hg] at hg1; cases hg1
  rw [hd_get hg] at hne
  have a1 := same b (W.lt hg) (by rw [hd_get hg]; exact hne)
  have a2 := same r.1 (W.lt hr1) (by rw [hd_get hr1]; exact hne)
  exact rd_of (fam_of (a1.trans hg) (a2.trans hr1)) h2 (cellsOf_get (a1.trans hg))

/-- An object's content is another one. -/
theorem Mem.set (H : Mem X ρ F o c h) {m : Nat} {y y' : TO} (hl : look o m = some y) (hs : strong y = true) (hs' : strong y' = true) {f : Nat} (hhm : headOf ρ h m = some f) (hhm' : headOf ρ h' m = some f) (hsz : h'.size = h.size) (hwf : Wf h')
    (same : ∀ x, x < h.size → hd h x ≠ f → h'.get x = h.get x) (hds : ∀ x, hd h' x = hd h x)
    (hor : (∀ t v, VR c ρ F h t v → VR c ρ F h' t v) → OR c ρ F h' X.base m y') :
    Mem X ρ F (upd1 o m y') c h' ∧ ∀ t v, VR c ρ F h t v → VR c ρ F h' t v := by
  have hmine := H.mine m y f hl hhm
  have frz : ∀ b cs, F b → h.rd b = some cs → h'.rd b = some cs := fun b cs hb hr => rd_same H.wf same ((H.frozen b hb).2 m y f hl hs hhm) hr
  have hmono : ∀ t v, VR c ρ F h t v → VR c ρ F h' t v := fun t v => VR.mono (Nat.le_refl _) (fun _ _ _ hx => hx) (fun _ _ hx => hx) (fun _ hb => hb) frz
  refine H.change (fun x => x = f) m y' (by omega) hwf (fun x hx => by subst hx; exact hmine.2.2) (fun b hb hx => same b hb hx) frz (fun b _ => hds b) (fun _ hb => hb) (fun _ hb hn => absurd hb hn) (Nat.le_refl _) (fun _ _ _ hx => hx) (fun _ _ hx => hx) H.names
    (fun n y1 hne hy => ?_) (fun y1 hy => ?_) (hor hmono) (fun hs2 => by rw [hs'] at hs2; cases hs2) fun x hx => ?_
  · rw [look_upd1, if_neg hne] at hy
    refine ⟨y1, hy, weak.refl _, .inl rfl, rfl, fun x hx e => ?_⟩
    subst e
    exact hne (H.heads n m y1 y x hy hl hx hhm)
  · rw [look_upd1, if_pos rfl, hl] at hy
    simp at hy; exact hy.symm
  · rw [hhm', Option.some.injEq] at hx
    subst hx
    refine ⟨hmine.1, by omega, hmine.2.2, fun n y1 hne hy hh => ?_, fun _ b hb => (H.frozen b hb).2 m y f hl hs hhm⟩
    rw [look_upd1, if_neg hne] at hy
    exact hne (H.heads n m y1 y f hy hl hh hhm)

/-! ### What is looked at by others from now on -/
theorem look_shareO {m z : Nat} {w : Bool} {es : List (List TV)} (hl : look o m = some (.arr z w es)) {n : Nat} {y : TO} (hn : look (upd1 o m (.arr z false es)) n = some y) : (n = m ∧ y = .arr z false es) ∨ (n ≠ m ∧ look o n = some y) := by
  rw [look_upd1] at hn
  by_cases e : n = m
  · rw [if_pos e, hl] at hn; simp at hn; exact .inl ⟨e, hn.symm⟩
  · rw [if_neg e] at hn; exact .inr ⟨e, hn⟩

theorem Mem.share (H : Mem X ρ F o c h) (m : Nat) : ∃ F', Mem X ρ F' (shareO o m) c h ∧ (∀ t v, VR c ρ F h t v → VR c ρ F' h t v) ∧ (∀ b, F b → F' b) ∧
    ∀ z w es v, look o m = some (.arr z w es) → VR c ρ F h (.tk m) v → VR c ρ F' h (.sl z es false) v := by
  unfold shareO
  split
  · rename_i z w es hl
    have hO := H.objs m _ hl
    have sh := fun {n : Nat} {y : TO} hn => look_shareO hl (n := n) (y := y) hn
    have old : ∀ n y, look (upd1 o m (.arr z false es)) n = some y → ∃ y', look o n = some y' ∧ (strong y = true → strong y' = true) := fun n y hn => by
      rcases sh hn with ⟨rfl, rfl⟩ | ⟨_, h1⟩
      · exact ⟨_, hl, fun h => by cases h⟩
      · exact ⟨_, h1, id⟩
    have mk : ∀ (F' : Nat → Prop), (∀ b, F b → F' b) → (∀ b, F' b → ¬ F b → (h.rd b).isSome = true ∧ headOf ρ h m = some (hd h b)) → (∀ b z l, ρ m = some (.arr b z l) → F' b) →
        Mem X ρ F' (upd1 o m (.arr z false es)) c h ∧ (∀ t v, VR c ρ F h t v → VR c ρ F' h t v) := by
      intro F' hFF hF' hsh
      have hm : ∀ t v, VR c ρ F h t v → VR c ρ F' h t v := fun t v => VR.mono (Nat.le_refl _) (fun _ _ _ hx => hx) (fun _ _ hx => hx) hFF (fun _ _ _ hr => hr)
      refine ⟨⟨fun n y hn => ?_, H.names, fun m1 m2 y1 y2 x h1 h2 k1 k2 => ?_, fun n y x hn hh => ?_, fun b hb' => ?_, fun n z es b z' len hn hr => ?_, fun b hb => hFF b (H.F0 b hb), H.wf, H.evo, H.bsz, fun b hb' => (by
        rcases Classical.em (F b) with hFb | hFb
        · exact H.fnew b hFb
        · exact .inr (H.mine m _ _ hl (hF' b hb' hFb).2).2.2), H.ent⟩, hm⟩
      · have keep := fun y (hy : look o n = some y) => ((H.objs n y hy).keep (T := fun _ => False) (h' := h) (ρ' := ρ) H.wf (fun _ _ _ => rfl) (fun _ _ hf => hf.elim) hm rfl).1
        rcases sh hn with ⟨rfl, rfl⟩ | ⟨_, h1⟩
        · exact (keep _ hl).weak ⟨rfl, rfl, fun h => by cases h⟩
        · exact keep _ h1
      · obtain ⟨z1, q1, _⟩ := old _ _ h1
        obtain ⟨z2, q2, _⟩ := old _ _ h2
        exact H.heads m1 m2 z1 z2 x q1 q2 k1 k2
      · obtain ⟨z1, q1, _⟩ := old _ _ hn
        exact H.mine _ _ _ q1 hh
      · rcases Classical.em (F b) with hFb | hFb
        · refine ⟨(H.frozen b hFb).1, fun n y x hn hs hh => ?_⟩
          obtain ⟨z1, q1, q2⟩ := old _ _ hn
          exact (H.frozen b hFb).2 n z1 x q1 (q2 hs) hh
        · obtain ⟨k1, k2⟩ := hF' b hb' hFb
          refine ⟨k1, fun n y x hn hs hh e => ?_⟩
          subst e
          rcases sh hn with ⟨rfl, rfl⟩ | ⟨hne, h1⟩
          · cases hs
          · exact hne (H.heads n m _ _ _ h1 hl hh k2)
      · rcases sh hn with ⟨rfl, _⟩ | ⟨hne, h1⟩
        · exact hsh b _ _ hr
        · exact hFF b (H.shr n _ _ _ _ _ h1 hr)
    cases hO with
    | nil hb hz =>
      obtain ⟨M, hm⟩ := mk F (fun _ h => h) (fun _ h h' => absurd h h') (fun b z l hr => by rw [hb] at hr; cases hr)
      refine ⟨F, M, hm, fun _ h => h, fun z' w' es' v hl' hv => ?_⟩
      rw [hl] at hl'; cases hl'
      cases hv with
      | tk hn h1c ha h0 =>
        rcases h0 _ hb with rfl | ⟨b, o', cs, q1, q2, q3, q4, rfl⟩
        · exact .nil rfl
        · exact .sl q1 q2 q3 rfl (Nat.le_refl _) (fun h => by cases h) (by simpa using q4) (by simp) (by simp) fun i j e t v h1 => by simp at h1
    | arr hb hg hf ht hbf hz hlen he hfz hc =>
      rename_i b f t0 th0 thr cs
      have hrd : h.rd b = some cs := rd_of hf ht (cellsOf_get hg)
      obtain ⟨M, hm⟩ := mk (fun x => F x ∨ x = b) (fun _ h => .inl h) (fun x hx hn => by
        rcases hx with hx | hx
        · exact absurd hx hn
        · subst hx; exact ⟨by rw [hrd]; rfl, by simp [headOf, hb]⟩) (fun b' z' l hr => by rw [hb] at hr; cases hr; exact .inr rfl)
      refine ⟨_, M, hm, fun _ h => .inl h, fun z' w' es' v hl' hv => ?_⟩
      rw [hl] at hl'; cases hl'
      cases hv with
      | tk hn h1c ha h0 =>
        obtain ⟨cap, h1, rfl⟩ := ha _ _ _ hb
        exact .sl (.inr rfl) hrd hz rfl h1 (fun h => by cases h) (by rw [Nat.zero_add]; omega) he hfz fun i j e t v q1 q2 q3 => hm _ _ (hc i j e t v q1 q2 (by simpa using q3))
  · rename_i hno
    exact ⟨F, H, fun _ _ h => h, fun _ h => h, fun z w es v hl => absurd hl (hno z w es)⟩

end
end Go.M

namespace Go.M
open Go

theorem VR.fzmono {c c' : Nat} {ρ ρ' : Gh} {F : Nat → Prop} {h : AHeap} {v : TV} {x : Value} (H : VR c ρ F h v x) : fz v = true → VR c' ρ' F h v x := by
  induction H with
  | j v => intro hf; simp [fz] at hf
  | s hp => intro _; exact .s hp
  | nil he => intro _; exact .nil he
  | sl h1 h2 h3 h4 h5 h6 h7 h8 h9 _ ih => intro _; exact .sl h1 h2 h3 h4 h5 h6 h7 h8 h9 fun i j e t v q1 q2 q3 => ih i j e t v q1 q2 q3 (h9 e (List.mem_of_getElem? q1) t (List.mem_of_getElem? q2))
  | tk => intro hf; simp [fz] at hf
  | ptr => intro hf; simp [fz] at hf
  | ep => intro hf; simp [fz] at hf
  | wp => intro hf; simp [fz] at hf
  | mp => intro hf; simp [fz] at hf
  | agg => intro hf; simp [fz] at hf
  | tup => intro hf; simp [fz] at hf
  | ifc hv ih =>
    intro hf
    rename_i t v v'
    cases v <;> simp [fz] at hf
    cases hv with
    | s hp => exact .ifc (.s hp)
  | clo hs ha ht hk ih1 ih2 =>
    intro hf
    rename_i g x y a k
    cases x <;> cases y <;> simp [fz] at hf
    exact .clo hs (fun i t v q => by simp at q) ht (fun i t v q => by simp at q)
theorem VR.fzVmono {c c' : Nat} {ρ ρ' : Gh} {F : Nat → Prop} {h : AHeap} {v : TV} {x : Value} (H : VR c ρ F h v x) (hf : fzV v = true) : VR c' ρ' F h v x := by
  unfold fzV at hf
  split at hf
  · obtain ⟨a, rfl, h1⟩ := H.inv_agg
    exact .agg_of ⟨h1.1, fun i t v q1 q2 => (h1.2 i t v q1 q2).fzmono (List.all_eq_true.1 hf t (List.mem_of_getElem? q1))⟩
  · exact H.fzmono hf

/-- Where the other state's objects lie. -/
def renG (ids : List (Option Nat)) (zf : Nat → Nat) (ρ : Gh) : Gh := fun n => match ids[n]? with
  | some (some m) => ρ m
  | some none => some (.nil (zf n))
  | none => none

section
variable {X : Cx} {ρ : Gh} {F : Nat → Prop} {o : Ob} {c : Nat} {h : AHeap} {ids : List (Option Nat)} {zf : Nat → Nat}

theorem ids_lt {n : Nat} {x : Option Nat} (h : ids[n]? = some x) : n < ids.length := (List.getElem?_eq_some_iff.1 h).1

mutual
theorem leV_rel (H : Mem X ρ F o c h) : ∀ (v v' : TV) (x : Value), leV ids o v v' → VR c ρ F h v x → VR ids.length (renG ids zf ρ) F h v' x := by
  intro v v' x hle hv
  match v, v', hle, hv with
  | .s v, .s v', hle, hv => simp only [leV] at hle; subst hle; cases hv with | s hp => exact .s hp
  | .sl z es fl, .sl z' es' fl', hle, hv =>
    simp only [leV] at hle
    obtain ⟨hz, rfl, hfl⟩ := hle
    cases hv with
    | nil he => exact .nil he
    | sl h1 h2 h3 h4 h5 h6 h7 h8 h9 hc =>
      rcases hz with rfl | rfl
      · exact .sl h1 h2 h3 h4 h5 (fun h => h6 (hfl h)) h7 h8 h9 fun i j e t v q1 q2 q3 => (hc i j e t v q1 q2 q3).fzmono (h9 e (List.mem_of_getElem? q1) t (List.mem_of_getElem? q2))
      · omega
  | .sl z es fl, .tk n, hle, hv =>
    simp only [leV] at hle
    obtain ⟨rfl, rfl, hi⟩ := hle
    cases hv with
    | nil he => exact .tk (ids_lt hi) rfl (fun b z len hx => by simp [renG, hi] at hx) (fun z hx => .inl rfl)
    | sl h1 h2 h3 => omega
  | .tk m, .tk n, hle, hv =>
    simp only [leV] at hle
    cases hv with
    | tk hn h1c ha h0 => exact .tk (ids_lt hle) h1c (fun b z len hx => ha b z len (by simpa [renG, hle] using hx)) (fun z hx => h0 z (by simpa [renG, hle] using hx))
  | .tk m, .sl z' es' fl', hle, hv =>
    simp only [leV] at hle
    obtain ⟨rfl, z, es, hl, rfl, rfl⟩ := hle
    cases hv with
    | tk hn h1c ha h0 =>
      have hO := H.objs m _ hl
      cases hO with
      | nil hb hz =>
        rcases h0 _ hb with rfl | ⟨b, o', cs, q1, q2, q3, q4, rfl⟩
        · exact .nil rfl
        · exact .sl q1 q2 q3 rfl (Nat.le_refl _) (fun h => by cases h) (by simpa using q4) (by simp) (by simp) fun i j e t v h1 => by simp at h1
      | arr hb hg hf ht hbf hz hlen he hfz hc =>
        obtain ⟨cap, h1, rfl⟩ := ha _ _ _ hb
        exact .sl (H.shr _ _ _ _ _ _ hl hb) (rd_of hf ht (cellsOf_get hg)) hz rfl h1 (fun h => by cases h) (by rw [Nat.zero_add]; omega) he hfz
          fun i j e t v q1 q2 q3 => (hc i j e t v q1 q2 (by simpa using q3)).fzmono (hfz e (List.mem_of_getElem? q1) t (List.mem_of_getElem? q2))
  | .ptr m p, .ptr n p', hle, hv =>
    simp only [leV] at hle
    obtain ⟨hi, rfl⟩ := hle
    cases hv with
    | ptr hb => exact .ptr (by simpa [renG, hi] using hb)
  | .ep e p, .ep e' p', hle, hv =>
    simp only [leV] at hle
    obtain ⟨rfl, rfl⟩ := hle
    cases hv with
    | ep h1 h2 h3 h4 hc => exact .ep h1 h2 h3 h4 fun j t v q1 q2 => (hc j t v q1 q2).fzmono (h4 t (List.mem_of_getElem? q1))
  | .mp m, .mp n, hle, hv =>
    simp only [leV] at hle
    cases hv with
    | mp hb => exact .mp (by simpa [renG, hle] using hb)
  | .agg a, .agg b, hle, hv =>
    simp only [leV] at hle
    obtain ⟨a', rfl, h1⟩ := hv.inv_agg
    exact .agg_of (leVs_rel H a b _ hle h1)
  | .tup a, .tup b, hle, hv =>
    simp only [leV] at hle
    obtain ⟨a', rfl, h1⟩ := hv.inv_tup
    exact .tup_of (leVs_rel H a b _ hle h1)
  | .ifc t v, .ifc t' v', hle, hv =>
    simp only [leV] at hle
    obtain ⟨rfl, h1⟩ := hle
    cases hv with
    | ifc hv1 => exact .ifc (leV_rel H v v' _ h1 hv1)
  | .clo g a b, .clo g' a' b', hle, hv =>
    simp only [leV] at hle
    obtain ⟨rfl, h1, h2⟩ := hle
    cases hv with
    | clo hs ha ht hk =>
      have q1 := leVs_rel H a a' _ h1 ⟨by rw [Array.length_toList]; exact hs, fun i t v q1 q2 => ha i t v q1 (by simpa using q2)⟩
      have q2 := leVs_rel H b b' _ h2 ⟨by rw [Array.length_toList]; exact ht, fun i t v q1 q2 => hk i t v q1 (by simpa using q2)⟩
      exact .clo (by have := q1.1; rwa [Array.length_toList] at this) (fun i t v r1 r2 => q1.2 i t v r1 (by simpa using r2)) (by have := q2.1; rwa [Array.length_toList] at this) (fun i t v r1 r2 => q2.2 i t v r1 (by simpa using r2))
  | _, .j, _, _ => exact .j _
theorem leVs_rel (H : Mem X ρ F o c h) : ∀ (l l' : List TV) (m : List Value), leVs ids o l l' → VRs c ρ F h l m → VRs ids.length (renG ids zf ρ) F h l' m := by
  intro l l' m hle hv
  match l, l', hle, hv with
  | [], [], _, hv => rw [hv.inv_nil]; exact .nil
  | a :: l, b :: l', hle, hv =>
    simp only [leVs] at hle
    obtain ⟨v, m', rfl, h1, h2⟩ := hv.inv_cons
    exact .cons (leV_rel H a b _ hle.1 h1) (leVs_rel H l l' _ hle.2 h2)
end


theorem leO_look : ∀ {o1 : Ob} {n : Nat} {y : TO}, leO ids o o1 → look o1 n = some y → leO1 ids o n y
  | [], n, y, _, hl => by cases hl
  | p :: l, n, y, hle, hl => by
    simp only [leO] at hle
    rw [look_cons] at hl
    split at hl
    · rename_i e; subst e; cases hl; exact hle.1
    · exact leO_look hle.2 hl
theorem idsOk_lt : ∀ {ids : List (Option Nat)} {k m : Nat}, idsOk c ids = true → ids[k]? = some (some m) → m < c
  | [], k, m, _, h => by simp at h
  | none :: l, k, m, hi, h => by
    cases k with
    | zero => simp at h
    | succ k => exact idsOk_lt (ids := l) hi (by simpa using h)
  | some m' :: l, k, m, hi, h => by
    simp only [idsOk, Bool.and_eq_true, blt_iff] at hi
    cases k with
    | zero => simp at h; subst h; exact hi.1.1
    | succ k => exact idsOk_lt (ids := l) hi.2 (by simpa using h)
theorem idsOk_inj : ∀ {ids : List (Option Nat)} {k k' m : Nat}, idsOk c ids = true → ids[k]? = some (some m) → ids[k']? = some (some m) → k = k'
  | [], k, k', m, _, h, _ => by simp at h
  | none :: l, k, k', m, hi, h, h' => by
    cases k with
    | zero => simp at h
    | succ k => cases k' with
      | zero => simp at h'
      | succ k' => exact congrArg (· + 1) (idsOk_inj (ids := l) hi (by simpa using h) (by simpa using h'))
  | some m' :: l, k, k', m, hi, h, h' => by
    simp only [idsOk, Bool.and_eq_true, blt_iff, Bool.not_eq_true', List.contains_eq_mem] at hi
    have hn : some m' ∉ l := by simpa using hi.1.2
    cases k with
    | zero => cases k' with
      | zero => rfl
      | succ k' =>
        simp at h h'; subst h
        exact absurd (List.mem_of_getElem? h') hn
    | succ k => cases k' with
      | zero =>
        simp at h h'; subst h'
        exact absurd (List.mem_of_getElem? h) hn
      | succ k' => exact congrArg (· + 1) (idsOk_inj (ids := l) hi.2 (by simpa using h) (by simpa using h'))
theorem idPre_get : ∀ {n k : Nat} {ids : List (Option Nat)}, idPre n k ids = true → ∀ i, i < n → ids[i]? = some (some (k + i))
  | 0, k, ids, _, i, hi => by omega
  | n + 1, k, [], h, i, hi => by simp [idPre] at h
  | n + 1, k, none :: l, h, i, hi => by simp [idPre] at h
  | n + 1, k, some m :: l, h, i, hi => by
    simp only [idPre, Bool.and_eq_true, beq_iff] at h
    obtain ⟨rfl, h2⟩ := h
    cases i with
    | zero => simp
    | succ i =>
      have := idPre_get h2 i (by omega)
      simp only [List.getElem?_cons_succ, this]
      congr 2; omega

def zfO (o1 : Ob) (n : Nat) : Nat := match look o1 n with | some (.arr z _ _) => z | _ => 0

/-- What is said of the other state's objects. -/
theorem Mem.leObj (H : Mem X ρ F o c h) {o1 : Ob} (hO : leO ids o o1) {n : Nat} {y : TO} (hl : look o1 n = some y) :
    OR ids.length (renG ids (zfO o1) ρ) F h X.base n y ∧ ((∃ m y0, ids[n]? = some (some m) ∧ look o m = some y0 ∧ strong y = strong y0 ∧ headOf (renG ids (zfO o1) ρ) h n = headOf ρ h m ∧ (renG ids (zfO o1) ρ) n = ρ m ∧
      (∀ z es, y = .arr z false es → y0 = .arr z false es)) ∨ (ids[n]? = some none ∧ headOf (renG ids (zfO o1) ρ) h n = none ∧ ∃ z, (renG ids (zfO o1) ρ) n = some (.nil z))) := by
  have h1 := leO_look hO hl
  unfold leO1 at h1
  split at h1
  · rename_i m hi
    have hρ : renG ids (zfO o1) ρ n = ρ m := by simp [renG, hi]
    have hh : headOf (renG ids (zfO o1) ρ) h n = headOf ρ h m := by unfold headOf; rw [hρ]
    split at h1
    · rename_i a b ho
      have hor := H.objs m _ ho
      cases hor with
      | cells hb hg ht hc => exact ⟨.cells (hρ.trans hb) hg ht (leVs_rel H a b _ h1 hc), .inl ⟨m, _, hi, ho, rfl, hh, hρ, fun _ _ e => by cases e⟩⟩
    · rename_i k a k' b ho
      obtain ⟨rfl, rfl⟩ := h1
      have hor := H.objs m _ ho
      cases hor with
      | map hb hg hl hc hst => exact ⟨.map (hρ.trans hb) hg hl (fun i e e' q1 q2 => let ⟨r1, r2, r3, r4⟩ := hc i e e' q1 q2; ⟨r1, r2, r3, r4.fzVmono r3⟩) hst, .inl ⟨m, _, hi, ho, rfl, hh, hρ, fun _ _ e => by cases e⟩⟩
    · rename_i z w a z' w' b ho
      obtain ⟨rfl, rfl, rfl⟩ := h1
      have hor := H.objs m _ ho
      refine ⟨?_, .inl ⟨m, _, hi, ho, rfl, hh, hρ, fun z1 es e => e⟩⟩
      cases hor with
      | nil hb hz => exact .nil (hρ.trans hb) hz
      | arr hb hg hf ht hbf hz hlen he hfz hc => exact .arr (hρ.trans hb) hg hf ht hbf hz hlen he hfz fun i j e t v q1 q2 q3 => (hc i j e t v q1 q2 q3).fzmono (hfz e (List.mem_of_getElem? q1) t (List.mem_of_getElem? q2))
    · exact h1.elim
  · rename_i hi
    split at h1
    · rename_i z w es
      obtain ⟨rfl, hz⟩ := h1
      have hρ : renG ids (zfO o1) ρ n = some (.nil z) := by simp [renG, hi, zfO, hl]
      exact ⟨.nil hρ hz, .inr ⟨hi, by simp [headOf, hρ], z, hρ⟩⟩
    · exact h1.elim
  · exact h1.elim

/-- The same memory, told of another way. -/
theorem Mem.le (H : Mem X ρ F o c h) {o1 : Ob} (hi : idsOk c ids = true) (hp : idPre X.c0 0 ids = true) (hO : leO ids o o1) :
    Mem X (renG ids (zfO o1) ρ) F o1 ids.length h := by
  have pre := idPre_get hp
  refine ⟨fun n y hl => (H.leObj hO hl).1, fun n l hn => ?_, fun n1 n2 y1 y2 x h1 h2 k1 k2 => ?_, fun n y x hl hh => ?_, fun b hb => ⟨(H.frozen b hb).1, fun n y x hl hs hh => ?_⟩, fun n z es b z' l hl hr => ?_, H.F0, H.wf, H.evo, H.bsz, H.fnew, ?_, fun k l hk hl => ?_, fun k b hk hb => ?_⟩
  · unfold renG at hn
    cases hq : ids[n]? with
    | none => rw [hq] at hn; cases hn
    | some q => exact ids_lt hq
  · rcases (H.leObj hO h1).2 with ⟨m1, z1, a1, b1, _, c1, _, _⟩ | ⟨_, c1, _⟩
    · rcases (H.leObj hO h2).2 with ⟨m2, z2, a2, b2, _, c2, _, _⟩ | ⟨_, c2, _⟩
      · rw [c1] at k1; rw [c2] at k2
        have := H.heads m1 m2 z1 z2 x b1 b2 k1 k2
        subst this
        exact idsOk_inj hi a1 a2
      · rw [c2] at k2; cases k2
    · rw [c1] at k1; cases k1
  · rcases (H.leObj hO hl).2 with ⟨m1, z1, a1, b1, _, c1, _, _⟩ | ⟨_, c1, _⟩
    · rw [c1] at hh; exact H.mine _ _ _ b1 hh
    · rw [c1] at hh; cases hh
  · rcases (H.leObj hO hl).2 with ⟨m1, z1, a1, b1, s1, c1, _, _⟩ | ⟨_, c1, _⟩
    · rw [c1] at hh; exact (H.frozen b hb).2 _ _ _ b1 (s1 ▸ hs) hh
    · rw [c1] at hh; cases hh
  · rcases (H.leObj hO hl).2 with ⟨m1, z1, a1, b1, _, _, d1, e1⟩ | ⟨_, _, z1, d1⟩
    · rw [d1] at hr
      exact H.shr m1 z es b z' l (by rw [b1, e1 z es rfl]) hr
    · rw [d1] at hr; cases hr
  · rcases Nat.lt_or_ge ids.length X.c0 with h1 | h1
    · have := ids_lt (pre ids.length h1); omega
    · exact h1
  · have := pre k hk
    rw [Nat.zero_add] at this
    exact H.ent.2.1 k l hk (by simpa [renG, this] using hl)
  · have := pre k hk
    rw [Nat.zero_add] at this
    simp only [renG, this]
    exact H.ent.2.2 k b hk hb

/-- What is looked at by others from now on. -/
theorem Mem.shareAll (sh : List Nat) : ∀ {F : Nat → Prop} {o : Ob}, Mem X ρ F o c h → ∃ F', Mem X ρ F' (M.shareAll sh o) c h ∧ (∀ t v, VR c ρ F h t v → VR c ρ F' h t v) ∧ (∀ b, F b → F' b) := by
  induction sh with
  | nil => intro F o H; exact ⟨F, H, fun _ _ h => h, fun _ h => h⟩
  | cons m sh ih =>
    intro F o H
    obtain ⟨F1, H1, m1, f1, _⟩ := H.share m
    obtain ⟨F2, H2, m2, f2⟩ := ih H1
    exact ⟨F2, H2, fun t v h => m2 t v (m1 t v h), fun b h => f2 b (f1 b h)⟩

end
end Go.M

namespace Go.M
open Go

/-- The families of objects. -/
def heads0 (ρ : Gh) (h : AHeap) (o : Ob) : Nat → Prop := fun x => ∃ k y, look o k = some y ∧ headOf ρ h k = some x
def cx0 (base : Nat) (ρ : Gh) (F : Nat → Prop) (o : Ob) (c : Nat) (h : AHeap) : Cx := ⟨base, h, heads0 ρ h o, F, c, ρ⟩

/-- A contract: from these arguments and objects on the call comes to an end, of which R holds. -/
def VC (E : Env) : VCs := fun g c args o R =>
  ∀ (base : Nat) (ρ : Gh) (F : Nat → Prop) (h : AHeap) (vargs : List Value), Mem (cx0 base ρ F o c h) ρ F o c h → VRs c ρ F h args vargs →
    ∃ n v h' ρ' F' r o' c', acall E base n g vargs h = some (v, h') ∧ R r o' c' ∧ Mem (cx0 base ρ F o c h) ρ' F' o' c' h' ∧ VR c' ρ' F' h' r v

theorem Evo.refl (M F0 : Nat → Prop) (h : AHeap) : Evo M F0 h h := ⟨Nat.le_refl _, fun _ _ _ => rfl, fun _ _ => rfl, fun _ _ => rfl⟩

section
variable {X : Cx} {ρ : Gh} {F : Nat → Prop} {o : Ob} {c : Nat} {h : AHeap} {ids : List (Option Nat)}

/-- What is handed to a call. -/
theorem Mem.hand (H : Mem X ρ F o c h) {o0 : Ob} (hi : idsOk c ids = true) (hO : leO ids o o0) : Mem (cx0 X.base (renG ids (zfO o0) ρ) F o0 ids.length h) (renG ids (zfO o0) ρ) F o0 ids.length h := by
  refine ⟨fun n y hl => (H.leObj hO hl).1, fun n l hn => ?_, fun n1 n2 y1 y2 x h1 h2 k1 k2 => ?_, fun n y x hl hh => ?_, fun b hb => ⟨(H.frozen b hb).1, fun n y x hl hs hh => ?_⟩, fun n z es b z' l hl hr => ?_, fun _ hb => hb, H.wf, .refl _ _ _, H.bsz, fun _ hb => .inl hb, Nat.le_refl _, fun _ _ _ hl => hl, fun _ _ _ hb => hb⟩
  · unfold renG at hn
    cases hq : ids[n]? with
    | none => rw [hq] at hn; cases hn
    | some q => exact ids_lt hq
  · rcases (H.leObj hO h1).2 with ⟨m1, z1, a1, b1, _, c1, _, _⟩ | ⟨_, c1, _⟩
    · rcases (H.leObj hO h2).2 with ⟨m2, z2, a2, b2, _, c2, _, _⟩ | ⟨_, c2, _⟩
      · rw [c1] at k1; rw [c2] at k2
        have := H.heads m1 m2 z1 z2 x b1 b2 k1 k2
        subst this
        exact idsOk_inj hi a1 a2
      · rw [c2] at k2; cases k2
    · rw [c1] at k1; cases k1
  · rcases (H.leObj hO hl).2 with ⟨m1, z1, a1, b1, _, c1, _, _⟩ | ⟨_, c1, _⟩
    · have hh0 := hh
      rw [c1] at hh
      obtain ⟨q1, q2, _⟩ := H.mine _ _ _ b1 hh
      exact ⟨q1, q2, .inl ⟨n, y, hl, hh0⟩⟩
    · rw [c1] at hh; cases hh
  · rcases (H.leObj hO hl).2 with ⟨m1, z1, a1, b1, s1, c1, _, _⟩ | ⟨_, c1, _⟩
    · rw [c1] at hh; exact (H.frozen b hb).2 _ _ _ b1 (s1 ▸ hs) hh
    · rw [c1] at hh; cases hh
  · rcases (H.leObj hO hl).2 with ⟨m1, z1, a1, b1, _, _, d1, e1⟩ | ⟨_, _, z1, d1⟩
    · rw [d1] at hr
      exact H.shr m1 z es b z' l (by rw [b1, e1 z es rfl]) hr
    · rw [d1] at hr; cases hr

open Classical in
/-- Where objects lie behind a call. -/
noncomputable def mrgG (ids : List (Option Nat)) (c : Nat) (ρ ρ' : Gh) : Gh := fun n =>
  if hx : ∃ k : Nat, ids[k]? = some (some n) then ρ' (Classical.choose hx) else if n < c then ρ n else if (∃ m : Nat, ids[n - c]? = some (some m)) then none else ρ' (n - c)

theorem mrg_in {ρ' : Gh} (hi : idsOk c ids = true) {k m : Nat} (hk : ids[k]? = some (some m)) : mrgG ids c ρ ρ' m = ρ' k := by
  unfold mrgG
  have hx : ∃ k : Nat, ids[k]? = some (some m) := ⟨k, hk⟩
  rw [dif_pos hx, idsOk_inj hi (Classical.choose_spec hx) hk]
theorem mrg_old {ρ' : Gh} {n : Nat} (hn : ∀ k : Nat, ids[k]? ≠ some (some n)) (hc : n < c) : mrgG ids c ρ ρ' n = ρ n := by
  unfold mrgG
  rw [dif_neg (fun ⟨k, hk⟩ => hn k hk), if_pos hc]
theorem mrg_back {ρ' : Gh} (hi : idsOk c ids = true) (k : Nat) : mrgG ids c ρ ρ' (back ids c k) = ρ' k := by
  unfold back
  split
  · rename_i m hm; exact mrg_in hi hm
  · rename_i hno
    unfold mrgG
    rw [dif_neg, if_neg (by omega), if_neg, Nat.add_sub_cancel_left]
    · rintro ⟨m, hm⟩; rw [Nat.add_sub_cancel_left] at hm; exact hno m hm
    · rintro ⟨k', hk'⟩
      have := idsOk_lt hi hk'
      omega
theorem back_inj (hi : idsOk c ids = true) {k k' : Nat} (h : back ids c k = back ids c k') : k = k' := by
  unfold back at h
  split at h
  · rename_i m hm
    split at h
    · rename_i m' hm'; subst h; exact idsOk_inj hi hm hm'
    · have := idsOk_lt hi hm; omega
  · split at h
    · rename_i m' hm'; have := idsOk_lt hi hm'; omega
    · omega
theorem back_lt (hi : idsOk c ids = true) {k c' : Nat} (hk : k < c') : back ids c k < c + c' := by
  unfold back
  split
  · rename_i m hm; have := idsOk_lt hi hm; omega
  · omega

theorem rens_get (β : Nat → Nat) : ∀ (l : List TV) (i : Nat), (TV.rens β l)[i]? = (l[i]?).map (TV.ren β)
  | [], i => by simp [TV.rens]
  | v :: l, i => by
    cases i with
    | zero => simp [TV.rens]
    | succ i => simp [TV.rens, rens_get β l i]
theorem rens_length (β : Nat → Nat) : ∀ (l : List TV), (TV.rens β l).length = l.length
  | [] => rfl
  | v :: l => by simp [TV.rens, rens_length β l]

theorem VR.ren {c' cc : Nat} {ρ' ρm : Gh} {F' : Nat → Prop} {h' : AHeap} {β : Nat → Nat} (hβ : ∀ k, k < c' → β k < cc) (hρ : ∀ k, ρm (β k) = ρ' k) {t : TV} {x : Value} (H : VR c' ρ' F' h' t x) : VR cc ρm F' h' (t.ren β) x := by
  induction H with
  | j v => exact .j v
  | s hp => exact .s hp
  | nil he => exact .nil he
  | sl h1 h2 h3 h4 h5 h6 h7 h8 h9 hc _ => exact .sl h1 h2 h3 h4 h5 h6 h7 h8 h9 fun i j e t v q1 q2 q3 => (hc i j e t v q1 q2 q3).fzmono (h9 e (List.mem_of_getElem? q1) t (List.mem_of_getElem? q2))
  | tk hn h1c ha h0 => exact .tk (hβ _ hn) h1c (fun b z len hx => ha b z len (by rw [← hρ]; exact hx)) (fun z hx => h0 z (by rw [← hρ]; exact hx))
  | ptr hb => exact .ptr (by rw [hρ]; exact hb)
  | ep h1 h2 h3 h4 hc _ => exact .ep h1 h2 h3 h4 fun j t v q1 q2 => (hc j t v q1 q2).fzmono (h4 t (List.mem_of_getElem? q1))
  | wp hn h1c ha h0 => exact .wp (hβ _ hn) h1c (fun b z len hx => ha b z len (by rw [← hρ]; exact hx)) (fun z hx => h0 z (by rw [← hρ]; exact hx))
  | mp hb => exact .mp (by rw [hρ]; exact hb)
  | agg hs _ ih =>
    refine .agg (by rw [rens_length]; exact hs) fun i t v q1 q2 => ?_
    rw [rens_get, Option.map_eq_some_iff] at q1
    obtain ⟨t0, q3, rfl⟩ := q1
    exact ih i t0 v q3 q2
  | tup hs _ ih =>
    refine .tup (by rw [rens_length]; exact hs) fun i t v q1 q2 => ?_
    rw [rens_get, Option.map_eq_some_iff] at q1
    obtain ⟨t0, q3, rfl⟩ := q1
    exact ih i t0 v q3 q2
  | ifc _ ih => exact .ifc ih
  | clo hs _ ht _ ih1 ih2 =>
    refine .clo (by rw [rens_length]; exact hs) (fun i t v q1 q2 => ?_) (by rw [rens_length]; exact ht) (fun i t v q1 q2 => ?_)
    · rw [rens_get, Option.map_eq_some_iff] at q1
      obtain ⟨t0, q3, rfl⟩ := q1
      exact ih1 i t0 v q3 q2
    · rw [rens_get, Option.map_eq_some_iff] at q1
      obtain ⟨t0, q3, rfl⟩ := q1
      exact ih2 i t0 v q3 q2
theorem VRs.ren {c' cc : Nat} {ρ' ρm : Gh} {F' : Nat → Prop} {h' : AHeap} {β : Nat → Nat} (hβ : ∀ k, k < c' → β k < cc) (hρ : ∀ k, ρm (β k) = ρ' k) {l : List TV} {m : List Value} (H : VRs c' ρ' F' h' l m) : VRs cc ρm F' h' (TV.rens β l) m := by
  refine ⟨by rw [rens_length]; exact H.1, fun i t v q1 q2 => ?_⟩
  rw [rens_get, Option.map_eq_some_iff] at q1
  obtain ⟨t0, q3, rfl⟩ := q1
  exact (H.2 i t0 v q3 q2).ren hβ hρ

theorem OR.ren {c' cc base k : Nat} {ρ' ρm : Gh} {F' : Nat → Prop} {h' : AHeap} {β : Nat → Nat} (hβ : ∀ k, k < c' → β k < cc) (hρ : ∀ k, ρm (β k) = ρ' k) {y : TO} (H : OR c' ρ' F' h' base k y) : OR cc ρm F' h' base (β k) (y.ren β) := by
  cases H with
  | cells hb hg ht hc => exact .cells ((hρ k).trans hb) hg ht (hc.ren hβ hρ)
  | map hb hg hl hc hst => exact .map ((hρ k).trans hb) hg hl (fun i e e' q1 q2 => let ⟨r1, r2, r3, r4⟩ := hc i e e' q1 q2; ⟨r1, r2, r3, r4.fzVmono r3⟩) hst
  | nil hb hz => exact .nil ((hρ k).trans hb) hz
  | arr hb hg hf ht hbf hz hlen he hfz hc => exact .arr ((hρ k).trans hb) hg hf ht hbf hz hlen he hfz fun i j e t v q1 q2 q3 => (hc i j e t v q1 q2 q3).fzmono (hfz e (List.mem_of_getElem? q1) t (List.mem_of_getElem? q2))
theorem strong_ren (β : Nat → Nat) (y : TO) : strong (y.ren β) = strong y := by cases y <;> rfl

theorem look_append {α : Type} (a b : List (Nat × α)) (n : Nat) : look (a ++ b) n = match look a n with | some x => some x | none => look b n := by
  induction a with
  | nil => rfl
  | cons p l ih =>
    rw [List.cons_append, look_cons, look_cons]
    split
    · rfl
    · exact ih
theorem look_renO {β : Nat → Nat} (hβ : ∀ k k', β k = β k' → k = k') : ∀ {o : Ob} {n : Nat} {y : TO}, look (renO β o) n = some y → ∃ k y0, n = β k ∧ look o k = some y0 ∧ y = y0.ren β
  | [], n, y, h => by cases h
  | p :: l, n, y, h => by
    simp only [renO] at h
    rw [look_cons] at h
    split at h
    · rename_i e; cases h; exact ⟨p.1, p.2, e.symm, by rw [look_cons, if_pos rfl], rfl⟩
    · rename_i e
      obtain ⟨k, y0, rfl, h2, h3⟩ := look_renO hβ h
      refine ⟨k, y0, rfl, ?_, h3⟩
      rw [look_cons, if_neg (fun e2 => e (by rw [e2]))]
      exact h2
theorem look_dropIds : ∀ {ids : List (Option Nat)} {o : Ob} {n : Nat} {y : TO}, look (dropIds ids o) n = some y → look o n = some y ∧ ∀ k : Nat, ids[k]? ≠ some (some n)
  | [], o, n, y, h => ⟨h, fun k => by simp⟩
  | none :: l, o, n, y, h => by
    obtain ⟨h1, h2⟩ := look_dropIds (ids := l) h
    refine ⟨h1, fun k => ?_⟩
    cases k with
    | zero => simp
    | succ k => simpa using h2 k
  | some m :: l, o, n, y, h => by
    obtain ⟨h1, h2⟩ := look_dropIds (ids := l) h
    rw [look_drop1] at h1
    by_cases e : n = m
    · rw [if_pos e] at h1; cases h1
    · rw [if_neg e] at h1
      refine ⟨h1, fun k => ?_⟩
      cases k with
      | zero => simp; exact fun e2 => e e2.symm
      | succ k => simpa using h2 k

/-- Memory behind a call. -/
theorem Mem.merge (H : Mem X ρ F o c h) {o0 : Ob} (hi : idsOk c ids = true) (hO : leO ids o o0) {ρ' : Gh} {F' : Nat → Prop} {o' : Ob} {c' : Nat} {h' : AHeap}
    (K : Mem (cx0 X.base (renG ids (zfO o0) ρ) F o0 ids.length h) ρ' F' o' c' h') :
    Mem X (mrgG ids c ρ ρ') F' (renO (back ids c) o' ++ dropIds ids o) (c + c') h' ∧ (∀ t v, VR c ρ F h t v → VR (c + c') (mrgG ids c ρ ρ') F' h' t v) ∧ (∀ t v, VR c' ρ' F' h' t v → VR (c + c') (mrgG ids c ρ ρ') F' h' (t.ren (back ids c)) v) := by
  have hA : ∀ n l, n < c → mrgG ids c ρ ρ' n = some l → ρ n = some l := fun n l hn hl => by
    by_cases hx : ∃ k : Nat, ids[k]? = some (some n)
    · obtain ⟨k, hk⟩ := hx
      rw [mrg_in hi hk] at hl
      have := K.ent.2.1 k l (ids_lt hk) hl
      simpa [cx0, renG, hk] using this
    · rwa [mrg_old (fun k hk => hx ⟨k, hk⟩) hn] at hl
  have hB : ∀ n b, ρ n = some (.blk b) → mrgG ids c ρ ρ' n = some (.blk b) := fun n b hb => by
    by_cases hx : ∃ k : Nat, ids[k]? = some (some n)
    · obtain ⟨k, hk⟩ := hx
      rw [mrg_in hi hk]
      exact K.ent.2.2 k b (ids_lt hk) (by simpa [cx0, renG, hk] using hb)
    · rw [mrg_old (fun k hk => hx ⟨k, hk⟩) (H.names _ _ hb)]; exact hb
  have hβ := fun k (hk : k < c') => back_lt hi hk
  have hρ := fun k => mrg_back (ρ := ρ) (ρ' := ρ') hi k
  have frz : ∀ b cs, F b → h.rd b = some cs → h'.rd b = some cs := fun b cs hb hr => by rw [K.evo.frz b hb]; exact hr
  have hFF : ∀ b, F b → F' b := fun b hb => K.F0 b hb
  have hm : ∀ t v, VR c ρ F h t v → VR (c + c') (mrgG ids c ρ ρ') F' h' t v := fun t v => VR.mono (by omega) hA hB hFF frz
  have hsz : h.size ≤ h'.size := K.evo.size
  -- families that the call may have changed
  have hM : ∀ x, heads0 (renG ids (zfO o0) ρ) h o0 x → ∃ (k m : Nat) (y : TO), ids[k]? = some (some m) ∧ look o m = some y ∧ headOf ρ h m = some x := by
    rintro x ⟨k, y, hl, hh⟩
    rcases (H.leObj hO hl).2 with ⟨m1, z1, a1, b1, _, c1, _, _⟩ | ⟨_, c1, _⟩
    · exact ⟨k, m1, z1, a1, b1, c1 ▸ hh⟩
    · rw [c1] at hh; cases hh
  have hMX : ∀ x, heads0 (renG ids (zfO o0) ρ) h o0 x → X.M x ∨ X.h0.size ≤ x := fun x hx => by
    obtain ⟨k, m, y, _, h2, h3⟩ := hM x hx
    exact (H.mine m y x h2 h3).2.2
  have same : ∀ b, b < h.size → ¬ heads0 (renG ids (zfO o0) ρ) h o0 (hd h b) → h'.get b = h.get b := fun b hb hx => K.evo.keep b hb hx
  have cas : ∀ n y, look (renO (back ids c) o' ++ dropIds ids o) n = some y →
      (∃ k y0, n = back ids c k ∧ look o' k = some y0 ∧ y = y0.ren (back ids c) ∧ OR (c + c') (mrgG ids c ρ ρ') F' h' X.base n y ∧ headOf (mrgG ids c ρ ρ') h' n = headOf ρ' h' k) ∨
      (look o n = some y ∧ (∀ k : Nat, ids[k]? ≠ some (some n)) ∧ OR (c + c') (mrgG ids c ρ ρ') F' h' X.base n y ∧ headOf (mrgG ids c ρ ρ') h' n = headOf ρ h n ∧ mrgG ids c ρ ρ' n = ρ n ∧ ∀ x, headOf ρ h n = some x → ¬ heads0 (renG ids (zfO o0) ρ) h o0 x) := by
    intro n y hl
    rw [look_append] at hl
    split at hl
    · rename_i y1 h1
      cases hl
      obtain ⟨k, y0, rfl, h2, rfl⟩ := look_renO (fun k k' => back_inj hi) h1
      exact .inl ⟨k, y0, rfl, h2, rfl, (K.objs k y0 h2).ren hβ hρ, by unfold headOf; rw [hρ]⟩
    · obtain ⟨h1, h2⟩ := look_dropIds hl
      have hnt : ∀ x, headOf ρ h n = some x → ¬ heads0 (renG ids (zfO o0) ρ) h o0 x := fun x hx hy => by
        obtain ⟨k, m, y1, q1, q2, q3⟩ := hM x hy
        have := H.heads n m y y1 x h1 q2 hx q3
        subst this
        exact h2 k q1
      have hρn := mrg_old (ρ := ρ) (ρ' := ρ') h2 (H.lt h1)
      obtain ⟨k1, k2⟩ := (H.objs n y h1).keep (T := heads0 (renG ids (zfO o0) ρ) h o0) H.wf same hnt hm hρn
      exact .inr ⟨h1, h2, k1, k2, hρn, hnt⟩
  -- a family of the call's is none of the others
  have apart : ∀ k y0 x, look o' k = some y0 → headOf ρ' h' k = some x → heads0 (renG ids (zfO o0) ρ) h o0 x ∨ h.size ≤ x := fun k y0 x hl hh => (K.mine k y0 x hl hh).2.2
  refine ⟨⟨fun n y hl => ?_, fun n l hn => ?_, fun n1 n2 y1 y2 x h1 h2 k1 k2 => ?_, fun n y x hl hh => ?_, fun b hb => ⟨(K.frozen b hb).1, fun n y x hl hs hh => ?_⟩, fun n z es b z' l hl hr => ?_, fun b hb => hFF b (H.F0 b hb), K.wf, ⟨Nat.le_trans H.evo.size hsz, fun b hb hMb => ?_, fun b hb => ?_, fun b hb => ?_⟩, Nat.le_trans H.bsz hsz, fun b hb => ?_, ?_, fun k l hk hl => ?_, fun k b hk hb => ?_⟩, hm, fun t v => VR.ren hβ hρ⟩
  · rcases cas n y hl with ⟨_, _, _, _, _, h1, _⟩ | ⟨_, _, h1, _⟩ <;> exact h1
  · by_cases hx : ∃ k : Nat, ids[k]? = some (some n)
    · obtain ⟨k, hk⟩ := hx
      have := idsOk_lt hi hk; omega
    · rcases Nat.lt_or_ge n c with h1 | h1
      · omega
      · have hnk : ¬ ∃ m : Nat, ids[n - c]? = some (some m) := fun ⟨m, hm⟩ => by
          simp only [mrgG] at hn
          rw [dif_neg hx, if_neg (by omega), if_pos ⟨m, hm⟩] at hn; cases hn
        simp only [mrgG] at hn
        rw [dif_neg hx, if_neg (by omega), if_neg hnk] at hn
        have := K.names _ _ hn; omega
  · rcases cas n1 y1 h1 with ⟨k, z1, rfl, a1, _, _, e1⟩ | ⟨a1, _, _, e1, _, f1⟩ <;> rcases cas n2 y2 h2 with ⟨k', z2, rfl, a2, _, _, e2⟩ | ⟨a2, _, _, e2, _, f2⟩
    · rw [e1] at k1; rw [e2] at k2; rw [K.heads k k' z1 z2 x a1 a2 k1 k2]
    · rw [e1] at k1; rw [e2] at k2
      rcases apart _ _ _ a1 k1 with h3 | h3
      · exact absurd h3 (f2 x k2)
      · have := (H.mine _ _ _ a2 k2).2.1; omega
    · rw [e1] at k1; rw [e2] at k2
      rcases apart _ _ _ a2 k2 with h3 | h3
      · exact absurd h3 (f1 x k1)
      · have := (H.mine _ _ _ a1 k1).2.1; omega
    · rw [e1] at k1; rw [e2] at k2; exact H.heads _ _ _ _ x a1 a2 k1 k2
  · rcases cas n y hl with ⟨k, z1, rfl, a1, _, _, e1⟩ | ⟨a1, _, _, e1, _, _⟩
    · rw [e1] at hh
      obtain ⟨q1, q2, q3⟩ := K.mine _ _ _ a1 hh
      refine ⟨q1, q2, ?_⟩
      rcases q3 with q3 | q3
      · exact hMX x q3
      · exact .inr (Nat.le_trans H.evo.size q3)
    · rw [e1] at hh
      obtain ⟨q1, q2, q3⟩ := H.mine _ _ _ a1 hh
      exact ⟨q1, Nat.lt_of_lt_of_le q2 hsz, q3⟩
  · rcases cas n y hl with ⟨k, z1, rfl, a1, e0, _, e1⟩ | ⟨a1, _, _, e1, _, f1⟩
    · rw [e1] at hh
      subst e0
      rw [strong_ren] at hs
      exact (K.frozen b hb).2 _ _ _ a1 hs hh
    · rw [e1] at hh
      have hxs := (H.mine _ _ _ a1 hh).2.1
      intro e
      rcases K.fnew b hb with h3 | h3 | h3
      · have hFb : F b := h3
        rw [K.evo.hds b (H.Flt hFb)] at e
        exact (H.frozen b hFb).2 _ _ _ a1 hs hh e
      · rw [e] at h3; exact f1 x hh h3
      · rw [e] at h3
        have : h.size ≤ x := h3
        omega
  · rcases cas n _ hl with ⟨k, z1, rfl, a1, e0, _, e1⟩ | ⟨a1, _, _, e1, hρn, _⟩
    · rw [hρ] at hr
      cases z1 <;> simp [TO.ren] at e0
      obtain ⟨rfl, rfl, rfl⟩ := e0
      exact K.shr _ _ _ _ _ _ a1 hr
    · rw [hρn] at hr
      exact hFF b (H.shr _ _ _ _ _ _ a1 hr)
  · have h1 := H.evo.keep b hb hMb
    have h2 := H.evo.hds b hb
    rw [same b (Nat.lt_of_lt_of_le hb H.evo.size) ?_, h1]
    intro hx
    rw [h2] at hx
    rcases hMX _ hx with k | k
    · exact hMb k
    · have := H.wf.hd_le b; rw [h2] at this; omega
  · have := H.F0 b hb
    exact (K.evo.frz b this).trans (H.evo.frz b hb)
  · exact (K.evo.hds b (Nat.lt_of_lt_of_le hb H.evo.size)).trans (H.evo.hds b hb)
  · rcases K.fnew b hb with h3 | h3 | h3
    · have hFb : F b := h3
      rw [K.evo.hds b (H.Flt hFb)]
      exact H.fnew b hFb
    · exact .inr (hMX _ h3)
    · exact .inr (.inr (Nat.le_trans H.evo.size h3))
  · have := H.ent.1; omega
  · exact H.ent.2.1 k l hk (hA k l (Nat.lt_of_lt_of_le hk H.ent.1) hl)
  · exact hB k b (H.ent.2.2 k b hk hb)

end
end Go.M

namespace Go.M
open Go

def RunLe (run run' : RunF) : Prop := ∀ c f h r, run c f h = some r → run' c f h = some r
def CallLe (cf cf' : CallF) : Prop := ∀ g a h r, cf g a h = some r → cf' g a h = some r
def RoundLe (rf rf' : RoundF) : Prop := ∀ l a h r, rf l a h = some r → rf' l a h = some r

section
variable {E : Env} {base : Nat}

theorem acallB_le {run run' : RunF} (H : RunLe run run') : CallLe (acallB E run) (acallB E run') := by
  intro g a h r hr
  unfold acallB at hr ⊢
  simp only [Option.bind_eq_some_iff] at hr ⊢
  obtain ⟨fn, h1, h2⟩ := hr
  refine ⟨fn, h1, ?_⟩
  split at h2
  · rename_i q hq; simpa [hq] using h2
  · rename_i hq
    simp only [Option.bind_eq_some_iff, grd_some] at h2 ⊢
    obtain ⟨c, h3, h4, h5⟩ := h2
    refine ⟨c, h3, h4, ?_⟩
    split at h5
    · rename_i f' h' hx; rw [H _ _ _ _ hx]; exact h5
    · rename_i f' h' hx; rw [H _ _ _ _ hx]; exact h5
    · cases h5

theorem aroundB_le {run run' : RunF} (H : RunLe run run') : RoundLe (aroundB base run) (aroundB base run') := by
  intro l a h r hr
  unfold aroundB at hr ⊢
  rw [grd_some] at hr ⊢
  refine ⟨hr.1, ?_⟩
  obtain ⟨_, hr⟩ := hr
  split at hr
  · rename_i p f ps asg body hg
    rw [grd_some] at hr ⊢
    refine ⟨hr.1, ?_⟩
    obtain ⟨_, hr⟩ := hr
    split at hr
    · rename_i f1 h1 hx
      rw [H _ _ _ _ hx]
      simp only
      split at hr
      · rename_i p1 f0 ps1 asg1 body1 hg1
        simp only [Option.bind_eq_some_iff] at hr ⊢
        obtain ⟨q, h2, h3⟩ := hr
        exact ⟨q, H _ _ _ _ h2, h3⟩
      · cases hr
    · cases hr
  · cases hr

theorem runOp_le {cf cf' : CallF} {rf rf' : RoundF} (H : CallLe cf cf') (G : RoundLe rf rf') {o : Oper} {f : AF} {h : AHeap} {r : OpR} (hr : runOp E base cf rf o f h = some r) : runOp E base cf' rf' o f h = some r := by
  unfold runOp at hr ⊢
  cases hv : apure E f o with
  | some v => rw [hv] at hr; exact hr
  | none =>
    rw [hv] at hr
    simp only at hr ⊢
    cases hq : aread E f o with
    | some q => rw [hq] at hr; exact hr
    | none =>
      rw [hq] at hr
      simp only at hr ⊢
      cases hm : aalloc E f o with
      | some m => rw [hm] at hr; exact hr
      | none =>
        rw [hm] at hr
        simp only at hr ⊢
        cases he : aeff E base f o h with
        | none => rw [he] at hr; cases hr
        | some p =>
          rw [he] at hr
          obtain ⟨x, h'⟩ := p
          cases x with
          | val v => exact hr
          | enter g args =>
            simp only [Option.bind_eq_some_iff] at hr ⊢
            obtain ⟨q, h1, h2⟩ := hr
            exact ⟨q, H _ _ _ _ h1, h2⟩
          | round l args =>
            simp only [Option.bind_eq_some_iff] at hr ⊢
            obtain ⟨q, h1, h2⟩ := hr
            exact ⟨q, G _ _ _ _ h1, h2⟩

theorem aops_le {cf cf' : CallF} {rf rf' : RoundF} (H : CallLe cf cf') (G : RoundLe rf rf') {ops : List Oper} : ∀ {rest : List Oper} {f : AF} {h : AHeap} {r : AF × AHeap}, aops E base cf rf ops rest f h = some r → aops E base cf' rf' ops rest f h = some r
  | [], f, h, r, hr => hr
  | o :: rest, f, h, r, hr => by
    unfold aops at hr ⊢
    split at hr
    · simp only [Option.bind_eq_some_iff] at hr ⊢
      obtain ⟨q, h1, h2⟩ := hr
      exact ⟨q, runOp_le H G h1, aops_le H G h2⟩
    · exact aops_le H G hr
theorem aopsL_le {cf cf' : CallF} {rf rf' : RoundF} (H : CallLe cf cf') (G : RoundLe rf rf') {ops : List Oper} : ∀ {rest : List Oper} {f : AF} {h : AHeap} {r : AF × AHeap × List LogE}, aopsL E base cf rf ops rest f h = some r → aopsL E base cf' rf' ops rest f h = some r
  | [], f, h, r, hr => hr
  | o :: rest, f, h, r, hr => by
    unfold aopsL at hr ⊢
    split at hr
    · simp only [Option.bind_eq_some_iff] at hr ⊢
      obtain ⟨q, h1, q2, h2, h3⟩ := hr
      exact ⟨q, runOp_le H G h1, q2, aopsL_le H G h2, h3⟩
    · simp only [Option.bind_eq_some_iff] at hr ⊢
      obtain ⟨q2, h2, h3⟩ := hr
      exact ⟨q2, aopsL_le H G h2, h3⟩

theorem aregion_le {run run' : RunF} (H : RunLe run run') {ops : Array Oper} {draw : Bool} {f : AF} {h : AHeap} {r : Ex × AF × AHeap} (hr : aregion E base run ops draw f h = some r) : aregion E base run' ops draw f h = some r := by
  unfold aregion at hr ⊢
  split at hr
  · simp only [Option.bind_eq_some_iff] at hr ⊢
    obtain ⟨q, h1, h2⟩ := hr
    exact ⟨q, aops_le (acallB_le H) (aroundB_le H) h1, h2⟩
  · simp only [Option.bind_eq_some_iff, grd_some] at hr ⊢
    obtain ⟨h0, q, h1, h2⟩ := hr
    exact ⟨h0, q, aopsL_le (acallB_le H) (aroundB_le H) h1, h2⟩

theorem aeval_le : ∀ {n m : Nat}, n ≤ m → RunLe (aeval E base n) (aeval E base m)
  | 0, m, _ => fun c f h r hr => by simp [aeval] at hr
  | n + 1, 0, h => by omega
  | n + 1, m + 1, hnm => by
    have ih : RunLe (aeval E base n) (aeval E base m) := aeval_le (by omega)
    intro c f h r hr
    unfold aeval at hr ⊢
    cases c with
    | skip => exact hr
    | region id ops draw => exact aregion_le ih hr
    | seq a b =>
      simp only at hr ⊢
      cases hx : aeval E base n a f h with
      | none => rw [hx] at hr; cases hr
      | some q =>
        rw [hx] at hr
        rw [ih _ _ _ _ hx]
        obtain ⟨ex, f', h'⟩ := q
        cases ex with
        | normal => exact ih _ _ _ _ hr
        | exit id => exact hr
        | ret => exact hr
    | cond c t e =>
      simp only [Option.bind_eq_some_iff] at hr ⊢
      obtain ⟨v, h1, b, h2, h3⟩ := hr
      refine ⟨v, h1, b, h2, ?_⟩
      cases b <;> exact ih _ _ _ _ h3
    | block id b =>
      simp only at hr ⊢
      cases hx : aeval E base n b f h with
      | none => rw [hx] at hr; cases hr
      | some q => rw [hx] at hr; rw [ih _ _ _ _ hx]; exact hr
    | loop b =>
      simp only at hr ⊢
      cases hx : aeval E base n b f h with
      | none => rw [hx] at hr; cases hr
      | some q =>
        rw [hx] at hr
        rw [ih _ _ _ _ hx]
        obtain ⟨ex, f', h'⟩ := q
        cases ex with
        | normal => exact ih _ _ _ _ hr
        | exit id => exact hr
        | ret => exact hr
    | exit id => exact hr
    | ret => exact hr
    | rangeFunc g ps asg body =>
      simp only [Option.bind_eq_some_iff, grd_some] at hr ⊢
      obtain ⟨g', h1, h2, h3⟩ := hr
      refine ⟨g', h1, h2, ?_⟩
      split at h3
      · simp only [Option.bind_eq_some_iff] at h3 ⊢
        obtain ⟨q, h4, h5⟩ := h3
        refine ⟨q, acallB_le ih _ _ _ _ h4, ?_⟩
        split at h5
        · rw [grd_some] at h5 ⊢
          refine ⟨h5.1, ?_⟩
          obtain ⟨_, h5⟩ := h5
          split at h5
          · exact h5
          · exact ih _ _ _ _ h5
        · cases h5
      · cases h3
    | _ => exact hr
theorem acall_le {n m : Nat} (h : n ≤ m) : CallLe (acall E base n) (acall E base m) := acallB_le (aeval_le h)

end
end Go.M

namespace Go.M
open Go

def ZeroOk (E : Env) : Prop := ∀ t z, E.zero t = some z → plainV z = true

/-- An object's block. -/
def atB (ρ : Gh) (n b : Nat) : Prop := ρ n = some (.blk b) ∨ ∃ z l, ρ n = some (.arr b z l)

/-- What is read is there, and can be held against itself. -/
def RdNow (q : RQ) (h : AHeap) : Prop := match q with
  | .cells _ b o n => ∃ l, readCells h b o n = some l ∧ eqLs l l = true
  | .look r _ _ _ _ | .len r => ∃ m, mapAt h r = some m ∧ eqEs m.1 m.1 = true

/-- A step of memory. -/
structure Nx (X : Cx) (ρ : Gh) (F : Nat → Prop) (o : Ob) (c : Nat) (h : AHeap) (ρ' : Gh) (F' : Nat → Prop) (o' : Ob) (c' : Nat) (h' : AHeap) : Prop where
  mem : Mem X ρ' F' o' c' h'
  keep : ∀ t x, VR c ρ F h t x → VR c' ρ' F' h' t x
  size : h.size ≤ h'.size
  FF : ∀ b, F b → F' b
  frz : ∀ b cs, F b → h.rd b = some cs → h'.rd b = some cs

/-- What is not in a list of names stays as it is. -/
def Raw (ρ : Gh) (o : Ob) (h : AHeap) (ρ' : Gh) (o' : Ob) (h' : AHeap) (ns : List Nat) : Prop :=
  ∀ n y, look o n = some y → n ∉ ns → (∃ y', look o' n = some y' ∧ weak y y') ∧ ρ' n = ρ n ∧ ∀ b, atB ρ n b → h'.get b = h.get b ∧ ∀ cs, h.rd b = some cs → h'.rd b = some cs

inductive LogOk (ρ : Gh) (F : Nat → Prop) (o : Ob) (h : AHeap) (ρ' : Gh) (o' : Ob) (h' : AHeap) : VL → LogE → Prop
  | pure (hr : Raw ρ o h ρ' o' h' []) (hh : h' = h) : LogOk ρ F o h ρ' o' h' .pure .pure
  | alloc (hr : Raw ρ o h ρ' o' h' []) : LogOk ρ F o h ρ' o' h' .alloc (.alloc h h')
  | rdF {q : RQ} (hr : Raw ρ o h ρ' o' h' []) (hh : h' = h) (hF : F q.blk) (hc : ∃ a b o n, q = .cells a b o n) (hn : RdNow q h) : LogOk ρ F o h ρ' o' h' .rdF (.rd q h)
  | rdO {q : RQ} {n : Nat} {y : TO} (hr : Raw ρ o h ρ' o' h' []) (hh : h' = h) (hl : look o n = some y) (hb : atB ρ n q.blk) (hn : RdNow q h) : LogOk ρ F o h ρ' o' h' (.rdO n) (.rd q h)
  | eff {ns : List Nat} (hr : Raw ρ o h ρ' o' h' ns) : LogOk ρ F o h ρ' o' h' (.eff ns) (.eff h h')
  | bad {l : LogE} : LogOk ρ F o h ρ' o' h' .bad l

/-- The canonical evaluator does an operation, and K holds of what comes of it. -/
def Did (E : Env) (X : Cx) (ρ : Gh) (F : Nat → Prop) (o : Ob) (c : Nat) (af : AF) (h : AHeap) (p : Oper) (K : OK) : Prop :=
  ∃ n0 r v o' c' ρ' F' lg, (∀ n, n0 ≤ n → runOp E X.base (acall E X.base n) (aroundB X.base (aeval E X.base n)) p af h = some r) ∧ K v o' c' lg ∧
    Nx X ρ F o c h ρ' F' o' c' r.h ∧ VR c' ρ' F' r.h v r.v ∧ LogOk ρ F o h ρ' o' r.h lg r.log

section
variable {E : Env} {X : Cx} {ρ : Gh} {F : Nat → Prop} {o : Ob} {c : Nat} {af : AF} {f : Fr} {h : AHeap} {p : Oper} {K : OK}

theorem Nx.refl (H : Mem X ρ F o c h) : Nx X ρ F o c h ρ F o c h := ⟨H, fun _ _ h => h, Nat.le_refl _, fun _ h => h, fun _ _ _ h => h⟩
theorem Raw.refl (ns : List Nat) : Raw ρ o h ρ o h ns := fun n y hl _ => ⟨⟨y, hl, weak.refl y⟩, rfl, fun b _ => ⟨rfl, fun _ h => h⟩⟩

theorem Did.pure (H : Mem X ρ F o c h) {x : Value} {v : TV} (hp : apure E af p = some x) (hv : VR c ρ F h v x) (hK : K v o c .pure) : Did E X ρ F o c af h p K := by
  refine ⟨0, ⟨x, h, .pure⟩, v, o, c, ρ, F, .pure, fun n _ => ?_, hK, .refl H, hv, .pure (.refl _) rfl⟩
  unfold runOp; rw [hp]

/-- A pure operation behind which arrays are shared. -/
theorem Did.pureS (H : Mem X ρ F o c h) {o' : Ob} {F' : Nat → Prop} (H' : Mem X ρ F' o' c h) (hk : ∀ t x, VR c ρ F h t x → VR c ρ F' h t x) (hFF : ∀ b, F b → F' b) (hw : ∀ n y, look o n = some y → ∃ y', look o' n = some y' ∧ weak y y')
    {x : Value} {v : TV} (hp : apure E af p = some x) (hv : VR c ρ F' h v x) (hK : K v o' c .pure) : Did E X ρ F o c af h p K := by
  refine ⟨0, ⟨x, h, .pure⟩, v, o', c, ρ, F', .pure, fun n _ => ?_, hK, ⟨H', hk, Nat.le_refl _, hFF, fun _ _ _ h => h⟩, hv, .pure (fun n y hl _ => ⟨hw n y hl, rfl, fun b _ => ⟨rfl, fun _ h => h⟩⟩) rfl⟩
  unfold runOp; rw [hp]

/-! ### Operands -/
def vSlots (c : Nat) (ρ : Gh) (F : Nat → Prop) (h : AHeap) (f : Fr) (af : AF) : Prop := ∀ t, VR c ρ F h (fget f t) (af.get t)

theorem vev_rel (S : vSlots c ρ F h f af) {x : Operand} (hx : evOk x = true) : ∃ v, ev E af x = some v ∧ VR c ρ F h (evT f x) v := by
  cases x with
  | tmp t => exact ⟨_, rfl, S t⟩
  | const v => exact ⟨v, by simp only [ev, grd_some, and_true]; exact hx, cT_rel hx⟩
  | func g => exact ⟨_, rfl, .clo rfl (fun i t v q => by simp at q) rfl (fun i t v q => by simp at q)⟩
  | global g => simp [evOk] at hx
theorem vevs_rel (S : vSlots c ρ F h f af) : ∀ {l : List Operand}, l.all evOk = true → ∃ vs, evs E af l = some vs ∧ VRs c ρ F h (evTs f l) vs
  | [], _ => ⟨[], rfl, .nil⟩
  | x :: l, hx => by
    simp only [List.all_cons, Bool.and_eq_true] at hx
    obtain ⟨v, h1, h2⟩ := vev_rel (E := E) S hx.1
    obtain ⟨vs, h3, h4⟩ := vevs_rel S hx.2
    exact ⟨v :: vs, by simp [evs, h1, h3], .cons h2 h4⟩
/-- Parts, one by one. -/
def PRs (c : Nat) (ρ : Gh) (F : Nat → Prop) (h : AHeap) : List (Nat × TV) → List (Nat × Value) → Prop
  | [], [] => True
  | a :: l, b :: m => a.1 = b.1 ∧ VR c ρ F h a.2 b.2 ∧ PRs c ρ F h l m
  | _, _ => False
theorem vevParts_rel (S : vSlots c ρ F h f af) : ∀ {l : List (Nat × Operand)}, (l.map (·.2)).all evOk = true → ∃ vs, evParts E af l = some vs ∧ PRs c ρ F h (evParT f l) vs
  | [], _ => ⟨[], rfl, trivial⟩
  | (i, x) :: l, hx => by
    simp only [List.map_cons, List.all_cons, Bool.and_eq_true] at hx
    obtain ⟨v, h1, h2⟩ := vev_rel (E := E) S hx.1
    obtain ⟨vs, h3, h4⟩ := vevParts_rel S hx.2
    exact ⟨(i, v) :: vs, by simp [evParts, h1, h3], rfl, h2, h4⟩
theorem vevOpt_rel (S : vSlots c ρ F h f af) {x : Option Operand} (hx : x.toArray.toList.all evOk = true) : (x = none ∧ evOpt E af x = some none ∧ evTO f x = none) ∨ ∃ y v, x = some y ∧ evOpt E af x = some (some v) ∧ evTO f x = some (evT f y) ∧ VR c ρ F h (evT f y) v := by
  cases x with
  | none => exact .inl ⟨rfl, rfl, rfl⟩
  | some y =>
    have hy : evOk y = true := by simpa using hx
    obtain ⟨v, h1, h2⟩ := vev_rel (E := E) S hy
    exact .inr ⟨y, v, rfl, by simp [evOpt, h1], rfl, h2⟩

theorem force_iff {v : TV} {K : TV → Prop} (hf : force v K) : K v ∧ v ≠ .j := by
  cases v <;> simp [force] at hf ⊢ <;> exact hf

/-! ### Integers -/
theorem sameK_some {k k' : IntKind} {v w : Value} (h : sameK k k' v = some w) : k = k' ∧ v = w := by
  cases k <;> cases k' <;> simp [sameK] at h <;> exact ⟨rfl, h⟩
theorem pureV_some {s : Sem Value} {v : Value} (hs : pureV s = some v) : s = .pure v := by
  cases s <;> simp [pureV] at hs
  subst hs; rfl
theorem pureV_pure (v : Value) : pureV (pure v : Sem Value) = some v := rfl
theorem pureV_int {k : IntKind} {x : Int} {v : Value} (h : pureV (pure (.int k x) : Sem Value) = some v) : plain1 v = true := by
  rw [pureV_pure] at h; cases h; rfl
theorem vint_ok {op : BinOp} {k k' : IntKind} {x y : Int} {v : Value} (h : vint op k k' x y = some v) (t : TypeId) : pureV (binOp op t (.int k x) (.int k' y)) = some v ∧ plain1 v = true := by
  cases op <;> simp only [vint] at h
  case add | sub | mul | eql | neq | lss | leq | gtr | geq => obtain ⟨rfl, rfl⟩ := sameK_some h; exact ⟨by simp [binOp, Op.intArith, Op.intCmp, pureV, Pure.pure], rfl⟩
  case quo | rem =>
    refine ⟨h, ?_⟩
    simp only [binOp] at h
    split at h
    · simp [stuck, pureV] at h
    · simp only [Op.intDiv] at h
      split at h
      · have e : pureV (runtimePanic (.error "integer divide by zero") : Sem Value) = none := rfl
        rw [e] at h; cases h
      · exact pureV_int h
  case and | or | xor | andNot =>
    refine ⟨h, ?_⟩
    simp only [binOp] at h
    split at h
    · simp [stuck, pureV] at h
    · exact pureV_int h
  case shl | shr =>
    refine ⟨h, ?_⟩
    simp only [binOp, Op.shift] at h
    split at h
    · have e : pureV (runtimePanic (.error "negative shift amount") : Sem Value) = none := rfl
      rw [e] at h; cases h
    · exact pureV_int h

/-! ### Tables -/
def unS : TV → Value
  | .s v => v
  | _ => undef
/-- A table says what the other one says. -/
structure EnvLe (T E : Env) : Prop where
  desc : ∀ t d, T.desc t = some d → E.desc t = some d
  size : ∀ t n, T.size t = some n → E.size t = some n
  bytes : ∀ t n, T.bytes t = some n → E.bytes t = some n
  zero : ∀ t z, T.zero t = some z → E.zero t = some z ∧ plainV z = true
  eq : ∀ t (a b : Array Value) z xs ys r, T.eqOk t = true → T.zero t = some z → veqK z.cells.toList xs ys = some r → a.toList = xs.map unS → b.toList = ys.map unS → E.eqOk t = true ∧ aeq E 100 t (.agg a) (.agg b) = some r
theorem EnvLe.shape {T E : Env} (L : EnvLe T E) {t : TypeId} {s : Bool × Nat} (h : shapeT T t = some s) : shapeT E t = some s := by
  unfold shapeT at h ⊢
  simp only [Option.bind_eq_some_iff] at h ⊢
  obtain ⟨d, h1, h2⟩ := h
  refine ⟨d, L.desc t d h1, ?_⟩
  cases ha : isAgg d with
  | false => rw [ha] at h2; exact h2
  | true =>
    rw [ha] at h2
    simp only [cond_true, Option.bind_eq_some_iff] at h2 ⊢
    obtain ⟨n, h3, h4⟩ := h2
    exact ⟨n, L.size t n h3, h4⟩

/-! ### Equality -/
theorem veqK_s : ∀ {zs : List Value} {xs ys : List TV} {r : Bool}, veqK zs xs ys = some r → (∀ t ∈ xs, ∃ v, t = .s v) ∧ (∀ t ∈ ys, ∃ v, t = .s v)
  | [], [], [], r, _ => ⟨by simp, by simp⟩
  | [], [], _ :: _, r, h => by simp [veqK] at h
  | [], x :: l, ys, r, h => by simp [veqK] at h
  | z :: zs, [], ys, r, h => by simp [veqK] at h
  | z :: zs, x :: l, [], r, h => by cases x <;> simp [veqK] at h
  | z :: zs, x :: l, y :: m, r, h => by
    cases x <;> try (simp [veqK] at h; done)
    rename_i v
    cases y <;> try (simp [veqK] at h; done)
    rename_i w
    simp only [veqK] at h
    split at h
    · split at h
      · rename_i hq
        obtain ⟨k1, k2⟩ := veqK_s hq
        refine ⟨fun t ht => ?_, fun t ht => ?_⟩
        · rcases List.mem_cons.1 ht with rfl | h2
          · exact ⟨_, rfl⟩
          · exact k1 t h2
        · rcases List.mem_cons.1 ht with rfl | h2
          · exact ⟨_, rfl⟩
          · exact k2 t h2
      · cases h
    · cases h
theorem VRs_s : ∀ {xs : List TV} {a : List Value}, VRs c ρ F h xs a → (∀ t ∈ xs, ∃ v, t = .s v) → a = xs.map unS
  | [], a, H, _ => by rw [H.inv_nil]; rfl
  | x :: l, a, H, hs => by
    obtain ⟨v, m, rfl, h1, h2⟩ := H.inv_cons
    obtain ⟨w, rfl⟩ := hs x List.mem_cons_self
    rw [h1.inv_s.1, VRs_s h2 fun t ht => hs t (List.mem_cons_of_mem _ ht)]
    rfl

/-- What is known of a value that is nil, or is not. -/
def NilV : Nat → Bool → Value → Prop
  | 0, true, x => x = .pointer none
  | 0, false, x => ∃ a, x = .pointer (some a)
  | 1, true, x => x = .map none
  | 1, false, x => ∃ a, x = .map (some a)
  | 2, true, x => x = .nilFunc
  | 2, false, x => ∃ g a k, x = .func g a k
  | 3, true, x => x = .nilIface
  | 3, false, x => ∃ t v, x = .iface t v
  | 4, true, x => x = .slice none 0 0
  | 4, false, x => ∃ a l k, x = .slice (some a) l k
  | _, _, _ => False
theorem nilK_rel {v : TV} {x : Value} (hv : VR c ρ F h v x) {d : Nat} {b : Bool} (hb : nilK v = some (d, b)) : NilV d b x := by
  cases hv with
  | s hp =>
    unfold nilK at hb
    split at hb <;> simp_all <;> obtain ⟨rfl, rfl⟩ := hb <;> simp [NilV]
  | nil he => subst he; unfold nilK at hb; split at hb <;> simp_all <;> obtain ⟨rfl, rfl⟩ := hb <;> simp [NilV]
  | sl h1 h2 h3 =>
    unfold nilK at hb
    split at hb <;> simp_all
    obtain ⟨rfl, rfl⟩ := hb
    exact ⟨_, _, _, rfl⟩
  | ptr => simp [nilK] at hb; obtain ⟨rfl, rfl⟩ := hb; exact ⟨_, rfl⟩
  | ep => simp [nilK] at hb; obtain ⟨rfl, rfl⟩ := hb; exact ⟨_, rfl⟩
  | mp => simp [nilK] at hb; obtain ⟨rfl, rfl⟩ := hb; exact ⟨_, rfl⟩
  | ifc => simp [nilK] at hb; obtain ⟨rfl, rfl⟩ := hb; exact ⟨_, _, rfl⟩
  | clo => simp [nilK] at hb; obtain ⟨rfl, rfl⟩ := hb; exact ⟨_, _, _, rfl⟩
  | _ => simp [nilK] at hb

theorem aeq_nil {E : Env} {t : TypeId} {ds : TypeDesc} {d : Nat} {p q : Bool} {a b : Value} (hd : E.desc t = some ds) (hk : descK ds = some d) (ha : NilV d p a) (hb : NilV d q b) (hpq : (p || q) = true) : aeq E 100 t a b = some (p && q) := by
  cases ds <;> simp [descK] at hk <;> subst hk <;> cases p <;> cases q <;> simp at hpq <;> simp only [NilV] at ha hb
  all_goals
    (try obtain ⟨_, rfl⟩ := ha)
    (try obtain ⟨_, rfl⟩ := hb)
    (try obtain ⟨_, _, rfl⟩ := ha)
    (try obtain ⟨_, _, rfl⟩ := hb)
    (try obtain ⟨_, _, _, rfl⟩ := ha)
    (try obtain ⟨_, _, _, rfl⟩ := hb)
    (try subst ha)
    (try subst hb)
    (show aeq E (99 + 1) t _ _ = _)
    unfold aeq
    rw [hd]
    rfl

end
end Go.M

namespace Go.M
open Go

/-- What a pure operation comes to. -/
def PRes (c : Nat) (ρ : Gh) (F : Nat → Prop) (h : AHeap) (o : Ob) (canon : Option Value) (K : OK) : Prop := ∃ v x, canon = some x ∧ VR c ρ F h v x ∧ K v o c .pure

section
variable {T E : Env} {X : Cx} {ρ : Gh} {F : Nat → Prop} {o : Ob} {c : Nat} {af : AF} {f : Fr} {h : AHeap} {p : Oper} {K : OK}

theorem abin_other {op : BinOp} {t : TypeId} {x y : Operand} {a b : Value} {r : Bool} (hi : ∀ k n k' m, ¬ (a = .int k n ∧ b = .int k' m)) (hs : ∀ s r, ¬ (a = .string s ∧ b = .string r)) (he : eqCond E t x y a b = true) (hq : aeq E 100 t a b = some r) :
    (op = .eql → abin E op t x y a b = some (.bool r)) ∧ (op = .neq → abin E op t x y a b = some (.bool !r)) := by
  constructor
  · rintro rfl
    unfold abin
    split
    · exact absurd ⟨rfl, rfl⟩ (hi _ _ _ _)
    · exact absurd ⟨rfl, rfl⟩ (hs _ _)
    · simp [grd, he, hq]
  · rintro rfl
    unfold abin
    split
    · exact absurd ⟨rfl, rfl⟩ (hi _ _ _ _)
    · exact absurd ⟨rfl, rfl⟩ (hs _ _)
    · simp [grd, he, hq]

theorem pure1_ok {v : Option Value} (hp : pure1 v o c K) {canon : Option Value} (hc : ∀ x, v = some x → canon = some x) : PRes c ρ F h o canon K := by
  unfold pure1 at hp
  split at hp
  · rename_i x
    split at hp
    · rename_i h2; exact ⟨_, _, hc x rfl, .s h2, hp⟩
    · exact hp.elim
  · exact hp.elim

theorem NilV.not_int {d : Nat} {b : Bool} {x : Value} (hv : NilV d b x) : (∀ k n, x ≠ .int k n) ∧ (∀ s, x ≠ .string s) ∧ (∀ a, x ≠ .agg a) ∧ (x = .nilIface → d = 3 ∧ b = true) := by
  unfold NilV at hv
  split at hv
  all_goals
    (try obtain ⟨_, rfl⟩ := hv)
    (try obtain ⟨_, _, rfl⟩ := hv)
    (try obtain ⟨_, _, _, rfl⟩ := hv)
    (try subst hv)
    (try (exact hv.elim))
    (try simp)

theorem sameK_any {k k' : IntKind} {v w x : Value} (h : sameK k k' v = some x) : sameK k k' w = some w := by
  unfold sameK at h ⊢
  split at h <;> first | rfl | cases h
theorem ask_ok {p : Prop} (hw : ask p o c K) {canon : Option Value} (b : Bool) (hb : b = true ↔ p) (hc : canon = some (.bool b)) : PRes c ρ F h o canon K := by
  cases b with
  | true => exact ⟨_, _, hc, .s rfl, hw.1 (hb.1 rfl)⟩
  | false => exact ⟨_, _, hc, .s rfl, hw.2 fun hp => by have := hb.2 hp; cases this⟩
theorem askK_ok {p : Prop} {k k' : IntKind} {op : BinOp} {t : TypeId} {n m : Int} (hw : askK k k' p o c K) (b : Bool) (hb : b = true ↔ p) (hv : vint op k k' n m = sameK k k' (.bool b)) : PRes c ρ F h o (pureV (binOp op t (.int k n) (.int k' m))) K := by
  unfold askK at hw
  split at hw
  · rename_i hs
    exact ask_ok hw b hb ((vint_ok (hv.trans (sameK_any hs)) t).1)
  · exact hw.elim

theorem wbin_ok (L : EnvLe T E) {op : BinOp} {t : TypeId} {x y : Operand} {a b : TV} {xa xb : Value} (hw : wbin T op t x y a b o c K) (ha : VR c ρ F h a xa) (hb : VR c ρ F h b xb) : PRes c ρ F h o (abin E op t x y xa xb) K := by
  unfold wbin at hw
  split at hw
  · rename_i k n k' m
    rw [ha.inv_s.1, hb.inv_s.1]
    show PRes c ρ F h o (pureV (binOp op t (.int k n) (.int k' m))) K
    split at hw
    · exact askK_ok hw (n == m) (by simp) rfl
    · exact askK_ok hw (n != m) (by simp) rfl
    · exact askK_ok hw (decide (n < m)) (by simp) rfl
    · exact askK_ok hw (decide (n ≤ m)) (by simp) rfl
    · exact askK_ok hw (decide (n > m)) (by simp) rfl
    · exact askK_ok hw (decide (n ≥ m)) (by simp) rfl
    · exact pure1_ok hw fun v hv => (vint_ok hv t).1
  · rename_i s r
    rw [ha.inv_s.1, hb.inv_s.1]
    split at hw
    · exact ask_ok hw (s.data.toList == r.data.toList) (by simp) rfl
    · exact ask_ok hw (!(s.data.toList == r.data.toList)) (by simp) rfl
    · exact ask_ok hw (Op.bytesLess s.data.toList r.data.toList) (by simp) rfl
    · refine pure1_ok hw fun v hv => ?_
      simp only [abin] at hv ⊢
      split at hv
      · exact hv
      · exact hv
      · exact hv
      · exact hv
      · exact hv
  · rename_i p q
    rw [ha.inv_s.1, hb.inv_s.1]
    split at hw
    · rename_i hd
      have hq : aeq E 100 t (.bool p) (.bool q) = some (p == q) := by
        show aeq E (99 + 1) t _ _ = _
        unfold aeq
        rw [L.desc _ _ hd]; rfl
      obtain ⟨k1, k2⟩ := abin_other (op := op) (E := E) (x := x) (y := y) (t := t) (a := .bool p) (b := .bool q) (by rintro _ _ _ _ ⟨e, _⟩; cases e) (by rintro _ _ ⟨e, _⟩; cases e) rfl hq
      split at hw
      · exact ⟨_, _, k1 rfl, .s rfl, hw⟩
      · exact ⟨_, _, k2 rfl, .s rfl, hw⟩
      · exact hw.elim
    · exact hw.elim
  · rename_i xs ys
    obtain ⟨a', rfl, h1⟩ := ha.inv_agg
    obtain ⟨b', rfl, h2⟩ := hb.inv_agg
    split at hw
    · rename_i z he hz
      split at hw
      case h_2 => exact hw.elim
      rename_i r hr
      obtain ⟨s1, s2⟩ := veqK_s hr
      obtain ⟨e1, e2⟩ := L.eq t a' b' z xs ys r he hz hr (VRs_s h1 s1) (VRs_s h2 s2)
      obtain ⟨k1, k2⟩ := abin_other (op := op) (E := E) (x := x) (y := y) (t := t) (a := .agg a') (b := .agg b') (by rintro _ _ _ _ ⟨e, _⟩; cases e) (by rintro _ _ ⟨e, _⟩; cases e) e1 e2
      split at hw
      · exact ask_ok hw r Iff.rfl (k1 rfl)
      · exact ask_ok hw (!r) (by simp) (k2 rfl)
      · exact hw.elim
    · exact hw.elim
  · split at hw
    · rename_i d d1 p d2 q hd hp hq
      split at hw
      · rename_i hc
        simp only [Bool.and_eq_true, beq_iff, Bool.or_eq_true, Bool.not_eq_true'] at hc
        obtain ⟨⟨⟨rfl, rfl⟩, hpq⟩, hcc⟩ := hc
        simp only [Option.bind_eq_some_iff] at hd
        obtain ⟨ds, hd1, hd2⟩ := hd
        have va := nilK_rel ha hp
        have vb := nilK_rel hb hq
        have hae := aeq_nil (L.desc _ _ hd1) hd2 va vb (by simpa using hpq)
        obtain ⟨a1, a2, a3, a4⟩ := va.not_int
        obtain ⟨b1, b2, b3, b4⟩ := vb.not_int
        have he : eqCond E t x y xa xb = true := by
          unfold eqCond
          split
          · obtain ⟨rfl, rfl⟩ := a4 rfl
            obtain ⟨_, rfl⟩ := b4 rfl
            rcases hcc with (hcc | hcc) | hcc
            · simp at hcc
            · rw [hcc]; rfl
            · rw [hcc]; simp
          · exact absurd rfl (a3 _)
          · rfl
        obtain ⟨k1, k2⟩ := abin_other (op := op) (E := E) (x := x) (y := y) (t := t) (a := xa) (b := xb) (by rintro k n _ _ ⟨e, _⟩; exact a1 k n e) (by rintro s _ ⟨e, _⟩; exact a2 s e) he hae
        split at hw
        · exact ⟨_, _, k1 rfl, .s rfl, hw⟩
        · exact ⟨_, _, k2 rfl, .s rfl, hw⟩
        · exact hw.elim
      · exact hw.elim
    · exact hw.elim

/-- A pointer into an array that is there. -/
theorem wp_ptr (H : Mem X ρ F o c h) {m i q : Nat} {z : Nat} {w : Bool} {es : List (List TV)} (hl : look o m = some (.arr z w es)) {x : Value} (hx : VR c ρ F h (.wp m i q) x) :
    ∃ b, ρ m = some (.arr b z es.length) ∧ x = .pointer (some ⟨b, i * z + q, none⟩) := by
  cases hx with
  | wp hn h1c ha h0 =>
    have hO := H.objs m _ hl
    cases hO with
    | nil hb hz => exact absurd hb (h0 _)
    | arr hb hg hf ht hbf hz hlen he hfz hc => exact ⟨_, hb, ha _ _ _ hb⟩

theorem wfieldAddr_ok (L : EnvLe T E) (H : Mem X ρ F o c h) {s : TypeId} {x : TV} {fd : Nat} {xv : Value} (hw : wfieldAddr T s x fd o c K) (hx : VR c ρ F h x xv) :
    PRes c ρ F h o ((E.desc s).bind fun d => (asPtr xv).bind fun p => (match d with
    | .struct fields => (fields[fd]?).bind fun fl => (E.size fl.type).bind fun n => grd (Nat.blt 0 n) (some (.pointer (some ⟨p.1, p.2 + fl.offset, none⟩)))
    | _ => none)) K := by
  unfold wfieldAddr at hw
  split at hw
  · rename_i fields hd
    split at hw
    · rename_i fl hf
      split at hw
      · rename_i n hn
        split at hw
        · rename_i h0
          have fin : ∀ b q, xv = Value.pointer (some ⟨b, q, none⟩) → (((E.desc s).bind fun d => (asPtr xv).bind fun p => (match d with
              | .struct fields => (fields[fd]?).bind fun fl => (E.size fl.type).bind fun n => grd (Nat.blt 0 n) (some (Value.pointer (some ⟨p.1, p.2 + fl.offset, none⟩)))
              | _ => none)) = some (Value.pointer (some ⟨b, q + fl.offset, none⟩))) := by
            rintro b q rfl
            rw [L.desc _ _ hd]
            simp only [Option.bind_some, asPtr, hf, L.size _ _ hn, h0, grd]
          split at hw
          · cases hx with
            | ptr hb => exact ⟨_, _, fin _ _ rfl, .ptr hb, hw⟩
          · cases hx with
            | ep h1 h2 h3 h4 h5 => exact ⟨_, _, fin _ _ rfl, by rw [Nat.add_assoc]; exact .ep h1 h2 h3 h4 h5, hw⟩
          · split at hw
            · rename_i hl
              obtain ⟨b, hb, rfl⟩ := wp_ptr H hl hx
              cases hx with
              | wp hn h1c ha h0 =>
                refine ⟨_, _, fin _ _ rfl, .wp hn rfl (fun b' z' l' hx' => ?_) h0, hw⟩
                rw [hb] at hx'; cases hx'; rw [Nat.add_assoc]
            · exact hw.elim
          · exact hw.elim
        · exact hw.elim
      · exact hw.elim
    · exact hw.elim
  · exact hw.elim

theorem ofCells_rel {agg : Bool} {l : List TV} {v : TV} (ho : ofCells agg l = some v) {m : List Value} (H : VRs c ρ F h l m) : ∃ x, fromCells agg m = some x ∧ VR c ρ F h v x := by
  unfold ofCells at ho
  split at ho
  · cases ho; exact ⟨_, rfl, .agg_of (by simpa using H)⟩
  · cases ho
    obtain ⟨x, m', rfl, h1, h2⟩ := H.inv_cons
    rw [h2.inv_nil]
    exact ⟨x, rfl, h1⟩
  · cases ho
theorem takeN_rel {n : Nat} {l r : List TV} (ht : takeN n l = some r) {m : List Value} (H : VRs c ρ F h l m) : ∃ q, takeN n m = some q ∧ VRs c ρ F h r q := by
  rw [takeN_some] at ht
  obtain ⟨h1, rfl⟩ := ht
  exact ⟨m.take n, by rw [takeN_some]; exact ⟨by rw [← H.1]; exact h1, rfl⟩, H.take n⟩

theorem wfield_ok (L : EnvLe T E) {t : TypeId} {x : TV} {fd : Nat} {xv : Value} (hw : wfield T t x fd o c K) (hx : VR c ρ F h x xv) :
    PRes c ρ F h o ((E.desc t).bind fun d => (asA xv).bind fun cs => (match d with
    | .struct fields => (fields[fd]?).bind fun fl => partV E fl.type cs fl.offset
    | _ => none)) K := by
  unfold wfield at hw
  split at hw
  · rename_i fields hd
    split at hw
    · rename_i fl cs hf
      split at hw
      · rename_i agg n hs
        split at hw
        · rename_i l hl
          split at hw
          · rename_i v hv
            obtain ⟨hK, _⟩ := force_iff hw
            obtain ⟨a, rfl, h1⟩ := hx.inv_agg
            obtain ⟨q, h2, h3⟩ := takeN_rel hl (h1.drop fl.offset)
            obtain ⟨x, h4, h5⟩ := ofCells_rel hv h3
            refine ⟨v, x, ?_, h5, hK⟩
            rw [L.desc _ _ hd]
            simp only [Option.bind_some, asA, hf, partV, L.shape hs, h2, h4]
          · exact hw.elim
        · exact hw.elim
      · exact hw.elim
    · exact hw.elim
  · exact hw.elim

theorem asIT_rel {i : TV} {x : Value} {n : Int} (hi : asIT i = some n) (hx : VR c ρ F h i x) : asI x = some n := by
  unfold asIT at hi
  split at hi
  · cases hi; rw [hx.inv_s.1]; rfl
  · cases hi

theorem windexAddr_ok (L : EnvLe T E) (H : Mem X ρ F o c h) {t : TypeId} {x i : TV} {xv iv : Value} (hw : windexAddr T t x i o c K) (hx : VR c ρ F h x xv) (hi : VR c ρ F h i iv) : PRes c ρ F h o (aindexAddr E t xv iv) K := by
  unfold windexAddr at hw
  split at hw
  · rename_i elem i' hd hi'
    have hI := asIT_rel hi' hi
    split at hw
    · rename_i n hn
      have fin : ∀ b q z len cap, xv = Value.slice (some ⟨b, q, some z⟩) len cap → 0 ≤ i' → i' < len → aindexAddr E t xv iv = some (.pointer (some ⟨b, q + i'.toNat * n, none⟩)) := by
        rintro b q z len cap rfl h1 h2
        unfold aindexAddr
        rw [L.desc _ _ hd, hI]
        simp only [Option.bind_some, L.size _ _ hn, grd, h1, h2, decide_true, Bool.and_self]
      split at hw
      · rename_i z es fl
        split at hw
        · rename_i hz
          rw [beq_iff] at hz
          obtain ⟨e, ⟨h0, he⟩, hK⟩ := hw
          cases hx with
          | nil hes => subst hes; simp at he
          | sl q1 q2 q3 q4 q5 q6 q7 q8 q9 q10 =>
            have hlt := (List.getElem?_eq_some_iff.1 he).1
            refine ⟨_, _, fin _ _ _ _ _ rfl h0 (by omega), ?_, hK⟩
            have hel := q8 e (List.mem_of_getElem? he)
            rw [← Nat.add_zero (_ + _ * n)]
            refine .ep q1 q2 ?_ (q9 e (List.mem_of_getElem? he)) fun j t v r1 r2 => q10 _ j e t v he r1 (by rw [hz]; exact r2)
            rw [hel, ← hz]
            have : (i'.toNat + 1) * z ≤ es.length * z := Nat.mul_le_mul_right z hlt
            rw [Nat.add_mul] at this
            subst q4
            omega
        · exact hw.elim
      · rename_i m
        split at hw
        · rename_i z w es hl
          split at hw
          · rename_i hz
            rw [beq_iff] at hz
            obtain ⟨⟨h0, h1⟩, hK⟩ := hw
            have hO := H.objs m _ hl
            cases hO with
            | nil hb hz' => simp at h1; omega
            | arr hb hg hf ht hbf hz' hlen he hfz hc =>
              cases hx with
              | tk hn' h1c ha h0' =>
                obtain ⟨cap, _, rfl⟩ := ha _ _ _ hb
                refine ⟨_, _, fin _ _ _ _ _ rfl h0 h1, ?_, hK⟩
                refine .wp hn' rfl (fun b' z2 l2 hx' => ?_) (fun z2 hx' => by rw [hb] at hx'; cases hx')
                rw [hb] at hx'; cases hx'
                rw [Nat.zero_add, Nat.add_zero, hz]
          · exact hw.elim
        · exact hw.elim
      · exact hw.elim
    · exact hw.elim
  · rename_i len elem i' hd hi'
    have hI := asIT_rel hi' hi
    split at hw
    · rename_i n hn
      obtain ⟨⟨h1, h2⟩, hw⟩ := hw
      have fin : ∀ b q, xv = Value.pointer (some ⟨b, q, none⟩) → aindexAddr E t xv iv = some (.pointer (some ⟨b, q + i'.toNat * n, none⟩)) := by
        rintro b q rfl
        unfold aindexAddr
        rw [L.desc _ _ hd, hI]
        simp only [Option.bind_some, L.size _ _ hn, grd, h1, h2, decide_true, Bool.and_self]
      split at hw
      · cases hx with
        | ptr hb => exact ⟨_, _, fin _ _ rfl, .ptr hb, hw⟩
      · cases hx with
        | ep q1 q2 q3 q4 q5 => exact ⟨_, _, fin _ _ rfl, by rw [Nat.add_assoc]; exact .ep q1 q2 q3 q4 q5, hw⟩
      · exact hw.elim
    · exact hw.elim
  · exact hw.elim

theorem windex_ok (L : EnvLe T E) {t : TypeId} {x i : TV} {xv iv : Value} (hw : windex T t x i o c K) (hx : VR c ρ F h x xv) (hi : VR c ρ F h i iv) : PRes c ρ F h o (aindex E t xv iv) K := by
  unfold windex at hw
  split at hw
  · rename_i i' hd hi'
    have hI := asIT_rel hi' hi
    split at hw
    · obtain ⟨b, ⟨h1, h2⟩, hK⟩ := hw
      rw [hx.inv_s.1]
      refine ⟨_, _, ?_, .s rfl, hK⟩
      unfold aindex
      rw [L.desc _ _ hd, hI]
      simp only [Option.bind_some, grd, h1, decide_true, h2]
    · exact hw.elim
  · rename_i len elem i' hd hi'
    have hI := asIT_rel hi' hi
    split at hw
    · rename_i z agg n cs hz hs
      obtain ⟨⟨h1, h2⟩, hw⟩ := hw
      split at hw
      · rename_i l hl
        split at hw
        · rename_i v hv
          obtain ⟨hK, _⟩ := force_iff hw
          obtain ⟨a, rfl, k1⟩ := hx.inv_agg
          obtain ⟨q, h3, h4⟩ := takeN_rel hl (k1.drop (i'.toNat * z))
          obtain ⟨x, h5, h6⟩ := ofCells_rel hv h4
          refine ⟨v, x, ?_, h6, hK⟩
          unfold aindex
          rw [L.desc _ _ hd, hI]
          simp only [Option.bind_some, L.size _ _ hz, grd, h1, h2, decide_true, Bool.and_self, partV, L.shape hs, h3, h5]
        · exact hw.elim
      · exact hw.elim
    · exact hw.elim
  · exact hw.elim

end
end Go.M

namespace Go.M
open Go

section
variable {T E : Env} {X : Cx} {ρ : Gh} {F : Nat → Prop} {o : Ob} {c : Nat} {af : AF} {f : Fr} {h : AHeap} {p : Oper} {K : OK}

/-- A pure operation behind which arrays may be shared. -/
def PSRes (X : Cx) (c : Nat) (ρ : Gh) (F : Nat → Prop) (h : AHeap) (o : Ob) (canon : Option Value) (K : OK) : Prop :=
  ∃ v x o' F', canon = some x ∧ Mem X ρ F' o' c h ∧ (∀ t x, VR c ρ F h t x → VR c ρ F' h t x) ∧ (∀ b, F b → F' b) ∧ (∀ n y, look o n = some y → ∃ y', look o' n = some y' ∧ weak y y') ∧ VR c ρ F' h v x ∧ K v o' c .pure

theorem PRes.toS (H : Mem X ρ F o c h) {canon : Option Value} (R : PRes c ρ F h o canon K) : PSRes X c ρ F h o canon K := by
  obtain ⟨v, x, h1, h2, h3⟩ := R
  exact ⟨v, x, o, F, h1, H, fun _ _ h => h, fun _ h => h, fun n y hl => ⟨y, hl, weak.refl y⟩, h2, h3⟩
theorem PSRes.did {canon : Option Value} (H : Mem X ρ F o c h) (R : PSRes X c ρ F h o canon K) (hp : apure E af p = canon) : Did E X ρ F o c af h p K := by
  obtain ⟨v, x, o', F', h1, h2, h3, h4, h5, h6, h7⟩ := R
  exact Did.pureS H h2 h3 h4 h5 (hp.trans h1) h6 h7

theorem weak_shareO (o : Ob) (m : Nat) : ∀ n y, look o n = some y → ∃ y', look (shareO o m) n = some y' ∧ weak y y' := by
  intro n y hl
  unfold shareO
  split
  · rename_i z w es hm
    rw [look_upd1]
    by_cases e : n = m
    · subst e
      rw [if_pos rfl, hm]
      rw [hm] at hl; cases hl
      exact ⟨_, rfl, rfl, rfl, fun h => by cases h⟩
    · rw [if_neg e]; exact ⟨y, hl, weak.refl y⟩
  · exact ⟨y, hl, weak.refl y⟩

theorem vbound_some {d y : Nat} {i : Int} (hi : 0 ≤ i) (hy : i ≤ y) (k : IntKind) : boundV d y (some (.int k i)) = some i.toNat := by
  simp [boundV, grd, hi, hy]

/-- A bound's value. -/
theorem bnd_rel {d : Nat} {lo : Option TV} {lov : Option Value} {l : Int} (hb : bnd d lo = some l) (hl : (lo = none ∧ lov = none) ∨ ∃ y v, lo = some y ∧ lov = some v ∧ VR c ρ F h y v) :
    (lov = none ∧ l = d) ∨ ∃ k, lov = some (.int k l) := by
  rcases hl with ⟨rfl, rfl⟩ | ⟨y, v, rfl, rfl, hv⟩
  · simp [bnd] at hb; exact .inl ⟨rfl, hb.symm⟩
  · unfold bnd at hb
    split at hb
    · rename_i he; cases he
    · rename_i k i he
      cases he; cases hb
      rw [hv.inv_s.1]
      exact .inr ⟨k, rfl⟩
    · cases hb
theorem boundV_rel {d y : Nat} {l : Int} {lov : Option Value} (h1 : (lov = none ∧ l = d) ∨ ∃ k, lov = some (.int k l)) (h0 : 0 ≤ l) (hy : l ≤ y) : boundV d y lov = some l.toNat := by
  rcases h1 with ⟨rfl, rfl⟩ | ⟨k, rfl⟩
  · simp [boundV]
  · exact vbound_some h0 hy k

/-- A part of a slice. -/
theorem asliceV_some {t elem : TypeId} {n z b o' len cap : Nat} {lo hi mx : Option Value} {l hh m : Nat} (hd : E.desc t = some (.slice elem)) (hn : E.size elem = some n) (hz : n = z) (hm : boundV cap len mx = some m)
    (hhi : boundV len (bif mx.isSome then m else len) hi = some hh) (hc : hi.isSome || mx.isNone) (hlo : boundV 0 hh lo = some l) :
    asliceV E t (.slice (some ⟨b, o', some z⟩) len cap) lo hi mx = some (.slice (some (bif Nat.beq m l then ⟨b, o', some z⟩ else ⟨b, o' + l * z, some z⟩)) (hh - l) (m - l)) := by
  unfold asliceV
  subst hz
  rw [hd]
  simp only [Option.bind_some, hn, hm, hhi, hlo, grd, hc]
  simp

theorem slice_part {z b oo len cap : Nat} {es : List (List TV)} {fl : Bool} (hv : VR c ρ F h (.sl z es fl) (.slice (some ⟨b, oo, some z⟩) len cap)) {l hh m : Nat} (hl : l ≤ hh) (hhl : hh ≤ es.length) (hm : hh ≤ m) (fl' : Bool) (hfl : fl' = true → m = hh) :
    VR c ρ F h (.sl z ((es.take hh).drop l) fl') (.slice (some (bif Nat.beq m l then ⟨b, oo, some z⟩ else ⟨b, oo + l * z, some z⟩)) (hh - l) (m - l)) := by
  cases hv with
  | sl q1 q2 q3 q4 q5 q6 q7 q8 q9 q10 =>
    have hlen : ((es.take hh).drop l).length = hh - l := by simp; omega
    by_cases e : m = l
    · have e2 : hh = l := by omega
      subst e2
      subst e
      rw [show (bif Nat.beq m m then (⟨b, oo, some z⟩ : Addr) else ⟨b, oo + m * z, some z⟩) = ⟨b, oo, some z⟩ by simp]
      refine .sl q1 q2 q3 hlen (by omega) (fun _ => rfl) (by simp; omega) (fun e he => ?_) (fun e he => ?_) fun i j e t v r1 => ?_
      · exact q8 e (List.mem_of_mem_take (List.mem_of_mem_drop he))
      · exact q9 e (List.mem_of_mem_take (List.mem_of_mem_drop he))
      · have := (List.getElem?_eq_some_iff.1 r1).1; omega
    · rw [show (bif Nat.beq m l then (⟨b, oo, some z⟩ : Addr) else ⟨b, oo + l * z, some z⟩) = ⟨b, oo + l * z, some z⟩ by
        rw [nbeq]; simp [e]]
      refine .sl q1 q2 q3 hlen (by omega) (fun h => by rw [hfl h]) ?_ (fun e he => ?_) (fun e he => ?_) fun i j e t v r1 r2 r3 => ?_
      · have : (l + (hh - l)) * z ≤ es.length * z := Nat.mul_le_mul_right z (by omega)
        rw [Nat.add_mul] at this
        subst q4; omega
      · exact q8 e (List.mem_of_mem_take (List.mem_of_mem_drop he))
      · exact q9 e (List.mem_of_mem_take (List.mem_of_mem_drop he))
      · rw [List.getElem?_drop, List.getElem?_take] at r1
        split at r1
        · refine q10 (l + i) j e t v r1 r2 ?_
          rw [← r3, Nat.add_mul]
          congr 1; omega
        · cases r1


theorem asliceV_nil {t elem n : Nat} {lo hi mx : Option Value} {l hh m : Nat} (hd : E.desc t = some (.slice elem)) (hn : E.size elem = some n) (hm : boundV 0 0 mx = some m)
    (hhi : boundV 0 (bif mx.isSome then m else 0) hi = some hh) (hc : hi.isSome || mx.isNone) (hlo : boundV 0 hh lo = some l) :
    asliceV E t (.slice none 0 0) lo hi mx = some (.slice none 0 0) := by
  unfold asliceV
  rw [hd]
  simp only [Option.bind_some, hn, hm, hhi, hlo, grd, hc]

/-- An operand that may be missing. -/
def OptR (c : Nat) (ρ : Gh) (F : Nat → Prop) (h : AHeap) (y : Option TV) (v : Option Value) : Prop := (y = none ∧ v = none) ∨ ∃ y' v', y = some y' ∧ v = some v' ∧ VR c ρ F h y' v'

theorem wslice_core (L : EnvLe T E) {t : TypeId} {z n l hh m : Nat} {elem : TypeId} {es : List (List TV)} {fl : Bool} {xv : Value} {lov hiv mxv : Option Value} (hd : T.desc t = some (.slice elem)) (hn : T.size elem = some n) (hz : z = n ∨ z = 0)
    (hx : VR c ρ F h (.sl z es fl) xv) (hl : l ≤ hh) (hhl : hh ≤ es.length) (hm : hh ≤ m) (fl' : Bool) (hfl : fl' = true → m = hh)
    (b1 : ∀ len cap, len = es.length → len ≤ cap → ∃ m', boundV cap len mxv = some m' ∧ boundV len (bif mxv.isSome then m' else len) hiv = some hh ∧ hh ≤ m' ∧ (fl' = true → m' = hh)) (b2 : (hiv.isSome || mxv.isNone) = true) (b3 : boundV 0 hh lov = some l) :
    ∃ x, asliceV E t xv lov hiv mxv = some x ∧ VR c ρ F h (.sl z ((es.take hh).drop l) fl') x := by
  cases hx with
  | nil he =>
    subst he
    obtain ⟨m', k1, k2, _, _⟩ := b1 0 0 rfl (Nat.le_refl _)
    refine ⟨_, asliceV_nil (L.desc _ _ hd) (L.size _ _ hn) k1 k2 b2 b3, .nil (by simp)⟩
  | sl q1 q2 q3 q4 q5 q6 q7 q8 q9 q10 =>
    have hzn : n = z := by omega
    obtain ⟨m', k1, k2, k3, k4⟩ := b1 _ _ q4.symm q5
    refine ⟨_, asliceV_some (L.desc _ _ hd) (L.size _ _ hn) hzn k1 k2 b2 b3, slice_part (.sl q1 q2 q3 q4 q5 q6 q7 q8 q9 q10) hl hhl k3 fl' k4⟩

theorem esOf_rel (H : Mem X ρ F o c h) {x : TV} {z : Nat} {es : List (List TV)} (he : esOf o x = some (z, es)) : ∃ F' , Mem X ρ F' (share1 o x) c h ∧ (∀ t v, VR c ρ F h t v → VR c ρ F' h t v) ∧ (∀ b, F b → F' b) ∧ (∀ n y, look o n = some y → ∃ y', look (share1 o x) n = some y' ∧ weak y y') ∧
    ∀ xv, VR c ρ F h x xv → ∃ fl, VR c ρ F' h (.sl z es fl) xv := by
  unfold esOf at he
  split at he
  · cases he; exact ⟨F, H, fun _ _ h => h, fun _ h => h, fun n y hl => ⟨y, hl, weak.refl y⟩, fun xv hx => ⟨_, hx⟩⟩
  · rename_i m
    split at he
    · rename_i w es' hl
      cases he
      obtain ⟨F', h1, h2, h3, h4⟩ := H.share m
      exact ⟨F', h1, h2, h3, weak_shareO o m, fun xv hx => ⟨false, h4 _ _ _ _ hl hx⟩⟩
    · cases he
  · cases he

theorem wslice_ok (L : EnvLe T E) (H : Mem X ρ F o c h) {t : TypeId} {x : TV} {xv : Value} {lo hi mx : Option TV} {lov hiv mxv : Option Value} (hw : wslice T t x lo hi mx o c K) (hx : VR c ρ F h x xv) (hlo : OptR c ρ F h lo lov) (hhi : OptR c ρ F h hi hiv) (hmx : OptR c ρ F h mx mxv) :
    PSRes X c ρ F h o (asliceV E t xv lov hiv mxv) K := by
  unfold wslice at hw
  split at hw
  · rename_i hd
    split at hw
    · rename_i s
      split at hw
      · rename_i hh l e1 e2
        obtain ⟨⟨h1, h2, h3⟩, hK⟩ := hw
        rcases hmx with ⟨_, rfl⟩ | ⟨_, _, e, _⟩
        · refine PRes.toS H ⟨_, _, ?_, .s rfl, hK⟩
          rw [hx.inv_s.1]
          have a1 : boundV s.size s.size hiv = some hh.toNat := boundV_rel (bnd_rel e1 hhi) (by omega) h3
          have a2 : boundV 0 hh.toNat lov = some l.toNat := boundV_rel (bnd_rel e2 hlo) h1 (by omega)
          unfold asliceV
          rw [L.desc _ _ hd]
          simp only [Option.bind_some, grd, a1, a2]
          rfl
        · cases e
      · exact hw.elim
    · exact hw.elim
  · rename_i elem hd
    split at hw
    · rename_i n z es hn he
      obtain ⟨F', k1, k2, k3, k4, k5⟩ := esOf_rel H he
      obtain ⟨fl, hxs⟩ := k5 xv hx
      split at hw
      · rename_i hz
        simp only [Bool.or_eq_true, beq_iff] at hz
        split at hw
        · rcases hmx with ⟨_, rfl⟩ | ⟨_, _, e, _⟩
          · split at hw
            · rename_i hh l e1 e2
              obtain ⟨⟨h1, h2, h3⟩, hK⟩ := hw
              obtain ⟨x', q1, q2⟩ := wslice_core L (l := l.toNat) (hh := hh.toNat) (m := hh.toNat) hd hn hz hxs (by omega) (by omega) (Nat.le_refl _) false (lov := lov) (hiv := hiv) (mxv := none) (fun h => by cases h)
                (fun len cap e3 e4 => ⟨cap, rfl, by subst e3; exact boundV_rel (bnd_rel e1 hhi) (by omega) h3, by subst e3; omega, fun h => by cases h⟩) (by simp) (boundV_rel (bnd_rel e2 hlo) h1 (by omega))
              exact ⟨_, x', _, F', q1, k1, k2, k3, k4, q2, hK⟩
            · exact hw.elim
          · cases e
        · rename_i m _
          split at hw
          · rename_i kk hh l m' e2 e3
            obtain ⟨⟨h1, h2, rfl, h3⟩, hK⟩ := hw
            rcases hmx with ⟨e, _⟩ | ⟨y1, v1, e, rfl, hv1⟩
            · cases e
            · cases e
              rcases hhi with ⟨e, _⟩ | ⟨y2, v2, e, rfl, hv2⟩
              · cases e
              · cases e
                have hm' : ∃ k, v1 = .int k hh := by
                  unfold asIT at e3
                  split at e3
                  · cases e3; rw [hv1.inv_s.1]; exact ⟨_, rfl⟩
                  · cases e3
                obtain ⟨k', rfl⟩ := hm'
                rw [hv2.inv_s.1]
                obtain ⟨x', q1, q2⟩ := wslice_core L (l := l.toNat) (hh := hh.toNat) (m := hh.toNat) hd hn hz hxs (by omega) (by omega) (Nat.le_refl _) true (lov := lov) (hiv := some (.int kk hh)) (mxv := some (.int k' hh)) (fun _ => rfl)
                  (fun len cap e3 e4 => ⟨hh.toNat, vbound_some (by omega) (by subst e3; omega) k', vbound_some (by omega) (by simp; omega) kk, Nat.le_refl _, fun _ => rfl⟩) rfl (boundV_rel (bnd_rel e2 hlo) h1 (by omega))
                exact ⟨_, x', _, F', q1, k1, k2, k3, k4, q2, hK⟩
          · exact hw.elim
      · exact hw.elim
    · exact hw.elim
  · exact hw.elim

end
end Go.M

namespace Go.M
open Go

section
variable {T E : Env} {X : Cx} {ρ : Gh} {F : Nat → Prop} {o : Ob} {c : Nat} {af : AF} {f : Fr} {h : AHeap} {p : Oper} {K : OK}

theorem one_cells {x : Value} (h : ∀ a, x ≠ .agg a) : x.cells = #[x] := by
  cases x <;> first | rfl | exact absurd rfl (h _)
theorem plain1_noagg {x : Value} (h : plain1 x = true) : ∀ a, x ≠ .agg a := by rintro a rfl; simp [plain1] at h
theorem cells_rel {v : TV} {x : Value} (hv : VR c ρ F h v x) (ho : okV v = true) : VRs c ρ F h (cellsT v) x.cells.toList := by
  have one : (∀ a, x ≠ .agg a) → cellsT v = [v] → VRs c ρ F h (cellsT v) x.cells.toList := fun h1 h2 => by
    rw [h2, one_cells h1]; exact .cons hv .nil
  cases hv with
  | j => simp [okV, okC] at ho
  | s hp => exact one (plain1_noagg hp) rfl
  | nil => exact one (by rintro a e; cases e) rfl
  | sl => exact one (by rintro a e; cases e) rfl
  | tk hn h1c ha h0 => exact one (by rintro a rfl; simp [slV, ptV] at h1c) rfl
  | ptr => exact one (by rintro a e; cases e) rfl
  | ep => exact one (by rintro a e; cases e) rfl
  | wp hn h1c ha h0 => exact one (by rintro a rfl; simp [slV, ptV] at h1c) rfl
  | mp => exact one (by rintro a e; cases e) rfl
  | agg hs ha => exact ⟨by simpa [cellsT, Value.cells] using hs, fun i t v h1 h2 => ha i t v h1 (by simpa [Value.cells] using h2)⟩
  | tup => simp [okV, okC] at ho
  | ifc => exact one (by rintro a e; cases e) rfl
  | clo => exact one (by rintro a e; cases e) rfl

theorem setN_rel : ∀ {n : Nat} {l xs r : List TV} {l' xs' : List Value}, setN l n xs = some r → VRs c ρ F h l l' → VRs c ρ F h xs xs' → ∃ r', setN l' n xs' = some r' ∧ VRs c ρ F h r r'
  | 0, l, [], r, l', xs', hs, hl, hx => by
    simp [setN] at hs; subst hs
    rw [hx.inv_nil]
    exact ⟨l', by simp [setN], hl⟩
  | 0, [], x :: xs, r, l', xs', hs, hl, hx => by simp [setN] at hs
  | 0, y :: l, x :: xs, r, l', xs', hs, hl, hx => by
    simp only [setN, Option.bind_eq_some_iff, Option.some.injEq] at hs
    obtain ⟨q, hq, rfl⟩ := hs
    obtain ⟨y', m, rfl, _, h2⟩ := hl.inv_cons
    obtain ⟨x', k, rfl, h3, h4⟩ := hx.inv_cons
    obtain ⟨r', h5, h6⟩ := setN_rel hq h2 h4
    exact ⟨x' :: r', by simp [setN, h5], .cons h3 h6⟩
  | n + 1, [], xs, r, l', xs', hs, hl, hx => by simp [setN] at hs
  | n + 1, y :: l, xs, r, l', xs', hs, hl, hx => by
    simp only [setN, Option.bind_eq_some_iff, Option.some.injEq] at hs
    obtain ⟨q, hq, rfl⟩ := hs
    obtain ⟨y', m, rfl, h1, h2⟩ := hl.inv_cons
    obtain ⟨r', h5, h6⟩ := setN_rel hq h2 hx
    exact ⟨y' :: r', by simp [setN, h5], .cons h1 h6⟩

theorem vfill_rel {pT pE : Nat → Option (Nat × Nat)} (hp : ∀ i x, pT i = some x → pE i = some x) : ∀ {ps : List (Nat × TV)} {zs cs : List TV} {zv : List Value} {pv : List (Nat × Value)}, vfill pT zs ps = some cs → VRs c ρ F h zs zv → PRs c ρ F h ps pv →
    ∃ cv, fillA pE zv pv = some cv ∧ VRs c ρ F h cs cv
  | [], zs, cs, zv, [], hf, hz, _ => by simp [vfill] at hf; subst hf; exact ⟨zv, rfl, hz⟩
  | [], zs, cs, zv, _ :: _, hf, hz, hq => hq.elim
  | a :: l, zs, cs, zv, [], hf, hz, hq => hq.elim
  | a :: l, zs, cs, zv, b :: m, hf, hz, hq => by
    obtain ⟨e, hv, hr⟩ := hq
    unfold vfill at hf
    split at hf
    · rename_i q n hpl
      split at hf
      · rename_i hc
        simp only [Bool.and_eq_true, beq_iff] at hc
        have hcr := cells_rel hv hc.1
        split at hf
        · rename_i cs1 hset
          obtain ⟨r', h1, h2⟩ := setN_rel hset hz hcr
          obtain ⟨cv, h3, h4⟩ := vfill_rel hp hf h2 hr
          refine ⟨cv, ?_, h4⟩
          obtain ⟨i, x⟩ := b
          simp only [fillA]
          simp only at e
          subst e
          rw [hp _ _ hpl]
          simp only [Option.bind_some]
          have : x.cells.size = n := by have := hcr.1; simp only [Array.length_toList] at this; omega
          rw [this]
          simp [grd, h1, h3]
        · cases hf
      · cases hf
    · cases hf

theorem wbuild_ok (L : EnvLe T E) {t : TypeId} {ps : List (Nat × TV)} {pv : List (Nat × Value)} (hw : wbuild T t ps o c K) (hp : PRs c ρ F h ps pv) : PRes c ρ F h o (abuild E t pv) K := by
  unfold wbuild at hw
  split at hw
  · rename_i fields z hd hz
    obtain ⟨hz', hpl⟩ := L.zero _ _ hz
    split at hw
    · rename_i zs hall hzs
      rw [Array.all_toList] at hall
      split at hw
      · rename_i cs hf
        have hpm : ∀ i x, placeF T fields i = some x → placeF E fields i = some x := fun i x hx => by
          unfold placeF at hx ⊢
          simp only [Option.bind_eq_some_iff] at hx ⊢
          obtain ⟨fd, h1, n, h2, h3⟩ := hx
          exact ⟨fd, h1, n, L.size _ _ h2, h3⟩
        obtain ⟨cv, h1, h2⟩ := vfill_rel hpm hf (zcells_rel hpl hzs) hp
        refine ⟨_, _, ?_, .agg_of (a := cv.toArray) (by simpa using h2), hw⟩
        unfold abuild
        rw [L.desc _ _ hd, hz']
        simp only [Option.bind_some]
        have hall' : (fields.all fun fd => (E.size fd.type).isSome) = true := by
          rw [Array.all_eq_true] at hall ⊢
          intro i hi
          have := hall i hi
          obtain ⟨n, hn⟩ := Option.isSome_iff_exists.1 this
          rw [L.size _ _ hn]; rfl
        rw [hall']
        simp [grd, h1]
      · exact hw.elim
    · exact hw.elim
  · rename_i len elem z hd hz
    obtain ⟨hz', hpl⟩ := L.zero _ _ hz
    split at hw
    · rename_i n zs hn hzs
      split at hw
      · rename_i cs hf
        obtain ⟨cv, h1, h2⟩ := vfill_rel (pE := fun i => some (i * n, n)) (fun i x hx => hx) hf (zcells_rel hpl hzs) hp
        refine ⟨_, _, ?_, .agg_of (a := cv.toArray) (by simpa using h2), hw⟩
        unfold abuild
        rw [L.desc _ _ hd, hz']
        simp only [Option.bind_some, L.size _ _ hn, h1]
      · exact hw.elim
    · exact hw.elim
  · exact hw.elim

theorem aconv_mono (L : EnvLe T E) {s d : TypeId} {x v : Value} (hx : aconv T s d x = some v) : aconv E s d x = some v := by
  unfold aconv at hx ⊢
  simp only [Option.bind_eq_some_iff] at hx ⊢
  obtain ⟨q, h1, dd, h2, h3⟩ := hx
  exact ⟨q, L.desc _ _ h1, dd, L.desc _ _ h2, h3⟩
end
end Go.M

namespace Go.M
open Go

section
variable {T E : Env} {X : Cx} {ρ : Gh} {F : Nat → Prop} {o : Ob} {c : Nat} {af : AF} {f : Fr} {h : AHeap} {p : Oper} {K : OK}

theorem eqL1_plain {v : Value} (hp : plain1 v = true) (hc : ∀ r, v ≠ .chan r) : eqL1 v v = true := by
  cases v <;> simp [plain1] at hp <;> first
    | (simp [eqL1]; done)
    | (exact absurd rfl (hc _))
    | (rename_i a; cases a <;> simp at hp <;> simp [eqL1])
theorem eqE_refl {t : TV} {x : Value} (hv : VR c ρ F h t x) (he : eqE t = true) : eqL1 x x = true := by
  cases hv with
  | j => simp [eqE] at he
  | s hp => exact eqL1_plain hp (by rintro r rfl; simp [eqE] at he)
  | nil => simp [eqL1]
  | sl => simp [eqL1]
  | tk hn h1c ha h0 => cases x <;> simp [slV] at h1c; simp [eqL1]
  | ptr => simp [eqL1]
  | ep => simp [eqL1]
  | wp hn h1c ha h0 => cases x <;> simp [ptV] at h1c; simp [eqL1]
  | mp => simp [eqL1]
  | agg => simp [eqE] at he
  | tup => simp [eqE] at he
  | ifc hv1 =>
    rename_i t v v'
    cases v <;> simp [eqE] at he
    rename_i w
    cases w <;> simp at he
    rw [hv1.inv_s.1]
    simp [eqL1]
  | clo hs ha ht hk =>
    rename_i g x y a k
    cases x <;> simp [eqE] at he
    cases y <;> simp at he
    simp at hs ht
    simp [eqL1, ← hs, ← ht]
theorem eqEs_refl : ∀ {l : List TV} {m : List Value}, VRs c ρ F h l m → l.all eqE = true → eqLs m m = true
  | [], m, H, _ => by rw [H.inv_nil]; rfl
  | t :: l, m, H, he => by
    simp only [List.all_cons, Bool.and_eq_true] at he
    obtain ⟨v, m', rfl, h1, h2⟩ := H.inv_cons
    simp only [eqLs, Bool.and_eq_true]
    exact ⟨eqE_refl h1 he.1, eqEs_refl h2 he.2⟩

theorem rdL_ok {l : List TV} {m : List Value} {v : VL} {q : RQ} {ρ' : Gh} {o' : Ob} {h' : AHeap} (H : VRs c ρ F h l m) (hok : eqLs m m = true → LogOk ρ F o h ρ' o' h' v (.rd q h)) : LogOk ρ F o h ρ' o' h' (rdL l v) (.rd q h) := by
  unfold rdL
  split
  · rename_i he; exact hok (eqEs_refl H he)
  · exact .bad

/-- What a read comes to. -/
def RRes (c : Nat) (ρ : Gh) (F : Nat → Prop) (h : AHeap) (o : Ob) (q : RQ) (K : OK) : Prop := ∃ v x lg, q.run h = some x ∧ VR c ρ F h v x ∧ K v o c lg ∧ LogOk ρ F o h ρ o h lg (.rd q h)
theorem RRes.did {q : RQ} (H : Mem X ρ F o c h) (R : RRes c ρ F h o q K) (hp : apure E af p = none) (hq : aread E af p = some q) : Did E X ρ F o c af h p K := by
  obtain ⟨v, x, lg, h1, h2, h3, h4⟩ := R
  refine ⟨0, ⟨x, h, .rd q h⟩, v, o, c, ρ, F, lg, fun n _ => ?_, h3, .refl H, h2, h4⟩
  unfold runOp
  rw [hp, hq]
  simp [h1]

theorem wload_ok (L : EnvLe T E) (H : Mem X ρ F o c h) {t : TypeId} {a : TV} {av : Value} (hw : wload T t a o c K) (ha : VR c ρ F h a av) :
    ∃ q, ((asPtr av).bind fun p => (shapeT E t).bind fun s => some (.cells s.1 p.1 p.2 s.2)) = some q ∧ RRes c ρ F h o q K := by
  unfold wload at hw
  split at hw
  · exact hw.elim
  · rename_i agg n hs
    have hs' := L.shape hs
    split at hw
    · rename_i m q
      split at hw
      · rename_i cs hl
        split at hw
        · rename_i l ht
          split at hw
          · rename_i v hv
            obtain ⟨hK, _⟩ := force_iff hw
            have hO := H.objs m _ hl
            cases hO with
            | cells hb hg htt hc =>
              rename_i b thr cs'
              cases ha with
              | ptr hb' =>
                rw [hb] at hb'; cases hb'
                obtain ⟨l', h1, h2⟩ := takeN_rel ht (hc.drop q)
                obtain ⟨x, h3, h4⟩ := ofCells_rel hv h2
                have hrc : M.readCells h b q n = some l' := by
                  unfold M.readCells
                  rw [rd_of (fam_of hg hg) htt (cellsOf_get hg)]
                  simpa using h1
                refine ⟨.cells agg b q n, by simp [asPtr, hs'], v, x, _, by simp [RQ.run, hrc, h3], h4, hK, rdL_ok h2 fun he => .rdO (.refl _) rfl hl (.inl hb) ⟨l', hrc, he⟩⟩
          · exact hw.elim
        · exact hw.elim
      · exact hw.elim
    · rename_i e q
      split at hw
      · rename_i l ht
        split at hw
        · rename_i v hv
          obtain ⟨hK, _⟩ := force_iff hw
          cases ha with
          | ep h1 h2 h3 h4 h5 =>
            rename_i b q0 cs
            rw [takeN_some] at ht
            obtain ⟨t1, rfl⟩ := ht
            simp only [List.length_drop] at t1
            have hlen : n ≤ (cs.drop (q0 + q)).length ∨ n = 0 := by
              simp only [List.length_drop]; omega
            have hR : VRs c ρ F h ((e.drop q).take n) ((cs.drop (q0 + q)).take n) := by
              refine ⟨by simp; omega, fun i t v r1 r2 => ?_⟩
              rw [List.getElem?_take] at r1 r2
              split at r1
              · rename_i hlt
                rw [if_pos hlt] at r2
                rw [List.getElem?_drop] at r1 r2
                exact h5 (q + i) t v r1 (by rw [← r2]; congr 1; omega)
              · cases r1
            obtain ⟨x, h6, h7⟩ := ofCells_rel hv hR
            have hrc : M.readCells h b (q0 + q) n = some ((cs.drop (q0 + q)).take n) := by
              unfold M.readCells
              rw [h2]
              simp only [Option.bind_some, takeN_some, and_true]
              rcases hlen with h8 | h8
              · exact h8
              · omega
            refine ⟨.cells agg b (q0 + q) n, by simp [asPtr, hs'], v, x, _, by simp [RQ.run, hrc, h6], h7, hK, rdL_ok hR fun he => .rdF (.refl _) rfl h1 ⟨_, _, _, _, rfl⟩ ⟨_, hrc, he⟩⟩
        · exact hw.elim
      · exact hw.elim
    · rename_i m i q
      split at hw
      · rename_i z w es hl
        obtain ⟨e, he, hw⟩ := hw
        split at hw
        · rename_i l ht
          split at hw
          · rename_i v hv
            obtain ⟨hK, _⟩ := force_iff hw
            obtain ⟨b, hb, rfl⟩ := wp_ptr H hl ha
            have hO := H.objs m _ hl
            cases hO with
            | nil hb' hz => rw [hb] at hb'; cases hb'
            | arr hb' hg hf htt hbf hz hlen hee hfz hc =>
              rename_i f t0 th0 thr cs
              rw [hb] at hb'; cases hb'
              have hrd := rd_of hf htt (cellsOf_get hg)
              rw [takeN_some] at ht
              obtain ⟨t1, rfl⟩ := ht
              simp only [List.length_drop] at t1
              have hez := hee e (List.mem_of_getElem? he)
              have hi : i < es.length := (List.getElem?_eq_some_iff.1 he).1
              have hle : (i + 1) * z ≤ es.length * z := Nat.mul_le_mul_right z hi
              rw [Nat.add_mul] at hle
              have hR : VRs c ρ F h ((e.drop q).take n) ((cs.drop (i * z + q)).take n) := by
                refine ⟨by simp; omega, fun j t v r1 r2 => ?_⟩
                rw [List.getElem?_take] at r1 r2
                split at r1
                · rename_i hlt
                  rw [if_pos hlt] at r2
                  rw [List.getElem?_drop] at r1 r2
                  exact hc i (q + j) e t v he r1 (by rw [← r2]; congr 1; omega)
                · cases r1
              obtain ⟨x, h6, h7⟩ := ofCells_rel hv hR
              have hrc : M.readCells h b (i * z + q) n = some ((cs.drop (i * z + q)).take n) := by
                unfold M.readCells
                rw [hrd]
                simp only [Option.bind_some, takeN_some, and_true, List.length_drop]
                omega
              refine ⟨.cells agg b (i * z + q) n, by simp [asPtr, hs'], v, x, _, by simp [RQ.run, hrc, h6], h7, hK, rdL_ok hR fun he' => .rdO (.refl _) rfl hl (.inr ⟨_, _, hb⟩) ⟨_, hrc, he'⟩⟩
          · exact hw.elim
        · exact hw.elim
      · exact hw.elim
    · exact hw.elim


/-! ### Maps -/
theorem kcode_inj {kd : TypeDesc} {k : Value} {n : Nat} (hk : kindOk kd k n = true) : (∃ b, kd = .bool ∧ k = .bool b ∧ n = 1) ∨ (∃ s, kd = .string ∧ k = .string s ∧ n = 2) ∨ (∃ i x, kd = .int i ∧ k = .int i x ∧ n = kIdx i) := by
  unfold kindOk at hk
  simp only [Bool.and_eq_true, beq_iff, blt_iff] at hk
  obtain ⟨⟨h0, h1⟩, h2⟩ := hk
  cases kd <;> simp [kcode] at h1 <;> try omega
  · cases k <;> simp [kcodeV] at h2 <;> try omega
    · exact .inl ⟨_, rfl, rfl, h1.symm⟩
    · rename_i i x; subst h1; cases i <;> simp [kIdx] at h2
  · rename_i i
    cases k <;> simp [kcodeV] at h2 <;> try omega
    · subst h1; cases i <;> simp [kIdx] at h2
    · rename_i j x
      have : i = j := by subst h1; cases i <;> cases j <;> simp [kIdx] at h2 <;> rfl
      subst this
      exact .inr (.inr ⟨_, _, rfl, rfl, h1.symm⟩)
    · subst h1; cases i <;> simp [kIdx] at h2
  · cases k <;> simp [kcodeV] at h2 <;> try omega
    · rename_i i x; subst h1; cases i <;> simp [kIdx] at h2
    · exact .inr (.inl ⟨_, rfl, rfl, h1.symm⟩)
theorem kindOk_scalar {kd : TypeDesc} {k : Value} {n : Nat} (hk : kindOk kd k n = true) : scalarT kd = true ∧ scalar k = true := by
  rcases kcode_inj hk with ⟨_, rfl, rfl, _⟩ | ⟨_, rfl, rfl, _⟩ | ⟨_, _, rfl, rfl, _⟩ <;> exact ⟨rfl, rfl⟩
theorem sameNow_keq {kd : TypeDesc} {k k' : Value} {n : Nat} (hk : kindOk kd k n = true) (hk' : kcodeV k' = n) : Instr.sameNow kd k k' = some (keq k k') := by
  rcases kcode_inj hk with ⟨b, rfl, rfl, rfl⟩ | ⟨s, rfl, rfl, rfl⟩ | ⟨i, x, rfl, rfl, rfl⟩
  · cases k' <;> simp [kcodeV] at hk'
    · rfl
    · rename_i j y; cases j <;> simp [kIdx] at hk'
  · cases k' <;> simp [kcodeV] at hk'
    · rename_i j y; cases j <;> simp [kIdx] at hk'
    · rfl
  · cases k' <;> simp [kcodeV] at hk' <;> try (cases i <;> simp [kIdx] at hk'; done)
    rename_i j y
    have : i = j := by cases i <;> cases j <;> simp [kIdx] at hk' <;> rfl
    subst this
    simp [Instr.sameNow, keq]

/-- The entries of a map, one by one. -/
def ERs (c : Nat) (ρ : Gh) (F : Nat → Prop) (h : AHeap) (kd : Nat) (es : List (Value × TV)) (es' : List MapEntry) : Prop :=
  es.length = es'.length ∧ ∀ (i : Nat) e e', es[i]? = some e → es'[i]? = some e' → e'.key = e.1 ∧ (0 < kd ∧ kcodeV e.1 = kd) ∧ fzV e.2 = true ∧ VR c ρ F h e.2 e'.val
theorem ERs.inv_cons {kd : Nat} {e : Value × TV} {es : List (Value × TV)} {es' : List MapEntry} (H : ERs c ρ F h kd (e :: es) es') : ∃ e' m, es' = e' :: m ∧ e'.key = e.1 ∧ (0 < kd ∧ kcodeV e.1 = kd) ∧ fzV e.2 = true ∧ VR c ρ F h e.2 e'.val ∧ ERs c ρ F h kd es m := by
  match es', H with
  | [], H => have := H.1; simp at this
  | e' :: m, H =>
    obtain ⟨h1, h2, h3, h4⟩ := H.2 0 e e' rfl rfl
    exact ⟨e', m, rfl, h1, h2, h3, h4, by simpa using H.1, fun i x x' q1 q2 => H.2 (i + 1) x x' (by simpa using q1) (by simpa using q2)⟩
theorem ERs.inv_nil {kd : Nat} {es' : List MapEntry} (H : ERs c ρ F h kd [] es') : es' = [] := by have := H.1; cases es' <;> simp_all

theorem vfindNow_rel {kd : TypeDesc} {k : Value} {n : Nat} (hk : kindOk kd k n = true) : ∀ {es : List (Value × TV)} {es' : List MapEntry} (i : Nat), ERs c ρ F h n es es' →
    (match lookM es k with
    | some v => ∃ j x, Instr.findNow kd k es' i = some (some (i + j, x)) ∧ VR c ρ F h v x ∧ fzV v = true ∧ ∃ e, es'[j]? = some e ∧ e.val = x
    | none => Instr.findNow kd k es' i = some none)
  | [], es', i, H => by rw [H.inv_nil]; rfl
  | e :: es, es', i, H => by
    obtain ⟨e', m, rfl, h1, h2, h3, h4, h5⟩ := H.inv_cons
    unfold lookM Instr.findNow
    rw [h1, sameNow_keq hk h2.2]
    cases hq : keq k e.1 with
    | true => exact ⟨0, e'.val, rfl, h4, h3, e', rfl, rfl⟩
    | false =>
      have ih := vfindNow_rel hk (i + 1) h5
      simp only
      split
      · rename_i v hv
        rw [hv] at ih
        obtain ⟨j, x, q1, q2, q3, e2, q4, q5⟩ := ih
        exact ⟨j + 1, x, by rw [q1]; congr 3; omega, q2, q3, e2, by simpa using q4, q5⟩
      · rename_i hv
        rw [hv] at ih
        exact ih


theorem fz_eqE {t : TV} (hf : fz t = true) : eqE t = true := by
  unfold fz at hf
  split at hf
  · rename_i v; cases v <;> first | rfl | simp [plainE] at hf
  · rfl
  · rfl
  · rfl
  · cases hf
theorem fzV_refl {t : TV} {x : Value} (hv : VR c ρ F h t x) (hf : fzV t = true) : eqL x x = true := by
  have one : eqL1 x x = true → eqL x x = true := fun h => by
    unfold eqL
    split
    · simp [eqL1] at h
    · exact h
  unfold fzV at hf
  split at hf
  · obtain ⟨a, rfl, h1⟩ := hv.inv_agg
    exact eqEs_refl h1 (List.all_eq_true.2 fun t ht => fz_eqE (List.all_eq_true.1 hf t ht))
  · exact one (eqE_refl hv (fz_eqE hf))
theorem ERs.refl {kd : Nat} : ∀ {es : List (Value × TV)} {es' : List MapEntry}, ERs c ρ F h kd es es' → eqEs es' es' = true
  | [], es', H => by rw [H.inv_nil]; rfl
  | e :: es, es', H => by
    obtain ⟨e', m, rfl, h1, h2, h3, h4, h5⟩ := H.inv_cons
    simp only [eqEs, Bool.and_eq_true]
    refine ⟨⟨⟨?_, fzV_refl h4 h3⟩, by simp⟩, h5.refl⟩
    rw [h1]
    have := h2.2
    cases he : e.1 <;> rw [he] at this <;> simp [kcodeV] at this <;> try omega
    all_goals simp [eqL, eqL1]

theorem wlookup_ok (L : EnvLe T E) (H : Mem X ρ F o c h) {t : TypeId} {m k : TV} {ok : Bool} {mv kv : Value} (hw : wlookup T t m k ok o c K) (hm : VR c ρ F h m mv) (hk : VR c ρ F h k kv) :
    (mv = .map none ∧ PRes c ρ F h o ((E.desc t).bind fun d => (match (generalizing := false) d, mv with
      | .map kt elem, .map none => (E.desc kt).bind fun kd => (E.zero elem).bind fun z => grd (scalarT kd && scalar kv && plainV z) (some (bif ok then .tuple #[z, .bool false] else z))
      | _, _ => none)) K) ∨
    (∃ r, mv = .map (some r) ∧ ∃ q, ((E.desc t).bind fun d => (match (generalizing := false) d, mv with
      | .map kt elem, .map (some r) => (E.desc kt).bind fun kd => (E.zero elem).bind fun z => grd (scalarT kd && scalar kv && plainV z) (some (RQ.look r kd kv z ok))
      | _, _ => none)) = some q ∧ RRes c ρ F h o q K) := by
  unfold wlookup at hw
  split at hw
  · rename_i kt elem hd
    split at hw
    · rename_i kd z kv' hkd hz
      obtain ⟨hz', hpl⟩ := L.zero _ _ hz
      rw [hk.inv_s.1]
      split at hw
      · rename_i n
        right
        split at hw
        · rename_i kn es hl
          split at hw
          · rename_i hko
            obtain ⟨hs1, hs2⟩ := kindOk_scalar hko
            obtain ⟨r, hr, hw⟩ := hw
            have hO := H.objs n _ hl
            cases hO with
            | map hb hg hlen hc hst =>
              rename_i b clock es'
              have hE : ERs c ρ F h kn es es' := ⟨hlen, hc⟩
              cases hm with
              | mp hb' =>
                rw [hb] at hb'; cases hb'
                have hq : ((E.desc t).bind fun d => (match d, Value.map (some b) with
                  | .map kt elem, .map (some r) => (E.desc kt).bind fun kd => (E.zero elem).bind fun z => grd (scalarT kd && scalar kv' && plainV z) (some (RQ.look r kd kv' z ok))
                  | _, _ => none)) = some (RQ.look b kd kv' z ok) := by
                  rw [L.desc _ _ hd]
                  simp only [Option.bind_some, L.desc _ _ hkd, hz', hs1, hs2, hpl, Bool.and_self, grd]
                refine ⟨b, rfl, _, hq, ?_⟩
                have hma : mapAt h b = some (es', clock) := by unfold mapAt; rw [hg]
                have hlog : LogOk ρ F o h ρ o h (.rdO n) (.rd (RQ.look b kd kv' z ok) h) := .rdO (.refl _) rfl hl (.inl hb) ⟨_, hma, hE.refl⟩
                have hf := vfindNow_rel hko 0 hE
                rw [hr] at hf
                cases r with
                | some v =>
                  obtain ⟨j, x, q1, q2, _⟩ := hf
                  simp only at hw
                  cases ok with
                  | true => exact ⟨_, _, _, by simp [RQ.run, hma, lookIn, q1], .tup_of (.cons q2 (.cons (.s rfl) .nil)), hw, hlog⟩
                  | false => exact ⟨_, _, _, by simp [RQ.run, hma, lookIn, q1], q2, hw, hlog⟩
                | none =>
                  simp only at hw hf
                  cases ok with
                  | true => exact ⟨_, _, _, by simp [RQ.run, hma, lookIn, hf], .tup_of (.cons (cT_rel hpl) (.cons (.s rfl) .nil)), hw, hlog⟩
                  | false => exact ⟨_, _, _, by simp [RQ.run, hma, lookIn, hf], cT_rel hpl, hw, hlog⟩
          · exact hw.elim
        · exact hw.elim
      · left
        split at hw
        · rename_i hko
          obtain ⟨hs1, hs2⟩ := kindOk_scalar hko
          have hmv := hm.inv_s.1
          subst hmv
          refine ⟨rfl, ?_⟩
          have hq : ∀ y : Value, (bif ok then Value.tuple #[z, .bool false] else z) = y → ((E.desc t).bind fun d => (match d, Value.map none with
                  | .map kt elem, .map none => (E.desc kt).bind fun kd => (E.zero elem).bind fun z => grd (scalarT kd && scalar kv' && plainV z) (some (bif ok then .tuple #[z, .bool false] else z))
                  | _, _ => none)) = some y := by
            rintro y rfl
            rw [L.desc _ _ hd]
            simp only [Option.bind_some, L.desc _ _ hkd, hz', hs1, hs2, hpl, Bool.and_self, grd]
          cases ok with
          | true => exact ⟨_, _, hq _ rfl, .tup_of (.cons (cT_rel hpl) (.cons (.s rfl) .nil)), hw⟩
          | false => exact ⟨_, _, hq _ rfl, cT_rel hpl, hw⟩
        · exact hw.elim
      · exact hw.elim
    · exact hw.elim
  · exact hw.elim

end
end Go.M

namespace Go.M
open Go

section
variable {T E : Env} {X : Cx} {ρ : Gh} {F : Nat → Prop} {o : Ob} {c : Nat} {af : AF} {f : Fr} {h : AHeap} {p : Oper} {K : OK}

/-! ### What is shared -/
def esA : Option TO → Option (Nat × List (List TV))
  | some (.arr z _ es) => some (z, es)
  | _ => none
theorem esA_shareO (o : Ob) (m n : Nat) : esA (look (shareO o m) n) = esA (look o n) := by
  cases hm : look o m with
  | none => unfold shareO; rw [hm]
  | some y =>
    cases y with
    | arr z w es =>
      unfold shareO; rw [hm]
      simp only
      rw [look_upd1]
      by_cases e : n = m
      · subst e; rw [if_pos rfl, hm]; rfl
      · rw [if_neg e]
    | _ => unfold shareO; rw [hm]
theorem frz_tk (o : Ob) (n : Nat) : frz o (.tk n) = (esA (look o n)).map fun p => .sl p.1 p.2 false := by
  show (match look o n with | some (.arr z _ es) => some (TV.sl z es false) | _ => none) = _
  cases look o n with
  | none => rfl
  | some y => cases y <;> rfl
theorem frz_shareO (o : Ob) (m : Nat) (t : TV) : frz (shareO o m) t = frz o t := by
  cases t with
  | tk n => rw [frz_tk, frz_tk, esA_shareO]
  | ifc t v => cases v <;> try rfl
               rename_i w; cases w <;> rfl
  | clo g a k => cases a <;> cases k <;> rfl
  | _ => rfl
theorem frz_share1 (o : Ob) (v t : TV) : frz (share1 o v) t = frz o t := by
  cases v <;> try rfl
  exact frz_shareO _ _ _
theorem frzs_share1 (o : Ob) (v : TV) : ∀ l, frzs (share1 o v) l = frzs o l
  | [] => rfl
  | t :: l => by simp only [frzs, frz_share1, frzs_share1 o v l]
theorem frz_fz {t t' : TV} (hf : frz o t = some t') : fz t' = true := by
  unfold frz at hf
  split at hf
  · split at hf
    · rename_i hp; cases hf; exact hp
    · cases hf
  · cases hf; rfl
  · split at hf
    · cases hf; rfl
    · cases hf
  · cases hf; rfl
  · cases hf; rfl
  · cases hf
theorem frzs_fz : ∀ {l l' : List TV}, frzs o l = some l' → (∀ t ∈ l', fz t = true) ∧ l'.length = l.length
  | [], l', hf => by simp [frzs] at hf; subst hf; exact ⟨by simp, rfl⟩
  | t :: l, l', hf => by
    unfold frzs at hf
    split at hf
    · rename_i v' hv
      split at hf
      · rename_i l2 hl
        cases hf
        obtain ⟨h1, h2⟩ := frzs_fz hl
        refine ⟨fun t ht => ?_, by simp [h2]⟩
        rcases List.mem_cons.1 ht with rfl | ht
        · exact frz_fz hv
        · exact h1 t ht
      · cases hf
    · cases hf

/-- The same objects; some of them are looked at by others now. -/
structure ShOk (X : Cx) (ρ : Gh) (c : Nat) (h : AHeap) (F : Nat → Prop) (o : Ob) (F' : Nat → Prop) (o' : Ob) : Prop where
  mem : Mem X ρ F' o' c h
  keep : ∀ t x, VR c ρ F h t x → VR c ρ F' h t x
  FF : ∀ b, F b → F' b
  wk : ∀ n y, look o n = some y → ∃ y', look o' n = some y' ∧ weak y y'
theorem ShOk.refl (H : Mem X ρ F o c h) : ShOk X ρ c h F o F o := ⟨H, fun _ _ h => h, fun _ h => h, fun n y hl => ⟨y, hl, weak.refl y⟩⟩
theorem ShOk.trans {F1 F2 : Nat → Prop} {o1 o2 : Ob} (A : ShOk X ρ c h F o F1 o1) (B : ShOk X ρ c h F1 o1 F2 o2) : ShOk X ρ c h F o F2 o2 :=
  ⟨B.mem, fun t x hx => B.keep t x (A.keep t x hx), fun b hb => B.FF b (A.FF b hb), fun n y hl => by
    obtain ⟨y1, h1, h2⟩ := A.wk n y hl
    obtain ⟨y2, h3, h4⟩ := B.wk n y1 h1
    exact ⟨y2, h3, h2.trans h4⟩⟩

theorem share1_ok (H : Mem X ρ F o c h) (v : TV) : ∃ F', ShOk X ρ c h F o F' (share1 o v) ∧ ∀ v' x, frz o v = some v' → VR c ρ F h v x → VR c ρ F' h v' x := by
  cases v with
  | tk n =>
    obtain ⟨F', h1, h2, h3, h4⟩ := H.share n
    refine ⟨F', ⟨h1, h2, h3, weak_shareO o n⟩, fun v' x hf hx => ?_⟩
    unfold frz at hf
    simp only at hf
    split at hf
    · rename_i z w es hl; cases hf; exact h4 _ _ _ _ hl hx
    · cases hf
  | sl z es fl =>
    refine ⟨F, .refl H, fun v' x hf hx => ?_⟩
    simp only [frz, Option.some.injEq] at hf
    subst hf
    cases hx with
    | nil he => exact .nil he
    | sl h1 h2 h3 h4 h5 h6 h7 h8 h9 h10 => exact .sl h1 h2 h3 h4 h5 (fun h => by cases h) h7 h8 h9 h10
  | s w =>
    refine ⟨F, .refl H, fun v' x hf hx => ?_⟩
    unfold frz at hf
    simp only at hf
    split at hf
    · cases hf; exact hx
    · cases hf
  | ifc t w =>
    refine ⟨F, .refl H, fun v' x hf hx => ?_⟩
    unfold frz at hf
    split at hf <;> simp_all
    all_goals (first | (obtain ⟨rfl, rfl⟩ := ‹_ ∧ _›; subst hf; exact hx) | skip)
  | clo g a k =>
    refine ⟨F, .refl H, fun v' x hf hx => ?_⟩
    unfold frz at hf
    split at hf <;> simp_all
    all_goals (first | (obtain ⟨rfl, rfl, rfl⟩ := ‹_ ∧ _ ∧ _›; subst hf; exact hx) | skip)
  | _ => exact ⟨F, .refl H, fun v' x hf hx => by simp [frz] at hf⟩
theorem shares_ok : ∀ (l : List TV) {F : Nat → Prop} {o : Ob}, Mem X ρ F o c h → ∃ F', ShOk X ρ c h F o F' (shares o l) ∧ ∀ l' m, frzs o l = some l' → VRs c ρ F h l m → VRs c ρ F' h l' m
  | [], F, o, H => ⟨F, .refl H, fun l' m hf hm => by simp [frzs] at hf; subst hf; exact hm⟩
  | v :: l, F, o, H => by
    obtain ⟨F1, A, a⟩ := share1_ok H v
    obtain ⟨F2, B, b⟩ := shares_ok l A.mem
    refine ⟨F2, A.trans B, fun l' m hf hm => ?_⟩
    unfold frzs at hf
    split at hf
    · rename_i v' hv
      split at hf
      · rename_i l2 hl
        cases hf
        obtain ⟨x, m', rfl, h1, h2⟩ := hm.inv_cons
        exact .cons (B.keep _ _ (a v' x hv h1)) (b l2 m' (by rw [frzs_share1]; exact hl) (h2.mono' A.keep))
      · cases hf
    · cases hf
theorem frzV_ok (H : Mem X ρ F o c h) (v : TV) (ho : okV v = true) : ∃ F', ShOk X ρ c h F o F' (shares o (cellsT v)) ∧ ∀ v' x, frzV o v = some v' → VR c ρ F h v x → VR c ρ F' h v' x ∧ fzV v' = true := by
  obtain ⟨F', A, a⟩ := shares_ok (cellsT v) H
  refine ⟨F', A, fun v' x hf hx => ?_⟩
  have one : (∀ cs, v ≠ .agg cs) → VR c ρ F' h v' x ∧ fzV v' = true := fun hna => by
    have hv1 : cellsT v = [v] := by cases v <;> first | rfl | exact absurd rfl (hna _)
    have hv2 : frzV o v = frz o v := by cases v <;> first | rfl | exact absurd rfl (hna _)
    rw [hv2] at hf
    have hfz := frz_fz hf
    rw [hv1] at a
    have := a [v'] [x] (by simp [frzs, hf]) (.cons hx .nil)
    refine ⟨this.head, ?_⟩
    cases v' <;> simp [fz] at hfz <;> simp [fzV, fz, hfz]
  cases v with
  | agg cs =>
    obtain ⟨q, rfl, h1⟩ := hx.inv_agg
    simp only [frzV] at hf
    split at hf
    · rename_i cs' hc
      cases hf
      refine ⟨.agg_of (a cs' q.toList hc h1), ?_⟩
      simp only [fzV]
      exact List.all_eq_true.2 (frzs_fz hc).1
    · cases hf
  | _ => exact one (by intro cs e; cases e)

/-! ### New blocks -/
theorem Mem.atB_lt (H : Mem X ρ F o c h) {n b : Nat} {y : TO} (hl : look o n = some y) (hb : atB ρ n b) : b < h.size := by
  rcases (H.objs n y hl).block with ⟨b', o', h1, h2, _⟩ | ⟨b', z, len, cs, f, t0, th0, c0, t1, th1, h1, h2, _⟩ | ⟨⟨z, h1⟩, _⟩
  · rcases hb with hb | ⟨z, l, hb⟩ <;> rw [h1] at hb <;> cases hb
    exact H.wf.lt h2
  · rcases hb with hb | ⟨z, l, hb⟩ <;> rw [h1] at hb <;> cases hb
    exact H.wf.lt h2
  · rcases hb with hb | ⟨z, l, hb⟩ <;> rw [h1] at hb <;> cases hb

theorem Did.alloc {F1 : Nat → Prop} {o1 : Ob} (H : Mem X ρ F o c h) (S : ShOk X ρ c h F o F1 o1) {md : Made} {hd : Hold} {y : TO} {l : Loc} {v : TV} (hp : apure E af p = none) (hq : aread E af p = none) (ha : aalloc E af p = some (md, hd))
    (hM : Mem X (updG ρ c (some l)) F1 ((c, y) :: o1) (c + 1) (h.push (md.obj h.size))) (hk : ∀ t x, VR c ρ F1 h t x → VR (c + 1) (updG ρ c (some l)) F1 (h.push (md.obj h.size)) t x)
    (hv : VR (c + 1) (updG ρ c (some l)) F1 (h.push (md.obj h.size)) v (hd.val h.size)) (hK : K v ((c, y) :: o1) (c + 1) .alloc) : Did E X ρ F o c af h p K := by
  refine ⟨0, ⟨hd.val h.size, h.push (md.obj h.size), .alloc h (h.push (md.obj h.size))⟩, v, _, _, _, F1, .alloc, fun n _ => ?_, hK, ⟨hM, fun t x hx => hk t x (S.keep t x hx), by rw [AHeap.size_push]; omega, S.FF, fun b cs hb hr => by rw [rd_push H.wf.le _ (H.Flt hb)]; exact hr⟩, hv,
    .alloc fun n y' hl _ => ⟨?_, ?_, fun b hb => ?_⟩⟩
  · unfold runOp; rw [hp, hq, ha]
  · have := H.lt hl
    rw [look_cons, if_neg (by omega)]
    exact S.wk n y' hl
  · have := H.lt hl
    rw [updG_ne _ _ (by omega)]
  · have := H.atB_lt hl hb
    exact ⟨by rw [AHeap.get_push, if_neg (by omega)], fun cs hr => by rw [rd_push H.wf.le _ this]; exact hr⟩

end
end Go.M

namespace Go.M
open Go

section
variable {T E : Env} {X : Cx} {ρ : Gh} {F : Nat → Prop} {o : Ob} {c : Nat} {af : AF} {f : Fr} {h : AHeap} {p : Oper} {K : OK}

theorem cells_did (H : Mem X ρ F o c h) {cs : List TV} {cv : List Value} (hc : VRs c ρ F h cs cv) (hp : apure E af p = none) (hq : aread E af p = none) (ha : aalloc E af p = some (.cells cv, .ptr)) (hK : K (.ptr c 0) ((c, .cells cs) :: o) (c + 1) .alloc) : Did E X ρ F o c af h p K := by
  obtain ⟨h1, h2⟩ := H.newCells hc
  exact Did.alloc H (.refl H) (md := .cells cv) (hd := .ptr) hp hq ha h1 h2 (.ptr (updG_self _ _ _)) hK
theorem map_did (H : Mem X ρ F o c h) (kd : Nat) (hp : apure E af p = none) (hq : aread E af p = none) (ha : aalloc E af p = some (.map, .map)) (hK : K (.mp c) ((c, .map kd []) :: o) (c + 1) .alloc) : Did E X ρ F o c af h p K := by
  obtain ⟨h1, h2⟩ := H.newMap kd
  exact Did.alloc H (.refl H) (md := .map) (hd := .map) hp hq ha h1 h2 (.mp (updG_self _ _ _)) hK
theorem arr_did {F1 : Nat → Prop} {o1 : Ob} (H : Mem X ρ F o c h) (S : ShOk X ρ c h F o F1 o1) {z cap : Nat} {es : List (List TV)} {cv : List Value} (hE : ER c ρ F1 h z es cv) (hz : 0 < z) (hcap : es.length ≤ cap)
    (hp : apure E af p = none) (hq : aread E af p = none) (ha : aalloc E af p = some (.cells cv, .slice z es.length cap)) (hK : K (.tk c) ((c, .arr z true es) :: o1) (c + 1) .alloc) : Did E X ρ F o c af h p K := by
  obtain ⟨h1, h2⟩ := S.mem.newArr hE hz
  refine Did.alloc H S (md := .cells cv) (hd := .slice z es.length cap) hp hq ha h1 h2 (.tk (by omega) rfl (fun b z' len hx => ?_) (fun z' hx => ?_)) hK
  · rw [updG_self] at hx; cases hx; exact ⟨cap, hcap, rfl⟩
  · rw [updG_self] at hx; cases hx

theorem ER.replicate {z : Nat} {zs : List TV} {zv : List Value} (hz : VRs c ρ F h zs zv) (hl : zs.length = z) (hf : zs.all M.fz = true) : ∀ k, ER c ρ F h z (List.replicate k zs) (repeatL zv k)
  | 0 => .nil z
  | k + 1 => by
    have ih := ER.replicate hz hl hf k
    have h1 : ER c ρ F h z [zs] zv := by
      refine ⟨by rw [← hz.1, hl]; simp, fun e he => by simp at he; subst he; exact hl, fun e he t ht => by simp at he; subst he; exact List.all_eq_true.1 hf t ht, fun i j e t v q1 q2 q3 => ?_⟩
      cases i with
      | zero => simp at q1; subst q1; exact hz.2 j t v q2 (by simpa using q3)
      | succ i => simp at q1
    exact h1.append ih

theorem ER.cellOf {z : Nat} {es : List (List TV)} {cs : List Value} (A : ER c ρ F h z es cs) {i : Nat} {e : List TV} (he : es[i]? = some e) : VRs c ρ F h e ((cs.drop (i * z)).take z) ∧ (i + 1) * z ≤ cs.length := by
  have hi := (List.getElem?_eq_some_iff.1 he).1
  have hle : (i + 1) * z ≤ es.length * z := Nat.mul_le_mul_right z hi
  have hez := A.each e (List.mem_of_getElem? he)
  have h2 := hle
  rw [Nat.add_mul] at h2
  refine ⟨⟨by simp [A.len]; omega, fun j t v q1 q2 => ?_⟩, by rw [A.len]; exact hle⟩
  rw [List.getElem?_take] at q2
  split at q2
  · rw [List.getElem?_drop] at q2; exact A.cell i j e t v he q1 q2
  · cases q2

theorem setN_len {α : Type} {l xs r : List α} {n : Nat} (h : setN l n xs = some r) : r.length = l.length := (setN_some h).2.1
theorem setN_ex {α : Type} : ∀ {n : Nat} {l xs : List α}, n + xs.length ≤ l.length → ∃ r, setN l n xs = some r
  | 0, l, [], _ => ⟨l, by simp [setN]⟩
  | 0, [], x :: xs, h => by simp at h
  | 0, y :: l, x :: xs, h => by
    obtain ⟨r, hr⟩ := setN_ex (n := 0) (l := l) (xs := xs) (by simp at h ⊢; omega)
    exact ⟨x :: r, by simp [setN, hr]⟩
  | n + 1, [], xs, h => by simp at h
  | n + 1, y :: l, xs, h => by
    obtain ⟨r, hr⟩ := setN_ex (n := n) (l := l) (xs := xs) (by simp at h ⊢; omega)
    exact ⟨y :: r, by simp [setN, hr]⟩
theorem setAt_some {α : Type} : ∀ {l r : List α} {n : Nat} {x : α}, setAt l n x = some r → n < l.length ∧ r.length = l.length ∧ ∀ i, r[i]? = if i = n then some x else l[i]?
  | [], r, n, x, h => by simp [setAt] at h
  | y :: l, r, 0, x, h => by
    simp [setAt] at h; subst h
    refine ⟨by simp, by simp, fun i => ?_⟩
    cases i <;> simp
  | y :: l, r, n + 1, x, h => by
    unfold setAt at h
    split at h
    · rename_i l' hl
      cases h
      obtain ⟨h1, h2, h3⟩ := setAt_some hl
      refine ⟨by simp; omega, by simp [h2], fun i => ?_⟩
      cases i with
      | zero => simp
      | succ i => simp [h3 i]
    · cases h

/-- Other cells of one element. -/
theorem ER.setAt {z : Nat} {es es' : List (List TV)} {cs : List Value} {l : List TV} {i : Nat} (A : ER c ρ F h z es cs) (hs : ∀ j, es'[j]? = if j = i then some l else es[j]?) (hlen : es'.length = es.length) (hi : i < es.length) (hl : l.length = z) (hf : ∀ t ∈ l, M.fz t = true)
    {cs' : List Value} (hc : cs'.length = cs.length) (hin : ∀ j t v, l[j]? = some t → cs'[i * z + j]? = some v → VR c ρ F h t v) (hout : ∀ k, (k < i * z ∨ (i + 1) * z ≤ k) → cs'[k]? = cs[k]?) : ER c ρ F h z es' cs' := by
  have key : ∀ j e, es'[j]? = some e → (j = i ∧ e = l) ∨ (j ≠ i ∧ es[j]? = some e) := fun j e he => by
    rw [hs] at he
    by_cases e1 : j = i
    · rw [if_pos e1] at he; cases he; exact .inl ⟨e1, rfl⟩
    · rw [if_neg e1] at he; exact .inr ⟨e1, he⟩
  refine ⟨by rw [hc, hlen, A.len], fun e he => ?_, fun e he => ?_, fun j k e t v q1 q2 q3 => ?_⟩
  · obtain ⟨j, hj⟩ := List.getElem?_of_mem he
    rcases key j e hj with ⟨_, rfl⟩ | ⟨_, h1⟩
    · exact hl
    · exact A.each e (List.mem_of_getElem? h1)
  · obtain ⟨j, hj⟩ := List.getElem?_of_mem he
    rcases key j e hj with ⟨_, rfl⟩ | ⟨_, h1⟩
    · exact hf
    · exact A.fz e (List.mem_of_getElem? h1)
  · rcases key j e q1 with ⟨rfl, rfl⟩ | ⟨h1, h2⟩
    · exact hin k t v q2 q3
    · have hk : k < z := by rw [← A.each e (List.mem_of_getElem? h2)]; exact (List.getElem?_eq_some_iff.1 q2).1
      refine A.cell j k e t v h2 q2 ?_
      rw [← q3]
      refine (hout _ ?_).symm
      rcases Nat.lt_or_gt_of_ne h1 with h3 | h3
      · left
        have : (j + 1) * z ≤ i * z := Nat.mul_le_mul_right z h3
        rw [Nat.add_mul] at this; omega
      · right
        have : (i + 1) * z ≤ j * z := Nat.mul_le_mul_right z h3
        omega

theorem fillS_rel {n : Nat} : ∀ {ps : List (Nat × TV)} {o : Ob} {F : Nat → Prop} {es es' : List (List TV)} {cs : List Value} {pv : List (Nat × Value)}, Mem X ρ F o c h → fillS o n es ps = some es' → ER c ρ F h n es cs → PRs c ρ F h ps pv →
    ∃ F' cv, ShOk X ρ c h F o F' (sharesP o ps) ∧ fillA (fun i => some (i * n, n)) cs pv = some cv ∧ ER c ρ F' h n es' cv ∧ es'.length = es.length
  | [], o, F, es, es', cs, [], H, hf, hE, _ => by simp [fillS] at hf; subst hf; exact ⟨F, cs, .refl H, rfl, hE, rfl⟩
  | [], o, F, es, es', cs, _ :: _, H, hf, hE, hq => hq.elim
  | a :: l, o, F, es, es', cs, [], H, hf, hE, hq => hq.elim
  | a :: l, o, F, es, es', cs, b :: m, H, hf, hE, hq => by
    obtain ⟨e, hv, hr⟩ := hq
    unfold fillS at hf
    split at hf
    · rename_i l1 hc hfz
      simp only [Bool.and_eq_true, beq_iff] at hc
      split at hf
      · rename_i es1 hset
        obtain ⟨s1, s2, s3⟩ := setAt_some hset
        obtain ⟨F1, A, a1⟩ := shares_ok (cellsT a.2) H
        obtain ⟨f1, f2⟩ := frzs_fz hfz
        have hcr := a1 l1 _ hfz (cells_rel hv hc.1)
        have hl1 : l1.length = n := by omega
        have hE1 := hE.mono A.keep
        have hvl : b.2.cells.toList.length = n := by rw [← hcr.1]; exact hl1
        have hle : a.1 * n + b.2.cells.toList.length ≤ cs.length := by
          rw [hvl, hE.len]
          have : (a.1 + 1) * n ≤ es.length * n := Nat.mul_le_mul_right n s1
          rw [Nat.add_mul] at this; omega
        obtain ⟨cs1, hcs1⟩ := setN_ex hle
        obtain ⟨t1, t2, t3⟩ := setN_some hcs1
        have hE2 : ER c ρ F1 h n es1 cs1 := by
          refine hE1.setAt s3 s2 s1 hl1 f1 t2 (fun j t v q1 q2 => ?_) (fun k hk => ?_)
          · have hj : j < l1.length := (List.getElem?_eq_some_iff.1 q1).1
            rw [t3, if_pos ⟨by omega, by omega⟩] at q2
            exact hcr.2 j t v q1 (by rw [← q2]; congr 1; omega)
          · rw [t3, if_neg]
            rw [Nat.add_mul] at hk; omega
        have hfz2 : fillS (shares o (cellsT a.2)) n es1 l = some es' := by
          have key : ∀ (o1 : Ob), (∀ t, frz o1 t = frz o t) → ∀ (l : List (Nat × TV)) (es : List (List TV)), fillS o1 n es l = fillS o n es l := by
            intro o1 h1 l
            have h2 : ∀ q, frzs o1 q = frzs o q := by
              intro q
              induction q with
              | nil => rfl
              | cons t q ih => simp only [frzs, h1, ih]
            induction l with
            | nil => intro es; rfl
            | cons p l ih =>
              intro es
              simp only [fillS, h2, ih]
          rw [key _ (fun t => ?_)]; · exact hf
          have : ∀ (q : List TV) (o1 : Ob), frz (shares o1 q) t = frz o1 t := by
            intro q
            induction q with
            | nil => intro o1; rfl
            | cons v q ih => intro o1; simp only [shares]; rw [ih, frz_share1]
          exact this _ _
        have hr1 : PRs c ρ F1 h l m := by
          have : ∀ (l : List (Nat × TV)) (m : List (Nat × Value)), PRs c ρ F h l m → PRs c ρ F1 h l m := by
            intro l
            induction l with
            | nil => intro m hm; cases m <;> exact hm
            | cons p l ih =>
              intro m hm
              cases m with
              | nil => exact hm
              | cons q m => exact ⟨hm.1, A.keep _ _ hm.2.1, ih m hm.2.2⟩
          exact this l m hr
        obtain ⟨F2, cv, B, b1, b2, b3⟩ := fillS_rel A.mem hfz2 hE2 hr1
        refine ⟨F2, cv, A.trans B, ?_, b2, by rw [b3, s2]⟩
        obtain ⟨i, x⟩ := b
        simp only at e
        subst e
        simp only [fillA, Option.bind_some]
        have : x.cells.size = n := by simpa using hvl
        rw [this]
        simp only at hcs1
        simp [grd, hcs1, b1]
      · cases hf
    · cases hf

end
end Go.M

namespace Go.M
open Go

section
variable {T E : Env} {X : Cx} {ρ : Gh} {F : Nat → Prop} {o : Ob} {c : Nat} {af : AF} {f : Fr} {h : AHeap} {p : Oper} {K : OK}

theorem Did.eff (H : Mem X ρ F o c h) {v : TV} {x : Value} {h' : AHeap} {ρ' : Gh} {F' : Nat → Prop} {o' : Ob} {c' : Nat} {ns : List Nat} (hp : apure E af p = none) (hq : aread E af p = none) (ha : aalloc E af p = none)
    (he : aeff E X.base af p h = some (.val x, h')) (hN : Nx X ρ F o c h ρ' F' o' c' h') (hv : VR c' ρ' F' h' v x) (hr : Raw ρ o h ρ' o' h' ns) (hK : K v o' c' (.eff ns)) : Did E X ρ F o c af h p K := by
  refine ⟨0, ⟨x, h', .eff h h'⟩, v, o', c', ρ', F', .eff ns, fun n _ => ?_, hK, hN, hv, .eff hr⟩
  unfold runOp; rw [hp, hq, ha, he]

/-- What an object's change leaves alone. -/
theorem raw_set (H : Mem X ρ F o c h) {F1 : Nat → Prop} {o1 : Ob} (S : ShOk X ρ c h F o F1 o1) {m : Nat} {y y' : TO} {b : Nat} {h' : AHeap} (hl : look o1 m = some y) (hs : strong y = true) {x : Nat} (hhm : headOf ρ h m = some x)
    (same : ∀ z, z < h.size → hd h z ≠ x → h'.get z = h.get z) : Raw ρ o h ρ (upd1 o1 m y') h' [m] := by
  intro n yn hn hne
  have hne' : n ≠ m := by simpa using hne
  obtain ⟨y1, k1, k2⟩ := S.wk n yn hn
  refine ⟨⟨y1, by rw [look_upd1, if_neg hne']; exact k1, k2⟩, rfl, fun b hb => ?_⟩
  have hx : ∀ q, headOf ρ h n = some q → q ≠ x := fun q hq e => by
    subst e
    exact hne' (S.mem.heads n m y1 y _ k1 hl hq hhm)
  have hhb : hd h b ≠ x := by
    rcases (H.objs n yn hn).block with ⟨b', o', h1, h2, h3, h4⟩ | ⟨b', z, len, cs, f, t0, th0, c0, t1, th1, h1, h2, h3, h4⟩ | ⟨⟨z, h1⟩, _⟩
    · rcases hb with hb | ⟨z, l, hb⟩ <;> rw [h1] at hb <;> cases hb
      rw [h3]; exact hx _ h4
    · rcases hb with hb | ⟨z, l, hb⟩ <;> rw [h1] at hb <;> cases hb
      rw [hd_get h2]; exact hx _ h4
    · rcases hb with hb | ⟨z, l, hb⟩ <;> rw [h1] at hb <;> cases hb
  exact ⟨same b (H.atB_lt hn hb) hhb, fun cs hr => rd_same H.wf same hhb hr⟩

theorem nx_of (H : Mem X ρ F o c h) {F1 : Nat → Prop} {o1 : Ob} (S : ShOk X ρ c h F o F1 o1) {ρ' : Gh} {F2 : Nat → Prop} {o2 : Ob} {c2 : Nat} {h' : AHeap} (M : Mem X ρ' F2 o2 c2 h') (hk : ∀ t x, VR c ρ F1 h t x → VR c2 ρ' F2 h' t x) (hF : ∀ b, F1 b → F2 b)
    (hsz : h.size ≤ h'.size) (frz : ∀ b cs, F b → h.rd b = some cs → h'.rd b = some cs) : Nx X ρ F o c h ρ' F2 o2 c2 h' :=
  ⟨M, fun t x hx => hk t x (S.keep t x hx), hsz, fun b hb => hF b (S.FF b hb), frz⟩

theorem okC_one {t : TV} {x : Value} (ho : okC t = true) (hv : VR c ρ F h t x) : oneC x = true := by
  cases hv with
  | s hp => cases x <;> simp [plain1] at hp <;> rfl
  | tk hn h1c => cases x <;> simp [slV] at h1c; rfl
  | wp hn h1c => cases x <;> simp [ptV] at h1c; rfl
  | j => simp [okC] at ho
  | agg => simp [okC] at ho
  | tup => simp [okC] at ho
  | _ => rfl
theorem okC_all : ∀ {l : List TV} {m : List Value}, l.all okC = true → VRs c ρ F h l m → m.all oneC = true
  | [], m, _, H => by rw [H.inv_nil]; rfl
  | t :: l, m, ho, H => by
    simp only [List.all_cons, Bool.and_eq_true] at ho
    obtain ⟨v, m', rfl, h1, h2⟩ := H.inv_cons
    simp only [List.all_cons, Bool.and_eq_true]
    exact ⟨okC_one ho.1 h1, okC_all ho.2 h2⟩

/-- A store, as the canonical evaluator does it. -/
def cstore (E : Env) (base : Nat) (t : TypeId) (a v : Value) (h : AHeap) : Option (ARes × AHeap) := (E.size t).bind fun n => (asPtr a).bind fun p =>
      grd (Nat.beq v.cells.size n && v.cells.toList.all oneC) <| (h.rd p.1).bind fun cs => (setN cs p.2 v.cells.toList).bind fun cs' => (h.wr base p.1 cs').bind fun h' => some (.val undef, h')

theorem wstore_ok (L : EnvLe T E) (H : Mem X ρ F o c h) {t : TypeId} {a v : TV} {av vv : Value} (hw : wstore T t a v o c K) (ha : VR c ρ F h a av) (hv : VR c ρ F h v vv) (hp : apure E af p = none) (hq : aread E af p = none) (hal : aalloc E af p = none)
    (he : aeff E X.base af p h = cstore E X.base t av vv h) : Did E X ρ F o c af h p K := by
  unfold wstore at hw
  split at hw
  · exact hw.elim
  · rename_i n hn
    split at hw
    · exact hw.elim
    · rename_i hc
      simp only [Bool.and_eq_true, beq_iff] at hc
      obtain ⟨⟨hov, hlen⟩, hall⟩ := hc
      have hcr := cells_rel hv hov
      have hone := okC_all hall hcr
      have hsz : vv.cells.size = n := by have := hcr.1; simp only [Array.length_toList] at this; omega
      have go : ∀ b q cs cs' h', av = .pointer (some ⟨b, q, none⟩) → h.rd b = some cs → setN cs q vv.cells.toList = some cs' → h.wr X.base b cs' = some h' → aeff E X.base af p h = some (.val undef, h') := by
        rintro b q cs cs' h' rfl h1 h2 h3
        rw [he]
        unfold cstore
        simp only [L.size _ _ hn, Option.bind_some, asPtr, hsz, hone, h1, h2, h3, grd]
        simp
      split at hw
      · rename_i m q
        split at hw
        · rename_i cs hl
          split at hw
          · rename_i cs1 hset
            have hO := H.objs m _ hl
            cases hO with
            | cells hb hg htt hc =>
              rename_i b thr csv
              cases ha with
              | ptr hb' =>
                rw [hb] at hb'; cases hb'
                have hrd := rd_of (fam_of hg hg) htt (cellsOf_get hg)
                obtain ⟨cs1v, h1, h2⟩ := setN_rel hset hc hcr
                have hhm : headOf ρ h m = some b := by simp [headOf, hb]
                have hmine := H.mine m _ _ hl hhm
                have W := wrH_ok (cs' := cs1v) H.wf hg (fam_of hg hg)
                obtain ⟨t', th', hg'⟩ := W.self
                obtain ⟨M, hk⟩ := H.set (y' := .cells cs1) hl rfl rfl hhm (by simp [headOf, hb]) W.size W.wf W.same W.hds fun hm => by
                  refine .cells hb (thr := b) (cs' := cs1v) ?_ (Nat.le_refl _) (h2.mono' hm)
                  obtain ⟨c0, hroot⟩ := fam_root W.fam
                  simp only at hroot
                  rw [hg'] at hroot
                  rw [hg', Option.some.injEq, AObj.cells.injEq] at *
                  obtain ⟨_, _, e3, e4⟩ := hroot
                  exact ⟨rfl, rfl, e3, e4⟩
                refine Did.eff H hp hq hal (go _ _ _ _ _ rfl hrd h1 (wr_of hg (fam_of hg hg) hmine.1 hmine.1)) (nx_of H (.refl H) M hk (fun _ h => h) (by rw [W.size]; exact Nat.le_refl _) fun b' cs' hb' hr' => rd_same H.wf W.same ((H.frozen b' hb').2 m _ _ hl rfl hhm) hr') (.j _)
                  (raw_set H (.refl H) (b := b) hl rfl hhm W.same) hw
          · exact hw.elim
        · exact hw.elim
      · rename_i m i q
        split at hw
        · rename_i z es l hl hfz
          obtain ⟨e, hee, hw⟩ := hw
          split at hw
          · rename_i e1 hset
            obtain ⟨F1, S, sv⟩ := shares_ok (cellsT v) H
            have H1 := S.mem
            have hl1 := sv l _ hfz hcr
            obtain ⟨f1, f2⟩ := frzs_fz hfz
            obtain ⟨b, hb, rfl⟩ := wp_ptr H1 hl (S.keep _ _ ha)
            have hO := H1.objs m _ hl
            cases hO with
            | nil hb' hz => rw [hb] at hb'; cases hb'
            | arr hb' hg hf htt hbf hz hlen' hee' hfz' hc' =>
              rename_i f t0 th0 thr cs
              rw [hb] at hb'; cases hb'
              have hE : ER c ρ F1 h z es cs := ⟨hlen', hee', hfz', hc'⟩
              have hrd := rd_of hf htt (cellsOf_get hg)
              have hi : i < es.length := (List.getElem?_eq_some_iff.1 hee).1
              have hez := hee' e (List.mem_of_getElem? hee)
              obtain ⟨s1, s2, s3⟩ := setN_some hset
              have hvl : vv.cells.toList.length = l.length := hl1.1.symm
              have hle : (i + 1) * z ≤ es.length * z := Nat.mul_le_mul_right z hi
              rw [Nat.add_mul] at hle
              obtain ⟨cs1, hcs1⟩ := setN_ex (n := i * z + q) (l := cs) (xs := vv.cells.toList) (by rw [hlen', hvl]; omega)
              obtain ⟨t1, t2, t3⟩ := setN_some hcs1
              have hhm : headOf ρ h m = some f := by simp [headOf, hb, hd_get hg]
              have hmine := H1.mine m _ _ hl hhm
              have hble : X.base ≤ b := by
                have := H1.wf.le _ _ _ _ _ hg; omega
              have W := wrH_ok (cs' := cs1) H.wf hg hf
              obtain ⟨t', th', hg'⟩ := W.self
              have hE2 : ER c ρ F1 h z (es.set i e1) cs1 := by
                refine hE.setAt (i := i) (l := e1) (fun j => ?_) (by simp) hi (by rw [s2, hez]) (fun t ht => ?_) t2 (fun j t v q1 q2 => ?_) (fun k hk => ?_)
                · rw [List.getElem?_set]
                  by_cases ej : i = j
                  · subst ej; rw [if_pos rfl, if_pos rfl, if_pos hi]
                  · rw [if_neg ej, if_neg (fun e => ej e.symm)]
                · obtain ⟨j, hj⟩ := List.getElem?_of_mem ht
                  rw [s3] at hj
                  split at hj
                  · exact f1 t (List.mem_of_getElem? hj)
                  · exact hfz' e (List.mem_of_getElem? hee) t (List.mem_of_getElem? hj)
                · rw [s3] at q1
                  rw [t3] at q2
                  split at q1
                  · rename_i hj
                    rw [if_pos ⟨by omega, by omega⟩] at q2
                    exact hl1.2 (j - q) t v q1 (by rw [← q2]; congr 1; omega)
                  · rename_i hj
                    rw [if_neg (by omega)] at q2
                    exact hc' i j e t v hee q1 q2
                · rw [t3, if_neg]
                  rw [Nat.add_mul] at hk; omega
              obtain ⟨M, hk⟩ := H1.set (y' := .arr z true (es.set i e1)) hl rfl rfl hhm (by simp only [headOf, hb]; rw [W.hds, hd_get hg]) W.size W.wf W.same W.hds fun hm =>
                OR.arr' (by simp [hb]) hg' W.fam (Nat.le_refl _) hbf hz (hE2.mono hm)
              refine Did.eff H hp hq hal (go _ _ _ _ _ rfl hrd hcs1 (wr_of hg hf hble hbf)) (nx_of H S M hk (fun _ h => h) (by rw [W.size]; exact Nat.le_refl _) fun b' cs' hb' hr' => rd_same H.wf W.same ((H1.frozen b' (S.FF _ hb')).2 m _ _ hl rfl hhm) hr') (.j _)
                (raw_set H S (b := b) hl rfl hhm W.same) hw
          · exact hw.elim
        · exact hw.elim
      · exact hw.elim

/-! ### Maps -/
def cmapUpdate (E : Env) (base : Nat) (t : TypeId) (m k v : Value) (h : AHeap) : Option (ARes × AHeap) := (amapUpdate E base h t m k v).bind fun h' => some (.val undef, h')

theorem put_same {b : Nat} {ob : AObj} : (h.put b ob).size = h.size ∧ (∀ x, x ≠ b → (h.put b ob).get x = h.get x) := ⟨rfl, fun x hx => by rw [AHeap.get_put, if_neg hx]⟩

/-- A map's entries are others. -/
theorem map_set (H : Mem X ρ F o c h) {F1 : Nat → Prop} {o1 : Ob} (S : ShOk X ρ c h F o F1 o1) {n kn : Nat} {es es1 : List (Value × TV)} {b clock clock' : Nat} {ev ev1 : List MapEntry} (hl : look o1 n = some (.map kn es)) (hb : ρ n = some (.blk b)) (hg : h.get b = some (.map ev clock))
    (hE : ERs c ρ F1 h kn es1 ev1) (hst : StL ev1 clock') {x : Value} {v : TV} (hp : apure E af p = none) (hq : aread E af p = none) (hal : aalloc E af p = none) (he : aeff E X.base af p h = some (.val x, h.put b (.map ev1 clock'))) (hv : ∀ c ρ F h, VR c ρ F h v x)
    (hK : K v (upd1 o1 n (.map kn es1)) c (.eff [n])) : Did E X ρ F o c af h p K := by
  have H1 := S.mem
  have hhm : headOf ρ h n = some b := by simp [headOf, hb]
  have hdb : hd h b = b := by simp [hd, hg]
  have hget : ∀ x, (h.put b (.map ev1 clock')).get x = if x = b then some (.map ev1 clock') else h.get x := fun x => AHeap.get_put _ _ _ _
  have same : ∀ x, x < h.size → hd h x ≠ b → (h.put b (.map ev1 clock')).get x = h.get x := fun x _ hx => by
    rw [hget, if_neg]
    intro e; subst e; exact hx hdb
  have hds : ∀ x, hd (h.put b (.map ev1 clock')) x = hd h x := fun x => by
    by_cases e : x = b
    · subst e; rw [hdb]; unfold hd; rw [hget, if_pos rfl]
    · unfold hd; rw [hget, if_neg e]
  have hwf : Wf (h.put b (.map ev1 clock')) := by
    have hbl := H.wf.lt hg
    refine ⟨fun x hx => ?_, fun x cs f t th hx => ?_⟩
    · rw [AHeap.size_put] at hx
      rw [hget, if_neg (by omega)]; exact H.wf.high x hx
    · rw [hget] at hx
      split at hx
      · cases hx
      · exact H.wf.le _ _ _ _ _ hx
  obtain ⟨M, hk⟩ := H1.set (y' := .map kn es1) hl rfl rfl hhm (by simp [headOf, hb]) (AHeap.size_put _ _ _) hwf same hds fun hm =>
    .map hb (by rw [hget, if_pos rfl]) hE.1 (fun i e e' q1 q2 => let ⟨r1, r2, r3, r4⟩ := hE.2 i e e' q1 q2; ⟨r1, r2, r3, hm _ _ r4⟩) hst
  exact Did.eff H hp hq hal he (nx_of H S M hk (fun _ h => h) (by rw [AHeap.size_put]; exact Nat.le_refl _) fun b' cs' hb' hr' => rd_same H.wf same ((H1.frozen b' (S.FF _ hb')).2 n _ _ hl rfl hhm) hr') (hv _ _ _ _)
    (raw_set H S (b := b) hl rfl hhm same) hK

end
end Go.M

namespace Go.M
open Go

section
variable {T E : Env} {X : Cx} {ρ : Gh} {F : Nat → Prop} {o : Ob} {c : Nat} {af : AF} {f : Fr} {h : AHeap} {p : Oper} {K : OK}

theorem find_pos {kd : TypeDesc} {k : Value} {n : Nat} (hk : kindOk kd k n = true) : ∀ {es : List (Value × TV)} {es' : List MapEntry} (i : Nat), ERs c ρ F h n es es' →
    (Instr.findNow kd k es' i = some none ∧ (∀ v, putM es k v = es ++ [(k, v)]) ∧ delM es k = es) ∨
    ∃ j x, j < es.length ∧ Instr.findNow kd k es' i = some (some (i + j, x)) ∧ (∀ v, putM es k v = es.set j (k, v)) ∧ delM es k = es.eraseIdx j
  | [], es', i, H => by rw [H.inv_nil]; exact .inl ⟨rfl, fun _ => rfl, rfl⟩
  | e :: es, es', i, H => by
    obtain ⟨e', m, rfl, h1, h2, h3, h4, h5⟩ := H.inv_cons
    unfold Instr.findNow
    rw [h1, sameNow_keq hk h2.2]
    cases hq : keq k e.1 with
    | true => exact .inr ⟨0, e'.val, by simp, rfl, fun v => by simp [putM, hq], by simp [delM, hq]⟩
    | false =>
      simp only
      rcases find_pos hk (i + 1) h5 with ⟨q1, q2, q3⟩ | ⟨j, x, q0, q1, q2, q3⟩
      · exact .inl ⟨q1, fun v => by simp [putM, hq, q2], by simp [delM, hq, q3]⟩
      · exact .inr ⟨j + 1, x, by simp; omega, by rw [q1]; congr 3; omega, fun v => by simp [putM, hq, q2], by simp [delM, hq, q3]⟩

theorem ERs.mono {kn c' : Nat} {ρ' : Gh} {F' : Nat → Prop} {h' : AHeap} {es : List (Value × TV)} {ev : List MapEntry} (H : ERs c ρ F h kn es ev) (hm : ∀ t v, VR c ρ F h t v → VR c' ρ' F' h' t v) : ERs c' ρ' F' h' kn es ev :=
  ⟨H.1, fun i e e' q1 q2 => let ⟨r1, r2, r3, r4⟩ := H.2 i e e' q1 q2; ⟨r1, r2, r3, hm _ _ r4⟩⟩
theorem ERs.append1 {kn : Nat} {es : List (Value × TV)} {ev : List MapEntry} (H : ERs c ρ F h kn es ev) {k : Value} {v : TV} {x : Value} (hk : 0 < kn ∧ kcodeV k = kn) (hf : fzV v = true) (hv : VR c ρ F h v x) (b : Nat) : ERs c ρ F h kn (es ++ [(k, v)]) (ev ++ [{ key := k, val := x, born := b }]) := by
  refine ⟨by simp [H.1], fun i e e' q1 q2 => ?_⟩
  by_cases hi : i < es.length
  · rw [List.getElem?_append_left hi] at q1
    rw [List.getElem?_append_left (by rw [← H.1]; exact hi)] at q2
    exact H.2 i e e' q1 q2
  · rw [List.getElem?_append_right (by omega)] at q1
    rw [List.getElem?_append_right (by rw [← H.1]; omega), ← H.1] at q2
    have : i - es.length = 0 := by
      rcases Nat.eq_zero_or_pos (i - es.length) with h0 | h0
      · exact h0
      · rw [List.getElem?_eq_none (by simp; omega)] at q1; cases q1
    rw [this] at q1 q2
    simp at q1 q2
    subst q1; subst q2
    exact ⟨rfl, hk, hf, hv⟩
theorem ERs.set {kn : Nat} {es : List (Value × TV)} {ev : List MapEntry} (H : ERs c ρ F h kn es ev) {k : Value} {v : TV} {x : Value} (hk : 0 < kn ∧ kcodeV k = kn) (hf : fzV v = true) (hv : VR c ρ F h v x) (j : Nat) : ERs c ρ F h kn (es.set j (k, v)) (ev.modify j fun e => { e with key := k, val := x }) := by
  refine ⟨by simp [H.1], fun i e e' q1 q2 => ?_⟩
  rw [List.getElem?_set] at q1
  rw [List.getElem?_modify] at q2
  by_cases e0 : j = i
  · subst e0
    rw [if_pos rfl] at q1
    split at q1
    · cases q1
      cases hq : ev[j]? with
      | none => rw [hq] at q2; simp at q2
      | some a => rw [hq] at q2; simp at q2; subst q2; exact ⟨rfl, hk, hf, hv⟩
    · cases q1
  · rw [if_neg e0] at q1
    cases hq : ev[i]? with
    | none => rw [hq] at q2; simp at q2
    | some a =>
      rw [hq] at q2; simp [e0] at q2; subst q2
      exact H.2 i e _ q1 hq
theorem ERs.erase {kn : Nat} {es : List (Value × TV)} {ev : List MapEntry} (H : ERs c ρ F h kn es ev) (j : Nat) : ERs c ρ F h kn (es.eraseIdx j) (ev.eraseIdx j) := by
  refine ⟨by rw [List.length_eraseIdx, List.length_eraseIdx, H.1], fun i e e' q1 q2 => ?_⟩
  rw [List.getElem?_eraseIdx] at q1 q2
  split at q1
  · rename_i hlt; rw [if_pos hlt] at q2; exact H.2 _ _ _ q1 q2
  · rename_i hlt; rw [if_neg hlt] at q2; exact H.2 _ _ _ q1 q2

theorem StL.append1 {ev : List MapEntry} {clock : Nat} (H : StL ev clock) {k v : Value} : StL (ev ++ [{ key := k, val := v, born := clock }]) (clock + 1) := by
  refine ⟨fun x hx => ?_, ?_⟩
  · rcases List.mem_append.1 hx with hx | hx
    · have := H.1 x hx; omega
    · simp at hx; subst hx; simp
  · rw [List.map_append, List.nodup_append]
    refine ⟨H.2, by simp, fun a ha b hb => ?_⟩
    obtain ⟨x, hx, rfl⟩ := List.mem_map.1 ha
    simp at hb; subst hb
    have := H.1 x hx; omega
theorem StL.modify {ev : List MapEntry} {clock : Nat} (H : StL ev clock) (j : Nat) {f : MapEntry → MapEntry} (hf : ∀ e, (f e).born = e.born) : StL (ev.modify j f) clock := by
  have h1 : (ev.modify j f).map (·.born) = ev.map (·.born) := by
    apply List.ext_getElem?
    intro i
    rw [List.getElem?_map, List.getElem?_map, List.getElem?_modify]
    cases ev[i]? with
    | none => simp
    | some e => by_cases h : j = i <;> simp [h, hf]
  refine ⟨fun x hx => ?_, by rw [h1]; exact H.2⟩
  have : x.born ∈ (ev.modify j f).map (·.born) := List.mem_map.2 ⟨x, hx, rfl⟩
  rw [h1] at this
  obtain ⟨y, hy, e⟩ := List.mem_map.1 this
  rw [← e]; exact H.1 y hy
theorem StL.erase {ev : List MapEntry} {clock : Nat} (H : StL ev clock) (j : Nat) : StL (ev.eraseIdx j) clock :=
  ⟨fun x hx => H.1 x (List.mem_of_mem_eraseIdx hx), ((List.eraseIdx_sublist ev j).map _).nodup H.2⟩

theorem wmapUpdate_ok (L : EnvLe T E) (H : Mem X ρ F o c h) {t : TypeId} {m k v : TV} {mv kv vv : Value} (hw : wmapUpdate T t m k v o c K) (hm : VR c ρ F h m mv) (hk : VR c ρ F h k kv) (hv : VR c ρ F h v vv) (hp : apure E af p = none) (hq : aread E af p = none) (hal : aalloc E af p = none)
    (he : aeff E X.base af p h = cmapUpdate E X.base t mv kv vv h) : Did E X ρ F o c af h p K := by
  unfold wmapUpdate at hw
  split at hw
  · rename_i kt elem hd
    split at hw
    · rename_i kd kv' hkd
      split at hw
      · rename_i n v' hfr
        split at hw
        · rename_i kn es hl
          split at hw
          · rename_i hko
            obtain ⟨hs1, hs2⟩ := kindOk_scalar hko
            have hkn : 0 < kn ∧ kcodeV kv' = kn := by
              unfold kindOk at hko
              simp only [Bool.and_eq_true, beq_iff, blt_iff] at hko
              exact ⟨hko.1.1, hko.2⟩
            have hkv := hk.inv_s.1
            subst hkv
            have hov : okV v = true := by
              cases v <;> simp [frzV, frz] at hfr <;> rfl
            obtain ⟨F1, S, sv⟩ := frzV_ok H v hov
            obtain ⟨hv1, hfz⟩ := sv v' vv hfr hv
            have hO := H.objs n _ hl
            cases hO with
            | map hb hg hlen hc hst =>
              rename_i b clock ev
              have hE : ERs c ρ F1 h kn es ev := ERs.mono ⟨hlen, hc⟩ S.keep
              cases hm with
              | mp hb' =>
                rw [hb] at hb'; cases hb'
                obtain ⟨y1, k1, k2⟩ := S.wk n _ hl
                have : y1 = .map kn es := by cases y1 <;> simp [weak] at k2; obtain ⟨rfl, rfl⟩ := k2; rfl
                subst this
                have hbase : X.base ≤ b := (H.mine n _ b hl (by simp [headOf, hb])).1
                have hg0 : ∀ ev1 cl1, (∃ i, Instr.findNow kd kv ev 0 = some i ∧ (match i with | some (i, _) => ev1 = (ev.modify i fun e => { e with key := kv, val := vv }) ∧ cl1 = clock | none => ev1 = ev ++ [{ key := kv, val := vv, born := clock }] ∧ cl1 = clock + 1)) →
                    aeff E X.base af p h = some (.val undef, h.put b (.map ev1 cl1)) := by
                  rintro ev1 cl1 ⟨i, hi, h2⟩
                  rw [he]
                  unfold cmapUpdate amapUpdate
                  rw [L.desc _ _ hd]
                  simp only [Option.bind_some, L.desc _ _ hkd]
                  rw [ble_iff.2 hbase, hs1, hs2, hg]
                  simp only [Bool.and_self, grd, hi, Option.bind_some]
                  cases i with
                  | none => obtain ⟨rfl, rfl⟩ := h2; rfl
                  | some i => obtain ⟨rfl, rfl⟩ := h2; rfl
                rcases find_pos hko 0 hE with ⟨q1, q2, q3⟩ | ⟨j, x, q0, q1, q2, q3⟩
                · refine map_set H S k1 hb hg (hE.append1 hkn hfz hv1 clock) hst.append1 hp hq hal (hg0 _ _ ⟨_, q1, rfl, rfl⟩) (fun _ _ _ _ => .j _) ?_
                  rw [q2] at hw; exact hw
                · refine map_set H S k1 hb hg (hE.set hkn hfz hv1 j) (hst.modify j fun _ => rfl) hp hq hal (hg0 _ _ ⟨_, q1, by simp, rfl⟩) (fun _ _ _ _ => .j _) ?_
                  rw [q2] at hw; exact hw
          · exact hw.elim
        · exact hw.elim
      · exact hw.elim
    · exact hw.elim
  · exact hw.elim

theorem wdelete_ok (L : EnvLe T E) (H : Mem X ρ F o c h) {t : TypeId} {m k : TV} {mv kv : Value} (hw : wdelete T t m k o c K) (hm : VR c ρ F h m mv) (hk : VR c ρ F h k kv) (hp : apure E af p = none) (hq : aread E af p = none) (hal : aalloc E af p = none)
    (he : aeff E X.base af p h = (adelete E X.base h t mv kv).bind fun r => some (.val r.1, r.2)) : Did E X ρ F o c af h p K := by
  unfold wdelete at hw
  split at hw
  · rename_i kt elem hd
    split at hw
    · rename_i kd kv' n hkd
      split at hw
      · rename_i kn es hl
        split at hw
        · rename_i hko
          obtain ⟨hs1, hs2⟩ := kindOk_scalar hko
          have hkv := hk.inv_s.1
          subst hkv
          have hO := H.objs n _ hl
          cases hO with
          | map hb hg hlen hc hst =>
            rename_i b clock ev
            have hE : ERs c ρ F h kn es ev := ⟨hlen, hc⟩
            cases hm with
            | mp hb' =>
              rw [hb] at hb'; cases hb'
              have hbase : X.base ≤ b := (H.mine n _ b hl (by simp [headOf, hb])).1
              have hg0 : ∀ ev1, (∃ i, Instr.findNow kd kv ev 0 = some i ∧ ev1 = (match i with | some (i, _) => ev.eraseIdx i | none => ev)) → aeff E X.base af p h = some (.val (.tuple #[]), h.put b (.map ev1 clock)) := by
                rintro ev1 ⟨i, hi, rfl⟩
                rw [he]
                unfold adelete
                rw [L.desc _ _ hd]
                simp only [Option.bind_some, L.desc _ _ hkd]
                rw [ble_iff.2 hbase, hs1, hs2, hg]
                simp only [Bool.and_self, grd, hi, Option.bind_some]
                cases i <;> rfl
              have htup : ∀ (c : Nat) (ρ : Gh) (F : Nat → Prop) (h : AHeap), VR c ρ F h (.tup []) (.tuple #[]) := fun _ _ _ _ => .tup_of .nil
              rcases find_pos hko 0 hE with ⟨q1, q2, q3⟩ | ⟨j, x, q0, q1, q2, q3⟩
              · refine map_set H (.refl H) hl hb hg hE hst hp hq hal (hg0 ev ⟨_, q1, rfl⟩) htup ?_
                rw [q3] at hw; exact hw
              · refine map_set H (.refl H) hl hb hg (hE.erase j) (hst.erase j) hp hq hal (hg0 (ev.eraseIdx j) ⟨_, q1, by simp⟩) htup ?_
                rw [q3] at hw; exact hw
        · exact hw.elim
      · exact hw.elim
    · exact hw.elim
  · exact hw.elim

theorem wclear_ok (H : Mem X ρ F o c h) {t : TypeId} {n kn : Nat} {es : List (Value × TV)} {mv : Value} (hl : look o n = some (.map kn es)) (hw : K (.tup []) (upd1 o n (.map kn [])) c (.eff [n])) (hm : VR c ρ F h (.mp n) mv) (hp : apure E af p = none) (hq : aread E af p = none) (hal : aalloc E af p = none)
    (hd : (E.desc t).isSome = true) (he : aeff E X.base af p h = ((E.desc t).bind fun _ => aclear E X.base h t mv).bind fun r => some (.val r.1, r.2)) : Did E X ρ F o c af h p K := by
  have hO := H.objs n _ hl
  cases hO with
  | map hb hg hlen hc hst =>
    rename_i b clock ev
    cases hm with
    | mp hb' =>
      rw [hb] at hb'; cases hb'
      have hbase : X.base ≤ b := (H.mine n _ b hl (by simp [headOf, hb])).1
      obtain ⟨d, hd⟩ := Option.isSome_iff_exists.1 hd
      refine map_set H (.refl H) (es1 := []) (ev1 := []) (clock' := clock) hl hb hg ⟨rfl, fun i e e' q => by simp at q⟩ ⟨by simp, by simp⟩ hp hq hal ?_ (fun _ _ _ _ => .tup_of .nil) hw
      rw [he, hd]
      unfold aclear
      simp only [Option.bind_some]
      rw [ble_iff.2 hbase, hg]
      rfl

end
end Go.M

namespace Go.M
open Go

section
variable {T E : Env} {X : Cx} {ρ : Gh} {F : Nat → Prop} {o : Ob} {c : Nat} {af : AF} {f : Fr} {h : AHeap} {p : Oper} {K : OK}

theorem size_le {k bytes : Nat} (hk : k < 1048576) (hb : bytes < 1048576) : (k + 1) * (bytes + 1) ≤ 1099511627776 := by
  have h1 : (k + 1) * (bytes + 1) ≤ 1048576 * 1048576 := Nat.mul_le_mul hk hb
  exact h1
/-- An array without elements, that lies nowhere. -/
theorem Mem.newNil (H : Mem X ρ F o c h) {z : Nat} (hz : 0 < z) : Mem X (updG ρ c (some (.nil z))) F ((c, .arr z true []) :: o) (c + 1) h ∧ ∀ t v, VR c ρ F h t v → VR (c + 1) (updG ρ c (some (.nil z))) F h t v := by
  refine H.change (fun _ => False) c (.arr z true []) (Nat.le_refl _) H.wf (fun _ hf => hf.elim) (fun _ _ _ => rfl) (fun _ _ _ hr => hr) (fun _ _ => rfl) (fun _ hb => hb) (fun _ hb hn => absurd hb hn) (by omega) (H.upd_A _) (H.upd_B _) (H.upd_N _)
    (fun m y' hne hl => ?_) (fun y' hl => ?_) (.nil (updG_self _ _ _) hz) (fun hs => by cases hs) fun x hx => ?_
  · rw [look_cons, if_neg (fun e => hne e.symm)] at hl
    exact ⟨y', hl, weak.refl _, .inl rfl, by rw [updG_ne _ _ hne], fun _ _ hf => hf.elim⟩
  · rw [look_cons, if_pos rfl, Option.some.injEq] at hl; exact hl.symm
  · simp [headOf, updG_self] at hx

/-- An array with another name. -/
theorem Mem.rename (H : Mem X ρ F o c h) {m z : Nat} {w : Bool} {es : List (List TV)} (hl : look o m = some (.arr z w es)) {b l : Nat} (hb : ρ m = some (.arr b z l)) :
    Mem X (updG (updG ρ m none) c (some (.arr b z l))) F ((c, .arr z w es) :: drop1 o m) (c + 1) h ∧ ∀ t v, VR c ρ F h t v → VR (c + 1) (updG (updG ρ m none) c (some (.arr b z l))) F h t v := by
  have hm := H.lt hl
  have hρ : ∀ n, n ≠ m → n ≠ c → updG (updG ρ m none) c (some (.arr b z l)) n = ρ n := fun n h1 h2 => by rw [updG_ne _ _ h2, updG_ne _ _ h1]
  have hρc : updG (updG ρ m none) c (some (.arr b z l)) c = some (.arr b z l) := updG_self _ _ _
  have hA : ∀ n l', n < c → updG (updG ρ m none) c (some (.arr b z l)) n = some l' → ρ n = some l' := fun n l' hn h1 => by
    by_cases e : n = m
    · subst e; rw [updG_ne _ _ (by omega), updG_self] at h1; cases h1
    · rwa [hρ n e (by omega)] at h1
  have hB : ∀ n b', ρ n = some (.blk b') → updG (updG ρ m none) c (some (.arr b z l)) n = some (.blk b') := fun n b' hn => by
    have := H.names _ _ hn
    by_cases e : n = m
    · subst e; rw [hb] at hn; cases hn
    · rwa [hρ n e (by omega)]
  have hmono : ∀ t v, VR c ρ F h t v → VR (c + 1) (updG (updG ρ m none) c (some (.arr b z l))) F h t v := fun t v => VR.mono (by omega) hA hB (fun _ hb => hb) (fun _ _ _ hr => hr)
  have hdrop : ∀ n y, n ≠ c → look ((c, TO.arr z w es) :: drop1 o m) n = some y → n ≠ m ∧ look o n = some y := fun n y hne hy => by
    rw [look_cons, if_neg (fun e => hne e.symm), look_drop1] at hy
    by_cases e : n = m
    · rw [if_pos e] at hy; cases hy
    · rw [if_neg e] at hy; exact ⟨e, hy⟩
  have hhm : headOf ρ h m = some (hd h b) := by simp [headOf, hb]
  refine H.change (fun _ => False) c (.arr z w es) (Nat.le_refl _) H.wf (fun _ hf => hf.elim) (fun _ _ _ => rfl) (fun _ _ _ hr => hr) (fun _ _ => rfl) (fun _ hb => hb) (fun _ hb hn => absurd hb hn) (by omega) hA hB (fun n l' hn => ?_)
    (fun n y' hne hy => ?_) (fun y' hy => ?_) ?_ (fun hs b' z' l' hr => ?_) fun x hx => ?_
  · by_cases e : n = c
    · omega
    · by_cases e2 : n = m
      · omega
      · rw [hρ n e2 e] at hn; have := H.names _ _ hn; omega
  · obtain ⟨h1, h2⟩ := hdrop n y' hne hy
    exact ⟨y', h2, weak.refl _, .inl rfl, hρ n h1 hne, fun _ _ hf => hf.elim⟩
  · rw [look_cons, if_pos rfl, Option.some.injEq] at hy; exact hy.symm
  · have hO := H.objs m _ hl
    cases hO with
    | nil hb' hz => rw [hb] at hb'; cases hb'
    | arr hb' hg hf ht hbf hz hlen he hfz hc => exact .arr (hρc.trans (hb.symm.trans hb')) hg hf ht hbf hz hlen he hfz fun i j e t v q1 q2 q3 => hmono _ _ (hc i j e t v q1 q2 q3)
  · rw [hρc] at hr; cases hr
    cases w with
    | true => cases hs
    | false => exact H.shr m z es b z l hl hb
  · have e : x = hd h b := by simp only [headOf, hρc] at hx; exact (Option.some.inj hx).symm
    subst e
    obtain ⟨q1, q2, q3⟩ := H.mine m _ _ hl hhm
    refine ⟨q1, q2, q3, fun n y' hne hy hh => ?_, fun hs b' hb' => (H.frozen b' hb').2 m _ _ hl hs hhm⟩
    obtain ⟨h1, h2⟩ := hdrop n y' hne hy
    exact h1 (H.heads n m y' _ _ h2 hl hh hhm)

/-- What is appended. -/
theorem content_rel (H : Mem X ρ F o c h) {x : TV} {zx n : Nat} {xs : List (List TV)} (he : esOf o x = some (zx, xs)) (hz : zx = n ∨ zx = 0) {xv : Value} (hx : VR c ρ F h x xv) :
    lenV xv = some xs.length ∧ (xs = [] ∨ ∃ new, firstV h n xs.length xv = some new ∧ ER c ρ F h n xs new) := by
  unfold esOf at he
  split at he
  · cases he
    cases hx with
    | nil h1 => subst h1; exact ⟨rfl, .inl rfl⟩
    | sl q1 q2 q3 q4 q5 q6 q7 q8 q9 q10 =>
      rename_i b oo len cap cs
      have hzn : zx = n := by omega
      subst hzn
      refine ⟨by simp [lenV, q4], .inr ⟨(cs.drop oo).take (xs.length * zx), ?_, ⟨by simp; rw [← q4] at q7; omega, q8, q9, fun i j e t v r1 r2 r3 => ?_⟩⟩⟩
      · simp only [firstV, M.readCells, q2, Option.bind_some, takeN_some, and_true, List.length_drop]
        rw [← q4] at q7; omega
      · rw [List.getElem?_take] at r3
        split at r3
        · rw [List.getElem?_drop] at r3
          exact q10 i j e t v r1 r2 (by rw [← r3]; congr 1; omega)
        · cases r3
  · rename_i m
    split at he
    · rename_i w es hl
      cases he
      have hO := H.objs m _ hl
      cases hx with
      | tk hn h1c ha h0 =>
        cases hO with
        | nil hb hz' =>
          rcases h0 _ hb with rfl | ⟨b, o', cs, q1, q2, q3, q4, rfl⟩
          · exact ⟨rfl, .inl rfl⟩
          · exact ⟨rfl, .inl rfl⟩
        | arr hb hg hf ht hbf hz' hlen he hfz hc =>
          rename_i b f t0 th0 thr cs
          obtain ⟨cap, h1, rfl⟩ := ha _ _ _ hb
          have hzn : zx = n := by omega
          subst hzn
          refine ⟨rfl, .inr ⟨cs, ?_, ⟨hlen, he, hfz, hc⟩⟩⟩
          simp only [firstV, M.readCells, rd_of hf ht (cellsOf_get hg), Option.bind_some, List.drop_zero, takeN_some]
          rw [← hlen]; simp
    · cases he
  · cases he

theorem ER.oneC {z : Nat} {es : List (List TV)} {cs : List Value} (A : ER c ρ F h z es cs) (hz : 0 < z) : cs.all M.oneC = true := by
  rw [List.all_eq_true]
  intro v hv
  obtain ⟨k, hk⟩ := List.getElem?_of_mem hv
  have hkl : k < cs.length := (List.getElem?_eq_some_iff.1 hk).1
  rw [A.len] at hkl
  have hi : k / z < es.length := by
    rw [Nat.div_lt_iff_lt_mul hz]; exact hkl
  obtain ⟨e, he⟩ : ∃ e, es[k / z]? = some e := ⟨_, List.getElem?_eq_getElem hi⟩
  have hel := A.each e (List.mem_of_getElem? he)
  have hj : k % z < e.length := by rw [hel]; exact Nat.mod_lt _ hz
  obtain ⟨t, ht⟩ : ∃ t, e[k % z]? = some t := ⟨_, List.getElem?_eq_getElem hj⟩
  have hkk : k / z * z + k % z = k := by rw [Nat.mul_comm]; exact Nat.div_add_mod k z
  have hvr := A.cell (k / z) (k % z) e t v he ht (by rw [hkk]; exact hk)
  have hfz := A.fz e (List.mem_of_getElem? he) t (List.mem_of_getElem? ht)
  have hoc : okC t = true := by
    cases t <;> simp [M.fz] at hfz <;> rfl
  exact okC_one hoc hvr

/-- What the canonical evaluator does at an append. -/
def cappend (E : Env) (base : Nat) (st xt : TypeId) (s x : Value) (h : AHeap) : Option (ARes × AHeap) := (aappend E base h st xt s x).bind fun r => some (.val r.1, r.2)

structure AppT (E : Env) (st xt elem n bytes : Nat) : Prop where
  sd : E.desc st = some (.slice elem)
  xd : ∃ e, E.desc xt = some (.slice e)
  size : E.size elem = some n
  bytes : E.bytes elem = some bytes
  zero : ∃ z, E.zero elem = some z ∧ z.cells.size = n

theorem app_none {base st xt elem n bytes : Nat} (A : AppT E st xt elem n bytes) {s x : Value} (hs : slV s = true) (hs0 : ∀ l k, s = .slice none l k → l = 0 ∧ k = 0) (hs1 : ∀ b oo sp l k, s = .slice (some ⟨b, oo, sp⟩) l k → sp.isSome) (hx : lenV x = some 0) : aappend E base h st xt s x = some (s, h) := by
  obtain ⟨e, hxd⟩ := A.xd
  obtain ⟨z, hz1, hz2⟩ := A.zero
  unfold aappend
  rw [A.sd, hxd]
  simp only [Option.bind_some, A.size, A.bytes, hz1, hx]
  simp only [isIntT, hz2, grd]
  cases s <;> simp [slV] at hs
  rename_i a l k
  cases a with
  | none => obtain ⟨rfl, rfl⟩ := hs0 l k rfl; simp
  | some a =>
    obtain ⟨b, oo, sp⟩ := a
    have := hs1 b oo sp l k rfl
    cases sp with
    | none => simp at this
    | some q => simp

theorem app_nil {base st xt elem n bytes len : Nat} (A : AppT E st xt elem n bytes) {x : Value} {new : List Value} (hx : lenV x = some len) (hl : len ≠ 0) (hb : (len + 1) * (bytes + 1) ≤ 1099511627776) (hf : firstV h n len x = some new) (hn : new.length = len * n) :
    aappend E base h st xt (.slice none 0 0) x = some (fresh h new n len) := by
  obtain ⟨e, hxd⟩ := A.xd
  obtain ⟨z, hz1, hz2⟩ := A.zero
  unfold aappend
  rw [A.sd, hxd]
  simp only [Option.bind_some, A.size, A.bytes, hz1, hx]
  simp only [isIntT, hz2, grd]
  simp [nbeq, hl, ble_iff.2 hb, hf, hn]

theorem app_full {base st xt elem n bytes len b oo sl : Nat} (A : AppT E st xt elem n bytes) {x : Value} {old new : List Value} (hx : lenV x = some len) (hl : len ≠ 0) (hb : (sl + len + 1) * (bytes + 1) ≤ 1099511627776) (hf : firstV h n len x = some new) (hn : new.length = len * n)
    (ho : M.readCells h b oo (sl * n) = some old) : aappend E base h st xt (.slice (some ⟨b, oo, some n⟩) sl sl) x = some (fresh h (old ++ new) n (sl + len)) := by
  obtain ⟨e, hxd⟩ := A.xd
  obtain ⟨z, hz1, hz2⟩ := A.zero
  unfold aappend
  rw [A.sd, hxd]
  simp only [Option.bind_some, A.size, A.bytes, hz1, hx]
  simp only [isIntT, hz2, grd]
  simp [nbeq, hl, ble_iff.2 hb, hf, hn, ho]

theorem app_ext {base st xt elem n bytes len b sl cap f thr : Nat} (A : AppT E st xt elem n bytes) {x : Value} {old new cs : List Value} (hx : lenV x = some len) (hl : len ≠ 0) (hb : (sl + len + 1) * (bytes + 1) ≤ 1099511627776) (hf : firstV h n len x = some new) (hn : new.length = len * n)
    (ho : M.readCells h b 0 (sl * n) = some old) (hcap : cap ≠ sl) (hc : h.cellsOf b = some cs) (hfam : h.fam b = some (f, b, thr)) (hbf : base ≤ f) (hcl : sl * n = cs.length) (hone : new.all oneC = true) :
    aappend E base h st xt (.slice (some ⟨b, 0, some n⟩) sl cap) x = some (.slice (some ⟨h.size, 0, some n⟩) (sl + len) (sl + len + 1), extH h f thr (old ++ new)) := by
  obtain ⟨e, hxd⟩ := A.xd
  obtain ⟨z, hz1, hz2⟩ := A.zero
  unfold aappend
  rw [A.sd, hxd]
  simp only [Option.bind_some, A.size, A.bytes, hz1, hx]
  simp only [isIntT, hz2, grd]
  have h1 : new.all oneC = true := hone
  simp [nbeq, hl, ble_iff.2 hb, hf, hn, ho, hcap, hc, hfam, ble_iff.2 hbf, hcl]
  rw [← hcl, ho, h1]
  rfl


/-- An own array may be told as one that is shared. -/
theorem Mem.flag {n : Nat} {xs : List (List TV)} {o1 : Ob} (H : Mem X ρ F ((c, .arr n true xs) :: o1) (c + 1) h) (w : Bool) : ∃ F', Mem X ρ F' ((c, .arr n w xs) :: o1) (c + 1) h ∧ (∀ t v, VR (c + 1) ρ F h t v → VR (c + 1) ρ F' h t v) ∧ ∀ b, F b → F' b := by
  cases w with
  | true => exact ⟨F, H, fun _ _ h => h, fun _ h => h⟩
  | false =>
    obtain ⟨F', h1, h2, h3, _⟩ := H.share c
    refine ⟨F', h1.less fun m y hl => ?_, h2, h3⟩
    have : shareO ((c, TO.arr n true xs) :: o1) c = upd1 ((c, TO.arr n true xs) :: o1) c (.arr n false xs) := by
      unfold shareO; rw [look_cons, if_pos rfl]
    rw [this, look_upd1]
    rw [look_cons] at hl
    by_cases e : m = c
    · subst e
      rw [if_pos rfl, look_cons, if_pos rfl]
      rw [if_pos rfl] at hl
      simpa using hl
    · rw [if_neg e, look_cons, if_neg (fun e2 => e e2.symm)]
      rwa [if_neg (fun e2 => e e2.symm)] at hl

theorem raw_drop (H : Mem X ρ F o c h) {m : Nat} {y : TO} {l : Option Loc} : ∀ n yn, look o n = some yn → n ∉ [m] → (∃ y', look ((c, y) :: drop1 o m) n = some y' ∧ weak yn y') ∧ updG (updG ρ m none) c l n = ρ n := by
  intro n yn hn hne
  have hne' : n ≠ m := by simpa using hne
  have := H.lt hn
  exact ⟨⟨yn, by rw [look_cons, if_neg (by omega), look_drop1, if_neg hne']; exact hn, weak.refl _⟩, by rw [updG_ne _ _ (by omega), updG_ne _ _ hne']⟩

theorem wappend_ok (L : EnvLe T E) (H : Mem X ρ F o c h) {st xt : TypeId} {s x : TV} {sv xv : Value} (hw : wappend T st xt s x o c K) (hs : VR c ρ F h s sv) (hx : VR c ρ F h x xv) (hp : apure E af p = none) (hq : aread E af p = none) (hal : aalloc E af p = none)
    (he : aeff E X.base af p h = cappend E X.base st xt sv xv h) : Did E X ρ F o c af h p K := by
  unfold wappend at hw
  split at hw
  · rename_i elem xelem hsd hxd
    split at hw
    · rename_i n bytes z0 zx xs hn hby hz0 hes
      split at hw
      · rename_i hc
        simp only [Bool.and_eq_true, beq_iff, blt_iff, Bool.or_eq_true] at hc
        obtain ⟨⟨⟨hz0n, hn0⟩, hzx⟩, hby0⟩ := hc
        have size : ∀ {k : Nat}, k < 1048576 → (k + 1) * (bytes + 1) ≤ 1099511627776 := fun {k} hk => size_le hk hby0
        have A : AppT E st xt elem n bytes := ⟨L.desc _ _ hsd, ⟨_, L.desc _ _ hxd⟩, L.size _ _ hn, L.bytes _ _ hby, _, (L.zero _ _ hz0).1, hz0n⟩
        obtain ⟨hlen, hcont⟩ := content_rel H hes hzx hx
        have fin : ∀ v h', aappend E X.base h st xt sv xv = some (v, h') → aeff E X.base af p h = some (.val v, h') := fun v h' hh => by rw [he]; unfold cappend; rw [hh]; rfl
        -- an empty one that is at its memory's end
        have empty : ∀ {F1 : Nat → Prop} {o1 : Ob} {ρ1 : Gh} {w : Bool} {ns : List Nat}, Mem X ρ1 F1 o1 c h → (∀ t v, VR c ρ F h t v → VR c ρ1 F1 h t v) → (∀ b, F b → F1 b) →
            (∀ m y, look o m = some y → m ∉ ns → (∃ y', look o1 m = some y' ∧ weak y y') ∧ ρ1 m = ρ m) →
            (sv = .slice none 0 0 ∨ ∃ b oo cs, F b ∧ h.rd b = some cs ∧ oo ≤ cs.length ∧ sv = .slice (some ⟨b, oo, some n⟩) 0 0) → ((xs.length + 1) * (bytes + 1) ≤ 1099511627776) →
            K (.tk c) ((c, .arr n w xs) :: o1) (c + 1) (.eff ns) → Did E X ρ F o c af h p K := by
          intro F1 o1 ρ1 w ns M1 k1 f1 w1 hsv hbd hK
          have cs0 : ∀ m y, look o m = some y → m ≠ c := fun m y hl => by have := H.lt hl; omega
          by_cases hx0 : xs.length = 0
          · have hxe : xs = [] := List.length_eq_zero_iff.1 hx0
            subst hxe
            obtain ⟨M2, k2⟩ := M1.newNil hn0
            obtain ⟨F3, M3, k3, f3⟩ := M2.flag w
            have hap : aappend E X.base h st xt sv xv = some (sv, h) := by
              refine app_none A ?_ ?_ ?_ hlen
              · rcases hsv with rfl | ⟨b, oo, cs, _, _, _, rfl⟩ <;> rfl
              · rintro l k e; rcases hsv with rfl | ⟨b, oo, cs, _, _, _, rfl⟩ <;> cases e; exact ⟨rfl, rfl⟩
              · rintro b oo sp l k e; rcases hsv with rfl | ⟨b, oo, cs, _, _, _, rfl⟩ <;> cases e; rfl
            refine Did.eff H hp hq hal (fin _ _ hap) ⟨M3, fun t x hx => k3 t x (k2 t x (k1 t x hx)), Nat.le_refl _, fun b hb => f3 b (f1 b hb), fun _ _ _ hr => hr⟩ ?_ (fun m y hl hm => ⟨?_, ?_, fun b _ => ⟨rfl, fun _ hr => hr⟩⟩) hK
            · refine .tk (by omega) (by rcases hsv with rfl | ⟨b, oo, cs, _, _, _, rfl⟩ <;> rfl) (fun b z len hx => ?_) (fun z hx => ?_)
              · rw [updG_self] at hx; cases hx
              · rw [updG_self] at hx; cases hx
                rcases hsv with rfl | ⟨b, oo, cs, q1, q2, q3, rfl⟩
                · exact .inl rfl
                · exact .inr ⟨b, oo, cs, f3 _ (f1 _ q1), q2, hn0, q3, rfl⟩
            · rw [look_cons, if_neg (cs0 m y hl).symm]; exact (w1 m y hl hm).1
            · rw [updG_ne _ _ (cs0 m y hl)]; exact (w1 m y hl hm).2
          · rcases hcont with e | ⟨new, hnew, hE⟩
            · subst e; simp at hx0
            · obtain ⟨M2, k2⟩ := M1.newArr (hE.mono k1) hn0
              obtain ⟨F3, M3, k3, f3⟩ := M2.flag w
              have hnl : new.length = xs.length * n := hE.len
              have hap : aappend E X.base h st xt sv xv = some (fresh h new n xs.length) := by
                rcases hsv with rfl | ⟨b, oo, cs, _, q2, q3, rfl⟩
                · exact app_nil A hlen hx0 hbd hnew hnl
                · have := app_full (base := X.base) (sl := 0) (old := []) (b := b) (oo := oo) A hlen hx0 (by simpa using hbd) hnew hnl (by simp [M.readCells, q2, takeN])
                  simpa using this
              refine Did.eff H hp hq hal (fin _ _ hap) ⟨M3, fun t x hx => k3 t x (k2 t x (k1 t x hx)), by show h.size ≤ h.size + 1; omega, fun b hb => f3 b (f1 b hb), fun b cs hb hr => (rd_push H.wf.le _ (H.Flt hb)).trans hr⟩ ?_ (fun m y hl hm => ⟨?_, ?_, fun b hb => ?_⟩) hK
              · refine .tk (by omega) rfl (fun b z len hx => ?_) (fun z hx => ?_)
                · rw [updG_self] at hx; cases hx; exact ⟨_, by omega, rfl⟩
                · rw [updG_self] at hx; cases hx
              · rw [look_cons, if_neg (cs0 m y hl).symm]; exact (w1 m y hl hm).1
              · rw [updG_ne _ _ (cs0 m y hl)]; exact (w1 m y hl hm).2
              · have := H.atB_lt hl hb
                exact ⟨by rw [AHeap.get_push, if_neg (by omega)], fun cs hr => by rw [rd_push H.wf.le _ this]; exact hr⟩
        split at hw
        · rename_i z
          split at hw
          · rename_i hz
            simp only [Bool.or_eq_true, beq_iff] at hz
            obtain ⟨hbd, hK⟩ := hw
            refine empty (w := true) H (fun _ _ h => h) (fun _ h => h) (fun m y hl _ => ⟨⟨y, hl, weak.refl _⟩, rfl⟩) ?_ (size hbd) hK
            cases hs with
            | nil => exact .inl rfl
            | sl q1 q2 q3 q4 q5 q6 q7 q8 q9 q10 =>
              have hzn : z = n := by omega
              subst hzn
              simp at q4
              subst q4
              rw [q6 rfl]
              exact .inr ⟨_, _, _, q1, q2, by omega, rfl⟩
          · exact hw.elim
        · rename_i m
          split at hw
          · rename_i z w es hl
            split at hw
            · rename_i hz
              rw [beq_iff] at hz
              subst hz
              obtain ⟨hbd0, hK⟩ := hw
              have hbd := size hbd0
              have hm := H.lt hl
              have hO := H.objs m _ hl
              cases hs with
              | tk hn' h1c ha h0 =>
                cases hO with
                | nil hb hz' =>
                  obtain ⟨M1, k1⟩ := H.gone hl
                  have hsv : sv = .slice none 0 0 ∨ ∃ b oo cs, F b ∧ h.rd b = some cs ∧ oo ≤ cs.length ∧ sv = .slice (some ⟨b, oo, some z⟩) 0 0 := by
                    rcases h0 _ hb with e | ⟨b, o', cs, q1, q2, q3, q4, e⟩
                    · exact .inl e
                    · exact .inr ⟨b, o', cs, q1, q2, q4, e⟩
                  refine empty (w := w) M1 k1 (fun _ h => h) (fun n y hln hne => ?_) hsv (by simpa using hbd) (by simpa using hK)
                  have hne' : n ≠ m := by simpa using hne
                  exact ⟨⟨y, by rw [look_drop1, if_neg hne']; exact hln, weak.refl _⟩, updG_ne _ _ hne'⟩
                | arr hb hg hf ht hbf hz' hlen' hee hfz hc =>
                  rename_i b f t0 th0 thr cs
                  obtain ⟨cap, hcap, rfl⟩ := ha _ _ _ hb
                  have hE0 : ER c ρ F h z es cs := ⟨hlen', hee, hfz, hc⟩
                  have hrd := rd_of hf ht (cellsOf_get hg)
                  have hro : M.readCells h b 0 (es.length * z) = some cs := by
                    simp only [M.readCells, hrd, Option.bind_some, List.drop_zero, takeN_some]
                    rw [← hlen']; simp
                  have hblk := H.wf.lt hg
                  obtain ⟨c0, hroot⟩ := fam_root hf
                  simp only at hroot
                  have hhm : headOf ρ h m = some f := by simp [headOf, hb, hd_get hg]
                  by_cases hx0 : xs.length = 0
                  · have hxe : xs = [] := List.length_eq_zero_iff.1 hx0
                    subst hxe
                    obtain ⟨M2, k2⟩ := H.rename hl hb
                    have hap : aappend E X.base h st xt (.slice (some ⟨b, 0, some z⟩) es.length cap) xv = some (.slice (some ⟨b, 0, some z⟩) es.length cap, h) :=
                      app_none A rfl (by rintro l k e; cases e) (by rintro b oo sp l k e; cases e; rfl) hlen
                    rw [List.append_nil] at hK
                    refine Did.eff H hp hq hal (fin _ _ hap) ⟨M2, k2, Nat.le_refl _, fun _ h => h, fun _ _ _ hr => hr⟩ ?_ (fun n y hln hne => ?_) hK
                    · refine .tk (by omega) rfl (fun b' z' len hx => ?_) (fun z hx => ?_)
                      · rw [updG_self] at hx; cases hx; exact ⟨_, hcap, rfl⟩
                      · rw [updG_self] at hx; cases hx
                    · obtain ⟨q1, q2⟩ := raw_drop H (y := .arr z w es) (l := some (.arr b z es.length)) n y hln hne
                      exact ⟨q1, q2, fun b' _ => ⟨rfl, fun _ hr => hr⟩⟩
                  · rcases hcont with e | ⟨new, hnew, hE⟩
                    · subst e; simp at hx0
                    · have hnl : new.length = xs.length * z := hE.len
                      have hEE := hE0.append hE
                      by_cases hcl : cap = es.length
                      · subst hcl
                        have hap := app_full (base := X.base) A hlen hx0 hbd hnew hnl hro
                        obtain ⟨M1, k1⟩ := H.gone hl
                        obtain ⟨M2, k2⟩ := M1.newArr (hEE.mono k1) hz'
                        obtain ⟨F3, M3, k3, f3⟩ := M2.flag w
                        refine Did.eff H hp hq hal (fin _ _ hap) ⟨M3, fun t x hx => k3 t x (k2 t x (k1 t x hx)), by show h.size ≤ h.size + 1; omega, f3, fun b cs hb hr => (rd_push H.wf.le _ (H.Flt hb)).trans hr⟩ ?_ (fun n y hln hne => ?_) hK
                        · refine .tk (by omega) rfl (fun b' z' len hx => ?_) (fun z hx => ?_)
                          · rw [updG_self] at hx; cases hx
                            exact ⟨es.length + xs.length + 1, by simp, by simp [fresh]⟩
                          · rw [updG_self] at hx; cases hx
                        · obtain ⟨q1, q2⟩ := raw_drop H (y := .arr z w (es ++ xs)) (l := some (.arr h.size z (es ++ xs).length)) n y hln hne
                          have hlt := fun b' hb' => H.atB_lt (b := b') hln hb'
                          exact ⟨q1, q2, fun b' hb' => ⟨(AHeap.get_push _ _ _).trans (if_neg (by have := hlt b' hb'; omega)), fun cs hr => (rd_push H.wf.le _ (hlt b' hb')).trans hr⟩⟩
                      · have hap := app_ext (base := X.base) (cap := cap) A hlen hx0 hbd hnew hnl hro hcl (cellsOf_get hg) hf hbf hlen'.symm (hE.oneC hz')
                        obtain ⟨M2, k2⟩ := H.grow hl hb hg hf ht hbf hz' hEE
                        refine Did.eff H hp hq hal (fin _ _ hap) ⟨M2, k2, by rw [ext_size]; omega, fun _ h => .inl h, fun _ _ _ hr => ext_rd H.wf hroot hr⟩ ?_ (fun n y hln hne => ?_) hK
                        · refine .tk (by omega) rfl (fun b' z' len hx => ?_) (fun z hx => ?_)
                          · rw [updG_self] at hx; cases hx
                            exact ⟨es.length + xs.length + 1, by simp, by simp⟩
                          · rw [updG_self] at hx; cases hx
                        · obtain ⟨q1, q2⟩ := raw_drop H (y := .arr z w (es ++ xs)) (l := some (.arr h.size z (es ++ xs).length)) n y hln hne
                          have hlt := fun b' hb' => H.atB_lt (b := b') hln hb'
                          have hne' : n ≠ m := by simpa using hne
                          refine ⟨q1, q2, fun b' hb' => ⟨?_, fun cs hr => ext_rd H.wf hroot hr⟩⟩
                          rw [ext_get hroot, if_neg (by have := hlt b' hb'; omega), if_neg]
                          intro e; subst e
                          have hhn : headOf ρ h n = some b' := by
                            rcases hb' with h1 | ⟨z1, l1, h1⟩
                            · simp [headOf, h1]
                            · simp [headOf, h1, hd_get hroot]
                          exact hne' (H.heads n m _ _ _ hln hl hhn hhm)
            · exact hw.elim
          · exact hw.elim
        · exact hw.elim
      · exact hw.elim
    · exact hw.elim
  · exact hw.elim

end
end Go.M

namespace Go.M
open Go

section
variable {T E : Env} {X : Cx} {ρ : Gh} {F : Nat → Prop} {o : Ob} {c : Nat} {af : AF} {f : Fr} {h : AHeap} {p : Oper} {K : OK}

theorem look_dropIds' : ∀ {ids : List (Option Nat)} {o : Ob} {n : Nat}, (∀ k : Nat, ids[k]? ≠ some (some n)) → look (dropIds ids o) n = look o n
  | [], o, n, _ => rfl
  | none :: l, o, n, h => look_dropIds' (ids := l) fun k => by simpa using h (k + 1)
  | some m :: l, o, n, h => by
    simp only [dropIds]
    rw [look_dropIds' (ids := l) fun k => by simpa using h (k + 1), look_drop1, if_neg]
    intro e; subst e
    exact h 0 rfl
theorem not_names : ∀ {ids : List (Option Nat)} {n : Nat}, n ∉ namesOf ids → ∀ k : Nat, ids[k]? ≠ some (some n)
  | [], n, _, k => by simp
  | none :: l, n, h, k => by
    cases k with
    | zero => simp
    | succ k => simpa using not_names (ids := l) h k
  | some m :: l, n, h, k => by
    simp only [namesOf, List.mem_cons, not_or] at h
    cases k with
    | zero => simp; exact fun e => h.1 e.symm
    | succ k => simpa using not_names (ids := l) h.2 k
theorem shareAll_wk : ∀ (sh : List Nat) (o : Ob) (n : Nat) (y : TO), look o n = some y → ∃ y', look (M.shareAll sh o) n = some y' ∧ weak y y'
  | [], o, n, y, h => ⟨y, h, weak.refl _⟩
  | m :: sh, o, n, y, h => by
    obtain ⟨y1, h1, h2⟩ := weak_shareO o m n y h
    obtain ⟨y2, h3, h4⟩ := shareAll_wk sh _ n y1 h1
    exact ⟨y2, h3, h2.trans h4⟩

theorem shareAll_ok (H : Mem X ρ F o c h) (sh : List Nat) : ∃ F', ShOk X ρ c h F o F' (M.shareAll sh o) := by
  obtain ⟨F', h1, h2, h3⟩ := H.shareAll sh
  exact ⟨F', h1, h2, h3, shareAll_wk sh o⟩

theorem wcall_ok (H : Mem X ρ F o c h) {g : FuncId} {args : List TV} {vargs : List Value} (hw : wcall (VC E) g args o c K) (ha : VRs c ρ F h args vargs) (hp : apure E af p = none) (hq : aread E af p = none) (hal : aalloc E af p = none)
    (he : aeff E X.base af p h = some (.enter g vargs, h)) : Did E X ρ F o c af h p K := by
  obtain ⟨sh, ids, args0, o0, R, hvc, ⟨hi, hargs, hO⟩, hK⟩ := hw
  obtain ⟨F1, S⟩ := shareAll_ok H sh
  have H1 := S.mem
  have hand := H1.hand hi hO
  have hv0 := leVs_rel (zf := zfO o0) H1 _ _ _ hargs (ha.mono' S.keep)
  obtain ⟨n0, v, h', ρ', F', r, o', c', hrun, hR, MC, hr⟩ := hvc X.base _ F1 h vargs hand hv0
  obtain ⟨MM, k1, k2⟩ := H1.merge hi hO MC
  have hsz : h.size ≤ h'.size := MC.evo.size
  refine ⟨n0, ⟨v, h', .eff h h'⟩, r.ren (back ids c), _, _, _, F', .eff (namesOf ids), fun n hn => ?_, hK r o' c' hR, ⟨MM, fun t x hx => k1 t x (S.keep t x hx), hsz, fun b hb => MC.F0 b (S.FF b hb), fun b cs hb hrd => (MC.evo.frz b (S.FF b hb)).trans hrd⟩, k2 _ _ hr, .eff fun n y hl hne => ?_⟩
  · unfold runOp
    rw [hp, hq, hal, he]
    simp only
    rw [acall_le hn _ _ _ _ hrun]
    rfl
  · have hn := not_names hne
    have hnc := H.lt hl
    obtain ⟨y1, q1, q2⟩ := S.wk n y hl
    have hM : ∀ x, heads0 (renG ids (zfO o0) ρ) h o0 x → ∃ (k m : Nat) (y : TO), ids[k]? = some (some m) ∧ look (M.shareAll sh o) m = some y ∧ headOf ρ h m = some x := by
      rintro x ⟨k, y, hl, hh⟩
      rcases (H1.leObj hO hl).2 with ⟨m1, z1, a1, b1, _, c1, _, _⟩ | ⟨_, c1, _⟩
      · exact ⟨k, m1, z1, a1, b1, c1 ▸ hh⟩
      · rw [c1] at hh; cases hh
    have hnt : ∀ x, headOf ρ h n = some x → ¬ heads0 (renG ids (zfO o0) ρ) h o0 x := fun x hx hy => by
      obtain ⟨k, m, y2, r1, r2, r3⟩ := hM x hy
      have := H1.heads n m y1 y2 x q1 r2 hx r3
      subst this
      exact hn k r1
    refine ⟨⟨y1, ?_, q2⟩, mrg_old hn hnc, fun b hb => ?_⟩
    · rw [look_append]
      split
      · rename_i y3 h3
        obtain ⟨k, y4, e1, _, _⟩ := look_renO (fun k k' => back_inj hi) h3
        exfalso
        unfold back at e1
        split at e1
        · rename_i m hm; subst e1; exact hn k hm
        · omega
      · rw [look_dropIds' hn]; exact q1
    · have hbl := H.atB_lt hl hb
      have hhb : ¬ heads0 (renG ids (zfO o0) ρ) h o0 (hd h b) := by
        rcases (H.objs n y hl).block with ⟨b', o', h1, h2, h3, h4⟩ | ⟨b', z, len, cs, f, t0, th0, c0, t1, th1, h1, h2, h3, h4⟩ | ⟨⟨z, h1⟩, _⟩
        · rcases hb with hb | ⟨z, l, hb⟩ <;> rw [h1] at hb <;> cases hb
          rw [h3]; exact hnt _ h4
        · rcases hb with hb | ⟨z, l, hb⟩ <;> rw [h1] at hb <;> cases hb
          rw [hd_get h2]; exact hnt _ h4
        · rcases hb with hb | ⟨z, l, hb⟩ <;> rw [h1] at hb <;> cases hb
      have hg := MC.evo.keep b hbl hhb
      refine ⟨hg, fun cs hr => ?_⟩
      obtain ⟨r, a1, a2, a3⟩ := rd_some hr
      obtain ⟨f1, t1, th1, hgb⟩ := cellsOf_some a3
      obtain ⟨cr, hr1⟩ := fam_root a1
      obtain ⟨cs1, p1, p2, hg1⟩ := fam_cells a1
      rw [hgb] at hg1; cases hg1
      have hgr := MC.evo.keep r.1 (H.wf.lt hr1) (by
        have : hd h r.1 = hd h b := by rw [hd_get hr1, hd_get hgb]
        show ¬ heads0 (renG ids (zfO o0) ρ) h o0 (hd h r.1)
        rw [this]; exact hhb)
      exact rd_of (fam_of (hg.trans hgb) (hgr.trans hr1)) a2 (cellsOf_get (hg.trans hgb))

end
end Go.M

namespace Go.M
open Go

section
variable {T E : Env} {X : Cx} {ρ : Gh} {F : Nat → Prop} {o : Ob} {c : Nat} {af : AF} {f : Fr} {h : AHeap} {p : Oper} {K : OK}

theorem PRes.did {canon : Option Value} (H : Mem X ρ F o c h) (R : PRes c ρ F h o canon K) (hp : apure E af p = canon) : Did E X ρ F o c af h p K := by
  obtain ⟨v, x, h1, h2, h3⟩ := R
  exact Did.pure H (hp.trans h1) h2 h3

theorem wlen_ok (L : EnvLe T E) (H : Mem X ρ F o c h) {t : TypeId} {x : TV} {xv : Value} {vs : List Value} {ts : List TypeId} (hw : wlen T t x o c K) (hx : VR c ρ F h x xv)
    (hp : ∀ d, E.desc t = some d → apure E af p = (match (generalizing := false) d, xv with
      | .string, .string s => some (goInt s.size)
      | .array n _, _ => some (goInt n)
      | .slice _, .slice _ n _ => some (goInt n)
      | .map _ _, .map none => some (goInt 0)
      | _, _ => none))
    (hq : ∀ k e r, E.desc t = some (.map k e) → xv = .map (some r) → aread E af p = some (.len r)) : Did E X ρ F o c af h p K := by
  unfold wlen at hw
  split at hw
  · rename_i hd
    split at hw
    · have := hx.inv_s.1; subst this
      exact Did.pure H (hp _ (L.desc _ _ hd)) (.s rfl) hw
    · exact hw.elim
  · rename_i n e hd
    exact Did.pure H ((hp _ (L.desc _ _ hd)).trans (by cases xv <;> rfl)) (.s rfl) hw
  · rename_i e hd
    split at hw
    · rename_i z es he
      have hl : ∃ a k, xv = .slice a es.length k := by
        unfold esOf at he
        split at he
        · cases he
          cases hx with
          | nil h1 => subst h1; exact ⟨none, 0, rfl⟩
          | sl q1 q2 q3 q4 => subst q4; exact ⟨_, _, rfl⟩
        · rename_i m
          split at he
          · rename_i w es' hl
            cases he
            have hO := H.objs m _ hl
            cases hx with
            | tk hn h1c ha h0 =>
              cases hO with
              | nil hb hz' =>
                rcases h0 _ hb with rfl | ⟨b, o', cs, q1, q2, q3, q4, rfl⟩
                · exact ⟨none, 0, rfl⟩
                · exact ⟨_, 0, rfl⟩
              | arr hb => obtain ⟨cap, _, rfl⟩ := ha _ _ _ hb; exact ⟨_, _, rfl⟩
          · cases he
        · cases he
      obtain ⟨a, k, rfl⟩ := hl
      exact Did.pure H (hp _ (L.desc _ _ hd)) (.s rfl) hw
    · exact hw.elim
  · rename_i k e hd
    split at hw
    · have := hx.inv_s.1; subst this
      exact Did.pure H (hp _ (L.desc _ _ hd)) (.s rfl) hw
    · rename_i n
      split at hw
      · rename_i kn es hl
        have hO := H.objs n _ hl
        cases hO with
        | map hb hg hlen hc hst =>
          rename_i b clock ev
          cases hx with
          | mp hb' =>
            rw [hb] at hb'; cases hb'
            have hma : mapAt h b = some (ev, clock) := by unfold mapAt; rw [hg]
            have hE : ERs c ρ F h kn es ev := ⟨hlen, hc⟩
            refine RRes.did H (q := .len b) ⟨_, _, _, by simp [RQ.run, hma]; rfl, .s rfl, ?_, .rdO (.refl _) rfl hl (.inl hb) ⟨_, hma, hE.refl⟩⟩ (hp _ (L.desc _ _ hd)) (hq _ _ _ (L.desc _ _ hd) rfl)
            rw [← hlen]; exact hw
      · exact hw.elim
    · exact hw.elim
  · exact hw.elim


theorem PSRes.did' {canon : Option Value} (H : Mem X ρ F o c h) (R : PSRes X c ρ F h o canon K) (hp : apure E af p = canon) : Did E X ρ F o c af h p K := R.did H hp

theorem ev1 (S : vSlots c ρ F h f af) {x : Operand} {l : List Operand} (hev : l.all evOk = true) (hm : x ∈ l) : ∃ v, ev E af x = some v ∧ VR c ρ F h (evT f x) v := vev_rel S (List.all_eq_true.1 hev x hm)
theorem evO (S : vSlots c ρ F h f af) {x : Option Operand} {l : List Operand} (hev : l.all evOk = true) (hm : ∀ y, x = some y → y ∈ l) : ∃ v, evOpt E af x = some v ∧ OptR c ρ F h (evTO f x) v := by
  cases x with
  | none => exact ⟨none, rfl, .inl ⟨rfl, rfl⟩⟩
  | some y =>
    obtain ⟨v, h1, h2⟩ := vev_rel (E := E) S (List.all_eq_true.1 hev y (hm y rfl))
    exact ⟨some v, by simp [evOpt, h1], .inr ⟨_, _, rfl, rfl, h2⟩⟩

theorem wbuiltin_ok (L : EnvLe T E) (H : Mem X ρ F o c h) {b : Builtin} {qargs : Array Operand} {argTypes : Array TypeId} {args : List TV} {vs : List Value} {dst : Option Tmp} {ty : TypeId} {pos : String} {after : Array Edge} {guard : Option (Nat × Bool)}
    (hw : wbuiltin T b argTypes.toList args o c K) (hr : VRs c ρ F h args vs) (he : evs E af qargs.toList = some vs) : Did E X ρ F o c af h ⟨dst, .call ⟨.builtin b, qargs, argTypes⟩, ty, pos, after, guard⟩ K := by
  have hp : apure E af ⟨dst, .call ⟨.builtin b, qargs, argTypes⟩, ty, pos, after, guard⟩ = abuiltP E b argTypes.toList vs := by simp only [apure, he, Option.bind_some]
  have hal : aalloc E af ⟨dst, .call ⟨.builtin b, qargs, argTypes⟩, ty, pos, after, guard⟩ = none := rfl
  have hef : aeff E X.base af ⟨dst, .call ⟨.builtin b, qargs, argTypes⟩, ty, pos, after, guard⟩ h = (abuiltE E X.base h b argTypes.toList vs).bind fun r => some (.val r.1, r.2) := by simp only [aeff, he, Option.bind_some]
  have hrd : b ≠ .len → aread E af ⟨dst, .call ⟨.builtin b, qargs, argTypes⟩, ty, pos, after, guard⟩ = none := fun hb => by
    cases b <;> first | rfl | exact absurd rfl hb
  unfold wbuiltin at hw
  split at hw
  · rename_i t ts x xs hts
    obtain ⟨xv, m, rfl, h1, h2⟩ := hr.inv_cons
    refine wlen_ok L H hw h1 (fun d hd => ?_) (fun k e r hd hx => ?_) (vs := []) (ts := [])
    · rw [hp, hts]
      simp only [abuiltP, hd, Option.bind_some]
      try rfl
    · subst hx
      simp only [aread, hts, he, Option.bind_some, hd]
  · rename_i st xt s x hts
    obtain ⟨sv, m, rfl, h1, h2⟩ := hr.inv_cons
    obtain ⟨xv, m', rfl, h3, h4⟩ := h2.inv_cons
    obtain rfl := h4.inv_nil
    refine wappend_ok L H hw h1 h3 (by rw [hp, hts]; rfl) (hrd (by simp)) hal ?_
    rw [hef, hts]; rfl
  · rename_i ts k x k' y
    obtain ⟨sv, m, rfl, h1, h2⟩ := hr.inv_cons
    obtain ⟨xv, m', rfl, h3, h4⟩ := h2.inv_cons
    obtain rfl := h4.inv_nil
    rw [h1.inv_s.1, h3.inv_s.1] at hp
    exact Did.pure H (x := .int k (if y > x then y else x)) (by rw [hp]; rfl) (.s rfl) hw
  · rename_i ts k x k' y
    obtain ⟨sv, m, rfl, h1, h2⟩ := hr.inv_cons
    obtain ⟨xv, m', rfl, h3, h4⟩ := h2.inv_cons
    obtain rfl := h4.inv_nil
    rw [h1.inv_s.1, h3.inv_s.1] at hp
    exact Did.pure H (x := .int k (if y < x then y else x)) (by rw [hp]; rfl) (.s rfl) hw
  · rename_i t ts m k hts
    obtain ⟨mv, m1, rfl, h1, h2⟩ := hr.inv_cons
    obtain ⟨kv, m', rfl, h3, h4⟩ := h2.inv_cons
    obtain rfl := h4.inv_nil
    refine wdelete_ok L H hw h1 h3 (by rw [hp, hts]; rfl) (hrd (by simp)) hal ?_
    rw [hef, hts]; rfl
  · rename_i t ts n args hts
    obtain ⟨mv, m1, rfl, h1, h2⟩ := hr.inv_cons
    split at hw
    · rename_i d kn es hd hl
      refine wclear_ok H hl hw h1 (by rw [hp, hts]; rfl) (hrd (by simp)) hal (by rw [L.desc _ _ hd]; rfl) ?_ (t := t)
      rw [hef, hts]; rfl
    · exact hw.elim
  · exact hw.elim

theorem wop_ok (L : EnvLe T E) (H : Mem X ρ F o c h) (S : vSlots c ρ F h f af) (hw : wop T (VC E) p.op f o c K) : Did E X ρ F o c af h p K := by
  obtain ⟨dst, op, ty, pos, after, guard⟩ := p
  simp only at hw
  unfold wop at hw
  split at hw
  · exact hw.elim
  · rename_i hev
    cases op with
    | move x =>
      obtain ⟨v, h1, h2⟩ := ev1 (E := E) S hev (x := x) (by simp [Op.operands])
      obtain ⟨hK, _⟩ := force_iff hw
      exact Did.pure H (x := v) h1 h2 hK
    | assign x =>
      obtain ⟨v, h1, h2⟩ := ev1 (E := E) S hev (x := x) (by simp [Op.operands])
      obtain ⟨hK, _⟩ := force_iff hw
      exact Did.pure H (x := v) h1 h2 hK
    | pick q a b =>
      obtain ⟨qv, h1, h2⟩ := ev1 (E := E) S hev (x := q) (by simp [Op.operands])
      obtain ⟨av, h3, h4⟩ := ev1 (E := E) S hev (x := a) (by simp [Op.operands])
      obtain ⟨bv, h5, h6⟩ := ev1 (E := E) S hev (x := b) (by simp [Op.operands])
      simp only at hw
      split at hw
      · rename_i qb he
        rw [he] at h2
        have := h2.inv_s.1; subst this
        split at hw
        · obtain ⟨hK, _⟩ := force_iff hw
          exact Did.pure H (x := av) (by simp [apure, h1, h3, asB]) h4 hK
        · obtain ⟨hK, _⟩ := force_iff hw
          exact Did.pure H (x := bv) (by simp [apure, h1, h5, asB]) h6 hK
      · exact hw.elim
    | alloc t =>
      simp only at hw
      split at hw
      · rename_i z hz
        split at hw
        · rename_i zs hzs
          obtain ⟨hz', hpl⟩ := L.zero _ _ hz
          exact cells_did H (zcells_rel hpl hzs) rfl rfl (by simp [aalloc, hz']) hw
        · exact hw.elim
      · exact hw.elim
    | box t x =>
      obtain ⟨v, h1, h2⟩ := ev1 (E := E) S hev (x := x) (by simp [Op.operands])
      simp only at hw
      obtain ⟨hK, hne⟩ := force_iff hw
      have hal : aalloc E af ⟨dst, .box t x, ty, pos, after, guard⟩ = some (.cells v.cells.toList, .ptr) := by simp [aalloc, h1]
      split at hK
      · exact hK.elim
      · exact hK.elim
      · rename_i cs he
        have hcr := cells_rel h2 (by rw [he]; rfl)
        rw [he] at hcr
        exact cells_did H hcr rfl rfl hal hK
      · rename_i n1 n2 n3
        have hok : okV (evT f x) = true := by
          cases he : evT f x with
          | j => exact absurd he n1
          | tup cs => exact absurd he (n2 cs)
          | _ => rfl
        have hcr := cells_rel h2 hok
        have hce : cellsT (evT f x) = [evT f x] := by
          cases he : evT f x with
          | agg cs => exact absurd he (n3 cs)
          | _ => rfl
        rw [hce] at hcr
        exact cells_did H hcr rfl rfl hal hK
    | build t ps =>
      obtain ⟨pv, h1, h2⟩ := vevParts_rel (E := E) S (l := ps.toList) (by simpa [Op.operands] using hev)
      exact PRes.did H (wbuild_ok L hw h2) (by simp [apure, h1])
    | buildSlice t len ps =>
      obtain ⟨pv, h1, h2⟩ := vevParts_rel (E := E) S (l := ps.toList) (by simpa [Op.operands] using hev)
      simp only at hw
      unfold wbuildSlice at hw
      split at hw
      · rename_i elem hd
        split at hw
        · rename_i n z hn hz
          obtain ⟨hz', hpl⟩ := L.zero _ _ hz
          split at hw
          · rename_i zs hc hzs
            simp only [Bool.and_eq_true, beq_iff, ble_iff, blt_iff] at hc
            obtain ⟨⟨hc1, hc2⟩, hc3⟩ := hc
            split at hw
            · rename_i es hzf hfs
              have hzr := zcells_rel (c := c) (ρ := ρ) (F := F) (h := h) hpl hzs
              have hzl : zs.length = n := by have := hzr.1; simp only [Array.length_toList] at this; omega
              obtain ⟨F', cv, S', b1, b2, b3⟩ := fillS_rel H hfs (ER.replicate hzr hzl hzf len) h2
              have hel : es.length = len := by rw [b3]; simp
              refine arr_did H S' (cap := len) b2 hc3 (by omega) rfl rfl ?_ hw
              simp only [aalloc, L.desc _ _ hd, Option.bind_some, h1, L.size _ _ hn, hz', hc2, ble_iff.2 hc1, grd]
              rw [hel]
              simp [b1]
            · exact hw.elim
          · exact hw.elim
        · exact hw.elim
      · exact hw.elim
    | load t a =>
      obtain ⟨av, h1, h2⟩ := ev1 (E := E) S hev (x := a) (by simp [Op.operands])
      obtain ⟨q, h3, h4⟩ := wload_ok L H hw h2
      exact h4.did H rfl (by simp only [aread, h1, Option.bind_some]; exact h3)
    | store t a v =>
      obtain ⟨av, h1, h2⟩ := ev1 (E := E) S hev (x := a) (by simp [Op.operands])
      obtain ⟨vv, h3, h4⟩ := ev1 (E := E) S hev (x := v) (by simp [Op.operands])
      exact wstore_ok L H hw h2 h4 rfl rfl rfl (by simp only [aeff, h1, h3, Option.bind_some]; rfl)
    | nilCheck x =>
      obtain ⟨v, h1, h2⟩ := ev1 (E := E) S hev (x := x) (by simp [Op.operands])
      simp only at hw
      split at hw
      · rename_i n q he
        rw [he] at h2
        cases h2 with
        | ptr hb => exact Did.pure H (by simp [apure, h1, nilCheckV]) (.ptr hb) hw
      · rename_i e q he
        rw [he] at h2
        cases h2 with
        | ep a1 a2 a3 a4 a5 => exact Did.pure H (by simp [apure, h1, nilCheckV]) (.ep a1 a2 a3 a4 a5) hw
      · rename_i g a b he
        rw [he] at h2
        cases h2 with
        | clo a1 a2 a3 a4 => exact Did.pure H (by simp [apure, h1, nilCheckV]) (.clo a1 a2 a3 a4) hw
      · exact hw.elim
    | binOp bop t x y t2 =>
      obtain ⟨av, h1, h2⟩ := ev1 (E := E) S hev (x := x) (by simp [Op.operands])
      obtain ⟨bv, h3, h4⟩ := ev1 (E := E) S hev (x := y) (by simp [Op.operands])
      exact PRes.did H (wbin_ok L hw h2 h4) (by simp [apure, h1, h3])
    | unOp uop t x =>
      obtain ⟨v, h1, h2⟩ := ev1 (E := E) S hev (x := x) (by simp [Op.operands])
      simp only at hw
      split at hw
      · rename_i w he
        split at hw
        · rename_i hs
          rw [he] at h2
          have := h2.inv_s.1; subst this
          exact PRes.did H (pure1_ok hw fun x hx => hx) (by simp [apure, h1, hs, grd])
        · exact hw.elim
      · exact hw.elim
    | convert s d x =>
      obtain ⟨v, h1, h2⟩ := ev1 (E := E) S hev (x := x) (by simp [Op.operands])
      simp only at hw
      split at hw
      · rename_i w he
        rw [he] at h2
        have := h2.inv_s.1; subst this
        exact PRes.did H (pure1_ok hw fun x hx => aconv_mono L hx) (by simp [apure, h1])
      · exact hw.elim
    | makeInterface t x =>
      obtain ⟨v, h1, h2⟩ := ev1 (E := E) S hev (x := x) (by simp [Op.operands])
      simp only at hw
      split at hw
      · exact hw.elim
      · exact hw.elim
      · rename_i d hd n1
        split at hw
        · exact hw.elim
        · refine Did.pure H (x := .iface t v) ?_ (.ifc h2) hw
          simp only [apure, L.desc _ _ n1, Option.bind_some, h1]
    | makeFunc fn first captured =>
      simp only at hw
      split at hw
      · rename_i g
        have he : (first.toList.all evOk = true) ∧ (captured.toList.all evOk = true) := by
          simpa [Op.operands] using hev
        obtain ⟨a, h1, h2⟩ := vevs_rel (E := E) S he.1
        obtain ⟨b, h3, h4⟩ := vevs_rel (E := E) S he.2
        exact Did.pure H (x := .func (.func g) a.toArray b.toArray) (by simp [apure, h1, h3]) (.clo (by simpa using h2.1) (fun i t v q1 q2 => h2.2 i t v q1 (by simpa using q2)) (by simpa using h4.1) (fun i t v q1 q2 => h4.2 i t v q1 (by simpa using q2))) hw
      · exact hw.elim
    | makeMap t r =>
      cases r with
      | some r => exact hw.elim
      | none =>
        simp only at hw
        split at hw
        · split at hw
          · split at hw
            · exact map_did H _ rfl rfl rfl hw
            · exact hw.elim
          · exact hw.elim
        · exact hw.elim
    | makeSlice t l k =>
      obtain ⟨lv, h1, h2⟩ := ev1 (E := E) S hev (x := l) (by simp [Op.operands])
      obtain ⟨kv, h3, h4⟩ := ev1 (E := E) S hev (x := k) (by simp [Op.operands])
      simp only at hw
      unfold wmakeSlice at hw
      split at hw
      · rename_i elem li ki hd hli hki
        split at hw
        · rename_i n bytes z hn hby hz
          obtain ⟨hz', hpl⟩ := L.zero _ _ hz
          split at hw
          · rename_i zs hc hzs
            simp only [Bool.and_eq_true, beq_iff, blt_iff] at hc
            obtain ⟨hc, hby0⟩ := hc
            split at hw
            · rename_i hzf
              obtain ⟨⟨b1, b2, b30⟩, hK⟩ := hw
              have b3 : (ki + 1) * ((bytes : Int) + 1) ≤ 1099511627776 := by
                have h1 : (ki.toNat + 1) * (bytes + 1) ≤ 1099511627776 := size_le (by omega) hby0
                have h2 : ki = (ki.toNat : Int) := by omega
                rw [h2]
                have h3 := Int.ofNat_le.2 h1
                rw [Int.natCast_mul] at h3
                exact h3
              have hzr := zcells_rel (c := c) (ρ := ρ) (F := F) (h := h) hpl hzs
              have hzl : zs.length = n := by have := hzr.1; simp only [Array.length_toList] at this; omega
              have hE := ER.replicate hzr hzl hzf li.toNat
              refine arr_did H (.refl H) (cap := bif Nat.beq li.toNat ki.toNat then li.toNat else li.toNat + 1) hE hc.2 (by simp only [List.length_replicate, bif_eq]; split <;> omega) rfl rfl ?_ hK
              simp only [aalloc, L.desc _ _ hd, Option.bind_some, h1, h3, asIT_rel hli h2, asIT_rel hki h4, L.size _ _ hn, L.bytes _ _ hby, hz', hc.1, grd]
              simp [b1, b2, b3]
            · exact hw.elim
          · exact hw.elim
        · exact hw.elim
      · exact hw.elim
    | slice t x lo hi mx =>
      obtain ⟨xv, h1, h2⟩ := ev1 (E := E) S hev (x := x) (by simp [Op.operands])
      obtain ⟨lov, h3, h4⟩ := evO (E := E) S hev (x := lo) (fun y e => by subst e; simp [Op.operands])
      obtain ⟨hiv, h5, h6⟩ := evO (E := E) S hev (x := hi) (fun y e => by subst e; simp [Op.operands])
      obtain ⟨mxv, h7, h8⟩ := evO (E := E) S hev (x := mx) (fun y e => by subst e; simp [Op.operands])
      exact (wslice_ok L H hw h2 h4 h6 h8).did H (by simp [apure, h1, h3, h5, h7])
    | fieldAddr s x fd =>
      obtain ⟨v, h1, h2⟩ := ev1 (E := E) S hev (x := x) (by simp [Op.operands])
      exact PRes.did H (wfieldAddr_ok L H hw h2) (by simp only [apure, h1, Option.bind_some]; rfl)
    | field t x fd =>
      obtain ⟨v, h1, h2⟩ := ev1 (E := E) S hev (x := x) (by simp [Op.operands])
      exact PRes.did H (wfield_ok L hw h2) (by simp only [apure, h1, Option.bind_some]; rfl)
    | indexAddr t x i =>
      obtain ⟨v, h1, h2⟩ := ev1 (E := E) S hev (x := x) (by simp [Op.operands])
      obtain ⟨iv, h3, h4⟩ := ev1 (E := E) S hev (x := i) (by simp [Op.operands])
      exact PRes.did H (windexAddr_ok L H hw h2 h4) (by simp [apure, h1, h3])
    | index t x i =>
      obtain ⟨v, h1, h2⟩ := ev1 (E := E) S hev (x := x) (by simp [Op.operands])
      obtain ⟨iv, h3, h4⟩ := ev1 (E := E) S hev (x := i) (by simp [Op.operands])
      exact PRes.did H (windex_ok L hw h2 h4) (by simp [apure, h1, h3])
    | lookup t x i ok =>
      obtain ⟨v, h1, h2⟩ := ev1 (E := E) S hev (x := x) (by simp [Op.operands])
      obtain ⟨iv, h3, h4⟩ := ev1 (E := E) S hev (x := i) (by simp [Op.operands])
      rcases wlookup_ok L H hw h2 h4 with ⟨rfl, R⟩ | ⟨r, rfl, q, hq, R⟩
      · exact PRes.did H R (by simp only [apure, h1, h3, Option.bind_some]; cases E.desc t with | none => rfl | some d => cases d <;> rfl)
      · refine R.did H ?_ (by simp only [aread, h1, h3, Option.bind_some]; exact hq)
        simp only [apure, h1, h3, Option.bind_some]
        cases E.desc t with
        | none => rfl
        | some d => cases d <;> rfl
    | mapUpdate t m k v =>
      obtain ⟨mv, h1, h2⟩ := ev1 (E := E) S hev (x := m) (by simp [Op.operands])
      obtain ⟨kv, h3, h4⟩ := ev1 (E := E) S hev (x := k) (by simp [Op.operands])
      obtain ⟨vv, h5, h6⟩ := ev1 (E := E) S hev (x := v) (by simp [Op.operands])
      exact wmapUpdate_ok L H hw h2 h4 h6 rfl rfl rfl (by simp only [aeff, h1, h3, h5, Option.bind_some]; rfl)
    | extract t i =>
      obtain ⟨v, h1, h2⟩ := ev1 (E := E) S hev (x := t) (by simp [Op.operands])
      simp only at hw
      split at hw
      · rename_i vs he
        rw [he] at h2
        obtain ⟨a, rfl, h3⟩ := h2.inv_tup
        split at hw
        · rename_i w hi
          obtain ⟨hK, _⟩ := force_iff hw
          have hlt := (List.getElem?_eq_some_iff.1 hi).1
          have hlt2 : i < a.toList.length := by rw [← h3.1]; exact hlt
          obtain ⟨x, hx⟩ : ∃ x, a.toList[i]? = some x := ⟨_, List.getElem?_eq_getElem hlt2⟩
          exact Did.pure H (x := x) (by simp only [apure, h1, Option.bind_some]; exact hx) (h3.2 i w x hi hx) hK
        · exact hw.elim
      · exact hw.elim
    | call q =>
      obtain ⟨callee, qargs, argTypes⟩ := q
      simp only at hw
      split at hw
      · rename_i b
        have hevA : qargs.toList.all evOk = true := by simpa [Op.operands, Call.operands] using hev
        obtain ⟨vs, h1, h2⟩ := vevs_rel (E := E) S hevA
        exact wbuiltin_ok L H hw h2 h1
      · rename_i g
        have he : evOk g = true ∧ qargs.toList.all evOk = true := by simpa [Op.operands, Call.operands] using hev
        obtain ⟨gv, h1, h2⟩ := vev_rel (E := E) S he.1
        obtain ⟨vs, h3, h4⟩ := vevs_rel (E := E) S he.2
        split at hw
        · rename_i g' a b hg
          rw [hg] at h2
          cases h2 with
          | clo hs ha ht hk =>
            rename_i a' k'
            have ha' : VRs c ρ F h a a'.toList := ⟨by simpa using hs, fun i t v q1 q2 => ha i t v q1 (by simpa using q2)⟩
            have hk' : VRs c ρ F h b k'.toList := ⟨by simpa using ht, fun i t v q1 q2 => hk i t v q1 (by simpa using q2)⟩
            refine wcall_ok H hw ((ha'.append h4).append hk') rfl rfl rfl ?_
            simp only [aeff, h3, h1, Option.bind_some]
        · exact hw.elim
      · exact hw.elim
    | _ => exact hw.elim

end
end Go.M
