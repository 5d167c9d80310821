import Derived.Test.YtmookciakjmjiaaMEff4
namespace Go.M
open Go
section
variable {P : Program} {E : Env} {μ : Emb} {f : AF} {a : Act} {base B : Nat} {h : AHeap} {w : World}

theorem builtE_sim (hE : EnvOk P E) (H : HRel E base B μ h w) {b : Builtin} {ts : Array TypeId} {args : List Value} {args' : Array Value} {v : Value} {h' : AHeap} (ty : TypeId) (ha : abuiltE E base h b ts.toList args = some (v, h')) (hr : VRels μ args args'.toList) :
    ∃ s, EffSim P E base B μ h w s v h' ∧ ∀ cs, builtin b ts ty cs args' = (do pure (.value (← s))) := by
  obtain ⟨ts⟩ := ts
  obtain ⟨args'⟩ := args'
  simp only at ha hr
  unfold abuiltE at ha
  split at ha
  · cases hr with
    | cons hs hr => cases hr with
      | cons hx hr => cases hr with
        | nil => exact ⟨_, append_sim (ty := ty) hE H ha hs hx, fun _ => rfl⟩
  · cases hr with
    | cons hs hr => cases hr with
      | cons hx hr => cases hr with
        | nil => exact ⟨_, copy_sim (ty := ty) (st := 0) hE H ha hs hx _ rfl, fun _ => rfl⟩
  · cases hr with
    | cons hs hr =>
      simp only [Option.bind_eq_some_iff] at ha
      obtain ⟨d, hd, ha⟩ := ha
      exact ⟨_, clear_sim (ty := ty) hE H ha hs _ rfl _ rfl ⟨d, hd⟩, fun _ => rfl⟩
  · cases hr with
    | cons hs hr => cases hr with
      | cons hx hr => cases hr with
        | nil => exact ⟨_, delete_sim (ty := ty) hE H ha hs hx _ rfl, fun _ => rfl⟩
  · cases ha

theorem asIter_some {v : Value} {r : Nat} (h : asIter v = some r) : v = .pointer (some ⟨r, 0, none⟩) := by
  unfold asIter at h; split at h <;> simp at h; subst h; rfl

/-- Entries that have not been seen. -/
theorem ERels.filter {l l' : List MapEntry} (hs : ERels μ l l') (p : Nat → Bool) : ERels μ (l.filter fun e => p e.born) (l'.filter fun e => p e.born) := by
  induction hs with
  | nil => exact .nil
  | cons hk hv hb t ih =>
    simp only [List.filter_cons, hb]
    split
    · exact .cons hk hv hb ih
    · exact ih
theorem ERels.all_born {l l' : List MapEntry} (hs : ERels μ l l') (p : Nat → Bool) : (l.all fun e => p e.born) = (l'.all fun e => p e.born) := by
  induction hs with
  | nil => rfl
  | cons hk hv hb t ih => simp only [List.all_cons, hb, ih]
theorem ERels.find {l l' : List MapEntry} (hs : ERels μ l l') (p : Nat → Bool) {e : MapEntry} (he : l.find? (fun e => p e.born) = some e) : ∃ e', l'.find? (fun e => p e.born) = some e' ∧ VRel μ e.key e'.key ∧ VRel μ e.val e'.val := by
  induction hs with
  | nil => simp at he
  | cons hk hv hb t ih =>
    simp only [List.find?_cons] at he ⊢
    rw [← hb]
    split at he
    · cases he; exact ⟨_, rfl, hk, hv⟩
    · exact ih he

theorem next_sim (H : HRel E base B μ h w) {isStr : Bool} {r : Nat} {m : MT} {v : Value} {h' : AHeap} (ty : TypeId) (ha : anext h isStr r base = some (v, h')) (hb : μ r = some m) :
    EffSim P E base B μ h w (Instr.next (.pointer (some ⟨m.r, 0, none⟩)) isStr ty) v h' := by
  unfold anext at ha
  simp only [grd_some, ble_iff] at ha
  obtain ⟨hbase, ha⟩ := ha
  obtain ⟨o1, o2, k1, k2, k3⟩ := H.obj r m hb
  split at ha
  · rename_i s pos hg
    rw [hg] at k1; cases k1
    cases k3 with
    | siter hms =>
      have hgo := run_getObj_map (P := P) k2 (fun _ _ _ => by simp)
      have hso := fun o => run_setObj' (P := P) (o := o) k2 (fun _ _ _ => by simp)
      rw [bif_eq] at ha
      split at ha
      · rename_i hlt
        rw [blt_iff] at hlt
        simp only [Option.some.injEq, Prod.mk.injEq] at ha
        obtain ⟨rfl, rfl⟩ := ha
        have st := Step.put H hb hbase hg rfl rfl (Upd.set w m.r (.stringIter s (pos + (Utf8.decode s pos).2)) (H.lt hb)) (.siter hms)
        refine ⟨μ, _, _, ?_, .tuple_of (by simpa [goInt] using VRels.cons (.bool μ true) (.cons (.int μ .i64 pos) (.cons (.int μ .i32 (Utf8.decode s pos).1) .nil))), st⟩
        unfold Instr.next
        simp only [Sem.run_bind, hgo, Result.andThen_ok]
        rw [if_pos hlt]
        simp only [Sem.run_bind, hso, Result.andThen_ok, Sem.run_pure]
        rfl
      · rename_i hlt
        rw [blt_iff] at hlt
        simp only [Option.some.injEq, Prod.mk.injEq] at ha
        obtain ⟨rfl, rfl⟩ := ha
        refine ⟨μ, _, w, ?_, .tuple_of (by simpa using VRels.cons (.bool μ false) .nil), .refl H⟩
        unfold Instr.next
        simp only [Sem.run_bind, hgo, Result.andThen_ok]
        rw [if_neg hlt]
        rfl
  · rename_i hg
    rw [hg] at k1; cases k1
    cases k3 with
    | miter0 hms =>
      have hgo := run_getObj_map (P := P) k2 (fun _ _ _ => by simp)
      simp only [Option.some.injEq, Prod.mk.injEq] at ha
      obtain ⟨rfl, rfl⟩ := ha
      refine ⟨μ, _, w, ?_, .tuple_of (by simpa using VRels.cons (.bool μ false) .nil), .refl H⟩
      unfold Instr.next
      simp only [Sem.run_bind, hgo, Result.andThen_ok]
      rfl
  · rename_i mm since seen last hg
    rw [hg] at k1; cases k1
    cases k3 with
    | miter hk hms =>
      rename_i mk
      have hgo := run_getObj_map (P := P) k2 (fun _ _ _ => by simp)
      have hso := fun o => run_setObj' (P := P) (o := o) k2 (fun _ _ _ => by simp)
      split at ha
      · rename_i es clock hgm
        obtain ⟨p1, p2, j1, j2, j3⟩ := H.obj mm mk hk
        rw [hgm] at j1; cases j1
        cases j3 with
        | map hs =>
          rename_i es'
          have hgom := run_getObj_map (P := P) j2 (fun _ _ _ => by simp)
          simp only [grd_some] at ha
          obtain ⟨hc1, ha⟩ := ha
          have hlen := hs.length
          have hemp : es'.isEmpty = es.isEmpty := by
            cases es <;> cases h9 : es'.toList <;> rw [h9] at hlen <;> simp at hlen
            · have : es' = #[] := by apply Array.ext'; simp [h9]
              simp [this]
            · have : es'.size ≠ 0 := by have := congrArg List.length h9; simp at this; omega
              simp [Array.isEmpty, this]
          have hall : (es'.all fun e => decide (e.born ≥ last)) = es.all (fun e => Nat.ble last e.born) := by
            rw [← Array.all_toList, ← hs.all_born (fun n => decide (n ≥ last))]
            congr 1
            funext e
            rw [Bool.eq_iff_iff, ble_iff]; simp
          have hcond : (!seen.toArray.isEmpty && !es'.isEmpty && es'.all fun e => decide (e.born ≥ last)) = false := by
            rw [hemp, hall]
            have : seen.toArray.isEmpty = seen.isEmpty := by cases seen <;> simp
            rw [this]
            simpa only [Bool.not_eq_true'] using hc1
          have hfil := hs.filter (fun n => !seen.contains n)
          have hleft : (es'.filter fun e => !seen.toArray.contains e.born).toList = es'.toList.filter (fun e => !seen.contains e.born) := by
            simp
          split at ha
          · rename_i hf
            simp only [Option.some.injEq, Prod.mk.injEq] at ha
            obtain ⟨rfl, rfl⟩ := ha
            rw [hf] at hfil
            have hl0 : (es'.filter fun e => !seen.toArray.contains e.born) = #[] := by
              apply Array.ext'
              rw [hleft]
              cases hfil' : es'.toList.filter (fun e => !seen.contains e.born) with
              | nil => rfl
              | cons x y => rw [hfil'] at hfil; cases hfil
            refine ⟨μ, _, w, ?_, .tuple_of (by simpa using VRels.cons (.bool μ false) .nil), .refl H⟩
            unfold Instr.next
            simp only [Sem.run_bind, hgo, hgom, Result.andThen_ok, hcond, Bool.false_eq_true, if_false, hl0]
            simp [Question.forced]
          · rename_i e hf
            simp only [grd_some, blt_iff, Option.some.injEq, Prod.mk.injEq] at ha
            obtain ⟨hborn, rfl, rfl⟩ := ha
            rw [hf] at hfil
            cases hfil' : es'.toList.filter (fun e => !seen.contains e.born) with
            | nil => rw [hfil'] at hfil; cases hfil
            | cons e' rest =>
              rw [hfil'] at hfil
              cases hfil with
              | cons q1 q2 q3 q4 => cases q4 with
                | nil =>
                have hl1 : (es'.filter fun e => !seen.toArray.contains e.born) = #[e'] := by
                  apply Array.ext'; rw [hleft, hfil']
                have hbe : e'.born < since := by omega
                have st := Step.put (o := .miter (some mm) since (seen ++ [e.born]) clock) H hb hbase hg rfl rfl (Upd.set w m.r (.mapIter (some mk.r) since (seen.toArray.push e'.born) clock) (H.lt hb)) (by
                  have := ORel.miter (μ := μ) (h := h.put r (.miter (some mm) since (seen ++ [e.born]) clock)) (base := base) (b := r) (m := m) (since := since) (last := clock) (seen := seen ++ [e.born]) hk hms
                  rw [q3] at this ⊢
                  simpa using this)
                refine ⟨μ, _, _, ?_, .tuple_of (by simpa using VRels.cons (.bool μ true) (.cons q1 (.cons q2 .nil))), st⟩
                unfold Instr.next
                simp only [Sem.run_bind, hgo, hgom, Result.andThen_ok, hcond, Bool.false_eq_true, if_false, hl1]
                have f1 : (#[e'].filter fun x => decide (x.born < since)) = #[e'] := by simp [hbe]
                have f2 : (#[e'].filter fun x => decide (x.born ≥ since)) = #[] := by simp; omega
                simp only [f1, f2]
                simp [Question.forced, hso]
          · cases ha
      · cases ha
  · cases ha

theorem entry_sim (H : HRel E base B μ h w) {r : Nat} {m : MT} {v : Value} (ha : aentry h r = some v) (hb : μ r = some m) :
    ∃ v', VRel μ v v' ∧ (Instr.entry (.pointer (some ⟨m.r, 0, none⟩))).run P w = .ok v' w := by
  unfold aentry at ha
  obtain ⟨o1, o2, k1, k2, k3⟩ := H.obj r m hb
  split at ha
  · rename_i mm since seen stepped hg
    rw [hg] at k1; cases k1
    cases k3 with
    | miter hk hms =>
      rename_i mk
      have hgo := run_getObj_map (P := P) k2 (fun _ _ _ => by simp)
      split at ha
      · rename_i es clock hgm
        obtain ⟨p1, p2, j1, j2, j3⟩ := H.obj mm mk hk
        rw [hgm] at j1; cases j1
        cases j3 with
        | map hs =>
          rename_i es'
          have hgom := run_getObj_map (P := P) j2 (fun _ _ _ => by simp)
          simp only [Option.bind_eq_some_iff, grd_some, beq_iff, Option.some.injEq] at ha
          obtain ⟨stamp, h1, h2, e, h3, rfl⟩ := ha
          obtain ⟨e', q1, q2, q3⟩ := hs.find (fun n => n == stamp) h3
          refine ⟨_, .tuple_of (by simpa using VRels.cons q2 (.cons q3 .nil)), ?_⟩
          have hback : seen.toArray.back? = some stamp := by simpa using h1
          have hfind : es'.find? (fun e => e.born == stamp) = some e' := by rw [← Array.find?_toList]; exact q1
          subst h2
          unfold Instr.entry
          simp only [Sem.run_bind, hgo, hgom, Result.andThen_ok, hback, hfind]
          simp
      · cases ha
  · cases ha

end
end Go.M
