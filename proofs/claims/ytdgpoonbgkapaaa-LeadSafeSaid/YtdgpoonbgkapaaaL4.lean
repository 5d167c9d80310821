/-
  Part 4 of the library that the proof leans on.
-/
import Derived.Test.YtdgpoonbgkapaaaL3
namespace Go.M
open Go
section
variable {T E : Env} {X : Cx} {ρ : Gh} {F : Nat → Prop} {o : Ob} {c : Nat} {af : AF} {f : Fr} {h : AHeap} {p : Oper} {K : OK}
theorem eqL1_plain {v : Value} (hp : plain1 v = true) (hc : ∀ r, v ≠ .chan r) : eqL1 v v = true := by
 cases v <;> simp [plain1] at hp <;> first
  | (simp [eqL1]; done)
  | (exact absurd rfl (hc _))
  | (rename_i a; cases a <;> simp at hp <;> simp [eqL1])
theorem eqE_refl {t : TV} {x : Value} (hv : VR c ρ F h t x) (he : eqE t = true) : eqL1 x x = true := by
 cases hv with
 | j => simp [eqE] at he
 | s hp => exact eqL1_plain hp (by rintro r rfl; simp [eqE] at he)
 | nil => simp [eqL1]
 | sl => simp [eqL1]
 | tk hn h1c ha h0 => cases x <;> simp [slV] at h1c; simp [eqL1]
 | ptr => simp [eqL1]
 | ep => simp [eqL1]
 | wp hn h1c ha h0 => cases x <;> simp [ptV] at h1c; simp [eqL1]
 | mp => simp [eqL1]
 | bg => simp [eqE] at he
 | sv => simp [eqE] at he
 | agg => simp [eqE] at he
 | tup => simp [eqE] at he
 | ifc hv1 =>
  rename_i t v v'
  cases v <;> simp [eqE] at he
  rename_i w
  cases w <;> simp at he
  rw [hv1.inv_s.1]
  simp [eqL1]
 | clo hs ha ht hk =>
  rename_i g x y a k
  cases x <;> simp [eqE] at he
  cases y <;> simp at he
  simp at hs ht
  simp [eqL1, ← hs, ← ht]
theorem eqEs_refl : ∀ {l : List TV} {m : List Value}, VRs c ρ F h l m → l.all eqE = true → eqLs m m = true
 | [], m, H, _ => by rw [H.inv_nil]; rfl
 | t :: l, m, H, he => by
  simp only [List.all_cons, Bool.and_eq_true] at he
  obtain ⟨v, m', rfl, h1, h2⟩ := H.inv_cons
  simp only [eqLs, Bool.and_eq_true]
  exact ⟨eqE_refl h1 he.1, eqEs_refl h2 he.2⟩
theorem rdL_ok {c1 : Nat} {ρ1 : Gh} {l : List TV} {m : List Value} {v : VL} {q : RQ} {ρ' : Gh} {o' : Ob} {h' : AHeap} (H : VRs c1 ρ1 F h l m) (hok : eqLs m m = true → LogOk ρ F o h ρ' o' h' v (.rd q h)) : LogOk ρ F o h ρ' o' h' (rdL l v) (.rd q h) := by
 unfold rdL
 split
 ·rename_i he; exact hok (eqEs_refl H he)
 ·exact .bad
def RRes (X : Cx) (c : Nat) (ρ : Gh) (F : Nat → Prop) (h : AHeap) (o : Ob) (q : RQ) (K : OK) : Prop := ∃ v x lg ρ' o' c', q.run h = some x ∧ Nx X ρ F o c h ρ' F o' c' h ∧ VR c' ρ' F h v x ∧ K v o' c' lg ∧ LogOk ρ F o h ρ' o' h lg (.rd q h)
theorem RRes.did {q : RQ} (R : RRes X c ρ F h o q K) (hp : apure E af p = none) (hq : aread E af p = some q) : Did E X ρ F o c af h p K := by
 obtain ⟨v, x, lg, ρ', o', c', h1, h2, h3, h4, h5⟩ := R
 refine ⟨0, ⟨x, h, .rd q h⟩, v, o', c', ρ', F, lg, fun n _ => ?_, h4, h2, h3, h5⟩
 unfold runOp
 rw [hp, hq]
 simp [h1]
theorem RRes.same {q : RQ} (H : Mem X ρ F o c h) {v : TV} {x : Value} {lg : VL} (h1 : q.run h = some x) (h2 : VR c ρ F h v x) (h3 : K v o c lg) (h4 : LogOk ρ F o h ρ o h lg (.rd q h)) : RRes X c ρ F h o q K := ⟨v, x, lg, ρ, o, c, h1, .refl H, h2, h3, h4⟩
theorem openL_nil : ∀ {l : List TV} {k : Nat}, (openL l k).2 = [] → (openL l k).1 = l
 | [], _, _ => rfl
 | t :: l, k, hn => by
  cases t <;> first | (simp only [openL] at hn ⊢; rw [openL_nil hn]) | (simp [openL] at hn)
theorem setN_eq {α : Type} : ∀ {l xs r : List α} {p : Nat}, setN l p xs = some r → r = l.take p ++ (xs ++ (l.drop p).drop xs.length)
 | l, [], r, 0, h => by simp [setN] at h; subst h; simp
 | [], x :: xs, r, 0, h => by simp [setN] at h
 | y :: l, x :: xs, r, 0, h => by
  simp only [setN, Option.bind_eq_some_iff, Option.some.injEq] at h
  obtain ⟨q, hq, rfl⟩ := h
  have := setN_eq hq
  simp only [List.take_zero, List.nil_append, List.drop_zero] at this
  rw [this]; simp
 | [], xs, r, p + 1, h => by simp [setN] at h
 | y :: l, xs, r, p + 1, h => by
  simp only [setN, Option.bind_eq_some_iff, Option.some.injEq] at h
  obtain ⟨q, hq, rfl⟩ := h
  rw [setN_eq hq]; simp
theorem openL_len : ∀ (l : List TV) (k : Nat), (openL l k).1.length = l.length
 | [], _ => rfl
 | t :: l, k => by cases t <;> simp [openL, openL_len l]
theorem wopen_ok (H : Mem X ρ F o c h) {S : Nat → Ft} (K0 : MO X ρ F o c h S) {agg : Bool} {n p q m b : Nat} {e : List TV} {y : TO} {put : List TV → TO} {Se : Ft} {vs : List Value} {lg : VL} (hw : wopen agg n p e o c lg put m K) (hl : look o m = some y) (hb : atB ρ m b) (hlg : lg = .rdO m ∨ lg = .rdN m p .j ∧ p = q ∧ ρ m = some (.blk b))
 (hc : CNs c ρ F h X.base Se e vs) (hr : n ≤ (e.drop p).length → M.readCells h b q n = some ((vs.drop p).take n))
 (hput : ∀ c' ρ' e' S', (∀ t v, VR c ρ F h t v → VR c' ρ' F h t v) → ρ' m = ρ m → e'.length = e.length → CNs c' ρ' F h X.base S' e' vs → ∃ S0, OR c' ρ' F h X.base m S0 (put e') ∧ ∀ R, Se.Perm (S' ++ R) → (S m).Perm (S0 ++ R)) :
 RRes X c ρ F h o (.cells agg b q n) K := by
 unfold wopen at hw
 split at hw
 ·exact hw.elim
 ·rename_i l ht
  rw [takeN_some] at ht
  obtain ⟨t1, rfl⟩ := ht
  have hrc := hr t1
  obtain ⟨S1, S2, S3, hS, a1, a2, a3⟩ := hc.part p n
  have fzm : ∀ t v, VR 0 noG F h t v → fz t = true → VR c ρ F h t v := fun t v hv hf => hv.fzmono hf
  split at hw
  ·rename_i hn0
   split at hw
   ·rename_i v hv
    obtain ⟨hK, _⟩ := force_iff hw
    obtain ⟨Ss, ls, b1, b2, b3⟩ := a2.opened c
    have hl0 : ls.length = 0 := by rw [b2.l2, hn0]; rfl
    have hV := b3 c ρ (fun _ _ h => h) (by omega) (fun i q hq => by
     have := (List.getElem?_eq_some_iff.1 hq).1; omega)
    rw [openL_nil hn0] at hV
    obtain ⟨x, h6, h7⟩ := ofCells_rel hv hV
    have main : eqLs ((vs.drop p).take n) ((vs.drop p).take n) = true → LogOk ρ F o h ρ o h (nmL v lg) (.rd (.cells agg b q n) h) := by
     intro he
     have pl : LogOk ρ F o h ρ o h (.rdO m) (.rd (.cells agg b q n) h) := .rdO (.refl _) rfl hl hb ⟨_, hrc, he⟩
     rcases hlg with rfl | ⟨rfl, rfl, hbl⟩
     ·exact pl
     have one : ∀ w, v = w → isAggT w = false → plainC w = true → (∀ cs, w ≠ .agg cs) → (∀ y, VR c ρ F h w y → NmVal ρ w y) → LogOk ρ F o h ρ o h (.rdN m p w) (.rd (.cells agg b p n) h) := by
      rintro w rfl _ _ hna hnm
      unfold ofCells at hv
      split at hv
      ·cases hv; exact absurd rfl (hna _)
      ·rename_i l' w' heq
       cases hv
       rw [heq] at hV
       obtain ⟨y1, m1, e1, hy, hm1⟩ := hV.inv_cons
       obtain rfl := hm1.inv_nil
       have hn1 : n = 1 := by
        have := congrArg List.length heq
        rw [List.length_take] at this
        simp only [List.length_cons, List.length_nil] at this
        omega
       subst hn1
       rw [e1] at hrc
       exact .rdN (.refl _) rfl hl hbl (hnm _ hy) hrc
      ·cases hv
     unfold nmL
     split
     ·rename_i m' p' v' heq
      cases heq
      split
      ·exact one _ rfl rfl rfl (by rintro cs e; cases e) fun y hy => by cases hy with | mp hb => exact .inl ⟨_, _, rfl, hb, rfl⟩
      ·exact one _ rfl rfl rfl (by rintro cs e; cases e) fun y hy => by cases hy with | ptr hb => exact .inr ⟨_, _, _, rfl, hb, rfl⟩
      ·exact pl
     ·rename_i hne; exact absurd rfl (hne _ _ _)
    exact RRes.same H (by simp [RQ.run, hrc, h6]) h7 hK (rdL_ok hV main)
   ·exact hw.elim
  ·rename_i q0 new hn0
   split at hw
   ·rename_i e' v hset hv
    obtain ⟨hK, _⟩ := force_iff hw
    have hA : ∀ ls : List Loc, ∀ t v, VR c ρ F h t v → VR (c + (new.length + 1)) (addG ρ c ls) F h t v := fun ls t v => VR.mono (by omega) (fun n l hn h1 => by rwa [addG_old _ _ hn] at h1) (fun n b h1 => by rw [addG_old _ _ (H.names _ _ h1)]; exact h1) (fun _ h => h) (fun _ _ _ h => h)
    obtain ⟨Ss, ls, b1, b2, b3⟩ := a2.opened c
    rw [hn0] at b2
    have hl1 : ls.length = new.length + 1 := b2.l2
    have hV := b3 (c + (new.length + 1)) (addG ρ c ls) (hA ls) (by omega) (fun i q hq => by rw [addG_new]; exact hq)
    obtain ⟨x, h6, h7⟩ := ofCells_rel hv hV
    have hlen : (openL ((e.drop p).take n) c).1.length = n := by rw [openL_len, List.length_take]; omega
    have he' := setN_eq hset
    rw [hlen] at he'
    have hm0 := H.lt hl
    have hCN : CNs (c + (new.length + 1)) (addG ρ c ls) F h X.base (S1 ++ S3) e' vs := by
     have k1 := a1.keep (c' := c + (new.length + 1)) (ρ' := addG ρ c ls) (F' := F) (h' := h) (T := fun _ => False) H.wf (fun _ _ _ => rfl) (fun _ h => h) (fun _ _ _ h => h) (hA ls) (fun _ _ hf => hf.elim)
     have k3 := a3.keep (c' := c + (new.length + 1)) (ρ' := addG ρ c ls) (F' := F) (h' := h) (T := fun _ => False) H.wf (fun _ _ _ => rfl) (fun _ h => h) (fun _ _ _ h => h) (hA ls) (fun _ _ hf => hf.elim)
     have := k1.join ((CNs.ofVRs (base := X.base) hV).join k3)
     rw [List.take_append_drop, List.take_append_drop, ← he'] at this
     exact this
    obtain ⟨S0, hO, hP⟩ := hput _ _ e' (S1 ++ S3) (hA ls) (addG_old _ _ hm0) (setN_some hset).2.1 hCN
    have hperm : (S m).Perm (S0 ++ Ss.flatten) := hP _ (by
     rw [hS, ← b1, List.append_assoc]
     exact List.perm_append_comm.append_left _)
    obtain ⟨M, hk⟩ := H.opens K0 (y1 := put e') hl b2 hperm (fun _ => hO)
    refine ⟨v, x, _, _, _, _, by simp [RQ.run, hrc, h6], ⟨M, hk, Nat.le_refl _, fun _ h => h, fun _ _ _ h => h⟩, h7, hK, rdL_ok hV fun he => (show offL lg = .rdO m by rcases hlg with rfl | ⟨rfl, _⟩ <;> rfl) ▸ .rdO (fun n' y' hl' _ => ⟨?_, addG_old _ _ (H.lt hl'), fun b _ => ⟨rfl, fun _ h => h⟩⟩) rfl hl hb ⟨_, hrc, he⟩⟩
    rw [look_append, look_news b2, if_pos (H.lt hl')]
    simp only
    rw [look_upd1]
    by_cases em : n' = m
    ·rw [if_pos em, hl]; exact ⟨_, rfl⟩
    ·rw [if_neg em]; exact ⟨_, hl'⟩
   ·exact hw.elim
theorem rd_row {z i p n b : Nat} {v1 v2 v3 : List Value} (hr : h.rd b = some (v1 ++ (v2 ++ v3))) (h1 : v1.length = i * z) (h2 : n ≤ (v2.drop p).length) : M.readCells h b (i * z + p) n = some ((v2.drop p).take n) := by
 unfold M.readCells
 rw [hr]
 simp only [Option.bind_some, takeN_some]
 rcases Nat.eq_zero_or_pos n with h0 | h0
 ·subst h0; simp
 ·simp only [List.length_drop] at h2
  have e : (v1 ++ (v2 ++ v3)).drop (i * z + p) = v2.drop p ++ v3 := by
   rw [← h1, List.drop_append, List.drop_eq_nil_of_le (by omega), Nat.add_sub_cancel_left, List.nil_append, List.drop_append_of_le_length (by omega)]
  rw [e]
  refine ⟨by rw [List.length_append, List.length_drop]; omega, ?_⟩
  rw [List.take_append_of_le_length (by rw [List.length_drop]; omega)]
theorem wload_ok (L : EnvLe T E) (H : Mem X ρ F o c h) {t : TypeId} {a : TV} {av : Value} (hw : wload T t a o c K) (ha : VR c ρ F h a av) :
 ∃ q, ((asPtr av).bind fun p => (shapeT E t).bind fun s => some (.cells s.1 p.1 p.2 s.2)) = some q ∧ RRes X c ρ F h o q K := by
 unfold wload at hw
 split at hw
 ·exact hw.elim
 ·rename_i agg n hs
  have hs' := L.shape hs
  obtain ⟨S, K0⟩ := H.ex
  split at hw
  ·rename_i m q
   split at hw
   ·rename_i cs hl
    have hO := K0.objs m _ hl
    generalize hS : S m = Sm at hO
    cases hO with
    | cells hb hg htt hc =>
     rename_i Sq b thr cs'
     cases ha with
     | ptr hb' =>
      rw [hb] at hb'; cases hb'
      refine ⟨.cells agg b q n, by simp [asPtr, hs'], wopen_ok H K0 hw hl (.inl hb) (.inr ⟨rfl, rfl, hb⟩) hc (fun hn => ?_) fun c' ρ' e' S' hm hρ hlen hCN => ⟨_, .cells (hρ.trans hb) hg htt hCN, fun R hR => by rw [hS]; exact hR.cons _⟩⟩
      unfold M.readCells
      rw [rd_of (fam_of hg hg) htt (cellsOf_get hg)]
      simp only [Option.bind_some, takeN_some, and_true]
      have := hc.len
      simp only [List.length_drop] at hn ⊢; omega
   ·exact hw.elim
  ·rename_i e q
   split at hw
   ·rename_i l ht
    split at hw
    ·rename_i v hv
     obtain ⟨hK, _⟩ := force_iff hw
     cases ha with
     | ep h1 h2 h3 h4 h5 =>
      rename_i b q0 cs
      rw [takeN_some] at ht
      obtain ⟨t1, rfl⟩ := ht
      simp only [List.length_drop] at t1
      have hlen : n ≤ (cs.drop (q0 + q)).length ∨ n = 0 := by
       simp only [List.length_drop]; omega
      have hR : VRs c ρ F h ((e.drop q).take n) ((cs.drop (q0 + q)).take n) := by
       refine ⟨by simp; omega, fun i t v r1 r2 => ?_⟩
       rw [List.getElem?_take] at r1 r2
       split at r1
       ·rename_i hlt
        rw [if_pos hlt] at r2
        rw [List.getElem?_drop] at r1 r2
        exact h5 (q + i) t v r1 (by rw [← r2]; congr 1; omega)
       ·cases r1
      obtain ⟨x, h6, h7⟩ := ofCells_rel hv hR
      have hrc : M.readCells h b (q0 + q) n = some ((cs.drop (q0 + q)).take n) := by
       unfold M.readCells
       rw [h2]
       simp only [Option.bind_some, takeN_some, and_true]
       rcases hlen with h8 | h8
       ·exact h8
       ·omega
      exact ⟨.cells agg b (q0 + q) n, by simp [asPtr, hs'], RRes.same H (by simp [RQ.run, hrc, h6]) h7 hK (rdL_ok hR fun he => .rdF (.refl _) rfl h1 ⟨_, _, _, _, rfl⟩ ⟨_, hrc, he⟩)⟩
    ·exact hw.elim
   ·exact hw.elim
  ·rename_i m i q
   split at hw
   ·rename_i z w es hl
    obtain ⟨e, he, hw⟩ := hw
    split at hw
    ·rename_i l ht
     split at hw
     ·rename_i v hv
      obtain ⟨hK, _⟩ := force_iff hw
      obtain ⟨b, z', l', hb, rfl⟩ := wp_ptr H hl rfl ha
      obtain ⟨Sm, hO⟩ := H.objs hl
      cases hO with
      | nil hb' hz => rw [hb] at hb'; cases hb'
      | arr hb' hg hf htt hbf hz hlen hee hfz hc hF =>
       rename_i f t0 th0 thr cs
       rw [hb] at hb'; cases hb'
       have hrd := rd_of hf htt (cellsOf_get hg)
       rw [takeN_some] at ht
       obtain ⟨t1, rfl⟩ := ht
       simp only [List.length_drop] at t1
       have hez := hee e (List.mem_of_getElem? he)
       have hi : i < es.length := (List.getElem?_eq_some_iff.1 he).1
       have hle : (i + 1) * z ≤ es.length * z := Nat.mul_le_mul_right z hi
       rw [Nat.add_mul] at hle
       have hR : VRs c ρ F h ((e.drop q).take n) ((cs.drop (i * z + q)).take n) := by
        refine ⟨by simp; omega, fun j t v r1 r2 => ?_⟩
        rw [List.getElem?_take] at r1 r2
        split at r1
        ·rename_i hlt
         rw [if_pos hlt] at r2
         rw [List.getElem?_drop] at r1 r2
         exact hc i (q + j) e t v he r1 (by rw [← r2]; congr 1; omega)
        ·cases r1
       obtain ⟨x, h6, h7⟩ := ofCells_rel hv hR
       have hrc : M.readCells h b (i * z + q) n = some ((cs.drop (i * z + q)).take n) := by
        unfold M.readCells
        rw [hrd]
        simp only [Option.bind_some, takeN_some, and_true, List.length_drop]
        omega
       exact ⟨.cells agg b (i * z + q) n, by simp [asPtr, hs'], RRes.same H (by simp [RQ.run, hrc, h6]) h7 hK (rdL_ok hR fun he' => .rdO (.refl _) rfl hl (.inr ⟨_, _, hb⟩) ⟨_, hrc, he'⟩)⟩
     ·exact hw.elim
    ·exact hw.elim
   ·rename_i z es op hl
    obtain ⟨b, z', l', hb, rfl⟩ := wp_ptr H hl rfl ha
    have hO := K0.objs m _ hl
    generalize hS : S m = Sm at hO
    cases hO with
    | qnil hb' hz => rw [hb] at hb'; cases hb'
    | arq hb' hg hf htt hbf hz hlen hee hcl hop hc =>
     rename_i Sq f t0 th0 thr cs
     rw [hb] at hb'; cases hb'
     have hrd := rd_of hf htt (cellsOf_get hg)
     have fc := flatten_cl hcl
     refine ⟨.cells agg b (i * z + q) n, by simp [asPtr, hs'], ?_⟩
     -- a row that is there as it is
     have row : ∀ e, i < es.length → e.length = z → apOp es op = es.set i e → wopen agg n q e o c (.rdO m) (fun e' => .arq z es [(i, e')]) m K → RRes X c ρ F h o (.cells agg b (i * z + q) n) K := by
      intro e hi he hap hw
      rw [hap] at hc
      obtain ⟨S1, S2, S3, v1, v2, v3, rfl, rfl, a1, a2, a3⟩ := rows_split hee hi hc
      have e1 : v1.length = i * z := by
       have h1 := a1.len
       obtain ⟨e0, he0⟩ : ∃ e0, es[i]? = some e0 := ⟨_, List.getElem?_eq_getElem hi⟩
       have := (flatten_row hee he0).2
       rw [Nat.add_mul] at this
       rw [← h1, List.length_take]; omega
      have e2 : v2.length = z := by rw [← a2.len]; exact he
      refine wopen_ok H K0 hw hl (.inr ⟨_, _, hb⟩) (.inl rfl) a2 (fun hn => rd_row hrd e1 (by simp only [List.length_drop] at hn ⊢; omega)) fun c' ρ' e' S' hm hρ hlen' hCN => ?_
      have := rows_join hee hi (a1.conv (c' := c') (ρ' := ρ') fun t ht => fc t (List.mem_of_mem_take ht)) hCN (a3.conv fun t ht => fc t (List.mem_of_mem_drop (List.mem_of_mem_drop ht)))
      refine ⟨_, .arq (hρ.trans hb) hg hf htt hbf hz hlen hee hcl (fun p hp => ?_) this, fun R hR => ?_⟩
      ·simp only [List.mem_singleton] at hp; subst hp; exact ⟨hi, by rw [hlen']; exact he⟩
      ·rw [hS]
       refine List.Perm.cons _ ?_
       show List.Perm _ ((S1 ++ (S' ++ S3)) ++ R)
       rw [List.append_assoc, List.append_assoc]
       refine List.Perm.append_left S1 ((hR.append_right S3).trans ?_)
       rw [List.append_assoc]
       exact List.perm_append_comm.append_left _
     unfold welem at hw
     split at hw
     ·obtain ⟨e, he, hw⟩ := hw
      have hi := (List.getElem?_eq_some_iff.1 he).1
      exact row e hi (hee e (List.mem_of_getElem? he)) (by
       show es = es.set i e
       refine List.ext_getElem? fun k => ?_
       rw [List.getElem?_set]
       by_cases ek : i = k
       ·subst ek; rw [if_pos rfl, if_pos hi, he]
       ·rw [if_neg ek]) hw
     ·rename_i j ej
      obtain ⟨o1, o2⟩ := hop (j, ej) (by simp)
      by_cases eij : i = j
      ·subst eij
       exact row ej o1 o2 rfl (hw.1 rfl)
      ·obtain ⟨e, he, hw⟩ := hw.2 eij
       split at hw
       ·rename_i l ht
        split at hw
        ·rename_i v hv hpl
         obtain ⟨hK, _⟩ := force_iff hw
         rw [takeN_some] at ht
         obtain ⟨t1, rfl⟩ := ht
         have hi := (List.getElem?_eq_some_iff.1 he).1
         have hzs : ∀ e ∈ es.set j ej, e.length = z := fun e he => by
          rcases List.mem_or_eq_of_mem_set he with h1 | rfl
          ·exact hee e h1
          ·exact o2
         have he2 : (es.set j ej)[i]? = some e := by rw [List.getElem?_set, if_neg (fun h => eij h.symm)]; exact he
         obtain ⟨f1, f2⟩ := flatten_row hzs he2
         obtain ⟨S1, S2, S3, _, a1, a2, a3⟩ := hc.part (i * z) z
         have e3 : ((apOp es [(j, ej)]).flatten.drop (i * z)).take z = e := f1
         rw [e3] at a2
         obtain ⟨T1, T2, T3, _, b1, b2, b3⟩ := a2.part q n
         obtain ⟨hV, _⟩ := b2.vrs (fun t v hv hf => hv.fzmono hf) hpl
         have hez := hee e (List.mem_of_getElem? he)
         simp only [List.length_drop] at t1
         have e4 : (((cs.drop (i * z)).take z).drop q).take n = (cs.drop (i * z + q)).take n := by
          rw [List.drop_take, List.drop_drop, List.take_take, Nat.min_eq_left (by omega)]
         rw [e4] at hV
         obtain ⟨x, h6, h7⟩ := ofCells_rel hv hV
         have hrc : M.readCells h b (i * z + q) n = some ((cs.drop (i * z + q)).take n) := by
          unfold M.readCells
          rw [hrd]
          simp only [Option.bind_some, takeN_some, and_true]
          have h8 := hV.1
          have hle : (i + 1) * z ≤ es.length * z := Nat.mul_le_mul_right z hi
          rw [Nat.add_mul] at hle
          simp only [List.length_drop]; omega
         exact RRes.same H (by simp [RQ.run, hrc, h6]) h7 hK (rdL_ok hV fun he' => .rdO (.refl _) rfl hl (.inr ⟨_, _, hb⟩) ⟨_, hrc, he'⟩)
        ·exact hw.elim
       ·exact hw.elim
     ·exact hw.elim
   ·exact hw.elim
  ·exact hw.elim
theorem kcode_inj {kd : TypeDesc} {k : Value} {n : Nat} (hk : kindOk kd k n = true) : (∃ b, kd = .bool ∧ k = .bool b ∧ n = 1) ∨ (∃ s, kd = .string ∧ k = .string s ∧ n = 2) ∨ (∃ i x, kd = .int i ∧ k = .int i x ∧ n = kIdx i) := by
 unfold kindOk at hk
 simp only [Bool.and_eq_true, beq_iff, blt_iff] at hk
 obtain ⟨⟨h0, h1⟩, h2⟩ := hk
 cases kd <;> simp [kcode] at h1 <;> try omega
 ·cases k <;> simp [kcodeV] at h2 <;> try omega
  ·exact .inl ⟨_, rfl, rfl, h1.symm⟩
  ·rename_i i x; subst h1; cases i <;> simp [kIdx] at h2
 ·rename_i i
  cases k <;> simp [kcodeV] at h2 <;> try omega
  ·subst h1; cases i <;> simp [kIdx] at h2
  ·rename_i j x
   have : i = j := by subst h1; cases i <;> cases j <;> simp [kIdx] at h2 <;> rfl
   subst this
   exact .inr (.inr ⟨_, _, rfl, rfl, h1.symm⟩)
  ·subst h1; cases i <;> simp [kIdx] at h2
 ·cases k <;> simp [kcodeV] at h2 <;> try omega
  ·rename_i i x; subst h1; cases i <;> simp [kIdx] at h2
  ·exact .inr (.inl ⟨_, rfl, rfl, h1.symm⟩)
theorem kindOk_scalar {kd : TypeDesc} {k : Value} {n : Nat} (hk : kindOk kd k n = true) : scalarT kd = true ∧ scalar k = true := by
 rcases kcode_inj hk with ⟨_, rfl, rfl, _⟩ | ⟨_, rfl, rfl, _⟩ | ⟨_, _, rfl, rfl, _⟩ <;> exact ⟨rfl, rfl⟩
theorem sameNow_keq {kd : TypeDesc} {k k' : Value} {n : Nat} (hk : kindOk kd k n = true) (hk' : kcodeV k' = n) : Instr.sameNow kd k k' = some (keq k k') := by
 rcases kcode_inj hk with ⟨b, rfl, rfl, rfl⟩ | ⟨s, rfl, rfl, rfl⟩ | ⟨i, x, rfl, rfl, rfl⟩
 ·cases k' <;> simp [kcodeV] at hk'
  ·rfl
  ·rename_i j y; cases j <;> simp [kIdx] at hk'
 ·cases k' <;> simp [kcodeV] at hk'
  ·rename_i j y; cases j <;> simp [kIdx] at hk'
  ·rfl
 ·cases k' <;> simp [kcodeV] at hk' <;> try (cases i <;> simp [kIdx] at hk'; done)
  rename_i j y
  have : i = j := by cases i <;> cases j <;> simp [kIdx] at hk' <;> rfl
  subst this
  simp [Instr.sameNow, keq]
def ERs (c : Nat) (ρ : Gh) (F : Nat → Prop) (h : AHeap) (kd : Nat) (es : List (Value × TV)) (es' : List MapEntry) : Prop :=
 es.length = es'.length ∧ ∀ (i : Nat) e e', es[i]? = some e → es'[i]? = some e' → e'.key = e.1 ∧ (0 < kd ∧ kcodeV e.1 = kd) ∧ fzV e.2 = true ∧ VR c ρ F h e.2 e'.val
theorem ERs.inv_cons {kd : Nat} {e : Value × TV} {es : List (Value × TV)} {es' : List MapEntry} (H : ERs c ρ F h kd (e :: es) es') : ∃ e' m, es' = e' :: m ∧ e'.key = e.1 ∧ (0 < kd ∧ kcodeV e.1 = kd) ∧ fzV e.2 = true ∧ VR c ρ F h e.2 e'.val ∧ ERs c ρ F h kd es m := by
 match es', H with
 | [], H => have := H.1; simp at this
 | e' :: m, H =>
  obtain ⟨h1, h2, h3, h4⟩ := H.2 0 e e' rfl rfl
  exact ⟨e', m, rfl, h1, h2, h3, h4, by simpa using H.1, fun i x x' q1 q2 => H.2 (i + 1) x x' (by simpa using q1) (by simpa using q2)⟩
theorem ERs.inv_nil {kd : Nat} {es' : List MapEntry} (H : ERs c ρ F h kd [] es') : es' = [] := by have := H.1; cases es' <;> simp_all
theorem vfindNow_rel {kd : TypeDesc} {k : Value} {n : Nat} (hk : kindOk kd k n = true) : ∀ {es : List (Value × TV)} {es' : List MapEntry} (i : Nat), ERs c ρ F h n es es' →
 (match lookM es k with
 | some v => ∃ j x, Instr.findNow kd k es' i = some (some (i + j, x)) ∧ VR c ρ F h v x ∧ fzV v = true ∧ ∃ e, es'[j]? = some e ∧ e.val = x
 | none => Instr.findNow kd k es' i = some none)
 | [], es', i, H => by rw [H.inv_nil]; rfl
 | e :: es, es', i, H => by
  obtain ⟨e', m, rfl, h1, h2, h3, h4, h5⟩ := H.inv_cons
  unfold lookM Instr.findNow
  rw [h1, sameNow_keq hk h2.2]
  cases hq : keq k e.1 with
  | true => exact ⟨0, e'.val, rfl, h4, h3, e', rfl, rfl⟩
  | false =>
   have ih := vfindNow_rel hk (i + 1) h5
   simp only
   split
   ·rename_i v hv
    rw [hv] at ih
    obtain ⟨j, x, q1, q2, q3, e2, q4, q5⟩ := ih
    exact ⟨j + 1, x, by rw [q1]; congr 3; omega, q2, q3, e2, by simpa using q4, q5⟩
   ·rename_i hv
    rw [hv] at ih
    exact ih
theorem fz_eqE {t : TV} (hf : fz t = true) : eqE t = true := by
 unfold fz at hf
 split at hf
 ·rename_i v; cases v <;> first | rfl | simp [plainE] at hf
 ·rfl
 ·rfl
 ·rfl
 ·cases hf
theorem fzV_refl {t : TV} {x : Value} (hv : VR c ρ F h t x) (hf : fzV t = true) : eqL x x = true := by
 have one : eqL1 x x = true → eqL x x = true := fun h => by
  unfold eqL
  split
  ·simp [eqL1] at h
  ·exact h
 unfold fzV at hf
 split at hf
 ·obtain ⟨a, rfl, h1⟩ := hv.inv_agg
  exact eqEs_refl h1 (List.all_eq_true.2 fun t ht => fz_eqE (List.all_eq_true.1 hf t ht))
 ·exact one (eqE_refl hv (fz_eqE hf))
theorem ERs.refl {kd : Nat} : ∀ {es : List (Value × TV)} {es' : List MapEntry}, ERs c ρ F h kd es es' → eqEs es' es' = true
 | [], es', H => by rw [H.inv_nil]; rfl
 | e :: es, es', H => by
  obtain ⟨e', m, rfl, h1, h2, h3, h4, h5⟩ := H.inv_cons
  simp only [eqEs, Bool.and_eq_true]
  refine ⟨⟨⟨?_, fzV_refl h4 h3⟩, by simp⟩, h5.refl⟩
  rw [h1]
  have := h2.2
  cases he : e.1 <;> rw [he] at this <;> simp [kcodeV] at this <;> try omega
  all_goals simp [eqL, eqL1]
theorem bytes_eq {a b : ByteArray} : (a == b) = true ↔ a = b := by
 cases a; cases b
 show (Array.instBEq.beq _ _) = true ↔ _
 simp
theorem keq_eq {kd : TypeDesc} {k k' : Value} {n : Nat} (hk : kindOk kd k n = true) (hk' : kcodeV k' = n) (h : keq k k' = true) : k = k' := by
 rcases kcode_inj hk with ⟨b, rfl, rfl, rfl⟩ | ⟨s, rfl, rfl, rfl⟩ | ⟨i, x, rfl, rfl, rfl⟩
 ·cases k' <;> simp [kcodeV] at hk'
  ·simpa [keq] using h
  ·rename_i j y; cases j <;> simp [kIdx] at hk'
 ·cases k' <;> simp [kcodeV] at hk'
  ·rename_i j y; cases j <;> simp [kIdx] at hk'
  ·simp only [keq] at h; rw [bytes_eq.1 h]
 ·cases k' <;> simp [kcodeV] at hk' <;> try (cases i <;> simp [kIdx] at hk'; done)
  rename_i j y
  have : i = j := by cases i <;> cases j <;> simp [kIdx] at hk' <;> rfl
  subst this
  simpa [keq] using h
theorem keq_refl {kd : TypeDesc} {k : Value} {n : Nat} (hk : kindOk kd k n = true) : keq k k = true := by
 rcases kcode_inj hk with ⟨b, rfl, rfl, rfl⟩ | ⟨s, rfl, rfl, rfl⟩ | ⟨i, x, rfl, rfl, rfl⟩ <;> simp [keq, bytes_eq]
theorem keq_cong {a b c : Value} (h : keq a b = true) : keq c b = keq c a := by
 unfold keq at h
 split at h
 ·have := eq_of_beq h; subst this; cases c <;> rfl
 ·have := eq_of_beq h; subst this; cases c <;> rfl
 ·have := bytes_eq.1 h; subst this; cases c <;> rfl
 ·cases h
theorem ENs.find {base : Nat} {kd : TypeDesc} {k : Value} {n : Nat} (hk : kindOk kd k n = true) : ∀ {M : List (Value × TV)} {ev : List MapEntry} {S : Ft} (i : Nat), ENs c ρ F h base n S M ev →
 (match lookM M k with
 | some v => ∃ j x S1 S2 S3, Instr.findNow kd k ev i = some (some (i + j, x)) ∧ S = S1 ++ (S2 ++ S3) ∧ CNs c ρ F h base S2 (cellsT v) x.cells.toList ∧ isAggT v = isAggV x ∧
  ∀ c' ρ' v' S2', (∀ e ∈ M, ∀ t ∈ cellsT e.2, clT t = true) → CNs c' ρ' F h base S2' (cellsT v') x.cells.toList → isAggT v' = isAggV x → ENs c' ρ' F h base n (S1 ++ (S2' ++ S3)) (putM M k v') ev
 | none => Instr.findNow kd k ev i = some none)
 | [], ev, S, i, H => by cases H; rfl
 | e :: es, ev, S, i, H => by
  cases H with
  | cons hkey hkd ha hv hl =>
   rename_i Sa Sb e' m
   unfold lookM Instr.findNow
   rw [hkey, sameNow_keq hk hkd.2]
   cases hq : keq k e.1 with
   | true =>
    refine ⟨0, e'.val, [], Sa, Sb, rfl, rfl, hv, ha, fun c' ρ' v' S2' hcl hv' ha' => ?_⟩
    unfold putM
    rw [hq]
    have := keq_eq hk hkd.2 hq
    subst this
    have := ENs.cons (e := (e.1, v')) hkey hkd ha' hv' (hl.conv (c' := c') (ρ' := ρ') fun e he => hcl e (List.mem_cons_of_mem _ he))
    exact this
   | false =>
    have ih := ENs.find hk (i + 1) hl
    simp only
    split
    ·rename_i v hv2
     rw [hv2] at ih
     obtain ⟨j, x, S1, S2, S3, q1, q2, q3, q4, q5⟩ := ih
     refine ⟨j + 1, x, Sa ++ S1, S2, S3, by rw [q1]; congr 3; omega, by rw [q2, List.append_assoc], q3, q4, fun c' ρ' v' S2' hcl hv' ha' => ?_⟩
     unfold putM
     rw [hq, List.append_assoc]
     exact .cons hkey hkd ha (hv.conv (hcl e List.mem_cons_self)) (q5 c' ρ' v' S2' (fun e he => hcl e (List.mem_cons_of_mem _ he)) hv' ha')
    ·rename_i hv2
     rw [hv2] at ih
     exact ih
theorem VR.ofCells {v : TV} {x : Value} (H : VRs c ρ F h (cellsT v) x.cells.toList) (ha : isAggT v = isAggV x) : VR c ρ F h v x := by
 cases v with
 | agg cs =>
  cases x <;> simp [isAggT, isAggV] at ha
  exact .agg_of H
 | _ =>
  have hx : x.cells = #[x] := by cases x <;> first | rfl | simp [isAggT, isAggV] at ha
  rw [hx] at H
  exact H.head
theorem ofCells_cells {b : Bool} {l : List TV} {v : TV} {x : Value} (ho : ofCells b l = some v) (H : VRs c ρ F h l x.cells.toList) (ha : b = isAggV x) : cellsT v = l ∧ isAggT v = b ∧ VR c ρ F h v x := by
 unfold ofCells at ho
 split at ho
 ·cases ho
  refine ⟨rfl, rfl, ?_⟩
  cases x <;> simp [isAggV] at ha
  exact .agg_of H
 ·cases ho
  have hx : x.cells = #[x] := by cases x <;> first | rfl | simp [isAggV] at ha
  rw [hx] at H
  have hv := H.head
  have hn : ∀ cs, v ≠ .agg cs := by
   rintro cs rfl
   obtain ⟨a, rfl, _⟩ := hv.inv_agg
   simp [isAggV] at ha
  refine ⟨?_, ?_, hv⟩
  ·cases v <;> first | rfl | exact absurd rfl (hn _)
  ·cases v <;> first | rfl | exact absurd rfl (hn _)
 ·cases ho
theorem clT_eqL1 {base : Nat} {S : Ft} {t : TV} {x : Value} (H : CR F h base S (.c t x)) : eqL1 x x = true := by
 cases H with
 | fz hf hv => exact eqE_refl hv (fz_eqE hf)
 | own hl hv =>
  rename_i y l
  cases y with
  | cells cs => exact eqE_refl hv rfl
  | map kd es => exact eqE_refl hv rfl
  | maq kd es op => exact eqE_refl hv rfl
  | arr z w es => exact eqE_refl hv rfl
  | arq z es op => exact eqE_refl hv rfl
  | bag ks => cases hv; simp [eqL1]
theorem CNs.eqLs {base : Nat} {S : Ft} {l : List TV} {m : List Value} (H : CNs c ρ F h base S l m) : (∀ t ∈ l, eqE t = true ∨ clT t = true) → eqLs m m = true := by
 induction H with
 | nil => intro _; rfl
 | vr hv _ ih =>
  rename_i t v l m _
  intro hc
  simp only [M.eqLs, Bool.and_eq_true]
  refine ⟨?_, ih fun t ht => hc t (List.mem_cons_of_mem _ ht)⟩
  rcases hc t List.mem_cons_self with h1 | h1
  ·exact eqE_refl hv h1
  ·unfold clT at h1
   split at h1
   ·cases hv
   ·exact eqE_refl hv (fz_eqE h1)
 | cl hv _ ih =>
  intro hc
  simp only [M.eqLs, Bool.and_eq_true]
  exact ⟨clT_eqL1 hv, ih fun t ht => hc t (List.mem_cons_of_mem _ ht)⟩
theorem eqL_cells {x : Value} (h : eqLs x.cells.toList x.cells.toList = true) : eqL x x = true := by
 cases x with
 | agg a => exact h
 | _ => simpa [eqL, eqLs, Value.cells] using h
theorem ENs.refl {base kd : Nat} {S : Ft} {l : List (Value × TV)} {m : List MapEntry} (H : ENs c ρ F h base kd S l m) : (∀ e ∈ l, ∀ t ∈ cellsT e.2, eqE t = true ∨ clT t = true) → eqEs m m = true := by
 induction H with
 | nil => intro _; rfl
 | cons hk hkd ha hv _ ih =>
  rename_i e e' l m _
  intro hc
  simp only [eqEs, Bool.and_eq_true]
  refine ⟨⟨⟨?_, eqL_cells (hv.eqLs (hc _ List.mem_cons_self))⟩, by simp⟩, ih fun e he => hc e (List.mem_cons_of_mem _ he)⟩
  rw [hk]
  have := hkd.2
  cases he : e.1 <;> rw [he] at this <;> simp [kcodeV] at this <;> try omega
  all_goals simp [eqL, eqL1]
theorem lookM_put {k k' : Value} {v : TV} (hne : keq k k' = false) : ∀ {es : List (Value × TV)}, lookM (putM es k' v) k = lookM es k
 | [] => by simp [putM, lookM, hne]
 | e :: es => by
  unfold putM
  cases hq : keq k' e.1 with
  | true =>
   have h2 : keq k e.1 = false := (keq_cong hq).trans hne
   simp [lookM, hne, h2]
  | false =>
   simp only [lookM]
   rw [lookM_put hne]
theorem ENs.kinds {base kd : Nat} {S : Ft} {l : List (Value × TV)} {m : List MapEntry} (H : ENs c ρ F h base kd S l m) : ∀ e ∈ l, kcodeV e.1 = kd := by
 induction H with
 | nil => simp
 | cons hk hkd ha hv _ ih =>
  intro e he
  rcases List.mem_cons.1 he with rfl | he
  ·exact hkd.2
  ·exact ih e he
theorem putM_has {k : Value} {v : TV} : ∀ {es : List (Value × TV)}, (k, v) ∈ putM es k v
 | [] => by simp [putM]
 | e :: es => by
  unfold putM
  cases keq k e.1 with
  | true => simp
  | false => exact List.mem_cons_of_mem _ putM_has
theorem lookM_self {kd : TypeDesc} {k : Value} {n : Nat} {v : TV} (hk : kindOk kd k n = true) : ∀ {es : List (Value × TV)}, lookM (putM es k v) k = some v
 | [] => by simp [putM, lookM, keq_refl hk]
 | e :: es => by
  unfold putM
  cases hq : keq k e.1 with
  | true => simp [lookM, keq_refl hk]
  | false => simp [lookM, hq, lookM_self hk]
theorem wopenV_ok (H : Mem X ρ F o c h) {S : Nat → Ft} (K0 : MO X ρ F o c h S) {v : TV} {x y : Value} {m b : Nat} {yo : TO} {S1 S2 S3 : Ft} {put : TV → TO} {q : RQ} {wrap : TV → TV} (hw : wopenV v o c (.rdO m) put m fun v o c lg => K (wrap v) o c lg)
 (hl : look o m = some yo) (hS : S m = (b, true) :: (S1 ++ (S2 ++ S3))) (hc : CNs c ρ F h X.base S2 (cellsT v) x.cells.toList) (ha : isAggT v = isAggV x) (hrun : q.run h = some y) (hwr : ∀ c ρ v, VR c ρ F h v x → VR c ρ F h (wrap v) y)
 (hlog : LogOk ρ F o h ρ o h (.rdO m) (.rd q h))
 (hput : ∀ c' ρ' v', ρ' m = ρ m → CNs c' ρ' F h X.base [] (cellsT v') x.cells.toList → isAggT v' = isAggV x → OR c' ρ' F h X.base m ((b, true) :: (S1 ++ S3)) (put v')) :
 RRes X c ρ F h o q K := by
 unfold wopenV at hw
 split at hw
 ·rename_i hn0
  obtain ⟨Ss, ls, b1, b2, b3⟩ := hc.opened c
  have hl0 : ls.length = 0 := by rw [b2.l2, hn0]; rfl
  have hV := b3 c ρ (fun _ _ h => h) (by omega) (fun i q hq => by
   have := (List.getElem?_eq_some_iff.1 hq).1; omega)
  rw [openL_nil hn0] at hV
  exact RRes.same H hrun (hwr _ _ _ (VR.ofCells hV ha)) hw hlog
 ·rename_i q0 new hn0
  split at hw
  ·rename_i v' hv
   have hA : ∀ ls : List Loc, ∀ t v, VR c ρ F h t v → VR (c + (new.length + 1)) (addG ρ c ls) F h t v := fun ls t v => VR.mono (by omega) (fun n l hn h1 => by rwa [addG_old _ _ hn] at h1) (fun n b h1 => by rw [addG_old _ _ (H.names _ _ h1)]; exact h1) (fun _ h => h) (fun _ _ _ h => h)
   obtain ⟨Ss, ls, b1, b2, b3⟩ := hc.opened c
   rw [hn0] at b2
   have hl1 : ls.length = new.length + 1 := b2.l2
   have hV := b3 (c + (new.length + 1)) (addG ρ c ls) (hA ls) (by omega) (fun i q hq => by rw [addG_new]; exact hq)
   obtain ⟨e1, e2, e3⟩ := ofCells_cells hv hV ha
   have hperm : (S m).Perm (((b, true) :: (S1 ++ S3)) ++ Ss.flatten) := by
    rw [hS, ← b1]
    refine List.Perm.cons _ ?_
    show List.Perm _ ((S1 ++ S3) ++ S2)
    rw [List.append_assoc]
    exact List.perm_append_comm.append_left _
   obtain ⟨M, hk⟩ := H.opens K0 (y1 := put v') hl b2 hperm (fun _ => hput _ _ v' (addG_old _ _ (H.lt hl)) (by rw [e1]; exact CNs.ofVRs hV) (e2.trans ha))
   cases hlog with
   | rdO hr hh hl2 hb2 hn2 =>
    refine ⟨_, _, _, _, _, _, hrun, ⟨M, hk, Nat.le_refl _, fun _ h => h, fun _ _ _ h => h⟩, hwr _ _ _ e3, hw, .rdO (fun n' y' hl' _ => ⟨?_, addG_old _ _ (H.lt hl'), fun b _ => ⟨rfl, fun _ h => h⟩⟩) rfl hl hb2 hn2⟩
    rw [look_append, look_news b2, if_pos (H.lt hl')]
    simp only
    rw [look_upd1]
    by_cases em : n' = m
    ·rw [if_pos em, hl]; exact ⟨_, rfl⟩
    ·rw [if_neg em]; exact ⟨_, hl'⟩
  ·exact hw.elim
theorem wlookup_ok (L : EnvLe T E) (H : Mem X ρ F o c h) {t : TypeId} {m k : TV} {ok : Bool} {mv kv : Value} (hw : wlookup T t m k ok o c K) (hm : VR c ρ F h m mv) (hk : VR c ρ F h k kv) :
 (mv = .map none ∧ PRes c ρ F h o ((E.desc t).bind fun d => (match (generalizing := false) d, mv with
  | .map kt elem, .map none => (E.desc kt).bind fun kd => (E.zero elem).bind fun z => grd (scalarT kd && scalar kv && plainV z) (some (bif ok then .tuple #[z, .bool false] else z))
  | _, _ => none)) K) ∨
 (∃ r, mv = .map (some r) ∧ ∃ q, ((E.desc t).bind fun d => (match (generalizing := false) d, mv with
  | .map kt elem, .map (some r) => (E.desc kt).bind fun kd => (E.zero elem).bind fun z => grd (scalarT kd && scalar kv && plainV z) (some (RQ.look r kd kv z ok))
  | _, _ => none)) = some q ∧ RRes X c ρ F h o q K) := by
 unfold wlookup at hw
 split at hw
 ·rename_i kt elem hd
  split at hw
  ·rename_i kd z kv' hkd hz
   obtain ⟨hz', hpl⟩ := L.zero _ _ hz
   rw [hk.inv_s.1]
   have hq : ∀ b, kindOk kd kv' (kcode kd) = true → ((E.desc t).bind fun d => (match (generalizing := false) d, Value.map (some b) with
    | .map kt elem, .map (some r) => (E.desc kt).bind fun kd => (E.zero elem).bind fun z => grd (scalarT kd && scalar kv' && plainV z) (some (RQ.look r kd kv' z ok))
    | _, _ => none)) = some (RQ.look b kd kv' z ok) := by
    intro b hko
    obtain ⟨hs1, hs2⟩ := kindOk_scalar hko
    rw [L.desc _ _ hd]
    simp only [Option.bind_some, L.desc _ _ hkd, hz', hs1, hs2, hpl, Bool.and_self, grd]
   have hkk : ∀ {n}, kindOk kd kv' n = true → kindOk kd kv' (kcode kd) = true := fun {n} h => by
    have h0 := h
    unfold kindOk at h0 ⊢
    simp only [Bool.and_eq_true, beq_iff] at h0 ⊢
    obtain ⟨⟨q1, q2⟩, q3⟩ := h0
    subst q2
    exact ⟨⟨q1, trivial⟩, q3⟩
   split at hw
   ·rename_i n
    right
    split at hw
    ·rename_i kn es hl
     split at hw
     ·rename_i hko
      obtain ⟨r, hr, hw⟩ := hw
      obtain ⟨Sm, hO⟩ := H.objs hl
      cases hO with
      | map hb hg hlen hc hst =>
       rename_i b clock es'
       have hE : ERs c ρ F h kn es es' := ⟨hlen, hc⟩
       cases hm with
       | mp hb' =>
        rw [hb] at hb'; cases hb'
        refine ⟨b, rfl, _, hq b (hkk hko), ?_⟩
        have hma : mapAt h b = some (es', clock) := by unfold mapAt; rw [hg]
        have hlog : LogOk ρ F o h ρ o h (.rdO n) (.rd (RQ.look b kd kv' z ok) h) := .rdO (.refl _) rfl hl (.inl hb) ⟨_, hma, hE.refl⟩
        have hf := vfindNow_rel hko 0 hE
        rw [hr] at hf
        cases r with
        | some v =>
         obtain ⟨j, x, q1, q2, _⟩ := hf
         simp only at hw
         cases ok with
         | true => exact RRes.same H (by simp [RQ.run, hma, lookIn, q1]) (.tup_of (.cons q2 (.cons (.s rfl) .nil))) hw hlog
         | false => exact RRes.same H (by simp [RQ.run, hma, lookIn, q1]) q2 hw hlog
        | none =>
         simp only at hw hf
         cases ok with
         | true => exact RRes.same H (by simp [RQ.run, hma, lookIn, hf]) (.tup_of (.cons (cT_rel hpl) (.cons (.s rfl) .nil))) hw hlog
         | false => exact RRes.same H (by simp [RQ.run, hma, lookIn, hf]) (cT_rel hpl) hw hlog
     ·exact hw.elim
    ·rename_i kn es op hl
     split at hw
     ·rename_i hko
      obtain ⟨S, K0⟩ := H.ex
      have hO := K0.objs n _ hl
      generalize hS : S n = Sm at hO
      cases hO with
      | maq hb hg hcl hc hst =>
       rename_i Sq b clock ev
       cases hm with
       | mp hb' =>
        rw [hb] at hb'; cases hb'
        refine ⟨b, rfl, _, hq b (hkk hko), ?_⟩
        have hma : mapAt h b = some (ev, clock) := by unfold mapAt; rw [hg]
        have miss : ∀ {M : List (Value × TV)} {S0 : Ft} {lg : VL}, ENs c ρ F h X.base kn S0 M ev → lookM M kv' = none → LogOk ρ F o h ρ o h lg (.rd (RQ.look b kd kv' z ok) h) → K (okT ok (cT z) false) o c lg → RRes X c ρ F h o (RQ.look b kd kv' z ok) K := by
         intro M S0 lg hE hno hlog hw
         have hf := hE.find hko 0
         rw [hno] at hf
         simp only at hf
         cases ok with
         | true => exact RRes.same H (by simp [RQ.run, hma, lookIn, hf]) (.tup_of (.cons (cT_rel hpl) (.cons (.s rfl) .nil))) hw hlog
         | false => exact RRes.same H (by simp [RQ.run, hma, lookIn, hf]) (cT_rel hpl) hw hlog
        have met : ∀ {M : List (Value × TV)} {S0 : Ft} {lg : VL} {v : TV}, ENs c ρ F h X.base kn S0 M ev → lookM M kv' = some v → (cellsT v).all plainC = true → LogOk ρ F o h ρ o h lg (.rd (RQ.look b kd kv' z ok) h) → K (okT ok v true) o c lg → RRes X c ρ F h o (RQ.look b kd kv' z ok) K := by
         intro M S0 lg v hE hv hp hlog hw
         have hf := hE.find hko 0
         rw [hv] at hf
         obtain ⟨j, x, S1, S2, S3, q1, q2, q3, q4, _⟩ := hf
         obtain ⟨hV, _⟩ := q3.vrs (fun t v hv hf => hv.fzmono hf) hp
         have hx := VR.ofCells hV q4
         cases ok with
         | true => exact RRes.same H (by simp [RQ.run, hma, lookIn, q1]) (.tup_of (.cons hx (.cons (.s rfl) .nil))) hw hlog
         | false => exact RRes.same H (by simp [RQ.run, hma, lookIn, q1]) hx hw hlog
        split at hw
        ·obtain ⟨r, hr, hw⟩ := hw
         have hE : ENs c ρ F h X.base kn Sq es ev := hc
         have hlog : LogOk ρ F o h ρ o h (.rdO n) (.rd (RQ.look b kd kv' z ok) h) := .rdO (.refl _) rfl hl (.inl hb) ⟨_, hma, hE.refl fun e he t ht => .inr (hcl e he t ht)⟩
         cases r with
         | none => simp only at hw; exact miss hE hr hlog hw
         | some v =>
          simp only at hw
          have hf := hE.find hko 0
          rw [hr] at hf
          obtain ⟨j, x, S1, S2, S3, q1, q2, q3, q4, q5⟩ := hf
          refine wopenV_ok H K0 (x := x) (y := bif ok then .tuple #[x, .bool true] else x) (wrap := fun v => okT ok v true) hw hl (by rw [hS, q2]) q3 q4 (by simp [RQ.run, hma, lookIn, q1]) (fun c ρ v hv => ?_) hlog fun c' ρ' v' hρ hv' ha' => ?_
          ·cases ok with
           | true => exact .tup_of (.cons hv (.cons (.s rfl) .nil))
           | false => exact hv
          ·exact .maq (hρ.trans hb) hg hcl (q5 c' ρ' v' [] hcl hv' ha') hst
        ·rename_i k' w
         obtain ⟨hw1, hw2⟩ := hw
         have hE : ENs c ρ F h X.base kn Sq (putM es k' w) ev := hc
         have hlog : LogOk ρ F o h ρ o h (rdL (cellsT w) (.rdO n)) (.rd (RQ.look b kd kv' z ok) h) := by
          unfold rdL
          split
          ·rename_i he
           refine .rdO (.refl _) rfl hl (.inl hb) ⟨_, hma, hE.refl fun e he' t ht => ?_⟩
           rcases putM_mem he' with rfl | h1
           ·exact .inl (List.all_eq_true.1 he t ht)
           ·exact .inr (hcl e h1 t ht)
          ·exact .bad
         by_cases ek : kv' = k'
         ·subst ek
          have hv := lookM_self (v := w) (es := es) hko
          have hf := hE.find hko 0
          rw [hv] at hf
          obtain ⟨j, x, S1, S2, S3, q1, q2, q3, q4, _⟩ := hf
          exact met hE hv (hw1 rfl).1 hlog (hw1 rfl).2
         ·obtain ⟨r, hr, hw⟩ := hw2 ek
          have hne : keq kv' k' = false := by
           cases hq : keq kv' k' with
           | false => rfl
           | true => exact absurd (keq_eq hko (hE.kinds _ putM_has) hq) ek
          have := lookM_put (v := w) (es := es) hne
          cases r with
          | none => simp only at hw; exact miss hE (this.trans hr) hlog hw
          | some v => simp only at hw; exact met hE (this.trans hr) hw.1 hlog hw.2
        ·exact hw.elim
     ·exact hw.elim
    ·exact hw.elim
   ·left
    split at hw
    ·rename_i hko
     obtain ⟨hs1, hs2⟩ := kindOk_scalar hko
     have hmv := hm.inv_s.1
     subst hmv
     refine ⟨rfl, ?_⟩
     have hq : ∀ y : Value, (bif ok then Value.tuple #[z, .bool false] else z) = y → ((E.desc t).bind fun d => (match d, Value.map none with
             | .map kt elem, .map none => (E.desc kt).bind fun kd => (E.zero elem).bind fun z => grd (scalarT kd && scalar kv' && plainV z) (some (bif ok then .tuple #[z, .bool false] else z))
             | _, _ => none)) = some y := by
      rintro y rfl
      rw [L.desc _ _ hd]
      simp only [Option.bind_some, L.desc _ _ hkd, hz', hs1, hs2, hpl, Bool.and_self, grd]
     cases ok with
     | true => exact ⟨_, _, hq _ rfl, .tup_of (.cons (cT_rel hpl) (.cons (.s rfl) .nil)), hw⟩
     | false => exact ⟨_, _, hq _ rfl, cT_rel hpl, hw⟩
    ·exact hw.elim
   ·exact hw.elim
  ·exact hw.elim
 ·exact hw.elim
end
end Go.M
namespace Go.M
open Go
section
variable {T E : Env} {X : Cx} {ρ : Gh} {F : Nat → Prop} {o : Ob} {c : Nat} {af : AF} {f : Fr} {h : AHeap} {p : Oper} {K : OK}
def esA : Option TO → Option (Nat × List (List TV))
 | some (.arr z _ es) => some (z, es)
 | _ => none
theorem esA_shareO (o : Ob) (m n : Nat) : esA (look (shareO o m) n) = esA (look o n) := by
 cases hm : look o m with
 | none => unfold shareO; rw [hm]
 | some y =>
  cases y with
  | arr z w es =>
   unfold shareO; rw [hm]
   simp only
   rw [look_upd1]
   by_cases e : n = m
   ·subst e; rw [if_pos rfl, hm]; rfl
   ·rw [if_neg e]
  | _ => unfold shareO; rw [hm]
theorem frz_tk (o : Ob) (n : Nat) : frz o (.tk n) = (esA (look o n)).map fun p => .sl p.1 p.2 false := by
 show (match look o n with | some (.arr z _ es) => some (TV.sl z es false) | _ => none) = _
 cases look o n with
 | none => rfl
 | some y => cases y <;> rfl
theorem frz_shareO (o : Ob) (m : Nat) (t : TV) : frz (shareO o m) t = frz o t := by
 cases t with
 | tk n => rw [frz_tk, frz_tk, esA_shareO]
 | ifc t v => cases v <;> try rfl
              rename_i w; cases w <;> rfl
 | clo g a k => cases a <;> cases k <;> rfl
 | _ => rfl
theorem frz_share1 (o : Ob) (v t : TV) : frz (share1 o v) t = frz o t := by
 cases v <;> try rfl
 exact frz_shareO _ _ _
theorem frzs_share1 (o : Ob) (v : TV) : ∀ l, frzs (share1 o v) l = frzs o l
 | [] => rfl
 | t :: l => by simp only [frzs, frz_share1, frzs_share1 o v l]
theorem frz_fz {t t' : TV} (hf : frz o t = some t') : fz t' = true := by
 unfold frz at hf
 split at hf
 ·split at hf
  ·rename_i hp; cases hf; exact hp
  ·cases hf
 ·cases hf; rfl
 ·split at hf
  ·cases hf; rfl
  ·cases hf
 ·cases hf; rfl
 ·cases hf; rfl
 ·cases hf
theorem frzs_fz : ∀ {l l' : List TV}, frzs o l = some l' → (∀ t ∈ l', fz t = true) ∧ l'.length = l.length
 | [], l', hf => by simp [frzs] at hf; subst hf; exact ⟨by simp, rfl⟩
 | t :: l, l', hf => by
  unfold frzs at hf
  split at hf
  ·rename_i v' hv
   split at hf
   ·rename_i l2 hl
    cases hf
    obtain ⟨h1, h2⟩ := frzs_fz hl
    refine ⟨fun t ht => ?_, by simp [h2]⟩
    rcases List.mem_cons.1 ht with rfl | ht
    ·exact frz_fz hv
    ·exact h1 t ht
   ·cases hf
  ·cases hf
structure ShOk (X : Cx) (ρ : Gh) (c : Nat) (h : AHeap) (F : Nat → Prop) (o : Ob) (F' : Nat → Prop) (o' : Ob) : Prop where
 mem : Mem X ρ F' o' c h
 keep : ∀ t x, VR c ρ F h t x → VR c ρ F' h t x
 FF : ∀ b, F b → F' b
 wk : ∀ n y, look o n = some y → ∃ y', look o' n = some y' ∧ weak y y'
theorem ShOk.refl (H : Mem X ρ F o c h) : ShOk X ρ c h F o F o := ⟨H, fun _ _ h => h, fun _ h => h, fun n y hl => ⟨y, hl, weak.refl y⟩⟩
theorem ShOk.trans {F1 F2 : Nat → Prop} {o1 o2 : Ob} (A : ShOk X ρ c h F o F1 o1) (B : ShOk X ρ c h F1 o1 F2 o2) : ShOk X ρ c h F o F2 o2 :=
 ⟨B.mem, fun t x hx => B.keep t x (A.keep t x hx), fun b hb => B.FF b (A.FF b hb), fun n y hl => by
  obtain ⟨y1, h1, h2⟩ := A.wk n y hl
  obtain ⟨y2, h3, h4⟩ := B.wk n y1 h1
  exact ⟨y2, h3, h2.trans h4⟩⟩
theorem share1_ok (H : Mem X ρ F o c h) (v : TV) : ∃ F', ShOk X ρ c h F o F' (share1 o v) ∧ ∀ v' x, frz o v = some v' → VR c ρ F h v x → VR c ρ F' h v' x := by
 cases v with
 | tk n =>
  obtain ⟨F', h1, h2, h3, h4⟩ := H.share n
  refine ⟨F', ⟨h1, h2, h3, weak_shareO o n⟩, fun v' x hf hx => ?_⟩
  unfold frz at hf
  simp only at hf
  split at hf
  ·rename_i z w es hl; cases hf; exact h4 _ _ _ _ hl hx
  ·cases hf
 | sl z es fl =>
  refine ⟨F, .refl H, fun v' x hf hx => ?_⟩
  simp only [frz, Option.some.injEq] at hf
  subst hf
  cases hx with
  | nil he => exact .nil he
  | sl h1 h2 h3 h4 h5 h6 h7 h8 h9 h10 => exact .sl h1 h2 h3 h4 h5 (fun h => by cases h) h7 h8 h9 h10
 | s w =>
  refine ⟨F, .refl H, fun v' x hf hx => ?_⟩
  unfold frz at hf
  simp only at hf
  split at hf
  ·cases hf; exact hx
  ·cases hf
 | ifc t w =>
  refine ⟨F, .refl H, fun v' x hf hx => ?_⟩
  unfold frz at hf
  split at hf <;> simp_all
  all_goals (first | (obtain ⟨rfl, rfl⟩ := ‹_ ∧ _›; subst hf; exact hx) | skip)
 | clo g a k =>
  refine ⟨F, .refl H, fun v' x hf hx => ?_⟩
  unfold frz at hf
  split at hf <;> simp_all
  all_goals (first | (obtain ⟨rfl, rfl, rfl⟩ := ‹_ ∧ _ ∧ _›; subst hf; exact hx) | skip)
 | _ => exact ⟨F, .refl H, fun v' x hf hx => by simp [frz] at hf⟩
theorem shares_ok : ∀ (l : List TV) {F : Nat → Prop} {o : Ob}, Mem X ρ F o c h → ∃ F', ShOk X ρ c h F o F' (shares o l) ∧ ∀ l' m, frzs o l = some l' → VRs c ρ F h l m → VRs c ρ F' h l' m
 | [], F, o, H => ⟨F, .refl H, fun l' m hf hm => by simp [frzs] at hf; subst hf; exact hm⟩
 | v :: l, F, o, H => by
  obtain ⟨F1, A, a⟩ := share1_ok H v
  obtain ⟨F2, B, b⟩ := shares_ok l A.mem
  refine ⟨F2, A.trans B, fun l' m hf hm => ?_⟩
  unfold frzs at hf
  split at hf
  ·rename_i v' hv
   split at hf
   ·rename_i l2 hl
    cases hf
    obtain ⟨x, m', rfl, h1, h2⟩ := hm.inv_cons
    exact .cons (B.keep _ _ (a v' x hv h1)) (b l2 m' (by rw [frzs_share1]; exact hl) (h2.mono' A.keep))
   ·cases hf
  ·cases hf
theorem frzV_ok (H : Mem X ρ F o c h) (v : TV) (ho : okV v = true) : ∃ F', ShOk X ρ c h F o F' (shares o (cellsT v)) ∧ ∀ v' x, frzV o v = some v' → VR c ρ F h v x → VR c ρ F' h v' x ∧ fzV v' = true := by
 obtain ⟨F', A, a⟩ := shares_ok (cellsT v) H
 refine ⟨F', A, fun v' x hf hx => ?_⟩
 have one : (∀ cs, v ≠ .agg cs) → VR c ρ F' h v' x ∧ fzV v' = true := fun hna => by
  have hv1 : cellsT v = [v] := by cases v <;> first | rfl | exact absurd rfl (hna _)
  have hv2 : frzV o v = frz o v := by cases v <;> first | rfl | exact absurd rfl (hna _)
  rw [hv2] at hf
  have hfz := frz_fz hf
  rw [hv1] at a
  have := a [v'] [x] (by simp [frzs, hf]) (.cons hx .nil)
  refine ⟨this.head, ?_⟩
  cases v' <;> simp [fz] at hfz <;> simp [fzV, fz, hfz]
 cases v with
 | agg cs =>
  obtain ⟨q, rfl, h1⟩ := hx.inv_agg
  simp only [frzV] at hf
  split at hf
  ·rename_i cs' hc
   cases hf
   refine ⟨.agg_of (a cs' q.toList hc h1), ?_⟩
   simp only [fzV]
   exact List.all_eq_true.2 (frzs_fz hc).1
  ·cases hf
 | _ => exact one (by intro cs e; cases e)
theorem Mem.atB_hd (H : Mem X ρ F o c h) {S : Nat → Ft} (K : MO X ρ F o c h S) {n b : Nat} {y : TO} (hl : look o n = some y) (hb : atB ρ n b) : b < h.size ∧ hd h b ∈ hds (S n) := by
 rcases (K.objs n y hl).block with ⟨b', o', h1, h2, h3, h4⟩ | ⟨b', z, len, cs, f, t0, th0, c0, t1, th1, h1, h2, h3, h4⟩ | ⟨z, h1⟩
 ·rcases hb with hb | ⟨z, l, hb⟩ <;> rw [h1] at hb <;> cases hb
  exact ⟨H.wf.lt h2, by rw [h3]; exact h4⟩
 ·rcases hb with hb | ⟨z, l, hb⟩ <;> rw [h1] at hb <;> cases hb
  exact ⟨H.wf.lt h2, by rw [hd_get h2]; exact h4⟩
 ·rcases hb with hb | ⟨z, l, hb⟩ <;> rw [h1] at hb <;> cases hb
theorem Mem.atB_lt (H : Mem X ρ F o c h) {n b : Nat} {y : TO} (hl : look o n = some y) (hb : atB ρ n b) : b < h.size := by
 obtain ⟨S, K⟩ := H.ex
 exact (H.atB_hd K hl hb).1
theorem Did.alloc {F1 : Nat → Prop} {o1 : Ob} (H : Mem X ρ F o c h) (S : ShOk X ρ c h F o F1 o1) {md : Made} {hd : Hold} {y : TO} {l : Loc} {v : TV} (hp : apure E af p = none) (hq : aread E af p = none) (ha : aalloc E af p = some (md, hd))
 (hM : Mem X (updG ρ c (some l)) F1 ((c, y) :: o1) (c + 1) (h.push (md.obj h.size))) (hk : ∀ t x, VR c ρ F1 h t x → VR (c + 1) (updG ρ c (some l)) F1 (h.push (md.obj h.size)) t x)
 (hv : VR (c + 1) (updG ρ c (some l)) F1 (h.push (md.obj h.size)) v (hd.val h.size)) (hK : K v ((c, y) :: o1) (c + 1) .alloc) : Did E X ρ F o c af h p K := by
 refine ⟨0, ⟨hd.val h.size, h.push (md.obj h.size), .alloc h (h.push (md.obj h.size))⟩, v, _, _, _, F1, .alloc, fun n _ => ?_, hK, ⟨hM, fun t x hx => hk t x (S.keep t x hx), by rw [AHeap.size_push]; omega, S.FF, fun b cs hb hr => by rw [rd_push H.wf.le _ (H.Flt hb)]; exact hr⟩, hv,
  .alloc fun n y' hl _ => ⟨?_, ?_, fun b hb => ?_⟩⟩
 ·unfold runOp; rw [hp, hq, ha]
 ·have := H.lt hl
  rw [look_cons, if_neg (by omega)]
  obtain ⟨y2, q1, _⟩ := S.wk n y' hl
  exact ⟨y2, q1⟩
 ·have := H.lt hl
  rw [updG_ne _ _ (by omega)]
 ·have := H.atB_lt hl hb
  exact ⟨by rw [AHeap.get_push, if_neg (by omega)], fun cs hr => by rw [rd_push H.wf.le _ this]; exact hr⟩
end
end Go.M
namespace Go.M
open Go
section
variable {T E : Env} {X : Cx} {ρ : Gh} {F : Nat → Prop} {o : Ob} {c : Nat} {af : AF} {f : Fr} {h : AHeap} {p : Oper} {K : OK}
theorem cells_did (H : Mem X ρ F o c h) {cs : List TV} {cv : List Value} (hc : VRs c ρ F h cs cv) (hp : apure E af p = none) (hq : aread E af p = none) (ha : aalloc E af p = some (.cells cv, .ptr)) (hK : K (.ptr c 0) ((c, .cells cs) :: o) (c + 1) .alloc) : Did E X ρ F o c af h p K := by
 obtain ⟨h1, h2⟩ := H.newCells hc
 exact Did.alloc H (.refl H) (md := .cells cv) (hd := .ptr) hp hq ha h1 h2 (.ptr (updG_self _ _ _)) hK
theorem map_did (H : Mem X ρ F o c h) (kd : Nat) (hp : apure E af p = none) (hq : aread E af p = none) (ha : aalloc E af p = some (.map, .map)) (hK : K (.mp c) ((c, .map kd []) :: o) (c + 1) .alloc) : Did E X ρ F o c af h p K := by
 obtain ⟨h1, h2⟩ := H.newMap kd
 exact Did.alloc H (.refl H) (md := .map) (hd := .map) hp hq ha h1 h2 (.mp (updG_self _ _ _)) hK
theorem arr_did {F1 : Nat → Prop} {o1 : Ob} (H : Mem X ρ F o c h) (S : ShOk X ρ c h F o F1 o1) {z cap : Nat} {es : List (List TV)} {cv : List Value} (hE : ER c ρ F1 h z es cv) (hz : 0 < z) (hcap : es.length ≤ cap)
 (hp : apure E af p = none) (hq : aread E af p = none) (ha : aalloc E af p = some (.cells cv, .slice z es.length cap)) (hK : K (.tk c) ((c, .arr z true es) :: o1) (c + 1) .alloc) : Did E X ρ F o c af h p K := by
 obtain ⟨h1, h2⟩ := S.mem.newArr hE hz
 refine Did.alloc H S (md := .cells cv) (hd := .slice z es.length cap) hp hq ha h1 h2 (.tk (by omega) rfl (fun b z' len hx => ?_) (fun z' hx => ?_)) hK
 ·rw [updG_self] at hx; cases hx; exact ⟨cap, hcap, rfl⟩
 ·rw [updG_self] at hx; cases hx
theorem ER.replicate {z : Nat} {zs : List TV} {zv : List Value} (hz : VRs c ρ F h zs zv) (hl : zs.length = z) (hf : zs.all M.fz = true) : ∀ k, ER c ρ F h z (List.replicate k zs) (repeatL zv k)
 | 0 => .nil z
 | k + 1 => by
  have ih := ER.replicate hz hl hf k
  have h1 : ER c ρ F h z [zs] zv := by
   refine ⟨by rw [← hz.1, hl]; simp, fun e he => by simp at he; subst he; exact hl, fun e he t ht => by simp at he; subst he; exact List.all_eq_true.1 hf t ht, fun i j e t v q1 q2 q3 => ?_⟩
   cases i with
   | zero => simp at q1; subst q1; exact hz.2 j t v q2 (by simpa using q3)
   | succ i => simp at q1
  exact h1.append ih
theorem setN_ex {α : Type} : ∀ {n : Nat} {l xs : List α}, n + xs.length ≤ l.length → ∃ r, setN l n xs = some r
 | 0, l, [], _ => ⟨l, by simp [setN]⟩
 | 0, [], x :: xs, h => by simp at h
 | 0, y :: l, x :: xs, h => by
  obtain ⟨r, hr⟩ := setN_ex (n := 0) (l := l) (xs := xs) (by simp at h ⊢; omega)
  exact ⟨x :: r, by simp [setN, hr]⟩
 | n + 1, [], xs, h => by simp at h
 | n + 1, y :: l, xs, h => by
  obtain ⟨r, hr⟩ := setN_ex (n := n) (l := l) (xs := xs) (by simp at h ⊢; omega)
  exact ⟨y :: r, by simp [setN, hr]⟩
theorem setAt_some {α : Type} : ∀ {l r : List α} {n : Nat} {x : α}, setAt l n x = some r → n < l.length ∧ r.length = l.length ∧ ∀ i, r[i]? = if i = n then some x else l[i]?
 | [], r, n, x, h => by simp [setAt] at h
 | y :: l, r, 0, x, h => by
  simp [setAt] at h; subst h
  refine ⟨by simp, by simp, fun i => ?_⟩
  cases i <;> simp
 | y :: l, r, n + 1, x, h => by
  unfold setAt at h
  split at h
  ·rename_i l' hl
   cases h
   obtain ⟨h1, h2, h3⟩ := setAt_some hl
   refine ⟨by simp; omega, by simp [h2], fun i => ?_⟩
   cases i with
   | zero => simp
   | succ i => simp [h3 i]
  ·cases h
theorem ER.setAt {z : Nat} {es es' : List (List TV)} {cs : List Value} {l : List TV} {i : Nat} (A : ER c ρ F h z es cs) (hs : ∀ j, es'[j]? = if j = i then some l else es[j]?) (hlen : es'.length = es.length) (hi : i < es.length) (hl : l.length = z) (hf : ∀ t ∈ l, M.fz t = true)
 {cs' : List Value} (hc : cs'.length = cs.length) (hin : ∀ j t v, l[j]? = some t → cs'[i * z + j]? = some v → VR c ρ F h t v) (hout : ∀ k, (k < i * z ∨ (i + 1) * z ≤ k) → cs'[k]? = cs[k]?) : ER c ρ F h z es' cs' := by
 have key : ∀ j e, es'[j]? = some e → (j = i ∧ e = l) ∨ (j ≠ i ∧ es[j]? = some e) := fun j e he => by
  rw [hs] at he
  by_cases e1 : j = i
  ·rw [if_pos e1] at he; cases he; exact .inl ⟨e1, rfl⟩
  ·rw [if_neg e1] at he; exact .inr ⟨e1, he⟩
 refine ⟨by rw [hc, hlen, A.len], fun e he => ?_, fun e he => ?_, fun j k e t v q1 q2 q3 => ?_⟩
 ·obtain ⟨j, hj⟩ := List.getElem?_of_mem he
  rcases key j e hj with ⟨_, rfl⟩ | ⟨_, h1⟩
  ·exact hl
  ·exact A.each e (List.mem_of_getElem? h1)
 ·obtain ⟨j, hj⟩ := List.getElem?_of_mem he
  rcases key j e hj with ⟨_, rfl⟩ | ⟨_, h1⟩
  ·exact hf
  ·exact A.fz e (List.mem_of_getElem? h1)
 ·rcases key j e q1 with ⟨rfl, rfl⟩ | ⟨h1, h2⟩
  ·exact hin k t v q2 q3
  ·have hk : k < z := by rw [← A.each e (List.mem_of_getElem? h2)]; exact (List.getElem?_eq_some_iff.1 q2).1
   refine A.cell j k e t v h2 q2 ?_
   rw [← q3]
   refine (hout _ ?_).symm
   rcases Nat.lt_or_gt_of_ne h1 with h3 | h3
   ·left
    have : (j + 1) * z ≤ i * z := Nat.mul_le_mul_right z h3
    rw [Nat.add_mul] at this; omega
   ·right
    have : (i + 1) * z ≤ j * z := Nat.mul_le_mul_right z h3
    omega
theorem fillS_rel {n : Nat} : ∀ {ps : List (Nat × TV)} {o : Ob} {F : Nat → Prop} {es es' : List (List TV)} {cs : List Value} {pv : List (Nat × Value)}, Mem X ρ F o c h → fillS o n es ps = some es' → ER c ρ F h n es cs → PRs c ρ F h ps pv →
 ∃ F' cv, ShOk X ρ c h F o F' (sharesP o ps) ∧ fillA (fun i => some (i * n, n)) cs pv = some cv ∧ ER c ρ F' h n es' cv ∧ es'.length = es.length
 | [], o, F, es, es', cs, [], H, hf, hE, _ => by simp [fillS] at hf; subst hf; exact ⟨F, cs, .refl H, rfl, hE, rfl⟩
 | [], o, F, es, es', cs, _ :: _, H, hf, hE, hq => hq.elim
 | a :: l, o, F, es, es', cs, [], H, hf, hE, hq => hq.elim
 | a :: l, o, F, es, es', cs, b :: m, H, hf, hE, hq => by
  obtain ⟨e, hv, hr⟩ := hq
  unfold fillS at hf
  split at hf
  ·rename_i l1 hc hfz
   simp only [Bool.and_eq_true, beq_iff] at hc
   split at hf
   ·rename_i es1 hset
    obtain ⟨s1, s2, s3⟩ := setAt_some hset
    obtain ⟨F1, A, a1⟩ := shares_ok (cellsT a.2) H
    obtain ⟨f1, f2⟩ := frzs_fz hfz
    have hcr := a1 l1 _ hfz (cells_rel hv hc.1)
    have hl1 : l1.length = n := by omega
    have hE1 := hE.mono A.keep
    have hvl : b.2.cells.toList.length = n := by rw [← hcr.1]; exact hl1
    have hle : a.1 * n + b.2.cells.toList.length ≤ cs.length := by
     rw [hvl, hE.len]
     have : (a.1 + 1) * n ≤ es.length * n := Nat.mul_le_mul_right n s1
     rw [Nat.add_mul] at this; omega
    obtain ⟨cs1, hcs1⟩ := setN_ex hle
    obtain ⟨t1, t2, t3⟩ := setN_some hcs1
    have hE2 : ER c ρ F1 h n es1 cs1 := by
     refine hE1.setAt s3 s2 s1 hl1 f1 t2 (fun j t v q1 q2 => ?_) (fun k hk => ?_)
     ·have hj : j < l1.length := (List.getElem?_eq_some_iff.1 q1).1
      rw [t3, if_pos ⟨by omega, by omega⟩] at q2
      exact hcr.2 j t v q1 (by rw [← q2]; congr 1; omega)
     ·rw [t3, if_neg]
      rw [Nat.add_mul] at hk; omega
    have hfz2 : fillS (shares o (cellsT a.2)) n es1 l = some es' := by
     have key : ∀ (o1 : Ob), (∀ t, frz o1 t = frz o t) → ∀ (l : List (Nat × TV)) (es : List (List TV)), fillS o1 n es l = fillS o n es l := by
      intro o1 h1 l
      have h2 : ∀ q, frzs o1 q = frzs o q := by
       intro q
       induction q with
       | nil => rfl
       | cons t q ih => simp only [frzs, h1, ih]
      induction l with
      | nil => intro es; rfl
      | cons p l ih =>
       intro es
       simp only [fillS, h2, ih]
     rw [key _ (fun t => ?_)]; · exact hf
     have : ∀ (q : List TV) (o1 : Ob), frz (shares o1 q) t = frz o1 t := by
      intro q
      induction q with
      | nil => intro o1; rfl
      | cons v q ih => intro o1; simp only [shares]; rw [ih, frz_share1]
     exact this _ _
    have hr1 : PRs c ρ F1 h l m := by
     have : ∀ (l : List (Nat × TV)) (m : List (Nat × Value)), PRs c ρ F h l m → PRs c ρ F1 h l m := by
      intro l
      induction l with
      | nil => intro m hm; cases m <;> exact hm
      | cons p l ih =>
       intro m hm
       cases m with
       | nil => exact hm
       | cons q m => exact ⟨hm.1, A.keep _ _ hm.2.1, ih m hm.2.2⟩
     exact this l m hr
    obtain ⟨F2, cv, B, b1, b2, b3⟩ := fillS_rel A.mem hfz2 hE2 hr1
    refine ⟨F2, cv, A.trans B, ?_, b2, by rw [b3, s2]⟩
    obtain ⟨i, x⟩ := b
    simp only at e
    subst e
    simp only [fillA, Option.bind_some]
    have : x.cells.size = n := by simpa using hvl
    rw [this]
    simp only at hcs1
    simp [grd, hcs1, b1]
   ·cases hf
  ·cases hf
end
end Go.M
namespace Go.M
open Go
section
variable {T E : Env} {X : Cx} {ρ : Gh} {F : Nat → Prop} {o : Ob} {c : Nat} {af : AF} {f : Fr} {h : AHeap} {p : Oper} {K : OK}
theorem Did.eff (H : Mem X ρ F o c h) {v : TV} {x : Value} {h' : AHeap} {ρ' : Gh} {F' : Nat → Prop} {o' : Ob} {c' : Nat} {ns : List Nat} (hp : apure E af p = none) (hq : aread E af p = none) (ha : aalloc E af p = none)
 (he : aeff E X.base af p h = some (.val x, h')) (hN : Nx X ρ F o c h ρ' F' o' c' h') (hv : VR c' ρ' F' h' v x) (hr : Raw ρ o h ρ' o' h' ns) (hK : K v o' c' (.eff ns)) : Did E X ρ F o c af h p K := by
 refine ⟨0, ⟨x, h', .eff h h'⟩, v, o', c', ρ', F', .eff ns, fun n _ => ?_, hK, hN, hv, .eff hr⟩
 unfold runOp; rw [hp, hq, ha, he]
theorem raw_set (H : Mem X ρ F o c h) {F1 : Nat → Prop} {o1 : Ob} (Sh : ShOk X ρ c h F o F1 o1) {S : Nat → Ft} (K1 : MO X ρ F1 o1 c h S) {m : Nat} {y y' : TO} {h' : AHeap} (hl : look o1 m = some y) {x : Nat} (hhm : x ∈ hds (S m))
 (same : ∀ z, z < h.size → hd h z ≠ x → h'.get z = h.get z) : Raw ρ o h ρ (upd1 o1 m y') h' [m] := by
 intro n yn hn hne
 have hne' : n ≠ m := by simpa using hne
 obtain ⟨y1, k1, k2⟩ := Sh.wk n yn hn
 refine ⟨⟨y1, by rw [look_upd1, if_neg hne']; exact k1⟩, rfl, fun b hb => ?_⟩
 obtain ⟨q1, q2⟩ := Sh.mem.atB_hd K1 k1 hb
 have hhb : hd h b ≠ x := fun e => by
  rw [e] at q2
  exact hne' (K1.heads n m y1 y _ k1 hl q2 hhm)
 exact ⟨same b q1 hhb, fun cs hr => rd_same H.wf same hhb hr⟩
theorem nx_of (H : Mem X ρ F o c h) {F1 : Nat → Prop} {o1 : Ob} (S : ShOk X ρ c h F o F1 o1) {ρ' : Gh} {F2 : Nat → Prop} {o2 : Ob} {c2 : Nat} {h' : AHeap} (M : Mem X ρ' F2 o2 c2 h') (hk : ∀ t x, VR c ρ F1 h t x → VR c2 ρ' F2 h' t x) (hF : ∀ b, F1 b → F2 b)
 (hsz : h.size ≤ h'.size) (frz : ∀ b cs, F b → h.rd b = some cs → h'.rd b = some cs) : Nx X ρ F o c h ρ' F2 o2 c2 h' :=
 ⟨M, fun t x hx => hk t x (S.keep t x hx), hsz, fun b hb => hF b (S.FF b hb), frz⟩
theorem okC_one {t : TV} {x : Value} (ho : okC t = true) (hv : VR c ρ F h t x) : oneC x = true := by
 cases hv with
 | s hp => cases x <;> simp [plain1] at hp <;> rfl
 | tk hn h1c => cases x <;> simp [slV] at h1c; rfl
 | wp hn h1c => cases x <;> simp [ptV] at h1c; rfl
 | j => simp [okC] at ho
 | agg => simp [okC] at ho
 | tup => simp [okC] at ho
 | sv => simp [okC] at ho
 | _ => rfl
theorem okC_all : ∀ {l : List TV} {m : List Value}, l.all okC = true → VRs c ρ F h l m → m.all oneC = true
 | [], m, _, H => by rw [H.inv_nil]; rfl
 | t :: l, m, ho, H => by
  simp only [List.all_cons, Bool.and_eq_true] at ho
  obtain ⟨v, m', rfl, h1, h2⟩ := H.inv_cons
  simp only [List.all_cons, Bool.and_eq_true]
  exact ⟨okC_one ho.1 h1, okC_all ho.2 h2⟩
def cstore (E : Env) (base : Nat) (t : TypeId) (a v : Value) (h : AHeap) : Option (ARes × AHeap) := (E.size t).bind fun n => (asPtr a).bind fun p =>
      grd (Nat.beq v.cells.size n && v.cells.toList.all oneC) <| (h.rd p.1).bind fun cs => (setN cs p.2 v.cells.toList).bind fun cs' => (h.wr base p.1 cs').bind fun h' => some (.val undef, h')
theorem setN_mid {α : Type} {v1 v2 v3 v2' xs : List α} {p : Nat} (h : setN v2 p xs = some v2') : setN (v1 ++ (v2 ++ v3)) (v1.length + p) xs = some (v1 ++ (v2' ++ v3)) := by
 obtain ⟨s1, s2, s3⟩ := setN_some h
 obtain ⟨r, hr⟩ := setN_ex (n := v1.length + p) (l := v1 ++ (v2 ++ v3)) (xs := xs) (by simp; omega)
 rw [hr]
 congr 1
 rw [setN_eq hr, setN_eq h]
 rw [List.take_length_add_append, List.drop_length_add_append, List.take_append_of_le_length (by omega), List.drop_append_of_le_length (by omega), List.drop_append_of_le_length (by rw [List.length_drop]; omega)]
 simp [List.append_assoc]
theorem CNs.setN {base : Nat} {S : Ft} {l xs r : List TV} {m ys : List Value} {p : Nat} (H : CNs c ρ F h base S l m) (hs : M.setN l p xs = some r) (hx : VRs c ρ F h xs ys) : ∃ m' S', M.setN m p ys = some m' ∧ CNs c ρ F h base S' r m' ∧ S'.Sublist S := by
 obtain ⟨s1, s2, s3⟩ := setN_some hs
 have hlen := H.len
 obtain ⟨m', hm⟩ := setN_ex (n := p) (l := m) (xs := ys) (by rw [← hx.1, ← hlen]; exact s1)
 obtain ⟨S1, S2, S3, rfl, a1, a2, a3⟩ := H.part p xs.length
 refine ⟨m', S1 ++ S3, hm, ?_, (List.sublist_append_right S2 S3).append_left S1⟩
 rw [setN_eq hs, setN_eq hm, ← hx.1]
 exact a1.join ((CNs.ofVRs (base := base) hx).join a3)
theorem set_self {α : Type} {l : List α} {i : Nat} {e : α} (he : l[i]? = some e) : l.set i e = l := by
 refine List.ext_getElem? fun k => ?_
 rw [List.getElem?_set]
 by_cases ek : i = k
 ·subst ek; rw [if_pos rfl, if_pos (List.getElem?_eq_some_iff.1 he).1, he]
 ·rw [if_neg ek]
theorem wstore_ok (L : EnvLe T E) (H : Mem X ρ F o c h) {t : TypeId} {a v : TV} {av vv : Value} (hw : wstore T t a v o c K) (ha : VR c ρ F h a av) (hv : VR c ρ F h v vv) (hp : apure E af p = none) (hq : aread E af p = none) (hal : aalloc E af p = none)
 (he : aeff E X.base af p h = cstore E X.base t av vv h) : Did E X ρ F o c af h p K := by
 unfold wstore at hw
 split at hw
 ·exact hw.elim
 ·rename_i n hn
  split at hw
  ·exact hw.elim
  ·rename_i hc
   simp only [Bool.and_eq_true, beq_iff] at hc
   obtain ⟨⟨hov, hlen⟩, hall⟩ := hc
   have hcr := cells_rel hv hov
   have hone := okC_all hall hcr
   have hsz : vv.cells.size = n := by have := hcr.1; simp only [Array.length_toList] at this; omega
   have go : ∀ b q cs cs' h', av = .pointer (some ⟨b, q, none⟩) → h.rd b = some cs → setN cs q vv.cells.toList = some cs' → h.wr X.base b cs' = some h' → aeff E X.base af p h = some (.val undef, h') := by
    rintro b q cs cs' h' rfl h1 h2 h3
    rw [he]
    unfold cstore
    simp only [L.size _ _ hn, Option.bind_some, asPtr, hsz, hone, h1, h2, h3, grd]
    simp
   split at hw
   ·rename_i m q
    split at hw
    ·rename_i cs hl
     split at hw
     ·rename_i cs1 hset
      obtain ⟨S, K0⟩ := H.ex
      have hO := K0.objs m _ hl
      generalize hS : S m = Sm at hO
      cases hO with
      | cells hb hg htt hc =>
       rename_i Sq b thr csv
       cases ha with
       | ptr hb' =>
        rw [hb] at hb'; cases hb'
        have hrd := rd_of (fam_of hg hg) htt (cellsOf_get hg)
        obtain ⟨cs1v, S', h1, h2, h3⟩ := hc.setN hset hcr
        have hbS : (b, true) ∈ S m := by rw [hS]; exact List.mem_cons_self
        have hmine := K0.mine m _ b hl (mem_hds hbS)
        have hnod := K0.nod m _ hl
        rw [hS] at hnod
        obtain ⟨n1, n2⟩ := List.nodup_cons.1 hnod
        have hsub : ((b, true) :: S').Sublist ((b, true) :: Sq) := h3.cons_cons _
        have W := wrH_ok (cs' := cs1v) H.wf hg (fam_of hg hg)
        obtain ⟨t', th', hg'⟩ := W.self
        obtain ⟨M, hk⟩ := H.set K0 (y' := .cells cs1) (S0 := (b, true) :: S') hl hbS (fun p hp => by rw [hS]; exact hsub.subset hp) (show (hds _).Nodup from List.Sublist.nodup (hsub.map Prod.fst) hnod) W.size W.wf W.same W.hds fun hm frz => by
         refine .cells hb (thr := b) (cs' := cs1v) ?_ (Nat.le_refl _) (h2.keep (T := fun x => x = b) H.wf W.same (fun _ h => h) frz hm fun x hx e => ?_)
         ·obtain ⟨c0, hroot⟩ := fam_root W.fam
          simp only at hroot
          rw [hg'] at hroot
          rw [hg', Option.some.injEq, AObj.cells.injEq] at *
          obtain ⟨_, _, e3, e4⟩ := hroot
          exact ⟨rfl, rfl, e3, e4⟩
         ·subst e; exact n1 ((h3.map Prod.fst).subset hx)
        refine Did.eff H hp hq hal (go _ _ _ _ _ rfl hrd h1 (wr_of hg (fam_of hg hg) hmine.1 hmine.1)) (nx_of H (.refl H) M hk (fun _ h => h) (by rw [W.size]; exact Nat.le_refl _) fun b' cs' hb' hr' => rd_same H.wf W.same (K0.apart m _ _ b' hl hbS hb') hr') (.j _)
         (raw_set H (.refl H) K0 hl (mem_hds hbS) W.same) hw
     ·exact hw.elim
    ·exact hw.elim
   ·rename_i m i q
    -- a row of which each cell may name an object
    have row : ∀ {y : TO} {b f t0 th0 thr z : Nat} {es : List (List TV)} {e e1 : List TV} {Sq : Ft} {cs : List Value} {S : Nat → Ft}, MO X ρ F o c h S → look o m = some y → S m = (f, true) :: Sq → ρ m = some (.arr b z es.length) → h.get b = some (.cells cs f t0 th0) → h.fam b = some (f, b, thr) → thr ≤ b → X.base ≤ f → 0 < z → cs.length = es.length * z →
     (∀ e ∈ es, e.length = z) → (∀ e ∈ es, ∀ t ∈ e, clT t = true) → i < es.length → e.length = z → av = .pointer (some ⟨b, i * z + q, none⟩) → CNs c ρ F h X.base Sq (es.set i e).flatten cs → setN e q (cellsT v) = some e1 → K .j (upd1 o m (.arq z es [(i, e1)])) c (.eff [m]) → Did E X ρ F o c af h p K := by
     intro y b f t0 th0 thr z es e e1 Sq cs S K0 hl hS hb hg hf htt hbf hz hlen hee hcl hi hez hav hc hset hw
     obtain ⟨S1, S2, S3, v1, v2, v3, rfl, rfl, a1, a2, a3⟩ := rows_split hee hi hc
     obtain ⟨v2', S2', h1, h2, h3⟩ := a2.setN hset hcr
     have e1l : v1.length = i * z := by
      have h1 := a1.len
      obtain ⟨e0, he0⟩ : ∃ e0, es[i]? = some e0 := ⟨_, List.getElem?_eq_getElem hi⟩
      have := (flatten_row hee he0).2
      rw [Nat.add_mul] at this
      rw [← h1, List.length_take]; omega
     have hset2 : setN (v1 ++ (v2 ++ v3)) (i * z + q) vv.cells.toList = some (v1 ++ (v2' ++ v3)) := by rw [← e1l]; exact setN_mid h1
     have hrd := rd_of hf htt (cellsOf_get hg)
     have hfS : (f, true) ∈ S m := by rw [hS]; exact List.mem_cons_self
     have hmine := K0.mine m _ f hl (mem_hds hfS)
     have hnod := K0.nod m _ hl
     rw [hS] at hnod
     obtain ⟨n1, n2⟩ := List.nodup_cons.1 hnod
     have hsub0 : (S1 ++ (S2' ++ S3)).Sublist (S1 ++ (S2 ++ S3)) := (h3.append_right S3).append_left S1
     have hsub : ((f, true) :: (S1 ++ (S2' ++ S3))).Sublist ((f, true) :: (S1 ++ (S2 ++ S3))) := hsub0.cons_cons _
     have hble : X.base ≤ b := by have := H.wf.le _ _ _ _ _ hg; omega
     have W := wrH_ok (cs' := v1 ++ (v2' ++ v3)) H.wf hg hf
     obtain ⟨t', th', hg'⟩ := W.self
     have e1z : e1.length = z := by rw [(setN_some hset).2.1]; exact hez
     have hl2 : v2'.length = v2.length := (setN_some h1).2.1
     obtain ⟨M, hk⟩ := H.set K0 (y' := .arq z es [(i, e1)]) (S0 := (f, true) :: (S1 ++ (S2' ++ S3))) hl hfS (fun p hp => by rw [hS]; exact hsub.subset hp) (show (hds _).Nodup from List.Sublist.nodup (hsub.map Prod.fst) hnod) W.size W.wf W.same W.hds fun hm frz => by
      refine .arq hb hg' W.fam (Nat.le_refl _) hbf hz (by rw [← hlen]; simp [hl2]) hee hcl (fun p hp => ?_) ((rows_join hee hi a1 h2 a3).keep (T := fun x => x = f) H.wf W.same (fun _ h => h) frz hm fun x hx e => ?_)
      ·simp only [List.mem_singleton] at hp; subst hp; exact ⟨hi, e1z⟩
      ·subst e; exact n1 ((hsub0.map Prod.fst).subset hx)
     refine Did.eff H hp hq hal (go _ _ _ _ _ hav hrd hset2 (wr_of hg hf hble hbf)) (nx_of H (.refl H) M hk (fun _ h => h) (by rw [W.size]; exact Nat.le_refl _) fun b' cs' hb' hr' => rd_same H.wf W.same (K0.apart m _ _ b' hl hfS hb') hr') (.j _)
      (raw_set H (.refl H) K0 hl (mem_hds hfS) W.same) hw
    split at hw
    ·rename_i l hl0 hfz
     split at hw
     ·rename_i z es hl
      obtain ⟨e, hee, hw⟩ := hw
      split at hw
      ·rename_i e1 hset
       obtain ⟨F1, Sh, sv⟩ := shares_ok (cellsT v) H
       have H1 := Sh.mem
       have hl1 := sv l _ hfz hcr
       obtain ⟨f1, f2⟩ := frzs_fz hfz
       obtain ⟨b, z1, l1, hb, rfl⟩ := wp_ptr H1 hl rfl (Sh.keep _ _ ha)
       obtain ⟨S, K1⟩ := H1.ex
       have hO := K1.objs m _ hl
       generalize hS : S m = Sm at hO
       cases hO with
       | nil hb' hz => rw [hb] at hb'; cases hb'
       | arr hb' hg hf htt hbf hz hlen' hee' hfz' hc' hF =>
        rename_i f t0 th0 thr cs
        rw [hb] at hb'; cases hb'
        have hE : ER c ρ F1 h z es cs := ⟨hlen', hee', hfz', hc'⟩
        have hrd := rd_of hf htt (cellsOf_get hg)
        have hi : i < es.length := (List.getElem?_eq_some_iff.1 hee).1
        have hez := hee' e (List.mem_of_getElem? hee)
        obtain ⟨s1, s2, s3⟩ := setN_some hset
        have hvl : vv.cells.toList.length = l.length := hl1.1.symm
        have hle : (i + 1) * z ≤ es.length * z := Nat.mul_le_mul_right z hi
        rw [Nat.add_mul] at hle
        obtain ⟨cs1, hcs1⟩ := setN_ex (n := i * z + q) (l := cs) (xs := vv.cells.toList) (by rw [hlen', hvl]; omega)
        obtain ⟨t1, t2, t3⟩ := setN_some hcs1
        have hfS : (f, true) ∈ S m := by rw [hS]; exact List.mem_cons_self
        have hmine := K1.mine m _ f hl (mem_hds hfS)
        have hble : X.base ≤ b := by
         have := H1.wf.le _ _ _ _ _ hg; omega
        have W := wrH_ok (cs' := cs1) H.wf hg hf
        obtain ⟨t', th', hg'⟩ := W.self
        have hE2 : ER c ρ F1 h z (es.set i e1) cs1 := by
         refine hE.setAt (i := i) (l := e1) (fun j => ?_) (by simp) hi (by rw [s2, hez]) (fun t ht => ?_) t2 (fun j t v q1 q2 => ?_) (fun k hk => ?_)
         ·rw [List.getElem?_set]
          by_cases ej : i = j
          ·subst ej; rw [if_pos rfl, if_pos rfl, if_pos hi]
          ·rw [if_neg ej, if_neg (fun e => ej e.symm)]
         ·obtain ⟨j, hj⟩ := List.getElem?_of_mem ht
          rw [s3] at hj
          split at hj
          ·exact f1 t (List.mem_of_getElem? hj)
          ·exact hfz' e (List.mem_of_getElem? hee) t (List.mem_of_getElem? hj)
         ·rw [s3] at q1
          rw [t3] at q2
          split at q1
          ·rename_i hj
           rw [if_pos ⟨by omega, by omega⟩] at q2
           exact hl1.2 (j - q) t v q1 (by rw [← q2]; congr 1; omega)
          ·rename_i hj
           rw [if_neg (by omega)] at q2
           exact hc' i j e t v hee q1 q2
         ·rw [t3, if_neg]
          rw [Nat.add_mul] at hk; omega
        obtain ⟨M, hk⟩ := H1.set K1 (y' := .arr z true (es.set i e1)) (S0 := [(f, true)]) hl hfS (fun p hp => by simp only [List.mem_singleton] at hp; subst hp; exact hfS) (by simp [hds]) W.size W.wf W.same W.hds fun hm _ =>
         OR.arr' (by simp [hb]) hg' W.fam (Nat.le_refl _) hbf hz (hE2.mono hm) (fun h => by cases h)
        refine Did.eff H hp hq hal (go _ _ _ _ _ rfl hrd hcs1 (wr_of hg hf hble hbf)) (nx_of H Sh M hk (fun _ h => h) (by rw [W.size]; exact Nat.le_refl _) fun b' cs' hb' hr' => rd_same H.wf W.same (K1.apart m _ _ b' hl hfS (Sh.FF _ hb')) hr') (.j _)
         (raw_set H Sh K1 hl (mem_hds hfS) W.same) hw
      ·exact hw.elim
     ·exact hw.elim
    ·rename_i z es hl hfz
     obtain ⟨e, hee, hw⟩ := hw
     split at hw
     ·rename_i e1 hset
      obtain ⟨b, z1, l1, hb, hav⟩ := wp_ptr H hl rfl ha
      obtain ⟨S, K0⟩ := H.ex
      have hO := K0.objs m _ hl
      generalize hS : S m = Sm at hO
      cases hO with
      | nil hb' hz => rw [hb] at hb'; cases hb'
      | arr hb' hg hf htt hbf hz hlen' hee' hfz' hc' hF =>
       rw [hb] at hb'; cases hb'
       have hi : i < es.length := (List.getElem?_eq_some_iff.1 hee).1
       refine row K0 hl hS hb hg hf htt hbf hz hlen' hee' (fun e he t ht => ?_) hi (hee' e (List.mem_of_getElem? hee)) hav (by rw [set_self hee]; exact CNs.ofVRs (VRs_flatten hlen' hee' hc')) hset hw
       have := hfz' e he t ht
       unfold clT; split <;> first | rfl | exact this
     ·exact hw.elim
    ·rename_i z es op hl
     obtain ⟨b, z1, l1, hb, hav⟩ := wp_ptr H hl rfl ha
     obtain ⟨S, K0⟩ := H.ex
     have hO := K0.objs m _ hl
     generalize hS : S m = Sm at hO
     cases hO with
     | qnil hb' hz => rw [hb] at hb'; cases hb'
     | arq hb' hg hf htt hbf hz hlen' hee' hcl hop hc' =>
      rw [hb] at hb'; cases hb'
      unfold welem at hw
      split at hw
      ·obtain ⟨e, hee, hw⟩ := hw
       split at hw
       ·rename_i e1 hset
        have hi : i < es.length := (List.getElem?_eq_some_iff.1 hee).1
        exact row K0 hl hS hb hg hf htt hbf hz hlen' hee' hcl hi (hee' e (List.mem_of_getElem? hee)) hav (by rw [set_self hee]; exact hc') hset hw
       ·exact hw.elim
      ·rename_i j ej
       obtain ⟨o1, o2⟩ := hop (j, ej) (by simp)
       by_cases eij : i = j
       ·subst eij
        have hw := hw.1 rfl
        simp only at hw
        split at hw
        ·rename_i e1 hset
         exact row K0 hl hS hb hg hf htt hbf hz hlen' hee' hcl o1 o2 hav hc' hset hw
        ·exact hw.elim
       ·obtain ⟨_, _, hw⟩ := hw.2 eij
        exact hw.elim
      ·exact hw.elim
    ·exact hw.elim
   ·exact hw.elim
def cmapUpdate (E : Env) (base : Nat) (t : TypeId) (m k v : Value) (h : AHeap) : Option (ARes × AHeap) := (amapUpdate E base h t m k v).bind fun h' => some (.val undef, h')
theorem map_setG (H : Mem X ρ F o c h) {F1 : Nat → Prop} {o1 : Ob} (Sh : ShOk X ρ c h F o F1 o1) {S : Nat → Ft} (K1 : MO X ρ F1 o1 c h S) {n : Nat} {y y' : TO} {b clock clock' : Nat} {ev ev1 : List MapEntry} {Sq S' : Ft} (hl : look o1 n = some y) (hS : S n = (b, true) :: Sq) (hg : h.get b = some (.map ev clock))
 (hsub : ∀ p ∈ S', p ∈ Sq) (hnd : (hds S').Nodup) {x : Value} {v : TV} (hp : apure E af p = none) (hq : aread E af p = none) (hal : aalloc E af p = none) (he : aeff E X.base af p h = some (.val x, h.put b (.map ev1 clock'))) (hv : ∀ c ρ F h, VR c ρ F h v x)
 (hor : ∀ h', (∀ t v, VR c ρ F1 h t v → VR c ρ F1 h' t v) → (∀ b', b' < h.size → ¬ (hd h b' = b) → h'.get b' = h.get b') → (∀ b cs, F1 b → h.rd b = some cs → h'.rd b = some cs) → h'.get b = some (.map ev1 clock') → (∀ x ∈ hds S', x ≠ b) → OR c ρ F1 h' X.base n ((b, true) :: S') y')
 (hK : K v (upd1 o1 n y') c (.eff [n])) : Did E X ρ F o c af h p K := by
 have H1 := Sh.mem
 have hbS : (b, true) ∈ S n := by rw [hS]; exact List.mem_cons_self
 have hnod := K1.nod n _ hl
 rw [hS] at hnod
 obtain ⟨n1, n2⟩ := List.nodup_cons.1 hnod
 have hnb : ∀ x ∈ hds S', x ≠ b := fun x hx e => by
  subst e
  obtain ⟨q, hq, e⟩ := List.mem_map.1 hx
  exact n1 (List.mem_map.2 ⟨q, hsub q hq, e⟩)
 have hdb : hd h b = b := by simp [hd, hg]
 have hget : ∀ x, (h.put b (.map ev1 clock')).get x = if x = b then some (.map ev1 clock') else h.get x := fun x => AHeap.get_put _ _ _ _
 have same : ∀ x, x < h.size → hd h x ≠ b → (h.put b (.map ev1 clock')).get x = h.get x := fun x _ hx => by
  rw [hget, if_neg]
  intro e; subst e; exact hx hdb
 have hds' : ∀ x, hd (h.put b (.map ev1 clock')) x = hd h x := fun x => by
  by_cases e : x = b
  ·subst e; rw [hdb]; unfold hd; rw [hget, if_pos rfl]
  ·unfold hd; rw [hget, if_neg e]
 have hwf : Wf (h.put b (.map ev1 clock')) := by
  have hbl := H.wf.lt hg
  refine ⟨fun x hx => ?_, fun x cs f t th hx => ?_⟩
  ·rw [AHeap.size_put] at hx
   rw [hget, if_neg (by omega)]; exact H.wf.high x hx
  ·rw [hget] at hx
   split at hx
   ·cases hx
   ·exact H.wf.le _ _ _ _ _ hx
 obtain ⟨M, hk⟩ := H1.set K1 (y' := y') (S0 := (b, true) :: S') hl hbS (fun p hp => by
  rw [hS]
  rcases List.mem_cons.1 hp with rfl | hp
  ·exact List.mem_cons_self
  ·exact List.mem_cons_of_mem _ (hsub p hp)) (List.nodup_cons.2 ⟨fun hx => hnb b hx rfl, hnd⟩) (AHeap.size_put _ _ _) hwf same hds' fun hm frz =>
  hor _ hm same frz (by rw [hget, if_pos rfl]) hnb
 exact Did.eff H hp hq hal he (nx_of H Sh M hk (fun _ h => h) (by rw [AHeap.size_put]; exact Nat.le_refl _) fun b' cs' hb' hr' => rd_same H.wf same (K1.apart n _ _ b' hl hbS (Sh.FF _ hb')) hr') (hv _ _ _ _)
  (raw_set H Sh K1 hl (mem_hds hbS) same) hK
theorem map_set (H : Mem X ρ F o c h) {F1 : Nat → Prop} {o1 : Ob} (Sh : ShOk X ρ c h F o F1 o1) {n kn : Nat} {es es1 : List (Value × TV)} {b clock clock' : Nat} {ev ev1 : List MapEntry} (hl : look o1 n = some (.map kn es)) (hb : ρ n = some (.blk b)) (hg : h.get b = some (.map ev clock))
 (hE : ERs c ρ F1 h kn es1 ev1) (hst : StL ev1 clock') {x : Value} {v : TV} (hp : apure E af p = none) (hq : aread E af p = none) (hal : aalloc E af p = none) (he : aeff E X.base af p h = some (.val x, h.put b (.map ev1 clock'))) (hv : ∀ c ρ F h, VR c ρ F h v x)
 (hK : K v (upd1 o1 n (.map kn es1)) c (.eff [n])) : Did E X ρ F o c af h p K := by
 obtain ⟨S, K1⟩ := Sh.mem.ex
 have hO := K1.objs n _ hl
 generalize hS : S n = Sm at hO
 cases hO with
 | map hb' hg' hl' hc' hst' =>
  rw [hb] at hb'; cases hb'
  exact map_setG H Sh K1 (S' := []) hl hS hg (by simp) (by simp [hds]) hp hq hal he hv (fun h' hm same frz hgn _ => .map hb hgn hE.1 (fun i e e' q1 q2 => let ⟨r1, r2, r3, r4⟩ := hE.2 i e e' q1 q2; ⟨r1, r2, r3, hm _ _ r4⟩) hst) hK
end
end Go.M
namespace Go.M
open Go
section
variable {T E : Env} {X : Cx} {ρ : Gh} {F : Nat → Prop} {o : Ob} {c : Nat} {af : AF} {f : Fr} {h : AHeap} {p : Oper} {K : OK}
theorem find_pos {kd : TypeDesc} {k : Value} {n : Nat} (hk : kindOk kd k n = true) : ∀ {es : List (Value × TV)} {es' : List MapEntry} (i : Nat), ERs c ρ F h n es es' →
 (Instr.findNow kd k es' i = some none ∧ (∀ v, putM es k v = es ++ [(k, v)]) ∧ delM es k = es) ∨
 ∃ j x, j < es.length ∧ Instr.findNow kd k es' i = some (some (i + j, x)) ∧ (∀ v, putM es k v = es.set j (k, v)) ∧ delM es k = es.eraseIdx j
 | [], es', i, H => by rw [H.inv_nil]; exact .inl ⟨rfl, fun _ => rfl, rfl⟩
 | e :: es, es', i, H => by
  obtain ⟨e', m, rfl, h1, h2, h3, h4, h5⟩ := H.inv_cons
  unfold Instr.findNow
  rw [h1, sameNow_keq hk h2.2]
  cases hq : keq k e.1 with
  | true => exact .inr ⟨0, e'.val, by simp, rfl, fun v => by simp [putM, hq], by simp [delM, hq]⟩
  | false =>
   simp only
   rcases find_pos hk (i + 1) h5 with ⟨q1, q2, q3⟩ | ⟨j, x, q0, q1, q2, q3⟩
   ·exact .inl ⟨q1, fun v => by simp [putM, hq, q2], by simp [delM, hq, q3]⟩
   ·exact .inr ⟨j + 1, x, by simp; omega, by rw [q1]; congr 3; omega, fun v => by simp [putM, hq, q2], by simp [delM, hq, q3]⟩
theorem ERs.mono {kn c' : Nat} {ρ' : Gh} {F' : Nat → Prop} {h' : AHeap} {es : List (Value × TV)} {ev : List MapEntry} (H : ERs c ρ F h kn es ev) (hm : ∀ t v, VR c ρ F h t v → VR c' ρ' F' h' t v) : ERs c' ρ' F' h' kn es ev :=
 ⟨H.1, fun i e e' q1 q2 => let ⟨r1, r2, r3, r4⟩ := H.2 i e e' q1 q2; ⟨r1, r2, r3, hm _ _ r4⟩⟩
theorem ERs.append1 {kn : Nat} {es : List (Value × TV)} {ev : List MapEntry} (H : ERs c ρ F h kn es ev) {k : Value} {v : TV} {x : Value} (hk : 0 < kn ∧ kcodeV k = kn) (hf : fzV v = true) (hv : VR c ρ F h v x) (b : Nat) : ERs c ρ F h kn (es ++ [(k, v)]) (ev ++ [{ key := k, val := x, born := b }]) := by
 refine ⟨by simp [H.1], fun i e e' q1 q2 => ?_⟩
 by_cases hi : i < es.length
 ·rw [List.getElem?_append_left hi] at q1
  rw [List.getElem?_append_left (by rw [← H.1]; exact hi)] at q2
  exact H.2 i e e' q1 q2
 ·rw [List.getElem?_append_right (by omega)] at q1
  rw [List.getElem?_append_right (by rw [← H.1]; omega), ← H.1] at q2
  have : i - es.length = 0 := by
   rcases Nat.eq_zero_or_pos (i - es.length) with h0 | h0
   ·exact h0
   ·rw [List.getElem?_eq_none (by simp; omega)] at q1; cases q1
  rw [this] at q1 q2
  simp at q1 q2
  subst q1; subst q2
  exact ⟨rfl, hk, hf, hv⟩
theorem ERs.set {kn : Nat} {es : List (Value × TV)} {ev : List MapEntry} (H : ERs c ρ F h kn es ev) {k : Value} {v : TV} {x : Value} (hk : 0 < kn ∧ kcodeV k = kn) (hf : fzV v = true) (hv : VR c ρ F h v x) (j : Nat) : ERs c ρ F h kn (es.set j (k, v)) (ev.modify j fun e => { e with key := k, val := x }) := by
 refine ⟨by simp [H.1], fun i e e' q1 q2 => ?_⟩
 rw [List.getElem?_set] at q1
 rw [List.getElem?_modify] at q2
 by_cases e0 : j = i
 ·subst e0
  rw [if_pos rfl] at q1
  split at q1
  ·cases q1
   cases hq : ev[j]? with
   | none => rw [hq] at q2; simp at q2
   | some a => rw [hq] at q2; simp at q2; subst q2; exact ⟨rfl, hk, hf, hv⟩
  ·cases q1
 ·rw [if_neg e0] at q1
  cases hq : ev[i]? with
  | none => rw [hq] at q2; simp at q2
  | some a =>
   rw [hq] at q2; simp [e0] at q2; subst q2
   exact H.2 i e _ q1 hq
theorem ERs.erase {kn : Nat} {es : List (Value × TV)} {ev : List MapEntry} (H : ERs c ρ F h kn es ev) (j : Nat) : ERs c ρ F h kn (es.eraseIdx j) (ev.eraseIdx j) := by
 refine ⟨by rw [List.length_eraseIdx, List.length_eraseIdx, H.1], fun i e e' q1 q2 => ?_⟩
 rw [List.getElem?_eraseIdx] at q1 q2
 split at q1
 ·rename_i hlt; rw [if_pos hlt] at q2; exact H.2 _ _ _ q1 q2
 ·rename_i hlt; rw [if_neg hlt] at q2; exact H.2 _ _ _ q1 q2
theorem StL.append1 {ev : List MapEntry} {clock : Nat} (H : StL ev clock) {k v : Value} : StL (ev ++ [{ key := k, val := v, born := clock }]) (clock + 1) := by
 refine ⟨fun x hx => ?_, ?_⟩
 ·rcases List.mem_append.1 hx with hx | hx
  ·have := H.1 x hx; omega
  ·simp at hx; subst hx; simp
 ·rw [List.map_append, List.nodup_append]
  refine ⟨H.2, by simp, fun a ha b hb => ?_⟩
  obtain ⟨x, hx, rfl⟩ := List.mem_map.1 ha
  simp at hb; subst hb
  have := H.1 x hx; omega
theorem StL.modify {ev : List MapEntry} {clock : Nat} (H : StL ev clock) (j : Nat) {f : MapEntry → MapEntry} (hf : ∀ e, (f e).born = e.born) : StL (ev.modify j f) clock := by
 have h1 : (ev.modify j f).map (·.born) = ev.map (·.born) := by
  apply List.ext_getElem?
  intro i
  rw [List.getElem?_map, List.getElem?_map, List.getElem?_modify]
  cases ev[i]? with
  | none => simp
  | some e => by_cases h : j = i <;> simp [h, hf]
 refine ⟨fun x hx => ?_, by rw [h1]; exact H.2⟩
 have : x.born ∈ (ev.modify j f).map (·.born) := List.mem_map.2 ⟨x, hx, rfl⟩
 rw [h1] at this
 obtain ⟨y, hy, e⟩ := List.mem_map.1 this
 rw [← e]; exact H.1 y hy
theorem StL.erase {ev : List MapEntry} {clock : Nat} (H : StL ev clock) (j : Nat) : StL (ev.eraseIdx j) clock :=
 ⟨fun x hx => H.1 x (List.mem_of_mem_eraseIdx hx), ((List.eraseIdx_sublist ev j).map _).nodup H.2⟩
theorem isAgg_rel {v : TV} {x : Value} (hv : VR c ρ F h v x) (ho : okV v = true) : isAggT v = isAggV x := by
 cases hv with
 | j => simp [okV, okC] at ho
 | tup => simp [okV, okC] at ho
 | sv => simp [okV, okC] at ho
 | s hp => cases x <;> first | rfl | simp [plain1] at hp
 | tk _ h1 => cases x <;> first | rfl | simp [slV] at h1
 | wp _ h1 => cases x <;> first | rfl | simp [ptV] at h1
 | _ => rfl
theorem putM_twice {kd : TypeDesc} {k : Value} {n : Nat} {v w : TV} (hk : kindOk kd k n = true) : ∀ {es : List (Value × TV)}, putM (putM es k w) k v = putM es k v
 | [] => by simp [putM, keq_refl hk]
 | e :: es => by
  cases hq : keq k e.1 with
  | true => simp [putM, hq, keq_refl hk]
  | false => simp [putM, hq, putM_twice hk]
theorem ENs.upd {base : Nat} {kd : TypeDesc} {k : Value} {n : Nat} (hk : kindOk kd k n = true) (hkn : 0 < n ∧ kcodeV k = n) {v : TV} {x : Value} (hv : CNs c ρ F h base [] (cellsT v) x.cells.toList) (ha : isAggT v = isAggV x) (b : Nat) : ∀ {M : List (Value × TV)} {ev : List MapEntry} {S : Ft} (i : Nat), ENs c ρ F h base n S M ev →
 (Instr.findNow kd k ev i = some none ∧ ENs c ρ F h base n S (putM M k v) (ev ++ [{ key := k, val := x, born := b }])) ∨
 ∃ j y S', Instr.findNow kd k ev i = some (some (i + j, y)) ∧ ENs c ρ F h base n S' (putM M k v) (ev.modify j fun e => { e with key := k, val := x }) ∧ S'.Sublist S
 | [], ev, S, i, H => by
  cases H
  exact .inl ⟨rfl, ENs.cons (e := (k, v)) (S := []) (S' := []) rfl hkn ha hv .nil⟩
 | e :: es, ev, S, i, H => by
  cases H with
  | cons hkey hkd ha' hv' hl =>
   rename_i Sa Sb e' m
   unfold Instr.findNow
   rw [hkey, sameNow_keq hk hkd.2]
   cases hq : keq k e.1 with
   | true =>
    refine .inr ⟨0, e'.val, Sb, rfl, ?_, List.sublist_append_right _ _⟩
    simp only [putM, hq]
    exact ENs.cons (e := (k, v)) (S := []) rfl hkn ha hv hl
   | false =>
    simp only [putM, hq]
    rcases ENs.upd hk hkn hv ha b (i + 1) hl with ⟨q1, q2⟩ | ⟨j, y, S', q1, q2, q3⟩
    ·exact .inl ⟨q1, .cons hkey hkd ha' hv' q2⟩
    ·exact .inr ⟨j + 1, y, Sa ++ S', by rw [q1]; congr 3; omega, .cons hkey hkd ha' hv' q2, q3.append_left _⟩
theorem ENs.del {base : Nat} {kd : TypeDesc} {k : Value} {n : Nat} (hk : kindOk kd k n = true) : ∀ {M : List (Value × TV)} {ev : List MapEntry} {S : Ft} (i : Nat), ENs c ρ F h base n S M ev →
 (Instr.findNow kd k ev i = some none ∧ delM M k = M) ∨
 ∃ j y S', Instr.findNow kd k ev i = some (some (i + j, y)) ∧ ENs c ρ F h base n S' (delM M k) (ev.eraseIdx j) ∧ S'.Sublist S
 | [], ev, S, i, H => by cases H; exact .inl ⟨rfl, rfl⟩
 | e :: es, ev, S, i, H => by
  cases H with
  | cons hkey hkd ha' hv' hl =>
   rename_i Sa Sb e' m
   unfold Instr.findNow
   rw [hkey, sameNow_keq hk hkd.2]
   cases hq : keq k e.1 with
   | true => exact .inr ⟨0, e'.val, Sb, rfl, by simp only [delM, hq]; exact hl, List.sublist_append_right _ _⟩
   | false =>
    simp only [delM, hq]
    rcases ENs.del hk (i + 1) hl with ⟨q1, q2⟩ | ⟨j, y, S', q1, q2, q3⟩
    ·exact .inl ⟨q1, by rw [q2]⟩
    ·exact .inr ⟨j + 1, y, Sa ++ S', by rw [q1]; congr 3; omega, .cons hkey hkd ha' hv' q2, q3.append_left _⟩
theorem delM_mem {k : Value} {e : Value × TV} : ∀ {es : List (Value × TV)}, e ∈ delM es k → e ∈ es
 | [], h => by simp [delM] at h
 | a :: l, h => by
  unfold delM at h
  split at h
  ·exact List.mem_cons_of_mem _ h
  ·rcases List.mem_cons.1 h with rfl | h
   ·exact List.mem_cons_self
   ·exact List.mem_cons_of_mem _ (delM_mem h)
theorem wmapUpdate_ok (L : EnvLe T E) (H : Mem X ρ F o c h) {t : TypeId} {m k v : TV} {mv kv vv : Value} (hw : wmapUpdate T t m k v o c K) (hm : VR c ρ F h m mv) (hk : VR c ρ F h k kv) (hv : VR c ρ F h v vv) (hp : apure E af p = none) (hq : aread E af p = none) (hal : aalloc E af p = none)
 (he : aeff E X.base af p h = cmapUpdate E X.base t mv kv vv h) : Did E X ρ F o c af h p K := by
 unfold wmapUpdate at hw
 split at hw
 ·rename_i kt elem hd
  split at hw
  ·rename_i kd kv' hkd
   have hkv := hk.inv_s.1
   subst hkv
   split at hw
   ·rename_i n
    have kfac : ∀ {kn}, kindOk kd kv kn = true → 0 < kn ∧ kcodeV kv = kn := fun {kn} hko => by
     unfold kindOk at hko
     simp only [Bool.and_eq_true, beq_iff, blt_iff] at hko
     exact ⟨hko.1.1, hko.2⟩
    have run : ∀ {kn b clock : Nat} {ev ev1 : List MapEntry} {cl1 : Nat}, kindOk kd kv kn = true → mv = .map (some b) → X.base ≤ b → h.get b = some (.map ev clock) →
     (∃ i, Instr.findNow kd kv ev 0 = some i ∧ (match i with | some (i, _) => ev1 = (ev.modify i fun e => { e with key := kv, val := vv }) ∧ cl1 = clock | none => ev1 = ev ++ [{ key := kv, val := vv, born := clock }] ∧ cl1 = clock + 1)) →
     aeff E X.base af p h = some (.val undef, h.put b (.map ev1 cl1)) := by
     rintro kn b clock ev ev1 cl1 hko rfl hbase hg ⟨i, hi, h2⟩
     obtain ⟨hs1, hs2⟩ := kindOk_scalar hko
     rw [he]
     unfold cmapUpdate amapUpdate
     rw [L.desc _ _ hd]
     simp only [Option.bind_some, L.desc _ _ hkd]
     rw [ble_iff.2 hbase, hs1, hs2, hg]
     simp only [Bool.and_self, grd, hi, Option.bind_some]
     cases i with
     | none => obtain ⟨rfl, rfl⟩ := h2; rfl
     | some i => obtain ⟨rfl, rfl⟩ := h2; rfl
    -- entries that name objects
    have named : ∀ {S : Nat → Ft} {y : TO} {kn b clock : Nat} {ev : List MapEntry} {es M : List (Value × TV)} {Sq : Ft}, MO X ρ F o c h S → look o n = some y → S n = (b, true) :: Sq → ρ n = some (.blk b) → h.get b = some (.map ev clock) → StL ev clock → kindOk kd kv kn = true → okV v = true → mv = .map (some b) →
     (∀ e ∈ es, ∀ t ∈ cellsT e.2, clT t = true) → ENs c ρ F h X.base kn Sq M ev → putM M kv v = putM es kv v → K .j (upd1 o n (.maq kn es [(kv, v)])) c (.eff [n]) → Did E X ρ F o c af h p K := by
     intro S y kn b clock ev es M Sq K0 hl hS hb hg hst hko hov hmv hcl hE hMe hw
     have hnod := K0.nod n _ hl
     rw [hS] at hnod
     obtain ⟨n1, n2⟩ := List.nodup_cons.1 hnod
     have hbase : X.base ≤ b := (K0.mine n _ b hl (by rw [hS]; exact List.mem_cons_self)).1
     rcases hE.upd hko (kfac hko) (CNs.ofVRs (cells_rel hv hov)) (isAgg_rel hv hov) clock 0 with ⟨q1, q2⟩ | ⟨j, x, S', q1, q2, q3⟩
     ·rw [hMe] at q2
      exact map_setG H (.refl H) K0 hl hS hg (fun _ h => h) n2 hp hq hal (run hko hmv hbase hg ⟨_, q1, rfl, rfl⟩) (fun _ _ _ _ => .j _) (fun h' hm same frz hgn hnb => .maq hb hgn hcl (q2.keep (T := fun x => x = b) H.wf same (fun _ h => h) frz hm hnb) hst.append1) hw
     ·rw [hMe] at q2
      exact map_setG H (.refl H) K0 hl hS hg (fun _ h => q3.subset h) ((q3.map Prod.fst).nodup n2) hp hq hal (run (ev1 := ev.modify j fun e => { e with key := kv, val := vv }) (cl1 := clock) hko hmv hbase hg ⟨_, q1, by simp, rfl⟩) (fun _ _ _ _ => .j _) (fun h' hm same frz hgn hnb => .maq hb hgn hcl (q2.keep (T := fun x => x = b) H.wf same (fun _ h => h) frz hm hnb) (hst.modify j fun _ => rfl)) hw
    split at hw
    ·rename_i kn es v' hl hfr
     split at hw
     ·rename_i hko
      have hov : okV v = true := by
       cases v <;> simp [frzV, frz] at hfr <;> rfl
      obtain ⟨F1, Sh, sv⟩ := frzV_ok H v hov
      obtain ⟨hv1, hfz⟩ := sv v' vv hfr hv
      obtain ⟨S, K0⟩ := H.ex
      have hO := K0.objs n _ hl
      have hmi := fun x hx => K0.mine n _ x hl hx
      generalize S n = Sm at hO hmi
      cases hO with
      | map hb hg hlen hc hst =>
       rename_i b clock ev
       have hE : ERs c ρ F1 h kn es ev := ERs.mono ⟨hlen, hc⟩ Sh.keep
       cases hm with
       | mp hb' =>
        rw [hb] at hb'; cases hb'
        obtain ⟨y1, k1, k2⟩ := Sh.wk n _ hl
        have : y1 = .map kn es := by cases y1 <;> simp [weak] at k2; obtain ⟨rfl, rfl⟩ := k2; rfl
        subst this
        have hbase : X.base ≤ b := (hmi b List.mem_cons_self).1
        rcases find_pos hko 0 hE with ⟨q1, q2, q3⟩ | ⟨j, x, q0, q1, q2, q3⟩
        ·refine map_set H Sh k1 hb hg (hE.append1 (kfac hko) hfz hv1 clock) hst.append1 hp hq hal (run hko rfl hbase hg ⟨_, q1, rfl, rfl⟩) (fun _ _ _ _ => .j _) ?_
         rw [q2] at hw; exact hw
        ·refine map_set H Sh k1 hb hg (hE.set (kfac hko) hfz hv1 j) (hst.modify j fun _ => rfl) hp hq hal (run hko rfl hbase hg ⟨_, q1, by simp, rfl⟩) (fun _ _ _ _ => .j _) ?_
         rw [q2] at hw; exact hw
     ·exact hw.elim
    ·rename_i kn es hl hfr
     split at hw
     ·rename_i hc0
      simp only [Bool.and_eq_true] at hc0
      obtain ⟨hko, hov⟩ := hc0
      obtain ⟨S, K0⟩ := H.ex
      have hO := K0.objs n _ hl
      generalize hS : S n = Sm at hO
      cases hO with
      | map hb hg hlen hc hst =>
       cases hm with
       | mp hb' =>
        rw [hb] at hb'; cases hb'
        have hcr := CR.fzes (base := X.base) hlen hc
        exact named K0 hl hS hb hg hst hko hov rfl (hcr.escl _ _ _ rfl) (ENs.ofCR hcr _ _ _ rfl) rfl hw
     ·exact hw.elim
    ·rename_i kn es hl
     split at hw
     ·rename_i hc0
      simp only [Bool.and_eq_true] at hc0
      obtain ⟨hko, hov⟩ := hc0
      obtain ⟨S, K0⟩ := H.ex
      have hO := K0.objs n _ hl
      generalize hS : S n = Sm at hO
      cases hO with
      | maq hb hg hcl hc hst =>
       cases hm with
       | mp hb' =>
        rw [hb] at hb'; cases hb'
        exact named K0 hl hS hb hg hst hko hov rfl hcl hc rfl hw
     ·exact hw.elim
    ·rename_i kn es k' w hl
     split at hw
     ·rename_i hc0
      simp only [Bool.and_eq_true] at hc0
      obtain ⟨hko, hov⟩ := hc0
      obtain ⟨rfl, hw⟩ := hw
      obtain ⟨S, K0⟩ := H.ex
      have hO := K0.objs n _ hl
      generalize hS : S n = Sm at hO
      cases hO with
      | maq hb hg hcl hc hst =>
       cases hm with
       | mp hb' =>
        rw [hb] at hb'; cases hb'
        exact named K0 hl hS hb hg hst hko hov rfl hcl hc (putM_twice hko) hw
     ·exact hw.elim
    ·exact hw.elim
   ·exact hw.elim
  ·exact hw.elim
 ·exact hw.elim
theorem wdelete_ok (L : EnvLe T E) (H : Mem X ρ F o c h) {t : TypeId} {m k : TV} {mv kv : Value} (hw : wdelete T t m k o c K) (hm : VR c ρ F h m mv) (hk : VR c ρ F h k kv) (hp : apure E af p = none) (hq : aread E af p = none) (hal : aalloc E af p = none)
 (he : aeff E X.base af p h = (adelete E X.base h t mv kv).bind fun r => some (.val r.1, r.2)) : Did E X ρ F o c af h p K := by
 have htup : ∀ (c : Nat) (ρ : Gh) (F : Nat → Prop) (h : AHeap), VR c ρ F h (.tup []) (.tuple #[]) := fun _ _ _ _ => .tup_of .nil
 unfold wdelete at hw
 split at hw
 ·rename_i kt elem hd
  split at hw
  ·rename_i kd kv' n hkd
   have hkv := hk.inv_s.1
   subst hkv
   have run : ∀ {kn b clock : Nat} {ev ev1 : List MapEntry}, kindOk kd kv kn = true → mv = .map (some b) → X.base ≤ b → h.get b = some (.map ev clock) → (∃ i, Instr.findNow kd kv ev 0 = some i ∧ ev1 = (match i with | some (i, _) => ev.eraseIdx i | none => ev)) → aeff E X.base af p h = some (.val (.tuple #[]), h.put b (.map ev1 clock)) := by
    rintro kn b clock ev ev1 hko rfl hbase hg ⟨i, hi, rfl⟩
    obtain ⟨hs1, hs2⟩ := kindOk_scalar hko
    rw [he]
    unfold adelete
    rw [L.desc _ _ hd]
    simp only [Option.bind_some, L.desc _ _ hkd]
    rw [ble_iff.2 hbase, hs1, hs2, hg]
    simp only [Bool.and_self, grd, hi, Option.bind_some]
    cases i <;> rfl
   obtain ⟨S, K0⟩ := H.ex
   split at hw
   ·rename_i kn es hl
    split at hw
    ·rename_i hko
     have hO := K0.objs n _ hl
     have hmi := fun x hx => K0.mine n _ x hl hx
     generalize S n = Sm at hO hmi
     cases hO with
     | map hb hg hlen hc hst =>
      rename_i b clock ev
      have hE : ERs c ρ F h kn es ev := ⟨hlen, hc⟩
      cases hm with
      | mp hb' =>
       rw [hb] at hb'; cases hb'
       have hbase : X.base ≤ b := (hmi b List.mem_cons_self).1
       rcases find_pos hko 0 hE with ⟨q1, q2, q3⟩ | ⟨j, x, q0, q1, q2, q3⟩
       ·refine map_set H (.refl H) hl hb hg hE hst hp hq hal (run (ev1 := ev) hko rfl hbase hg ⟨_, q1, rfl⟩) htup ?_
        rw [q3] at hw; exact hw
       ·refine map_set H (.refl H) hl hb hg (hE.erase j) (hst.erase j) hp hq hal (run (ev1 := ev.eraseIdx j) hko rfl hbase hg ⟨_, q1, by simp⟩) htup ?_
        rw [q3] at hw; exact hw
    ·exact hw.elim
   ·rename_i kn es hl
    split at hw
    ·rename_i hko
     have hO := K0.objs n _ hl
     have hmi := fun x hx => K0.mine n _ x hl hx
     have hnod := K0.nod n _ hl
     generalize hS : S n = Sm at hO hmi hnod
     cases hO with
     | maq hb hg hcl hc hst =>
      rename_i Sq b clock ev
      cases hm with
      | mp hb' =>
       rw [hb] at hb'; cases hb'
       have hbase : X.base ≤ b := (hmi b List.mem_cons_self).1
       obtain ⟨n1, n2⟩ := List.nodup_cons.1 hnod
       have hE : ENs c ρ F h X.base kn Sq es ev := hc
       rcases hE.del hko 0 with ⟨q1, q2⟩ | ⟨j, x, S', q1, q2, q3⟩
       ·rw [q2] at hw
        exact map_setG H (.refl H) K0 hl hS hg (fun _ h => h) n2 hp hq hal (run (ev1 := ev) hko rfl hbase hg ⟨_, q1, rfl⟩) htup (fun h' hm same frz hgn hnb => .maq hb hgn hcl (hE.keep (T := fun x => x = b) H.wf same (fun _ h => h) frz hm hnb) hst) hw
       ·exact map_setG H (.refl H) K0 hl hS hg (fun _ h => q3.subset h) ((q3.map Prod.fst).nodup n2) hp hq hal (run (ev1 := ev.eraseIdx j) hko rfl hbase hg ⟨_, q1, by simp⟩) htup (fun h' hm same frz hgn hnb => .maq hb hgn (fun e he => hcl e (delM_mem he)) (q2.keep (T := fun x => x = b) H.wf same (fun _ h => h) frz hm hnb) (hst.erase j)) hw
    ·exact hw.elim
   ·exact hw.elim
  ·exact hw.elim
 ·exact hw.elim
theorem wclear_ok (H : Mem X ρ F o c h) {t : TypeId} {n kn : Nat} {y : TO} {mv : Value} (hl : look o n = some y) (hy : (∃ es, y = .map kn es) ∨ ∃ es op, y = .maq kn es op) (hw : K (.tup []) (upd1 o n (.map kn [])) c (.eff [n])) (hm : VR c ρ F h (.mp n) mv) (hp : apure E af p = none) (hq : aread E af p = none) (hal : aalloc E af p = none)
 (hd : (E.desc t).isSome = true) (he : aeff E X.base af p h = ((E.desc t).bind fun _ => aclear E X.base h t mv).bind fun r => some (.val r.1, r.2)) : Did E X ρ F o c af h p K := by
 obtain ⟨S, K0⟩ := H.ex
 have hO := K0.objs n _ hl
 have hmi := fun x hx => K0.mine n _ x hl hx
 obtain ⟨d, hd⟩ := Option.isSome_iff_exists.1 hd
 have main : ∀ {b clock : Nat} {ev : List MapEntry} {Sq : Ft}, S n = (b, true) :: Sq → ρ n = some (.blk b) → h.get b = some (.map ev clock) → Did E X ρ F o c af h p K := by
  intro b clock ev Sq hS hb hg
  cases hm with
  | mp hb' =>
   rw [hb] at hb'; cases hb'
   have hbase : X.base ≤ b := (hmi b (by rw [hS]; exact List.mem_cons_self)).1
   refine map_setG H (.refl H) K0 (S' := []) (ev1 := []) (clock' := clock) hl hS hg (by simp) (by simp [hds]) hp hq hal ?_ (fun _ _ _ _ => .tup_of .nil) (fun h' hm same frz hgn hnb => .map hb hgn rfl (fun i e e' q => by simp at q) ⟨by simp, by simp⟩) hw
   rw [he, hd]
   unfold aclear
   simp only [Option.bind_some]
   rw [ble_iff.2 hbase, hg]
   rfl
 generalize hS : S n = Sm at hO
 rcases hy with ⟨es, rfl⟩ | ⟨es, op, rfl⟩
 ·cases hO with
  | map hb hg hlen hc hst => exact main hS hb hg
 ·cases hO with
  | maq hb hg hcl hc hst => exact main hS hb hg
theorem ER.take {z : Nat} {es : List (List TV)} {cs : List Value} (A : ER c ρ F h z es cs) {i : Nat} (hi : i ≤ es.length) : ER c ρ F h z (es.take i) (cs.take (i * z)) := by
 have hle : i * z ≤ es.length * z := Nat.mul_le_mul_right z hi
 refine ⟨by rw [List.length_take, List.length_take, A.len, Nat.min_eq_left hi, Nat.min_eq_left hle], fun e he => A.each e (List.mem_of_mem_take he), fun e he => A.fz e (List.mem_of_mem_take he), fun a b e t v q1 q2 q3 => ?_⟩
 rw [List.getElem?_take] at q1 q3
 split at q1
 ·split at q3
  ·exact A.cell a b e t v q1 q2 q3
  ·cases q3
 ·cases q1
theorem wclearS_ok (L : EnvLe T E) (H : Mem X ρ F o c h) {t elem : TypeId} {m i z : Nat} {zv xv : Value} {zs : List TV} {es : List (List TV)} (hd : T.desc t = some (.slice elem)) (hz : T.zero elem = some zv) (hl : look o m = some (.arr z true es)) (hzs : zcells zv = some zs)
 (hc : (zs.all fz && Nat.beq zs.length z && zs.all okC) = true) (hw : (es.length ≤ i → K (.tup []) o c (.eff [m])) ∧ (i < es.length → K (.tup []) (upd1 o m (.arr z true (es.take i ++ List.replicate (es.length - i) zs))) c (.eff [m])))
 (hx : VR c ρ F h (.sv m i) xv) (hp : apure E af p = none) (hq : aread E af p = none) (hal : aalloc E af p = none)
 (he : aeff E X.base af p h = ((E.desc t).bind fun _ => aclear E X.base h t xv).bind fun r => some (.val r.1, r.2)) : Did E X ρ F o c af h p K := by
 simp only [Bool.and_eq_true, beq_iff] at hc
 obtain ⟨⟨hfz, hzl⟩, hok⟩ := hc
 obtain ⟨hz', hpl⟩ := L.zero _ _ hz
 have hzr : VRs c ρ F h zs zv.cells.toList := zcells_rel hpl hzs
 have nop : ∀ a cap, xv = .slice a 0 cap → (a = none ∨ ∃ b q z1, a = some ⟨b, q, some z1⟩) → es.length ≤ i → Did E X ρ F o c af h p K := by
  rintro a cap rfl ha hle
  refine Did.eff H (v := .tup []) (x := .tuple #[]) hp hq hal ?_ (.refl H) (.tup_of .nil) (Raw.refl [m]) (hw.1 hle)
  rw [he, L.desc _ _ hd]
  rcases ha with rfl | ⟨b, q, z1, rfl⟩ <;> rfl
 obtain ⟨S, K0⟩ := H.ex
 have hO := K0.objs m _ hl
 generalize hS : S m = Sm at hO
 cases hx with
 | sv hn h1 ha h0 =>
  cases hO with
  | nil hb hz0 =>
   rcases h0 _ hb with rfl | ⟨b, o', z', cap, rfl⟩
   ·exact nop _ _ rfl (.inl rfl) (Nat.zero_le _)
   ·exact nop _ _ rfl (.inr ⟨_, _, _, rfl⟩) (Nat.zero_le _)
  | arr hb hg hf htt hbf hz0 hlen' hee' hfz' hc' hF =>
   rename_i b f t0 th0 thr cs
   obtain ⟨q, cap, rfl, hq'⟩ := ha _ _ _ hb
   by_cases hi : i < es.length
   ·obtain rfl := hq' hi
    have hE : ER c ρ F h z es cs := ⟨hlen', hee', hfz', hc'⟩
    have hrd := rd_of hf htt (cellsOf_get hg)
    have hR := ER.replicate hzr hzl hfz (es.length - i)
    have hRl := hR.len
    rw [List.length_replicate] at hRl
    have hiz : i * z + (es.length - i) * z = es.length * z := by rw [← Nat.add_mul]; congr 1; omega
    obtain ⟨cs1, hcs1⟩ := setN_ex (n := i * z) (l := cs) (xs := repeatL zv.cells.toList (es.length - i)) (by rw [hlen', hRl]; omega)
    have hcs2 : cs1 = cs.take (i * z) ++ repeatL zv.cells.toList (es.length - i) := by
     rw [setN_eq hcs1, List.drop_drop, List.drop_eq_nil_of_le (by rw [hlen', hRl]; omega), List.append_nil]
    have hE2 : ER c ρ F h z (es.take i ++ List.replicate (es.length - i) zs) cs1 := by rw [hcs2]; exact (hE.take (Nat.le_of_lt hi)).append hR
    have hfS : (f, true) ∈ S m := by rw [hS]; exact List.mem_cons_self
    have hmine := K0.mine m _ f hl (mem_hds hfS)
    have hble : X.base ≤ b := by have := H.wf.le _ _ _ _ _ hg; omega
    have W := wrH_ok (cs' := cs1) H.wf hg hf
    obtain ⟨t', th', hg'⟩ := W.self
    have hlen2 : (es.take i ++ List.replicate (es.length - i) zs).length = es.length := by simp; omega
    obtain ⟨M, hk⟩ := H.set K0 (y' := .arr z true (es.take i ++ List.replicate (es.length - i) zs)) (S0 := [(f, true)]) hl hfS (fun p hp => by simp only [List.mem_singleton] at hp; subst hp; exact hfS) (by simp [hds]) W.size W.wf W.same W.hds fun hm _ =>
     OR.arr' (by rw [hlen2]; exact hb) hg' W.fam (Nat.le_refl _) hbf hz0 (hE2.mono hm) (fun h => by cases h)
    refine Did.eff H (v := .tup []) (x := .tuple #[]) hp hq hal ?_ (nx_of H (.refl H) M hk (fun _ h => h) (by rw [W.size]; exact Nat.le_refl _) fun b' cs' hb' hr' => rd_same H.wf W.same (K0.apart m _ _ b' hl hfS hb') hr') (.tup_of .nil)
     (raw_set H (.refl H) K0 hl (mem_hds hfS) W.same) (hw.2 hi)
    rw [he, L.desc _ _ hd]
    unfold aclear
    simp only [Option.bind_some]
    have hn0 : Nat.beq (es.length - i) 0 = false := by
     cases hbq : Nat.beq (es.length - i) 0 with
     | false => rfl
     | true => have := beq_iff.1 hbq; omega
    rw [hn0]
    simp only [cond_false, L.desc _ _ hd, Option.bind_some, hz', okC_all hok hzr, grd, hrd, hcs1, wr_of hg hf hble hbf]
   ·exact nop _ _ (by rw [show es.length - i = 0 by omega]) (.inr ⟨_, _, _, rfl⟩) (by omega)
end
end Go.M
namespace Go.M
open Go
section
variable {T E : Env} {X : Cx} {ρ : Gh} {F : Nat → Prop} {o : Ob} {c : Nat} {af : AF} {f : Fr} {h : AHeap} {p : Oper} {K : OK}
theorem size_le {k bytes : Nat} (hk : k < 1048576) (hb : bytes < 1048576) : (k + 1) * (bytes + 1) ≤ 1099511627776 := by
 have h1 : (k + 1) * (bytes + 1) ≤ 1048576 * 1048576 := Nat.mul_le_mul hk hb
 exact h1
theorem Mem.newNilG (H : Mem X ρ F o c h) {z : Nat} {y : TO} (hor : ∀ (c : Nat) (ρ : Gh) (F : Nat → Prop) (n : Nat), ρ n = some (.nil z) → OR c ρ F h X.base n [] y) : Mem X (updG ρ c (some (.nil z))) F ((c, y) :: o) (c + 1) h ∧ ∀ t v, VR c ρ F h t v → VR (c + 1) (updG ρ c (some (.nil z))) F h t v := by
 obtain ⟨S, K⟩ := H.ex
 refine H.change K (fun _ => False) c y [] (Nat.le_refl _) H.wf (fun _ hf => hf.elim) (fun _ _ _ => rfl) (fun _ _ _ hr => hr) (fun _ _ => rfl) (fun _ hb => hb) (fun _ hb hn => absurd hb hn) (by omega) (H.upd_A _) (H.upd_B _) (H.upd_N _)
  (fun m y' hne hl => ?_) (fun y' hl => ?_) (hor _ _ _ _ (updG_self _ _ _)) (by simp [hds]) (by simp [hds]) (by simp)
 ·rw [look_cons, if_neg (fun e => hne e.symm)] at hl
  exact ⟨hl, updG_ne _ _ hne, fun _ _ hf => hf.elim⟩
 ·rw [look_cons, if_pos rfl, Option.some.injEq] at hl; exact hl.symm
theorem Mem.newNil (H : Mem X ρ F o c h) {z : Nat} (hz : 0 < z) : Mem X (updG ρ c (some (.nil z))) F ((c, .arr z true []) :: o) (c + 1) h ∧ ∀ t v, VR c ρ F h t v → VR (c + 1) (updG ρ c (some (.nil z))) F h t v :=
 H.newNilG fun c ρ F n hn => .nil hn hz
theorem Mem.moveG (H : Mem X ρ F o c h) {S : Nat → Ft} (K : MO X ρ F o c h S) {m z l b0 : Nat} {y y' : TO} {S0 : Ft} {h' : AHeap} (hl : look o m = some y) (hb : ρ m = some (.arr b0 z l)) (hsz : h.size ≤ h'.size) (hwf : Wf h') (same : ∀ b, b < h.size → h'.get b = h.get b)
 (frz : ∀ b cs, F b → h.rd b = some cs → h'.rd b = some cs) (hsub : ∀ p ∈ S0, p ∈ S m ∨ p.1 = h.size) (hnd : (hds S0).Nodup) (hlt : ∀ x ∈ hds S0, x < h'.size) (fl : Bool) (hfl : fl = true → (h'.rd h.size).isSome = true ∧ hd h' h.size = h.size ∧ ∀ x, (x, true) ∈ S0 → h.size ≠ x) {q : Loc} (hq : ∀ b, q ≠ .blk b)
 (hor : (∀ t v, VR c ρ F h t v → VR (c + 1) (updG (updG ρ m none) c (some q)) (fun x => F x ∨ (fl = true ∧ x = h.size)) h' t v) → OR (c + 1) (updG (updG ρ m none) c (some q)) (fun x => F x ∨ (fl = true ∧ x = h.size)) h' X.base c S0 y') :
 Mem X (updG (updG ρ m none) c (some q)) (fun x => F x ∨ (fl = true ∧ x = h.size)) ((c, y') :: drop1 o m) (c + 1) h' ∧ ∀ t v, VR c ρ F h t v → VR (c + 1) (updG (updG ρ m none) c (some q)) (fun x => F x ∨ (fl = true ∧ x = h.size)) h' t v := by
 have hm := H.lt hl
 have hρ : ∀ n, n ≠ m → n ≠ c → updG (updG ρ m none) c (some q) n = ρ n := fun n h1 h2 => by rw [updG_ne _ _ h2, updG_ne _ _ h1]
 have hA : ∀ n l', n < c → updG (updG ρ m none) c (some q) n = some l' → ρ n = some l' := fun n l' hn h1 => by
  by_cases e : n = m
  ·subst e; rw [updG_ne _ _ (by omega), updG_self] at h1; cases h1
  ·rwa [hρ n e (by omega)] at h1
 have hB : ∀ n b', ρ n = some (.blk b') → updG (updG ρ m none) c (some q) n = some (.blk b') := fun n b' hn => by
  have := H.names _ _ hn
  by_cases e : n = m
  ·subst e; rw [hb] at hn; cases hn
  ·rwa [hρ n e (by omega)]
 have hmono : ∀ t v, VR c ρ F h t v → VR (c + 1) (updG (updG ρ m none) c (some q)) (fun x => F x ∨ (fl = true ∧ x = h.size)) h' t v := fun t v => VR.mono (by omega) hA hB (fun _ hb => .inl hb) frz
 have hdrop : ∀ n y1, n ≠ c → look ((c, y') :: drop1 o m) n = some y1 → n ≠ m ∧ look o n = some y1 := fun n y hne hy => by
  rw [look_cons, if_neg (fun e => hne e.symm), look_drop1] at hy
  by_cases e : n = m
  ·rw [if_pos e] at hy; cases hy
  ·rw [if_neg e] at hy; exact ⟨e, hy⟩
 have hin : ∀ x ∈ hds S0, x ∈ hds (S m) ∨ x = h.size := fun x hx => by
  obtain ⟨p, hp, rfl⟩ := List.mem_map.1 hx
  rcases hsub p hp with h1 | e
  ·exact .inl (List.mem_map.2 ⟨p, h1, rfl⟩)
  ·exact .inr e
 refine H.change K (fun _ => False) c y' S0 hsz hwf (fun _ hf => hf.elim) (fun b hb _ => same b hb) frz (fun b hb => by unfold hd; rw [same b hb]) (fun _ hb => .inl hb) (fun b hb hn => ?_) (by omega) hA hB (fun n l' hn => ?_)
  (fun n y' hne hy => ?_) (fun y' hy => ?_) (hor hmono) hnd (fun x hx => ?_) fun x b hx hb => ?_
 ·rcases hb with hb | ⟨hf, rfl⟩
  ·exact absurd hb hn
  ·obtain ⟨g1, g2, g3⟩ := hfl hf
   refine ⟨g1, fun n y1 x hne hy hx e => ?_, fun x hx => by rw [g2]; exact g3 x hx, .inr (by rw [g2]; exact H.evo.size)⟩
   rw [g2] at e; subst e
   have := (K.mine n y1 _ (hdrop n y1 hne hy).2 (mem_hds hx)).2.1
   omega
 ·by_cases e : n = c
  ·omega
  ·by_cases e2 : n = m
   ·omega
   ·rw [hρ n e2 e] at hn; have := H.names _ _ hn; omega
 ·obtain ⟨h1, h2⟩ := hdrop n y' hne hy
  exact ⟨h2, hρ n h1 hne, fun _ _ hf => hf.elim⟩
 ·rw [look_cons, if_pos rfl, Option.some.injEq] at hy; exact hy.symm
 ·rcases hin x hx with h1 | rfl
  ·obtain ⟨q1, q2, q3⟩ := K.mine m y x hl h1
   refine ⟨q1, hlt x hx, q3, fun n y1 hne hy hh => ?_⟩
   obtain ⟨h3, h4⟩ := hdrop n y1 hne hy
   exact h3 (K.heads n m y1 _ _ h4 hl hh h1)
  ·refine ⟨H.bsz, hlt _ hx, .inr H.evo.size, fun n y1 hne hy hh => ?_⟩
   obtain ⟨h3, h4⟩ := hdrop n y1 hne hy
   have := (K.mine n y1 _ h4 hh).2.1
   omega
 ·rcases hsub _ hx with h1 | e
  ·exact K.apart m y x b hl h1 hb
  ·simp only at e
   subst e
   have := H.wf.hd_le b
   have := H.Flt hb
   omega
theorem OR.named {base m n c' : Nat} {ρ' : Gh} {S : Ft} {y : TO} (W : Wf h) (H : OR c ρ F h base m S y) (hm : ∀ t v, VR c ρ F h t v → VR c' ρ' F h t v) (hρ : ρ' n = ρ m) : OR c' ρ' F h base n S y := by
 have kk : ∀ {S : Ft} {l : List TV} {vs : List Value}, CNs c ρ F h base S l vs → CNs c' ρ' F h base S l vs := fun hc => hc.keep (T := fun _ => False) W (fun _ _ _ => rfl) (fun _ h => h) (fun _ _ _ h => h) hm (fun _ _ hf => hf.elim)
 cases H with
 | cells hb hg ht hc => exact .cells (hρ.trans hb) hg ht (kk hc)
 | map hb hg hl hc hst => exact .map (hρ.trans hb) hg hl (fun i e e' h1 h2 => let ⟨q1, q2, q3, q4⟩ := hc i e e' h1 h2; ⟨q1, q2, q3, hm _ _ q4⟩) hst
 | nil hb hz => exact .nil (hρ.trans hb) hz
 | arr hb hg hf ht hbf hz hl he hfz hc hF => exact .arr (hρ.trans hb) hg hf ht hbf hz hl he hfz (fun i j e t v q1 q2 q3 => hm _ _ (hc i j e t v q1 q2 q3)) hF
 | qnil hb hz => exact .qnil (hρ.trans hb) hz
 | arq hb hg hf ht hbf hz hl he hcl hop hc => exact .arq (hρ.trans hb) hg hf ht hbf hz hl he hcl hop (kk hc)
 | maq hb hg hcl hc hst => exact .maq (hρ.trans hb) hg hcl (hc.keep (T := fun _ => False) W (fun _ _ _ => rfl) (fun _ h => h) (fun _ _ _ h => h) hm (fun _ _ hf => hf.elim)) hst
 | bag hb hg => exact .bag (hρ.trans hb) hg
theorem Mem.rename (H : Mem X ρ F o c h) {m z : Nat} {y : TO} (hl : look o m = some y) {b l : Nat} (hb : ρ m = some (.arr b z l)) :
 Mem X (updG (updG ρ m none) c (some (.arr b z l))) F ((c, y) :: drop1 o m) (c + 1) h ∧ ∀ t v, VR c ρ F h t v → VR (c + 1) (updG (updG ρ m none) c (some (.arr b z l))) F h t v := by
 obtain ⟨S, K⟩ := H.ex
 have e : (fun x => F x ∨ (false = true ∧ x = h.size)) = F := by funext x; simp
 have := H.moveG K (S0 := S m) (y' := y) (q := .arr b z l) hl hb (Nat.le_refl _) H.wf (fun _ _ => rfl) (fun _ _ _ h => h) (fun p hp => .inl hp) (K.nod m y hl) (fun x hx => (K.mine m y x hl hx).2.1) false (fun h => by cases h) (by simp) fun hm => by
  rw [e] at hm ⊢
  exact (K.objs m y hl).named H.wf hm ((updG_self _ _ _).trans hb.symm)
 rwa [e] at this
theorem content_rel (H : Mem X ρ F o c h) {x : TV} {zx n : Nat} {xs : List (List TV)} {op : List (Nat × List TV)} (he : esQ o x = some (zx, xs, op)) (hz : zx = n ∨ zx = 0 ∧ op = []) (hop : ∀ p ∈ op, p.2.all plainC = true) {xv : Value} (hx : VR c ρ F h x xv) :
 lenV xv = some xs.length ∧ (∀ p ∈ op, p.1 < xs.length ∧ p.2.length = n) ∧ (∀ e ∈ xs, ∀ t ∈ e, fz t = true) ∧ (xs = [] ∨ ∃ new, firstV h n xs.length xv = some new ∧ (op = [] → ER c ρ F h n xs new) ∧ new.length = xs.length * n ∧ (∀ e ∈ xs, e.length = n) ∧ VRs c ρ F h (apOp xs op).flatten new) := by
 have done : ∀ {xs : List (List TV)} {new : List Value}, ER c ρ F h n xs new → firstV h n xs.length xv = some new → lenV xv = some xs.length → lenV xv = some xs.length ∧ (∀ p ∈ ([] : List (Nat × List TV)), p.1 < xs.length ∧ p.2.length = n) ∧ (∀ e ∈ xs, ∀ t ∈ e, fz t = true) ∧ (xs = [] ∨ ∃ new, firstV h n xs.length xv = some new ∧ (([] : List (Nat × List TV)) = [] → ER c ρ F h n xs new) ∧ new.length = xs.length * n ∧ (∀ e ∈ xs, e.length = n) ∧ VRs c ρ F h (apOp xs []).flatten new) :=
  fun E h1 h2 => ⟨h2, by simp, E.fz, .inr ⟨_, h1, fun _ => E, E.len, E.each, VRs_flatten E.len E.each E.cell⟩⟩
 unfold esQ at he
 split at he
 ·rename_i m
  split at he
  ·rename_i z w es hl
   cases he
   obtain ⟨Sm, hO⟩ := H.objs hl
   cases hx with
   | tk hn h1c ha h0 =>
    cases hO with
    | nil hb hz' =>
     rcases h0 _ hb with rfl | ⟨b, o', cs, q1, q2, q3, q4, rfl⟩
     ·exact ⟨rfl, by simp, by simp, .inl rfl⟩
     ·exact ⟨rfl, by simp, by simp, .inl rfl⟩
    | arr hb hg hf ht hbf hz' hlen he hfz hc hF =>
     rename_i b f t0 th0 thr cs
     obtain ⟨cap, h1, rfl⟩ := ha _ _ _ hb
     have hzn : zx = n := by omega
     subst hzn
     refine done ⟨hlen, he, hfz, hc⟩ ?_ rfl
     simp only [firstV, M.readCells, rd_of hf ht (cellsOf_get hg), Option.bind_some, List.drop_zero, takeN_some]
     rw [← hlen]; simp
  ·rename_i z es op' hl
   split at he
   ·rename_i hall
    cases he
    obtain ⟨Sm, hO⟩ := H.objs hl
    have hfz : ∀ e ∈ xs, ∀ t ∈ e, fz t = true := fun e he t ht => List.all_eq_true.1 (List.all_eq_true.1 hall e he) t ht
    cases hx with
    | tk hn h1c ha h0 =>
     cases hO with
     | qnil hb hz' =>
      rcases h0 _ hb with rfl | ⟨b, o', cs, q1, q2, q3, q4, rfl⟩
      ·exact ⟨rfl, by simp, by simp, .inl rfl⟩
      ·exact ⟨rfl, by simp, by simp, .inl rfl⟩
     | arq hb hg hf ht hbf hz' hlen he hcl hop' hc =>
      rename_i b f t0 th0 thr cs
      obtain ⟨cap, h1, rfl⟩ := ha _ _ _ hb
      have hzn : zx = n := by omega
      subst hzn
      have hpl : (apOp xs op).flatten.all plainC = true := by
       rw [List.all_eq_true]
       intro t ht
       obtain ⟨e, h1, h2⟩ := List.mem_flatten.1 ht
       have key : ∀ (op : List (Nat × List TV)), (∀ p ∈ op, p.2.all plainC = true) → e ∈ apOp xs op → plainC t = true := by
        intro op
        induction op with
        | nil => intro _ h1; have := hfz e h1 t h2; cases t <;> first | rfl | simp [fz] at this
        | cons p l ih =>
         intro hop h1
         rcases List.mem_or_eq_of_mem_set h1 with h3 | rfl
         ·exact ih (fun q hq => hop q (List.mem_cons_of_mem _ hq)) h3
         ·exact List.all_eq_true.1 (hop p List.mem_cons_self) t h2
       exact key op hop h1
      obtain ⟨hV, _⟩ := hc.vrs (fun t v hv hf => hv.fzmono hf) hpl
      refine ⟨rfl, hop', hfz, .inr ⟨cs, ?_, fun e => ?_, hlen, he, hV⟩⟩
      ·simp only [firstV, M.readCells, rd_of hf ht (cellsOf_get hg), Option.bind_some, List.drop_zero, takeN_some]
       rw [← hlen]; simp
      ·subst e
       refine ⟨hlen, he, hfz, fun i j e t v q1 q2 q3 => ?_⟩
       obtain ⟨f1, f2⟩ := flatten_row he q1
       refine hV.2 (i * zx + j) t v ?_ q3
       show xs.flatten[i * zx + j]? = some t
       have hj : j < zx := by rw [← he e (List.mem_of_getElem? q1)]; exact (List.getElem?_eq_some_iff.1 q2).1
       rw [← f1, List.getElem?_take, if_pos hj, List.getElem?_drop] at q2
       exact q2
   ·cases he
  ·cases he
 ·cases he
  cases hx with
  | nil h1 => subst h1; exact ⟨rfl, by simp, by simp, .inl rfl⟩
  | sl q1 q2 q3 q4 q5 q6 q7 q8 q9 q10 =>
   rename_i b oo len cap cs
   have hzn : zx = n := by omega
   subst hzn
   refine done (new := (cs.drop oo).take (xs.length * zx)) ⟨by simp; rw [← q4] at q7; omega, q8, q9, fun i j e t v r1 r2 r3 => ?_⟩ ?_ (by simp [lenV, q4])
   ·rw [List.getElem?_take] at r3
    split at r3
    ·rw [List.getElem?_drop] at r3
     exact q10 i j e t v r1 r2 (by rw [← r3]; congr 1; omega)
    ·cases r3
   ·simp only [firstV, M.readCells, q2, Option.bind_some, takeN_some, and_true, List.length_drop]
    rw [← q4] at q7; omega
 ·cases he
theorem ER.oneC {z : Nat} {es : List (List TV)} {cs : List Value} (A : ER c ρ F h z es cs) (hz : 0 < z) : cs.all M.oneC = true := by
 rw [List.all_eq_true]
 intro v hv
 obtain ⟨k, hk⟩ := List.getElem?_of_mem hv
 have hkl : k < cs.length := (List.getElem?_eq_some_iff.1 hk).1
 rw [A.len] at hkl
 have hi : k / z < es.length := by
  rw [Nat.div_lt_iff_lt_mul hz]; exact hkl
 obtain ⟨e, he⟩ : ∃ e, es[k / z]? = some e := ⟨_, List.getElem?_eq_getElem hi⟩
 have hel := A.each e (List.mem_of_getElem? he)
 have hj : k % z < e.length := by rw [hel]; exact Nat.mod_lt _ hz
 obtain ⟨t, ht⟩ : ∃ t, e[k % z]? = some t := ⟨_, List.getElem?_eq_getElem hj⟩
 have hkk : k / z * z + k % z = k := by rw [Nat.mul_comm]; exact Nat.div_add_mod k z
 have hvr := A.cell (k / z) (k % z) e t v he ht (by rw [hkk]; exact hk)
 have hfz := A.fz e (List.mem_of_getElem? he) t (List.mem_of_getElem? ht)
 have hoc : okC t = true := by
  cases t <;> simp [M.fz] at hfz <;> rfl
 exact okC_one hoc hvr
def cappend (E : Env) (base : Nat) (st xt : TypeId) (s x : Value) (h : AHeap) : Option (ARes × AHeap) := (aappend E base h st xt s x).bind fun r => some (.val r.1, r.2)
structure AppT (E : Env) (st xt elem n bytes : Nat) : Prop where
 sd : E.desc st = some (.slice elem)
 xd : ∃ e, E.desc xt = some (.slice e)
 size : E.size elem = some n
 bytes : E.bytes elem = some bytes
 zero : ∃ z, E.zero elem = some z ∧ z.cells.size = n
theorem app_none {base st xt elem n bytes : Nat} (A : AppT E st xt elem n bytes) {s x : Value} (hs : slV s = true) (hs0 : ∀ l k, s = .slice none l k → l = 0 ∧ k = 0) (hs1 : ∀ b oo sp l k, s = .slice (some ⟨b, oo, sp⟩) l k → sp.isSome) (hx : lenV x = some 0) : aappend E base h st xt s x = some (s, h) := by
 obtain ⟨e, hxd⟩ := A.xd
 obtain ⟨z, hz1, hz2⟩ := A.zero
 unfold aappend
 rw [A.sd, hxd]
 simp only [Option.bind_some, A.size, A.bytes, hz1, hx]
 simp only [isIntT, hz2, grd]
 cases s <;> simp [slV] at hs
 rename_i a l k
 cases a with
 | none => obtain ⟨rfl, rfl⟩ := hs0 l k rfl; simp
 | some a =>
  obtain ⟨b, oo, sp⟩ := a
  have := hs1 b oo sp l k rfl
  cases sp with
  | none => simp at this
  | some q => simp
theorem app_nil {base st xt elem n bytes len : Nat} (A : AppT E st xt elem n bytes) {x : Value} {new : List Value} (hx : lenV x = some len) (hl : len ≠ 0) (hb : (len + 1) * (bytes + 1) ≤ 1099511627776) (hf : firstV h n len x = some new) (hn : new.length = len * n) :
 aappend E base h st xt (.slice none 0 0) x = some (fresh h new n len) := by
 obtain ⟨e, hxd⟩ := A.xd
 obtain ⟨z, hz1, hz2⟩ := A.zero
 unfold aappend
 rw [A.sd, hxd]
 simp only [Option.bind_some, A.size, A.bytes, hz1, hx]
 simp only [isIntT, hz2, grd]
 simp [nbeq, hl, ble_iff.2 hb, hf, hn]
theorem app_full {base st xt elem n bytes len b oo sl : Nat} (A : AppT E st xt elem n bytes) {x : Value} {old new : List Value} (hx : lenV x = some len) (hl : len ≠ 0) (hb : (sl + len + 1) * (bytes + 1) ≤ 1099511627776) (hf : firstV h n len x = some new) (hn : new.length = len * n)
 (ho : M.readCells h b oo (sl * n) = some old) : aappend E base h st xt (.slice (some ⟨b, oo, some n⟩) sl sl) x = some (fresh h (old ++ new) n (sl + len)) := by
 obtain ⟨e, hxd⟩ := A.xd
 obtain ⟨z, hz1, hz2⟩ := A.zero
 unfold aappend
 rw [A.sd, hxd]
 simp only [Option.bind_some, A.size, A.bytes, hz1, hx]
 simp only [isIntT, hz2, grd]
 simp [nbeq, hl, ble_iff.2 hb, hf, hn, ho]
theorem app_ext {base st xt elem n bytes len b sl cap f thr : Nat} (A : AppT E st xt elem n bytes) {x : Value} {old new cs : List Value} (hx : lenV x = some len) (hl : len ≠ 0) (hb : (sl + len + 1) * (bytes + 1) ≤ 1099511627776) (hf : firstV h n len x = some new) (hn : new.length = len * n)
 (ho : M.readCells h b 0 (sl * n) = some old) (hcap : cap ≠ sl) (hc : h.cellsOf b = some cs) (hfam : h.fam b = some (f, b, thr)) (hbf : base ≤ f) (hcl : sl * n = cs.length) (hone : new.all oneC = true) :
 aappend E base h st xt (.slice (some ⟨b, 0, some n⟩) sl cap) x = some (.slice (some ⟨h.size, 0, some n⟩) (sl + len) (sl + len + 1), extH h f thr (old ++ new)) := by
 obtain ⟨e, hxd⟩ := A.xd
 obtain ⟨z, hz1, hz2⟩ := A.zero
 unfold aappend
 rw [A.sd, hxd]
 simp only [Option.bind_some, A.size, A.bytes, hz1, hx]
 simp only [isIntT, hz2, grd]
 have h1 : new.all oneC = true := hone
 simp [nbeq, hl, ble_iff.2 hb, hf, hn, ho, hcap, hc, hfam, ble_iff.2 hbf, hcl]
 rw [← hcl, ho, h1]
 rfl
theorem Mem.flag {n : Nat} {xs : List (List TV)} {o1 : Ob} (H : Mem X ρ F ((c, .arr n true xs) :: o1) (c + 1) h) (w : Bool) : ∃ F', Mem X ρ F' ((c, .arr n w xs) :: o1) (c + 1) h ∧ (∀ t v, VR (c + 1) ρ F h t v → VR (c + 1) ρ F' h t v) ∧ ∀ b, F b → F' b := by
 cases w with
 | true => exact ⟨F, H, fun _ _ h => h, fun _ h => h⟩
 | false =>
  obtain ⟨F', h1, h2, h3, _⟩ := H.share c
  refine ⟨F', h1.less fun m y hl => ?_, h2, h3⟩
  have : shareO ((c, TO.arr n true xs) :: o1) c = upd1 ((c, TO.arr n true xs) :: o1) c (.arr n false xs) := by
   unfold shareO; rw [look_cons, if_pos rfl]
  rw [this, look_upd1]
  rw [look_cons] at hl
  by_cases e : m = c
  ·subst e
   rw [if_pos rfl, look_cons, if_pos rfl]
   rw [if_pos rfl] at hl
   simpa using hl
  ·rw [if_neg e, look_cons, if_neg (fun e2 => e e2.symm)]
   rwa [if_neg (fun e2 => e e2.symm)] at hl
theorem raw_drop (H : Mem X ρ F o c h) {m : Nat} {y : TO} {l : Option Loc} : ∀ n yn, look o n = some yn → n ∉ [m] → (∃ y', look ((c, y) :: drop1 o m) n = some y') ∧ updG (updG ρ m none) c l n = ρ n := by
 intro n yn hn hne
 have hne' : n ≠ m := by simpa using hne
 have := H.lt hn
 exact ⟨⟨yn, by rw [look_cons, if_neg (by omega), look_drop1, if_neg hne']; exact hn⟩, by rw [updG_ne _ _ (by omega), updG_ne _ _ hne']⟩
theorem shift_ap (es xs : List (List TV)) : ∀ (op : List (Nat × List TV)), apOp (es ++ xs) (shiftOp es.length op) = es ++ apOp xs op
 | [] => rfl
 | p :: l => by
  show (apOp (es ++ xs) (shiftOp es.length l)).set (es.length + p.1) p.2 = es ++ (apOp xs l).set p.1 p.2
  rw [shift_ap es xs l, List.set_append_right _ _ (by omega), Nat.add_sub_cancel_left]
theorem VRs.oneC' {l : List TV} {m : List Value} (H : VRs c ρ F h l m) (ho : ∀ t ∈ l, okC t = true) : m.all M.oneC = true := okC_all (List.all_eq_true.2 ho) H
theorem app_empty (H : Mem X ρ F o c h) {st xt elem : TypeId} {n bytes : Nat} {xs : List (List TV)} {op : List (Nat × List TV)} {sv xv : Value} {F1 : Nat → Prop} {o1 : Ob} {ρ1 : Gh} {y1 y2 : TO} {ns : List Nat} (A : AppT E st xt elem n bytes) (hn0 : 0 < n) (hlen : lenV xv = some xs.length)
 (hcont : xs = [] ∨ ∃ new, firstV h n xs.length xv = some new ∧ (op = [] → ER c ρ F h n xs new) ∧ new.length = xs.length * n ∧ (∀ e ∈ xs, e.length = n) ∧ VRs c ρ F h (apOp xs op).flatten new)
 (fin : ∀ v h', aappend E X.base h st xt sv xv = some (v, h') → aeff E X.base af p h = some (.val v, h')) (hp : apure E af p = none) (hq : aread E af p = none) (hal : aalloc E af p = none)
 (M1 : Mem X ρ1 F1 o1 c h) (k1 : ∀ t v, VR c ρ F h t v → VR c ρ1 F1 h t v) (f1 : ∀ b, F b → F1 b) (w1 : ∀ m y, look o m = some y → m ∉ ns → (∃ y', look o1 m = some y') ∧ ρ1 m = ρ m)
 (hsv : sv = .slice none 0 0 ∨ ∃ b oo cs, F b ∧ h.rd b = some cs ∧ oo ≤ cs.length ∧ sv = .slice (some ⟨b, oo, some n⟩) 0 0) (hbd : (xs.length + 1) * (bytes + 1) ≤ 1099511627776)
 (hnil : xs = [] → ∀ (c : Nat) (ρ : Gh) (F : Nat → Prop) (m : Nat), ρ m = some (.nil n) → OR c ρ F h X.base m [] y1)
 (hnew : ∀ new, (op = [] → ER c ρ1 F1 h n xs new) → new.length = xs.length * n → (∀ e ∈ xs, e.length = n) → VRs c ρ1 F1 h (apOp xs op).flatten new → Mem X (updG ρ1 c (some (.arr h.size n xs.length))) F1 ((c, y1) :: o1) (c + 1) (h.push (.cells new h.size h.size 0)) ∧ ∀ t v, VR c ρ1 F1 h t v → VR (c + 1) (updG ρ1 c (some (.arr h.size n xs.length))) F1 (h.push (.cells new h.size h.size 0)) t v)
 (fl : ∀ {ρ1 : Gh} {F1 : Nat → Prop} {h1 : AHeap}, Mem X ρ1 F1 ((c, y1) :: o1) (c + 1) h1 → ∃ F', Mem X ρ1 F' ((c, y2) :: o1) (c + 1) h1 ∧ (∀ t v, VR (c + 1) ρ1 F1 h1 t v → VR (c + 1) ρ1 F' h1 t v) ∧ ∀ b, F1 b → F' b)
 (hK : K (.tk c) ((c, y2) :: o1) (c + 1) (.eff ns)) : Did E X ρ F o c af h p K := by
 have cs0 : ∀ m y, look o m = some y → m ≠ c := fun m y hl => by have := H.lt hl; omega
 by_cases hx0 : xs.length = 0
 ·have hxe : xs = [] := List.length_eq_zero_iff.1 hx0
  obtain ⟨M2, k2⟩ := M1.newNilG (y := y1) (z := n) (hnil hxe)
  obtain ⟨F3, M3, k3, f3⟩ := fl M2
  have hap : aappend E X.base h st xt sv xv = some (sv, h) := by
   refine app_none A ?_ ?_ ?_ (by rw [hlen, hx0])
   ·rcases hsv with rfl | ⟨b, oo, cs, _, _, _, rfl⟩ <;> rfl
   ·rintro l k e; rcases hsv with rfl | ⟨b, oo, cs, _, _, _, rfl⟩ <;> cases e; exact ⟨rfl, rfl⟩
   ·rintro b oo sp l k e; rcases hsv with rfl | ⟨b, oo, cs, _, _, _, rfl⟩ <;> cases e; rfl
  refine Did.eff H hp hq hal (fin _ _ hap) ⟨M3, fun t x hx => k3 t x (k2 t x (k1 t x hx)), Nat.le_refl _, fun b hb => f3 b (f1 b hb), fun _ _ _ hr => hr⟩ ?_ (fun m y hl hm => ⟨?_, ?_, fun b _ => ⟨rfl, fun _ hr => hr⟩⟩) hK
  ·refine .tk (by omega) (by rcases hsv with rfl | ⟨b, oo, cs, _, _, _, rfl⟩ <;> rfl) (fun b z len hx => ?_) (fun z hx => ?_)
   ·rw [updG_self] at hx; cases hx
   ·rw [updG_self] at hx; cases hx
    rcases hsv with rfl | ⟨b, oo, cs, q1, q2, q3, rfl⟩
    ·exact .inl rfl
    ·exact .inr ⟨b, oo, cs, f3 _ (f1 _ q1), q2, hn0, q3, rfl⟩
  ·rw [look_cons, if_neg (cs0 m y hl).symm]; exact (w1 m y hl hm).1
  ·rw [updG_ne _ _ (cs0 m y hl)]; exact (w1 m y hl hm).2
 ·rcases hcont with e | ⟨new, hnw, hE, hnl, hez, hV⟩
  ·subst e; simp at hx0
  ·obtain ⟨M2, k2⟩ := hnew new (fun e => (hE e).mono k1) hnl hez (hV.mono' k1)
   obtain ⟨F3, M3, k3, f3⟩ := fl M2
   have hap : aappend E X.base h st xt sv xv = some (fresh h new n xs.length) := by
    rcases hsv with rfl | ⟨b, oo, cs, _, q2, q3, rfl⟩
    ·exact app_nil A hlen hx0 hbd hnw hnl
    ·have := app_full (base := X.base) (sl := 0) (old := []) (b := b) (oo := oo) A hlen hx0 (by simpa using hbd) hnw hnl (by simp [M.readCells, q2, takeN])
     simpa using this
   refine Did.eff H hp hq hal (fin _ _ hap) ⟨M3, fun t x hx => k3 t x (k2 t x (k1 t x hx)), by show h.size ≤ h.size + 1; omega, fun b hb => f3 b (f1 b hb), fun b cs hb hr => (rd_push H.wf.le _ (H.Flt hb)).trans hr⟩ ?_ (fun m y hl hm => ⟨?_, ?_, fun b hb => ?_⟩) hK
   ·refine .tk (by omega) rfl (fun b z len hx => ?_) (fun z hx => ?_)
    ·rw [updG_self] at hx; cases hx; exact ⟨_, by omega, rfl⟩
    ·rw [updG_self] at hx; cases hx
   ·rw [look_cons, if_neg (cs0 m y hl).symm]; exact (w1 m y hl hm).1
   ·rw [updG_ne _ _ (cs0 m y hl)]; exact (w1 m y hl hm).2
   ·have := H.atB_lt hl hb
    exact ⟨by rw [AHeap.get_push, if_neg (by omega)], fun cs hr => by rw [rd_push H.wf.le _ this]; exact hr⟩
theorem app_tk (H : Mem X ρ F o c h) {st xt elem : TypeId} {z bytes : Nat} {xs : List (List TV)} {xv : Value} {S : Nat → Ft} (K0 : MO X ρ F o c h S) {m b f t0 th0 thr len cap : Nat} {w : Bool} {y y2 : TO} {Sq : Ft} {cs new : List Value} (A : AppT E st xt elem z bytes) (hlen : lenV xv = some xs.length) (hx0 : xs.length ≠ 0)
 (fin : ∀ v h', aappend E X.base h st xt (.slice (some ⟨b, 0, some z⟩) len cap) xv = some (v, h') → aeff E X.base af p h = some (.val v, h')) (hp : apure E af p = none) (hq : aread E af p = none) (hal : aalloc E af p = none)
 (hl : look o m = some y) (hS : S m = (f, w) :: Sq) (hb : ρ m = some (.arr b z len)) (hg : h.get b = some (.cells cs f t0 th0)) (hf : h.fam b = some (f, b, thr)) (ht : thr ≤ b) (hbf : X.base ≤ f) (hz : 0 < z) (hlc : cs.length = len * z) (hcap : len ≤ cap)
 (hbd : (len + xs.length + 1) * (bytes + 1) ≤ 1099511627776) (hnw : firstV h z xs.length xv = some new) (hnl : new.length = xs.length * z) (hone : new.all oneC = true) (hw : w = true ∨ Sq = [])
 (hor : ∀ {c' : Nat} {ρ' : Gh} {F' : Nat → Prop} {h' : AHeap} {b' f' t1 th1 thr1 : Nat} {T : Nat → Prop}, (∀ t v, VR c ρ F h t v → VR c' ρ' F' h' t v) → (∀ b, F b → F' b) → (∀ b cs, F b → h.rd b = some cs → h'.rd b = some cs) → (∀ b, b < h.size → ¬ T (hd h b) → h'.get b = h.get b) → (∀ x ∈ hds Sq, ¬ T x) →
  ρ' c = some (.arr b' z (len + xs.length)) → h'.get b' = some (.cells (cs ++ new) f' t1 th1) → h'.fam b' = some (f', b', thr1) → thr1 ≤ b' → X.base ≤ f' → (w = false → F' b') → OR c' ρ' F' h' X.base c ((f', w) :: Sq) y2)
 (hK : K (.tk c) ((c, y2) :: drop1 o m) (c + 1) (.eff [m])) : Did E X ρ F o c af h p K := by
 have hrd := rd_of hf ht (cellsOf_get hg)
 have hro : M.readCells h b 0 (len * z) = some cs := by
  simp only [M.readCells, hrd, Option.bind_some, List.drop_zero, takeN_some]
  rw [← hlc]; simp
 obtain ⟨c0, hroot⟩ := fam_root hf
 simp only at hroot
 have hfS : f ∈ hds (S m) := by rw [hS]; exact List.mem_cons_self
 have hnod := K0.nod m _ hl
 rw [hS] at hnod
 obtain ⟨n1, n2⟩ := List.nodup_cons.1 hnod
 by_cases hcl : cap = len
 ·subst hcl
  have hap := app_full (base := X.base) A hlen hx0 hbd hnw hnl hro
  have hgN : (h.push (.cells (cs ++ new) h.size h.size 0)).get h.size = some (.cells (cs ++ new) h.size h.size 0) := by rw [AHeap.get_push, if_pos rfl]
  have frz : ∀ b cs', F b → h.rd b = some cs' → (h.push (.cells (cs ++ new) h.size h.size 0)).rd b = some cs' := fun b cs' hb hr => (rd_push H.wf.le _ (H.Flt hb)).trans hr
  have sameN : ∀ b, b < h.size → (h.push (.cells (cs ++ new) h.size h.size 0)).get b = h.get b := fun b hb => by rw [AHeap.get_push, if_neg (by omega)]
  have fin2 : ∀ F3, (∀ b, F b → F3 b) → Mem X (updG (updG ρ m none) c (some (.arr h.size z (cap + xs.length)))) F3 ((c, y2) :: drop1 o m) (c + 1) (h.push (.cells (cs ++ new) h.size h.size 0)) → (∀ t x, VR c ρ F h t x → VR (c + 1) (updG (updG ρ m none) c (some (.arr h.size z (cap + xs.length)))) F3 (h.push (.cells (cs ++ new) h.size h.size 0)) t x) → Did E X ρ F o c af h p K := by
   intro F3 f3 M3 k3
   refine Did.eff H hp hq hal (fin _ _ hap) ⟨M3, k3, by show h.size ≤ h.size + 1; omega, f3, frz⟩ ?_ (fun n y hln hne => ?_) hK
   ·refine .tk (by omega) rfl (fun b' z' len hx => ?_) (fun z hx => ?_)
    ·rw [updG_self] at hx; cases hx
     exact ⟨cap + xs.length + 1, by omega, by simp [fresh]⟩
    ·rw [updG_self] at hx; cases hx
   ·obtain ⟨q1, q2⟩ := raw_drop H (y := y2) (l := some (.arr h.size z (cap + xs.length))) n y hln hne
    have hlt := fun b' hb' => H.atB_lt (b := b') hln hb'
    exact ⟨q1, q2, fun b' hb' => ⟨sameN b' (hlt b' hb'), fun cs hr => (rd_push H.wf.le _ (hlt b' hb')).trans hr⟩⟩
  have hwfN : Wf (h.push (.cells (cs ++ new) h.size h.size 0)) := H.wf.push fun cs f tip thr e => by cases e; exact Nat.le_refl _
  obtain ⟨M3, k3⟩ := H.moveG K0 (S0 := (h.size, w) :: Sq) (y' := y2) (q := .arr h.size z (cap + xs.length)) (h' := h.push (.cells (cs ++ new) h.size h.size 0)) hl hb (by rw [AHeap.size_push]; omega) hwfN sameN frz (fun p hp => by
   rcases List.mem_cons.1 hp with rfl | hp
   ·exact .inr rfl
   ·rw [hS]; exact .inl (List.mem_cons_of_mem _ hp)) (List.nodup_cons.2 ⟨fun hx => by
    have := (K0.mine m _ h.size hl (by rw [hS]; exact List.mem_cons_of_mem _ hx)).2.1
    omega, n2⟩) (fun x hx => by
    rw [AHeap.size_push]
    rcases List.mem_cons.1 hx with rfl | hx
    ·simp
    ·have := (K0.mine m _ x hl (by rw [hS]; exact List.mem_cons_of_mem _ hx)).2.1
     omega) (!w) (fun hw' => by
    have hwf : w = false := by simpa using hw'
    subst hwf
    have hSq : Sq = [] := by rcases hw with h | h; cases h; exact h
    subst hSq
    exact ⟨by rw [rd_of (fam_of hgN hgN) (Nat.zero_le _) (cellsOf_get hgN)]; rfl, hd_get hgN, by simp⟩) (by simp) fun hm =>
   hor (T := fun _ => False) hm (fun _ h => .inl h) frz (fun b hb _ => sameN b hb) (fun _ _ hf => hf.elim) (updG_self _ _ _) hgN (fam_of hgN hgN) (Nat.zero_le _) H.bsz (fun h => .inr ⟨by simp [h], rfl⟩)
  exact fin2 _ (fun _ h => .inl h) M3 k3
 ·have hap := app_ext (base := X.base) (cap := cap) A hlen hx0 hbd hnw hnl hro hcl (cellsOf_get hg) hf hbf hlc.symm hone
  obtain ⟨M2, k2⟩ := H.growG K0 (len' := len + xs.length) (cs' := cs ++ new) (y' := y2) hl hS hb hg hf ht fun hm same frz hgc hfc =>
   hor (T := fun x => x = f) hm (fun _ h => .inl h) frz same (fun x hx e => n1 (by subst e; exact hx)) (updG_self _ _ _) hgc hfc (by have := H.wf.lt hg; omega) hbf (fun hw => .inr ⟨hw, rfl⟩)
  refine Did.eff H hp hq hal (fin _ _ hap) ⟨M2, k2, by rw [ext_size]; omega, fun _ h => .inl h, fun _ _ _ hr => ext_rd H.wf hroot hr⟩ ?_ (fun n y hln hne => ?_) hK
  ·refine .tk (by omega) rfl (fun b' z' len hx => ?_) (fun z hx => ?_)
   ·rw [updG_self] at hx; cases hx
    exact ⟨_, by omega, rfl⟩
   ·rw [updG_self] at hx; cases hx
  ·obtain ⟨q1, q2⟩ := raw_drop H (y := y2) (l := some (.arr h.size z (len + xs.length))) n y hln hne
   have hne' : n ≠ m := by simpa using hne
   refine ⟨q1, q2, fun b' hb' => ?_⟩
   obtain ⟨hlt, hh⟩ := H.atB_hd K0 hln hb'
   refine ⟨?_, fun cs hr => ext_rd H.wf hroot hr⟩
   rw [ext_get hroot, if_neg (by omega), if_neg]
   intro e; subst e
   rw [hd_get hroot] at hh
   exact hne' (K0.heads n m _ _ _ hln hl hh hfS)
theorem wappend_ok (L : EnvLe T E) (H : Mem X ρ F o c h) {st xt : TypeId} {s x : TV} {sv xv : Value} (hw : wappend T st xt s x o c K) (hs : VR c ρ F h s sv) (hx : VR c ρ F h x xv) (hp : apure E af p = none) (hq : aread E af p = none) (hal : aalloc E af p = none)
 (he : aeff E X.base af p h = cappend E X.base st xt sv xv h) : Did E X ρ F o c af h p K := by
 have fin : ∀ v h', aappend E X.base h st xt sv xv = some (v, h') → aeff E X.base af p h = some (.val v, h') := fun v h' hh => by rw [he]; unfold cappend; rw [hh]; rfl
 have w0 : ∀ m y, look o m = some y → m ∉ ([] : List Nat) → (∃ y', look o m = some y') ∧ ρ m = ρ m := fun m y hl _ => ⟨⟨y, hl⟩, rfl⟩
 -- a slice without elements
 have emp : ∀ {z n : Nat}, z = n ∨ z = 0 → VR c ρ F h (.sl z [] true) sv → sv = .slice none 0 0 ∨ ∃ b oo cs, F b ∧ h.rd b = some cs ∧ oo ≤ cs.length ∧ sv = .slice (some ⟨b, oo, some n⟩) 0 0 := by
  intro z n hz hs
  cases hs with
  | nil => exact .inl rfl
  | sl q1 q2 q3 q4 q5 q6 q7 q8 q9 q10 =>
   have hzn : z = n := by omega
   subst hzn
   simp at q4
   subst q4
   rw [q6 rfl]
   exact .inr ⟨_, _, _, q1, q2, by omega, rfl⟩
 have flq : ∀ {y : TO} {o1 : Ob} {ρ1 : Gh} {F1 : Nat → Prop} {h1 : AHeap}, Mem X ρ1 F1 ((c, y) :: o1) (c + 1) h1 → ∃ F', Mem X ρ1 F' ((c, y) :: o1) (c + 1) h1 ∧ (∀ t v, VR (c + 1) ρ1 F1 h1 t v → VR (c + 1) ρ1 F' h1 t v) ∧ ∀ b, F1 b → F' b :=
  fun {y o1 ρ1 F1 h1} M => ⟨F1, M, fun _ _ h => h, fun _ h => h⟩
 have closed : ∀ {e : List TV}, (∀ t ∈ e, fz t = true) → ∀ t ∈ e, clT t = true := fun {e} he t ht => by
  have := he t ht
  unfold clT; split <;> first | rfl | exact this
 unfold wappend at hw
 split at hw
 ·rename_i elem xelem hsd hxd
  split at hw
  ·rename_i n bytes z0 zx xs hn hby hz0 hes
   split at hw
   ·rename_i hc
    simp only [Bool.and_eq_true, beq_iff, blt_iff, Bool.or_eq_true] at hc
    obtain ⟨⟨⟨hz0n, hn0⟩, hzx⟩, hby0⟩ := hc
    have size : ∀ {k : Nat}, k < 1048576 → (k + 1) * (bytes + 1) ≤ 1099511627776 := fun {k} hk => size_le hk hby0
    have A : AppT E st xt elem n bytes := ⟨L.desc _ _ hsd, ⟨_, L.desc _ _ hxd⟩, L.size _ _ hn, L.bytes _ _ hby, _, (L.zero _ _ hz0).1, hz0n⟩
    obtain ⟨hlen, _, hxf, hcont⟩ := content_rel H hes (hzx.imp id fun h => ⟨h, rfl⟩) (by simp) hx
    have newA : ∀ {ρ1 : Gh} {F1 : Nat → Prop} {o1 : Ob}, Mem X ρ1 F1 o1 c h → ∀ new, (([] : List (Nat × List TV)) = [] → ER c ρ1 F1 h n xs new) → new.length = xs.length * n → (∀ e ∈ xs, e.length = n) → VRs c ρ1 F1 h (apOp xs []).flatten new → Mem X (updG ρ1 c (some (.arr h.size n xs.length))) F1 ((c, .arr n true xs) :: o1) (c + 1) (h.push (.cells new h.size h.size 0)) ∧ ∀ t v, VR c ρ1 F1 h t v → VR (c + 1) (updG ρ1 c (some (.arr h.size n xs.length))) F1 (h.push (.cells new h.size h.size 0)) t v :=
     fun M1 new hE _ _ _ => M1.newArr (hE rfl) hn0
    split at hw
    ·rename_i z
     split at hw
     ·rename_i hz
      simp only [Bool.or_eq_true, beq_iff] at hz
      obtain ⟨hbd, hK⟩ := hw
      exact app_empty H A hn0 hlen hcont fin hp hq hal H (fun _ _ h => h) (fun _ h => h) w0 (emp hz hs) (size hbd) (fun e c ρ F m hm => by subst e; exact .nil hm hn0) (newA H) flq hK
     ·exact hw.elim
    ·rename_i m
     split at hw
     ·rename_i z w es hl
      split at hw
      ·rename_i hz
       rw [beq_iff] at hz
       subst hz
       obtain ⟨hbd0, hK⟩ := hw
       have hbd := size hbd0
       obtain ⟨S, K0⟩ := H.ex
       have hO := K0.objs m _ hl
       generalize hS : S m = Sm at hO
       have htk := hO.tk rfl hs
       cases hO with
       | nil hb hz' =>
        rcases htk with ⟨_, _, hsv⟩ | ⟨b, cap, h1, _⟩
        ·obtain ⟨M1, k1⟩ := H.gone hl rfl
         refine app_empty H (ns := [m]) (y1 := .arr z true xs) (y2 := .arr z w xs) A hn0 hlen hcont fin hp hq hal M1 k1 (fun _ h => h) (fun n y hln hne => ?_) (hsv.imp id fun ⟨b, o', cs, q1, q2, q3, q4, q5⟩ => ⟨b, o', cs, q1, q2, q4, q5⟩) (by simpa using hbd) (fun e c ρ F m hm => by subst e; exact .nil hm hn0) (newA M1) (fun M => M.flag w) (by simpa using hK)
         have hne' : n ≠ m := by simpa using hne
         exact ⟨⟨y, by rw [look_drop1, if_neg hne']; exact hln⟩, updG_ne _ _ hne'⟩
        ·rw [hb] at h1; cases h1
       | arr hb hg hf ht hbf hz' hlen' hee hfz hc hF =>
        rename_i b f t0 th0 thr cs
        rcases htk with ⟨_, h1, _⟩ | ⟨b', cap, h1, hcap, rfl⟩
        ·rw [hb] at h1; cases h1
        ·rw [hb] at h1; cases h1
         by_cases hx0 : xs.length = 0
         ·have hxe : xs = [] := List.length_eq_zero_iff.1 hx0
          subst hxe
          obtain ⟨M2, k2⟩ := H.rename hl hb
          have hap : aappend E X.base h st xt (.slice (some ⟨b, 0, some z⟩) es.length cap) xv = some (.slice (some ⟨b, 0, some z⟩) es.length cap, h) :=
           app_none A rfl (by rintro l k e; cases e) (by rintro b oo sp l k e; cases e; rfl) hlen
          rw [List.append_nil] at hK
          refine Did.eff H hp hq hal (fin _ _ hap) ⟨M2, k2, Nat.le_refl _, fun _ h => h, fun _ _ _ hr => hr⟩ ?_ (fun n y hln hne => ?_) hK
          ·refine .tk (by omega) rfl (fun b' z' len hx => ?_) (fun z hx => ?_)
           ·rw [updG_self] at hx; cases hx; exact ⟨_, hcap, rfl⟩
           ·rw [updG_self] at hx; cases hx
          ·obtain ⟨q1, q2⟩ := raw_drop H (y := .arr z w es) (l := some (.arr b z es.length)) n y hln hne
           exact ⟨q1, q2, fun b' _ => ⟨rfl, fun _ hr => hr⟩⟩
         ·rcases hcont with e | ⟨new, hnew, hE, hnl, hez, hV⟩
          ·subst e; simp at hx0
          ·have hEE : ER c ρ F h z (es ++ xs) (cs ++ new) := ER.append ⟨hlen', hee, hfz, hc⟩ (hE rfl)
           refine app_tk H K0 (y2 := .arr z w (es ++ xs)) A hlen hx0 fin hp hq hal hl hS hb hg hf ht hbf hz' hlen' hcap hbd hnew hnl ((hE rfl).oneC hz') (.inr rfl) (fun hm hFF frz same hT hρ' hg' hf' ht' hbf' hF' => ?_) hK
           exact OR.arr' (by rw [List.length_append]; exact hρ') hg' hf' ht' hbf' hz' (hEE.mono hm) hF'
      ·exact hw.elim
     ·rename_i z es hl
      split at hw
      ·rename_i hz
       rw [beq_iff] at hz
       subst hz
       obtain ⟨hbd0, hK⟩ := hw
       have hbd := size hbd0
       obtain ⟨S, K0⟩ := H.ex
       have hO := K0.objs m _ hl
       generalize hS : S m = Sm at hO
       have htk := hO.tk rfl hs
       cases hO with
       | qnil hb hz' =>
        rcases htk with ⟨_, _, hsv⟩ | ⟨b, cap, h1, _⟩
        ·obtain ⟨M1, k1⟩ := H.gone hl rfl
         refine app_empty H (ns := [m]) (y1 := .arq z xs []) (y2 := .arq z xs []) A hn0 hlen hcont fin hp hq hal M1 k1 (fun _ h => h) (fun n y hln hne => ?_) (hsv.imp id fun ⟨b, o', cs, q1, q2, q3, q4, q5⟩ => ⟨b, o', cs, q1, q2, q4, q5⟩) (by simpa using hbd) (fun e c ρ F m hm => by subst e; exact .qnil hm hn0) (fun new hE h1 h2 h3 => ?_) flq (by simpa using hK)
         ·have hne' : n ≠ m := by simpa using hne
          exact ⟨⟨y, by rw [look_drop1, if_neg hne']; exact hln⟩, updG_ne _ _ hne'⟩
         ·exact M1.newArq ⟨h1, h2, fun e he => closed (hxf e he), by simp, CNs.ofVRs h3⟩ hn0
        ·rw [hb] at h1; cases h1
       | arq hb hg hf ht hbf hz' hlen' hee hcl hop hc =>
        rename_i Sq b f t0 th0 thr cs
        rcases htk with ⟨_, h1, _⟩ | ⟨b', cap, h1, hcap, rfl⟩
        ·rw [hb] at h1; cases h1
        ·rw [hb] at h1; cases h1
         by_cases hx0 : xs.length = 0
         ·have hxe : xs = [] := List.length_eq_zero_iff.1 hx0
          subst hxe
          obtain ⟨M2, k2⟩ := H.rename hl hb
          have hap : aappend E X.base h st xt (.slice (some ⟨b, 0, some z⟩) es.length cap) xv = some (.slice (some ⟨b, 0, some z⟩) es.length cap, h) :=
           app_none A rfl (by rintro l k e; cases e) (by rintro b oo sp l k e; cases e; rfl) hlen
          rw [List.append_nil] at hK
          refine Did.eff H hp hq hal (fin _ _ hap) ⟨M2, k2, Nat.le_refl _, fun _ h => h, fun _ _ _ hr => hr⟩ ?_ (fun n y hln hne => ?_) hK
          ·refine .tk (by omega) rfl (fun b' z' len hx => ?_) (fun z hx => ?_)
           ·rw [updG_self] at hx; cases hx; exact ⟨_, hcap, rfl⟩
           ·rw [updG_self] at hx; cases hx
          ·obtain ⟨q1, q2⟩ := raw_drop H (y := .arq z es []) (l := some (.arr b z es.length)) n y hln hne
           exact ⟨q1, q2, fun b' _ => ⟨rfl, fun _ hr => hr⟩⟩
         ·rcases hcont with e | ⟨new, hnew, hE, hnl, hez, hV⟩
          ·subst e; simp at hx0
          ·refine app_tk H K0 (y2 := .arq z (es ++ xs) []) A hlen hx0 fin hp hq hal hl hS hb hg hf ht hbf hz' hlen' hcap hbd hnew hnl ((hE rfl).oneC hz') (.inl rfl) (fun hm hFF frz same hT hρ' hg' hf' ht' hbf' hF' => ?_) hK
           refine OR.arq' (by rw [List.length_append]; exact hρ') hg' hf' ht' hbf' hz' ⟨by simp [hlen', hnl, Nat.add_mul], fun e he => ?_, fun e he => ?_, by simp, ?_⟩
           ·rcases List.mem_append.1 he with h1 | h1
            ·exact hee e h1
            ·exact hez e h1
           ·rcases List.mem_append.1 he with h1 | h1
            ·exact hcl e h1
            ·exact closed (hxf e h1)
           ·have := (hc.keep H.wf same hFF frz hm hT).join (CNs.ofVRs (base := X.base) (hV.mono' hm))
            rw [List.append_nil] at this
            show CNs _ _ _ _ _ _ (es ++ xs).flatten _
            rw [List.flatten_append]
            exact this
      ·exact hw.elim
     ·exact hw.elim
    ·exact hw.elim
   ·exact hw.elim
  ·rename_i n bytes z0 zx xs q hn hby hz0 hes
   split at hw
   ·rename_i hc
    simp only [Bool.and_eq_true, beq_iff, blt_iff] at hc
    obtain ⟨⟨⟨⟨hz0n, hn0⟩, rfl⟩, hby0⟩, hpl, hokq⟩ := hc
    have size : ∀ {k : Nat}, k < 1048576 → (k + 1) * (bytes + 1) ≤ 1099511627776 := fun {k} hk => size_le hk hby0
    have A : AppT E st xt elem zx bytes := ⟨L.desc _ _ hsd, ⟨_, L.desc _ _ hxd⟩, L.size _ _ hn, L.bytes _ _ hby, _, (L.zero _ _ hz0).1, hz0n⟩
    obtain ⟨hlen, hop0, hxf, hcont⟩ := content_rel H hes (.inl rfl) (by simpa using hpl) hx
    obtain ⟨o1, o2⟩ := hop0 q (by simp)
    have hx0 : xs.length ≠ 0 := by omega
    have newQ : ∀ {ρ1 : Gh} {F1 : Nat → Prop} {o1 : Ob}, Mem X ρ1 F1 o1 c h → ∀ new, ([q] = [] → ER c ρ1 F1 h zx xs new) → new.length = xs.length * zx → (∀ e ∈ xs, e.length = zx) → VRs c ρ1 F1 h (apOp xs [q]).flatten new → Mem X (updG ρ1 c (some (.arr h.size zx xs.length))) F1 ((c, .arq zx xs [q]) :: o1) (c + 1) (h.push (.cells new h.size h.size 0)) ∧ ∀ t v, VR c ρ1 F1 h t v → VR (c + 1) (updG ρ1 c (some (.arr h.size zx xs.length))) F1 (h.push (.cells new h.size h.size 0)) t v :=
     fun M1 new _ h1 h2 h3 => M1.newArq ⟨h1, h2, fun e he => closed (hxf e he), hop0, CNs.ofVRs h3⟩ hn0
    have hones : ∀ {new : List Value}, VRs c ρ F h (apOp xs [q]).flatten new → new.length = xs.length * zx → new.all oneC = true := by
     intro new hV _
     refine VRs.oneC' hV fun t ht => ?_
     obtain ⟨e, h1, h2⟩ := List.mem_flatten.1 ht
     rcases List.mem_or_eq_of_mem_set (show e ∈ xs.set q.1 q.2 from h1) with h3 | rfl
     ·have := hxf e h3 t h2
      cases t <;> first | rfl | simp [fz] at this
     ·exact List.all_eq_true.1 hokq t h2
    -- to an array that is there
    have main : ∀ {es : List (List TV)} {Sq : Ft} {S : Nat → Ft} {b f t0 th0 thr m cap : Nat} {cs : List Value} {y : TO}, MO X ρ F o c h S → look o m = some y → S m = (f, true) :: Sq → ρ m = some (.arr b zx es.length) → h.get b = some (.cells cs f t0 th0) → h.fam b = some (f, b, thr) → thr ≤ b → X.base ≤ f → cs.length = es.length * zx → es.length ≤ cap → sv = .slice (some ⟨b, 0, some zx⟩) es.length cap →
     (∀ e ∈ es, e.length = zx) → (∀ e ∈ es, ∀ t ∈ e, clT t = true) → CNs c ρ F h X.base Sq es.flatten cs → es.length + xs.length < 1048576 → K (.tk c) ((c, .arq zx (es ++ xs) (shiftOp es.length [q])) :: drop1 o m) (c + 1) (.eff [m]) → Did E X ρ F o c af h p K := by
     intro es Sq S b f t0 th0 thr m cap cs y K0 hl hS hb hg hf ht hbf hlen' hcap hsv hee hcl hc hbd hK
     subst hsv
     rcases hcont with e | ⟨new, hnew, _, hnl, hez, hV⟩
     ·subst e; simp at hx0
     ·refine app_tk H K0 (y2 := .arq zx (es ++ xs) (shiftOp es.length [q])) A hlen hx0 fin hp hq hal hl hS hb hg hf ht hbf hn0 hlen' hcap (size hbd) hnew hnl (hones hV hnl) (.inl rfl) (fun hm hFF frz same hT hρ' hg' hf' ht' hbf' hF' => ?_) hK
      refine OR.arq' (by rw [List.length_append]; exact hρ') hg' hf' ht' hbf' hn0 ⟨by simp [hlen', hnl, Nat.add_mul], fun e he => ?_, fun e he => ?_, fun r hr => ?_, ?_⟩
      ·rcases List.mem_append.1 he with h1 | h1
       ·exact hee e h1
       ·exact hez e h1
      ·rcases List.mem_append.1 he with h1 | h1
       ·exact hcl e h1
       ·exact closed (hxf e h1)
      ·simp only [shiftOp, List.mem_singleton] at hr
       subst hr
       exact ⟨by simp; omega, o2⟩
      ·have := (hc.keep H.wf same hFF frz hm hT).join (CNs.ofVRs (base := X.base) (hV.mono' hm))
       rw [List.append_nil] at this
       rw [shift_ap, List.flatten_append]
       exact this
    split at hw
    ·rename_i z
     split at hw
     ·rename_i hz
      simp only [Bool.or_eq_true, beq_iff] at hz
      obtain ⟨hbd, hK⟩ := hw
      exact app_empty H A hn0 hlen hcont fin hp hq hal H (fun _ _ h => h) (fun _ h => h) w0 (emp hz hs) (size hbd) (fun e => by subst e; simp at hx0) (newQ H) flq hK
     ·exact hw.elim
    ·rename_i m
     have nilcase : ∀ {y : TO}, look o m = some y → arrO y = true → lenO y = 0 → zOf y = zx → (sv = .slice none 0 0 ∨ ∃ b o cs, F b ∧ h.rd b = some cs ∧ 0 < zOf y ∧ o ≤ cs.length ∧ sv = .slice (some ⟨b, o, some (zOf y)⟩) 0 0) → xs.length < 1048576 → K (.tk c) ((c, .arq zx xs [q]) :: drop1 o m) (c + 1) (.eff [m]) → Did E X ρ F o c af h p K := by
      intro y hl hy h0 hz hsv hbd hK
      obtain ⟨M1, k1⟩ := H.gone hl hy
      refine app_empty H (ns := [m]) (y1 := .arq zx xs [q]) (y2 := .arq zx xs [q]) A hn0 hlen hcont fin hp hq hal M1 k1 (fun _ h => h) (fun n y hln hne => ?_) (hsv.imp id fun ⟨b, o', cs, q1, q2, q3, q4, q5⟩ => ⟨b, o', cs, q1, q2, q4, by rw [← hz]; exact q5⟩) (size hbd) (fun e => by subst e; simp at hx0) (newQ M1) flq hK
      have hne' : n ≠ m := by simpa using hne
      exact ⟨⟨y, by rw [look_drop1, if_neg hne']; exact hln⟩, updG_ne _ _ hne'⟩
     have shift0 : shiftOp 0 [q] = [q] := by simp [shiftOp]
     split at hw
     ·rename_i z es hl
      split at hw
      ·rename_i hz
       rw [beq_iff] at hz
       subst hz
       obtain ⟨hbd, hK⟩ := hw
       obtain ⟨S, K0⟩ := H.ex
       have hO := K0.objs m _ hl
       generalize hS : S m = Sm at hO
       have htk := hO.tk rfl hs
       cases hO with
       | nil hb hz' =>
        rcases htk with ⟨h0, _, hsv⟩ | ⟨b, cap, h1, _⟩
        ·exact nilcase hl rfl h0 rfl hsv (by simpa using hbd) (by simpa [shift0] using hK)
        ·rw [hb] at h1; cases h1
       | arr hb hg hf ht hbf hz' hlen' hee hfz hc hF =>
        rcases htk with ⟨_, h1, _⟩ | ⟨b', cap, h1, hcap, hsv⟩
        ·rw [hb] at h1; cases h1
        ·rw [hb] at h1; cases h1
         exact main K0 hl hS hb hg hf ht hbf hlen' hcap hsv hee (fun e he => closed (hfz e he)) (CNs.ofVRs (VRs_flatten hlen' hee hc)) hbd hK
      ·exact hw.elim
     ·rename_i z es hl
      split at hw
      ·rename_i hz
       rw [beq_iff] at hz
       subst hz
       obtain ⟨hbd, hK⟩ := hw
       obtain ⟨S, K0⟩ := H.ex
       have hO := K0.objs m _ hl
       generalize hS : S m = Sm at hO
       have htk := hO.tk rfl hs
       cases hO with
       | qnil hb hz' =>
        rcases htk with ⟨h0, _, hsv⟩ | ⟨b, cap, h1, _⟩
        ·exact nilcase hl rfl h0 rfl hsv (by simpa using hbd) (by simpa [shift0] using hK)
        ·rw [hb] at h1; cases h1
       | arq hb hg hf ht hbf hz' hlen' hee hcl hop hc =>
        rcases htk with ⟨_, h1, _⟩ | ⟨b', cap, h1, hcap, hsv⟩
        ·rw [hb] at h1; cases h1
        ·rw [hb] at h1; cases h1
         exact main K0 hl hS hb hg hf ht hbf hlen' hcap hsv hee hcl hc hbd hK
      ·exact hw.elim
     ·exact hw.elim
    ·exact hw.elim
   ·exact hw.elim
  ·exact hw.elim
 ·exact hw.elim
end
end Go.M
namespace Go.M
open Go
section
variable {T E : Env} {X : Cx} {ρ : Gh} {F : Nat → Prop} {o : Ob} {c : Nat} {af : AF} {f : Fr} {h : AHeap} {p : Oper} {K : OK}
theorem look_dropIds' : ∀ {ids : List (Option Nat)} {o : Ob} {n : Nat}, (∀ k : Nat, ids[k]? ≠ some (some n)) → look (dropIds ids o) n = look o n
 | [], o, n, _ => rfl
 | none :: l, o, n, h => look_dropIds' (ids := l) fun k => by simpa using h (k + 1)
 | some m :: l, o, n, h => by
  simp only [dropIds]
  rw [look_dropIds' (ids := l) fun k => by simpa using h (k + 1), look_drop1, if_neg]
  intro e; subst e
  exact h 0 rfl
theorem not_names : ∀ {ids : List (Option Nat)} {n : Nat}, n ∉ namesOf ids → ∀ k : Nat, ids[k]? ≠ some (some n)
 | [], n, _, k => by simp
 | none :: l, n, h, k => by
  cases k with
  | zero => simp
  | succ k => simpa using not_names (ids := l) h k
 | some m :: l, n, h, k => by
  simp only [namesOf, List.mem_cons, not_or] at h
  cases k with
  | zero => simp; exact fun e => h.1 e.symm
  | succ k => simpa using not_names (ids := l) h.2 k
theorem shareAll_wk : ∀ (sh : List Nat) (o : Ob) (n : Nat) (y : TO), look o n = some y → ∃ y', look (M.shareAll sh o) n = some y' ∧ weak y y'
 | [], o, n, y, h => ⟨y, h, weak.refl _⟩
 | m :: sh, o, n, y, h => by
  obtain ⟨y1, h1, h2⟩ := weak_shareO o m n y h
  obtain ⟨y2, h3, h4⟩ := shareAll_wk sh _ n y1 h1
  exact ⟨y2, h3, h2.trans h4⟩
theorem shareAll_ok (H : Mem X ρ F o c h) (sh : List Nat) : ∃ F', ShOk X ρ c h F o F' (M.shareAll sh o) := by
 obtain ⟨F', h1, h2, h3⟩ := H.shareAll sh
 exact ⟨F', h1, h2, h3, shareAll_wk sh o⟩
theorem look_dropU' : ∀ {U : List Nat} {o : Ob} {n : Nat}, n ∉ U → look (dropU U o) n = look o n
 | [], o, n, _ => rfl
 | m :: l, o, n, h => by
  simp only [List.mem_cons, not_or] at h
  simp only [dropU]
  rw [look_dropU' h.2, look_drop1, if_neg h.1]
theorem wcall_ok (NX : TabX E X) (H : Mem X ρ F o c h) {g : FuncId} {args : List TV} {vargs : List Value} {st : Bool} (hst : st = true → StillF E g) (hw : wcall st (VC E) g args o c K) (ha : VRs c ρ F h args vargs) (hp : apure E af p = none) (hq : aread E af p = none) (hal : aalloc E af p = none)
 (he : aeff E X.base af p h = some (.enter g vargs, h)) : Did E X ρ F o c af h p K := by
 obtain ⟨sh, ids, U, args0, o0, R, hvc, ⟨hargs, hO, hi⟩, hK⟩ := hw
 simp only [Bool.and_eq_true] at hi
 obtain ⟨hi, hU⟩ := hi
 obtain ⟨F1, Sh⟩ := shareAll_ok H sh
 have H1 := Sh.mem
 obtain ⟨S, K1⟩ := H1.ex
 obtain ⟨S1, Ns, D⟩ := hO.told H1 K1 hi hU
 obtain ⟨hand, handO⟩ := H1.hand K1 D
 have hv0 := leVs_rel (zf := zfO o0) H1 _ _ _ hargs (ha.mono' Sh.keep)
 obtain ⟨n0, v, h', ρ', F', r, o', c', hrun, hR, MC, hr⟩ := hvc X.base _ F1 h S1 vargs (NX.now H1) hand handO hv0
 obtain ⟨MM, k1, k2, k3⟩ := H1.merge K1 hi D MC
 have hsz : h.size ≤ h'.size := MC.evo.size
 have hRaw : Raw ρ o h (mrgG ids c ρ ρ') (renO (back ids c) o' ++ dropU U (dropIds ids (shareAll sh o))) h' (namesOf ids ++ U) := fun n y hl hne => by
  simp only [List.mem_append, not_or] at hne
  have hn := not_names hne.1
  have hnc := H.lt hl
  obtain ⟨y1, q1, q2⟩ := Sh.wk n y hl
  have hnt := k3 n y1 q1 hn hne.2
  refine ⟨⟨y1, ?_⟩, mrg_old hn hnc, fun b hb => ?_⟩
  ·rw [look_append]
   split
   ·rename_i y3 h3
    obtain ⟨k, y4, e1, _, _⟩ := look_renO (fun k k' => back_inj hi) h3
    exfalso
    unfold back at e1
    split at e1
    ·rename_i m hm; subst e1; exact hn k hm
    ·omega
   ·rw [look_dropU' hne.2, look_dropIds' hn]; exact q1
  ·obtain ⟨hbl, hh⟩ := H1.atB_hd K1 q1 hb
   have hhb : ¬ heads0 S1 o0 (hd h b) := hnt _ hh
   have hg := MC.evo.keep b hbl hhb
   refine ⟨hg, fun cs hr => ?_⟩
   obtain ⟨r, a1, a2, a3⟩ := rd_some hr
   obtain ⟨f1, t1, th1, hgb⟩ := cellsOf_some a3
   obtain ⟨cr, hr1⟩ := fam_root a1
   obtain ⟨cs1, p1, p2, hg1⟩ := fam_cells a1
   rw [hgb] at hg1; cases hg1
   have hgr := MC.evo.keep r.1 (H.wf.lt hr1) (by
    have : hd h r.1 = hd h b := by rw [hd_get hr1, hd_get hgb]
    show ¬ heads0 S1 o0 (hd h r.1)
    rw [this]; exact hhb)
   exact rd_of (fam_of (hg.trans hgb) (hgr.trans hr1)) a2 (cellsOf_get (hg.trans hgb))
 refine ⟨n0, ⟨v, h', .eff h h'⟩, r.ren (back ids c), _, _, _, F', labC st o0 (namesOf ids ++ U), fun n hn => ?_, hK r o' c' hR, ⟨MM, fun t x hx => k1 t x (Sh.keep t x hx), hsz, fun b hb => MC.F0 b (Sh.FF b hb), fun b cs hb hrd => (MC.evo.frz b (Sh.FF b hb)).trans hrd⟩, k2 _ _ hr, ?_⟩
 ·unfold runOp
  rw [hp, hq, hal, he]
  simp only
  rw [acall_le hn _ _ _ _ hrun]
  rfl
 ·unfold labC
  split
  ·rename_i hs
   exact .effI hRaw (hst rfl _ _ _ _ _ _ hrun)
  ·split
   ·rename_i hns
    rw [hns] at hRaw
    exact .effG hRaw fun b hb => MC.evo.keep b hb fun ⟨k, y, q, _⟩ => by simp [look] at q
   ·exact .eff hRaw
end
end Go.M
namespace Go.M
open Go
section
variable {T E : Env} {X : Cx} {ρ : Gh} {F : Nat → Prop} {o : Ob} {c : Nat} {af : AF} {f : Fr} {h : AHeap} {p : Oper} {K : OK}
theorem PRes.did {canon : Option Value} (H : Mem X ρ F o c h) (R : PRes c ρ F h o canon K) (hp : apure E af p = canon) : Did E X ρ F o c af h p K := by
 obtain ⟨v, x, h1, h2, h3⟩ := R
 exact Did.pure H (hp.trans h1) h2 h3
theorem wlen_ok (L : EnvLe T E) (H : Mem X ρ F o c h) {t : TypeId} {x : TV} {xv : Value} {vs : List Value} {ts : List TypeId} (hw : wlen T t x o c K) (hx : VR c ρ F h x xv)
 (hp : ∀ d, E.desc t = some d → apure E af p = (match (generalizing := false) d, xv with
  | .string, .string s => some (goInt s.size)
  | .array n _, _ => some (goInt n)
  | .slice _, .slice _ n _ => some (goInt n)
  | .map _ _, .map none => some (goInt 0)
  | _, _ => none))
 (hq : ∀ k e r, E.desc t = some (.map k e) → xv = .map (some r) → aread E af p = some (.len r)) : Did E X ρ F o c af h p K := by
 unfold wlen at hw
 split at hw
 ·rename_i hd
  split at hw
  ·have := hx.inv_s.1; subst this
   exact Did.pure H (hp _ (L.desc _ _ hd)) (.s rfl) hw
  ·exact hw.elim
 ·rename_i n e hd
  exact Did.pure H ((hp _ (L.desc _ _ hd)).trans (by cases xv <;> rfl)) (.s rfl) hw
 ·rename_i e hd
  have arr : ∀ {m : Nat} {y : TO}, look o m = some y → arrO y = true → VR c ρ F h (.tk m) xv → K (.s (goInt (lenO y))) o c .pure → Did E X ρ F o c af h p K := by
   intro m y hl hy hx hw
   obtain ⟨Sm, hO⟩ := H.objs hl
   have : ∃ a k, xv = .slice a (lenO y) k := by
    rcases hO.tk hy hx with ⟨h0, _, rfl | ⟨b, o', cs, _, _, _, _, rfl⟩⟩ | ⟨b, cap, _, _, rfl⟩
    ·rw [h0]; exact ⟨none, 0, rfl⟩
    ·rw [h0]; exact ⟨_, 0, rfl⟩
    ·exact ⟨_, _, rfl⟩
   obtain ⟨a, k, rfl⟩ := this
   exact Did.pure H (hp _ (L.desc _ _ hd)) (.s rfl) hw
  split at hw
  ·cases hx with
   | bg hb => exact Did.pure H (hp _ (L.desc _ _ hd)) (.s rfl) hw
  ·rename_i m
   split at hw
   ·rename_i hl; exact arr hl rfl hx hw
   ·rename_i hl; exact arr hl rfl hx hw
   ·exact hw.elim
  ·cases hx with
   | nil h1 => subst h1; exact Did.pure H (hp _ (L.desc _ _ hd)) (.s rfl) hw
   | sl q1 q2 q3 q4 => subst q4; exact Did.pure H (hp _ (L.desc _ _ hd)) (.s rfl) hw
  ·exact hw.elim
 ·rename_i k e hd
  split at hw
  ·have := hx.inv_s.1; subst this
   exact Did.pure H (hp _ (L.desc _ _ hd)) (.s rfl) hw
  ·rename_i n
   split at hw
   ·rename_i kn es hl
    obtain ⟨Sm, hO⟩ := H.objs hl
    cases hO with
    | map hb hg hlen hc hst =>
     rename_i b clock ev
     cases hx with
     | mp hb' =>
      rw [hb] at hb'; cases hb'
      have hma : mapAt h b = some (ev, clock) := by unfold mapAt; rw [hg]
      have hE : ERs c ρ F h kn es ev := ⟨hlen, hc⟩
      refine RRes.did (q := .len b) (RRes.same H (by simp [RQ.run, hma]; rfl) (.s rfl) ?_ (.rdO (.refl _) rfl hl (.inl hb) ⟨_, hma, hE.refl⟩)) (hp _ (L.desc _ _ hd)) (hq _ _ _ (L.desc _ _ hd) rfl)
      rw [← hlen]; exact hw
   ·rename_i kn es hl
    obtain ⟨Sm, hO⟩ := H.objs hl
    cases hO with
    | maq hb hg hcl hc hst =>
     rename_i Sq b clock ev
     cases hx with
     | mp hb' =>
      rw [hb] at hb'; cases hb'
      have hma : mapAt h b = some (ev, clock) := by unfold mapAt; rw [hg]
      have hE : ENs c ρ F h X.base kn Sq es ev := hc
      have hlen : es.length = ev.length := by
       have key : ∀ {es : List (Value × TV)} {ev : List MapEntry} {S : Ft}, ENs c ρ F h X.base kn S es ev → es.length = ev.length := by
        intro es ev S hE
        induction hE with
        | nil => rfl
        | cons _ _ _ _ _ ih => simp [ih]
       exact key hE
      refine RRes.did (q := .len b) (RRes.same H (by simp [RQ.run, hma]; rfl) (.s rfl) ?_ (.rdO (.refl _) rfl hl (.inl hb) ⟨_, hma, hE.refl fun e he t ht => .inr (hcl e he t ht)⟩)) (hp _ (L.desc _ _ hd)) (hq _ _ _ (L.desc _ _ hd) rfl)
      rw [← hlen]; exact hw
   ·exact hw.elim
  ·exact hw.elim
 ·exact hw.elim
theorem ev1 (L : EnvLe T E) (N : TabOk T F h) (S : vSlots c ρ F h f af) {x : Operand} {l : List Operand} (hev : l.all (evOk T) = true) (hm : x ∈ l) : ∃ v, ev E af x = some v ∧ VR c ρ F h (evT T f x) v := vev_rel L N S (List.all_eq_true.1 hev x hm)
theorem evO (L : EnvLe T E) (N : TabOk T F h) (S : vSlots c ρ F h f af) {x : Option Operand} {l : List Operand} (hev : l.all (evOk T) = true) (hm : ∀ y, x = some y → y ∈ l) : ∃ v, evOpt E af x = some v ∧ OptR c ρ F h (evTO T f x) v := by
 cases x with
 | none => exact ⟨none, rfl, .inl ⟨rfl, rfl⟩⟩
 | some y =>
  obtain ⟨v, h1, h2⟩ := vev_rel (E := E) L N S (List.all_eq_true.1 hev y (hm y rfl))
  exact ⟨some v, by simp [evOpt, h1], .inr ⟨_, _, rfl, rfl, h2⟩⟩
theorem wbuiltin_ok (L : EnvLe T E) (H : Mem X ρ F o c h) {b : Builtin} {qargs : Array Operand} {argTypes : Array TypeId} {args : List TV} {vs : List Value} {dst : Option Tmp} {ty : TypeId} {pos : String} {after : Array Edge} {guard : Option (Nat × Bool)}
 (hw : wbuiltin T b argTypes.toList args o c K) (hr : VRs c ρ F h args vs) (he : evs E af qargs.toList = some vs) : Did E X ρ F o c af h ⟨dst, .call ⟨.builtin b, qargs, argTypes⟩, ty, pos, after, guard⟩ K := by
 have hp : apure E af ⟨dst, .call ⟨.builtin b, qargs, argTypes⟩, ty, pos, after, guard⟩ = abuiltP E b argTypes.toList vs := by simp only [apure, he, Option.bind_some]
 have hal : aalloc E af ⟨dst, .call ⟨.builtin b, qargs, argTypes⟩, ty, pos, after, guard⟩ = none := rfl
 have hef : aeff E X.base af ⟨dst, .call ⟨.builtin b, qargs, argTypes⟩, ty, pos, after, guard⟩ h = (abuiltE E X.base h b argTypes.toList vs).bind fun r => some (.val r.1, r.2) := by simp only [aeff, he, Option.bind_some]
 have hrd : b ≠ .len → aread E af ⟨dst, .call ⟨.builtin b, qargs, argTypes⟩, ty, pos, after, guard⟩ = none := fun hb => by
  cases b <;> first | rfl | exact absurd rfl hb
 unfold wbuiltin at hw
 split at hw
 ·rename_i t ts x xs hts
  obtain ⟨xv, m, rfl, h1, h2⟩ := hr.inv_cons
  refine wlen_ok L H hw h1 (fun d hd => ?_) (fun k e r hd hx => ?_) (vs := []) (ts := [])
  ·rw [hp, hts]
   simp only [abuiltP, hd, Option.bind_some]
   try rfl
  ·subst hx
   simp only [aread, hts, he, Option.bind_some, hd]
 ·rename_i st xt s x hts
  obtain ⟨sv, m, rfl, h1, h2⟩ := hr.inv_cons
  obtain ⟨xv, m', rfl, h3, h4⟩ := h2.inv_cons
  obtain rfl := h4.inv_nil
  refine wappend_ok L H hw h1 h3 (by rw [hp, hts]; rfl) (hrd (by simp)) hal ?_
  rw [hef, hts]; rfl
 ·rename_i ts k x k' y
  obtain ⟨sv, m, rfl, h1, h2⟩ := hr.inv_cons
  obtain ⟨xv, m', rfl, h3, h4⟩ := h2.inv_cons
  obtain rfl := h4.inv_nil
  rw [h1.inv_s.1, h3.inv_s.1] at hp
  exact Did.pure H (x := .int k (if y > x then y else x)) (by rw [hp]; rfl) (.s rfl) hw
 ·rename_i ts k x k' y
  obtain ⟨sv, m, rfl, h1, h2⟩ := hr.inv_cons
  obtain ⟨xv, m', rfl, h3, h4⟩ := h2.inv_cons
  obtain rfl := h4.inv_nil
  rw [h1.inv_s.1, h3.inv_s.1] at hp
  exact Did.pure H (x := .int k (if y < x then y else x)) (by rw [hp]; rfl) (.s rfl) hw
 ·rename_i t ts m k hts
  obtain ⟨mv, m1, rfl, h1, h2⟩ := hr.inv_cons
  obtain ⟨kv, m', rfl, h3, h4⟩ := h2.inv_cons
  obtain rfl := h4.inv_nil
  refine wdelete_ok L H hw h1 h3 (by rw [hp, hts]; rfl) (hrd (by simp)) hal ?_
  rw [hef, hts]; rfl
 ·rename_i t ts m i args hts
  obtain ⟨xv, m1, rfl, h1, h2⟩ := hr.inv_cons
  split at hw
  ·rename_i elem hd
   split at hw
   ·rename_i zv z es hz hl
    split at hw
    ·rename_i zs hzs
     split at hw
     ·rename_i hc
      refine wclearS_ok L H hd hz hl hzs hc hw h1 (by rw [hp, hts]; rfl) (hrd (by simp)) hal ?_
      rw [hef, hts]; rfl
     ·exact hw.elim
    ·exact hw.elim
   ·exact hw.elim
  ·exact hw.elim
 ·rename_i t ts n args hts
  obtain ⟨mv, m1, rfl, h1, h2⟩ := hr.inv_cons
  split at hw
  ·rename_i d kn es hd hl
   refine wclear_ok H hl (.inl ⟨_, rfl⟩) hw h1 (by rw [hp, hts]; rfl) (hrd (by simp)) hal (by rw [L.desc _ _ hd]; rfl) ?_ (t := t)
   rw [hef, hts]; rfl
  ·rename_i d kn es op hd hl
   refine wclear_ok H hl (.inr ⟨_, _, rfl⟩) hw h1 (by rw [hp, hts]; rfl) (hrd (by simp)) hal (by rw [L.desc _ _ hd]; rfl) ?_ (t := t)
   rw [hef, hts]; rfl
  ·exact hw.elim
 ·exact hw.elim
theorem encB_len (s : ByteArray) : (encB s).length = s.size := by simp [encB]
theorem VRs_u8 {c : Nat} {ρ : Gh} {F : Nat → Prop} {h : AHeap} : ∀ {ns : List Int} {vs : List Value}, VRs c ρ F h (encU8 ns).flatten vs → vs = ns.map (Value.int .u8)
 | [], vs, H => H.inv_nil
 | n :: ns, vs, H => by
  obtain ⟨v, vs', rfl, h1, h2⟩ := H.inv_cons
  rw [h1.inv_s.1, VRs_u8 h2]; rfl
theorem u8s_map : ∀ ns : List Int, u8s (ns.map (Value.int .u8)) = some ns
 | [] => rfl
 | n :: ns => by simp only [List.map_cons, u8s, u8s_map ns, Option.bind_some]
theorem wconvert_ok (L : EnvLe T E) (H : Mem X ρ F o c h) {s d : TypeId} {x : TV} {xv : Value} (hw : wconvert T s d x o c K) (hx : VR c ρ F h x xv)
 (hp : apure E af p = aconv E s d xv) (hq : aread E af p = none) (hal : aalloc E af p = none) (he : aeff E X.base af p h = (aconvE E X.base h s d xv).bind fun r => some (.val r.1, r.2)) : Did E X ρ F o c af h p K := by
 unfold wconvert at hw
 split at hw
 ·rename_i v
  have := hx.inv_s.1; subst this
  split at hw
  ·rename_i str e hd
   split at hw
   ·rename_i sd ed hs hed
    split at hw
    ·rename_i hu
     have hpn : apure E af p = none := by rw [hp]; simp [aconv, L.desc _ _ hs, L.desc _ _ hd]
     have E1 : ER c ρ F h 1 (encB str) (strBytes str) := by
      refine ⟨by simp [encB, strBytes], fun e he => ?_, fun e he t ht => ?_, fun i j e t v q1 q2 q3 => ?_⟩
      ·simp only [encB, List.mem_map] at he; obtain ⟨b, _, rfl⟩ := he; rfl
      ·simp only [encB, List.mem_map] at he; obtain ⟨b, _, rfl⟩ := he
       simp at ht; subst ht; rfl
      ·simp only [encB, List.getElem?_map, Option.map_eq_some_iff] at q1
       obtain ⟨b, q1, rfl⟩ := q1
       cases j with
       | succ j => simp at q2
       | zero =>
        simp at q2; subst q2
        simp only [strBytes, List.getElem?_map, Nat.mul_one, Nat.add_zero, q1, Option.map_some, Option.some.injEq] at q3
        subst q3; exact .s rfl
     obtain ⟨M2, k2⟩ := H.newArr E1 (by omega)
     refine Did.eff (x := .slice (some ⟨h.size, 0, some 1⟩) str.size (str.size + 1)) (h' := h.push (.cells (strBytes str) h.size h.size 0)) H hpn hq hal (by rw [he]; simp [aconvE, L.desc _ _ hs, L.desc _ _ hd, L.desc _ _ hed, hu, grd, fresh]) ⟨M2, k2, by show h.size ≤ h.size + 1; omega, fun _ hb => hb, fun b cs hb hr => (rd_push H.wf.le _ (H.Flt hb)).trans hr⟩ ?_ (fun m y hl hm => ?_) hw
     ·refine .tk (by omega) rfl (fun b z len hx => ?_) (fun z hx => ?_)
      ·rw [updG_self] at hx; cases hx; exact ⟨str.size + 1, by rw [encB_len]; omega, by rw [encB_len]⟩
      ·rw [updG_self] at hx; cases hx
     ·have hmc := H.lt hl
      refine ⟨⟨y, by rw [look_cons, if_neg (by simp only; omega)]; exact hl⟩, by rw [updG_ne _ _ (by omega)], fun b hb => ?_⟩
      have := H.atB_lt hl hb
      exact ⟨by rw [AHeap.get_push, if_neg (by omega)], fun cs hr => by rw [rd_push H.wf.le _ this]; exact hr⟩
    ·exact hw.elim
   ·exact hw.elim
  ·exact PRes.did H (pure1_ok hw fun x hx => aconv_mono L hx) hp
 ·split at hw
  ·rename_i z es hes
   split at hw
   ·rename_i e hd hs
    split at hw
    ·rename_i ed hed
     split at hw
     ·rename_i hc
      simp only [Bool.and_eq_true, Bool.or_eq_true, beq_iff] at hc
      obtain ⟨hu, hz⟩ := hc
      obtain ⟨ns, rfl, hK⟩ := hw
      obtain ⟨hlen, _, _, hcont⟩ := content_rel H hes (n := 1) (hz.imp id fun h => ⟨h, rfl⟩) (by simp) hx
      obtain ⟨a, cap, rfl⟩ : ∃ a cap, xv = .slice a (encU8 ns).length cap := by
       unfold lenV at hlen
       split at hlen
       ·cases hlen; exact ⟨_, _, rfl⟩
       ·exfalso
        unfold esQ at hes
        split at hes
        ·cases hx with | tk _ h1 => simp [slV] at h1
        ·cases hx
        ·cases hes
       ·cases hlen
      have hpn : apure E af p = none := by rw [hp]; simp [aconv, L.desc _ _ hs, L.desc _ _ hd]
      have hce : aconvE E X.base h s d (.slice a (encU8 ns).length cap) = some (.string (strOf ns), h) := by
       simp only [aconvE, L.desc _ _ hs, L.desc _ _ hd, L.desc _ _ hed, hu, Option.bind_some, grd, bif_eq, beq_iff]
       split
       ·rename_i h0
        have : ns = [] := by simpa [encU8] using h0
        subst this; rfl
       ·rename_i h0
        rcases hcont with h1 | ⟨new, h1, _, _, _, hV⟩
        ·rw [h1] at h0; simp at h0
        ·have e2 := VRs_u8 (ns := ns) (vs := new) (by simpa [apOp] using hV)
         rw [h1, e2]
         simp only [Option.bind_some, u8s_map]
      exact Did.eff H hpn hq hal (by rw [he, hce]; rfl) (.refl H) (.s rfl) (.refl _) hK
     ·exact hw.elim
    ·exact hw.elim
   ·exact hw.elim
  ·exact hw.elim
theorem wop_ok (L : EnvLe T E) (NX : TabX E X) (H : Mem X ρ F o c h) (S : vSlots c ρ F h f af) (hw : wop T (VC E) p.op f o c K) : Did E X ρ F o c af h p K := by
 obtain ⟨dst, op, ty, pos, after, guard⟩ := p
 have N : TabOk T F h := (NX.now H).sub L
 simp only at hw
 unfold wop at hw
 split at hw
 ·exact hw.elim
 ·rename_i hev
  cases op with
  | move x =>
   obtain ⟨v, h1, h2⟩ := ev1 (E := E) L N S hev (x := x) (by simp [Op.operands])
   obtain ⟨hK, _⟩ := force_iff hw
   exact Did.pure H (x := v) h1 h2 hK
  | assign x =>
   obtain ⟨v, h1, h2⟩ := ev1 (E := E) L N S hev (x := x) (by simp [Op.operands])
   obtain ⟨hK, _⟩ := force_iff hw
   exact Did.pure H (x := v) h1 h2 hK
  | pick q a b =>
   obtain ⟨qv, h1, h2⟩ := ev1 (E := E) L N S hev (x := q) (by simp [Op.operands])
   obtain ⟨av, h3, h4⟩ := ev1 (E := E) L N S hev (x := a) (by simp [Op.operands])
   obtain ⟨bv, h5, h6⟩ := ev1 (E := E) L N S hev (x := b) (by simp [Op.operands])
   simp only at hw
   split at hw
   ·rename_i qb he
    rw [he] at h2
    have := h2.inv_s.1; subst this
    split at hw
    ·obtain ⟨hK, _⟩ := force_iff hw
     exact Did.pure H (x := av) (by simp [apure, h1, h3, asB]) h4 hK
    ·obtain ⟨hK, _⟩ := force_iff hw
     exact Did.pure H (x := bv) (by simp [apure, h1, h5, asB]) h6 hK
   ·exact hw.elim
  | alloc t =>
   simp only at hw
   split at hw
   ·rename_i z hz
    split at hw
    ·rename_i zs hzs
     obtain ⟨hz', hpl⟩ := L.zero _ _ hz
     exact cells_did H (zcells_rel hpl hzs) rfl rfl (by simp [aalloc, hz']) hw
    ·exact hw.elim
   ·exact hw.elim
  | box t x =>
   obtain ⟨v, h1, h2⟩ := ev1 (E := E) L N S hev (x := x) (by simp [Op.operands])
   simp only at hw
   obtain ⟨hK, hne⟩ := force_iff hw
   have hal : aalloc E af ⟨dst, .box t x, ty, pos, after, guard⟩ = some (.cells v.cells.toList, .ptr) := by simp [aalloc, h1]
   split at hK
   ·exact hK.elim
   ·exact hK.elim
   ·exact hK.elim
   ·rename_i cs he
    have hcr := cells_rel h2 (by rw [he]; rfl)
    rw [he] at hcr
    exact cells_did H hcr rfl rfl hal hK
   ·rename_i n1 n2 n4 n3
    have hok : okV (evT T f x) = true := by
     cases he : evT T f x with
     | j => exact absurd he n1
     | tup cs => exact absurd he (n2 cs)
     | sv a b => exact absurd he (n4 a b)
     | _ => rfl
    have hcr := cells_rel h2 hok
    have hce : cellsT (evT T f x) = [evT T f x] := by
     cases he : evT T f x with
     | agg cs => exact absurd he (n3 cs)
     | _ => rfl
    rw [hce] at hcr
    exact cells_did H hcr rfl rfl hal hK
  | build t ps =>
   obtain ⟨pv, h1, h2⟩ := vevParts_rel (E := E) L N S (l := ps.toList) (by simpa [Op.operands] using hev)
   exact PRes.did H (wbuild_ok L hw h2) (by simp [apure, h1])
  | buildSlice t len ps =>
   obtain ⟨pv, h1, h2⟩ := vevParts_rel (E := E) L N S (l := ps.toList) (by simpa [Op.operands] using hev)
   simp only at hw
   unfold wbuildSlice at hw
   split at hw
   ·rename_i elem hd
    split at hw
    ·rename_i n z hn hz
     obtain ⟨hz', hpl⟩ := L.zero _ _ hz
     split at hw
     ·rename_i zs hc hzs
      simp only [Bool.and_eq_true, beq_iff, ble_iff, blt_iff] at hc
      obtain ⟨⟨hc1, hc2⟩, hc3⟩ := hc
      split at hw
      ·rename_i es hzf hfs
       have hzr := zcells_rel (c := c) (ρ := ρ) (F := F) (h := h) hpl hzs
       have hzl : zs.length = n := by have := hzr.1; simp only [Array.length_toList] at this; omega
       obtain ⟨F', cv, S', b1, b2, b3⟩ := fillS_rel H hfs (ER.replicate hzr hzl hzf len) h2
       have hel : es.length = len := by rw [b3]; simp
       refine arr_did H S' (cap := len) b2 hc3 (by omega) rfl rfl ?_ hw
       simp only [aalloc, L.desc _ _ hd, Option.bind_some, h1, L.size _ _ hn, hz', hc2, ble_iff.2 hc1, grd]
       rw [hel]
       simp [b1]
      ·rename_i hzf hfs
       split at hw
       ·rename_i q hps
        split at hw
        ·rename_i hc4
         simp only [Bool.and_eq_true, beq_iff, blt_iff] at hc4
         obtain ⟨⟨hov, hqn⟩, hql⟩ := hc4
         have hzr := zcells_rel (c := c) (ρ := ρ) (F := F) (h := h) hpl hzs
         have hzl : zs.length = n := by have := hzr.1; simp only [Array.length_toList] at this; omega
         have hE := ER.replicate hzr hzl hzf len
         rw [hps] at h2
         obtain ⟨x, rfl, hvx⟩ : ∃ x, pv = [(q.1, x)] ∧ VR c ρ F h q.2 x := by
          match pv, h2 with
          | [y], h2 => exact ⟨y.2, by rw [h2.1], h2.2.1⟩
         have hcr := cells_rel hvx hov
         have hlenr : q.1 < (List.replicate len zs).length := by simpa using hql
         have hrow : (List.replicate len zs)[q.1]? = some zs := by simp [hql]
         have hC : CNs c ρ F h X.base [] ((List.replicate len zs).set q.1 zs).flatten (repeatL z.cells.toList len) := by
          rw [set_self hrow]; exact CNs.ofVRs (VRs_flatten hE.len hE.each hE.cell)
         obtain ⟨S1, S2, S3, v1, v2, v3, e0, e1, a1, a2, a3⟩ := rows_split hE.each hlenr hC
         have e2 : v1.length = q.1 * n := by
          have h1 := a1.len
          have := (flatten_row hE.each hrow).2
          rw [Nat.add_mul] at this
          rw [← h1, List.length_take]; omega
         have e3 : v2.length = n := by rw [← a2.len]; exact hzl
         have e4 : setN v2 0 x.cells.toList = some x.cells.toList := by
          obtain ⟨r, hr⟩ := setN_ex (n := 0) (l := v2) (xs := x.cells.toList) (by rw [← hcr.1]; omega)
          rw [hr, setN_eq hr]
          have : v2.length ≤ x.cells.toList.length := by rw [← hcr.1]; omega
          rw [List.take_zero, List.drop_zero, List.nil_append, List.drop_eq_nil_of_le this, List.append_nil]
         have e5 := setN_mid (v1 := v1) (v3 := v3) e4
         rw [Nat.add_zero, e2, ← e1] at e5
         simp only [List.append_eq_nil_iff, List.nil_eq] at e0
         obtain ⟨rfl, rfl, rfl⟩ := e0
         have hJ := rows_join hE.each hlenr a1 (CNs.ofVRs (base := X.base) hcr) a3
         have hQ : EQ c ρ F h X.base n [] (List.replicate len zs) [(q.1, cellsT q.2)] (v1 ++ (x.cells.toList ++ v3)) := by
          refine ⟨?_, hE.each, fun e he t ht => ?_, fun p hp => ?_, hJ⟩
          ·have := (setN_some e5).2.1
           rw [this]; exact hE.len
          ·have := hE.fz e he t ht
           unfold clT; split <;> first | rfl | exact this
          ·simp only [List.mem_singleton] at hp; subst hp; exact ⟨hlenr, hqn⟩
         obtain ⟨M1, k1⟩ := H.newArq hQ hc3
         refine Did.alloc H (.refl H) (md := .cells (v1 ++ (x.cells.toList ++ v3))) (hd := .slice n len len) rfl rfl ?_ M1 k1 (.tk (by omega) rfl (fun b z' len' hx => ?_) (fun z' hx => ?_)) hw
         ·simp only [aalloc, L.desc _ _ hd, Option.bind_some, h1, L.size _ _ hn, hz', hc2, ble_iff.2 hc1, grd, fillA]
          have : x.cells.size = n := by have := hcr.1; simp only [Array.length_toList] at this; omega
          simp [this, e5]
         ·rw [updG_self] at hx; cases hx; exact ⟨len, by simp, by simp [Hold.val]⟩
         ·rw [updG_self] at hx; cases hx
        ·exact hw.elim
       ·exact hw.elim
      ·exact hw.elim
     ·exact hw.elim
    ·exact hw.elim
   ·exact hw.elim
  | load t a =>
   obtain ⟨av, h1, h2⟩ := ev1 (E := E) L N S hev (x := a) (by simp [Op.operands])
   obtain ⟨q, h3, h4⟩ := wload_ok L H hw h2
   exact h4.did rfl (by simp only [aread, h1, Option.bind_some]; exact h3)
  | store t a v =>
   obtain ⟨av, h1, h2⟩ := ev1 (E := E) L N S hev (x := a) (by simp [Op.operands])
   obtain ⟨vv, h3, h4⟩ := ev1 (E := E) L N S hev (x := v) (by simp [Op.operands])
   exact wstore_ok L H hw h2 h4 rfl rfl rfl (by simp only [aeff, h1, h3, Option.bind_some]; rfl)
  | nilCheck x =>
   obtain ⟨v, h1, h2⟩ := ev1 (E := E) L N S hev (x := x) (by simp [Op.operands])
   simp only at hw
   split at hw
   ·rename_i n q he
    rw [he] at h2
    cases h2 with
    | ptr hb => exact Did.pure H (by simp [apure, h1, nilCheckV]) (.ptr hb) hw
   ·rename_i e q he
    rw [he] at h2
    cases h2 with
    | ep a1 a2 a3 a4 a5 => exact Did.pure H (by simp [apure, h1, nilCheckV]) (.ep a1 a2 a3 a4 a5) hw
   ·rename_i g a b he
    rw [he] at h2
    cases h2 with
    | clo a1 a2 a3 a4 => exact Did.pure H (by simp [apure, h1, nilCheckV]) (.clo a1 a2 a3 a4) hw
   ·exact hw.elim
  | binOp bop t x y t2 =>
   obtain ⟨av, h1, h2⟩ := ev1 (E := E) L N S hev (x := x) (by simp [Op.operands])
   obtain ⟨bv, h3, h4⟩ := ev1 (E := E) L N S hev (x := y) (by simp [Op.operands])
   exact PRes.did H (wbin_ok L hw h2 h4) (by simp [apure, h1, h3])
  | unOp uop t x =>
   obtain ⟨v, h1, h2⟩ := ev1 (E := E) L N S hev (x := x) (by simp [Op.operands])
   simp only at hw
   split at hw
   ·rename_i w he
    split at hw
    ·rename_i hs
     rw [he] at h2
     have := h2.inv_s.1; subst this
     exact PRes.did H (pure1_ok hw fun x hx => hx) (by simp [apure, h1, hs, grd])
    ·exact hw.elim
   ·exact hw.elim
  | convert s d x =>
   obtain ⟨v, h1, h2⟩ := ev1 (E := E) L N S hev (x := x) (by simp [Op.operands])
   exact wconvert_ok L H hw h2 (by simp [apure, h1]) rfl rfl (by simp [aeff, h1])
  | makeInterface t x =>
   obtain ⟨v, h1, h2⟩ := ev1 (E := E) L N S hev (x := x) (by simp [Op.operands])
   simp only at hw
   split at hw
   ·exact hw.elim
   ·exact hw.elim
   ·rename_i d hd n1
    split at hw
    ·exact hw.elim
    ·refine Did.pure H (x := .iface t v) ?_ (.ifc h2) hw
     simp only [apure, L.desc _ _ n1, Option.bind_some, h1]
  | makeFunc fn first captured =>
   simp only at hw
   split at hw
   ·rename_i g
    have he : (first.toList.all (evOk T) = true) ∧ (captured.toList.all (evOk T) = true) := by
     simpa [Op.operands] using hev
    obtain ⟨a, h1, h2⟩ := vevs_rel (E := E) L N S he.1
    obtain ⟨b, h3, h4⟩ := vevs_rel (E := E) L N S he.2
    exact Did.pure H (x := .func (.func g) a.toArray b.toArray) (by simp [apure, h1, h3]) (.clo (by simpa using h2.1) (fun i t v q1 q2 => h2.2 i t v q1 (by simpa using q2)) (by simpa using h4.1) (fun i t v q1 q2 => h4.2 i t v q1 (by simpa using q2))) hw
   ·exact hw.elim
  | makeMap t r =>
   cases r with
   | some r => exact hw.elim
   | none =>
    simp only at hw
    split at hw
    ·split at hw
     ·split at hw
      ·exact map_did H _ rfl rfl rfl hw
      ·exact hw.elim
     ·exact hw.elim
    ·exact hw.elim
  | makeSlice t l k =>
   obtain ⟨lv, h1, h2⟩ := ev1 (E := E) L N S hev (x := l) (by simp [Op.operands])
   obtain ⟨kv, h3, h4⟩ := ev1 (E := E) L N S hev (x := k) (by simp [Op.operands])
   simp only at hw
   unfold wmakeSlice at hw
   split at hw
   ·rename_i elem li ki hd hli hki
    split at hw
    ·rename_i n bytes z hn hby hz
     obtain ⟨hz', hpl⟩ := L.zero _ _ hz
     split at hw
     ·rename_i zs hc hzs
      simp only [Bool.and_eq_true, beq_iff, blt_iff] at hc
      obtain ⟨hc, hby0⟩ := hc
      split at hw
      ·rename_i hzf
       obtain ⟨⟨b1, b2, b30⟩, hK⟩ := hw
       have b3 : (ki + 1) * ((bytes : Int) + 1) ≤ 1099511627776 := by
        have h1 : (ki.toNat + 1) * (bytes + 1) ≤ 1099511627776 := size_le (by omega) hby0
        have h2 : ki = (ki.toNat : Int) := by omega
        rw [h2]
        have h3 := Int.ofNat_le.2 h1
        rw [Int.natCast_mul] at h3
        exact h3
       have hzr := zcells_rel (c := c) (ρ := ρ) (F := F) (h := h) hpl hzs
       have hzl : zs.length = n := by have := hzr.1; simp only [Array.length_toList] at this; omega
       have hE := ER.replicate hzr hzl hzf li.toNat
       refine arr_did H (.refl H) (cap := bif Nat.beq li.toNat ki.toNat then li.toNat else li.toNat + 1) hE hc.2 (by simp only [List.length_replicate, bif_eq]; split <;> omega) rfl rfl ?_ hK
       simp only [aalloc, L.desc _ _ hd, Option.bind_some, h1, h3, asIT_rel hli h2, asIT_rel hki h4, L.size _ _ hn, L.bytes _ _ hby, hz', hc.1, grd]
       simp [b1, b2, b3]
      ·exact hw.elim
     ·exact hw.elim
    ·exact hw.elim
   ·exact hw.elim
  | slice t x lo hi mx =>
   obtain ⟨xv, h1, h2⟩ := ev1 (E := E) L N S hev (x := x) (by simp [Op.operands])
   obtain ⟨lov, h3, h4⟩ := evO (E := E) L N S hev (x := lo) (fun y e => by subst e; simp [Op.operands])
   obtain ⟨hiv, h5, h6⟩ := evO (E := E) L N S hev (x := hi) (fun y e => by subst e; simp [Op.operands])
   obtain ⟨mxv, h7, h8⟩ := evO (E := E) L N S hev (x := mx) (fun y e => by subst e; simp [Op.operands])
   exact (wslice_ok L H hw h2 h4 h6 h8).did H (by simp [apure, h1, h3, h5, h7])
  | fieldAddr s x fd =>
   obtain ⟨v, h1, h2⟩ := ev1 (E := E) L N S hev (x := x) (by simp [Op.operands])
   exact PRes.did H (wfieldAddr_ok L H hw h2) (by simp only [apure, h1, Option.bind_some]; rfl)
  | field t x fd =>
   obtain ⟨v, h1, h2⟩ := ev1 (E := E) L N S hev (x := x) (by simp [Op.operands])
   exact PRes.did H (wfield_ok L hw h2) (by simp only [apure, h1, Option.bind_some]; rfl)
  | indexAddr t x i =>
   obtain ⟨v, h1, h2⟩ := ev1 (E := E) L N S hev (x := x) (by simp [Op.operands])
   obtain ⟨iv, h3, h4⟩ := ev1 (E := E) L N S hev (x := i) (by simp [Op.operands])
   exact PRes.did H (windexAddr_ok L H hw h2 h4) (by simp [apure, h1, h3])
  | index t x i =>
   obtain ⟨v, h1, h2⟩ := ev1 (E := E) L N S hev (x := x) (by simp [Op.operands])
   obtain ⟨iv, h3, h4⟩ := ev1 (E := E) L N S hev (x := i) (by simp [Op.operands])
   exact PRes.did H (windex_ok L hw h2 h4) (by simp [apure, h1, h3])
  | lookup t x i ok =>
   obtain ⟨v, h1, h2⟩ := ev1 (E := E) L N S hev (x := x) (by simp [Op.operands])
   obtain ⟨iv, h3, h4⟩ := ev1 (E := E) L N S hev (x := i) (by simp [Op.operands])
   rcases wlookup_ok L H hw h2 h4 with ⟨rfl, R⟩ | ⟨r, rfl, q, hq, R⟩
   ·exact PRes.did H R (by simp only [apure, h1, h3, Option.bind_some]; cases E.desc t with | none => rfl | some d => cases d <;> rfl)
   ·refine R.did ?_ (by simp only [aread, h1, h3, Option.bind_some]; exact hq)
    simp only [apure, h1, h3, Option.bind_some]
    cases E.desc t with
    | none => rfl
    | some d => cases d <;> rfl
  | mapUpdate t m k v =>
   obtain ⟨mv, h1, h2⟩ := ev1 (E := E) L N S hev (x := m) (by simp [Op.operands])
   obtain ⟨kv, h3, h4⟩ := ev1 (E := E) L N S hev (x := k) (by simp [Op.operands])
   obtain ⟨vv, h5, h6⟩ := ev1 (E := E) L N S hev (x := v) (by simp [Op.operands])
   exact wmapUpdate_ok L H hw h2 h4 h6 rfl rfl rfl (by simp only [aeff, h1, h3, h5, Option.bind_some]; rfl)
  | extract t i =>
   obtain ⟨v, h1, h2⟩ := ev1 (E := E) L N S hev (x := t) (by simp [Op.operands])
   simp only at hw
   split at hw
   ·rename_i vs he
    rw [he] at h2
    obtain ⟨a, rfl, h3⟩ := h2.inv_tup
    split at hw
    ·rename_i w hi
     obtain ⟨hK, _⟩ := force_iff hw
     have hlt := (List.getElem?_eq_some_iff.1 hi).1
     have hlt2 : i < a.toList.length := by rw [← h3.1]; exact hlt
     obtain ⟨x, hx⟩ : ∃ x, a.toList[i]? = some x := ⟨_, List.getElem?_eq_getElem hlt2⟩
     exact Did.pure H (x := x) (by simp only [apure, h1, Option.bind_some]; exact hx) (h3.2 i w x hi hx) hK
    ·exact hw.elim
   ·exact hw.elim
  | call q =>
   obtain ⟨callee, qargs, argTypes⟩ := q
   simp only at hw
   split at hw
   ·rename_i b
    have hevA : qargs.toList.all (evOk T) = true := by simpa [Op.operands, Call.operands] using hev
    obtain ⟨vs, h1, h2⟩ := vevs_rel (E := E) L N S hevA
    exact wbuiltin_ok L H hw h2 h1
   ·rename_i g
    have he : evOk T g = true ∧ qargs.toList.all (evOk T) = true := by simpa [Op.operands, Call.operands] using hev
    obtain ⟨gv, h1, h2⟩ := vev_rel (E := E) L N S he.1
    obtain ⟨vs, h3, h4⟩ := vevs_rel (E := E) L N S he.2
    split at hw
    ·rename_i g' a b hg
     rw [hg] at h2
     cases h2 with
     | clo hs ha ht hk =>
      rename_i a' k'
      have ha' : VRs c ρ F h a a'.toList := ⟨by simpa using hs, fun i t v q1 q2 => ha i t v q1 (by simpa using q2)⟩
      have hk' : VRs c ρ F h b k'.toList := ⟨by simpa using ht, fun i t v q1 q2 => hk i t v q1 (by simpa using q2)⟩
      refine wcall_ok NX H (L.still g') hw ((ha'.append h4).append hk') rfl rfl rfl ?_
      simp only [aeff, h3, h1, Option.bind_some]
    ·exact hw.elim
   ·exact hw.elim
  | _ => exact hw.elim
end
end Go.M
namespace Go.M
open Go
def LiveAt (h : AHeap) (b : Nat) : Prop := (∃ cs, h.rd b = some cs) ∨ ∃ ob, h.get b = some ob ∧ ∀ cs f t th, ob ≠ .cells cs f t th
theorem Mem.live {X : Cx} {ρ : Gh} {F : Nat → Prop} {o : Ob} {c : Nat} {h : AHeap} (H : Mem X ρ F o c h) {m : Nat} {y : TO} {b : Nat} (hl : look o m = some y) (hb : atB ρ m b) : LiveAt h b := by
 obtain ⟨Sm, hO⟩ := H.objs hl
 cases hO with
 | cells h1 hg ht hc =>
  rcases hb with hb | ⟨z, l, hb⟩ <;> rw [h1] at hb <;> cases hb
  exact .inl (⟨_, rd_of (fam_of hg hg) ht (by unfold AHeap.cellsOf; rw [hg])⟩)
 | map h1 hg => rcases hb with hb | ⟨z, l, hb⟩ <;> rw [h1] at hb <;> cases hb; exact .inr ⟨_, hg, by simp⟩
 | maq h1 hg => rcases hb with hb | ⟨z, l, hb⟩ <;> rw [h1] at hb <;> cases hb; exact .inr ⟨_, hg, by simp⟩
 | bag h1 hg => rcases hb with hb | ⟨z, l, hb⟩ <;> rw [h1] at hb <;> cases hb; exact .inr ⟨_, hg, by simp⟩
 | nil h1 => rcases hb with hb | ⟨z', l, hb⟩ <;> rw [h1] at hb <;> cases hb
 | qnil h1 => rcases hb with hb | ⟨z', l, hb⟩ <;> rw [h1] at hb <;> cases hb
 | arr h1 hg hf ht => rcases hb with hb | ⟨z', l, hb⟩ <;> rw [h1] at hb <;> cases hb; exact .inl (⟨_, rd_of hf ht (by unfold AHeap.cellsOf; rw [hg])⟩)
 | arq h1 hg hf ht => rcases hb with hb | ⟨z', l, hb⟩ <;> rw [h1] at hb <;> cases hb; exact .inl (⟨_, rd_of hf ht (by unfold AHeap.cellsOf; rw [hg])⟩)
theorem nmO_look : ∀ {o : Ob} {m : Nat}, m ∈ nmO o → ∃ y, look o m = some y
 | [], m, h => by simp [nmO] at h
 | p :: o, m, h => by
  rw [look_cons]
  by_cases e : p.1 = m
  ·exact ⟨p.2, by simp [e]⟩
  ·rw [if_neg e]
   simp only [nmO, List.mem_cons] at h
   rcases h with h | h
   ·exact absurd h.symm e
   ·exact nmO_look h
def isNm : TV → Bool
 | .mp _ => true
 | .ptr _ _ => true
 | _ => false
def CellsNm (ρ : Gh) (o : Ob) (h : AHeap) : Prop := ∀ n cs p v, look o n = some (.cells cs) → cs[p]? = some v → isNm v = true → ∃ b x, ρ n = some (.blk b) ∧ readCells h b p 1 = some [x] ∧ NmVal ρ v x
theorem Mem.cellsNm {X : Cx} {ρ : Gh} {F : Nat → Prop} {o : Ob} {c : Nat} {h : AHeap} (H : Mem X ρ F o c h) : CellsNm ρ o h := by
 intro n cs p v hl hp hv
 obtain ⟨Sm, hO⟩ := H.objs hl
 cases hO with
 | cells hb hg ht hc =>
  rename_i S b thr cv
  obtain ⟨S1, S2, S3, _, a1, a2, a3⟩ := hc.part p 1
  have hlt := (List.getElem?_eq_some_iff.1 hp).1
  have e1 : (cs.drop p).take 1 = [v] := by
   rw [List.drop_eq_getElem_cons hlt, List.take_succ_cons, List.take_zero]
   rw [(List.getElem?_eq_some_iff.1 hp).2]
  rw [e1] at a2
  have hV := a2.vrs (fun t v hv hf => hv.fzmono hf) (by cases v <;> first | rfl | simp [isNm] at hv)
  obtain ⟨x, m1, e2, hx, hm1⟩ := hV.1.inv_cons
  obtain rfl := hm1.inv_nil
  have hlen := hc.len
  have hrd := rd_of (fam_of hg hg) ht (cellsOf_get hg)
  refine ⟨b, x, hb, ?_, ?_⟩
  ·unfold readCells
   rw [hrd]
   simp only [Option.bind_some, takeN_some]
   exact ⟨by rw [List.length_drop]; omega, e2.symm⟩
  ·cases v with
   | mp k => cases hx with | mp h1 => exact .inl ⟨_, _, rfl, h1, rfl⟩
   | ptr k q => cases hx with | ptr h1 => exact .inr ⟨_, _, _, rfl, h1, rfl⟩
   | _ => simp [isNm] at hv
inductive TrOk (oF : Ob) : Gh → (Nat → Prop) → Ob → AHeap → List VN → List LogE → Prop
 | nil {ρ : Gh} {F : Nat → Prop} {h : AHeap} (hcl : CellsNm ρ oF h) : TrOk oF ρ F oF h [] []
 | cons {ρ ρ' : Gh} {F F' : Nat → Prop} {o o' : Ob} {h h' : AHeap} {l : VL} {e : LogE} {ls : List VN} {es : List LogE} (hl : LogOk ρ F o h ρ' o' h' l e) (hw : Wf h) (hs : h.size ≤ h'.size) (hF : ∀ b, F b → F' b) (frz : ∀ b cs, F b → h.rd b = some cs → h'.rd b = some cs)
  (hlv : ∀ m y b, look o m = some y → atB ρ m b → LiveAt h b) (hkn : ∀ k b, ρ k = some (.blk b) → ρ' k = some (.blk b)) (hcl : CellsNm ρ o h) (hr : TrOk oF ρ' F' o' h' ls es) : TrOk oF ρ F o h ((l, o) :: ls) (e :: es)
theorem TrOk.next {oF : Ob} {ρ : Gh} {F : Nat → Prop} {o : Ob} {h : AHeap} {ls : List VN} {es : List LogE} (H : TrOk oF ρ F o h ls es) : nextO oF ls = o ∧ CellsNm ρ o h := by
 cases H with
 | nil hcl => exact ⟨rfl, hcl⟩
 | cons _ _ _ _ _ _ _ hcl _ => exact ⟨rfl, hcl⟩
theorem wf_stay {h : AHeap} (W : Wf h) (q : RQ) : stayRQ h q = true := by
 unfold stayRQ
 rw [bif_eq]
 split
 ·rename_i hb
  split
  ·rename_i f t th hg
   rw [blt_iff] at hb ⊢
   have := W.le _ _ _ _ _ hg; omega
  ·rfl
 ·rfl
theorem rdNow_lt {h : AHeap} (W : Wf h) {q : RQ} (hn : RdNow q h) : q.blk < h.size := by
 cases q with
 | cells a b o n =>
  obtain ⟨l, h1, _⟩ := hn
  unfold readCells at h1
  simp only [Option.bind_eq_some_iff] at h1
  obtain ⟨cs, h2, _⟩ := h1
  obtain ⟨f, t, th, hg⟩ := rd_get h2
  exact W.lt hg
 | look r kd k z ok =>
  obtain ⟨m, h1, _⟩ := hn
  unfold mapAt at h1
  split at h1
  ·rename_i hg; exact W.lt hg
  ·cases h1
 | len r =>
  obtain ⟨m, h1, _⟩ := hn
  unfold mapAt at h1
  split at h1
  ·rename_i hg; exact W.lt hg
  ·cases h1
theorem rdNow_same {h h' : AHeap} {q : RQ} (hn : RdNow q h) (hg : (∃ a b o n, q = .cells a b o n) ∨ h'.get q.blk = h.get q.blk) (hr : ∀ cs, h.rd q.blk = some cs → h'.rd q.blk = some cs) : RdNow q h' ∧ sameRQ h h' q = true := by
 cases q with
 | cells a b o n =>
  obtain ⟨l, h1, h2⟩ := hn
  have h3 : readCells h' b o n = some l := by
   unfold readCells at h1 ⊢
   simp only [Option.bind_eq_some_iff] at h1 ⊢
   obtain ⟨cs, h4, h5⟩ := h1
   exact ⟨cs, hr cs h4, h5⟩
  refine ⟨⟨l, h3, h2⟩, ?_⟩
  unfold sameRQ
  rw [Bool.or_eq_true]
  left
  unfold sameRQ0
  rw [bif_eq]
  split
  ·simp only [h1, h3, h2]
  ·rfl
 | look r kd k z ok =>
  obtain ⟨m, h1, h2⟩ := hn
  have hg' : h'.get r = h.get r := by
   rcases hg with ⟨a, b, o, n, e⟩ | hg
   ·cases e
   ·exact hg
  have h3 : mapAt h' r = some m := by unfold mapAt at h1 ⊢; rw [hg']; exact h1
  refine ⟨⟨m, h3, h2⟩, ?_⟩
  unfold sameRQ
  rw [Bool.or_eq_true]
  left
  unfold sameRQ0
  rw [bif_eq]
  split
  ·simp only [h1, h3, h2]
  ·rfl
 | len r =>
  obtain ⟨m, h1, h2⟩ := hn
  have hg' : h'.get r = h.get r := by
   rcases hg with ⟨a, b, o, n, e⟩ | hg
   ·cases e
   ·exact hg
  have h3 : mapAt h' r = some m := by unfold mapAt at h1 ⊢; rw [hg']; exact h1
  refine ⟨⟨m, h3, h2⟩, ?_⟩
  unfold sameRQ
  rw [Bool.or_eq_true]
  left
  unfold sameRQ0
  rw [bif_eq]
  split
  ·simp only [h1, h3, h2]
  ·rfl
theorem sameRQ_self (h : AHeap) (q : RQ) : sameRQ h h q = true := by
 unfold sameRQ
 rw [Bool.or_eq_true]
 exact .inr (decide_eq_true (inst := Classical.propDecidable _) rfl)
section
variable {bs : List Nat} {i : Nat} {oF : Ob}
theorem drawOk_nobad : ∀ {ls : List VN} {j : Nat}, drawOk bs oF j ls = true → ∀ l ∈ ls, l.1 ≠ .bad
 | [], _, _, l, hl => by simp at hl
 | x :: ls, j, hd, l, hl => by
  have key : drawOk bs oF (j + 1) ls = true ∧ x.1 ≠ .bad := by
   obtain ⟨x, nm⟩ := x
   cases x <;> simp only [drawOk, Bool.and_eq_true] at hd
   ·exact ⟨hd, by simp⟩
   ·exact ⟨hd, by simp⟩
   ·exact ⟨hd, by simp⟩
   ·exact ⟨hd.2, by simp⟩
   ·exact ⟨hd.2, by simp⟩
   ·exact ⟨hd.2, by simp⟩
   ·exact ⟨hd.2, by simp⟩
   ·exact ⟨hd.2, by simp⟩
   ·cases hd
  rcases List.mem_cons.1 hl with rfl | h1
  ·exact key.2
  ·exact drawOk_nobad key.1 l h1
theorem passF {q : RQ} (hc : ∃ a b o n, q = .cells a b o n) {h00 : AHeap} : ∀ {ls : List VN} {es : List LogE} {ρ : Gh} {F : Nat → Prop} {o : Ob} {h : AHeap} {j : Nat}, TrOk oF ρ F o h ls es → (∀ l ∈ ls, l.1 ≠ .bad) → F q.blk → RdNow q h → allPass1 bs i (.rd q h00) j es = true
 | _, _, ρ, F, _, h, j, .nil _, _, _, _ => rfl
 | _, _, ρ, F, o, h, j, .cons (h' := h') (l := l) (e := e) hl hw hs hF frz hlv hkn hcl hr, hnb, hFq, hn => by
  obtain ⟨k1, k2⟩ := rdNow_same (h' := h') hn (.inl hc) (fun cs => frz _ cs hFq)
  have ih := passF hc (h00 := h00) (j := j + 1) hr (fun l hl => hnb l (List.mem_cons_of_mem _ hl)) (hF _ hFq) k1
  simp only [allPass1, Bool.and_eq_true]
  refine ⟨?_, ih⟩
  cases hl with
  | pure => rfl
  | alloc => exact wf_stay hw q
  | rdF => rfl
  | rdO => rfl
  | rdN => rfl
  | eff => simp [mayPass, k2]
  | effI hr hh => subst hh; simp [mayPass, sameRQ_self]
  | effG => simp [mayPass, k2]
  | bad => exact absurd rfl (hnb _ List.mem_cons_self)
theorem passO {q : RQ} {n : Nat} {h00 : AHeap} : ∀ {ls : List VN} {es : List LogE} {ρ : Gh} {F : Nat → Prop} {o : Ob} {h : AHeap} {j : Nat} {dirty : Bool}, TrOk oF ρ F o h ls es → (∀ l ∈ ls, l.1 ≠ .bad) → passR bs i n j ls dirty = true →
 (dirty = false → (∃ y, look o n = some y) ∧ atB ρ n q.blk ∧ RdNow q h) → allPass1 bs i (.rd q h00) j es = true
 | _, _, ρ, F, _, h, j, dirty, .nil _, _, _, _ => rfl
 | _, _, ρ, F, o, h, j, dirty, .cons (ρ' := ρ') (o' := o') (h' := h') (l := l) (e := e) (ls := ls) hl hw hs hF frz hlv hkn hcl hr, hnb, hp, ht => by
  have hnb' : ∀ l ∈ ls, l.1 ≠ .bad := fun l hl => hnb l (List.mem_cons_of_mem _ hl)
  -- an operation that leaves the object alone
  have quiet : ∀ ns, Raw ρ o h ρ' o' h' ns → n ∉ ns → dirty = false → ((∃ y, look o' n = some y) ∧ atB ρ' n q.blk ∧ RdNow q h') ∧ sameRQ h h' q = true := by
   intro ns hraw hns hd
   obtain ⟨⟨y, hy⟩, hat, hn⟩ := ht hd
   obtain ⟨⟨y', r1⟩, r2, r3⟩ := hraw n y hy hns
   obtain ⟨r4, r5⟩ := r3 _ hat
   obtain ⟨k1, k2⟩ := rdNow_same hn (.inr r4) r5
   exact ⟨⟨⟨y', r1⟩, by unfold atB at hat ⊢; rw [r2]; exact hat, k1⟩, k2⟩
  simp only [allPass1, Bool.and_eq_true]
  cases hl with
  | pure hraw => exact ⟨rfl, passO hr hnb' hp fun hd => (quiet _ hraw (by simp) hd).1⟩
  | alloc hraw => exact ⟨wf_stay hw q, passO hr hnb' hp fun hd => (quiet _ hraw (by simp) hd).1⟩
  | rdF hraw => exact ⟨rfl, passO hr hnb' hp fun hd => (quiet _ hraw (by simp) hd).1⟩
  | rdO hraw => exact ⟨rfl, passO hr hnb' hp fun hd => (quiet _ hraw (by simp) hd).1⟩
  | rdN hraw => exact ⟨rfl, passO hr hnb' hp fun hd => (quiet _ hraw (by simp) hd).1⟩
  | eff hraw =>
   rename_i ns
   simp only [passR] at hp
   split at hp
   ·rename_i hc
    simp only [Bool.and_eq_true] at hp
    exact ⟨by simp [mayPass, hp.1], passO hr hnb' hp.2 fun hd => by cases hd⟩
   ·rename_i hc
    have hd : dirty = false := by cases dirty <;> simp_all
    have hns : n ∉ ns := by subst hd; simpa using hc
    obtain ⟨q1, q2⟩ := quiet _ hraw hns hd
    exact ⟨by simp [mayPass, q2], passO hr hnb' hp fun _ => q1⟩
  | effI hraw hh =>
   rename_i ns
   subst hh
   simp only [passR] at hp
   refine ⟨by simp [mayPass, sameRQ_self], passO hr hnb' hp fun hd => ?_⟩
   simp only [Bool.or_eq_false_iff] at hd
   exact (quiet _ hraw (by simpa using hd.2) hd.1).1
  | effG hraw =>
   simp only [passR] at hp
   split at hp
   ·simp only [Bool.and_eq_true] at hp
    exact ⟨by simp [mayPass, hp.1], passO hr hnb' hp.2 fun hd => by cases hd⟩
   ·obtain ⟨q1, q2⟩ := quiet _ hraw (by simp) rfl
    exact ⟨by simp [mayPass, q2], passO hr hnb' hp fun _ => q1⟩
  | bad => exact absurd rfl (hnb _ List.mem_cons_self)
theorem NmVal.keep {ρ ρ' : Gh} {v : TV} {x : Value} (H : NmVal ρ v x) (hk : ∀ k b, ρ k = some (.blk b) → ρ' k = some (.blk b)) : NmVal ρ' v x := by
 rcases H with ⟨k, b, h1, h2, h3⟩ | ⟨k, q, b, h1, h2, h3⟩
 ·exact .inl ⟨k, b, h1, hk _ _ h2, h3⟩
 ·exact .inr ⟨k, q, b, h1, hk _ _ h2, h3⟩
theorem NmVal.uniq {ρ : Gh} {v : TV} {x y : Value} (H : NmVal ρ v x) (K : NmVal ρ v y) : x = y := by
 rcases H with ⟨k, b, rfl, h2, rfl⟩ | ⟨k, q, b, rfl, h2, rfl⟩ <;> rcases K with ⟨k', b', e, k2, rfl⟩ | ⟨k', q', b', e, k2, rfl⟩ <;> cases e <;> rw [h2] at k2 <;> cases k2 <;> rfl
theorem NmVal.eqL {ρ : Gh} {v : TV} {x : Value} (H : NmVal ρ v x) : eqLs [x] [x] = true ∧ isNm v = true := by
 rcases H with ⟨k, b, rfl, h2, rfl⟩ | ⟨k, q, b, rfl, h2, rfl⟩ <;> exact ⟨by simp [eqLs, eqL1], rfl⟩
theorem sameNm_eq {v w : TV} (h : sameNm v w = true) : w = v := by
 cases v <;> cases w <;> simp [sameNm] at h
 ·obtain ⟨rfl, rfl⟩ := h; rfl
 ·subst h; rfl
theorem passNm {n p b : Nat} {v : TV} {x : Value} {h00 : AHeap} : ∀ {ls : List VN} {es : List LogE} {ρ : Gh} {F : Nat → Prop} {o : Ob} {h : AHeap} {j : Nat} {dirty : Bool}, TrOk oF ρ F o h ls es → (∀ l ∈ ls, l.1 ≠ .bad) → passN bs i n p v oF j ls dirty = true →
 (dirty = false → (∃ y, look o n = some y) ∧ ρ n = some (.blk b) ∧ readCells h b p 1 = some [x] ∧ NmVal ρ v x) → allPass1 bs i (.rd (.cells false b p 1) h00) j es = true
 | _, _, ρ, F, _, h, j, dirty, .nil _, _, _, _ => rfl
 | _, _, ρ, F, o, h, j, dirty, .cons (ρ' := ρ') (o' := o') (h' := h') (l := l) (e := e) (ls := ls) hl hw hs hF frz hlv hkn hcl hr, hnb, hp, ht => by
  have hnb' : ∀ l ∈ ls, l.1 ≠ .bad := fun l hl => hnb l (List.mem_cons_of_mem _ hl)
  have same : ∀ {h1 : AHeap}, dirty = false → readCells h1 b p 1 = some [x] → sameRQ h h1 (.cells false b p 1) = true := by
   intro h1 hd h2
   obtain ⟨_, _, h3, h4⟩ := ht hd
   unfold sameRQ
   rw [Bool.or_eq_true]
   left
   unfold sameRQ0
   rw [bif_eq]
   split
   ·simp only [h3, h2, h4.eqL.1]
   ·rfl
  have quiet : ∀ ns, Raw ρ o h ρ' o' h' ns → n ∉ ns → dirty = false → (∃ y, look o' n = some y) ∧ ρ' n = some (.blk b) ∧ readCells h' b p 1 = some [x] ∧ NmVal ρ' v x := by
   intro ns hraw hns hd
   obtain ⟨⟨y, hy⟩, hb, hrd, hx⟩ := ht hd
   obtain ⟨⟨y', r1⟩, r2, r3⟩ := hraw n y hy hns
   obtain ⟨r4, r5⟩ := r3 _ (.inl hb)
   refine ⟨⟨y', r1⟩, hkn _ _ hb, ?_, hx.keep hkn⟩
   unfold readCells at hrd ⊢
   simp only [Option.bind_eq_some_iff] at hrd ⊢
   obtain ⟨cs, h4, h5⟩ := hrd
   exact ⟨cs, r5 cs h4, h5⟩
  simp only [allPass1, Bool.and_eq_true]
  cases hl with
  | pure hraw => exact ⟨rfl, passNm hr hnb' hp fun hd => quiet _ hraw (by simp) hd⟩
  | alloc hraw => exact ⟨wf_stay hw _, passNm hr hnb' hp fun hd => quiet _ hraw (by simp) hd⟩
  | rdF hraw => exact ⟨rfl, passNm hr hnb' hp fun hd => quiet _ hraw (by simp) hd⟩
  | rdO hraw => exact ⟨rfl, passNm hr hnb' hp fun hd => quiet _ hraw (by simp) hd⟩
  | rdN hraw => exact ⟨rfl, passNm hr hnb' hp fun hd => quiet _ hraw (by simp) hd⟩
  | eff hraw =>
   rename_i ns
   simp only [passN] at hp
   split at hp
   ·simp only [Bool.and_eq_true] at hp
    exact ⟨by simp [mayPass, hp.1], passNm (x := x) hr hnb' hp.2 fun hd => by cases hd⟩
   ·split at hp
    ·rename_i hc
     have hns : n ∉ ns := by simpa using hc
     have q1 := quiet _ hraw hns rfl
     exact ⟨by simp [mayPass, same rfl q1.2.2.1], passNm hr hnb' hp fun _ => q1⟩
    ·split at hp
     ·rename_i hcm
      obtain ⟨e1, e2⟩ := hr.next
      rw [e1] at hcm
      unfold cellNm at hcm
      split at hcm
      ·rename_i cs hlo
       split at hcm
       ·rename_i w hw'
        obtain rfl := sameNm_eq hcm
        obtain ⟨_, hb, _, hx⟩ := ht rfl
        obtain ⟨b', x', k1, k2, k3⟩ := e2 n cs p _ hlo hw' hx.eqL.2
        rw [hkn _ _ hb] at k1; cases k1
        obtain rfl := (hx.keep hkn).uniq k3
        exact ⟨by simp [mayPass, same rfl k2], passNm hr hnb' hp fun _ => ⟨⟨_, hlo⟩, hkn _ _ hb, k2, k3⟩⟩
       ·cases hcm
      ·cases hcm
     ·simp only [Bool.and_eq_true] at hp
      exact ⟨by simp [mayPass, hp.1], passNm (x := x) hr hnb' hp.2 fun hd => by cases hd⟩
  | effI hraw hh =>
   rename_i ns
   subst hh
   simp only [passN] at hp
   refine ⟨by simp [mayPass, sameRQ_self], passNm (x := x) hr hnb' hp fun hd => ?_⟩
   simp only [Bool.or_eq_false_iff] at hd
   exact quiet _ hraw (by simpa using hd.2) hd.1
  | effG hraw =>
   simp only [passN] at hp
   split at hp
   ·simp only [Bool.and_eq_true] at hp
    exact ⟨by simp [mayPass, hp.1], passNm (x := x) hr hnb' hp.2 fun hd => by cases hd⟩
   ·have q1 := quiet _ hraw (by simp) rfl
    exact ⟨by simp [mayPass, same rfl q1.2.2.1], passNm hr hnb' hp fun _ => q1⟩
  | bad => exact absurd rfl (hnb _ List.mem_cons_self)
theorem passEff {g g' : AHeap} {nm : List Nat} : ∀ {ls : List VN} {es : List LogE} {ρ : Gh} {F : Nat → Prop} {o : Ob} {h : AHeap} {tch : List Nat} {j : Nat}, TrOk oF ρ F o h ls es → (∀ l ∈ ls, l.1 ≠ .bad) → passE bs i nm tch j ls = true →
 (∀ m ∈ nm, m ∉ tch → (∃ y, look o m = some y) ∧ ∀ b, atB ρ m b → LiveAt g b ∧ g'.get b = g.get b ∧ (∀ cs, g.rd b = some cs → g'.rd b = some cs) ∧ h.get b = g.get b ∧ (∀ cs, g.rd b = some cs → h.rd b = some cs)) → allPass1 bs i (.eff g g') j es = true
 | _, _, ρ, F, _, h, tch, j, .nil _, _, _, _ => rfl
 | _, _, ρ, F, o, h, tch, j, .cons (ρ' := ρ') (o' := o') (h' := h') (l := l) (e := e) (ls := ls) hl hw hs hF frz hlv hkn hcl hr, hnb, hp, ht => by
  have hnb' : ∀ l ∈ ls, l.1 ≠ .bad := fun l hl => hnb l (List.mem_cons_of_mem _ hl)
  have next : ∀ (ms tch' : List Nat), Raw ρ o h ρ' o' h' ms → (∀ m, m ∉ tch' → m ∉ tch ∧ m ∉ ms) → ∀ m ∈ nm, m ∉ tch' → (∃ y, look o' m = some y) ∧ ∀ b, atB ρ' m b → LiveAt g b ∧ g'.get b = g.get b ∧ (∀ cs, g.rd b = some cs → g'.rd b = some cs) ∧ h'.get b = g.get b ∧ (∀ cs, g.rd b = some cs → h'.rd b = some cs) := by
   intro ms tch' hraw hms m hm hmt
   obtain ⟨q1, q2⟩ := hms m hmt
   obtain ⟨⟨y, hy⟩, hb⟩ := ht m hm q1
   obtain ⟨⟨y', r1⟩, r2, r3⟩ := hraw m y hy q2
   refine ⟨⟨y', r1⟩, fun b hab => ?_⟩
   have hab' : atB ρ m b := by unfold atB at hab ⊢; rw [← r2]; exact hab
   obtain ⟨a1, a2, a3, a4, a5⟩ := hb b hab'
   obtain ⟨b1, b2⟩ := r3 b hab'
   exact ⟨a1, a2, a3, b1.trans a4, fun cs hcs => b2 cs (a5 cs hcs)⟩
  simp only [allPass1, Bool.and_eq_true]
  cases hl with
  | pure hraw => exact ⟨rfl, passEff hr hnb' hp (next _ _ hraw fun m hm => ⟨hm, by simp⟩)⟩
  | alloc hraw => exact ⟨rfl, passEff hr hnb' hp (next _ _ hraw fun m hm => ⟨hm, by simp⟩)⟩
  | rdF hraw => simp only [passE, Bool.and_eq_true] at hp; exact ⟨by simp [mayPass, hp.1], passEff hr hnb' hp.2 (next _ _ hraw fun m hm => ⟨hm, by simp⟩)⟩
  | rdO hraw hh hy hb hn =>
   rename_i q m y
   simp only [passE, Bool.and_eq_true, Bool.or_eq_true] at hp
   refine ⟨?_, passEff hr hnb' hp.2 (next _ _ hraw fun m hm => ⟨hm, by simp⟩)⟩
   rcases hp.1 with ho | ho
   ·simp [mayPass, ho]
   ·simp only [Bool.not_eq_true'] at ho
    have hm : m ∈ nm := by simpa using ho.1
    have hmt : m ∉ tch := by simpa using ho.2
    obtain ⟨a1, a2, a3, a4, a5⟩ := (ht m hm hmt).2 _ hb
    have hng : RdNow q g := by
     cases q with
     | cells a b o' n' =>
      obtain ⟨l, r1, r2⟩ := hn
      refine ⟨l, ?_, r2⟩
      unfold readCells at r1 ⊢
      rcases a1 with ⟨cs, a1⟩ | ⟨ob, a1, a1n⟩
      ·have := a5 cs a1
       simp only [RQ.blk] at a1 this
       rw [this] at r1; rw [a1]; exact r1
      ·simp only [RQ.blk] at a1 a4
       exfalso
       simp only [Option.bind_eq_some_iff] at r1
       obtain ⟨cs, r3, _⟩ := r1
       obtain ⟨f, t, th, r4⟩ := rd_get r3
       rw [a4, a1] at r4; exact a1n _ _ _ _ (Option.some.inj r4)
     | look r kd k z ok =>
      obtain ⟨mm, r1, r2⟩ := hn
      refine ⟨mm, ?_, r2⟩
      simp only [RQ.blk] at a4
      unfold mapAt at r1 ⊢
      rw [← a4]; exact r1
     | len r =>
      obtain ⟨mm, r1, r2⟩ := hn
      refine ⟨mm, ?_, r2⟩
      simp only [RQ.blk] at a4
      unfold mapAt at r1 ⊢
      rw [← a4]; exact r1
    have := (rdNow_same hng (.inr a2) a3).2
    simp [mayPass, this]
  | rdN hraw hh hy hb0 hx hrd0 =>
   rename_i m p0 b0 v0 x0 y
   have hb : atB ρ m (RQ.blk (.cells false b0 p0 1)) := .inl hb0
   have hn : RdNow (.cells false b0 p0 1) h := ⟨_, hrd0, hx.eqL.1⟩
   simp only [passE, Bool.and_eq_true, Bool.or_eq_true] at hp
   refine ⟨?_, passEff hr hnb' hp.2 (next _ _ hraw fun m hm => ⟨hm, by simp⟩)⟩
   rcases hp.1 with ho | ho
   ·simp [mayPass, ho]
   ·simp only [Bool.not_eq_true'] at ho
    have hm : m ∈ nm := by simpa using ho.1
    have hmt : m ∉ tch := by simpa using ho.2
    obtain ⟨a1, a2, a3, a4, a5⟩ := (ht m hm hmt).2 _ hb
    have hng : RdNow (.cells false b0 p0 1) g := by
     obtain ⟨l, r1, r2⟩ := hn
     refine ⟨l, ?_, r2⟩
     unfold readCells at r1 ⊢
     rcases a1 with ⟨cs, a1⟩ | ⟨ob, a1, a1n⟩
     ·have := a5 cs a1
      simp only [RQ.blk] at a1 this
      rw [this] at r1; rw [a1]; exact r1
     ·simp only [RQ.blk] at a1 a4
      exfalso
      simp only [Option.bind_eq_some_iff] at r1
      obtain ⟨cs, r3, _⟩ := r1
      obtain ⟨f, t, th, r4⟩ := rd_get r3
      rw [a4, a1] at r4; exact a1n _ _ _ _ (Option.some.inj r4)
    have := (rdNow_same hng (.inr a2) a3).2
    simp [mayPass, this]
  | eff hraw =>
   simp only [passE, Bool.and_eq_true] at hp
   exact ⟨by simp [mayPass, hp.1], passEff hr hnb' hp.2 (next _ _ hraw fun m hm => by simp only [List.mem_append, not_or] at hm; exact hm)⟩
  | effI hraw hh =>
   simp only [passE, Bool.and_eq_true] at hp
   exact ⟨by simp [mayPass, hp.1], passEff hr hnb' hp.2 (next _ _ hraw fun m hm => by simp only [List.mem_append, not_or] at hm; exact hm)⟩
  | effG hraw =>
   simp only [passE, Bool.and_eq_true] at hp
   exact ⟨by simp [mayPass, hp.1], passEff hr hnb' hp.2 (next _ _ hraw fun m hm => ⟨hm, by simp⟩)⟩
  | bad => exact absurd rfl (hnb _ List.mem_cons_self)
theorem passIs {g : AHeap} : ∀ {ls : List VN} {es : List LogE} {ρ : Gh} {F : Nat → Prop} {o : Ob} {h : AHeap} {j : Nat}, TrOk oF ρ F o h ls es → (∀ l ∈ ls, l.1 ≠ .bad) → passI bs i j ls = true → allPass1 bs i (.eff g g) j es = true
 | _, _, ρ, F, _, h, j, .nil _, _, _ => rfl
 | _, _, ρ, F, o, h, j, .cons (ls := ls) hl hw hs hF frz hlv hkn hcl hr, hnb, hp => by
  have hnb' : ∀ l ∈ ls, l.1 ≠ .bad := fun l hl => hnb l (List.mem_cons_of_mem _ hl)
  simp only [allPass1, Bool.and_eq_true]
  cases hl with
  | pure hraw => exact ⟨rfl, passIs hr hnb' hp⟩
  | alloc hraw => exact ⟨rfl, passIs hr hnb' hp⟩
  | rdF hraw => exact ⟨by simp [mayPass, sameRQ_self], passIs hr hnb' hp⟩
  | rdO hraw => exact ⟨by simp [mayPass, sameRQ_self], passIs hr hnb' hp⟩
  | rdN hraw => exact ⟨by simp [mayPass, sameRQ_self], passIs hr hnb' hp⟩
  | eff hraw => simp only [passI, Bool.and_eq_true] at hp; exact ⟨by simp [mayPass, hp.1], passIs hr hnb' hp.2⟩
  | effI hraw => simp only [passI, Bool.and_eq_true] at hp; exact ⟨by simp [mayPass, hp.1], passIs hr hnb' hp.2⟩
  | effG hraw => simp only [passI, Bool.and_eq_true] at hp; exact ⟨by simp [mayPass, hp.1], passIs hr hnb' hp.2⟩
  | bad => exact absurd rfl (hnb _ List.mem_cons_self)
theorem rd_fwd {h h' : AHeap} (W : Wf h) (same : ∀ x, x < h.size → h'.get x = h.get x) {b : Nat} {cs : List Value} (hr : h.rd b = some cs) : h'.rd b = some cs := by
 obtain ⟨r, h1, h2, h3⟩ := rd_some hr
 obtain ⟨f1, t1, th1, hg⟩ := cellsOf_some h3
 obtain ⟨cr, hr1⟩ := fam_root h1
 obtain ⟨cs1, q1, q2, hg1⟩ := fam_cells h1
 rw [hg] at hg1; cases hg1
 have a1 := same b (W.lt hg)
 have a2 := same r.1 (W.lt hr1)
 exact rd_of (fam_of (a1.trans hg) (a2.trans hr1)) h2 (cellsOf_get (a1.trans hg))
theorem rd_back {h h' : AHeap} (W : Wf h) (same : ∀ x, x < h.size → h'.get x = h.get x) {b : Nat} (hb : b < h.size) {cs : List Value} (hr : h'.rd b = some cs) : h.rd b = some cs := by
 obtain ⟨r, h1, h2, h3⟩ := rd_some hr
 obtain ⟨f1, t1, th1, hg⟩ := cellsOf_some h3
 obtain ⟨cr, hr1⟩ := fam_root h1
 obtain ⟨cs1, q1, q2, hg1⟩ := fam_cells h1
 rw [hg] at hg1; cases hg1
 have a1 := (same b hb).symm.trans hg
 have hle := W.le _ _ _ _ _ a1
 have a2 := (same r.1 (by omega)).symm.trans hr1
 exact rd_of (fam_of a1 a2) h2 (cellsOf_get a1)
theorem seen_same {g g' h : AHeap} (W : Wf g) (hG : ∀ b, b < g.size → g'.get b = g.get b) (hq : ∀ b, b < g.size → h.get b = g.get b) {q : RQ} (hn : RdNow q h) : sameRQ g g' q = true := by
 by_cases hb : q.blk < g.size
 ·have k1 := rdNow_same (h := h) (h' := g) hn (.inr (hq _ hb).symm) fun cs hr => rd_back W hq hb hr
  exact (rdNow_same k1.1 (.inr (hG _ hb)) fun cs hr => rd_fwd W hG hr).2
 ·unfold sameRQ sameRQ0
  have e : Nat.blt q.blk g.size = false := by
   cases hx : Nat.blt q.blk g.size with
   | false => rfl
   | true => exact absurd (blt_iff.1 hx) hb
  rw [e]
  rfl
theorem passGs {g g' : AHeap} (W : Wf g) (hG : ∀ b, b < g.size → g'.get b = g.get b) : ∀ {ls : List VN} {es : List LogE} {ρ : Gh} {F : Nat → Prop} {o : Ob} {h : AHeap} {q : Bool} {j : Nat}, TrOk oF ρ F o h ls es → (∀ l ∈ ls, l.1 ≠ .bad) → passG bs i q j ls = true →
 (q = true → g.size ≤ h.size ∧ ∀ b, b < g.size → h.get b = g.get b) → allPass1 bs i (.eff g g') j es = true
 | _, _, ρ, F, _, h, q, j, .nil _, _, _, _ => rfl
 | _, _, ρ, F, o, h, q, j, .cons (ls := ls) hl hw hs hF frz hlv hkn hcl hr, hnb, hp, hq => by
  have hnb' : ∀ l ∈ ls, l.1 ≠ .bad := fun l hl => hnb l (List.mem_cons_of_mem _ hl)
  simp only [allPass1, Bool.and_eq_true]
  have rdc : ∀ {x : RQ}, (q || ordered bs i j) = true → RdNow x h → mayPass bs i (.eff g g') j (.rd x h) = true := fun {x} ho hn => by
   rcases Bool.or_eq_true _ _ ▸ ho with e | e
   ·simp [mayPass, seen_same W hG (hq e).2 hn]
   ·simp [mayPass, e]
  cases hl with
  | pure hraw hh => subst hh; exact ⟨rfl, passGs W hG hr hnb' hp hq⟩
  | alloc hraw => exact ⟨rfl, passGs W hG hr hnb' (q := false) hp fun e => by cases e⟩
  | rdF hraw hh hFq hc hn => subst hh; simp only [passG, Bool.and_eq_true] at hp; exact ⟨rdc hp.1 hn, passGs W hG hr hnb' hp.2 hq⟩
  | rdO hraw hh hy hb hn => subst hh; simp only [passG, Bool.and_eq_true] at hp; exact ⟨rdc hp.1 hn, passGs W hG hr hnb' hp.2 hq⟩
  | rdN hraw hh hy hb hx hrd => subst hh; simp only [passG, Bool.and_eq_true] at hp; exact ⟨rdc hp.1 ⟨_, hrd, hx.eqL.1⟩, passGs W hG hr hnb' hp.2 hq⟩
  | eff hraw => simp only [passG, Bool.and_eq_true] at hp; exact ⟨by simp [mayPass, hp.1], passGs W hG hr hnb' (q := false) hp.2 fun e => by cases e⟩
  | effI hraw hh => subst hh; simp only [passG, Bool.and_eq_true] at hp; exact ⟨by simp [mayPass, hp.1], passGs W hG hr hnb' hp.2 hq⟩
  | effG hraw hG2 =>
   simp only [passG, Bool.and_eq_true] at hp
   exact ⟨by simp [mayPass, hp.1], passGs W hG hr hnb' hp.2 fun e => ⟨Nat.le_trans (hq e).1 hs, fun b hb => (hG2 b (Nat.lt_of_lt_of_le hb (hq e).1)).trans ((hq e).2 b hb)⟩⟩
  | bad => exact absurd rfl (hnb _ List.mem_cons_self)
theorem passPure : ∀ {es : List LogE} {j : Nat}, allPass1 bs i .pure j es = true
 | [], _ => rfl
 | e :: es, j => by simp only [allPass1, Bool.and_eq_true]; exact ⟨by cases e <;> rfl, passPure⟩
theorem passAlloc {g g' : AHeap} (W : Wf g) : ∀ {es : List LogE} {j : Nat}, allPass1 bs i (.alloc g g') j es = true
 | [], _ => rfl
 | e :: es, j => by
  simp only [allPass1, Bool.and_eq_true]
  exact ⟨by cases e <;> first | rfl | exact wf_stay W _, passAlloc W⟩
theorem draw_pass : ∀ {ls : List VN} {es : List LogE} {ρ : Gh} {F : Nat → Prop} {o : Ob} {h : AHeap} {j : Nat}, TrOk oF ρ F o h ls es → drawOk bs oF j ls = true → allPass bs j es = true
 | _, _, ρ, F, _, h, j, .nil _, _ => rfl
 | _, _, ρ, F, o, h, j, .cons (h' := h') (l := l) (e := e) (ls := ls) hl hw hs hF frz hlv hkn hcl hr, hd => by
  have hnb := drawOk_nobad hd
  have hnb' : ∀ l ∈ ls, l.1 ≠ .bad := fun l hl => hnb l (List.mem_cons_of_mem _ hl)
  simp only [allPass, Bool.and_eq_true]
  cases hl with
  | pure => exact ⟨⟨rfl, passPure⟩, draw_pass hr hd⟩
  | alloc => exact ⟨⟨rfl, passAlloc hw⟩, draw_pass hr hd⟩
  | rdF hraw hh hFq hc hn => subst hh; exact ⟨⟨by simp only [growsL, blt_iff]; exact rdNow_lt hw hn, passF hc hr hnb' (hF _ hFq) hn⟩, draw_pass hr hd⟩
  | rdO hraw hh hy hb hn =>
   subst hh
   simp only [drawOk, Bool.and_eq_true] at hd
   refine ⟨⟨by simp only [growsL, blt_iff]; exact rdNow_lt hw hn, passO hr hnb' hd.1 fun _ => ?_⟩, draw_pass hr hd.2⟩
   obtain ⟨⟨y', r1⟩, r2, _⟩ := hraw _ _ hy (by simp)
   exact ⟨⟨y', r1⟩, by unfold atB at hb ⊢; rw [r2]; exact hb, hn⟩
  | rdN hraw hh hy hb hx hrd =>
   rename_i nn pp bb vv xx yy
   subst hh
   simp only [drawOk, Bool.and_eq_true] at hd
   have hn : RdNow (.cells false _ _ 1) _ := ⟨_, hrd, hx.eqL.1⟩
   refine ⟨⟨by simp only [growsL, blt_iff]; exact rdNow_lt hw hn, passNm (x := xx) hr hnb' hd.1 fun _ => ?_⟩, draw_pass hr hd.2⟩
   obtain ⟨⟨y', r1⟩, r2, _⟩ := hraw _ _ hy (by simp)
   exact ⟨⟨y', r1⟩, hkn _ _ hb, hrd, hx.keep hkn⟩
  | eff hraw =>
   simp only [drawOk, Bool.and_eq_true] at hd
   refine ⟨⟨by simp only [growsL, ble_iff]; exact hs, passEff hr hnb' hd.1 fun m hm hmt => ?_⟩, draw_pass hr hd.2⟩
   obtain ⟨y, hy⟩ := nmO_look hm
   obtain ⟨⟨y', r1⟩, r2, r3⟩ := hraw m y hy hmt
   refine ⟨⟨y', r1⟩, fun b hb => ?_⟩
   have hb' : atB ρ m b := by unfold atB at hb ⊢; rw [← r2]; exact hb
   obtain ⟨b1, b2⟩ := r3 b hb'
   exact ⟨hlv m y b hy hb', b1, b2, b1, b2⟩
  | effI hraw hh =>
   subst hh
   simp only [drawOk, Bool.and_eq_true] at hd
   exact ⟨⟨by simp only [growsL, ble_iff]; exact hs, passIs hr hnb' hd.1⟩, draw_pass hr hd.2⟩
  | effG hraw hG =>
   simp only [drawOk, Bool.and_eq_true, Bool.or_eq_true] at hd
   refine ⟨⟨by simp only [growsL, ble_iff]; exact hs, ?_⟩, draw_pass hr hd.2⟩
   rcases hd.1 with hd1 | hd1
   ·exact passGs hw hG hr hnb' hd1 fun _ => ⟨hs, hG⟩
   ·refine passEff hr hnb' hd1 fun m hm hmt => ?_
    obtain ⟨y, hy⟩ := nmO_look hm
    obtain ⟨⟨y', r1⟩, r2, r3⟩ := hraw m y hy hmt
    refine ⟨⟨y', r1⟩, fun b hb => ?_⟩
    have hb' : atB ρ m b := by unfold atB at hb ⊢; rw [← r2]; exact hb
    obtain ⟨b1, b2⟩ := r3 b hb'
    exact ⟨hlv m y b hy hb', b1, b2, b1, b2⟩
  | bad => exact absurd rfl (hnb _ List.mem_cons_self)
end
section
variable {T E : Env} {X : Cx} {ρ : Gh} {F : Nat → Prop} {o : Ob} {c n : Nat} {af : AF} {f : Fr} {h : AHeap} {ops : List Oper}
theorem fget_cons (p : Nat × TV) (f : Fr) (t : Nat) : fget (p :: f) t = if p.1 = t then p.2 else fget f t := by
 show (match Nat.beq p.1 t with | true => p.2 | false => fget f t) = _
 rw [nbeq]; by_cases h : p.1 = t <;> simp [h]
theorem wput_ok {d : Option Tmp} {v : TV} {x : Value} {K : Fr → Prop} (hw : wput d n v f K) (S : vSlots c ρ F h f af) (hn : af.n = n) (hv : VR c ρ F h v x) : ∃ f', K f' ∧ vSlots c ρ F h f' (af.put d x) ∧ (af.put d x).n = n := by
 unfold wput at hw
 cases d with
 | none => exact ⟨f, hw, S, hn⟩
 | some t =>
  simp only at hw
  split at hw
  ·rename_i ht
   rw [blt_iff] at ht
   refine ⟨_, hw, fun u => ?_, by rw [AF.n_put]; exact hn⟩
   rw [fget_cons]
   show VR c ρ F h _ ((af.set t x).get u)
   rw [AF.get_set]
   by_cases e : t = u
   ·subst e; rw [if_pos rfl, if_pos ⟨rfl, by omega⟩]; exact hv
   ·rw [if_neg e, if_neg (fun e2 => e e2.1.symm)]; exact S u
  ·exact hw.elim
theorem wguard_ok {p : Oper} {K1 K2 : Prop} (hw : wguard ops p f K1 K2) (S : vSlots c ρ F h f af) : (wanted ops p af = true ∧ K1) ∨ (wanted ops p af = false ∧ K2) := by
 unfold wguard at hw
 unfold wanted
 split at hw
 ·rename_i hg; rw [hg]; exact .inl ⟨rfl, hw⟩
 ·rename_i j want hg
  rw [hg]
  simp only
  split at hw
  ·exact hw.elim
  ·rename_i q hq
   rw [hq]
   simp only [Option.bind_some]
   split at hw
   ·exact hw.elim
   ·rename_i t ht
    rw [ht]
    simp only
    split at hw
    ·rename_i b hb
     have := S t
     rw [hb] at this
     rw [this.inv_s.1]
     simp only
     cases b <;> cases want <;> simp only at hw <;> simp [hw]
    ·rename_i hb
     have := S t
     rw [hb] at this
     obtain ⟨a, ha, hl⟩ := this.inv_tup
     rw [ha]
     exact .inr ⟨rfl, hw⟩
    ·exact hw.elim
theorem wops_ok (L : EnvLe T E) (NX : TabX E X) {K : RK} : ∀ (rest : List Oper) {ρ : Gh} {F : Nat → Prop} {o : Ob} {c : Nat} {f : Fr} {af : AF} {h : AHeap}, wops T (VC E) n ops rest f o c K → Mem X ρ F o c h → vSlots c ρ F h f af → af.n = n →
 ∃ n0 af' h' f' o' c' ρ' F', (∀ m, n0 ≤ m → aops E X.base (acall E X.base m) (aroundB X.base (aeval E X.base m)) ops rest af h = some (af', h')) ∧ K f' o' c' ∧ Nx X ρ F o c h ρ' F' o' c' h' ∧ vSlots c' ρ' F' h' f' af' ∧ af'.n = n
 | [], ρ, F, o, c, f, af, h, hw, H, S, hn => ⟨0, af, h, f, o, c, ρ, F, fun m _ => rfl, hw, .refl H, S, hn⟩
 | p :: rest, ρ, F, o, c, f, af, h, hw, H, S, hn => by
  simp only [wops] at hw
  rcases wguard_ok hw S with ⟨hwant, hw⟩ | ⟨hwant, hw⟩
  ·obtain ⟨n1, r, v, o1, c1, ρ1, F1, lg, h1, h2, N, hv, _⟩ := wop_ok L NX H S hw
   have S1 : vSlots c1 ρ1 F1 r.h f af := fun t => N.keep _ _ (S t)
   obtain ⟨f1, h3, S2, hn2⟩ := wput_ok h2 S1 hn hv
   obtain ⟨n2, af', h', f', o', c', ρ', F', k1, k2, N2, k3, k4⟩ := wops_ok L NX rest h3 N.mem S2 hn2
   refine ⟨max n1 n2, af', h', f', o', c', ρ', F', fun m hm => ?_, k2, ⟨N2.mem, fun t x hx => N2.keep t x (N.keep t x hx), Nat.le_trans N.size N2.size, fun b hb => N2.FF b (N.FF b hb), fun b cs hb hr => N2.frz b cs (N.FF b hb) (N.frz b cs hb hr)⟩, k3, k4⟩
   unfold aops
   rw [hwant]
   simp only
   rw [h1 m (by omega)]
   simp only [Option.bind_some]
   exact k1 m (by omega)
  ·obtain ⟨f1, h3, S2, hn2⟩ := wput_ok hw S hn (show VR _ _ _ _ (.tup []) undef from .tup rfl fun i t v h => by simp at h)
   obtain ⟨n2, af', h', f', o', c', ρ', F', k1, k2, N2, k3, k4⟩ := wops_ok L NX rest h3 H S2 hn2
   refine ⟨n2, af', h', f', o', c', ρ', F', fun m hm => ?_, k2, N2, k3, k4⟩
   unfold aops
   rw [hwant]
   exact k1 m hm
theorem wopsL_ok (L : EnvLe T E) (NX : TabX E X) {K : List VN → RK} : ∀ (rest : List Oper) {ρ : Gh} {F : Nat → Prop} {o : Ob} {c : Nat} {f : Fr} {af : AF} {h : AHeap} {lg : List VN}, wopsL T (VC E) n ops rest f o c lg K → Mem X ρ F o c h → vSlots c ρ F h f af → af.n = n →
 ∃ n0 af' h' es f' o' c' ρ' F' ls, (∀ m, n0 ≤ m → aopsL E X.base (acall E X.base m) (aroundB X.base (aeval E X.base m)) ops rest af h = some (af', h', es)) ∧ K (lg ++ ls) f' o' c' ∧ Nx X ρ F o c h ρ' F' o' c' h' ∧ vSlots c' ρ' F' h' f' af' ∧ af'.n = n ∧
  TrOk o' ρ F o h ls es
 | [], ρ, F, o, c, f, af, h, lg, hw, H, S, hn => ⟨0, af, h, [], f, o, c, ρ, F, [], fun m _ => rfl, by simpa [wopsL] using hw, .refl H, S, hn, .nil H.cellsNm⟩
 | p :: rest, ρ, F, o, c, f, af, h, lg, hw, H, S, hn => by
  simp only [wopsL] at hw
  rcases wguard_ok hw S with ⟨hwant, hw⟩ | ⟨hwant, hw⟩
  ·obtain ⟨n1, r, v, o1, c1, ρ1, F1, l, h1, h2, N, hv, hlog⟩ := wop_ok L NX H S hw
   have S1 : vSlots c1 ρ1 F1 r.h f af := fun t => N.keep _ _ (S t)
   obtain ⟨f1, h3, S2, hn2⟩ := wput_ok h2 S1 hn hv
   obtain ⟨n2, af', h', es, f', o', c', ρ', F', ls, k1, k2, N2, k3, k4, k5⟩ := wopsL_ok L NX rest h3 N.mem S2 hn2
   refine ⟨max n1 n2, af', h', r.log :: es, f', o', c', ρ', F', (l, o) :: ls, fun m hm => ?_, by simpa using k2, ⟨N2.mem, fun t x hx => N2.keep t x (N.keep t x hx), Nat.le_trans N.size N2.size, fun b hb => N2.FF b (N.FF b hb), fun b cs hb hr => N2.frz b cs (N.FF b hb) (N.frz b cs hb hr)⟩, k3, k4,
    .cons hlog H.wf N.size N.FF N.frz (fun m y b hy hb => H.live hy hb) (fun k b hk => by cases N.keep _ _ (VR.mp (c := c) (F := F) (h := h) hk) with | mp h' => exact h') H.cellsNm k5⟩
   unfold aopsL
   rw [hwant]
   simp only
   rw [h1 m (by omega)]
   simp only [Option.bind_some]
   rw [k1 m (by omega)]
   rfl
  ·obtain ⟨f1, h3, S2, hn2⟩ := wput_ok hw S hn (show VR _ _ _ _ (.tup []) undef from .tup rfl fun i t v h => by simp at h)
   obtain ⟨n2, af', h', es, f', o', c', ρ', F', ls, k1, k2, N2, k3, k4, k5⟩ := wopsL_ok L NX rest h3 H S2 hn2
   refine ⟨n2, af', h', .pure :: es, f', o', c', ρ', F', (.pure, o) :: ls, fun m hm => ?_, by simpa using k2, N2, k3, k4, .cons (.pure (.refl _) rfl) H.wf (Nat.le_refl _) (fun _ h => h) (fun _ _ _ hr => hr) (fun m y b hy hb => H.live hy hb) (fun _ _ h => h) H.cellsNm k5⟩
   unfold aopsL
   rw [hwant]
   simp only
   rw [k1 m hm]
   rfl
end
end Go.M
namespace Go.M
open Go
section
variable {T E : Env} {X : Cx} {n : Nat}
theorem leF_look {ids : List (Option Nat)} {o : Ob} {f f1 : Fr} {t : Nat} (L : LeF ids o f f1) : leV ids o (fget f t) (fget f1 t) ∨ fget f1 t = .j := by
 induction L with
 | nil => exact .inr rfl
 | cons h _ ih =>
  rw [fget_cons]
  split
  ·rename_i e; subst e; exact .inl h
  ·exact ih
theorem adapt {ρ : Gh} {F : Nat → Prop} {o : Ob} {c : Nat} {f : Fr} {af : AF} {h : AHeap} (H : Mem X ρ F o c h) (S : vSlots c ρ F h f af) {sh : List Nat} {ids : List (Option Nat)} {U : List Nat} {f1 : Fr} {o1 : Ob} (hi : (idsOk c ids && idPre X.c0 0 ids && giveOk ids U) = true)
 (hf : LeF ids (shareAll sh o) f f1) (ho : LeO ids (shareAll sh o) U o1) : ∃ ρ' F', Mem X ρ' F' o1 ids.length h ∧ vSlots ids.length ρ' F' h f1 af := by
 simp only [Bool.and_eq_true] at hi
 obtain ⟨F1, S1⟩ := shareAll_ok H sh
 refine ⟨_, F1, S1.mem.le hi.1.1 hi.1.2 hi.2 ho, fun t => ?_⟩
 rcases leF_look (t := t) hf with h1 | h1
 ·exact leV_rel S1.mem _ _ _ h1 (S1.keep _ _ (S t))
 ·rw [h1]; exact .j _
def Runs (E : Env) (base : Nat) (code : Code) (af : AF) (h : AHeap) (r : Ex × AF × AHeap) : Prop := ∃ n0, ∀ m, n0 ≤ m → aeval E base m code af h = some r
def Comes (E : Env) (X : Cx) (n : Nat) (code : Code) (af : AF) (h : AHeap) (Q : CK) : Prop :=
 ∃ ex af' h' f' o' c' ρ' F', Runs E X.base code af h (ex, af', h') ∧ Q ex f' o' c' ∧ Mem X ρ' F' o' c' h' ∧ vSlots c' ρ' F' h' f' af' ∧ af'.n = n
theorem Runs.seqN {a b : Code} {af af1 : AF} {h h1 : AHeap} {r : Ex × AF × AHeap} {base : Nat} (A : Runs E base a af h (.normal, af1, h1)) (B : Runs E base b af1 h1 r) : Runs E base (.seq a b) af h r := by
 obtain ⟨n1, A⟩ := A
 obtain ⟨n2, B⟩ := B
 refine ⟨max n1 n2 + 1, fun m hm => ?_⟩
 obtain ⟨k, rfl⟩ : ∃ k, m = k + 1 := ⟨m - 1, by omega⟩
 simp only [aeval]
 rw [A k (by omega)]
 exact B k (by omega)
theorem Runs.seqX {a b : Code} {af af1 : AF} {h h1 : AHeap} {ex : Ex} {base : Nat} (A : Runs E base a af h (ex, af1, h1)) (hx : ex ≠ .normal) : Runs E base (.seq a b) af h (ex, af1, h1) := by
 obtain ⟨n1, A⟩ := A
 refine ⟨n1 + 1, fun m hm => ?_⟩
 obtain ⟨k, rfl⟩ : ∃ k, m = k + 1 := ⟨m - 1, by omega⟩
 simp only [aeval]
 rw [A k (by omega)]
 cases ex <;> first | rfl | exact absurd rfl hx
theorem Runs.loopN {b : Code} {af af1 : AF} {h h1 : AHeap} {r : Ex × AF × AHeap} {base : Nat} (A : Runs E base b af h (.normal, af1, h1)) (B : Runs E base (.loop b) af1 h1 r) : Runs E base (.loop b) af h r := by
 obtain ⟨n1, A⟩ := A
 obtain ⟨n2, B⟩ := B
 refine ⟨max n1 n2 + 1, fun m hm => ?_⟩
 obtain ⟨k, rfl⟩ : ∃ k, m = k + 1 := ⟨m - 1, by omega⟩
 simp only [aeval]
 rw [A k (by omega)]
 exact B k (by omega)
theorem Runs.loopX {b : Code} {af af1 : AF} {h h1 : AHeap} {ex : Ex} {base : Nat} (A : Runs E base b af h (ex, af1, h1)) (hx : ex ≠ .normal) : Runs E base (.loop b) af h (ex, af1, h1) := by
 obtain ⟨n1, A⟩ := A
 refine ⟨n1 + 1, fun m hm => ?_⟩
 obtain ⟨k, rfl⟩ : ∃ k, m = k + 1 := ⟨m - 1, by omega⟩
 simp only [aeval]
 rw [A k (by omega)]
 cases ex <;> first | rfl | exact absurd rfl hx
theorem Runs.one {c : Code} {af : AF} {h : AHeap} {r : Ex × AF × AHeap} {base : Nat} (hx : ∀ k, aeval E base (k + 1) c af h = some r) : Runs E base c af h r :=
 ⟨1, fun m hm => by obtain ⟨k, rfl⟩ : ∃ k, m = k + 1 := ⟨m - 1, by omega⟩; exact hx k⟩
theorem toldAs_ok {ρ : Gh} {F : Nat → Prop} {o : Ob} {c : Nat} {f : Fr} {af : AF} {h : AHeap} {K : RK} (H : Mem X ρ F o c h) (S : vSlots c ρ F h f af) (ht : toldAs X.c0 f o c K) : ∃ f1 o1 c1 ρ' F', K f1 o1 c1 ∧ Mem X ρ' F' o1 c1 h ∧ vSlots c1 ρ' F' h f1 af := by
 obtain ⟨sh, ids, U, f1, o1, ⟨hf, ho, hi⟩, hK⟩ := ht
 obtain ⟨ρ', F', H', S'⟩ := adapt H S hi hf ho
 exact ⟨f1, o1, _, ρ', F', hK, H', S'⟩
theorem wp_ok {cuts : List Nat} (L : EnvLe T E) (NX : TabX E X) : ∀ (code : Code) {ρ : Gh} {F : Nat → Prop} {o : Ob} {c : Nat} {f : Fr} {af : AF} {h : AHeap} {Q : CK}, wp T (VC E) n X.c0 cuts code f o c Q → Mem X ρ F o c h → vSlots c ρ F h f af → af.n = n → Comes E X n code af h Q := by
 intro code
 induction code with
 | skip => intro ρ F o c f af h Q hw H S hn; exact ⟨.normal, af, h, f, o, c, ρ, F, .one fun k => rfl, hw, H, S, hn⟩
 | exit id => intro ρ F o c f af h Q hw H S hn; exact ⟨.exit id, af, h, f, o, c, ρ, F, .one fun k => rfl, hw, H, S, hn⟩
 | ret => intro ρ F o c f af h Q hw H S hn; exact ⟨.ret, af, h, f, o, c, ρ, F, .one fun k => rfl, hw, H, S, hn⟩
 | region id ops draw =>
  intro ρ F o c f af h Q hw H S hn
  simp only [wp] at hw
  cases draw with
  | false =>
   obtain ⟨n0, af', h', f', o', c', ρ', F', k1, k2, N, k3, k4⟩ := wops_ok L NX ops.toList hw H S hn
   refine ⟨.normal, af', h', f', o', c', ρ', F', ⟨n0 + 1, fun m hm => ?_⟩, k2, N.mem, k3, k4⟩
   obtain ⟨k, rfl⟩ : ∃ k, m = k + 1 := ⟨m - 1, by omega⟩
   simp only [aeval, aregion]
   have := k1 k (by omega)
   unfold acall at this
   rw [this]; rfl
  | true =>
   simp only at hw
   split at hw
   ·rename_i hst
    obtain ⟨n0, af', h', es, f', o', c', ρ', F', ls, k1, k2, N, k3, k4, k5⟩ := wopsL_ok L NX ops.toList hw H S hn
    simp only [List.nil_append] at k2
    split at k2
    ·rename_i hd
     refine ⟨.normal, af', h', f', o', c', ρ', F', ⟨n0 + 1, fun m hm => ?_⟩, k2, N.mem, k3, k4⟩
     obtain ⟨k, rfl⟩ : ∃ k, m = k + 1 := ⟨m - 1, by omega⟩
     simp only [aeval, aregion]
     have := k1 k (by omega)
     unfold acall at this
     rw [hn, hst, this]
     simp only [grd, Option.bind_some]
     rw [draw_pass k5 hd]
    ·exact k2.elim
   ·exact hw.elim
 | seq a b iha ihb =>
  intro ρ F o c f af h Q hw H S hn
  simp only [wp] at hw
  obtain ⟨ex, af1, h1, f1, o1, c1, ρ1, F1, r1, q1, H1, S1, n1⟩ := iha hw H S hn
  cases ex with
  | normal =>
   obtain ⟨ex2, af2, h2, f2, o2, c2, ρ2, F2, r2, q2, H2, S2, n2⟩ := ihb q1 H1 S1 n1
   exact ⟨ex2, af2, h2, f2, o2, c2, ρ2, F2, r1.seqN r2, q2, H2, S2, n2⟩
  | exit id => exact ⟨.exit id, af1, h1, f1, o1, c1, ρ1, F1, r1.seqX (by simp), q1, H1, S1, n1⟩
  | ret => exact ⟨.ret, af1, h1, f1, o1, c1, ρ1, F1, r1.seqX (by simp), q1, H1, S1, n1⟩
 | cond q t e iht ihe =>
  intro ρ F o c f af h Q hw H S hn
  simp only [wp] at hw
  split at hw
  ·exact hw.elim
  ·rename_i hev
   obtain ⟨v, h1, h2⟩ := vev_rel (E := E) L ((NX.now H).sub L) S hev
   split at hw
   ·rename_i b hb
    rw [hb] at h2
    have := h2.inv_s.1; subst this
    have key : ∀ {x : Code} {r : Ex × AF × AHeap}, Runs E X.base x af h r → (∀ k, aeval E X.base (k + 1) (.cond q t e) af h = aeval E X.base k x af h) → Runs E X.base (.cond q t e) af h r := by
     rintro x r ⟨n0, hr⟩ hk
     refine ⟨n0 + 1, fun m hm => ?_⟩
     obtain ⟨k, rfl⟩ : ∃ k, m = k + 1 := ⟨m - 1, by omega⟩
     rw [hk]; exact hr k (by omega)
    split at hw
    ·obtain ⟨ex, af1, h1', f1, o1, c1, ρ1, F1, r1, q1, H1, S1, n1⟩ := iht hw H S hn
     exact ⟨ex, af1, h1', f1, o1, c1, ρ1, F1, key r1 fun k => by simp only [aeval, h1, Option.bind_some, asB], q1, H1, S1, n1⟩
    ·obtain ⟨ex, af1, h1', f1, o1, c1, ρ1, F1, r1, q1, H1, S1, n1⟩ := ihe hw H S hn
     exact ⟨ex, af1, h1', f1, o1, c1, ρ1, F1, key r1 fun k => by simp only [aeval, h1, Option.bind_some, asB], q1, H1, S1, n1⟩
   ·exact hw.elim
 | block id b ih =>
  intro ρ F o c f af h Q hw H S hn
  simp only [wp] at hw
  have key : ∀ {n0 : Nat} {ex2 : Ex} {af1 : AF} {h1 : AHeap}, (∀ k, n0 ≤ k → aeval E X.base (k + 1) (.block id b) af h = some (ex2, af1, h1)) → Runs E X.base (.block id b) af h (ex2, af1, h1) := fun {n0} {ex2} {af1} {h1} hk =>
   ⟨n0 + 1, fun m hm => by obtain ⟨k, rfl⟩ : ∃ k, m = k + 1 := ⟨m - 1, by omega⟩; exact hk k (by omega)⟩
  split at hw
  ·obtain ⟨ex, af1, h1, f1, o1, c1, ρ1, F1, ⟨n0, r1⟩, q1, H1, S1, n1⟩ := ih hw H S hn
   cases ex with
   | normal => exact ⟨.normal, af1, h1, f1, o1, c1, ρ1, F1, key (n0 := n0) fun k hk => by simp only [aeval, r1 k hk], q1, H1, S1, n1⟩
   | ret => exact ⟨.ret, af1, h1, f1, o1, c1, ρ1, F1, key (n0 := n0) fun k hk => by simp only [aeval, r1 k hk], q1, H1, S1, n1⟩
   | exit id' =>
    simp only at q1
    split at q1
    ·rename_i hid
     exact ⟨.normal, af1, h1, f1, o1, c1, ρ1, F1, key (n0 := n0) fun k hk => by simp only [aeval, r1 k hk, hid, cond_true], q1, H1, S1, n1⟩
    ·rename_i hid
     exact ⟨.exit id', af1, h1, f1, o1, c1, ρ1, F1, key (n0 := n0) fun k hk => by simp only [aeval, r1 k hk, hid, cond_false], q1, H1, S1, n1⟩
  ·obtain ⟨Mid, hw, hmid⟩ := hw
   obtain ⟨ex, af1, h1, f1, o1, c1, ρ1, F1, ⟨n0, r1⟩, q1, H1, S1, n1⟩ := ih hw H S hn
   cases ex with
   | normal =>
    obtain ⟨f2, o2, c2, ρ2, F2, hM, H2, S2⟩ := toldAs_ok H1 S1 q1
    exact ⟨.normal, af1, h1, f2, o2, c2, ρ2, F2, key (n0 := n0) fun k hk => by simp only [aeval, r1 k hk], hmid _ _ _ hM, H2, S2, n1⟩
   | ret => exact ⟨.ret, af1, h1, f1, o1, c1, ρ1, F1, key (n0 := n0) fun k hk => by simp only [aeval, r1 k hk], q1, H1, S1, n1⟩
   | exit id' =>
    simp only at q1
    split at q1
    ·rename_i hid
     obtain ⟨f2, o2, c2, ρ2, F2, hM, H2, S2⟩ := toldAs_ok H1 S1 q1
     exact ⟨.normal, af1, h1, f2, o2, c2, ρ2, F2, key (n0 := n0) fun k hk => by simp only [aeval, r1 k hk, hid, cond_true], hmid _ _ _ hM, H2, S2, n1⟩
    ·rename_i hid
     exact ⟨.exit id', af1, h1, f1, o1, c1, ρ1, F1, key (n0 := n0) fun k hk => by simp only [aeval, r1 k hk, hid, cond_false], q1, H1, S1, n1⟩
 | loop b ih =>
  intro ρ F o c f af h Q hw H S hn
  simp only [wp] at hw
  obtain ⟨Inv, ⟨k0, hI⟩, hstep⟩ := hw
  obtain ⟨f1, o1, c1, ρ1, F1, hI1, H1, S1⟩ := toldAs_ok H S hI
  have main : ∀ (k : Nat) {ρ : Gh} {F : Nat → Prop} {o : Ob} {c : Nat} {f : Fr} {af : AF} {h : AHeap}, Inv k f o c → Mem X ρ F o c h → vSlots c ρ F h f af → af.n = n → Comes E X n (.loop b) af h Q := by
   intro k
   induction k using Nat.strongRecOn with
   | ind k ihk =>
    intro ρ F o c f af h hI H S hn
    obtain ⟨ex, af1, h1, f1, o1, c1, ρ1, F1, r1, q1, H1, S1, n1⟩ := ih (hstep k f o c hI) H S hn
    cases ex with
    | normal =>
     obtain ⟨k', ht, hlt⟩ := q1
     obtain ⟨f2, o2, c2, ρ2, F2, hI2, H2, S2⟩ := toldAs_ok H1 S1 ht
     obtain ⟨ex, af3, h3, f3, o3, c3, ρ3, F3, r3, q3, H3, S3, n3⟩ := ihk k' hlt hI2 H2 S2 n1
     exact ⟨ex, af3, h3, f3, o3, c3, ρ3, F3, r1.loopN r3, q3, H3, S3, n3⟩
    | exit id => exact ⟨.exit id, af1, h1, f1, o1, c1, ρ1, F1, r1.loopX (by simp), q1, H1, S1, n1⟩
    | ret => exact ⟨.ret, af1, h1, f1, o1, c1, ρ1, F1, r1.loopX (by simp), q1, H1, S1, n1⟩
  exact main k0 hI1 H1 S1 hn
 | _ => intro ρ F o c f af h Q hw H S hn; exact hw.elim
end
end Go.M
