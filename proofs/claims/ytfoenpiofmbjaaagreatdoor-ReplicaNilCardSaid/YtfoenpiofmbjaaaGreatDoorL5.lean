/-
  Part 5 of the library that the proof leans on.
-/
import Derived.Shelf.SlIterI.Nil
import Derived.KernelRfl
import Derived.Test.YtfoenpiofmbjaaaGreatDoorChecked
import Derived.OpenShut
import Derived.ChangeArms
import Derived.Test.YtfoenpiofmbjaaaGreatDoorL4
namespace Go.M
open Go
section
variable {P : Program} {E : Env} {μ : Emb} {f : AF} {a : Act} {base B : Nat} {h : AHeap} {w : World}
theorem ERels.get' {l l' : List MapEntry} (hs : ERels μ l l') : ∀ (i : Nat) (e' : MapEntry), l'[i]? = some e' → ∃ e, l[i]? = some e ∧ VRel μ e.key e'.key ∧ VRel μ e.val e'.val ∧ e.born = e'.born := by
 induction hs with
 | nil => intro i e' h; simp at h
 | cons q1 q2 q3 _ ih =>
  intro i e' h
  cases i with
  | zero => simp at h; subst h; exact ⟨_, rfl, q1, q2, q3⟩
  | succ i => simpa using ih i e' (by simpa using h)
theorem run_choose_lt (n : Nat) (hn : 0 < n) (w : World) : ∃ i d, i < n ∧ (choose (.mapNext n)).run P w = .ok i { w with drawn := d } := by
 rw [run_choose]
 by_cases hf : (Question.mapNext n).forced = true
 ·rw [if_pos hf]; exact ⟨0, w.drawn, hn, rfl⟩
 ·rw [if_neg hf]
  exact ⟨_, w.drawn + 1, Nat.mod_lt _ hn, rfl⟩
theorem meet_some {l : List (Option Out)} {o : Out} (h : meet l = some o) : ∀ x ∈ l, x = some o := by
 cases l with
 | nil => intro x hx; simp at hx
 | cons y ys =>
  simp only [meet, Option.bind_eq_some_iff, grd_some, Option.some.injEq, List.all_eq_true] at h
  obtain ⟨o', rfl, h2, rfl⟩ := h
  intro x hx
  rcases List.mem_cons.1 hx with rfl | hx
  ·rfl
  ·have := h2 x hx
   cases x with
   | none => simp at this
   | some o2 => simp only at this; rw [eqLs_eq this]
theorem nextK_sim (H : HRel E base B μ h w) {r : Nat} {m : MT} {K : KV} {out : Out} (ty : TypeId) (hk : nextK h r base K = some out) (hb : μ r = some m) :
 ∃ v h' v' w', K v h' = some out ∧ (Instr.next (.pointer (some ⟨m.r, 0, none⟩)) false ty).run P w = .ok v' w' ∧ VRel μ v v' ∧ Step E base B μ h w μ h' w' := by
 unfold nextK at hk
 simp only [grd_some, ble_iff] at hk
 obtain ⟨hbase, hk⟩ := hk
 obtain ⟨o1, o2, k1, k2, k3⟩ := H.obj r m hb
 split at hk
 ·rename_i since seen last hg
  rw [hg] at k1; cases k1
  cases k3 with
  | miter0 hms =>
   have hgo := run_getObj_map (P := P) k2 (fun _ _ _ => by simp)
   refine ⟨_, _, _, w, hk, ?_, .tuple_of (by simpa using VRels.cons (.bool μ false) .nil), .refl H⟩
   unfold Instr.next
   simp only [Sem.run_bind, hgo, Result.andThen_ok]
   rfl
 ·rename_i mm since seen last hg
  rw [hg] at k1; cases k1
  cases k3 with
  | miter hkm hms =>
   rename_i mk
   have hgo := run_getObj_map (P := P) k2 (fun _ _ _ => by simp)
   split at hk
   ·rename_i es clock hgm
    obtain ⟨p1, p2, j1, j2, j3⟩ := H.obj mm mk hkm
    rw [hgm] at j1; cases j1
    cases j3 with
    | map hs =>
     rename_i es'
     have hgom := run_getObj_map (P := P) j2 (fun _ _ _ => by simp)
     simp only [grd_some] at hk
     obtain ⟨hc1, hk⟩ := hk
     have hlen := hs.length
     have hemp : es'.isEmpty = es.isEmpty := by
      cases es <;> cases h9 : es'.toList <;> rw [h9] at hlen <;> simp at hlen
      ·have : es' = #[] := by apply Array.ext'; simp [h9]
       simp [this]
      ·have : es'.size ≠ 0 := by have := congrArg List.length h9; simp at this; omega
       simp [Array.isEmpty, this]
     have hall : (es'.all fun e => decide (e.born ≥ last)) = es.all (fun e => Nat.ble last e.born) := by
      rw [← Array.all_toList, ← hs.all_born (fun n => decide (n ≥ last))]
      congr 1
      funext e
      rw [Bool.eq_iff_iff, ble_iff]; simp
     have hcond : (!seen.toArray.isEmpty && !es'.isEmpty && es'.all fun e => decide (e.born ≥ last)) = false := by
      rw [hemp, hall]
      have : seen.toArray.isEmpty = seen.isEmpty := by cases seen <;> simp
      rw [this]
      simpa only [Bool.not_eq_true'] using hc1
     have hfil := hs.filter (fun n => !seen.contains n)
     have hleft : (es'.filter fun e => !seen.toArray.contains e.born).toList = es'.toList.filter (fun e => !seen.contains e.born) := by
      simp
     generalize hL : (es'.filter fun e => !seen.toArray.contains e.born) = left at hleft
     split at hk
     ·rename_i hf
      rw [hf] at hfil
      have hl0 : left = #[] := by
       apply Array.ext'
       rw [hleft]
       cases hfil' : es'.toList.filter (fun e => !seen.contains e.born) with
       | nil => rfl
       | cons x y => rw [hfil'] at hfil; cases hfil
      refine ⟨_, _, _, w, hk, ?_, .tuple_of (by simpa using VRels.cons (.bool μ false) .nil), .refl H⟩
      unfold Instr.next
      simp only [Sem.run_bind, hgo, hgom, Result.andThen_ok, hcond, Bool.false_eq_true, if_false, hL, hl0]
      simp [Question.forced]
     ·rename_i e0 l0 hf
      rw [← hf] at hk
      rw [← hleft] at hfil
      have hk0 := meet_some hk
      have hk : ∀ e ∈ es.filter (fun e => !seen.contains e.born), e.born < since ∧ K (.tuple #[.bool true, e.key, e.val]) (h.put r (.miter (some mm) since (seen ++ [e.born]) clock)) = some out := fun e he => by
       have := hk0 _ (List.mem_map_of_mem he)
       simp only [grd_some, blt_iff] at this
       exact this
      have hsz : 0 < left.size := by
       have := hfil.length
       rw [hf] at this
       simp at this; omega
      have hold : ∀ x ∈ left, x.born < since := by
       intro x hx
       obtain ⟨i, hi⟩ := List.mem_iff_getElem?.1 (by simpa using hx : x ∈ left.toList)
       obtain ⟨e, h1, _, _, h4⟩ := hfil.get' i x hi
       rw [← h4]
       exact (hk e (List.mem_of_getElem? h1)).1
      have f1 : (left.filter fun x => decide (x.born < since)) = left := by
       apply Array.filter_eq_self.2
       intro x hx; simpa using hold x hx
      have f2 : (left.filter fun x => decide (x.born ≥ since)) = #[] := by
       apply Array.filter_eq_empty_iff.2
       intro x hx
       have := hold x hx
       simp; omega
      have f3 : left.isEmpty = false := by
       cases hle : left.isEmpty with
       | false => rfl
       | true =>
        have : left = #[] := by simpa using hle
        rw [this] at hsz; simp at hsz
      obtain ⟨i, d, hi, hch⟩ := run_choose_lt (P := P) left.size hsz w
      have hgi := Array.getElem?_eq_getElem hi
      obtain ⟨e, h1, h2, h3, h4⟩ := hfil.get' i left[i] (by rw [Array.getElem?_toList]; exact hgi)
      obtain ⟨hbe, hKe⟩ := hk e (List.mem_of_getElem? h1)
      have Hd := H.congr (w' := { w with drawn := d }) rfl
      have hso := fun o => run_setObj' (P := P) (w := { w with drawn := d }) (o := o) k2 (fun _ _ _ => by simp)
      have st := Step.put (o := .miter (some mm) since (seen ++ [e.born]) clock) Hd hb hbase hg rfl rfl (Upd.set { w with drawn := d } m.r (.mapIter (some mk.r) since (seen.toArray.push left[i].born) clock) (Hd.lt hb)) (by
       have := ORel.miter (μ := μ) (h := h.put r (.miter (some mm) since (seen ++ [e.born]) clock)) (base := base) (b := r) (m := m) (since := since) (last := clock) (seen := seen ++ [e.born]) hkm hms
       rw [h4] at this ⊢
       simpa using this)
      refine ⟨_, _, _, _, hKe, ?_, .tuple_of (by simpa using VRels.cons (.bool μ true) (.cons h2 (.cons h3 .nil))), (Step.drawn H d).trans st⟩
      unfold Instr.next
      simp only [Sem.run_bind, hgo, hgom, Result.andThen_ok, hcond, Bool.false_eq_true, if_false, hL, f1, f2, f3]
      have f4 : (#[] ++ (left ++ #[]).map some : Array (Option MapEntry)) = left.map some := by simp
      rw [f4]
      simp only [Array.size_map, hch, Result.andThen_ok, Array.getElem?_map, hgi, Option.map_some, Sem.run_bind, hso, Sem.run_pure]
   ·cases hk
 ·cases hk
end
end Go.M
namespace Go.M
open Go
def RetK (E : Env) (base B : Nat) (μ : Emb) (h : AHeap) (w : World) (K : KV) (out : Out) : Ending → World → Prop :=
 fun e w' => ∃ v v' h' μ', K v h' = some out ∧ e = .returned v' ∧ VRel μ' v v' ∧ Step E base B μ h w μ' h' w'
def CallOkK (P : Program) (E : Env) (base B : Nat) (cK : CallK) : Prop :=
 ∀ (μ : Emb) (h : AHeap) (w : World) (g : FuncId) (args : List Value) (args' : Array Value) (K : KV) (out : Out), cK g args h K = some out → VRels μ args args'.toList → HRel E base B μ h w →
  ∀ (F : Fence) (n : Nat), Wide F → CallsIn F n P g args' w (RetK E base B μ h w K out)
def RoundOkK (P : Program) (E : Env) (base B : Nat) (rK : RoundK) : Prop :=
 ∀ (μ : Emb) (h : AHeap) (w : World) (l : Nat) (args : List Value) (K : KV) (out : Out) (m : MT) (f0 : AF) (ps : List Tmp) (asg body : Code) (st : LoopState) (p : Option Code) (fn : FuncId) (tmps : Array Value),
  rK l args h K = some out → h.get l = some (.loop st p f0 ps asg body) → μ l = some m → HRel E base B μ h w → FRel μ (AF.setAll (ps.zip args) f0) tmps →
  ∀ (F : Fence) (n : Nat), Wide F → RoundIn F n P m.r fn tmps asg body w (RetK E base B μ h w K out)
def CallFunK (E : Env) (cK : CallK) : Prop := ∀ g args h K out, cK g args h K = some out → (E.func g).isSome = true
def RoundFunK (rK : RoundK) : Prop := ∀ l args h K out, rK l args h K = some out → ∃ st p f0 ps asg body, h.get l = some (.loop st p f0 ps asg body) ∧ ps.length = args.length
section
variable {P : Program} {E : Env} {μ : Emb} {f : AF} {a : Act} {base B : Nat} {h : AHeap} {w : World} {cK : CallK} {rK : RoundK}
theorem noDeferK {o : Oper} {K : KV} {out : Out} {k : AHeap} (h : opK E base cK rK o f k K = some out) : ∀ c, o.op ≠ .defer c := by
 intro c hc
 unfold opK at h
 simp only [apure, aread, aalloc, aeff, hc] at h
 cases h
theorem opK_sim (hE : EnvOk P E) (hcf : CallOkK P E base B cK) (hrf : RoundOkK P E base B rK) (hcF : CallFunK E cK) (hrF : RoundFunK rK) {F : Fence} (hF : Wide F) {n : Nat} (hf : FRel μ f a.tmps) (H : HRel E base B μ h w) {o : Oper} {K : KV} {out : Out} (hr : opK E base cK rK o f h K = some out)
 {next : Act → World → Prop} {Q : Exit → Act → World → Prop} (hn : ∀ μ' v v' h' w', K v h' = some out → VRel μ' v v' → Step E base B μ h w μ' h' w' → next (a.put o.dst v') w') : o.wpIn F n P a w next Q := by
 have hg : GlobOk E μ := H.glob
 refine ⟨fun _ _ => hF.fn _, ?_⟩
 rw [Oper.semAt_eq _ _ _ (noDeferK hr)]
 unfold opK at hr
 split at hr
 ·rename_i it hop
  split at hr
  ·rename_i r hit
   simp only [Option.bind_eq_some_iff] at hit
   obtain ⟨v1, h1, h2⟩ := hit
   have e := asIter_some h2; subst e
   obtain ⟨m, hb, ex⟩ := (ev_rel hg hf h1).inv_ptr
   have hms : m.s = 0 := by
    obtain ⟨o1, o2, k1, k2, k3⟩ := H.obj r m hb
    unfold nextK at hr
    simp only [grd_some] at hr
    have hr2 := hr.2
    cases k3 with
    | siter hs => exact hs
    | miter0 hs => exact hs
    | miter _ hs => exact hs
    | _ => rw [k1] at hr2; simp at hr2
   obtain ⟨v, h', v', w', q0, q1, q2, q3⟩ := nextK_sim (P := P) H o.type hr hb
   rw [hms] at ex
   have he : (execOp a.eval o).run P w = .ok (.value v') w' := by
    unfold execOp
    rw [hop]
    simp only [ex, Nat.add_zero, Sem.run_bind]
    rw [q1]
    simp
   rw [he]
   exact hn μ v v' h' w' q0 q2 q3
  ·cases hr
 ·split at hr
  ·rename_i v hp
   obtain ⟨v', q1, q2⟩ := apure_sim hE hg hf hp
   rw [q2 w]
   exact hn μ _ v' _ w hr q1 (.refl H)
  ·split at hr
   ·rename_i q hq
    split at hr
    ·rename_i v hv
     obtain ⟨v', q1, q2⟩ := aread_sim hE hf H hq hv
     rw [q2]
     exact hn μ _ v' _ w hr q1 (.refl H)
    ·cases hr
   ·split at hr
    ·rename_i md hd hal
     obtain ⟨o', k, hv, S⟩ := aalloc_sim hE hg hf hal
     rw [S.run w]
     have st := Step.alloc (o := md.obj h.size) H (Alc.mk' w o') k (fun cs f tip thr hh => by cases md <;> simp [Made.obj] at hh; exact ⟨hh.2.1.symm, hh.2.2.1.symm⟩) (S.obj _ _ _ _ _ (upd_le H.fresh))
     exact hn _ _ _ _ _ hr (S.val _ _ _ (upd_self _ _ _)) st
    ·split at hr
     ·rename_i v h' he
      obtain ⟨μ', nx, v', w', q1, q2, q3, q4⟩ := aeff_val hE hf H he
      rw [q1]
      rcases q2 with rfl | ⟨rfl, rfl⟩
      ·exact hn μ' _ v' _ w' hr q3 q4
      ·exact hn μ' _ undef _ w' hr q3 q4
     ·rename_i g args h' he
      have hfun := hcF _ _ _ _ _ hr
      obtain ⟨args', e, q1, q2⟩ := aeff_enter hE hf H he hfun
      subst e
      rw [q2]
      refine ⟨hF.ok n, (hcf μ h' w g args args' K out hr q1 H F (n - 1) hF).mono ?_⟩
      rintro e w' ⟨v, v', h2, μ', k0, rfl, k1, k2⟩
      exact hn μ' v v' h2 w' k0 k1 k2
     ·rename_i l args h' he
      obtain ⟨st, p, f0, ps, asg, body, hl, hlen⟩ := hrF _ _ _ _ _ hr
      have hh : h' = h := by
       obtain ⟨dst, op, type, pos, after, guard⟩ := o
       cases op <;> simp only [aeff] at he <;> first | cases he | skip
       all_goals simp only [Option.bind_eq_some_iff, Option.some.injEq, Prod.mk.injEq, grd_some, reduceCtorEq, false_and, and_false, exists_false] at he
       ·obtain ⟨_, _, _, _, he⟩ := he
        split at he
        ·split at he <;> simp at he
        ·cases he
       ·obtain ⟨_, _, he⟩ := he
        split at he
        ·first | (simp at he; done) | (obtain ⟨_, _, he⟩ := he; simp at he; done) | (simp only [Option.bind_eq_some_iff] at he; obtain ⟨_, _, he⟩ := he; cases he)
        ·try simp only [Option.bind_eq_some_iff] at he
         obtain ⟨_, _, he⟩ := he
         split at he
         ·simp at he
         ·simp only [Option.some.injEq, Prod.mk.injEq] at he; exact he.2.symm
         ·cases he
        ·cases he
      subst hh
      obtain ⟨m, args', lo, _, hb, hw, q1, q2, q3⟩ := aeff_round (P := P) hf H he hl hlen
      rw [q2]
      refine ⟨hF.ok n, (hrf μ h' w l args K out m f0 ps asg body st p lo.fn _ hr hl hb H (setAll_rel q3 q1) F (n - 1) hF).mono ?_⟩
      rintro e w' ⟨v, v', h2, μ', k0, rfl, k1, k2⟩
      exact hn μ' v v' h2 w' k0 k1 k2
     ·cases hr
theorem opsK_sim (hE : EnvOk P E) (hcf : CallOkK P E base B cK) (hrf : RoundOkK P E base B rK) (hcF : CallFunK E cK) (hrF : RoundFunK rK) {F : Fence} (hF : Wide F) {n : Nat} {ops : Array Oper} {Q : Exit → Act → World → Prop} {K : AF → AHeap → Option Out} {out : Out} : ∀ (rest : List Oper) (k : Nat) (μ : Emb) (f : AF) (h : AHeap) (a : Act) (w : World),
 (∀ j, rest[j]? = ops[k + j]?) → opsK E base cK rK ops.toList rest f h K = some out → FRel μ f a.tmps → HRel E base B μ h w →
 (∀ f' h' μ' a' w', K f' h' = some out → FRel μ' f' a'.tmps → a'.defers = a.defers → Step E base B μ h w μ' h' w' → Q .normal a' w') → wpOpsIn F n P ops Q (List.range' k rest.length) a w
 | [], k, μ, f, h, a, w, _, ha, hf, H, hQ => hQ _ _ μ a w ha hf rfl (.refl H)
 | o :: rest, k, μ, f, h, a, w, hk, ha, hf, H, hQ => by
  have h0 : ops[k]? = some o := by simpa using (hk 0).symm
  have hk' : ∀ j, rest[j]? = ops[k + 1 + j]? := fun j => by have := hk (j + 1); simpa [Nat.add_assoc, Nat.add_comm 1 j] using this
  simp only [List.length_cons, List.range'_succ, wpOpsIn, h0, wanted_rel hf]
  simp only [opsK] at ha
  split at ha
  ·rename_i hw
   rw [if_pos hw]
   refine opK_sim hE hcf hrf hcF hrF hF hf H ha fun μ' v v' h' w' q0 q1 q2 => ?_
   refine opsK_sim hE hcf hrf hcF hrF hF rest (k + 1) μ' (f.put o.dst v) h' _ w' hk' q0 ((hf.mono q2.le).put q1 o.dst) q2.rel fun f2 h2 μ2 a2 w2 p0 p1 p2 p3 => ?_
   exact hQ f2 h2 μ2 a2 w2 p0 p1 (by rw [p2]; cases o.dst <;> rfl) (q2.trans p3)
  ·rename_i hw
   rw [if_neg (by rw [hw]; simp)]
   refine ⟨fun _ _ => hF.fn _, ?_⟩
   refine opsK_sim hE hcf hrf hcF hrF hF rest (k + 1) μ (f.put o.dst undef) h _ w hk' ha (hf.put (.undef μ) o.dst) H fun f2 h2 μ2 a2 w2 p0 p1 p2 p3 => ?_
   exact hQ f2 h2 μ2 a2 w2 p0 p1 (by rw [p2]; cases o.dst <;> rfl) p3
def CodeOkK (P : Program) (E : Env) (base B k : Nat) : Prop :=
 ∀ (c : Code) (f : AF) (h : AHeap) (K : KC) (out : Out), evalK E base k c f h K = some out →
  ∀ (μ : Emb) (a : Act) (w : World) (W0 : Nat) (rs : List Nat), FRel μ f a.tmps → HRel E base B μ h w → MarksOk W0 μ w a.defers rs → W0 ≤ w.heap.size →
  ∀ (F : Fence) (n : Nat) (Q : Exit → Act → World → Prop), Wide F → (F.round = none ∨ noRange c = true) →
  (∀ ex f' h' μ' a' w' rs', K ex f' h' = some out → FRel μ' f' a'.tmps → MarksOk W0 μ' w' a'.defers rs' → Step E base B μ h w μ' h' w' → Q (toExit ex) a' w') → c.wpIn F n P Q a w
theorem callFunK (run : RunK) : CallFunK E (callKB E run) := by
 intro g args h K out hr
 unfold callKB at hr
 split at hr
 ·cases hr
 ·rename_i fn hfn; rw [hfn]; rfl
theorem roundFunK (run : RunK) : RoundFunK (roundKB base run) := by
 intro l args h K out hr
 unfold roundKB at hr
 simp only [grd_some] at hr
 obtain ⟨_, hr⟩ := hr
 split at hr
 ·rename_i p f ps asg body hg
  simp only [grd_some, Bool.and_eq_true, beq_iff] at hr
  exact ⟨_, _, _, _, _, _, hg, hr.1.1.1⟩
 ·cases hr
theorem callOkK (hE : EnvOk P E) (hO : OrcOk P E base B) {k : Nat} (hk : CodeOkK P E base B k) : CallOkK P E base B (callKB E (evalK E base k)) := by
 intro μ h w g args args' K out hc hr H F n hF
 unfold callKB at hc
 split at hc
 ·cases hc
 rename_i fn h1
 split at hc
 ·rename_i r ho
  refine (hO μ h w g args args' r.1 r.2 ho hr H F n hF).mono ?_
  rintro e w' ⟨v', μ', rfl, k1, k2⟩
  exact ⟨_, v', _, μ', hc, rfl, k1, k2⟩
 ·split at hc
  ·cases hc
  rename_i c h2
  simp only [grd_some, ble_iff] at hc
  obtain ⟨hn, hc⟩ := hc
  obtain ⟨f1, f2, f3⟩ := hE.func _ _ h1
  have fin : CallsIn F.plain n P g args' w (RetK E base B μ h w K out) := by
   refine callsIn_of_wp_marks f1 h2 (hF.fn _) ?_ rfl
   refine hk c _ h _ out hc μ _ w w.heap.size [] (enter_rel hr hn) H .nil (Nat.le_refl _) F.plain n _ hF.plain (.inl rfl) ?_
   intro ex fe he μ' a' w' rs' q0 q1 q2 q3
   have lv : ∀ vs, aresults E he fe fn.results.toList = some vs → K (oneOrTuple vs) he = some out → LeavesInM F.plain n P fn a'.tmps (RetK E base B μ h w K out) a'.defers .returning w' := fun vs h3 h4 =>
    leaves_marks a'.defers rs' w' q2 q3 fun w2 s2 => by
     obtain ⟨v', p1, p2⟩ := results_sim (P := P) hE q1 s2.rel h3
     exact ⟨v', p1, _, v', _, μ', h4, rfl, p2, s2⟩
   cases ex with
   | exit id => simp at q0
   | normal =>
    simp only at q0
    split at q0
    ·rename_i vs h3; exact lv vs h3 q0
    ·cases q0
   | ret =>
    simp only at q0
    split at q0
    ·rename_i vs h3; exact lv vs h3 q0
    ·cases q0
  exact fin
end
end Go.M
namespace Go.M
open Go
section
variable {P : Program} {E : Env} {base B : Nat}
theorem roundOkK {k : Nat} (hk : CodeOkK P E base B k) : RoundOkK P E base B (roundKB base (evalK E base k)) := by
 intro μ h w l args K out m f0 ps asg body st p fn tmps hr hl hb H hf F n hF
 unfold roundKB at hr
 simp only [grd_some, ble_iff] at hr
 obtain ⟨hbase, hr⟩ := hr
 rw [hl] at hr
 cases st with
 | ready =>
  simp only [grd_some, Bool.and_eq_true, beq_iff] at hr
  obtain ⟨⟨⟨hlen, hna⟩, hnb⟩, hr⟩ := hr
  refine roundIn_of_wpIn (hF.fn _) ?_
  refine hk asg _ h _ out hr μ _ w w.heap.size [] hf H .nil (Nat.le_refl _) (F.inRound m.r) n _ (hF.inRound _) (.inr hna) ?_
  intro ex1 f1 h1 μ1 a1 w1 rs1 q0 q1 q2 s1
  cases ex1 with
  | exit id => simp at q0
  | ret => simp at q0
  | normal =>
   simp only at q0
   split at q0
   ·rename_i p1 f01 ps1 asg1 body1 hl1
    have hb1 := s1.le _ _ hb
    obtain ⟨lo1, e1, e2, e3, s2⟩ := loop_put s1.rel hb1 hbase hl1 .busy p1
    have s2' : Step E base B μ1 h1 w1 μ1 (h1.put l (.loop .busy p1 f01 ps1 asg1 body1)) { w1 with heap := w1.heap.setIfInBounds m.r (.loop { lo1 with state := .busy }) } := by
     rw [← e3] at s2 ⊢
     exact s2
    refine ⟨{ w1 with heap := w1.heap.setIfInBounds m.r (.loop { lo1 with state := .busy }) }, ?_, ?_⟩
    ·unfold Instr.beginRound
     simp only [Sem.run_bind, run_getLoop (P := P) e1, Result.andThen_ok, run_setObj' (P := P) e1 (fun _ _ _ => by simp), e2, Sem.run_pure]
    refine hk body f1 _ _ out q0 μ1 a1 _ w.heap.size rs1 q1 s2'.rel (q2.step s2') (by rw [Array.size_setIfInBounds]; exact s1.grow.size) (F.inRound m.r) n _ (hF.inRound _) (.inr hnb) ?_
    intro ex f2 h2 μ3 a3 w3 rs3 q0 q3 q4 s3
    have sall := (s1.trans s2')
    have hb3 := s3.le _ _ hb1
    split at q0
    ·rename_i st2 p2 f02 ps2 asg2 body2 hl2
     have key : ∀ (st' : LoopState) (jump : Option Code), (jump.isNone = true → st' = .ready) → (jump.isNone = false → st' = .done) → ∃ w4, (Instr.endRound m.r jump).run P w3 = .ok (.bool jump.isNone) w4 ∧ Step E base B μ3 h2 w3 μ3 (h2.put l (.loop st' jump f02 ps2 asg2 body2)) w4 := by
      intro st' jump hj1 hj2
      obtain ⟨lo3, d1, d2, d3, s4⟩ := loop_put s3.rel hb3 hbase hl2 st' jump
      refine ⟨_, ?_, s4⟩
      unfold Instr.endRound
      simp only [Sem.run_bind, run_getLoop (P := P) d1, Result.andThen_ok, run_setObj' (P := P) d1 (fun _ _ _ => by simp), Sem.run_pure]
      cases hj : jump.isNone with
      | true => rw [hj1 hj]; simp
      | false => rw [hj2 hj]; simp
     cases ex with
     | normal =>
      obtain ⟨w4, k1, k2⟩ := key .ready none (fun _ => rfl) (fun h => by simp at h)
      exact ⟨_, w4, k1, _, _, _, μ3, q0, rfl, .bool _ _, (sall.trans s3).trans k2⟩
     | ret =>
      obtain ⟨w4, k1, k2⟩ := key .done (some .ret) (fun h => by simp at h) (fun _ => rfl)
      exact ⟨_, w4, k1, _, _, _, μ3, q0, rfl, .bool _ _, (sall.trans s3).trans k2⟩
     | exit id =>
      obtain ⟨w4, k1, k2⟩ := key .done (some (.exit id)) (fun h => by simp at h) (fun _ => rfl)
      exact ⟨_, w4, k1, _, _, _, μ3, q0, rfl, .bool _ _, (sall.trans s3).trans k2⟩
    ·cases q0
   ·cases q0
 | busy => cases hr
 | done => cases hr
 | exhausted => cases hr
theorem codeOkK (hE : EnvOk P E) (hO : OrcOk P E base B) (hD : DrawSim P E base B) : ∀ k, CodeOkK P E base B k ∧
 (∀ (b : Code) (f : AF) (h : AHeap) (K : KC) (out : Out), evalK E base k (.loop b) f h K = some out →
  ∀ (μ : Emb) (a : Act) (w : World) (W0 : Nat) (rs : List Nat), FRel μ f a.tmps → HRel E base B μ h w → MarksOk W0 μ w a.defers rs → W0 ≤ w.heap.size →
  ∀ (F : Fence) (n : Nat) (Q : Exit → Act → World → Prop), Wide F → (F.round = none ∨ noRange b = true) →
  (∀ ex f' h' μ' a' w' rs', K ex f' h' = some out → FRel μ' f' a'.tmps → MarksOk W0 μ' w' a'.defers rs' → Step E base B μ h w μ' h' w' → Q (toExit ex) a' w') → Code.roundsIn F n P b Q k a w) := by
 intro k
 induction k with
 | zero => exact ⟨fun c f h K out hr => by simp [evalK] at hr, fun b f h K out hr => by simp [evalK] at hr⟩
 | succ k ih =>
  obtain ⟨hk, hloop⟩ := ih
  have hcall := callOkK hE hO hk
  have hround := roundOkK hk
  have loopk : ∀ (b : Code) (f : AF) (h : AHeap) (K : KC) (out : Out), evalK E base (k + 1) (.loop b) f h K = some out →
   ∀ (μ : Emb) (a : Act) (w : World) (W0 : Nat) (rs : List Nat), FRel μ f a.tmps → HRel E base B μ h w → MarksOk W0 μ w a.defers rs → W0 ≤ w.heap.size →
   ∀ (F : Fence) (n : Nat) (Q : Exit → Act → World → Prop), Wide F → (F.round = none ∨ noRange b = true) →
   (∀ ex f' h' μ' a' w' rs', K ex f' h' = some out → FRel μ' f' a'.tmps → MarksOk W0 μ' w' a'.defers rs' → Step E base B μ h w μ' h' w' → Q (toExit ex) a' w') → Code.roundsIn F n P b Q (k + 1) a w := by
   intro b f h K out hr μ a w W0 rs hf H hm hW F n Q hF hrg hQ
   simp only [evalK] at hr
   rw [roundsIn_succ]
   refine hk b f h _ out hr μ a w W0 rs hf H hm hW F n _ hF hrg fun ex f1 h1 μ1 a1 w1 rs1 q0 q1 q2 s1 => ?_
   cases ex with
   | normal => exact hloop b f1 h1 K out q0 μ1 a1 w1 W0 rs1 q1 s1.rel q2 (Nat.le_trans hW s1.grow.size) F n Q hF hrg fun ex f2 h2 μ2 a2 w2 rs2 p0 p1 p2 s2 => hQ ex f2 h2 μ2 a2 w2 rs2 p0 p1 p2 (s1.trans s2)
   | exit id => exact hQ _ f1 h1 μ1 a1 w1 rs1 q0 q1 q2 s1
   | ret => exact hQ _ f1 h1 μ1 a1 w1 rs1 q0 q1 q2 s1
  refine ⟨?_, loopk⟩
  intro c f h K out hr μ a w W0 rs hf H hm hW F n Q hF hrg hQ
  cases c with
  | skip => exact wpIn_skip (hQ .normal f h μ a w rs (by simpa [evalK] using hr) hf hm (.refl H))
  | exit id => exact wpIn_exit (hQ (.exit id) f h μ a w rs (by simpa [evalK] using hr) hf hm (.refl H))
  | ret => exact wpIn_ret (hQ .ret f h μ a w rs (by simpa [evalK] using hr) hf hm (.refl H))
  | seq x y =>
   simp only [evalK] at hr
   have hx : F.round = none ∨ noRange x = true := hrg.imp (fun h => h) fun h => by simp [noRange] at h; exact h.1
   have hy : F.round = none ∨ noRange y = true := hrg.imp (fun h => h) fun h => by simp [noRange] at h; exact h.2
   refine wpIn_seq ?_
   refine hk x f h _ out hr μ a w W0 rs hf H hm hW F n _ hF hx fun ex f1 h1 μ1 a1 w1 rs1 q0 q1 q2 s1 => ?_
   cases ex with
   | normal => exact hk y f1 h1 K out q0 μ1 a1 w1 W0 rs1 q1 s1.rel q2 (Nat.le_trans hW s1.grow.size) F n Q hF hy fun ex f2 h2 μ2 a2 w2 rs2 p0 p1 p2 s2 => hQ ex f2 h2 μ2 a2 w2 rs2 p0 p1 p2 (s1.trans s2)
   | exit id => exact hQ _ f1 h1 μ1 a1 w1 rs1 q0 q1 q2 s1
   | ret => exact hQ _ f1 h1 μ1 a1 w1 rs1 q0 q1 q2 s1
  | cond cx x y =>
   simp only [evalK] at hr
   have hx : F.round = none ∨ noRange x = true := hrg.imp (fun h => h) fun h => by simp [noRange] at h; exact h.1
   have hy : F.round = none ∨ noRange y = true := hrg.imp (fun h => h) fun h => by simp [noRange] at h; exact h.2
   cases hb : (ev E f cx).bind asB with
   | none => rw [hb] at hr; cases hr
   | some b =>
    simp only [Option.bind_eq_some_iff] at hb
    obtain ⟨v, h1, h2⟩ := hb
    have hb : (ev E f cx).bind asB = some b := by simp [h1, h2]
    rw [hb] at hr
    have e := asB_some h2; subst e
    have hc := (ev_rel H.glob hf h1).inv_scalar rfl
    cases b with
    | true => exact wpIn_cond_true hc (hk x f h K out hr μ a w W0 rs hf H hm hW F n Q hF hx hQ)
    | false => exact wpIn_cond_false hc (hk y f h K out hr μ a w W0 rs hf H hm hW F n Q hF hy hQ)
  | block id b =>
   simp only [evalK] at hr
   have hb' : F.round = none ∨ noRange b = true := hrg.imp (fun h => h) fun h => by simpa [noRange] using h
   refine wpIn_block ?_
   refine hk b f h _ out hr μ a w W0 rs hf H hm hW F n _ hF hb' fun ex f1 h1 μ1 a1 w1 rs1 q0 q1 q2 s1 => ?_
   cases ex with
   | normal => exact hQ _ f1 h1 μ1 a1 w1 rs1 q0 q1 q2 s1
   | ret => exact hQ _ f1 h1 μ1 a1 w1 rs1 q0 q1 q2 s1
   | exit id' =>
    simp only [bif_eq] at q0
    show (if id' = id then Q .normal a1 w1 else Q (.exit id') a1 w1)
    by_cases e : id' = id
    ·rw [if_pos (beq_iff.2 e)] at q0
     rw [if_pos e]; exact hQ _ f1 h1 μ1 a1 w1 rs1 q0 q1 q2 s1
    ·rw [if_neg (fun hh => e (beq_iff.1 hh))] at q0
     rw [if_neg e]; exact hQ _ f1 h1 μ1 a1 w1 rs1 q0 q1 q2 s1
  | loop b =>
   exact wpIn_loop_rounds (k + 1) (loopk b f h K out hr μ a w W0 rs hf H hm hW F n Q hF (hrg.imp (fun h => h) fun h => by simpa [noRange] using h) hQ)
  | region id ops draw =>
   simp only [evalK] at hr
   cases draw with
   | false =>
    refine wpIn_region ?_
    have := opsK_sim hE hcall hround (callFunK _) (roundFunK _) hF (n := n) (ops := ops) (Q := Q) ops.toList 0 μ f h a w (fun j => by simp) hr hf H fun f' h' μ1 a1 w1 q0 q1 q2 s1 => hQ _ f' h' μ1 a1 w1 rs q0 q1 (by rw [q2]; exact hm.step s1) s1
    rw [List.range_eq_range', ← Array.length_toList]
    exact this
   | true =>
    simp only at hr
    split at hr
    ·rename_i ex f' h' hreg
     have hreg2 : aeval E base (k + 1) (.region id ops true) f h = some (ex, f', h') := by simpa only [aeval] using hreg
     exact (codeOk hE hO hD (k + 1)).1 _ f h ex f' h' hreg2 μ a w W0 rs hf H hm hW F n Q hF hrg fun μ' a' w' rs' q1 q2 s1 => hQ ex f' h' μ' a' w' rs' hr q1 q2 s1
    ·cases hr
  | rangeFunc g ps asg body =>
   have hro : F.round = none := hrg.resolve_right (by simp [noRange])
   simp only [evalK] at hr
   split at hr
   ·rename_i gid first captured h1
    simp only [grd_some, ble_iff] at hr
    obtain ⟨hbase, hc⟩ := hr
    have hgr := ev_rel H.glob hf h1
    generalize hq : a.eval g = q at hgr
    cases hgr with
    | lit hh => simp [plain1] at hh
    | func t1 t2 t3 t4 =>
     rename_i first' captured'
     refine wpIn_rangeFunc fun fn _ => ?_
     let wA : World := { w with heap := w.heap.push (.deferred (some [])) }
     let lo : Loop := { state := .ready, pending := none, fn := fn, tmps := a.tmps, params := ps, assign := asg, body := body, defers := w.heap.size }
     let wB : World := { wA with heap := wA.heap.push (.loop lo) }
     have sA : Step E base B μ h w μ h wA := Step.alcW H (Alc.mk' w _)
     have hszA : wA.heap.size = w.heap.size + 1 := by simp [wA]
     have sB := Step.alloc (o := .loop .ready none f ps.toList asg body) sA.rel (Alc.mk' wA (.loop lo)) 0 (fun _ _ _ _ hh => by cases hh) (by
      have := ORel.loop (μ := upd μ h.size ⟨wA.heap.size, 0, 0⟩) (h := h.push (.loop .ready none f ps.toList asg body)) (base := base) (b := h.size) (m := ⟨wA.heap.size, 0, 0⟩) (st := .ready) (p := none) (ps := ps.toList) (asg := asg) (body := body) (fn := fn) (d := w.heap.size) (hf.mono (upd_le H.fresh))
      simpa using this)
     let mk : Deferred := { target := .collected w.heap.size, args := #[] }
     have hmk : MarkOk W0 μ wA mk w.heap.size := ⟨rfl, by simp [wA], fun b m hb he => by have := H.lt hb; omega, hW⟩
     have hnr : w.heap.size ∉ rs := by
      have : ∀ {ds : List Deferred} {rs : List Nat}, MarksOk W0 μ w ds rs → ∀ r ∈ rs, r < w.heap.size := by
       intro ds rs k
       induction k with
       | nil => intro r hr; simp at hr
       | cons h1 _ _ ih => intro r hr; rcases List.mem_cons.1 hr with rfl | hr
                           ·exact (Array.getElem?_eq_some_iff.1 h1.obj).1
                           ·exact ih r hr
      intro hmem
      have := this hm _ hmem
      omega
     have hmarks : MarksOk W0 μ wA (mk :: a.defers) (w.heap.size :: rs) := .cons hmk hnr (hm.step sA)
     let args' : Array Value := first' ++ #[.func (.yield wA.heap.size) #[] #[]] ++ captured'
     have hfun := callFunK (E := E) _ _ _ _ _ _ hc
     obtain ⟨fnr, hfnr⟩ := Option.isSome_iff_exists.1 hfun
     obtain ⟨g1, g2, g3⟩ := hE.func _ _ hfnr
     have hbn : fnr.body.isNone = false := by cases hx : fnr.body <;> simp_all
     have hargs : VRels (upd μ h.size ⟨wA.heap.size, 0, 0⟩) (first.toList ++ [.func (.yield h.size) #[] #[]] ++ captured.toList) args'.toList := by
      have hle : μ.le (upd μ h.size ⟨wA.heap.size, 0, 0⟩) := upd_le H.fresh
      have v1 := (VRels.of_arr t1 t2).mono hle
      have v3 := (VRels.of_arr t3 t4).mono hle
      have v2 := VRels.cons (VRel.yield (upd_self μ h.size ⟨wA.heap.size, 0, 0⟩)) .nil
      simpa [args'] using (v1.append v2).append v3
     refine ⟨wA.heap.size, [mk], wB, { target := .fn (.func gid) captured', args := first' ++ #[.func (.yield wA.heap.size) #[] #[]] }, wB, gid, args', wB, ?_, ?_, fun _ _ => hF.fn _, ?_, hF.ok n, ?_⟩
     ·rw [hro]
      unfold Instr.enterLoop
      simp only [Sem.run_bind, run_newObj, Result.andThen_ok, Sem.run_pure]
      rfl
     ·have hcv : ∀ v : Value, a.eval (.const v) = v := fun _ => rfl
      simp [resolve, rangeCall, hq, Deferred.ofValue, Sem.run_pure, hcv]
     ·simp only [invoke, callFunc, Sem.run_bind, run_program, Result.andThen_ok, g1, g3, hbn, Bool.false_eq_true, if_false, Sem.run_pure]
      rfl
     ·refine (hcall _ _ wB gid _ args' _ out hc hargs sB.rel F (n - 1) hF).mono ?_
      rintro e w3 ⟨rv, v', h2, μ3, q0, rfl, k1, s3⟩
      have hb3 : μ3 h.size = some ⟨wA.heap.size, 0, 0⟩ := s3.le _ _ (upd_self _ _ _)
      simp only at q0
      split at q0
      ·rename_i st p f0 ps0 asg0 body0 hl
       simp only [grd_some] at q0
       obtain ⟨hst, q0⟩ := q0
       obtain ⟨lo3, d1, d2, d3, s4⟩ := loop_put s3.rel hb3 hbase hl .exhausted p
       have s4' : Step E base B μ3 h2 w3 μ3 (h2.put h.size (.loop .exhausted p f0 ps0 asg0 body0)) { w3 with heap := w3.heap.setIfInBounds wA.heap.size (.loop { lo3 with state := .exhausted }) } := by
        rw [← d3] at s4 ⊢
        exact s4
       have sall := ((sA.trans sB).trans s3).trans s4'
       have hm4 : MarksOk W0 μ3 { w3 with heap := w3.heap.setIfInBounds wA.heap.size (.loop { lo3 with state := .exhausted }) } (mk :: a.defers) (w.heap.size :: rs) := ((hmarks.step sB).step s3).step s4'
       refine ⟨p, { w3 with heap := w3.heap.setIfInBounds wA.heap.size (.loop { lo3 with state := .exhausted }) }, ?_, ?_⟩
       ·unfold Instr.endLoop
        simp only [Sem.run_bind, run_getLoop (P := P) d1, Result.andThen_ok]
        rw [if_neg (by rw [d2]; intro hh; rw [bne_iff_ne] at hst; exact hst (eq_of_beq hh))]
        simp only [Sem.run_bind, run_setObj' (P := P) d1 (fun _ _ _ => by simp), Result.andThen_ok, Sem.run_pure, d3]
       ·cases p with
        | none => exact hQ _ f _ μ3 _ _ _ q0 (hf.mono sall.le) hm4 sall
        | some cj =>
         exact hk cj f _ K out q0 μ3 { a with defers := mk :: a.defers } _ W0 _ (hf.mono sall.le) s4'.rel hm4 (Nat.le_trans hW sall.grow.size) F n Q hF (.inl hro) fun ex f5 h5 μ5 a5 w5 rs5 p0 p1 p2 s5 => hQ ex f5 h5 μ5 a5 w5 rs5 p0 p1 p2 (sall.trans s5)
      ·cases q0
   ·cases hr
  | scope b => simp only [evalK] at hr; cases hr
  | label l => simp only [evalK] at hr; cases hr
  | goto l => simp only [evalK] at hr; cases hr
  | refuse s => simp only [evalK] at hr; cases hr
theorem callK_ok (hE : EnvOk P E) (hO : OrcOk P E base B) (hm : P.follows .mixedOrders = true) (n : Nat) : CallOkK P E base B (callK E base n) :=
 callOkK hE hO (codeOkK hE hO (drawSim hE hm) n).1
end
end Go.M
namespace Go.M
open Go
def outK (base : Nat) : KV := fun v h' => match v with
 | .slice (some ⟨b, o, some z⟩) len _ => (readCells h' b o (len * z)).bind fun cs => grd (Nat.ble base b && Nat.blt 0 len && cs.all scalar) (some (.bool false :: goInt len :: goInt z :: cs))
 | v => grd (plain1 v) (some [.bool true, v])
def ansOf (h : AHeap) : Out → Option (Value × AHeap)
 | [.bool true, v] => grd (plain1 v) (some (v, h))
 | .bool false :: .int _ (.ofNat len) :: .int _ (.ofNat z) :: cs => some (.slice (some ⟨h.size, 0, some z⟩) len (len + 1), h.push (.cells cs h.size (h.size + 1) 0))
 | _ => none
noncomputable def confl (E : Env) (n : Nat) : CallF := fun g args h => (callK E h.size n g args h (outK h.size)).bind (ansOf h)
theorem HRel.ext {E : Env} {base B : Nat} {μ : Emb} {h : AHeap} {w w' : World} (H : HRel E base B μ h w) (hs : w.heap.size ≤ w'.heap.size) (hk : ∀ r, r < w.heap.size → w'.heap[r]? = w.heap[r]?) : HRel E base B μ h w' :=
 ⟨H.dom, H.high, fun b m hb => by
  obtain ⟨p, p', k1, k2, k3⟩ := H.obj b m hb
  exact ⟨p, p', k1, by rw [hk _ (H.lt hb)]; exact k2, k3⟩, H.own, H.alias, H.fam, H.glob, Nat.le_trans H.low hs, H.bsz, H.wf, H.root⟩
theorem HRel.rebase {E E0 : Env} {base B : Nat} {μ : Emb} {h : AHeap} {w : World} (H : HRel E base B μ h w) (hg : ∀ g, E0.glob g = true → E.glob g = true) : HRel E0 h.size w.heap.size μ h w :=
 ⟨H.dom, H.high, fun b m hb => by
  obtain ⟨p, p', k1, k2, k3⟩ := H.obj b m hb
  have hd := H.dom b m hb
  refine ⟨p, p', k1, k2, ?_⟩
  cases k3 with
  | cells hn hl hf hc => exact .cells hn hl (fun h => by omega) hc
  | map hs => exact .map hs
  | siter hs => exact .siter hs
  | miter0 hs => exact .miter0 hs
  | miter hk hs => exact .miter hk hs
  | loop hf => exact .loop hf
  | bag hp hs hc hn => exact .bag hp hs hc hn, fun b m hb hbb => by have := H.dom b m hb; omega, fun b1 b2 m1 m2 h1 h2 _ _ hbb => by have := H.dom b1 m1 h1; have := H.dom b2 m2 h2; omega, H.fam, fun g hgl => H.glob g (hg g hgl), Nat.le_refl _, Nat.le_refl _, H.wf, H.root⟩
section
variable {P : Program} {E E0 : Env} {base B : Nat}
theorem confl_post {μ : Emb} {h hX : AHeap} {w : World} (H : HRel E base B μ h w) (hX0 : hX.size = h.size) {out : Out} {v : Value} {h' : AHeap} (hans : ansOf h out = some (v, h')) {u u' : Value} {h1 : AHeap} {μ1 : Emb} {w' : World}
 (hK : outK h.size u h1 = some out) (hv : VRel μ1 u u') (S : Step E0 h.size w.heap.size μ hX w μ1 h1 w') : RetPost E base B μ h w v h' (.returned u') w' := by
 have hold : ∀ r, r < w.heap.size → w'.heap[r]? = w.heap[r]? := fun r hr' => S.grow.keep r hr' fun b m hb _ => H.dom b m hb
 have Hx := H.ext S.grow.size hold
 have gr : Grow base μ w w' := ⟨S.grow.tape, S.grow.os, S.grow.output, S.grow.size, fun r hr' _ => hold r hr'⟩
 have plain : ∀ v : Value, plain1 v = true → ansOf h [.bool true, v] = some (v, h) := fun v hp => by simp [ansOf, grd, hp]
 unfold outK at hK
 split at hK
 ·rename_i b o z len cap
  simp only [Option.bind_eq_some_iff, grd_some, Bool.and_eq_true, ble_iff, blt_iff, Option.some.injEq] at hK
  obtain ⟨cs, hrd, ⟨⟨hbb, hlen⟩, hsc⟩, rfl⟩ := hK
  simp only [ansOf, goInt, Option.some.injEq, Prod.mk.injEq] at hans
  obtain ⟨rfl, rfl⟩ := hans
  cases hv with
  | lit hh => simp [plain1] at hh
  | slice0 hb => omega
  | slice hb q1 q2 q3 q4 =>
   rename_i cap' m
   obtain ⟨o1, o2, k1, k2, k3⟩ := S.rel.obj b m hb
   obtain ⟨rc1, rc2⟩ := S.rel.readCells hb hrd
   have hfresh : w.heap.size ≤ m.r := by
    have hn : μ b = none := by
     cases hx : μ b with
     | none => rfl
     | some mx => have := H.dom b mx hx; omega
    rcases (S.new b m hn hb).2.2 with h5 | ⟨b0, m0, r1, r2, _⟩
    ·exact h5
    ·have := H.dom b0 m0 r2; omega
   let m2 : MT := ⟨m.r, m.s + o, m.n⟩
   have Hp := Hx.pushA (o := .cells cs h.size (h.size + 1) 0) (fun _ _ _ _ hh => by cases hh; rfl)
   have hget : (h.push (.cells cs h.size (h.size + 1) 0)).get h.size = some (.cells cs h.size (h.size + 1) 0) := by rw [AHeap.get_push, if_pos rfl]
   obtain ⟨c0, e0, fr0, hobj, hcn, hcf, hcr⟩ : ∃ c e fr, w'.heap[m.r]? = some (.cells c e fr) ∧ c.size = m.n ∧ NoFr fr m.n ∧ (∀ (i : Nat) v, cs[i]? = some v → ∃ v', c[m.s + o + i]? = some v' ∧ VRel μ1 v v') := by
    have hrd2 := hrd
    unfold M.readCells at hrd2
    simp only [Option.bind_eq_some_iff] at hrd2
    obtain ⟨cs0, hr0, _⟩ := hrd2
    obtain ⟨c, e, fr, t1, t2, t3, t4, t5⟩ := S.rel.read hb hr0
    refine ⟨c, e, fr, t1, t2, t4 hbb, fun i v hv => ?_⟩
    obtain ⟨v', s1, s2⟩ := rc2 i v hv
    refine ⟨v', ?_, s2⟩
    simpa [World.cell?, t1] using s1
   have hle : m.s + o + cs.length ≤ m.n := by
    rw [rc1]
    have : len * z ≤ cap' * z := Nat.mul_le_mul_right z q2
    omega
   have hscal : ∀ (i : Nat) v, cs[i]? = some v → scalar v = true := fun i v hv => List.all_eq_true.1 hsc v (List.mem_of_getElem? hv)
   have ho : ORel (upd μ h.size m2) (h.push (.cells cs h.size (h.size + 1) 0)) base h.size m2 (.cells cs h.size (h.size + 1) 0) (.cells c0 e0 fr0) := by
    refine .cells hcn hle (fun _ => hcf) fun _ i v hv => ?_
    obtain ⟨v', s1, s2⟩ := hcr i v hv
    have := s2.inv_scalar (hscal i v hv)
    subst this
    exact ⟨v', s1, .of_scalar _ (hscal i v' hv)⟩
   have Ht := Hp.track (b := h.size) (m := m2) (by simp [AHeap.size_push]) hget H.fresh H.bsz (by have := H.low; show B ≤ m.r; omega) hobj
    (fun d md hd he => by have := H.lt hd; simp only [m2] at he; omega) (fun _ _ _ _ hh => by cases hh; exact ⟨rfl, by omega⟩) (fun _ _ hh => by simp at hh) ho
   refine ⟨_, upd μ h.size m2, rfl, ?_, Ht, gr, upd_le H.fresh, fun d md h0 hd => ?_, fun d hd _ => by rw [AHeap.get_push, if_neg (by omega)], by simp [AHeap.size_push]⟩
   ·have := VRel.slice (μ := upd μ h.size m2) (b := h.size) (o := 0) (z := z) (len := len) (cap := len + 1) (cap' := cap') (m := m2) (upd_self _ _ _) (by omega) q2 (fun h => by omega) (by simpa [m2] using q4)
    simpa [m2] using this
   ·by_cases ed : d = h.size
    ·subst ed
     rw [upd_self] at hd; cases hd
     exact ⟨Nat.le_refl _, H.bsz, .inl hfresh⟩
    ·rw [upd_ne _ _ ed, h0] at hd; cases hd
 ·simp only [grd_some, Option.some.injEq] at hK
  obtain ⟨hp, rfl⟩ := hK
  rw [plain _ hp] at hans
  simp only [Option.some.injEq, Prod.mk.injEq] at hans
  obtain ⟨rfl, rfl⟩ := hans
  have : u' = u := by cases u <;> simp [plain1] at hp <;> cases hv <;> first | rfl | simp_all
  subst this
  exact ⟨u', μ, rfl, .lit hp, Hx, gr, μ.le_refl, fun b m h0 h1 => (by rw [h0] at h1; cases h1), fun _ _ _ => rfl, Nat.le_refl _⟩
theorem confl_ok (hE0 : EnvOk P E0) (hO : ∀ base B, OrcOk P E0 base B) (hm : P.follows .mixedOrders = true) (hg : ∀ g, E0.glob g = true → E.glob g = true) (k : Nat) : CallOk P E base B (confl E0 k) := by
 intro μ h w g args args' v h' hc hr H F n hF
 unfold confl at hc
 simp only [Option.bind_eq_some_iff] at hc
 obtain ⟨out, hrun, hans⟩ := hc
 have H2 := H.rebase hg
 refine (callK_ok hE0 (hO _ _) hm k μ h w g args args' _ out hrun hr H2 F n hF).mono ?_
 rintro e w' ⟨u, u', h1, μ1, hK, rfl, hv, S⟩
 exact confl_post H rfl hans hK hv S
end
end Go.M
namespace Go.M
open Go
noncomputable def orcOf (P : Program) (fs : List Nat) (n : Nat) : FuncId → List Value → AHeap → Option (Value × AHeap) := fun g args h =>
 match fs.contains g with
 | true => confl (envOf P noOrc) n g args h
 | false => none
end Go.M
namespace Go.M
open Go
def insI (x : Int) : List Int → List Int
 | [] => [x]
 | y :: l => bif Int.blt' x y then x :: y :: l else y :: insI x l
where Int.blt' (x y : Int) : Bool := decide (x < y)
def sortI : List Int → List Int
 | [] => []
 | x :: l => insI x (sortI l)
theorem insI_perm (x : Int) : ∀ l, (insI x l).Perm (x :: l)
 | [] => .refl _
 | y :: l => by
  unfold insI
  rw [bif_eq]
  split
  ·exact .refl _
  ·exact ((insI_perm x l).cons y).trans (.swap x y l)
theorem sortI_perm : ∀ l, (sortI l).Perm l
 | [] => .refl _
 | x :: l => (insI_perm x _).trans ((sortI_perm l).cons x)
def intsV : List Value → Option (List Int)
 | [] => some []
 | .int .i64 x :: l => (intsV l).bind fun r => some (x :: r)
 | _ => none
theorem intsV_some : ∀ {l : List Value} {r : List Int}, intsV l = some r → l = r.map (.int .i64)
 | [], r, h => by simp [intsV] at h; subst h; rfl
 | .int .i64 x :: l, r, h => by
  simp only [intsV, Option.bind_eq_some_iff, Option.some.injEq] at h
  obtain ⟨r', h1, rfl⟩ := h
  rw [intsV_some h1]; rfl
def outB (base : Nat) : KV := fun v h' => match v with
 | .slice (some ⟨b, o, some 1⟩) len _ => (readCells h' b o len).bind fun cs => (intsV cs).bind fun xs => grd (Nat.ble base b && Nat.blt 0 len) (some (.bool false :: goInt len :: (sortI xs).map (.int .i64)))
 | v => grd (plain1 v) (some [.bool true, v])
def ansB (h : AHeap) : Out → Option (Value × AHeap)
 | [.bool true, v] => grd (plain1 v) (some (v, h))
 | .bool false :: .int _ (.ofNat len) :: cs => (intsV cs).bind fun xs => some (.slice (some ⟨h.size, 0, some 1⟩) len (len + 1), h.push (.bag xs))
 | _ => none
noncomputable def conflB (E : Env) (n : Nat) : CallF := fun g args h => (callK E h.size n g args h (outB h.size)).bind (ansB h)
theorem intsV_map : ∀ l : List Int, intsV (l.map (.int .i64)) = some l
 | [] => rfl
 | x :: l => by simp [intsV, intsV_map l]
section
variable {P : Program} {E E0 : Env} {base B : Nat}
theorem conflB_ok (hE0 : EnvOk P E0) (hO : ∀ base B, OrcOk P E0 base B) (hm : P.follows .mixedOrders = true) (hg : ∀ g, E0.glob g = true → E.glob g = true) (k : Nat) : CallOk P E base B (conflB E0 k) := by
 intro μ h w g args args' v h' hc hr H F n hF
 unfold conflB at hc
 simp only [Option.bind_eq_some_iff] at hc
 obtain ⟨out, hrun, hans⟩ := hc
 have H2 := H.rebase hg
 refine (callK_ok hE0 (hO _ _) hm k μ h w g args args' _ out hrun hr H2 F n hF).mono ?_
 rintro e w' ⟨u, u', h1, μ1, hK, rfl, hv, S⟩
 have hold : ∀ r, r < w.heap.size → w'.heap[r]? = w.heap[r]? := fun r hr' => S.grow.keep r hr' fun b m hb _ => H.dom b m hb
 have Hx := H.ext S.grow.size hold
 have gr : Grow base μ w w' := ⟨S.grow.tape, S.grow.os, S.grow.output, S.grow.size, fun r hr' _ => hold r hr'⟩
 have plain : ∀ v : Value, plain1 v = true → ansB h [.bool true, v] = some (v, h) := fun v hp => by simp [ansB, grd, hp]
 unfold outB at hK
 split at hK
 ·rename_i b o len cap
  simp only [Option.bind_eq_some_iff, grd_some, Bool.and_eq_true, ble_iff, blt_iff, Option.some.injEq] at hK
  obtain ⟨cs, hrd, xs, hxs, ⟨hbb, hlen⟩, rfl⟩ := hK
  have hcs := intsV_some hxs
  simp only [ansB, goInt, intsV_map, Option.bind_some, Option.some.injEq, Prod.mk.injEq] at hans
  obtain ⟨rfl, rfl⟩ := hans
  cases hv with
  | lit hh => simp [plain1] at hh
  | slice0 hb => omega
  | slice hb q1 q2 q3 q4 =>
   rename_i cap' m
   obtain ⟨rc1, rc2⟩ := S.rel.readCells hb hrd
   have hfresh : w.heap.size ≤ m.r := by
    have hn : μ b = none := by
     cases hx : μ b with
     | none => rfl
     | some mx => have := H.dom b mx hx; omega
    rcases (S.new b m hn hb).2.2 with h5 | ⟨b0, m0, r1, r2, _⟩
    ·exact h5
    ·have := H.dom b0 m0 r2; omega
   let m2 : MT := ⟨m.r, m.s + o, m.n⟩
   have Hp := Hx.pushA (o := .bag (sortI xs)) (fun _ _ _ _ hh => by cases hh)
   have hget : (h.push (.bag (sortI xs))).get h.size = some (.bag (sortI xs)) := by rw [AHeap.get_push, if_pos rfl]
   obtain ⟨c0, e0, fr0, hobj, hcn, hcr⟩ : ∃ c e fr, w'.heap[m.r]? = some (.cells c e fr) ∧ c.size = m.n ∧ (∀ (i : Nat) v, cs[i]? = some v → ∃ v', c[m.s + o + i]? = some v' ∧ VRel μ1 v v') := by
    have hrd2 := hrd
    unfold M.readCells at hrd2
    simp only [Option.bind_eq_some_iff] at hrd2
    obtain ⟨cs0, hr0, _⟩ := hrd2
    obtain ⟨c, e, fr, t1, t2, t3, t4, t5⟩ := S.rel.read hb hr0
    refine ⟨c, e, fr, t1, t2, fun i v hv => ?_⟩
    obtain ⟨v', s1, s2⟩ := rc2 i v hv
    refine ⟨v', ?_, s2⟩
    simpa [World.cell?, t1] using s1
   have hxl : xs.length = len := by rw [← rc1, hcs]; simp
   have ho : ORel (upd μ h.size m2) (h.push (.bag (sortI xs))) base h.size m2 (.bag (sortI xs)) (.cells c0 e0 fr0) := by
    refine .bag (l := xs) (sortI_perm xs).symm (by show m.s + o + xs.length ≤ m.n; omega) (fun i x hx => ?_) hcn
    obtain ⟨v', s1, s2⟩ := hcr i (.int .i64 x) (by rw [hcs]; simp [hx])
    have := s2.inv_scalar rfl
    subst this
    exact s1
   have Ht := Hp.track (b := h.size) (m := m2) (by simp [AHeap.size_push]) hget H.fresh H.bsz (by have := H.low; show B ≤ m.r; omega) hobj
    (fun d md hd he => by have := H.lt hd; simp only [m2] at he; omega) (fun _ _ _ _ hh => by cases hh) (fun _ _ hh => by cases hh) ho
   refine ⟨_, upd μ h.size m2, rfl, ?_, Ht, gr, upd_le H.fresh, fun d md h0 hd => ?_, fun d hd _ => by rw [AHeap.get_push, if_neg (by omega)], by simp [AHeap.size_push]⟩
   ·have := VRel.slice (μ := upd μ h.size m2) (b := h.size) (o := 0) (z := 1) (len := len) (cap := len + 1) (cap' := cap') (m := m2) (upd_self _ _ _) (by omega) q2 (fun h => by omega) (by simpa [m2] using q4)
    simpa [m2] using this
   ·by_cases ed : d = h.size
    ·subst ed
     rw [upd_self] at hd; cases hd
     exact ⟨Nat.le_refl _, H.bsz, .inl hfresh⟩
    ·rw [upd_ne _ _ ed, h0] at hd; cases hd
 ·simp only [grd_some, Option.some.injEq] at hK
  obtain ⟨hp, rfl⟩ := hK
  rw [plain _ hp] at hans
  simp only [Option.some.injEq, Prod.mk.injEq] at hans
  obtain ⟨rfl, rfl⟩ := hans
  have : u' = u := by cases u <;> simp [plain1] at hp <;> cases hv <;> first | rfl | simp_all
  subst this
  exact ⟨u', μ, rfl, .lit hp, Hx, gr, μ.le_refl, fun b m h0 h1 => (by rw [h0] at h1; cases h1), fun _ _ _ => rfl, Nat.le_refl _⟩
end
end Go.M
namespace Go.M
open Go
def insAll (x : Int) : List Int → List (List Int)
 | [] => [[x]]
 | y :: l => (x :: y :: l) :: (insAll x l).map (y :: ·)
def perms : List Int → List (List Int)
 | [] => [[]]
 | x :: l => (perms l).flatMap (insAll x)
theorem mem_insAll (x : Int) : ∀ a b : List Int, a ++ x :: b ∈ insAll x (a ++ b)
 | [], [] => by simp [insAll]
 | [], y :: b => by simp [insAll]
 | y :: a, b => by
  simp only [List.cons_append, insAll, List.mem_cons, List.mem_map]
  exact .inr ⟨_, mem_insAll x a b, rfl⟩
theorem mem_perms : ∀ {cs l : List Int}, l.Perm cs → l ∈ perms cs
 | [], l, h => by simp [perms, h.eq_nil]
 | x :: cs, l, h => by
  have hx : x ∈ l := h.mem_iff.2 List.mem_cons_self
  obtain ⟨a, b, rfl⟩ := List.append_of_mem hx
  have hp : (a ++ b).Perm cs := (List.perm_middle.symm.trans h).cons_inv
  simp only [perms, List.mem_flatMap]
  exact ⟨a ++ b, mem_perms hp, mem_insAll x a b⟩
def bagOf (h : AHeap) : List Value → Option (Nat × List Int)
 | [] => none
 | .slice (some ⟨b, _, some _⟩) _ cap :: l => (match Nat.beq cap 0, h.get b with
  | false, some (.bag cs) => some (b, cs)
  | _, _ => bagOf h l)
 | _ :: l => bagOf h l
def noRoot (h : AHeap) (b : Nat) : Bool := (List.range h.size).all fun c => match h.get c with
 | some (.cells _ f _ _) => !Nat.beq f b
 | _ => true
noncomputable def conflP (E : Env) (n : Nat) : CallF := fun g args h => (bagOf h args).bind fun r => grd (Nat.blt r.1 h.size && noRoot h r.1) <|
 (meet ((perms r.2).map fun l => callK E h.size n g args (h.put r.1 (.cells (l.map (.int .i64)) r.1 h.size 0)) (outK h.size))).bind (ansOf h)
theorem bagOf_get {h : AHeap} {args : List Value} {r : Nat × List Int} (hr : bagOf h args = some r) : h.get r.1 = some (.bag r.2) := by
 induction args with
 | nil => simp [bagOf] at hr
 | cons v l ih =>
  unfold bagOf at hr
  split at hr
  ·cases hr
  ·rename_i b o z len cap l' heq
   simp only [List.cons.injEq] at heq
   obtain ⟨_, rfl⟩ := heq
   split at hr
   ·rename_i cs hg; simp only [Option.some.injEq] at hr; subst hr; exact hg
   ·exact ih hr
  ·rename_i v' l' _ heq
   simp only [List.cons.injEq] at heq
   obtain ⟨_, rfl⟩ := heq
   exact ih hr
section
variable {P : Program} {E E0 : Env} {base B : Nat}
theorem HRel.unbag {μ : Emb} {h : AHeap} {w : World} (H : HRel E base B μ h w) (hlow : ∀ b, b < h.size → b < base) {b : Nat} {m : MT} (hb : μ b = some m) {cs : List Int} (hg : h.get b = some (.bag cs)) (hn : noRoot h b = true) :
 ∃ l : List Int, l.Perm cs ∧ HRel E base B μ (h.put b (.cells (l.map (.int .i64)) b h.size 0)) w := by
 obtain ⟨p, p', k1, k2, k3⟩ := H.obj b m hb
 rw [hg] at k1; cases k1
 have hbs := H.dom b m hb
 cases k3 with
 | bag hp hl hc hcn =>
  rename_i c e fr l
  refine ⟨l, hp, ?_⟩
  have hroot : ∀ c cs' f t th, h.get c = some (.cells cs' f t th) → f ≠ b := by
   intro c cs' f t th hgc hfb
   have hcs : c < h.size := by
    rcases Nat.lt_or_ge c h.size with h1 | h1
    ·exact h1
    ·rw [H.high c h1] at hgc; cases hgc
   unfold noRoot at hn
   have := List.all_eq_true.1 hn c (List.mem_range.2 hcs)
   rw [hgc] at this
   simp [hfb] at this
  have hgne : ∀ c, c ≠ b → (h.put b (.cells (l.map (.int .i64)) b h.size 0)).get c = h.get c := fun c hc => by rw [AHeap.get_put, if_neg hc]
  have hgb : (h.put b (.cells (l.map (.int .i64)) b h.size 0)).get b = some (.cells (l.map (.int .i64)) b h.size 0) := by rw [AHeap.get_put, if_pos rfl]
  have hfam : ∀ c, c ≠ b → (h.put b (.cells (l.map (.int .i64)) b h.size 0)).fam c = h.fam c := by
   intro c hc
   apply opt_ext
   intro r
   obtain ⟨f, tip, thr⟩ := r
   rw [fam_iff, fam_iff]
   constructor
   ·rintro ⟨cs', t0, th0, c0, q1, q2⟩
    rw [hgne c hc] at q1
    have hfb := hroot _ _ _ _ _ q1
    rw [hgne f hfb] at q2
    exact ⟨cs', t0, th0, c0, q1, q2⟩
   ·rintro ⟨cs', t0, th0, c0, q1, q2⟩
    have hfb := hroot _ _ _ _ _ q1
    exact ⟨cs', t0, th0, c0, by rw [hgne c hc]; exact q1, by rw [hgne f hfb]; exact q2⟩
  have hfamb : h.fam b = none := by
   cases hf : h.fam b with
   | none => rfl
   | some r => obtain ⟨cs', t, th, q⟩ := fam_cells hf; rw [hg] at q; cases q
  have hfamb' : (h.put b (.cells (l.map (.int .i64)) b h.size 0)).fam b = some (b, h.size, 0) := fam_of hgb hgb
  have hcells : ∀ c, c ≠ b → (h.put b (.cells (l.map (.int .i64)) b h.size 0)).cellsOf c = h.cellsOf c := fun c hc => by unfold AHeap.cellsOf; rw [hgne c hc]
  have hrd : ∀ c, c ≠ b → (h.put b (.cells (l.map (.int .i64)) b h.size 0)).rd c = h.rd c := fun c hc => by unfold AHeap.rd; rw [hfam c hc, hcells c hc]
  have hlen : ∀ c, c ≠ b → lenOf (h.put b (.cells (l.map (.int .i64)) b h.size 0)) c = lenOf h c := fun c hc => by unfold lenOf; rw [hcells c hc]
  refine ⟨H.dom, fun c hc => by rw [hgne c (by simp only [AHeap.size_put] at hc; omega)]; exact H.high c hc, fun c mc hc => ?_, H.own, fun b1 b2 m1 m2 h1 h2 hr hne hbb => ?_, fun c mc r hc hr => ?_, H.glob, H.low, H.bsz, fun c cs' f t th hgc => ?_, fun c mc cs' th hc hgc => ?_⟩
  ·by_cases ec : c = b
   ·subst ec
    rw [hb] at hc; cases hc
    refine ⟨_, _, hgb, k2, .cells hcn (by simpa using hl) (fun h9 => ?_) fun _ i v hv => ?_⟩
    ·have := hlow c hbs; omega
    ·rw [List.getElem?_map, Option.map_eq_some_iff] at hv
     obtain ⟨x, hx, rfl⟩ := hv
     exact ⟨_, hc i x hx, .int μ _ _⟩
   ·obtain ⟨q, q', j1, j2, j3⟩ := H.obj c mc hc
    exact ⟨q, q', by rw [hgne c ec]; exact j1, j2, j3.mono μ.le_refl (by rw [hrd c ec]; exact id)⟩
  ·obtain ⟨r, q1, q2, q3⟩ := H.alias b1 b2 m1 m2 h1 h2 hr hne hbb
   have e1 : b1 ≠ b := fun e => by subst e; rw [hfamb] at q1; cases q1
   have e2 : b2 ≠ b := fun e => by subst e; rw [hfamb] at q2; cases q2
   exact ⟨r, by rw [hfam b1 e1]; exact q1, by rw [hfam b2 e2]; exact q2, by rw [hlen b1 e1, hlen b2 e2]; exact q3⟩
  ·by_cases ec : c = b
   ·subst ec
    rw [hfamb'] at hr; cases hr
    exact ⟨Nat.le_of_lt hbs, Nat.le_refl _, m, hb⟩
   ·rw [hfam c ec] at hr
    exact H.fam c mc r hc hr
  ·by_cases ec : c = b
   ·subst ec
    rw [hgb] at hgc; cases hgc; exact Nat.le_refl _
   ·rw [hgne c ec] at hgc
    exact H.wf _ _ _ _ _ hgc
  ·by_cases ec : c = b
   ·subst ec
    rw [hgb] at hgc
    simp only [Option.some.injEq, AObj.cells.injEq] at hgc
    omega
   ·rw [hgne c ec] at hgc
    exact H.root _ _ _ _ hc hgc
theorem bagOf_map {μ : Emb} {h : AHeap} {args args' : List Value} (hr : VRels μ args args') {b : Nat} {cs : List Int} (hb : bagOf h args = some (b, cs)) : ∃ m, μ b = some m := by
 induction hr with
 | nil => simp [bagOf] at hb
 | cons hv _ ih =>
  unfold bagOf at hb
  split at hb
  ·cases hb
  ·rename_i b0 o z len cap l' heq
   simp only [List.cons.injEq] at heq
   obtain ⟨rfl, rfl⟩ := heq
   split at hb
   ·rename_i cs' hz hg
    simp only [Option.some.injEq, Prod.mk.injEq] at hb
    obtain ⟨rfl, rfl⟩ := hb
    cases hv with
    | lit hh => simp [plain1] at hh
    | slice h1 => exact ⟨_, h1⟩
    | slice0 h1 => exact h1 (by rintro rfl; simp at hz)
   ·exact ih hb
  ·rename_i v' l' _ heq
   simp only [List.cons.injEq] at heq
   obtain ⟨_, rfl⟩ := heq
   exact ih hb
theorem conflP_ok (hE0 : EnvOk P E0) (hO : ∀ base B, OrcOk P E0 base B) (hm : P.follows .mixedOrders = true) (hg : ∀ g, E0.glob g = true → E.glob g = true) (k : Nat) : CallOk P E base B (conflP E0 k) := by
 intro μ h w g args args' v h' hc hr H F n hF
 unfold conflP at hc
 simp only [Option.bind_eq_some_iff, grd_some, Bool.and_eq_true, blt_iff] at hc
 obtain ⟨⟨b, cs⟩, hbag, ⟨hlt, hnr⟩, out, hmeet, hans⟩ := hc
 obtain ⟨m, hb⟩ := bagOf_map hr hbag
 have hget := bagOf_get hbag
 have H2 := H.rebase hg
 obtain ⟨l, hl, H3⟩ := H2.unbag (fun _ h => h) hb hget hnr
 have hrun := meet_some hmeet _ (List.mem_map_of_mem (mem_perms hl))
 refine (callK_ok hE0 (hO _ _) hm k μ _ w g args args' _ out hrun hr H3 F n hF).mono ?_
 rintro e w' ⟨u, u', h1, μ1, hK, rfl, hv, S⟩
 exact confl_post (hX := h.put b (.cells (l.map (.int .i64)) b h.size 0)) H rfl hans hK hv S
end
end Go.M
namespace Go.M
open Go
noncomputable def orcAll (P : Program) (fs bs ps : List Nat) (n : Nat) : FuncId → List Value → AHeap → Option (Value × AHeap) := fun g args h =>
 match fs.contains g with
 | true => confl (envOf P noOrc) n g args h
 | false => match bs.contains g with
  | true => conflB (envOf P noOrc) n g args h
  | false => match ps.contains g with
   | true => conflP (envOf P noOrc) n g args h
   | false => none
end Go.M
namespace Go.M
open Go
def orcT (l : List Nat) : FuncId → List Value → AHeap → Option (Value × AHeap) := fun g args h => match memN g l, args with
 | true, [] => some (.bool true, h)
 | _, _ => none
def Awake (P : Program) (g : FuncId) : Prop := ∀ (W : World) (F : Fence) (n : Nat), Wide F → CallsIn F n P g #[] W fun e W' => e = .returned (.bool true) ∧ Go.RowKit.Below W.heap.size W W'
theorem orcT_ok {P : Program} {l : List Nat} (hl : ∀ g ∈ l, Awake P g) (base B : Nat) : OrcOk P (envOf P (orcT l)) base B := by
 intro μ h w g args args' v h' hc hr H F n hF
 have hc' : orcT l g args h = some (v, h') := hc
 unfold orcT at hc'
 split at hc'
 ·rename_i hg
  cases hc'
  have : args' = #[] := by
   have := hr.length
   simpa using this.symm
  subst this
  refine (hl g (memN_mem hg) w F n hF).mono ?_
  rintro e W' ⟨rfl, hb⟩
  exact ⟨_, μ, rfl, .lit rfl, ⟨H.ext hb.size fun r hr => hb.block r hr, ⟨hb.tape, hb.os, hb.output, hb.size, fun r hr _ => hb.block r hr⟩, μ.le_refl, fun b m h0 h1 => (by rw [h0] at h1; cases h1), fun _ _ _ => rfl, Nat.le_refl _⟩⟩
 ·cases hc'
end Go.M
namespace Go.M
open Go Go.RowKit Go.Maps Go.Sort Go.Shelf Go.Proofs
def SortsKeys (P : Program) (g k : FuncId) : Prop := ∀ (W : World) (Bm : Nat) (mb : Option Nat) (ks : List Int), W.cell? ⟨Bm, 0, none⟩ = some (.map mb) → ks.length ≤ 1099511627776 → (∀ x ∈ ks, IntKind.i64.min ≤ x ∧ x ≤ IntKind.i64.max) → ks.Nodup →
 (mb = none ∧ ks = [] ∨ ∃ (r : Nat) (es : Array MapEntry) (clock : Nat), mb = some r ∧ W.heap[r]? = some (.map es clock) ∧ StL es.toList clock ∧ es.toList.map (·.key) = ks.map (.int .i64)) →
 Calls P g #[.func (.func k) #[] #[.pointer (some ⟨Bm, 0, none⟩)]] W fun e w' => ∃ (v : Value) (t : TypeId), e = .returned v ∧ w'.ownsRow W.heap.size t 1 v ks.length ((ks.mergeSort fun x y => decide (x ≤ y)).map (.int .i64)) ∧ (v = .slice none 0 0 ↔ ks = []) ∧ Below W.heap.size W w'
end Go.M
namespace Go.M
open Go Go.RowKit
theorem calls_any {P : Program} {F : Fence} (hF : Wide F) {n : Nat} {f : FuncId} {args : Array Value} {w : World} {R : Ending → World → Prop} (h : Calls P f args w R) : CallsIn F n P f args w R := by
 have e : Machine.fenced P F = Machine.fenced P Fence.wide := funext fun m => propext ⟨fun _ => fenced_wide P m, fun _ g hg => ⟨fun ha => (by rw [hF.dead] at ha; cases ha), Or.inl (hF.fn _), fun f _ => hF.fn f, fun d hd => (by rw [hF.depth] at hd; cases hd)⟩⟩
 have h2 := callsIn_wide (n := n).2 h
 refine ⟨hF.fn f, fun cs _ => ?_⟩
 rw [e]
 exact h2.2 cs (room_wide _)
def intKs : List MapEntry → Option (List Int)
 | [] => some []
 | e :: l => match e.key, intKs l with
  | .int .i64 n, some ks => some (n :: ks)
  | _, _ => none
def boxMap (h : AHeap) (b : Nat) : Option (Option Nat) := match h.get b with
 | some (.cells [.map mb] f tip thr) => grd (Nat.beq f b && Nat.beq tip b && Nat.ble thr b) (some mb)
 | _ => none
instance (ev : List MapEntry) (clock : Nat) : Decidable (StL ev clock) := inferInstanceAs (Decidable (_ ∧ _))
def ksOk (ks : List Int) : Prop := ks.length ≤ 1099511627776 ∧ (∀ x ∈ ks, IntKind.i64.min ≤ x ∧ x ≤ IntKind.i64.max) ∧ ks.Nodup
instance (ks : List Int) : Decidable (ksOk ks) := inferInstanceAs (Decidable (_ ∧ _ ∧ _))
def keysAt (h : AHeap) : Option Nat → Option (List Int)
 | none => some []
 | some r => match h.get r with
  | some (.map ev clock) => (intKs ev).bind fun ks => grd (decide (StL ev clock) && decide (ksOk ks)) (some ks)
  | _ => none
def sortZ (ks : List Int) : List Int := ks.mergeSort fun x y => decide (x ≤ y)
def ansKs (h : AHeap) (ks : List Int) : Value × AHeap := match ks with
 | [] => (.slice none 0 0, h)
 | _ :: _ => (.slice (some ⟨h.size, 0, some 1⟩) ks.length (ks.length + 1), h.push (.cells ((sortZ ks).map (.int .i64)) h.size h.size 0))
def sortedK (its : List Nat) (args : List Value) (h : AHeap) : Option (Value × AHeap) := match args with
 | [.func (.func k) a c] => (match a.toList, c.toList with
  | [], [.pointer (some ⟨b, 0, none⟩)] => grd (memN k its) ((boxMap h b).bind fun mb => (keysAt h mb).bind fun ks => some (ansKs h ks))
  | _, _ => none)
 | _ => none
theorem boxMap_some {h : AHeap} {b : Nat} {mb : Option Nat} (hb : boxMap h b = some mb) : ∃ thr, h.get b = some (.cells [.map mb] b b thr) ∧ thr ≤ b := by
 unfold boxMap at hb
 split at hb
 ·rename_i mb' f tip thr hg
  simp only [grd_some, Bool.and_eq_true, beq_iff, ble_iff, Option.some.injEq] at hb
  obtain ⟨⟨⟨rfl, rfl⟩, ht⟩, rfl⟩ := hb
  exact ⟨thr, hg, ht⟩
 ·cases hb
theorem keysAt_some {h : AHeap} {r : Nat} {ks : List Int} (hk : keysAt h (some r) = some ks) : ∃ ev clock, h.get r = some (.map ev clock) ∧ intKs ev = some ks ∧ StL ev clock ∧ ksOk ks := by
 simp only [keysAt] at hk
 split at hk
 ·rename_i ev clock hg
  simp only [Option.bind_eq_some_iff, grd_some, Bool.and_eq_true, decide_eq_true_eq, Option.some.injEq] at hk
  obtain ⟨ks', hks, ⟨hst, hok⟩, rfl⟩ := hk
  exact ⟨ev, clock, hg, hks, hst, hok⟩
 ·cases hk
theorem ERels.born {μ : Emb} {ev ev' : List MapEntry} (h : ERels μ ev ev') : ev'.map (·.born) = ev.map (·.born) := by
 induction h with
 | nil => rfl
 | cons _ _ hb _ ih => simp [hb, ih]
theorem StL.iff {ev : List MapEntry} {clock : Nat} : StL ev clock ↔ (∀ b ∈ ev.map (·.born), b < clock) ∧ (ev.map (·.born)).Nodup := by
 unfold StL; simp
theorem ERels.ints {μ : Emb} {ev ev' : List MapEntry} (h : ERels μ ev ev') : ∀ {ks : List Int}, intKs ev = some ks → ev'.map (·.key) = ks.map (.int .i64) := by
 induction h with
 | nil => intro ks hk; simp [intKs] at hk; subst hk; rfl
 | cons hkey _ _ _ ih =>
  intro ks hk
  unfold intKs at hk
  split at hk
  ·rename_i n ks' h1 h2
   cases hk
   rw [h1] at hkey
   have := hkey.inv_scalar rfl
   simp [this, ih h2]
  ·cases hk
theorem sortedK_ok {P : Program} {E : Env} {base B : Nat} {its : List Nat} {g : FuncId} (hS : ∀ k ∈ its, SortsKeys P g k) {μ : Emb} {h h' : AHeap} {w : World} {args : List Value} {args' : Array Value} {v : Value}
 (hc : sortedK its args h = some (v, h')) (hr : VRels μ args args'.toList) (H : HRel E base B μ h w) : Calls P g args' w (RetPost E base B μ h w v h') := by
 unfold sortedK at hc
 split at hc
 ·rename_i k a c
  split at hc
  ·rename_i b ha hcc
   simp only [grd_some, Option.bind_eq_some_iff, Option.some.injEq] at hc
   obtain ⟨hk, mb, hbox, ks, hkeys, hans⟩ := hc
   obtain ⟨thr, hg, hthr⟩ := boxMap_some hbox
   -- the arguments in the world
   obtain ⟨v1, hv1, e1⟩ : ∃ v1, VRel μ (.func (.func k) a c) v1 ∧ args' = #[v1] := by
    obtain ⟨l⟩ := args'
    cases hr with
    | cons h1 h2 => cases h2; exact ⟨_, h1, rfl⟩
   subst e1
   cases hv1 with
   | lit hh => simp [plain1] at hh
   | func hs1 ha1 hs2 ha2 =>
    rename_i a' c'
    have ea : a' = #[] := by
     have h0 : a'.size = 0 := by rw [← hs1]; have := congrArg List.length ha; simpa using this
     exact Array.eq_empty_of_size_eq_zero h0
    subst ea
    have hc1 : c.size = 1 := by have := congrArg List.length hcc; simpa using this
    obtain ⟨p', ec⟩ : ∃ p', c' = #[p'] := by
     obtain ⟨l⟩ := c'
     rw [hc1] at hs2
     match l, hs2 with
     | [x], _ => exact ⟨x, rfl⟩
     | [], hs2 => simp at hs2
     | _ :: _ :: _, hs2 => simp at hs2
    subst ec
    have hp := ha2 0 (.pointer (some ⟨b, 0, none⟩)) p' (by rw [← Array.getElem?_toList, hcc]; rfl) rfl
    obtain ⟨m, hm, rfl⟩ := hp.inv_ptr
    have hs0 := H.root b m _ _ hm hg
    have hrd : h.rd b = some [.map mb] := rd_of (fam_of hg hg) hthr (by unfold AHeap.cellsOf; rw [hg])
    obtain ⟨cc, e, fr, q1, q2, q3, q4, q5⟩ := H.read hm hrd
    obtain ⟨vm, q6, q7⟩ := q5 0 (.map mb) rfl
    rw [hs0] at q6 ⊢
    obtain ⟨mb', rfl, hmap⟩ : ∃ mb', vm = .map mb' ∧ (mb' = none ∧ ks = [] ∨ ∃ (r : Nat) (es : Array MapEntry) (clock : Nat), mb' = some r ∧ w.heap[r]? = some (.map es clock) ∧ StL es.toList clock ∧ es.toList.map (·.key) = ks.map (.int .i64)) := by
     cases mb with
     | none =>
      cases q7 with
      | lit _ => exact ⟨none, rfl, .inl ⟨rfl, by simpa [keysAt] using hkeys.symm⟩⟩
     | some r =>
      obtain ⟨mr, w1, rfl⟩ := q7.inv_map
      refine ⟨_, rfl, .inr ?_⟩
      obtain ⟨ev, clock, hgr, hks, hst, hok⟩ := keysAt_some hkeys
      obtain ⟨o, o', k1, k2, k3⟩ := H.obj r mr w1
      rw [hgr] at k1; cases k1
      cases k3 with
      | map hs =>
       rename_i es'
       refine ⟨_, es', clock, rfl, k2, ?_, hs.ints hks⟩
       rw [StL.iff, hs.born, ← StL.iff]; exact hst
    have hok : ksOk ks := by
     cases mb with
     | none => simp [keysAt] at hkeys; subst hkeys; exact ⟨by simp, by simp, by simp⟩
     | some r =>
      obtain ⟨ev, clock, hgr, hks, hst, hok⟩ := keysAt_some hkeys
      exact hok
    have hcell : w.cell? ⟨m.r, 0, none⟩ = some (.map mb') := by
     unfold World.cell?
     simp only [q1, Option.isSome_none, Bool.false_eq_true, if_false]
     simpa using q6
    have := hS k (memN_mem hk) w m.r mb' ks hcell hok.1 hok.2.1 hok.2.2 hmap
    simp only [Nat.add_zero]
    refine this.mono ?_
    rintro en w' ⟨v', t, rfl, hrow, hnil, hb⟩
    have Hx := H.ext hb.size fun r hr => hb.block r hr
    have gr : Grow base μ w w' := ⟨hb.tape, hb.os, hb.output, hb.size, fun r hr _ => hb.block r hr⟩
    cases ks with
    | nil =>
     simp only [ansKs, Prod.mk.injEq] at hans
     obtain ⟨rfl, rfl⟩ := hans
     have := hnil.2 rfl
     subst this
     exact ⟨_, μ, rfl, .lit rfl, ⟨Hx, gr, μ.le_refl, fun b m h0 h1 => (by rw [h0] at h1; cases h1), fun _ _ _ => rfl, Nat.le_refl _⟩⟩
    | cons x0 l0 =>
     generalize hks0 : x0 :: l0 = ks at *
     have hlen : 0 < ks.length := by rw [← hks0]; simp
     have hans' : ansKs h ks = (.slice (some ⟨h.size, 0, some 1⟩) ks.length (ks.length + 1), h.push (.cells ((sortZ ks).map (.int .i64)) h.size h.size 0)) := by rw [← hks0]; rfl
     rw [hans'] at hans
     simp only [Prod.mk.injEq] at hans
     obtain ⟨rfl, rfl⟩ := hans
     obtain ⟨r1, ⟨_, r2⟩ | ⟨gb, cap, cur, rfl, r3, r4, r5, r6, r7, r8⟩⟩ := hrow
     ·omega
     ·let cs := (sortZ ks).map (Value.int .i64)
      have hcl : cs.length = ks.length := by simp [cs, sortZ]
      let m2 : MT := ⟨gb, 0, cur.size⟩
      have Hp := Hx.pushA (o := .cells cs h.size h.size 0) (fun _ _ _ _ hh => by cases hh; rfl)
      have hget : (h.push (.cells cs h.size h.size 0)).get h.size = some (.cells cs h.size h.size 0) := by rw [AHeap.get_push, if_pos rfl]
      have ho : ORel (upd μ h.size m2) (h.push (.cells cs h.size h.size 0)) base h.size m2 (.cells cs h.size h.size 0) (.cells cur t (0, 0)) := by
       refine .cells rfl (by show 0 + cs.length ≤ cur.size; omega) (fun _ => noFr0 _) fun _ i v hv => ?_
       have hi := (List.getElem?_eq_some_iff.1 hv).1
       have : cur.toList[i]? = some v := by
        have h5 : (cur.toList.take (ks.length * 1))[i]? = some v := by rw [r8]; exact hv
        rw [List.getElem?_take] at h5
        rwa [if_pos (by omega)] at h5
       refine ⟨v, by show cur[0 + i]? = some v; rw [Nat.zero_add]; simpa using this, ?_⟩
       obtain ⟨n, _, rfl⟩ := List.mem_map.1 (List.mem_of_getElem? hv)
       exact .int _ _ _
      have Ht := Hp.track (b := h.size) (m := m2) (by simp [AHeap.size_push]) hget H.fresh H.bsz (by have := H.low; show B ≤ gb; omega) r4
       (fun d md hd he => by have := H.lt hd; simp only [m2] at he; omega) (fun _ _ _ _ hh => by cases hh; exact ⟨rfl, Nat.le_refl _⟩) (fun _ _ _ => rfl) ho
      refine ⟨_, upd μ h.size m2, rfl, ?_, Ht, gr, upd_le H.fresh, fun d md h0 hd => ?_, fun d hd _ => by rw [AHeap.get_push, if_neg (by omega)], by simp [AHeap.size_push]⟩
      ·have := VRel.slice (μ := upd μ h.size m2) (b := h.size) (o := 0) (z := 1) (len := ks.length) (cap := ks.length + 1) (cap' := cap) (m := m2) (upd_self _ _ _) (by omega) r5 (fun h => by omega) (by show 0 + 0 + cap * 1 ≤ cur.size; omega)
       simpa [m2] using this
      ·by_cases ed : d = h.size
       ·subst ed
        rw [upd_self] at hd; cases hd
        exact ⟨Nat.le_refl _, H.bsz, .inl r3⟩
       ·rw [upd_ne _ _ ed, h0] at hd; cases hd
  ·cases hc
 ·cases hc
end Go.M
namespace Go.M
open Go Go.RowKit
def orcV (l : List Nat) (gs : List (Nat × List Nat)) : FuncId → List Value → AHeap → Option (Value × AHeap) := fun g args h => match memN g l with
 | true => (match args with | [] => some (.bool true, h) | _ => none)
 | false => match look gs g with
  | some its => sortedK its args h
  | none => none
theorem orcV_ok {P : Program} {l : List Nat} {gs : List (Nat × List Nat)} (hl : ∀ g ∈ l, Awake P g) (hs : ∀ g its, look gs g = some its → ∀ k ∈ its, SortsKeys P g k) (base B : Nat) : OrcOk P (envOf P (orcV l gs)) base B := by
 intro μ h w g args args' v h' hc hr H F n hF
 have hc' : orcV l gs g args h = some (v, h') := hc
 unfold orcV at hc'
 split at hc'
 ·rename_i hg
  split at hc'
  ·exact orcT_ok hl base B μ h w g [] args' v h' (by show orcT l g [] h = _; unfold orcT; rw [hg]; exact hc') hr ⟨H.dom, H.high, H.obj, H.own, H.alias, H.fam, H.glob, H.low, H.bsz, H.wf, H.root⟩ F n hF |>.mono fun e w' ⟨v', μ', h1, h2, h3⟩ =>
    ⟨v', μ', h1, h2, ⟨h3.rel.dom, h3.rel.high, h3.rel.obj, h3.rel.own, h3.rel.alias, h3.rel.fam, h3.rel.glob, h3.rel.low, h3.rel.bsz, h3.rel.wf, h3.rel.root⟩, h3.grow, h3.le, h3.new, h3.unt, h3.hsz⟩
  ·cases hc'
 ·split at hc'
  ·rename_i its hi
   exact calls_any hF (sortedK_ok (hs g its hi) hc' hr H)
  ·cases hc'
section
variable {E : Env}
def KeysO (ks : List Int) : TO → Prop
 | .map _ es => es.map (·.1) = ks.map (.int .i64)
 | .maq _ es op => op = [] ∧ es.map (·.1) = ks.map (.int .i64)
 | _ => False
end
end Go.M
namespace Go.M
open Go Go.RowKit
def OnInts (P : Program) (g : FuncId) (pre : List Value) (val : List Int → Value) (ok : List Int → Prop) : Prop :=
 ∀ (W : World) (l : List Int) (r o cap : Nat) (c : Array Value) (e : TypeId) (fr : Nat × Nat),
  W.heap[r]? = some (.cells c e fr) → l.length ≤ cap → o + cap ≤ c.size → (∀ (i : Nat) (x : Int), l[i]? = some x → c[o + i]? = some (.int .i64 x)) → ok l →
  Calls P g (List.toArray (pre ++ [Value.slice (some ⟨r, o, none⟩) l.length cap])) W fun en W' => en = .returned (val l) ∧ Below W.heap.size W W'
def bagK (val : List Value → List Int → Option Value) (args : List Value) (h : AHeap) : Option (Value × AHeap) := match args.reverse with
 | .slice (some ⟨b, 0, some 1⟩) len cap :: rp => (match h.get b with
  | some (.bag cs) => grd (Nat.beq len cs.length && Nat.ble len cap && Nat.blt 0 len && rp.all scalar) ((val rp.reverse cs).bind fun v => some (v, h))
  | _ => none)
 | _ => none
def BagOk (P : Program) (g : FuncId) (val : List Value → List Int → Option Value) : Prop :=
 ∀ pre cs v, (∀ u ∈ pre, scalar u = true) → val pre cs = some v → scalar v = true ∧ ∀ l : List Int, l.Perm cs → ∃ vf ok, OnInts P g pre vf ok ∧ ok l ∧ vf l = v
section
variable {E : Env}
end
end Go.M
namespace Go.M
open Go Go.RowKit Go.Maps Go.Sort Go.Shelf Go.Proofs
def CollectsKeys (P : Program) (g k : FuncId) : Prop := ∀ (W : World) (Bm : Nat) (mb : Option Nat) (ks : List Int), W.cell? ⟨Bm, 0, none⟩ = some (.map mb) → ks.length ≤ 1099511627776 → (∀ x ∈ ks, IntKind.i64.min ≤ x ∧ x ≤ IntKind.i64.max) → ks.Nodup →
 (mb = none ∧ ks = [] ∨ ∃ (r : Nat) (es : Array MapEntry) (clock : Nat), mb = some r ∧ W.heap[r]? = some (.map es clock) ∧ StL es.toList clock ∧ es.toList.map (·.key) = ks.map (.int .i64)) →
 Calls P g #[.func (.func k) #[] #[.pointer (some ⟨Bm, 0, none⟩)]] W fun e w' => ∃ (v : Value) (t : TypeId) (l : List Int), e = .returned v ∧ l.Perm ks ∧ w'.ownsRow W.heap.size t 1 v ks.length (l.map (.int .i64)) ∧ (v = .slice none 0 0 ↔ ks = []) ∧ Below W.heap.size W w'
def ansC (h : AHeap) (ks : List Int) : Value × AHeap := match ks with
 | [] => (.slice none 0 0, h)
 | _ :: _ => (.slice (some ⟨h.size, 0, some 1⟩) ks.length (ks.length + 1), h.push (.bag ks))
def collectK (its : List Nat) (args : List Value) (h : AHeap) : Option (Value × AHeap) := match args with
 | [.func (.func k) a c] => (match a.toList, c.toList with
  | [], [.pointer (some ⟨b, 0, none⟩)] => grd (memN k its) ((boxMap h b).bind fun mb => (keysAt h mb).bind fun ks => some (ansC h ks))
  | _, _ => none)
 | _ => none
end Go.M
namespace Go.M
open Go Go.RowKit
section
variable {X : Cx} {ρ : Gh} {F : Nat → Prop} {o : Ob} {c : Nat} {h : AHeap}
end
section
variable {E : Env}
end
abbrev BagF := List Value → List Int → Option Value
def orcW (l : List Nat) (gs cs : List (Nat × List Nat)) (bs : List (Nat × BagF)) : FuncId → List Value → AHeap → Option (Value × AHeap) := fun g args h => match look cs g with
 | some its => collectK its args h
 | none => match look bs g with
  | some val => bagK val args h
  | none => orcV l gs g args h
end Go.M
namespace Go.M
open Go
abbrev Tabs := List (Nat × List Value)
def envT (P : Program) (l : Tabs) (orc : FuncId → List Value → AHeap → Option (Value × AHeap)) : Env := { envOf P orc with tab := look l }
theorem envOkT (P : Program) (l : Tabs) (orc : FuncId → List Value → AHeap → Option (Value × AHeap)) : EnvOk P (envT P l orc) :=
 let h := envOk P orc
 ⟨h.desc, h.size, h.bytes, h.zero, h.eqOk, h.func⟩
def LaidT (l : Tabs) (W : World) : Prop := ∀ g cs, look l g = some cs → ∃ c e fr, W.heap[g]? = some (.cells c e fr) ∧ cs.length ≤ c.size ∧ ∀ (i : Nat) v, cs[i]? = some v → c[i]? = some v
def heapT (l : Tabs) : Nat → AHeap
 | 0 => h00
 | n + 1 => (heapT l n).push (.cells (match look l n with | some cs => cs | none => []) n (n + 1) 0)
def muT (l : Tabs) (n : Nat) (W : World) : Emb := fun g => match look l g, W.heap[g]?, Nat.blt g n with
 | some _, some (.cells c _ _), true => some ⟨g, 0, c.size⟩
 | _, _, _ => none
def tabsB (l : Tabs) (n : Nat) : Bool := l.all fun p => Nat.blt p.1 n && p.2.all tabV && (match look l p.1 with | some cs => eqLs cs p.2 | none => false)
def tabsIn (l : Tabs) (h : AHeap) : Bool := l.all fun p => match h.rd p.1, look l p.1 with | some cs, some cs' => eqLs cs cs' | _, _ => false
section
variable {P : Program} {l : Tabs} {n : Nat} {W : World}
theorem heapT_size : ∀ n, (heapT l n).size = n
 | 0 => rfl
 | n + 1 => by rw [heapT, AHeap.size_push, heapT_size n]
theorem heapT_get : ∀ n b, (heapT l n).get b = if b < n then some (.cells (match look l b with | some cs => cs | none => []) b (b + 1) 0) else none
 | 0, b => by simp; rfl
 | n + 1, b => by
  rw [heapT, AHeap.get_push, heapT_size n, heapT_get n b]
  by_cases e : b = n
  ·subst e; simp
  ·rw [if_neg e]
   by_cases h : b < n
   ·rw [if_pos h, if_pos (by omega)]
   ·rw [if_neg h, if_neg (by omega)]
theorem look_mem {α : Type} {l : List (Nat × α)} {g : Nat} {x : α} (h : look l g = some x) : (g, x) ∈ l := by
 induction l with
 | nil => simp [look] at h
 | cons p l ih =>
  unfold look at h
  split at h
  ·rename_i hb
   cases h
   rw [beq_iff] at hb; subst hb
   exact List.mem_cons_self
  ·exact List.mem_cons_of_mem _ (ih h)
theorem tabsB_ok (hB : tabsB l n = true) {g : Nat} {cs : List Value} (h : look l g = some cs) : g < n ∧ cs.all tabV = true := by
 have := List.all_eq_true.1 hB _ (look_mem h)
 simp only [Bool.and_eq_true, blt_iff] at this
 exact ⟨this.1.1, this.1.2⟩
theorem tabV_scalar {v : Value} (h : tabV v = true) : plain1 v = true := by
 unfold tabV at h; simp only [Bool.and_eq_true] at h; exact h.1
theorem arT (hB : tabsB l n = true) (hW : LaidT l W) : AR W (muT l n W) (heapT l n) := by
 have key : ∀ {b m}, muT l n W b = some m → ∃ cs c e fr, look l b = some cs ∧ W.heap[b]? = some (.cells c e fr) ∧ b < n ∧ m = ⟨b, 0, c.size⟩ := by
  intro b m h
  unfold muT at h
  split at h
  ·rename_i cs c e fr h1 h2 h3
   cases h
   exact ⟨cs, c, e, fr, h1, h2, blt_iff.1 h3, rfl⟩
  ·cases h
 refine ⟨fun b hb => ?_, fun b hb => ?_, fun b m hb => ?_, fun b m hb => ?_⟩
 ·rw [heapT_size] at hb; rw [heapT_get, if_neg (by omega)]
 ·rw [heapT_size] at hb; rw [heapT_get, if_pos hb]; exact ⟨_, rfl⟩
 ·obtain ⟨cs, c, e, fr, h1, h2, h3, rfl⟩ := key hb
  rw [heapT_size]; exact h3
 ·obtain ⟨cs, c, e, fr, h1, h2, h3, rfl⟩ := key hb
  obtain ⟨c', e', fr', q1, q2, q3⟩ := hW b cs h1
  rw [h2] at q1; cases q1
  refine ⟨cs, c, e, fr, by rw [heapT_get, if_pos h3, h1], h2, rfl, by simpa using q2, fun i v hv => ⟨v, by simpa using q3 i v hv, .lit ?_⟩⟩
  exact tabV_scalar (List.all_eq_true.1 (tabsB_ok hB h1).2 v (List.mem_of_getElem? hv))
theorem muT_glob (hB : tabsB l n = true) (hW : LaidT l W) {E : Env} (hE : E.tab = look l) (g : Nat) (hg : E.glob g = true) : ∃ m, muT l n W g = some m ∧ m.r = g ∧ m.s = 0 := by
 unfold Env.glob at hg
 rw [hE, Option.isSome_iff_exists] at hg
 obtain ⟨cs, h1⟩ := hg
 obtain ⟨c, e, fr, q1, q2, q3⟩ := hW g cs h1
 refine ⟨⟨g, 0, c.size⟩, ?_, rfl, rfl⟩
 unfold muT
 rw [h1, q1, blt_iff.2 (tabsB_ok hB h1).1]
theorem laid_of_rel {E : Env} (hE : E.tab = look l) {base B : Nat} {μ : Emb} {h : AHeap} {w : World} (H : HRel E base B μ h w) (hB : tabsB l n = true) (ht : tabsIn l h = true) : LaidT l w := by
 intro g cs hg
 obtain ⟨m, q1, q2, q3⟩ := H.glob g (by unfold Env.glob; rw [hE, hg]; rfl)
 have := List.all_eq_true.1 ht _ (look_mem hg)
 simp only [hg] at this
 split at this
 ·rename_i cs1 cs2 hr e
  cases e
  have ec := eqLs_eq this
  subst ec
  obtain ⟨c, e, fr, k1, k2, k3, _, k5⟩ := H.read q1 hr
  rw [q2] at k1
  rw [q3] at k3 k5
  refine ⟨c, e, fr, k1, by omega, fun i v hv => ?_⟩
  obtain ⟨v', p1, p2⟩ := k5 i v hv
  have hp := tabV_scalar (List.all_eq_true.1 (tabsB_ok hB hg).2 v (List.mem_of_getElem? hv))
  have hf := (List.all_eq_true.1 (tabsB_ok hB hg).2 v (List.mem_of_getElem? hv))
  have : v' = v := by
   cases p2 with
   | lit h => rfl
   | _ => simp [plain1] at hp
  subst this
  simpa using p1
 ·cases this
theorem tabsIn_of {E : Env} (hE : E.tab = look l) {F : Nat → Prop} {h : AHeap} (hB : tabsB l n = true) (N : TabOk E F h) : tabsIn l h = true := by
 refine List.all_eq_true.2 fun p hp => ?_
 have := List.all_eq_true.1 hB p hp
 simp only [Bool.and_eq_true] at this
 have h3 := this.2
 split at h3
 ·rename_i cs hl
  obtain ⟨_, n2, _⟩ := N p.1 cs (by rw [hE]; exact hl)
  rw [n2, hl]
  have e := eqLs_eq h3
  rw [e] at h3 ⊢
  exact h3
 ·cases h3
def AwakeT (P : Program) (l : Tabs) (g : FuncId) : Prop := ∀ (W : World) (F : Fence) (n : Nat), LaidT l W → Wide F → CallsIn F n P g #[] W fun e W' => e = .returned (.bool true) ∧ Go.RowKit.Below W.heap.size W W'
noncomputable def orcAllT (P : Program) (l : Tabs) (fs bs ps : List Nat) (n : Nat) : FuncId → List Value → AHeap → Option (Value × AHeap) := fun g args h =>
 match fs.contains g with
 | true => confl (envT P l noOrc) n g args h
 | false => match bs.contains g with
  | true => conflB (envT P l noOrc) n g args h
  | false => match ps.contains g with
   | true => conflP (envT P l noOrc) n g args h
   | false => none
theorem noOrc_okT {base B : Nat} : OrcOk P (envT P l noOrc) base B := fun μ h w g args args' v h' hr => by
 have : (none : Option (Value × AHeap)) = some (v, h') := hr
 cases this
theorem orcAllT_ok (hm : P.follows .mixedOrders = true) (fs bs ps : List Nat) (n base B : Nat) : OrcOk P (envT P l (orcAllT P l fs bs ps n)) base B := by
 intro μ h w g args args' v h' hc hr H F k hF
 have hc' : orcAllT P l fs bs ps n g args h = some (v, h') := hc
 unfold orcAllT at hc'
 split at hc'
 ·exact confl_ok (E := envT P l (orcAllT P l fs bs ps n)) (envOkT P l noOrc) (fun _ _ => noOrc_okT) hm (fun _ hg => hg) n μ h w g args args' v h' hc' hr H F k hF
 ·split at hc'
  ·exact conflB_ok (E := envT P l (orcAllT P l fs bs ps n)) (envOkT P l noOrc) (fun _ _ => noOrc_okT) hm (fun _ hg => hg) n μ h w g args args' v h' hc' hr H F k hF
  ·split at hc'
   ·exact conflP_ok (E := envT P l (orcAllT P l fs bs ps n)) (envOkT P l noOrc) (fun _ _ => noOrc_okT) hm (fun _ hg => hg) n μ h w g args args' v h' hc' hr H F k hF
   ·cases hc'
theorem AR.hrelT {E : Env} {μ0 μ : Emb} {h : AHeap} (A : AR W μ h) (hle : μ0.le μ) (hg : ∀ g, E.glob g = true → ∃ m, μ0 g = some m ∧ m.r = g ∧ m.s = 0) : HRel E h.size W.heap.size μ h W :=
 let H := AR.hrel (E := envOf default noOrc) A (fun _ => rfl)
 ⟨H.dom, H.high, H.obj, H.own, H.alias, H.fam, fun g h => let ⟨m, q1, q2⟩ := hg g h; ⟨m, hle _ _ q1, q2⟩, H.low, H.bsz, H.wf, H.root⟩
theorem awakeT_of (hm : P.follows .mixedOrders = true) (hB : tabsB l n = true) {fs bs ps : List Nat} {m k : Nat} {g : FuncId}
 (hr : gaveTrue (acall (envT P l (orcAllT P l fs bs ps m)) n k g [] (heapT l n)) = true) : AwakeT P l g := by
 intro W F j hW hF
 obtain ⟨h', hr⟩ := gaveTrue_some hr
 have A := arT hB hW
 have H : HRel (envT P l (orcAllT P l fs bs ps m)) n W.heap.size (muT l n W) (heapT l n) W := by
  have := A.hrelT (E := envT P l (orcAllT P l fs bs ps m)) (Emb.le_refl _) (muT_glob hB hW rfl)
  rwa [heapT_size] at this
 have := acall_ok (envOkT P l _) (orcAllT_ok hm fs bs ps m n W.heap.size) hm k (muT l n W) (heapT l n) W g [] #[] (.bool true) h' hr .nil H F j hF
 refine this.mono ?_
 rintro e W' ⟨v', μ', rfl, hv, S⟩
 have e := hv.inv_scalar rfl
 subst e
 refine ⟨rfl, S.grow.os, S.grow.tape, S.grow.output, S.grow.size, fun k hk => S.grow.keep k hk fun b mt hb _ => ?_⟩
 have := A.dom b mt hb
 rwa [heapT_size] at this
def orcX (l : Tabs) (aw : List Nat) (rest : FuncId → List Value → AHeap → Option (Value × AHeap)) : FuncId → List Value → AHeap → Option (Value × AHeap) := fun g args h =>
 match memN g aw, args, tabsIn l h with
 | true, [], true => some (.bool true, h)
 | _, _, _ => rest g args h
theorem orcX_ok {aw : List Nat} {rest : FuncId → List Value → AHeap → Option (Value × AHeap)} (hB : tabsB l n = true) (ha : ∀ g ∈ aw, AwakeT P l g) (hr : ∀ base B, OrcOk P (envOf P rest) base B) (base B : Nat) : OrcOk P (envT P l (orcX l aw rest)) base B := by
 intro μ h w g args args' v h' hc hv H F k hF
 have hc' : orcX l aw rest g args h = some (v, h') := hc
 unfold orcX at hc'
 split at hc'
 ·rename_i h1 h2
  cases hc'
  have : args' = #[] := by
   have := hv.length
   simpa using this.symm
  subst this
  refine (ha g (memN_mem h1) w F k (laid_of_rel (E := envT P l (orcX l aw rest)) rfl H hB h2) hF).mono ?_
  rintro e W' ⟨rfl, hb⟩
  exact ⟨_, μ, rfl, .lit rfl, ⟨H.ext hb.size fun r hr => hb.block r hr, ⟨hb.tape, hb.os, hb.output, hb.size, fun r hr _ => hb.block r hr⟩, μ.le_refl, fun b m h0 h1 => (by rw [h0] at h1; cases h1), fun _ _ _ => rfl, Nat.le_refl _⟩⟩
 ·have H2 : HRel (envOf P rest) base B μ h w := ⟨H.dom, H.high, H.obj, H.own, H.alias, H.fam, fun g hg => by simp [Env.glob, envOf] at hg, H.low, H.bsz, H.wf, H.root⟩
  exact (hr base B μ h w g _ args' v h' hc' hv H2 F k hF).mono fun e w' ⟨v', μ', h1, h2, h3⟩ =>
   ⟨v', μ', h1, h2, ⟨h3.rel.dom, h3.rel.high, h3.rel.obj, h3.rel.own, h3.rel.alias, h3.rel.fam, fun g hg => let ⟨m, q1, q2⟩ := H.glob g hg; ⟨m, h3.le _ _ q1, q2⟩, h3.rel.low, h3.rel.bsz, h3.rel.wf, h3.rel.root⟩, h3.grow, h3.le, h3.new, h3.unt, h3.hsz⟩
theorem VC.awakeX {aw : List Nat} {rest : FuncId → List Value → AHeap → Option (Value × AHeap)} {g : FuncId} {c0 : Nat} {o0 : Ob} (hB : tabsB l n = true) (hf : ((envT P l (orcX l aw rest)).func g).isSome = true) (hg : memN g aw = true) :
 VC (envT P l (orcX l aw rest)) g c0 [] o0 (fun r o c => r = .s (.bool true) ∧ o = o0 ∧ c = c0) := by
 intro base ρ F h S vargs hN hM hO hA
 obtain ⟨fn, hf⟩ := Option.isSome_iff_exists.1 hf
 obtain rfl := hA.inv_nil
 have ho : (envT P l (orcX l aw rest)).orc g [] h = some (.bool true, h) := by
  show orcX l aw rest g [] h = _
  unfold orcX
  rw [hg, tabsIn_of (E := envT P l (orcX l aw rest)) rfl hB hN]
 refine ⟨0, .bool true, h, ρ, F, .s (.bool true), o0, c0, ?_, ⟨rfl, rfl, rfl⟩, hM, .s rfl⟩
 unfold acall acallB
 rw [hf]
 simp only [Option.bind_some, ho]
end
section
open Go.ChangeShapes Go.WideShapes
variable {H : Type} {enc : TypeId × Value → H} {P : Program} {W : World} {base : Nat} {held : Bool}
theorem row_trueT {l : Tabs} {n : Nat} {E : Env} {g : FuncId} {ash : List ArgSh} {ts : List TypeId} {args : Array Value} {ds : List (DataW H)} {ps : List MemPlace} {base' : Nat} {r : Reach} (hE : EnvOk P E) (hO : ∀ base B, OrcOk P E base B) (hm : P.follows .mixedOrders = true)
 (hT : E.tab = look l) (hBT : tabsB l n = true) (hWT : LaidT l W)
 (hB : argsB P ts ash = true) (hD : DataW.TrodAll enc P W base (fun _ => true) held ts args.toList ds ps) (hv : ∀ (j : Nat) t v, ts[j]? = some t → args[j]? = some v → Value.okWide P W r base' t v)
 (hc : ∀ tvs, FitAs ash tvs → VC E g 0 tvs [] fun r _ _ => r = .s (.bool true)) : Calls P g args W fun e W' => e = .returned (.bool true) ∧ Go.RowKit.Below W.heap.size W W' := by
 obtain ⟨μ, h, tvs, vs0, A, hle, hgr, f, r, x⟩ := args_laid hB hD (fun j t v a b => hv j t v a (by simpa using b)) _ _ (arT hBT hWT)
 have hN : TabOk E (· < h.size) h := fun g cs hg => by
  rw [hT] at hg
  obtain ⟨h1, h2⟩ := tabsB_ok hBT hg
  have hs := hgr.1
  rw [heapT_size] at hs
  refine ⟨by omega, A.rd (cs := cs) ?_, h2⟩
  rw [hgr.2 g (by rw [heapT_size]; exact h1), heapT_get, if_pos h1, hg]
 obtain ⟨k, v, h', ρ', F', r', o', c', h1, rfl, h3, h4⟩ := hc tvs f h.size noG _ h _ vs0 hN A.mem (AR.mo (μ := μ)) r
 obtain ⟨rfl, _⟩ := h4.inv_s
 have := acall_ok hE (hO h.size W.heap.size) hm k μ h W g vs0 args _ h' h1 x (A.hrelT hle (muT_glob hBT hWT hT)) Fence.wide 0 Wide.wide
 refine (callsIn_wide.1 (this.mono ?_))
 rintro e W' ⟨v', μ', rfl, hv, S⟩
 have e := hv.inv_scalar rfl
 subst e
 exact ⟨rfl, S.grow.os, S.grow.tape, S.grow.output, S.grow.size, fun k hk => S.grow.keep k hk fun b m hb _ => A.dom b m hb⟩
end
end Go.M
namespace Go.M
open Go
theorem bsplit {b : Bool} {A B : Prop} (hA : b = true → A) (hB : b = false → B) : (match (generalizing := false) b with | true => A | false => B) := by
 cases b with
 | true => exact hA rfl
 | false => exact hB rfl
theorem nsplit {b : Bool} {A B : Prop} (hA : b = false → A) (hB : b = true → B) : (match (generalizing := false) !b with | true => A | false => B) := by
 cases b with
 | true => exact hB rfl
 | false => exact hA rfl
@[reducible] def RR (r0 : TV) (c0 : Nat) (o0 : Ob) : TV → Ob → Nat → Prop := fun r o c => r = r0 ∧ c = c0 ∧ o = o0
theorem idxI {α : Type} {enc : α → List TV} {l : List α} {n : Nat} {K : List TV → Prop} (h : n < l.length) (hK : K (enc l[n])) : ∃ e, (0 ≤ (n : Int) ∧ (l.map enc)[(n : Int).toNat]? = some e) ∧ K e :=
 ⟨enc l[n], ⟨by omega, by simp [h]⟩, hK⟩
theorem wrap_small (n : Nat) (h : n ≤ 1099511627776) : IntKind.i64.wrap ((n : Int) + 1) = ((n + 1 : Nat) : Int) := by
 rw [IntWalk.i64_in _ (by omega)]; rfl
theorem lenlt {α : Type} {f : α → List TV} {l : List α} {i : Nat} : ((i : Int) < (((l.map f).length : Nat) : Int)) ↔ i < l.length := by simp
theorem flx : ∀ b : Bool, (!b || b) = true
 | true => rfl
 | false => rfl
theorem Lz.wrap {n : Nat} (h : n ≤ 1099511627776) : Lz (Value.int .i64 (IntKind.i64.wrap ((n : Int) + 1))) (Value.int .i64 ((n + 1 : Nat) : Int)) := .of (congrArg _ (wrap_small n h))
def smalls : List Nat := [0, 1, 2, 3, 4, 5, 6, 7, 8, 9, 10, 11, 12, 13, 14, 15, 16, 17, 18, 19, 20, 21, 22, 23, 24, 25, 26, 27, 28, 29, 30, 31, 32, 33, 34, 35, 36, 37, 38, 39, 40]
def forceNL (n : Nat) (K : Nat → Prop) (l : List Nat) : Prop := @List.rec Nat (fun _ => Prop) (K n) (fun k _ ih => match Nat.beq n k with | true => K k | false => ih) l
theorem forceNL_eq (n : Nat) (K : Nat → Prop) : ∀ l, forceNL n K l = K n
 | [] => rfl
 | k :: l => by
  show (match Nat.beq n k with | true => K k | false => forceNL n K l) = K n
  cases h : Nat.beq n k with
  | true => rw [beq_iff.1 h]
  | false => exact forceNL_eq n K l
def forceN (n : Nat) (K : Nat → Prop) : Prop := forceNL n K smalls
theorem forceN_eq (n : Nat) : forceN n = fun K => K n := by funext K; exact forceNL_eq n K _
def forceC (v : TV) (K : TV → Prop) : Prop := match v with
 | .j => K .j
 | .s v => K (.s v)
 | .sl z es fl => forceN z fun z => K (.sl z es fl)
 | .tk n => forceN n fun n => K (.tk n)
 | .ptr n o => forceN n fun n => forceN o fun o => K (.ptr n o)
 | .ep e o => forceN o fun o => K (.ep e o)
 | .wp n i o => forceN n fun n => forceN o fun o => K (.wp n i o)
 | .mp n => forceN n fun n => K (.mp n)
 | .bg n len => forceN n fun n => K (.bg n len)
 | .sv n i => forceN n fun n => K (.sv n i)
 | .agg cs => K (.agg cs)
 | .tup cs => K (.tup cs)
 | .ifc t v => K (.ifc t v)
 | .clo g a c => K (.clo g a c)
 | .own y => K (.own y)
theorem forceC_eq (v : TV) : forceC v = fun K => K v := by funext K; cases v <;> simp [forceC, forceN_eq]
def forceL (F : TV → (TV → Prop) → Prop) (l : List TV) : (List TV → Prop) → Prop := @List.rec TV (fun _ => (List TV → Prop) → Prop) (fun K => K []) (fun v _ ih K => F v fun v => ih fun l => K (v :: l)) l
theorem forceL_eq {F : TV → (TV → Prop) → Prop} (hF : ∀ v, F v = fun K => K v) : ∀ l, forceL F l = fun K => K l
 | [] => rfl
 | v :: l => by
  have ih := forceL_eq hF l
  funext K
  show F v (fun v => forceL F l fun l => K (v :: l)) = K (v :: l)
  rw [hF, ih]
def forceA (v : TV) (K : TV → Prop) : Prop := match v with
 | .j => K .j
 | .s v => K (.s v)
 | .sl z es fl => forceN z fun z => K (.sl z es fl)
 | .tk n => forceN n fun n => K (.tk n)
 | .ptr n o => forceN n fun n => forceN o fun o => K (.ptr n o)
 | .ep e o => forceN o fun o => K (.ep e o)
 | .wp n i o => forceN n fun n => forceN o fun o => K (.wp n i o)
 | .mp n => forceN n fun n => K (.mp n)
 | .bg n len => forceN n fun n => K (.bg n len)
 | .sv n i => forceN n fun n => K (.sv n i)
 | .agg cs => forceL forceC cs fun cs => K (.agg cs)
 | .tup cs => K (.tup cs)
 | .ifc t v => K (.ifc t v)
 | .clo g a c => forceL forceC a fun a => forceL forceC c fun c => K (.clo g a c)
 | .own y => K (.own y)
theorem forceA_eq (v : TV) : forceA v = fun K => K v := by funext K; cases v <;> simp [forceA, forceN_eq, forceL_eq forceC_eq]
def forceV (v : TV) (K : TV → Prop) : Prop := match v with
 | .j => K .j
 | .s v => K (.s v)
 | .sl z es fl => forceN z fun z => K (.sl z es fl)
 | .tk n => forceN n fun n => K (.tk n)
 | .ptr n o => forceN n fun n => forceN o fun o => K (.ptr n o)
 | .ep e o => forceN o fun o => K (.ep e o)
 | .wp n i o => forceN n fun n => forceN o fun o => K (.wp n i o)
 | .mp n => forceN n fun n => K (.mp n)
 | .bg n len => forceN n fun n => K (.bg n len)
 | .sv n i => forceN n fun n => K (.sv n i)
 | .agg cs => forceL forceC cs fun cs => K (.agg cs)
 | .tup cs => forceL forceA cs fun cs => K (.tup cs)
 | .ifc t v => forceA v fun v => K (.ifc t v)
 | .clo g a c => forceL forceC a fun a => forceL forceC c fun c => K (.clo g a c)
 | .own y => K (.own y)
theorem forceV_eq (v : TV) : forceV v = fun K => K v := by funext K; cases v <;> simp [forceV, forceN_eq, forceL_eq forceC_eq, forceL_eq forceA_eq, forceA_eq]
def forceQ (q : List (Nat × List TV)) : (List (Nat × List TV) → Prop) → Prop := @List.rec (Nat × List TV) (fun _ => (List (Nat × List TV) → Prop) → Prop) (fun K => K []) (fun p _ ih K => forceL forceC p.2 fun x => ih fun l => K ((p.1, x) :: l)) q
theorem forceQ_eq : ∀ q, forceQ q = fun K => K q
 | [] => rfl
 | p :: q => by
  have ih := forceQ_eq q
  funext K
  show forceL forceC p.2 (fun x => forceQ q fun l => K ((p.1, x) :: l)) = K (p :: q)
  rw [forceL_eq forceC_eq, ih]
def forceM (q : List (Value × TV)) : (List (Value × TV) → Prop) → Prop := @List.rec (Value × TV) (fun _ => (List (Value × TV) → Prop) → Prop) (fun K => K []) (fun p _ ih K => forceA p.2 fun x => ih fun l => K ((p.1, x) :: l)) q
theorem forceM_eq : ∀ q, forceM q = fun K => K q
 | [] => rfl
 | p :: q => by
  have ih := forceM_eq q
  funext K
  show forceA p.2 (fun x => forceM q fun l => K ((p.1, x) :: l)) = K (p :: q)
  rw [forceA_eq, ih]
def forceT (x : TO) (K : TO → Prop) : Prop := match x with
 | .cells cs => forceL forceC cs fun cs => K (.cells cs)
 | .map kd es => forceN kd fun kd => K (.map kd es)
 | .arr z w es => forceN z fun z => match w with | true => K (.arr z true es) | false => K (.arr z false es)
 | .arq z es op => forceN z fun z => forceQ op fun op => K (.arq z es op)
 | .maq kd es op => forceN kd fun kd => forceM op fun op => K (.maq kd es op)
 | .bag ks => K (.bag ks)
theorem forceT_eq (x : TO) : forceT x = fun K => K x := by
 funext K
 cases x with
 | cells cs => simp [forceT, forceL_eq forceC_eq]
 | map kd es => simp [forceT, forceN_eq]
 | arr z w es => cases w <;> simp [forceT, forceN_eq]
 | arq z es op => simp [forceT, forceN_eq, forceQ_eq]
 | maq kd es op => simp [forceT, forceN_eq, forceM_eq]
 | bag ks => rfl
def forceO (o : Ob) : (Ob → Prop) → Prop := @List.rec (Nat × TO) (fun _ => (Ob → Prop) → Prop) (fun K => K []) (fun p _ ih K => forceN p.1 fun n => forceT p.2 fun x => ih fun l => K ((n, x) :: l)) o
theorem forceO_eq : ∀ o, forceO o = fun K => K o
 | [] => rfl
 | p :: o => by
  have ih := forceO_eq o
  funext K
  show forceN p.1 (fun n => forceT p.2 fun x => forceO o fun l => K ((n, x) :: l)) = K (p :: o)
  rw [forceN_eq, forceT_eq, ih]
def strict (l : VL) (v : TV) (o : Ob) (c : Nat) (K : TV → Ob → Nat → Prop) : Prop := match l with
 | .pure => forceV v fun v => K v o c
 | .alloc => forceV v fun v => forceO o fun o => forceN c fun c => K v o c
 | .rdF => forceV v fun v => K v o c
 | .rdO _ => forceV v fun v => forceO o fun o => forceN c fun c => K v o c
 | .rdN _ _ _ => forceV v fun v => forceO o fun o => forceN c fun c => K v o c
 | .eff _ => forceV v fun v => forceO o fun o => forceN c fun c => K v o c
 | .effI _ => forceV v fun v => forceO o fun o => forceN c fun c => K v o c
 | .effG => forceV v fun v => forceO o fun o => forceN c fun c => K v o c
 | .bad => forceV v fun v => K v o c
theorem strict_eq (l : VL) (v : TV) (o : Ob) (c : Nat) : strict l v o c = fun K => K v o c := by
 funext K; cases l <;> simp [strict, forceV_eq, forceO_eq, forceN_eq]
def wopsR (E : Env) (vc : VCs) (n : Nat) (ops : List Oper) (l : List Oper) : Fr → Ob → Nat → RK → Prop :=
 @List.rec Oper (fun _ => Fr → Ob → Nat → RK → Prop) (fun f o c K => K f o c)
  (fun p _ ih f o c K => wguard ops p f
   (wop E vc p.op f o c fun v o' c' l => strict l v o' c' fun v o' c' => wput p.dst n v f fun f' => ih f' o' c' K)
   (wput p.dst n (.tup []) f fun f' => ih f' o c K)) l
theorem wopsR_eq (E : Env) (vc : VCs) (n : Nat) (ops : List Oper) : ∀ (l : List Oper) f o c K, wopsR E vc n ops l f o c K = wops E vc n ops l f o c K := by
 intro l
 induction l with
 | nil => intro f o c K; rfl
 | cons p rest ih =>
  intro f o c K
  have e : (fun f' o' c' (K : RK) => wopsR E vc n ops rest f' o' c' K) = fun f' o' c' K => wops E vc n ops rest f' o' c' K := by funext a b d e; exact ih a b d e
  show wguard ops p f (wop E vc p.op f o c fun v o' c' l => strict l v o' c' fun v o' c' => wput p.dst n v f fun f' => (fun f' o' c' (K : RK) => wopsR E vc n ops rest f' o' c' K) f' o' c' K) (wput p.dst n (.tup []) f fun f' => (fun f' o' c' (K : RK) => wopsR E vc n ops rest f' o' c' K) f' o c K) = _
  rw [e]
  simp only [strict_eq]
  rfl
def wopsLR (E : Env) (vc : VCs) (n : Nat) (ops : List Oper) (l : List Oper) : Fr → Ob → Nat → List VN → (List VN → RK) → Prop :=
 @List.rec Oper (fun _ => Fr → Ob → Nat → List VN → (List VN → RK) → Prop) (fun f o c lg K => K lg f o c)
  (fun p _ ih f o c lg K => wguard ops p f
   (wop E vc p.op f o c fun v o' c' l => strict l v o' c' fun v o' c' => wput p.dst n v f fun f' => ih f' o' c' (lg ++ [(l, o)]) K)
   (wput p.dst n (.tup []) f fun f' => ih f' o c (lg ++ [(.pure, o)]) K)) l
theorem wopsLR_eq (E : Env) (vc : VCs) (n : Nat) (ops : List Oper) : ∀ (l : List Oper) f o c lg K, wopsLR E vc n ops l f o c lg K = wopsL E vc n ops l f o c lg K := by
 intro l
 induction l with
 | nil => intro f o c lg K; rfl
 | cons p rest ih =>
  intro f o c lg K
  have e : (fun f' o' c' lg (K : List VN → RK) => wopsLR E vc n ops rest f' o' c' lg K) = fun f' o' c' lg K => wopsL E vc n ops rest f' o' c' lg K := by funext a b d g e; exact ih a b d g e
  show wguard ops p f (wop E vc p.op f o c fun v o' c' l => strict l v o' c' fun v o' c' => wput p.dst n v f fun f' => (fun f' o' c' lg (K : List VN → RK) => wopsLR E vc n ops rest f' o' c' lg K) f' o' c' (lg ++ [(l, o)]) K) (wput p.dst n (.tup []) f fun f' => (fun f' o' c' lg (K : List VN → RK) => wopsLR E vc n ops rest f' o' c' lg K) f' o c (lg ++ [(.pure, o)]) K) = _
  rw [e]
  simp only [strict_eq]
  rfl
structure Drawn (b : Bool) (K : Prop) : Prop where
 ok : b = true
 go : K
theorem drawn_eq (b : Bool) (K : Prop) : Drawn b K = (match (generalizing := false) b with | true => K | false => False) := by
 cases b with
 | true => exact propext ⟨fun h => h.go, fun h => ⟨rfl, h⟩⟩
 | false => exact propext (Iff.intro (fun h => by cases h.ok) (fun h => False.elim h))
abbrev WP := Fr → Ob → Nat → CK → Prop
def wpR (E : Env) (vc : VCs) (n c0 : Nat) (cuts : List Nat) (code : Code) : WP :=
 @Code.rec (fun _ => WP)
  (fun f o c Q => Q .normal f o c)
  (fun _ ops draw f o c Q => (match draw with
  | false => wopsR E vc n ops.toList ops.toList f o c fun f' o' c' => Q .normal f' o' c'
  | true => Drawn (staticOk ops.toList && dstsIn n ops.toList) (wopsLR E vc n ops.toList ops.toList f o c [] fun lg f' o' c' => Drawn (drawOk (befores ops.toList []) o' 0 lg) (Q .normal f' o' c'))))
  (fun _ _ iha ihb f o c Q => iha f o c fun ex f' o' c' => (match ex with
  | .normal => ihb f' o' c' Q
  | .exit id => Q (.exit id) f' o' c'
  | .ret => Q .ret f' o' c'))
  (fun q _ _ iht ihe f o c Q => (match evOk E q with
  | false => False
  | true => (match evT E f q with
   | .s (.bool b) => (match b with
    | true => iht f o c Q
    | false => ihe f o c Q)
   | _ => False)))
  (fun id _ ih f o c Q => (match memN id cuts with
  | false => ih f o c fun ex f' o' c' => (match ex with
   | .exit id' => (match Nat.beq id' id with
    | true => Q .normal f' o' c'
    | false => Q (.exit id') f' o' c')
   | .normal => Q .normal f' o' c'
   | .ret => Q .ret f' o' c')
  | true => ∃ Mid : RK, (ih f o c fun ex f' o' c' => (match ex with
   | .exit id' => (match Nat.beq id' id with
    | true => toldAs c0 f' o' c' Mid
    | false => Q (.exit id') f' o' c')
   | .normal => toldAs c0 f' o' c' Mid
   | .ret => Q .ret f' o' c')) ∧ ∀ f' o' c', Mid f' o' c' → Q .normal f' o' c'))
  (fun _ ih f o c Q => ∃ Inv : Nat → Fr → Ob → Nat → Prop, (∃ k, toldAs c0 f o c (Inv k)) ∧
   ∀ k f1 o1 c1, Inv k f1 o1 c1 → ih f1 o1 c1 fun ex f' o' c' => (match ex with
    | .normal => ∃ k', toldAs c0 f' o' c' (Inv k') ∧ k' < k
    | .exit id => Q (.exit id) f' o' c'
    | .ret => Q .ret f' o' c'))
  (fun _ _ _ _ _ _ _ _ _ _ => False)
  (fun id f o c Q => Q (.exit id) f o c)
  (fun _ _ _ _ _ _ => False)
  (fun _ _ _ _ _ => False)
  (fun _ _ _ _ _ => False)
  (fun f o c Q => Q .ret f o c)
  (fun _ _ _ _ _ => False) code
theorem wpR_eq (E : Env) (vc : VCs) (n c0 : Nat) (cuts : List Nat) : ∀ (code : Code) f o c Q, wpR E vc n c0 cuts code f o c Q = wp E vc n c0 cuts code f o c Q := by
 intro code
 induction code with
 | region id ops draw =>
  intro f o c Q
  have e1 : (fun K => wopsR E vc n ops.toList ops.toList f o c K) = fun K => wops E vc n ops.toList ops.toList f o c K := by funext K; exact wopsR_eq ..
  have e2 : (fun lg K => wopsLR E vc n ops.toList ops.toList f o c lg K) = fun lg K => wopsL E vc n ops.toList ops.toList f o c lg K := by funext lg K; exact wopsLR_eq ..
  show (match draw with
  | false => (fun K => wopsR E vc n ops.toList ops.toList f o c K) fun f' o' c' => Q .normal f' o' c'
  | true => Drawn (staticOk ops.toList && dstsIn n ops.toList) ((fun lg K => wopsLR E vc n ops.toList ops.toList f o c lg K) [] fun lg f' o' c' => Drawn (drawOk (befores ops.toList []) o' 0 lg) (Q .normal f' o' c'))) = _
  rw [e1, e2]
  simp only [drawn_eq]
  cases draw <;> rfl
 | seq a b iha ihb =>
  intro f o c Q
  have e1 : (fun f o c Q => wpR E vc n c0 cuts a f o c Q) = fun f o c Q => wp E vc n c0 cuts a f o c Q := by funext f o c Q; exact iha ..
  have e2 : (fun f o c Q => wpR E vc n c0 cuts b f o c Q) = fun f o c Q => wp E vc n c0 cuts b f o c Q := by funext f o c Q; exact ihb ..
  show ((fun f o c Q => wpR E vc n c0 cuts a f o c Q) f o c fun ex f' o' c' => (match ex with
  | .normal => (fun f o c Q => wpR E vc n c0 cuts b f o c Q) f' o' c' Q
  | .exit id => Q (.exit id) f' o' c'
  | .ret => Q .ret f' o' c')) = _
  rw [e1, e2]
  rfl
 | cond q t e iht ihe =>
  intro f o c Q
  have e1 : (fun f o c Q => wpR E vc n c0 cuts t f o c Q) = fun f o c Q => wp E vc n c0 cuts t f o c Q := by funext f o c Q; exact iht ..
  have e2 : (fun f o c Q => wpR E vc n c0 cuts e f o c Q) = fun f o c Q => wp E vc n c0 cuts e f o c Q := by funext f o c Q; exact ihe ..
  show (match evOk E q with
  | false => False
  | true => (match evT E f q with
   | .s (.bool b) => (match b with
    | true => (fun f o c Q => wpR E vc n c0 cuts t f o c Q) f o c Q
    | false => (fun f o c Q => wpR E vc n c0 cuts e f o c Q) f o c Q)
   | _ => False)) = _
  rw [e1, e2]
  rfl
 | block id b ih =>
  intro f o c Q
  have e1 : (fun f o c Q => wpR E vc n c0 cuts b f o c Q) = fun f o c Q => wp E vc n c0 cuts b f o c Q := by funext f o c Q; exact ih ..
  show (match memN id cuts with
  | false => (fun f o c Q => wpR E vc n c0 cuts b f o c Q) f o c fun ex f' o' c' => (match ex with
   | .exit id' => (match Nat.beq id' id with
    | true => Q .normal f' o' c'
    | false => Q (.exit id') f' o' c')
   | .normal => Q .normal f' o' c'
   | .ret => Q .ret f' o' c')
  | true => ∃ Mid : RK, ((fun f o c Q => wpR E vc n c0 cuts b f o c Q) f o c fun ex f' o' c' => (match ex with
   | .exit id' => (match Nat.beq id' id with
    | true => toldAs c0 f' o' c' Mid
    | false => Q (.exit id') f' o' c')
   | .normal => toldAs c0 f' o' c' Mid
   | .ret => Q .ret f' o' c')) ∧ ∀ f' o' c', Mid f' o' c' → Q .normal f' o' c') = _
  rw [e1]
  rfl
 | loop b ih =>
  intro f o c Q
  have e1 : (fun f o c Q => wpR E vc n c0 cuts b f o c Q) = fun f o c Q => wp E vc n c0 cuts b f o c Q := by funext f o c Q; exact ih ..
  show (∃ Inv : Nat → Fr → Ob → Nat → Prop, (∃ k, toldAs c0 f o c (Inv k)) ∧
   ∀ k f1 o1 c1, Inv k f1 o1 c1 → (fun f o c Q => wpR E vc n c0 cuts b f o c Q) f1 o1 c1 fun ex f' o' c' => (match ex with
    | .normal => ∃ k', toldAs c0 f' o' c' (Inv k') ∧ k' < k
    | .exit id => Q (.exit id) f' o' c'
    | .ret => Q .ret f' o' c')) = _
  rw [e1]
  rfl
 | _ => intros; rfl
theorem VC.enterR {E T : Env} (L : EnvLe T E) {g : FuncId} {fn : Func} {code : Code} {c0 : Nat} {args : List TV} {o0 : Ob} {R : TV → Ob → Nat → Prop} (hf : E.func g = some fn) (ho : ∀ a h, E.orc g a h = none) (hb : fn.body = some code) (hlen : Nat.ble args.length fn.ntmps = true)
 (cuts : List Nat) (hw : wpR T (VC E) fn.ntmps c0 cuts code (argsF 0 args) o0 c0 (wret T c0 fn.results.toList R)) : VC E g c0 args o0 R :=
 VC.enter L hf ho hb hlen cuts (by rw [← wpR_eq]; exact hw)
theorem D1 {b : Bool} {K : Prop} (k : K) (h : b = true := by kernel_rfl) : Drawn b K := ⟨h, k⟩
theorem t3 {a b c : Prop} (h1 : a := by (repeat' first|with_reducible exact Lz.rfl|exact Lw.rfl|exact Lz.wrap (by omega)|(unfold goInt;with_reducible exact Lz.rfl)|exact flx _|constructor)) (h2 : b := by (repeat' first|with_reducible exact Lz.rfl|exact Lw.rfl|exact Lz.wrap (by omega)|(unfold goInt;with_reducible exact Lz.rfl)|exact flx _|constructor)) (h3 : c := by rfl) : a ∧ b ∧ c := ⟨h1, h2, h3⟩
end Go.M
namespace Go.M
open Go Go.Proofs
def kinds0 : List Value := [
 .string ⟨#[]⟩, .int .i64 0, .int .i64 0, .int .i64 0, .int .i64 0, .int .i64 0, .int .i64 0,
 .string ⟨#[112, 114, 101, 112, 97, 114, 101]⟩, .int .i64 4, .int .i64 32, .int .i64 0, .int .i64 0, .int .i64 0, .int .i64 0,
 .string ⟨#[112, 114, 111, 109, 105, 115, 101]⟩, .int .i64 4, .int .i64 32, .int .i64 4096, .int .i64 0, .int .i64 0, .int .i64 0,
 .string ⟨#[97, 99, 99, 101, 112, 116]⟩, .int .i64 4, .int .i64 32, .int .i64 1024, .int .i64 0, .int .i64 0, .int .i64 0,
 .string ⟨#[97, 99, 99, 101, 112, 116, 101, 100]⟩, .int .i64 4, .int .i64 32, .int .i64 0, .int .i64 0, .int .i64 0, .int .i64 0,
 .string ⟨#[99, 104, 111, 115, 101, 110]⟩, .int .i64 32, .int .i64 1024, .int .i64 0, .int .i64 0, .int .i64 0, .int .i64 0,
 .string ⟨#[98, 101, 97, 116]⟩, .int .i64 4, .int .i64 32, .int .i64 0, .int .i64 0, .int .i64 0, .int .i64 0,
 .string ⟨#[119, 97, 110, 116]⟩, .int .i64 32, .int .i64 0, .int .i64 0, .int .i64 0, .int .i64 0, .int .i64 0,
 .string ⟨#[114, 101, 102, 117, 115, 101]⟩, .int .i64 4, .int .i64 0, .int .i64 0, .int .i64 0, .int .i64 0, .int .i64 0,
 .string ⟨#[114, 101, 112, 111, 114, 116]⟩, .int .i64 1024, .int .i64 0, .int .i64 0, .int .i64 0, .int .i64 0, .int .i64 0,
 .string ⟨#[108, 111, 99, 97, 116, 101]⟩, .int .i64 1, .int .i64 0, .int .i64 0, .int .i64 0, .int .i64 0, .int .i64 0,
 .string ⟨#[99, 111, 110, 102, 105, 103]⟩, .int .i64 2048, .int .i64 0, .int .i64 0, .int .i64 0, .int .i64 0, .int .i64 0,
 .string ⟨#[112, 117, 115, 104]⟩, .int .i64 1, .int .i64 2, .int .i64 8, .int .i64 16, .int .i64 8192, .int .i64 0,
 .string ⟨#[97, 99, 107]⟩, .int .i64 1, .int .i64 2, .int .i64 8, .int .i64 16, .int .i64 64, .int .i64 32,
 .string ⟨#[112, 97, 114, 116]⟩, .int .i64 1, .int .i64 2, .int .i64 8, .int .i64 32, .int .i64 64, .int .i64 16384,
 .string ⟨#[113, 117, 101, 114, 121]⟩, .int .i64 1, .int .i64 2, .int .i64 64, .int .i64 256, .int .i64 0, .int .i64 0,
 .string ⟨#[116, 111, 108, 100]⟩, .int .i64 1, .int .i64 2, .int .i64 64, .int .i64 256, .int .i64 512, .int .i64 0,
 .string ⟨#[119, 114, 105, 116, 101]⟩, .int .i64 1, .int .i64 2, .int .i64 8192, .int .i64 0, .int .i64 0, .int .i64 0,
 .string ⟨#[119, 114, 111, 116, 101]⟩, .int .i64 64, .int .i64 128, .int .i64 512, .int .i64 0, .int .i64 0, .int .i64 0,
 .string ⟨#[114, 101, 97, 100]⟩, .int .i64 1, .int .i64 2, .int .i64 64, .int .i64 256, .int .i64 0, .int .i64 0,
 .string ⟨#[103, 111, 116]⟩, .int .i64 64, .int .i64 256, .int .i64 512, .int .i64 16384, .int .i64 0, .int .i64 0]
def tabs0 : Tabs := [(0, kinds0)]
noncomputable def E0 := envT Tryz.prog tabs0 (orcX tabs0 [5] (orcV [] []))
noncomputable def T0 := tE E0 [48]
set_option maxRecDepth 100000
theorem rows0 : [48].all (eqRow E0) = true := by kernel_rfl
theorem L0 : EnvLe T0 E0 := tE_le (fun t z h => by
 simp only [E0, envT, envOf, Option.bind_eq_some_iff, grd_some, Option.some.injEq] at h
 obtain ⟨i, h1, z', h2, h3, rfl⟩ := h
 exact h3) rows0
structure UpdL where
 a : Int
 b : Int
 c : Int
 d : Int
 e : Int
 f : Int
 data : List (List TV)
@[reducible] def encU (u : UpdL) : List TV := [.s (.int .u64 u.a), .s (.int .i64 u.b), .s (.int .u64 u.c), .s (.int .i64 u.d), .s (.int .u32 u.e), .s (.int .u64 u.f), .sl 1 u.data false]
structure Let where
 kind : Int
 frm : Int
 to : Int
 chain : Int
 epoch : Int
 ballot : Int
 num : Int
 seq : Int
 done : Int
 ver : Int
 slot : Int
 key : Int
 code : Int
 k : Int
 c : Int
 e : Int
 n : Int
 cc : Int
 ce : Int
 nodes : List (List TV)
 fresh : Bool
 join : Int
 votes : List (List TV)
 upds : List UpdL
 data : List (List TV)
@[reducible] def encL (l : Let) : List TV := [.s (.int .i64 l.kind), .s (.int .i64 l.frm), .s (.int .i64 l.to), .s (.int .i64 l.chain), .s (.int .u64 l.epoch), .s (.int .u64 l.ballot), .s (.int .u64 l.num), .s (.int .u64 l.seq), .s (.int .u64 l.done), .s (.int .u64 l.ver),
 .s (.int .i64 l.slot), .s (.int .u32 l.key), .s (.int .i64 l.code), .s (.int .i64 l.k), .s (.int .i64 l.c), .s (.int .u64 l.e), .s (.int .i64 l.n), .s (.int .i64 l.cc), .s (.int .u64 l.ce), .sl 1 l.nodes false, .s (.bool l.fresh), .s (.int .i64 l.join),
 .sl 6 l.votes false, .sl 7 (l.upds.map encU) false, .sl 1 l.data false]
@[reducible] def nilP : TV := .s (.pointer none)
@[reducible] def nilS : TV := .sl 0 [] true
@[reducible] def i0 : TV := .s (.int .i64 0)
@[reducible] def u0 : TV := .s (.int .u64 0)
@[reducible] def bF : TV := .s (.bool false)
structure ConfR where
 (chain : Int) (epoch : Int) (nodes : List (List TV)) (fresh : Bool) (join : Int)
@[reducible] def encR (c : ConfR) : List TV := [.s (.int .i64 c.chain), .s (.int .u64 c.epoch), .sl 1 c.nodes false, .s (.bool c.fresh), .s (.int .i64 c.join)]
@[reducible] def zC : TV := .agg [i0, u0, nilS, bF, i0]
theorem far_ok (l : Let) : VC E0 4 0 [.agg (encL l)] [] (fun r o c => (∃ b, r = .s (.bool b)) ∧ c = 0 ∧ o = []) := by
 refine VC.enterR L0 (show E0.func 4 = some Tryz.f4 by kernel_rfl) (fun _ _ => rfl) rfl rfl [] ?_
 ((conv=>whnf)<;>repeat(with_reducible refine D1 ?_)<;>conv=>whnf)
 refine ⟨fun k f o c => ∃ i : Nat, i ≤ l.upds.length ∧ i ≤ 9 ∧ k = l.upds.length - i ∧ c = 1 ∧ f = [(1, .ptr 0 0), (2, .s (.bool false)), (3, .s (.int .i64 i))] ∧ o = [(0, .cells (encL l))], ⟨l.upds.length, ?_⟩, ?_⟩
 ·exact ⟨[], [some 0], _, _, _, t3, ⟨0, Nat.zero_le _, by omega, rfl, rfl, rfl, rfl⟩⟩
 ·rintro k f1 o1 c1 ⟨i, hi, h9, rfl, rfl, rfl, rfl⟩
  ((conv=>whnf)<;>repeat(with_reducible refine D1 ?_)<;>conv=>whnf)
  (first|refine ⟨?_,?_⟩|refine nsplit ?_ ?_|refine bsplit ?_ ?_)<;>intro h<;>have hz_:=True.intro<;>clear hz_
  ·have h := lenlt.1 h
   ((conv=>whnf)<;>repeat(with_reducible refine D1 ?_)<;>conv=>whnf)
   (first|refine ⟨?_,?_⟩|refine nsplit ?_ ?_|refine bsplit ?_ ?_)<;>intro h8<;>have hz_:=True.intro<;>clear hz_
   ·((conv=>whnf)<;>repeat(with_reducible refine D1 ?_)<;>conv=>whnf)
    refine idxI h ?_
    ((conv=>whnf)<;>repeat(with_reducible refine D1 ?_)<;>conv=>whnf)
    (first|refine ⟨?_,?_⟩|refine nsplit ?_ ?_|refine bsplit ?_ ?_)<;>intro hd<;>have hz_:=True.intro<;>clear hz_
    ·((conv=>whnf)<;>repeat(with_reducible refine D1 ?_)<;>conv=>whnf)
     exact ⟨[], [], [], .s (.bool _), [], ⟨.s Lz.rfl, .nil, rfl⟩, ⟨_, rfl⟩, rfl, rfl⟩
    ·((conv=>whnf)<;>repeat(with_reducible refine D1 ?_)<;>conv=>whnf)
     refine ⟨l.upds.length - (i + 1), ?_, by omega⟩
     exact ⟨[], [some 0], _, _, _, t3, ⟨i + 1, h, by omega, rfl, rfl, rfl, rfl⟩⟩
   ·((conv=>whnf)<;>repeat(with_reducible refine D1 ?_)<;>conv=>whnf)
    repeat' (first | ((first | (refine ⟨fun h => ?_, fun h => ?_⟩) | (refine nsplit (fun h => ?_) (fun h => ?_)) | (refine bsplit (fun h => ?_) (fun h => ?_))) <;> ((conv=>whnf)<;>repeat(with_reducible refine D1 ?_)<;>conv=>whnf)))
    all_goals exact ⟨[], [], [], .s (.bool _), [], ⟨.s Lz.rfl, .nil, rfl⟩, ⟨_, rfl⟩, rfl, rfl⟩
  ·((conv=>whnf)<;>repeat(with_reducible refine D1 ?_)<;>conv=>whnf)
   repeat' (first | ((first | (refine ⟨fun h => ?_, fun h => ?_⟩) | (refine nsplit (fun h => ?_) (fun h => ?_)) | (refine bsplit (fun h => ?_) (fun h => ?_))) <;> ((conv=>whnf)<;>repeat(with_reducible refine D1 ?_)<;>conv=>whnf)))
   all_goals exact ⟨[], [], [], .s (.bool _), [], ⟨.s Lz.rfl, .nil, rfl⟩, ⟨_, rfl⟩, rfl, rfl⟩
theorem adopt_nil (c : ConfR) : VC E0 6 0 [nilP, .agg (encR c)] [] (RR (.tup [nilS, bF]) 0 []) := by
 refine VC.enterR L0 (show E0.func 6 = some Tryz.f6 by kernel_rfl) (fun _ _ => rfl) rfl rfl [] ?_
 ((conv=>whnf)<;>repeat(with_reducible refine D1 ?_)<;>conv=>whnf)
 exact ⟨[], [], _, _, _, t3, rfl, rfl, rfl⟩
theorem got_nil : VC E0 7 0 [nilP] [] (RR (.tup [u0, bF]) 0 []) := by
 refine VC.enterR L0 (show E0.func 7 = some Tryz.f7 by kernel_rfl) (fun _ _ => rfl) rfl rfl [] ?_
 ((conv=>whnf)<;>repeat(with_reducible refine D1 ?_)<;>conv=>whnf)
 exact ⟨[], [], _, _, _, t3, rfl, rfl, rfl⟩
theorem take_nil (l : Let) : VC E0 8 0 [nilP, .agg (encL l)] [] (RR nilS 0 []) := by
 refine VC.enterR L0 (show E0.func 8 = some Tryz.f8 by kernel_rfl) (fun _ _ => rfl) rfl rfl [] ?_
 ((conv=>whnf)<;>repeat(with_reducible refine D1 ?_)<;>conv=>whnf)
 exact ⟨[], [], _, _, _, t3, rfl, rfl, rfl⟩
theorem tick_nil : VC E0 9 0 [nilP] [] (RR nilS 0 []) := by
 refine VC.enterR L0 (show E0.func 9 = some Tryz.f9 by kernel_rfl) (fun _ _ => rfl) rfl rfl [] ?_
 ((conv=>whnf)<;>repeat(with_reducible refine D1 ?_)<;>conv=>whnf)
 exact ⟨[], [], _, _, _, t3, rfl, rfl, rfl⟩
theorem conf_nil : VC E0 11 0 [nilP] [] (RR zC 0 []) := by
 refine VC.enterR L0 (show E0.func 11 = some Tryz.f11 by kernel_rfl) (fun _ _ => rfl) rfl rfl [] ?_
 ((conv=>whnf)<;>repeat(with_reducible refine D1 ?_)<;>conv=>whnf)
 exact ⟨[], [], _, _, _, t3, rfl, rfl, rfl⟩
theorem open_nil : VC E0 13 0 [nilP] [] (RR bF 0 []) := by
 refine VC.enterR L0 (show E0.func 13 = some Tryz.f13 by kernel_rfl) (fun _ _ => rfl) rfl rfl [] ?_
 ((conv=>whnf)<;>repeat(with_reducible refine D1 ?_)<;>conv=>whnf)
 exact ⟨[], [], _, _, _, t3, rfl, rfl, rfl⟩
theorem store_nil : VC E0 18 0 [nilP] [] (RR nilP 0 []) := by
 refine VC.enterR L0 (show E0.func 18 = some Tryz.f18 by kernel_rfl) (fun _ _ => rfl) rfl rfl [] ?_
 ((conv=>whnf)<;>repeat(with_reducible refine D1 ?_)<;>conv=>whnf)
 exact ⟨[], [], _, _, _, t3, rfl, rfl, rfl⟩
theorem send_nil : VC E0 38 0 [nilP] [] (RR u0 0 []) := by
 refine VC.enterR L0 (show E0.func 38 = some Tryz.f38 by kernel_rfl) (fun _ _ => rfl) rfl rfl [] ?_
 ((conv=>whnf)<;>repeat(with_reducible refine D1 ?_)<;>conv=>whnf)
 exact ⟨[], [], _, _, _, t3, rfl, rfl, rfl⟩
theorem end_nil : VC E0 14 0 [nilP] [] (RR u0 0 []) := by
 refine VC.enterR L0 (show E0.func 14 = some Tryz.f14 by kernel_rfl) (fun _ _ => rfl) rfl rfl [] ?_
 ((conv=>whnf)<;>repeat(with_reducible refine D1 ?_)<;>conv=>whnf)
 refine ⟨[], [], _, _, _, _, store_nil, t3, ?_⟩
 rintro r o' c' ⟨rfl, rfl, rfl⟩
 ((conv=>whnf)<;>repeat(with_reducible refine D1 ?_)<;>conv=>whnf)
 refine ⟨[], [], _, _, _, _, send_nil, t3, ?_⟩
 rintro r o' c' ⟨rfl, rfl, rfl⟩
 ((conv=>whnf)<;>repeat(with_reducible refine D1 ?_)<;>conv=>whnf)
 exact ⟨[], [], _, _, _, t3, rfl, rfl, rfl⟩
theorem done_nil : VC E0 15 0 [nilP] [] (RR u0 0 []) := by
 refine VC.enterR L0 (show E0.func 15 = some Tryz.f15 by kernel_rfl) (fun _ _ => rfl) rfl rfl [] ?_
 ((conv=>whnf)<;>repeat(with_reducible refine D1 ?_)<;>conv=>whnf)
 exact ⟨[], [], _, _, _, t3, rfl, rfl, rfl⟩
theorem low_nil : VC E0 16 0 [nilP] [] (RR u0 0 []) := by
 refine VC.enterR L0 (show E0.func 16 = some Tryz.f16 by kernel_rfl) (fun _ _ => rfl) rfl rfl [] ?_
 ((conv=>whnf)<;>repeat(with_reducible refine D1 ?_)<;>conv=>whnf)
 exact ⟨[], [], _, _, _, t3, rfl, rfl, rfl⟩
theorem caught_nil : VC E0 17 0 [nilP] [] (RR bF 0 []) := by
 refine VC.enterR L0 (show E0.func 17 = some Tryz.f17 by kernel_rfl) (fun _ _ => rfl) rfl rfl [] ?_
 ((conv=>whnf)<;>repeat(with_reducible refine D1 ?_)<;>conv=>whnf)
 exact ⟨[], [], _, _, _, t3, rfl, rfl, rfl⟩
theorem same04 : VC E0 36 0 [nilS, nilS] [] (RR (.s (.bool true)) 0 []) := by
 refine VC.enterR L0 (show E0.func 36 = some Tryz.f36 by kernel_rfl) (fun _ _ => rfl) rfl rfl [] ?_
 ((conv=>whnf)<;>repeat(with_reducible refine D1 ?_)<;>conv=>whnf)
 repeat ((first | (refine ⟨fun h_ => ?_, fun h_ => ?_⟩) | (refine nsplit (fun h_ => ?_) (fun h_ => ?_)) | (refine bsplit (fun h_ => ?_) (fun h_ => ?_))) <;> first | (exfalso; revert h_; decide; done) | (exact absurd rfl h_) | (have hz_ := True.intro; clear hz_; ((conv=>whnf)<;>repeat(with_reducible refine D1 ?_)<;>conv=>whnf)))
 refine ⟨fun k f o c => k = 0 ∧ c = 0 ∧ f = [(0, nilS), (1, nilS), (5, i0)] ∧ o = [], ⟨0, ?_⟩, ?_⟩
 ·exact ⟨[], [], _, _, _, t3, ⟨rfl, rfl, rfl, rfl⟩⟩
 ·rintro k f1 o1 c1 ⟨rfl, rfl, rfl, rfl⟩
  ((conv=>whnf)<;>repeat(with_reducible refine D1 ?_)<;>conv=>whnf)
  repeat ((first | (refine ⟨fun h_ => ?_, fun h_ => ?_⟩) | (refine nsplit (fun h_ => ?_) (fun h_ => ?_)) | (refine bsplit (fun h_ => ?_) (fun h_ => ?_))) <;> first | (exfalso; revert h_; decide; done) | (exact absurd rfl h_) | (have hz_ := True.intro; clear hz_; ((conv=>whnf)<;>repeat(with_reducible refine D1 ?_)<;>conv=>whnf)))
  exact ⟨[], [], _, _, _, t3, rfl, rfl, rfl⟩
theorem same09 : VC E0 10 0 [zC, zC] [] (RR (.s (.bool true)) 0 []) := by
 refine VC.enterR L0 (show E0.func 10 = some Tryz.f10 by kernel_rfl) (fun _ _ => rfl) rfl rfl [] ?_
 ((conv=>whnf)<;>repeat(with_reducible refine D1 ?_)<;>conv=>whnf)
 repeat ((first | (refine ⟨fun h_ => ?_, fun h_ => ?_⟩) | (refine nsplit (fun h_ => ?_) (fun h_ => ?_)) | (refine bsplit (fun h_ => ?_) (fun h_ => ?_))) <;> first | (exfalso; revert h_; decide; done) | (exact absurd rfl h_) | (have hz_ := True.intro; clear hz_; ((conv=>whnf)<;>repeat(with_reducible refine D1 ?_)<;>conv=>whnf)))
 refine ⟨[], [], _, _, _, _, same04, t3, ?_⟩
 rintro r o' c' ⟨rfl, rfl, rfl⟩
 ((conv=>whnf)<;>repeat(with_reducible refine D1 ?_)<;>conv=>whnf)
 exact ⟨[], [], _, _, _, t3, rfl, rfl, rfl⟩
theorem awake_r : VC E0 5 0 [] [] (RR (.s (.bool true)) 0 []) := (VC.awakeX (n := 1) (by kernel_rfl) (by kernel_rfl) rfl).mono fun r o c h => ⟨h.1, h.2.2, h.2.1⟩
theorem role_nil : VC E0 12 0 [nilP] [] (RR (.agg [bF, bF, bF, bF, bF, i0, i0, i0]) 0 []) := by
 refine VC.enterR L0 (show E0.func 12 = some Tryz.f12 by kernel_rfl) (fun _ _ => rfl) rfl rfl [] ?_
 ((conv=>whnf)<;>repeat(with_reducible refine D1 ?_)<;>conv=>whnf)
 exact ⟨[], [], _, _, _, t3, rfl, rfl, rfl⟩
theorem replicaNil_ok (c : ConfR) (l : Let) : VC E0 3 0 [.agg (encR c), .agg (encL l)] [] (fun r _ _ => r = .s (.bool true)) := by
 refine VC.enterR L0 (show E0.func 3 = some Tryz.f3 by kernel_rfl) (fun _ _ => rfl) rfl rfl [] ?_
 ((conv=>whnf)<;>repeat(with_reducible refine D1 ?_)<;>conv=>whnf)
 refine ⟨[], [], _, _, _, _, far_ok l, t3, ?_⟩
 rintro r o cc ⟨⟨b, rfl⟩, rfl, rfl⟩
 have hz_ := True.intro
 clear hz_
 cases b
 ·((conv=>whnf)<;>repeat(with_reducible refine D1 ?_)<;>conv=>whnf)
  (first|refine ⟨?_,?_⟩|refine nsplit ?_ ?_|refine bsplit ?_ ?_)<;>intro h<;>have hz_:=True.intro<;>clear hz_
  ·((conv=>whnf)<;>repeat(with_reducible refine D1 ?_)<;>conv=>whnf)
   refine ⟨[], [], _, _, _, _, awake_r, t3, ?_⟩
   rintro r o' c' ⟨rfl, rfl, rfl⟩
   ((conv=>whnf)<;>repeat(with_reducible refine D1 ?_)<;>conv=>whnf)
   exact ⟨[], [], [], .s (.bool true), [], ⟨.s Lz.rfl, .nil, rfl⟩, rfl⟩
  ·((conv=>whnf)<;>repeat(with_reducible refine D1 ?_)<;>conv=>whnf)
   refine ⟨[], [], _, _, _, _, adopt_nil c, t3, ?_⟩
   rintro r o' c' ⟨rfl, rfl, rfl⟩
   ((conv=>whnf)<;>repeat(with_reducible refine D1 ?_)<;>conv=>whnf)
   refine ⟨[], [], _, _, _, _, got_nil, t3, ?_⟩
   rintro r o' c' ⟨rfl, rfl, rfl⟩
   ((conv=>whnf)<;>repeat(with_reducible refine D1 ?_)<;>conv=>whnf)
   repeat ((first | (refine ⟨fun h_ => ?_, fun h_ => ?_⟩) | (refine nsplit (fun h_ => ?_) (fun h_ => ?_)) | (refine bsplit (fun h_ => ?_) (fun h_ => ?_))) <;> first | (exfalso; revert h_; decide; done) | (exact absurd rfl h_) | (have hz_ := True.intro; clear hz_; ((conv=>whnf)<;>repeat(with_reducible refine D1 ?_)<;>conv=>whnf)))
   refine ⟨[], [], _, _, _, _, take_nil l, t3, ?_⟩
   rintro r o' c' ⟨rfl, rfl, rfl⟩
   ((conv=>whnf)<;>repeat(with_reducible refine D1 ?_)<;>conv=>whnf)
   repeat ((first | (refine ⟨fun h_ => ?_, fun h_ => ?_⟩) | (refine nsplit (fun h_ => ?_) (fun h_ => ?_)) | (refine bsplit (fun h_ => ?_) (fun h_ => ?_))) <;> first | (exfalso; revert h_; decide; done) | (exact absurd rfl h_) | (have hz_ := True.intro; clear hz_; ((conv=>whnf)<;>repeat(with_reducible refine D1 ?_)<;>conv=>whnf)))
   refine ⟨[], [], _, _, _, _, tick_nil, t3, ?_⟩
   rintro r o' c' ⟨rfl, rfl, rfl⟩
   ((conv=>whnf)<;>repeat(with_reducible refine D1 ?_)<;>conv=>whnf)
   repeat ((first | (refine ⟨fun h_ => ?_, fun h_ => ?_⟩) | (refine nsplit (fun h_ => ?_) (fun h_ => ?_)) | (refine bsplit (fun h_ => ?_) (fun h_ => ?_))) <;> first | (exfalso; revert h_; decide; done) | (exact absurd rfl h_) | (have hz_ := True.intro; clear hz_; ((conv=>whnf)<;>repeat(with_reducible refine D1 ?_)<;>conv=>whnf)))
   refine ⟨[], [], _, _, _, _, conf_nil, t3, ?_⟩
   rintro r o' c' ⟨rfl, rfl, rfl⟩
   ((conv=>whnf)<;>repeat(with_reducible refine D1 ?_)<;>conv=>whnf)
   refine ⟨[], [], _, _, _, _, same09, t3, ?_⟩
   rintro r o' c' ⟨rfl, rfl, rfl⟩
   ((conv=>whnf)<;>repeat(with_reducible refine D1 ?_)<;>conv=>whnf)
   refine ⟨[], [], _, _, _, _, role_nil, t3, ?_⟩
   rintro r o' c' ⟨rfl, rfl, rfl⟩
   ((conv=>whnf)<;>repeat(with_reducible refine D1 ?_)<;>conv=>whnf)
   repeat ((first | (refine ⟨fun h_ => ?_, fun h_ => ?_⟩) | (refine nsplit (fun h_ => ?_) (fun h_ => ?_)) | (refine bsplit (fun h_ => ?_) (fun h_ => ?_))) <;> first | (exfalso; revert h_; decide; done) | (exact absurd rfl h_) | (have hz_ := True.intro; clear hz_; ((conv=>whnf)<;>repeat(with_reducible refine D1 ?_)<;>conv=>whnf)))
   refine ⟨[], [], _, _, _, _, open_nil, t3, ?_⟩
   rintro r o' c' ⟨rfl, rfl, rfl⟩
   ((conv=>whnf)<;>repeat(with_reducible refine D1 ?_)<;>conv=>whnf)
   repeat ((first | (refine ⟨fun h_ => ?_, fun h_ => ?_⟩) | (refine nsplit (fun h_ => ?_) (fun h_ => ?_)) | (refine bsplit (fun h_ => ?_) (fun h_ => ?_))) <;> first | (exfalso; revert h_; decide; done) | (exact absurd rfl h_) | (have hz_ := True.intro; clear hz_; ((conv=>whnf)<;>repeat(with_reducible refine D1 ?_)<;>conv=>whnf)))
   refine ⟨[], [], _, _, _, _, end_nil, t3, ?_⟩
   rintro r o' c' ⟨rfl, rfl, rfl⟩
   ((conv=>whnf)<;>repeat(with_reducible refine D1 ?_)<;>conv=>whnf)
   repeat ((first | (refine ⟨fun h_ => ?_, fun h_ => ?_⟩) | (refine nsplit (fun h_ => ?_) (fun h_ => ?_)) | (refine bsplit (fun h_ => ?_) (fun h_ => ?_))) <;> first | (exfalso; revert h_; decide; done) | (exact absurd rfl h_) | (have hz_ := True.intro; clear hz_; ((conv=>whnf)<;>repeat(with_reducible refine D1 ?_)<;>conv=>whnf)))
   refine ⟨[], [], _, _, _, _, done_nil, t3, ?_⟩
   rintro r o' c' ⟨rfl, rfl, rfl⟩
   ((conv=>whnf)<;>repeat(with_reducible refine D1 ?_)<;>conv=>whnf)
   repeat ((first | (refine ⟨fun h_ => ?_, fun h_ => ?_⟩) | (refine nsplit (fun h_ => ?_) (fun h_ => ?_)) | (refine bsplit (fun h_ => ?_) (fun h_ => ?_))) <;> first | (exfalso; revert h_; decide; done) | (exact absurd rfl h_) | (have hz_ := True.intro; clear hz_; ((conv=>whnf)<;>repeat(with_reducible refine D1 ?_)<;>conv=>whnf)))
   refine ⟨[], [], _, _, _, _, low_nil, t3, ?_⟩
   rintro r o' c' ⟨rfl, rfl, rfl⟩
   ((conv=>whnf)<;>repeat(with_reducible refine D1 ?_)<;>conv=>whnf)
   repeat ((first | (refine ⟨fun h_ => ?_, fun h_ => ?_⟩) | (refine nsplit (fun h_ => ?_) (fun h_ => ?_)) | (refine bsplit (fun h_ => ?_) (fun h_ => ?_))) <;> first | (exfalso; revert h_; decide; done) | (exact absurd rfl h_) | (have hz_ := True.intro; clear hz_; ((conv=>whnf)<;>repeat(with_reducible refine D1 ?_)<;>conv=>whnf)))
   refine ⟨[], [], _, _, _, _, caught_nil, t3, ?_⟩
   rintro r o' c' ⟨rfl, rfl, rfl⟩
   ((conv=>whnf)<;>repeat(with_reducible refine D1 ?_)<;>conv=>whnf)
   repeat ((first | (refine ⟨fun h_ => ?_, fun h_ => ?_⟩) | (refine nsplit (fun h_ => ?_) (fun h_ => ?_)) | (refine bsplit (fun h_ => ?_) (fun h_ => ?_))) <;> first | (exfalso; revert h_; decide; done) | (exact absurd rfl h_) | (have hz_ := True.intro; clear hz_; ((conv=>whnf)<;>repeat(with_reducible refine D1 ?_)<;>conv=>whnf)))
   refine ⟨[], [], _, _, _, _, store_nil, t3, ?_⟩
   rintro r o' c' ⟨rfl, rfl, rfl⟩
   ((conv=>whnf)<;>repeat(with_reducible refine D1 ?_)<;>conv=>whnf)
   repeat ((first | (refine ⟨fun h_ => ?_, fun h_ => ?_⟩) | (refine nsplit (fun h_ => ?_) (fun h_ => ?_)) | (refine bsplit (fun h_ => ?_) (fun h_ => ?_))) <;> first | (exfalso; revert h_; decide; done) | (exact absurd rfl h_) | (have hz_ := True.intro; clear hz_; ((conv=>whnf)<;>repeat(with_reducible refine D1 ?_)<;>conv=>whnf)))
   refine ⟨[], [], _, _, _, _, awake_r, t3, ?_⟩
   rintro r o' c' ⟨rfl, rfl, rfl⟩
   ((conv=>whnf)<;>repeat(with_reducible refine D1 ?_)<;>conv=>whnf)
   exact ⟨[], [], [], .s (.bool true), [], ⟨.s Lz.rfl, .nil, rfl⟩, rfl⟩
 ·((conv=>whnf)<;>repeat(with_reducible refine D1 ?_)<;>conv=>whnf)
  refine ⟨[], [], _, _, _, _, awake_r, t3, ?_⟩
  rintro r o' c' ⟨rfl, rfl, rfl⟩
  ((conv=>whnf)<;>repeat(with_reducible refine D1 ?_)<;>conv=>whnf)
  exact ⟨[], [], [], .s (.bool true), [], ⟨.s Lz.rfl, .nil, rfl⟩, rfl⟩
end Go.M
namespace Go.M
open Go Go.Proofs
set_option maxRecDepth 1000000
theorem mixed0 : Tryz.prog.follows .mixedOrders = true := by kernel_rfl
theorem tabsB0 : tabsB tabs0 1 = true := by kernel_rfl
theorem awake23 : AwakeT Tryz.prog tabs0 5 := awakeT_of (n := 1) mixed0 tabsB0 (fs := [106]) (bs := []) (ps := []) (m := 100000) (k := 100000) (by kernel_rfl)
theorem orc0 (base B : Nat) : OrcOk Tryz.prog E0 base B := by
 refine orcX_ok tabsB0 (fun g hg => ?_) (fun base B => orcV_ok (fun g hg => ?_) (fun g its hi k hk => ?_) base B) base B
 ·simp only [List.mem_cons, List.not_mem_nil, or_false] at hg
  subst hg
  exact awake23
 ·simp at hg
 ·simp [look] at hi
end Go.M
namespace Go.M
open Go
def fieldsD (P : Program) (f : TypeId → DataW Unit → List Value → Bool) : List Field → List (DataW Unit) → Nat → List Value → Bool
 | [], _, _, vs => vs.isEmpty
 | x :: xs, d :: ds, o, vs => Nat.beq x.offset o && Nat.ble (P.cellsOf x.type) vs.length && f x.type d (vs.take (P.cellsOf x.type)) && fieldsD P f xs ds (o + P.cellsOf x.type) (vs.drop (P.cellsOf x.type))
 | _ :: _, [], _, _ => false
def repD (f : DataW Unit → List Value → Bool) (z : Nat) : Nat → List (DataW Unit) → List Value → Bool
 | 0, _, vs => vs.isEmpty
 | n + 1, d :: ds, vs => Nat.ble z vs.length && f d (vs.take z) && repD f z n ds (vs.drop z)
 | _ + 1, [], _ => false
def dB (P : Program) : Nat → TypeId → DataW Unit → List Value → Bool
 | 0, _, _, _ => false
 | n + 1, t, d, vs => match P.underlying t with
  | some .bool => (match d, vs with | .lit (.bool b), [.bool b'] => decide (b = b') | _, _ => false)
  | some (.int _) => (match d, vs with | .lit (.int k m), [.int k' m'] => decide (k = k') && decide (m = m') | _, _ => false)
  | some .string => (match d, vs with | .lit (.string l), [.string s] => decide (l = s.data.toList) | _, _ => false)
  | some (.struct fs) => (match d with | .agg ds => Nat.beq (P.cellsOf t) vs.length && fieldsD P (dB P n) fs.toList ds 0 vs | _ => false)
  | some (.array m e) => (match d with | .agg ds => Nat.beq (P.cellsOf t) vs.length && repD (dB P n e) (P.cellsOf e) m ds vs | _ => false)
  | _ => false
section
variable {P : Program}
theorem fields_d {f : TypeId → DataW Unit → List Value → Bool} {g : TypeId → DataW Unit → List Value → Prop} (hfg : ∀ t d vs cs, f t d vs = true → g t d cs → cs = vs) : ∀ {xs : List Field} {ds : List (DataW Unit)} {o : Nat} {vs cs : List Value},
 fieldsD P f xs ds o vs = true → cs.length = o + vs.length → (∀ (i : Nat) x d, xs[i]? = some x → ds[i]? = some d → g x.type d ((cs.drop x.offset).take (P.cellsOf x.type))) → cs.drop o = vs
 | [], ds, o, vs, cs, h, hl, _ => by
  simp only [fieldsD, List.isEmpty_iff] at h
  subst h
  rw [List.drop_of_length_le (by simp at hl; omega)]
 | x :: xs, [], o, vs, cs, h, hl, _ => by simp [fieldsD] at h
 | x :: xs, d :: ds, o, vs, cs, h, hl, hg => by
  simp only [fieldsD, Bool.and_eq_true, beq_iff, ble_iff] at h
  obtain ⟨⟨⟨h1, h2⟩, h3⟩, h4⟩ := h
  have k1 := hfg _ _ _ _ h3 (hg 0 x d rfl rfl)
  have k2 := fields_d hfg h4 (cs := cs) (by simp; omega) fun i y d' hy hd => hg (i + 1) y d' (by simpa using hy) (by simpa using hd)
  rw [← List.take_append_drop (P.cellsOf x.type) vs, ← k1, ← k2, h1, ← List.drop_drop, List.take_append_drop]
theorem rep_d {f : DataW Unit → List Value → Bool} {z : Nat} {g : DataW Unit → List Value → Prop} (hfg : ∀ d vs cs, f d vs = true → g d cs → cs = vs) : ∀ {n k : Nat} {ds : List (DataW Unit)} {vs cs : List Value},
 repD f z n ds vs = true → cs.length = k * z + vs.length → (∀ i d, i < n → ds[i]? = some d → g d ((cs.drop ((k + i) * z)).take z)) → cs.drop (k * z) = vs
 | 0, k, ds, vs, cs, h, hl, _ => by
  simp only [repD, List.isEmpty_iff] at h
  subst h
  rw [List.drop_of_length_le (by simp at hl; omega)]
 | n + 1, k, [], vs, cs, h, hl, hg => by simp [repD] at h
 | n + 1, k, d :: ds, vs, cs, h, hl, hg => by
  simp only [repD, Bool.and_eq_true, ble_iff] at h
  obtain ⟨⟨h1, h2⟩, h3⟩ := h
  have k1 := hfg _ _ _ h2 (hg 0 d (by omega) rfl)
  have k2 := rep_d (n := n) (k := k + 1) hfg h3 (cs := cs) (by simp [Nat.succ_mul]; omega) fun i d' hi hd => by
   have := hg (i + 1) d' (by omega) (by simpa using hd)
   rwa [show k + (i + 1) = k + 1 + i by omega] at this
  rw [Nat.add_zero] at k1
  rw [← List.take_append_drop z vs, ← k1, ← k2, Nat.succ_mul, ← List.drop_drop, List.take_append_drop]
theorem trod_cells {enc : TypeId × Value → Unit} {W : World} {base : Nat} {sp : Nat → Bool} {held : Bool} : ∀ (n : Nat) (t : TypeId) (d : DataW Unit) (vs : List Value), dB P n t d vs = true →
 ∀ (fuel : Nat) (cs : List Value) (p : List MemPlace), DataW.trod enc P W base sp held fuel t cs = some (d, p) → cs = vs := by
 intro n
 induction n with
 | zero => intro t d vs h; cases h
 | succ n ih =>
  intro t d vs h fuel cs p hr
  unfold dB at h
  split at h
  ·rename_i hu
   obtain ⟨b, rfl, e⟩ := DataW.trod_bool hu hr
   cases e
   split at h
   ·rename_i e
    cases e
    rw [of_decide_eq_true h]
   ·cases h
  ·rename_i k hu
   obtain ⟨m, rfl, e, _⟩ := DataW.trod_int hu hr
   cases e
   split at h
   ·rename_i e
    cases e
    simp only [Bool.and_eq_true] at h
    rw [of_decide_eq_true h.1, of_decide_eq_true h.2]
   ·cases h
  ·rename_i hu
   obtain ⟨s, rfl, e, _⟩ := DataW.trod_string hu hr
   cases e
   split at h
   ·rename_i s' e
    cases e
    have := of_decide_eq_true h
    have e2 : s.data = s'.data := Array.ext' this
    obtain ⟨a⟩ := s
    obtain ⟨b⟩ := s'
    simp only at e2
    rw [e2]
   ·cases h
  ·rename_i fs hu
   obtain ⟨xs, m, rfl, e, hl, hx, he⟩ := DataW.trod_struct hu hr
   cases e
   simp only [Bool.and_eq_true, beq_iff] at h
   obtain ⟨h1, h2⟩ := h
   have := fields_d (g := fun u d' l => ∃ q, DataW.trod enc P W base sp held m u l = some (d', q)) (fun u d' vs' cs' q1 ⟨q, hq⟩ => ih u d' vs' q1 m cs' q hq) h2 (cs := cs) (by omega) fun i x d' hi hd => by
    rw [he i x (by simpa using hi)]
    simp only [List.getElem?_map, Option.map_eq_some_iff] at hd
    obtain ⟨⟨d2, q⟩, hd, rfl⟩ := hd
    exact ⟨q, hd⟩
   simpa using this
  ·rename_i k e hu
   obtain ⟨xs, m, rfl, e', hl, hx, he⟩ := DataW.trod_array hu hr
   cases e'
   simp only [Bool.and_eq_true, beq_iff] at h
   obtain ⟨h1, h2⟩ := h
   have := rep_d (g := fun d' l => ∃ q, DataW.trod enc P W base sp held m e l = some (d', q)) (fun d' vs' cs' q1 ⟨q, hq⟩ => ih e d' vs' q1 m cs' q hq) (k := 0) h2 (cs := cs) (by omega) fun i d' hi hd => by
    rw [Nat.zero_add, he i hi]
    simp only [List.getElem?_map, Option.map_eq_some_iff] at hd
    obtain ⟨⟨d2, q⟩, hd, rfl⟩ := hd
    exact ⟨q, hd⟩
   simpa using this
  ·cases h
theorem laidVars_mem {W : World} : ∀ {laid : List (String × DataW Unit)} {ps : List MemPlace}, DataW.LaidVars P W laid ps → ∀ x ∈ laid, ∃ g t cs fuel p, P.globalNamed x.1 = some g ∧ (P.globals[g]?).map (·.type) = some t ∧ W.var? P x.1 = some cs ∧
      DataW.trod (fun _ => ()) P W 0 (fun _ => true) false fuel t cs.toList = some (x.2, p)
 | [], _, _, x, hx => by cases hx
 | y :: r, ps, ⟨g, t, cs, fuel, p, q, h1, h2, h3, h4, h5, _⟩, x, hx => by
  rcases List.mem_cons.1 hx with rfl | hx
  ·exact ⟨g, t, cs, fuel, p, h1, h2, h3, h4⟩
  ·exact laidVars_mem h5 x hx
def tabD (P : Program) (laid : List (String × DataW Unit)) (l : Tabs) : Bool := l.all fun p => laid.any fun x => (match P.globalNamed x.1 with | some g => Nat.beq g p.1 | none => false) && (match (P.globals[p.1]?).map (·.type) with | some t => dB P 100 t x.2 p.2 | none => false)
theorem laidT_of {laid : List (String × DataW Unit)} {l : Tabs} {W : World} (hB : tabD P laid l = true) (h : laidMet P laid W) : LaidT l W := by
 intro g vs hg
 obtain ⟨ps, hv, _⟩ := h
 have := List.all_eq_true.1 hB _ (look_mem hg)
 obtain ⟨x, hx, hc⟩ := List.any_eq_true.1 this
 obtain ⟨g', t, cs, fuel, p, h1, h2, h3, h4⟩ := laidVars_mem hv x hx
 rw [h1] at hc
 simp only [Bool.and_eq_true, beq_iff] at hc
 obtain ⟨rfl, hc⟩ := hc
 rw [h2] at hc
 have e := trod_cells 100 t x.2 vs hc fuel _ p h4
 unfold World.var? at h3
 rw [h1] at h3
 simp only [Option.bind_some] at h3
 split at h3
 ·rename_i c e' fr hh
  injection h3 with h3
  subst h3
  refine ⟨_, e', fr, hh, by rw [← e]; simp, fun i v hi => by rw [← e] at hi; simpa using hi⟩
 ·cases h3
end
end Go.M
